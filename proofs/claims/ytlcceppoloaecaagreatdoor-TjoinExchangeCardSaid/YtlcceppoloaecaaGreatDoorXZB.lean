/- Parts. No condition. -/
import Derived.Test.YtlcceppoloaecaaGreatDoorXZA
set_option maxHeartbeats 8000000
set_option maxRecDepth 100000
set_option linter.unusedSimpArgs false
set_option linter.unusedVariables false
namespace Go.Proofs.YtlcceppoloaecaaGreatDoor
open IntKind (i64)
open Go.RowKit Go.MapKept
theorem aaA {rec:Nat->List ac->Int->Int->Int->(ac->ac->Option Int)->Option (List ac)}{n:Nat}  (O_:∀ {n:Nat} {X:List ac} {a m b:Int} {cmp:ac->ac->Option Int} {v:Nat} {zr:FuncId} {zc:List AC} (zj:∀ (y0:ac) (y1:ac) (r:Int),cmp y0 y1=some r->PTz zr ([.agg (af y0),.agg (af y1)]++zc.map .one) (.val (.one (.int .i64 r)))) {r:List ac},rec n X a m b cmp=some r->RTz 277 [ct af 2 v X] [.one (.sl 0 v 0 n),.one (.c (.int .i64 a)),.one (.c (.int .i64 m)),.one (.c (.int .i64 b)),.one (.c (.fn zr zc))] [ct af 2 v r] (.tup [])){zd:(List ac)}{OW:Int}{O6:Int}{OX:Int}{a_cmp:ac->ac->Option (Int)}{v:Nat}{r:List ac}{zr:FuncId}{zc:List AC}(zj:∀ (y0:ac) (y1:ac) (r:Int),a_cmp y0 y1=some r->PTz zr ([.agg (af y0),.agg (af y1)]++zc.map .one) (.val (.one (.int .i64 r))))(UI:(decide ((i64.wrap (O6-OW))=(1:Int)))=false)(SA:(decide ((i64.wrap (OX-O6))=(1:Int)))=false)(T9:(decide ((bN (i64.wrap (OW+OX)))<O6))=true)(H:rk rec n zd OW O6 OX a_cmp=some r):RTz 277 [ct af 2 v zd] [.one (.sl 0 v 0 n),.one (.c (.int .i64 OW)),.one (.c (.int .i64 O6)),.one (.c (.int .i64 OX)),.one (.c (.fn zr zc))] [ct af 2 v r] (.tup []):=by
 unfold rk at H;refine bo am Tryz.func277 rfl rfl Tryz.ntmps277 m5 ?_;simp only[eI];rcases aj H with⟨RE,H⟩|⟨RE,H⟩
 ·exact nomatch UI.symm.trans RE
 rcases aj H with⟨Qh,H⟩|⟨Qh,H⟩
 ·exact nomatch SA.symm.trans Qh
 rcases aj H with⟨Vi,H⟩|⟨Vi,H⟩
 ·refine uo ?_
  refine alM_ (fun s:Int×Int=>match s with|(z6,Qx)=>[(0,.one (.sl 0 v 0 n)),(1,.one (.c (.int .i64 OW))),(2,.one (.c (.int .i64 O6))),(3,.one (.c (.int .i64 OX))),(4,.one (.c (.fn zr zc))),(18,.one (.c (.int .i64 (bN (i64.wrap (OW+OX)))))),(19,.one (.c (.int .i64 (i64.wrap ((bN (i64.wrap (OW+OX)))+O6))))),(20,.one (.c (.int .i64 z6))),(21,.one (.c (.int .i64 Qx))),(22,.one (.c (.int .i64 (i64.wrap ((i64.wrap ((bN (i64.wrap (OW+OX)))+O6))-(1:Int))))))]) (fun s=>match s with|(z6,Qx)=>[ct af 2 v zd]) H (fun _=>aro _)
   (fm_ bG [] rfl a8 ⟨aR _ _ _ _ _,t7⟩) ?_
  rintro⟨z6,Qx⟩ st5 P_ hk5;unfold j7 at P_;dsimp only at P_ ⊢;rcases aj P_ with⟨Xx,P_⟩|⟨Xx,P_⟩
  ·obtain⟨g39,P_⟩:=aK P_
   obtain⟨g40,P_⟩:=aK P_;obtain⟨YU,i41,P_⟩:=kK P_;obtain⟨g42,P_⟩:=aK P_;obtain⟨g43,P_⟩:=aK P_;obtain⟨TQ,i44,P_⟩:=kK P_;obtain⟨V8,c45,P_⟩:=bd_ P_;replace c45:=zj _ _ _ c45;rcases aj P_ with⟨Xy,P_⟩|⟨Xy,P_⟩
   ·cases P_
    refine uo ?_;exact⟨_,rfl,fm_ bG [] rfl a8 ⟨aR _ _ _ _ _,t7⟩⟩
   cases P_;refine uo ?_;exact⟨_,rfl,fm_ bG [] rfl a8 ⟨aR _ _ _ _ _,t7⟩⟩
  cases P_;have O5:kn zd OW O6 OX a_cmp n rec (.inl (z6,Qx))=some _:=hk5;unfold kn at O5;dsimp only at O5;rcases aj O5 with⟨Xz,O5⟩|⟨Xz,O5⟩
  ·rcases aj O5 with⟨XA,O5⟩|⟨XA,O5⟩
   ·obtain⟨S_,c46,O5⟩:=bd_ O5
    replace c46:=zB (v:=v) (zc:=zc) zj c46;rcases aj O5 with⟨XB,O5⟩|⟨XB,O5⟩
    ·rcases aj O5 with⟨Vj,O5⟩|⟨Vj,O5⟩
     ·obtain⟨V9,c47,O5⟩:=bd_ O5
      replace c47:=O_ (v:=v) (zc:=zc) zj c47;rcases aj O5 with⟨XC,O5⟩|⟨XC,O5⟩
      ·rcases aj O5 with⟨XD,O5⟩|⟨XD,O5⟩
       ·obtain⟨YV,c48,O5⟩:=bd_ O5
        replace c48:=O_ (v:=v) (zc:=zc) zj c48
        cases O5;exact iR
       cases O5;exact iR
      cases O5;exact iR
     rcases aj O5 with⟨q_44,O5⟩|⟨q_44,O5⟩
     ·rcases aj O5 with⟨XE,O5⟩|⟨XE,O5⟩
      ·obtain⟨YW,c49,O5⟩:=bd_ O5
       replace c49:=O_ (v:=v) (zc:=zc) zj c49
       cases O5;exact iR
      cases O5;exact iR
     cases O5;exact iR
    rcases aj O5 with⟨XF,O5⟩|⟨XF,O5⟩
    ·rcases aj O5 with⟨q_48,O5⟩|⟨q_48,O5⟩
     ·obtain⟨YX,c50,O5⟩:=bd_ O5
      replace c50:=O_ (v:=v) (zc:=zc) zj c50
      cases O5;exact iR
     cases O5;exact iR
    cases O5;exact iR
   rcases aj O5 with⟨q_50,O5⟩|⟨q_50,O5⟩
   ·rcases aj O5 with⟨XG,O5⟩|⟨XG,O5⟩
    ·obtain⟨V_,c51,O5⟩:=bd_ O5
     replace c51:=O_ (v:=v) (zc:=zc) zj c51;rcases aj O5 with⟨q_53,O5⟩|⟨q_53,O5⟩
     ·rcases aj O5 with⟨q_54,O5⟩|⟨q_54,O5⟩
      ·obtain⟨YY,c52,O5⟩:=bd_ O5
       replace c52:=O_ (v:=v) (zc:=zc) zj c52
       cases O5;exact iR
      cases O5;exact iR
     cases O5;exact iR
    rcases aj O5 with⟨q_56,O5⟩|⟨q_56,O5⟩
    ·rcases aj O5 with⟨q_57,O5⟩|⟨q_57,O5⟩
     ·obtain⟨YZ,c53,O5⟩:=bd_ O5
      replace c53:=O_ (v:=v) (zc:=zc) zj c53
      cases O5;exact iR
     cases O5;exact iR
    cases O5;exact iR
   rcases aj O5 with⟨q_59,O5⟩|⟨q_59,O5⟩
   ·rcases aj O5 with⟨q_60,O5⟩|⟨q_60,O5⟩
    ·obtain⟨Y0,c54,O5⟩:=bd_ O5
     replace c54:=O_ (v:=v) (zc:=zc) zj c54
     cases O5;exact iR
    cases O5;exact iR
   cases O5;exact iR
  rcases aj O5 with⟨q_62,O5⟩|⟨q_62,O5⟩
  ·rcases aj O5 with⟨q_63,O5⟩|⟨q_63,O5⟩
   ·obtain⟨Wa,c55,O5⟩:=bd_ O5
    replace c55:=O_ (v:=v) (zc:=zc) zj c55;rcases aj O5 with⟨q_65,O5⟩|⟨q_65,O5⟩
    ·rcases aj O5 with⟨q_66,O5⟩|⟨q_66,O5⟩
     ·obtain⟨Y1,c56,O5⟩:=bd_ O5
      replace c56:=O_ (v:=v) (zc:=zc) zj c56
      cases O5;exact iR
     cases O5;exact iR
    cases O5;exact iR
   rcases aj O5 with⟨q_68,O5⟩|⟨q_68,O5⟩
   ·rcases aj O5 with⟨q_69,O5⟩|⟨q_69,O5⟩
    ·obtain⟨Y2,c57,O5⟩:=bd_ O5
     replace c57:=O_ (v:=v) (zc:=zc) zj c57
     cases O5;exact iR
    cases O5;exact iR
   cases O5;exact iR
  rcases aj O5 with⟨q_71,O5⟩|⟨q_71,O5⟩
  ·rcases aj O5 with⟨q_72,O5⟩|⟨q_72,O5⟩
   ·obtain⟨Y3,c58,O5⟩:=bd_ O5
    replace c58:=O_ (v:=v) (zc:=zc) zj c58
    cases O5;exact iR
   cases O5;exact iR
  cases O5;exact iR
 exact nomatch T9.symm.trans Vi
end Go.Proofs.YtlcceppoloaecaaGreatDoor
