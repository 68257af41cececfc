/- Parts. No condition. -/
import Derived.Test.YtlcceppoloaecaaGreatDoorXZA
set_option maxHeartbeats 8000000
set_option maxRecDepth 100000
set_option linter.unusedSimpArgs false
set_option linter.unusedVariables false
namespace Go.Proofs.YtlcceppoloaecaaGreatDoor
open IntKind (i64)
open Go.RowKit Go.MapKept
theorem acI {rec:Nat->List ac->Int->Int->Int->(ac->ac->Option Int)->Option (List ac)}{n:Nat}  (O_:∀ {n:Nat} {X:List ac} {a m b:Int} {cmp:ac->ac->Option Int} {v:Nat} {zr:FuncId} {zc:List AC} (zj:∀ (y0:ac) (y1:ac) (r:Int),cmp y0 y1=some r->PTz zr ([.agg (af y0),.agg (af y1)]++zc.map .one) (.val (.one (.int .i64 r)))) {r:List ac},rec n X a m b cmp=some r->RTz 277 [ct af 2 v X] [.one (.sl 0 v 0 n),.one (.c (.int .i64 a)),.one (.c (.int .i64 m)),.one (.c (.int .i64 b)),.one (.c (.fn zr zc))] [ct af 2 v r] (.tup [])){zd:(List ac)}{OW:Int}{O6:Int}{OX:Int}{a_cmp:ac->ac->Option (Int)}{v:Nat}{r:List ac}{zr:FuncId}{zc:List AC}(zj:∀ (y0:ac) (y1:ac) (r:Int),a_cmp y0 y1=some r->PTz zr ([.agg (af y0),.agg (af y1)]++zc.map .one) (.val (.one (.int .i64 r))))(UI:(decide ((i64.wrap (O6-OW))=(1:Int)))=false)(SA:(decide ((i64.wrap (OX-O6))=(1:Int)))=false)(T9:(decide ((bN (i64.wrap (OW+OX)))<O6))=false)(H:rk rec n zd OW O6 OX a_cmp=some r):RTz 277 [ct af 2 v zd] [.one (.sl 0 v 0 n),.one (.c (.int .i64 OW)),.one (.c (.int .i64 O6)),.one (.c (.int .i64 OX)),.one (.c (.fn zr zc))] [ct af 2 v r] (.tup []):=by
 unfold rk at H;refine bo am Tryz.func277 rfl rfl Tryz.ntmps277 m5 ?_;simp only[eI];rcases aj H with⟨RE,H⟩|⟨RE,H⟩
 ·exact nomatch UI.symm.trans RE
 rcases aj H with⟨Qh,H⟩|⟨Qh,H⟩
 ·exact nomatch SA.symm.trans Qh
 rcases aj H with⟨Vi,H⟩|⟨Vi,H⟩
 ·exact nomatch T9.symm.trans Vi
 refine uo ?_;refine alM_ (fun s:Int×Int=>match s with|(z7,QI)=>[(0,.one (.sl 0 v 0 n)),(1,.one (.c (.int .i64 OW))),(2,.one (.c (.int .i64 O6))),(3,.one (.c (.int .i64 OX))),(4,.one (.c (.fn zr zc))),(18,.one (.c (.int .i64 (bN (i64.wrap (OW+OX)))))),(19,.one (.c (.int .i64 (i64.wrap ((bN (i64.wrap (OW+OX)))+O6))))),(20,.one (.c (.int .i64 z7))),(21,.one (.c (.int .i64 QI))),(22,.one (.c (.int .i64 (i64.wrap ((i64.wrap ((bN (i64.wrap (OW+OX)))+O6))-(1:Int))))))]) (fun s=>match s with|(z7,QI)=>[ct af 2 v zd]) H (fun _=>aro _)
  (fm_ bG [] rfl a8 ⟨aR _ _ _ _ _,t7⟩) ?_
 rintro⟨z7,QI⟩ st6 RH hk6;unfold xn at RH;dsimp only at RH ⊢;rcases aj RH with⟨q_76,RH⟩|⟨q_76,RH⟩
 ·obtain⟨g59,RH⟩:=aK RH
  obtain⟨g60,RH⟩:=aK RH;obtain⟨Y4,i61,RH⟩:=kK RH;obtain⟨g62,RH⟩:=aK RH;obtain⟨g63,RH⟩:=aK RH;obtain⟨Y5,i64,RH⟩:=kK RH;obtain⟨Y6,c65,RH⟩:=bd_ RH;replace c65:=zj _ _ _ c65;rcases aj RH with⟨q_80,RH⟩|⟨q_80,RH⟩
  ·cases RH
   refine uo ?_;exact⟨_,rfl,fm_ bG [] rfl a8 ⟨aR _ _ _ _ _,t7⟩⟩
  cases RH;refine uo ?_;exact⟨_,rfl,fm_ bG [] rfl a8 ⟨aR _ _ _ _ _,t7⟩⟩
 cases RH;have O8:sX zd OW O6 OX a_cmp n rec (.inl (z7,QI))=some _:=hk6;unfold sX at O8;dsimp only at O8;rcases aj O8 with⟨q_81,O8⟩|⟨q_81,O8⟩
 ·rcases aj O8 with⟨q_82,O8⟩|⟨q_82,O8⟩
  ·obtain⟨Ta,c66,O8⟩:=bd_ O8
   replace c66:=zB (v:=v) (zc:=zc) zj c66;rcases aj O8 with⟨q_84,O8⟩|⟨q_84,O8⟩
   ·rcases aj O8 with⟨q_85,O8⟩|⟨q_85,O8⟩
    ·obtain⟨Wb,c67,O8⟩:=bd_ O8
     replace c67:=O_ (v:=v) (zc:=zc) zj c67;rcases aj O8 with⟨q_87,O8⟩|⟨q_87,O8⟩
     ·rcases aj O8 with⟨q_88,O8⟩|⟨q_88,O8⟩
      ·obtain⟨Y7,c68,O8⟩:=bd_ O8
       replace c68:=O_ (v:=v) (zc:=zc) zj c68
       cases O8;exact iR
      cases O8;exact iR
     cases O8;exact iR
    rcases aj O8 with⟨q_90,O8⟩|⟨q_90,O8⟩
    ·rcases aj O8 with⟨q_91,O8⟩|⟨q_91,O8⟩
     ·obtain⟨Y8,c69,O8⟩:=bd_ O8
      replace c69:=O_ (v:=v) (zc:=zc) zj c69
      cases O8;exact iR
     cases O8;exact iR
    cases O8;exact iR
   rcases aj O8 with⟨q_93,O8⟩|⟨q_93,O8⟩
   ·rcases aj O8 with⟨q_94,O8⟩|⟨q_94,O8⟩
    ·obtain⟨Y9,c70,O8⟩:=bd_ O8
     replace c70:=O_ (v:=v) (zc:=zc) zj c70
     cases O8;exact iR
    cases O8;exact iR
   cases O8;exact iR
  rcases aj O8 with⟨q_96,O8⟩|⟨q_96,O8⟩
  ·rcases aj O8 with⟨q_97,O8⟩|⟨q_97,O8⟩
   ·obtain⟨Wc,c71,O8⟩:=bd_ O8
    replace c71:=O_ (v:=v) (zc:=zc) zj c71;rcases aj O8 with⟨q_99,O8⟩|⟨q_99,O8⟩
    ·rcases aj O8 with⟨Zd,O8⟩|⟨Zd,O8⟩
     ·obtain⟨WP,c72,O8⟩:=bd_ O8
      replace c72:=O_ (v:=v) (zc:=zc) zj c72
      cases O8;exact iR
     cases O8;exact iR
    cases O8;exact iR
   rcases aj O8 with⟨Ze,O8⟩|⟨Ze,O8⟩
   ·rcases aj O8 with⟨Zf,O8⟩|⟨Zf,O8⟩
    ·obtain⟨WQ,c73,O8⟩:=bd_ O8
     replace c73:=O_ (v:=v) (zc:=zc) zj c73
     cases O8;exact iR
    cases O8;exact iR
   cases O8;exact iR
  rcases aj O8 with⟨Zg,O8⟩|⟨Zg,O8⟩
  ·rcases aj O8 with⟨Zh,O8⟩|⟨Zh,O8⟩
   ·obtain⟨WR,c74,O8⟩:=bd_ O8
    replace c74:=O_ (v:=v) (zc:=zc) zj c74
    cases O8;exact iR
   cases O8;exact iR
  cases O8;exact iR
 rcases aj O8 with⟨Zi,O8⟩|⟨Zi,O8⟩
 ·rcases aj O8 with⟨Zj,O8⟩|⟨Zj,O8⟩
  ·obtain⟨Uf,c75,O8⟩:=bd_ O8
   replace c75:=O_ (v:=v) (zc:=zc) zj c75;rcases aj O8 with⟨Zk,O8⟩|⟨Zk,O8⟩
   ·rcases aj O8 with⟨Zl,O8⟩|⟨Zl,O8⟩
    ·obtain⟨WS,c76,O8⟩:=bd_ O8
     replace c76:=O_ (v:=v) (zc:=zc) zj c76
     cases O8;exact iR
    cases O8;exact iR
   cases O8;exact iR
  rcases aj O8 with⟨Zm,O8⟩|⟨Zm,O8⟩
  ·rcases aj O8 with⟨Zn,O8⟩|⟨Zn,O8⟩
   ·obtain⟨WU,c77,O8⟩:=bd_ O8
    replace c77:=O_ (v:=v) (zc:=zc) zj c77
    cases O8;exact iR
   cases O8;exact iR
  cases O8;exact iR
 rcases aj O8 with⟨Zo,O8⟩|⟨Zo,O8⟩
 ·rcases aj O8 with⟨Zp,O8⟩|⟨Zp,O8⟩
  ·obtain⟨WV,c78,O8⟩:=bd_ O8
   replace c78:=O_ (v:=v) (zc:=zc) zj c78
   cases O8;exact iR
  cases O8;exact iR
 cases O8;exact iR
end Go.Proofs.YtlcceppoloaecaaGreatDoor
