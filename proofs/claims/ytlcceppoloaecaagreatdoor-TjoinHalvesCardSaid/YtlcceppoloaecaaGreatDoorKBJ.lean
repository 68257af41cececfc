/- Parts. No condition. -/
import Derived.Test.YtlcceppoloaecaaGreatDoorKBH
set_option maxHeartbeats 8000000
set_option maxRecDepth 100000
set_option linter.unusedSimpArgs false
set_option linter.unusedVariables false
namespace Go.Proofs.YtlcceppoloaecaaGreatDoor
open IntKind (i64)
open Go.RowKit Go.MapKept
theorem OA {rec:Nat->List ac->Int->Int->Int->(ac->ac->Option Int)->Option (List ac)}{n:Nat}  (Pi:∀ {n:Nat} {X:List ac} {a m b:Int} {cmp:ac->ac->Option Int} {v:Nat} {zr:FuncId} {zc:List AC} (zj:∀ (y0:ac) (y1:ac) (r:Int),cmp y0 y1=some r->PTz zr ([.agg (af y0),.agg (af y1)]++zc.map .one) (.val (.one (.int .i64 r)))) {r:List ac},rec n X a m b cmp=some r->RTz 277 [cl af 2 v X] [.one (.sl 0 v 0 n),.one (.c (.int .i64 a)),.one (.c (.int .i64 m)),.one (.c (.int .i64 b)),.one (.c (.fn zr zc))] [cl af 2 v r] (.tup [])){zd:(List ac)}{OV:Int}{Pe:Int}{OW:Int}{a_cmp:ac->ac->Option (Int)}{v:Nat}{r:List ac}{zr:FuncId}{zc:List AC}(zj:∀ (y0:ac) (y1:ac) (r:Int),a_cmp y0 y1=some r->PTz zr ([.agg (af y0),.agg (af y1)]++zc.map .one) (.val (.one (.int .i64 r))))(U4:(decide ((i64.wrap (Pe-OV))=(1:Int)))=false)(SX:(decide ((i64.wrap (OW-Pe))=(1:Int)))=false)(Ut:(decide ((bL (i64.wrap (OV+OW)))<Pe))=true)(H:qz rec n zd OV Pe OW a_cmp=some r):RTz 277 [cl af 2 v zd] [.one (.sl 0 v 0 n),.one (.c (.int .i64 OV)),.one (.c (.int .i64 Pe)),.one (.c (.int .i64 OW)),.one (.c (.fn zr zc))] [cl af 2 v r] (.tup []):=by
 unfold qz at H;refine bo am Tryz.func277 rfl rfl Tryz.ntmps277 m5 ?_;simp only[ed];rcases aj H with⟨Qv,H⟩|⟨Qv,H⟩
 ·exact nomatch U4.symm.trans Qv
 rcases aj H with⟨Qk,H⟩|⟨Qk,H⟩
 ·exact nomatch SX.symm.trans Qk
 rcases aj H with⟨VF,H⟩|⟨VF,H⟩
 ·refine tJ ?_
  refine alM_ (fun s:Int×Int=>match s with|(z6,QK)=>[(0,.one (.sl 0 v 0 n)),(1,.one (.c (.int .i64 OV))),(2,.one (.c (.int .i64 Pe))),(3,.one (.c (.int .i64 OW))),(4,.one (.c (.fn zr zc))),(18,.one (.c (.int .i64 (bL (i64.wrap (OV+OW)))))),(19,.one (.c (.int .i64 (i64.wrap ((bL (i64.wrap (OV+OW)))+Pe))))),(20,.one (.c (.int .i64 z6))),(21,.one (.c (.int .i64 QK))),(22,.one (.c (.int .i64 (i64.wrap ((i64.wrap ((bL (i64.wrap (OV+OW)))+Pe))-(1:Int))))))]) (fun s=>match s with|(z6,QK)=>[cl af 2 v zd]) H (fun _=>aqo _)
   (fm_ bF [] rfl bn ⟨aR _ _ _ _ _,t7⟩) ?_
  rintro⟨z6,QK⟩ st5 QB hk5;unfold j7 at QB;dsimp only at QB ⊢;rcases aj QB with⟨XM,QB⟩|⟨XM,QB⟩
  ·obtain⟨g39,QB⟩:=aK QB
   obtain⟨g40,QB⟩:=aK QB;obtain⟨Zi,i41,QB⟩:=kn QB;obtain⟨g42,QB⟩:=aK QB;obtain⟨g43,QB⟩:=aK QB;obtain⟨Uf,i44,QB⟩:=kn QB;obtain⟨Ww,c45,QB⟩:=bd_ QB;replace c45:=zj _ _ _ c45;rcases aj QB with⟨XN,QB⟩|⟨XN,QB⟩
   ·cases QB
    refine tJ ?_;exact⟨_,rfl,fm_ bF [] rfl bn ⟨aR _ _ _ _ _,t7⟩⟩
   cases QB;refine tJ ?_;exact⟨_,rfl,fm_ bF [] rfl bn ⟨aR _ _ _ _ _,t7⟩⟩
  cases QB;have Pg:jG zd OV Pe OW a_cmp n rec (.inl (z6,QK))=some _:=hk5;unfold jG at Pg;dsimp only at Pg;rcases aj Pg with⟨XO,Pg⟩|⟨XO,Pg⟩
  ·rcases aj Pg with⟨XP,Pg⟩|⟨XP,Pg⟩
   ·obtain⟨TK,c46,Pg⟩:=bd_ Pg
    replace c46:=zm (v:=v) (zc:=zc) zj c46;rcases aj Pg with⟨XQ,Pg⟩|⟨XQ,Pg⟩
    ·rcases aj Pg with⟨VG,Pg⟩|⟨VG,Pg⟩
     ·obtain⟨Wy,c47,Pg⟩:=bd_ Pg
      replace c47:=Pi (v:=v) (zc:=zc) zj c47;rcases aj Pg with⟨XR,Pg⟩|⟨XR,Pg⟩
      ·rcases aj Pg with⟨XS,Pg⟩|⟨XS,Pg⟩
       ·obtain⟨Zj,c48,Pg⟩:=bd_ Pg
        replace c48:=Pi (v:=v) (zc:=zc) zj c48
        cases Pg;exact iw
       cases Pg;exact iw
      cases Pg;exact iw
     rcases aj Pg with⟨q_44,Pg⟩|⟨q_44,Pg⟩
     ·rcases aj Pg with⟨XT,Pg⟩|⟨XT,Pg⟩
      ·obtain⟨Zk,c49,Pg⟩:=bd_ Pg
       replace c49:=Pi (v:=v) (zc:=zc) zj c49
       cases Pg;exact iw
      cases Pg;exact iw
     cases Pg;exact iw
    rcases aj Pg with⟨XU,Pg⟩|⟨XU,Pg⟩
    ·rcases aj Pg with⟨q_48,Pg⟩|⟨q_48,Pg⟩
     ·obtain⟨Zl,c50,Pg⟩:=bd_ Pg
      replace c50:=Pi (v:=v) (zc:=zc) zj c50
      cases Pg;exact iw
     cases Pg;exact iw
    cases Pg;exact iw
   rcases aj Pg with⟨q_50,Pg⟩|⟨q_50,Pg⟩
   ·rcases aj Pg with⟨XV,Pg⟩|⟨XV,Pg⟩
    ·obtain⟨Wz,c51,Pg⟩:=bd_ Pg
     replace c51:=Pi (v:=v) (zc:=zc) zj c51;rcases aj Pg with⟨q_53,Pg⟩|⟨q_53,Pg⟩
     ·rcases aj Pg with⟨q_54,Pg⟩|⟨q_54,Pg⟩
      ·obtain⟨Zm,c52,Pg⟩:=bd_ Pg
       replace c52:=Pi (v:=v) (zc:=zc) zj c52
       cases Pg;exact iw
      cases Pg;exact iw
     cases Pg;exact iw
    rcases aj Pg with⟨q_56,Pg⟩|⟨q_56,Pg⟩
    ·rcases aj Pg with⟨q_57,Pg⟩|⟨q_57,Pg⟩
     ·obtain⟨Zn,c53,Pg⟩:=bd_ Pg
      replace c53:=Pi (v:=v) (zc:=zc) zj c53
      cases Pg;exact iw
     cases Pg;exact iw
    cases Pg;exact iw
   rcases aj Pg with⟨q_59,Pg⟩|⟨q_59,Pg⟩
   ·rcases aj Pg with⟨q_60,Pg⟩|⟨q_60,Pg⟩
    ·obtain⟨Zo,c54,Pg⟩:=bd_ Pg
     replace c54:=Pi (v:=v) (zc:=zc) zj c54
     cases Pg;exact iw
    cases Pg;exact iw
   cases Pg;exact iw
  rcases aj Pg with⟨q_62,Pg⟩|⟨q_62,Pg⟩
  ·rcases aj Pg with⟨q_63,Pg⟩|⟨q_63,Pg⟩
   ·obtain⟨WA,c55,Pg⟩:=bd_ Pg
    replace c55:=Pi (v:=v) (zc:=zc) zj c55;rcases aj Pg with⟨q_65,Pg⟩|⟨q_65,Pg⟩
    ·rcases aj Pg with⟨q_66,Pg⟩|⟨q_66,Pg⟩
     ·obtain⟨Zp,c56,Pg⟩:=bd_ Pg
      replace c56:=Pi (v:=v) (zc:=zc) zj c56
      cases Pg;exact iw
     cases Pg;exact iw
    cases Pg;exact iw
   rcases aj Pg with⟨q_68,Pg⟩|⟨q_68,Pg⟩
   ·rcases aj Pg with⟨q_69,Pg⟩|⟨q_69,Pg⟩
    ·obtain⟨Zq,c57,Pg⟩:=bd_ Pg
     replace c57:=Pi (v:=v) (zc:=zc) zj c57
     cases Pg;exact iw
    cases Pg;exact iw
   cases Pg;exact iw
  rcases aj Pg with⟨q_71,Pg⟩|⟨q_71,Pg⟩
  ·rcases aj Pg with⟨q_72,Pg⟩|⟨q_72,Pg⟩
   ·obtain⟨Zr,c58,Pg⟩:=bd_ Pg
    replace c58:=Pi (v:=v) (zc:=zc) zj c58
    cases Pg;exact iw
   cases Pg;exact iw
  cases Pg;exact iw
 exact nomatch Ut.symm.trans VF
