/- Parts. No condition. -/
import Derived.Test.YtlcceppoloaecaaGreatDoorKBE
set_option maxHeartbeats 8000000
set_option maxRecDepth 100000
set_option linter.unusedSimpArgs false
set_option linter.unusedVariables false
namespace Go.Proofs.YtlcceppoloaecaaGreatDoor
open IntKind (i64)
open Go.RowKit Go.MapKept
theorem Kp {rec:Nat->List ac->Int->Int->Int->(ac->ac->Option Int)->Option (List ac)}{n:Nat}  (Pm:∀ {n:Nat} {X:List ac} {a m b:Int} {cmp:ac->ac->Option Int} {v:Nat} {zr:FuncId} {zc:List AC} (zj:∀ (y0:ac) (y1:ac) (r:Int),cmp y0 y1=some r->PTz zr ([.agg (af y0),.agg (af y1)]++zc.map .one) (.val (.one (.int .i64 r)))) {r:List ac},rec n X a m b cmp=some r->RTz 277 [cz af 2 v X] [.one (.sl 0 v 0 n),.one (.c (.int .i64 a)),.one (.c (.int .i64 m)),.one (.c (.int .i64 b)),.one (.c (.fn zr zc))] [cz af 2 v r] (.tup [])){zd:(List ac)}{OX:Int}{Pi:Int}{OY:Int}{a_cmp:ac->ac->Option (Int)}{v:Nat}{r:List ac}{zr:FuncId}{zc:List AC}(zj:∀ (y0:ac) (y1:ac) (r:Int),a_cmp y0 y1=some r->PTz zr ([.agg (af y0),.agg (af y1)]++zc.map .one) (.val (.one (.int .i64 r))))(Vt:(decide ((i64.wrap (Pi-OX))=(1:Int)))=false)(Tz:(decide ((i64.wrap (OY-Pi))=(1:Int)))=false)(UU:(decide ((bM (i64.wrap (OX+OY)))<Pi))=true)(H:rf rec n zd OX Pi OY a_cmp=some r):RTz 277 [cz af 2 v zd] [.one (.sl 0 v 0 n),.one (.c (.int .i64 OX)),.one (.c (.int .i64 Pi)),.one (.c (.int .i64 OY)),.one (.c (.fn zr zc))] [cz af 2 v r] (.tup []):=by
 unfold rf at H;refine be am Tryz.func277 rfl rfl Tryz.ntmps277 m5 ?_;simp only[eL];obtain⟨QM,H⟩|⟨QM,H⟩:=aj H
 ·exact nomatch Vt.symm.trans QM
 obtain⟨QA,H⟩|⟨QA,H⟩:=aj H
 ·exact nomatch Tz.symm.trans QA
 obtain⟨UI,H⟩|⟨UI,H⟩:=aj H
 ·refine w8 ?_
  refine alM_ (λs:Int×Int=>match s with|(z6,Q3)=>[(0,.one (.sl 0 v 0 n)),(1,.one (.c (.int .i64 OX))),(2,.one (.c (.int .i64 Pi))),(3,.one (.c (.int .i64 OY))),(4,.one (.c (.fn zr zc))),(18,.one (.c (.int .i64 (bM (i64.wrap (OX+OY)))))),(19,.one (.c (.int .i64 (i64.wrap ((bM (i64.wrap (OX+OY)))+Pi))))),(20,.one (.c (.int .i64 z6))),(21,.one (.c (.int .i64 Q3))),(22,.one (.c (.int .i64 (i64.wrap ((i64.wrap ((bM (i64.wrap (OX+OY)))+Pi))-(1:Int))))))]) (λs=>match s with|(z6,Q3)=>[cz af 2 v zd]) H (λ_=>aqG _)
   (fm_ bE [] rfl bm ⟨aR _ _ _ _ _,t7⟩) ?_
  rintro⟨z6,Q3⟩ st5 Qp hk5;unfold jT at Qp;dsimp only at Qp ⊢;obtain⟨Yk,Qp⟩|⟨Yk,Qp⟩:=aj Qp
  ·obtain⟨g39,Qp⟩:=aL Qp
   obtain⟨g40,Qp⟩:=aL Qp;obtain⟨ZK,i41,Qp⟩:=ln Qp;obtain⟨g42,Qp⟩:=aL Qp;obtain⟨g43,Qp⟩:=aL Qp;obtain⟨UG,i44,Qp⟩:=ln Qp;obtain⟨W0,c45,Qp⟩:=bd_ Qp;replace c45:=zj _ _ _ c45;obtain⟨Yl,Qp⟩|⟨Yl,Qp⟩:=aj Qp
   ·cases Qp
    refine w8 ?_;exact⟨_,rfl,fm_ bE [] rfl bm ⟨aR _ _ _ _ _,t7⟩⟩
   cases Qp;refine w8 ?_;exact⟨_,rfl,fm_ bE [] rfl bm ⟨aR _ _ _ _ _,t7⟩⟩
  cases Qp;have Pg:jH zd OX Pi OY a_cmp n rec (.inl (z6,Q3))=some _:=hk5;unfold jH at Pg;dsimp only at Pg;obtain⟨Ym,Pg⟩|⟨Ym,Pg⟩:=aj Pg
  ·obtain⟨Yn,Pg⟩|⟨Yn,Pg⟩:=aj Pg
   ·obtain⟨Ug,c46,Pg⟩:=bd_ Pg
    replace c46:=vT (v:=v) (zc:=zc) zj c46;obtain⟨Yo,Pg⟩|⟨Yo,Pg⟩:=aj Pg
    ·obtain⟨V2,Pg⟩|⟨V2,Pg⟩:=aj Pg
     ·obtain⟨W2,c47,Pg⟩:=bd_ Pg
      replace c47:=Pm (v:=v) (zc:=zc) zj c47;obtain⟨Yp,Pg⟩|⟨Yp,Pg⟩:=aj Pg
      ·obtain⟨V3,Pg⟩|⟨V3,Pg⟩:=aj Pg
       ·obtain⟨ZL,c48,Pg⟩:=bd_ Pg
        replace c48:=Pm (v:=v) (zc:=zc) zj c48
        cases Pg;exact jp
       cases Pg;exact jp
      cases Pg;exact jp
     obtain⟨q_44,Pg⟩|⟨q_44,Pg⟩:=aj Pg
     ·obtain⟨Yq,Pg⟩|⟨Yq,Pg⟩:=aj Pg
      ·obtain⟨ZM,Z4,Pg⟩:=bd_ Pg
       replace Z4:=Pm (v:=v) (zc:=zc) zj Z4
       cases Pg;exact jp
      cases Pg;exact jp
     cases Pg;exact jp
    obtain⟨V4,Pg⟩|⟨V4,Pg⟩:=aj Pg
    ·obtain⟨q_48,Pg⟩|⟨q_48,Pg⟩:=aj Pg
     ·obtain⟨ZN,c50,Pg⟩:=bd_ Pg
      replace c50:=Pm (v:=v) (zc:=zc) zj c50
      cases Pg;exact jp
     cases Pg;exact jp
    cases Pg;exact jp
   obtain⟨q_50,Pg⟩|⟨q_50,Pg⟩:=aj Pg
   ·obtain⟨Yr,Pg⟩|⟨Yr,Pg⟩:=aj Pg
    ·obtain⟨W3,c51,Pg⟩:=bd_ Pg
     replace c51:=Pm (v:=v) (zc:=zc) zj c51;obtain⟨q_53,Pg⟩|⟨q_53,Pg⟩:=aj Pg
     ·obtain⟨q_54,Pg⟩|⟨q_54,Pg⟩:=aj Pg
      ·obtain⟨ZO,c52,Pg⟩:=bd_ Pg
       replace c52:=Pm (v:=v) (zc:=zc) zj c52
       cases Pg;exact jp
      cases Pg;exact jp
     cases Pg;exact jp
    obtain⟨q_56,Pg⟩|⟨q_56,Pg⟩:=aj Pg
    ·obtain⟨q_57,Pg⟩|⟨q_57,Pg⟩:=aj Pg
     ·obtain⟨ZP,c53,Pg⟩:=bd_ Pg
      replace c53:=Pm (v:=v) (zc:=zc) zj c53
      cases Pg;exact jp
     cases Pg;exact jp
    cases Pg;exact jp
   obtain⟨q_59,Pg⟩|⟨q_59,Pg⟩:=aj Pg
   ·obtain⟨Ys,Pg⟩|⟨Ys,Pg⟩:=aj Pg
    ·obtain⟨ZQ,c54,Pg⟩:=bd_ Pg
     replace c54:=Pm (v:=v) (zc:=zc) zj c54
     cases Pg;exact jp
    cases Pg;exact jp
   cases Pg;exact jp
  obtain⟨Yt,Pg⟩|⟨Yt,Pg⟩:=aj Pg
  ·obtain⟨q_63,Pg⟩|⟨q_63,Pg⟩:=aj Pg
   ·obtain⟨W4,c55,Pg⟩:=bd_ Pg
    replace c55:=Pm (v:=v) (zc:=zc) zj c55;obtain⟨Yu,Pg⟩|⟨Yu,Pg⟩:=aj Pg
    ·obtain⟨q_66,Pg⟩|⟨q_66,Pg⟩:=aj Pg
     ·obtain⟨ZR,c56,Pg⟩:=bd_ Pg
      replace c56:=Pm (v:=v) (zc:=zc) zj c56
      cases Pg;exact jp
     cases Pg;exact jp
    cases Pg;exact jp
   obtain⟨q_68,Pg⟩|⟨q_68,Pg⟩:=aj Pg
   ·obtain⟨Yv,Pg⟩|⟨Yv,Pg⟩:=aj Pg
    ·obtain⟨ZS,c57,Pg⟩:=bd_ Pg
     replace c57:=Pm (v:=v) (zc:=zc) zj c57
     cases Pg;exact jp
    cases Pg;exact jp
   cases Pg;exact jp
  obtain⟨q_71,Pg⟩|⟨q_71,Pg⟩:=aj Pg
  ·obtain⟨q_72,Pg⟩|⟨q_72,Pg⟩:=aj Pg
   ·obtain⟨ZT,c58,Pg⟩:=bd_ Pg
    replace c58:=Pm (v:=v) (zc:=zc) zj c58
    cases Pg;exact jp
   cases Pg;exact jp
  cases Pg;exact jp
 exact nomatch UU.symm.trans UI
