/- Parts. No condition. -/
import Derived.Test.YtnbnpnmkgemdeaaGreatDoorKAQ
set_option maxHeartbeats 8000000
set_option maxRecDepth 100000
set_option linter.unusedSimpArgs false
set_option linter.unusedVariables false
namespace Go.Proofs.YtnbnpnmkgemdeaaGreatDoor
open IntKind (i64)
open Go.RowKit Go.MapKept
theorem Ko {rec:Nat->List (List Val)->Int->Int->Int->((List Val)->(List Val)->Option Int)->Option (List (List Val))}{n:Nat}  (Pq:∀ {n:Nat} {X:List (List Val)} {a m b:Int} {cmp:(List Val)->(List Val)->Option Int} {v:Nat} {zr:FuncId} {zc:List AC} (zj:∀ (y0:(List Val)) (y1:(List Val)) (r:Int),cmp y0 y1=some r->PTz zr ([.one (.lst (y0.map cV)),.one (.lst (y1.map cV))]++zc.map .one) (.val (.one (.int .i64 r)))) {r:List (List Val)},rec n X a m b cmp=some r->RTz 202 [cc (λx=>[AC.lst (x.map cV)]) 1 v X] [.one (.sl 0 v 0 n),.one (.c (.int .i64 a)),.one (.c (.int .i64 m)),.one (.c (.int .i64 b)),.one (.c (.fn zr zc))] [cc (λx=>[AC.lst (x.map cV)]) 1 v r] (.tup [])){zd:(List (List Val))}{O7:Int}{RD:Int}{O4:Int}{a_cmp:(List Val)->(List Val)->Option (Int)}{v:Nat}{r:List (List Val)}{zr:FuncId}{zc:List AC}(zj:∀ (y0:(List Val)) (y1:(List Val)) (r:Int),a_cmp y0 y1=some r->PTz zr ([.one (.lst (y0.map cV)),.one (.lst (y1.map cV))]++zc.map .one) (.val (.one (.int .i64 r))))(Wl:(decide ((i64.wrap (RD-O7))=(1:Int)))=false)(VN:(decide ((i64.wrap (O4-RD))=(1:Int)))=false)(Vn:(decide ((bL (i64.wrap (O7+O4)))<RD))=false)(H:oV rec n zd O7 RD O4 a_cmp=some r):RTz 202 [cc (λx=>[AC.lst (x.map cV)]) 1 v zd] [.one (.sl 0 v 0 n),.one (.c (.int .i64 O7)),.one (.c (.int .i64 RD)),.one (.c (.int .i64 O4)),.one (.c (.fn zr zc))] [cc (λx=>[AC.lst (x.map cV)]) 1 v r] (.tup []):=by
 unfold oV at H;refine bB aj Tryz.func202 rfl rfl Tryz.ntmps202 m5 ?_;simp only[gp];obtain⟨PT,H⟩|⟨PT,H⟩:=ae H
 .exact nomatch Wl.symm.trans PT
 obtain⟨P9,H⟩|⟨P9,H⟩:=ae H
 .exact nomatch VN.symm.trans P9
 obtain⟨U_,H⟩|⟨U_,H⟩:=ae H
 .exact nomatch Vn.symm.trans U_
 refine sg ?_;refine alM_ (λs:Int×Int=>match s with|(z7,XP)=>[(0,.one (.sl 0 v 0 n)),(1,.one (.c (.int .i64 O7))),(2,.one (.c (.int .i64 RD))),(3,.one (.c (.int .i64 O4))),(4,.one (.c (.fn zr zc))),(18,.one (.c (.int .i64 (bL (i64.wrap (O7+O4)))))),(19,.one (.c (.int .i64 (i64.wrap ((bL (i64.wrap (O7+O4)))+RD))))),(20,.one (.c (.int .i64 z7))),(21,.one (.c (.int .i64 XP))),(22,.one (.c (.int .i64 (i64.wrap ((i64.wrap ((bL (i64.wrap (O7+O4)))+RD))-(1:Int))))))]) (λs=>match s with|(z7,XP)=>[cc (λx=>[AC.lst (x.map cV)]) 1 v zd]) H (λ_=>ah7 _)
  (fm_ bg [] rfl aQ ⟨aM _ _ _ _ _,t7⟩) ?_
 rintro⟨z7,XP⟩ st6 Si hk6;unfold uE at Si;dsimp only at Si ⊢;obtain⟨q_76,Si⟩|⟨q_76,Si⟩:=ae Si
 .obtain⟨g59,Si⟩:=aq Si
  obtain⟨g60,Si⟩:=aq Si;obtain⟨x_77,i61,Si⟩:=jJ Si;obtain⟨g62,Si⟩:=aq Si;obtain⟨g63,Si⟩:=aq Si;obtain⟨x_78,i64,Si⟩:=jJ Si;obtain⟨r_79,c65,Si⟩:=bd_ Si;replace c65:=zj _ _ _ c65;obtain⟨q_80,Si⟩|⟨q_80,Si⟩:=ae Si
  .cases Si
   refine sg ?_;exact⟨_,rfl,fm_ bg [] rfl aQ ⟨aM _ _ _ _ _,t7⟩⟩
  cases Si;refine sg ?_;exact⟨_,rfl,fm_ bg [] rfl aQ ⟨aM _ _ _ _ _,t7⟩⟩
 cases Si;have PI:pv zd O7 RD O4 a_cmp n rec (.inl (z7,XP))=some _:=hk6;unfold pv at PI;dsimp only at PI;obtain⟨q_81,PI⟩|⟨q_81,PI⟩:=ae PI
 .obtain⟨q_82,PI⟩|⟨q_82,PI⟩:=ae PI
  .obtain⟨c_83,c66,PI⟩:=bd_ PI
   replace c66:=xq (v:=v) (zc:=zc) zj c66;obtain⟨q_84,PI⟩|⟨q_84,PI⟩:=ae PI
   .obtain⟨q_85,PI⟩|⟨q_85,PI⟩:=ae PI
    .obtain⟨c_86,c67,PI⟩:=bd_ PI
     replace c67:=Pq (v:=v) (zc:=zc) zj c67;obtain⟨q_87,PI⟩|⟨q_87,PI⟩:=ae PI
     .obtain⟨q_88,PI⟩|⟨q_88,PI⟩:=ae PI
      .obtain⟨c_89,c68,PI⟩:=bd_ PI
       replace c68:=Pq (v:=v) (zc:=zc) zj c68
       cases PI;exact gX
      cases PI;exact gX
     cases PI;exact gX
    obtain⟨q_90,PI⟩|⟨q_90,PI⟩:=ae PI
    .obtain⟨q_91,PI⟩|⟨q_91,PI⟩:=ae PI
     .obtain⟨c_92,c69,PI⟩:=bd_ PI
      replace c69:=Pq (v:=v) (zc:=zc) zj c69
      cases PI;exact gX
     cases PI;exact gX
    cases PI;exact gX
   obtain⟨q_93,PI⟩|⟨q_93,PI⟩:=ae PI
   .obtain⟨q_94,PI⟩|⟨q_94,PI⟩:=ae PI
    .obtain⟨c_95,c70,PI⟩:=bd_ PI
     replace c70:=Pq (v:=v) (zc:=zc) zj c70
     cases PI;exact gX
    cases PI;exact gX
   cases PI;exact gX
  obtain⟨q_96,PI⟩|⟨q_96,PI⟩:=ae PI
  .obtain⟨q_97,PI⟩|⟨q_97,PI⟩:=ae PI
   .obtain⟨c_98,c71,PI⟩:=bd_ PI
    replace c71:=Pq (v:=v) (zc:=zc) zj c71;obtain⟨q_99,PI⟩|⟨q_99,PI⟩:=ae PI
    .obtain⟨q_100,PI⟩|⟨q_100,PI⟩:=ae PI
     .obtain⟨c_101,c72,PI⟩:=bd_ PI
      replace c72:=Pq (v:=v) (zc:=zc) zj c72
      cases PI;exact gX
     cases PI;exact gX
    cases PI;exact gX
   obtain⟨q_102,PI⟩|⟨q_102,PI⟩:=ae PI
   .obtain⟨q_103,PI⟩|⟨q_103,PI⟩:=ae PI
    .obtain⟨c_104,c73,PI⟩:=bd_ PI
     replace c73:=Pq (v:=v) (zc:=zc) zj c73
     cases PI;exact gX
    cases PI;exact gX
   cases PI;exact gX
  obtain⟨q_105,PI⟩|⟨q_105,PI⟩:=ae PI
  .obtain⟨q_106,PI⟩|⟨q_106,PI⟩:=ae PI
   .obtain⟨c_107,c74,PI⟩:=bd_ PI
    replace c74:=Pq (v:=v) (zc:=zc) zj c74
    cases PI;exact gX
   cases PI;exact gX
  cases PI;exact gX
 obtain⟨q_108,PI⟩|⟨q_108,PI⟩:=ae PI
 .obtain⟨q_109,PI⟩|⟨q_109,PI⟩:=ae PI
  .obtain⟨c_110,c75,PI⟩:=bd_ PI
   replace c75:=Pq (v:=v) (zc:=zc) zj c75;obtain⟨q_111,PI⟩|⟨q_111,PI⟩:=ae PI
   .obtain⟨q_112,PI⟩|⟨q_112,PI⟩:=ae PI
    .obtain⟨c_113,c76,PI⟩:=bd_ PI
     replace c76:=Pq (v:=v) (zc:=zc) zj c76
     cases PI;exact gX
    cases PI;exact gX
   cases PI;exact gX
  obtain⟨q_114,PI⟩|⟨q_114,PI⟩:=ae PI
  .obtain⟨q_115,PI⟩|⟨q_115,PI⟩:=ae PI
   .obtain⟨c_116,c77,PI⟩:=bd_ PI
    replace c77:=Pq (v:=v) (zc:=zc) zj c77
    cases PI;exact gX
   cases PI;exact gX
  cases PI;exact gX
 obtain⟨q_117,PI⟩|⟨q_117,PI⟩:=ae PI
 .obtain⟨q_118,PI⟩|⟨q_118,PI⟩:=ae PI
  .obtain⟨c_119,c78,PI⟩:=bd_ PI
   replace c78:=Pq (v:=v) (zc:=zc) zj c78
   cases PI;exact gX
  cases PI;exact gX
 cases PI;exact gX
