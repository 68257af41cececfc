/- Parts. No condition. -/
import Derived.Test.YtnbnpnmkgemdeaaGreatDoorKAQ
set_option maxHeartbeats 8000000
set_option maxRecDepth 100000
set_option linter.unusedSimpArgs false
set_option linter.unusedVariables false
namespace Go.Proofs.YtnbnpnmkgemdeaaGreatDoor
open IntKind (i64)
open Go.RowKit Go.MapKept
theorem JO {rec:Nat->List (List Val)->Int->Int->Int->((List Val)->(List Val)->Option Int)->Option (List (List Val))}{n:Nat}  (Pq:∀ {n:Nat} {X:List (List Val)} {a m b:Int} {cmp:(List Val)->(List Val)->Option Int} {v:Nat} {zr:FuncId} {zc:List AC} (zj:∀ (y0:(List Val)) (y1:(List Val)) (r:Int),cmp y0 y1=some r->PTz zr ([.one (.lst (y0.map cV)),.one (.lst (y1.map cV))]++zc.map .one) (.val (.one (.int .i64 r)))) {r:List (List Val)},rec n X a m b cmp=some r->RTz 202 [cc (λx=>[AC.lst (x.map cV)]) 1 v X] [.one (.sl 0 v 0 n),.one (.c (.int .i64 a)),.one (.c (.int .i64 m)),.one (.c (.int .i64 b)),.one (.c (.fn zr zc))] [cc (λx=>[AC.lst (x.map cV)]) 1 v r] (.tup [])){zd:(List (List Val))}{O7:Int}{RD:Int}{O4:Int}{a_cmp:(List Val)->(List Val)->Option (Int)}{v:Nat}{r:List (List Val)}{zr:FuncId}{zc:List AC}(zj:∀ (y0:(List Val)) (y1:(List Val)) (r:Int),a_cmp y0 y1=some r->PTz zr ([.one (.lst (y0.map cV)),.one (.lst (y1.map cV))]++zc.map .one) (.val (.one (.int .i64 r))))(Wl:(decide ((i64.wrap (RD-O7))=(1:Int)))=false)(VN:(decide ((i64.wrap (O4-RD))=(1:Int)))=false)(Vn:(decide ((bL (i64.wrap (O7+O4)))<RD))=true)(H:oV rec n zd O7 RD O4 a_cmp=some r):RTz 202 [cc (λx=>[AC.lst (x.map cV)]) 1 v zd] [.one (.sl 0 v 0 n),.one (.c (.int .i64 O7)),.one (.c (.int .i64 RD)),.one (.c (.int .i64 O4)),.one (.c (.fn zr zc))] [cc (λx=>[AC.lst (x.map cV)]) 1 v r] (.tup []):=by
 unfold oV at H;refine bB aj Tryz.func202 rfl rfl Tryz.ntmps202 m5 ?_;simp only[gp];obtain⟨PT,H⟩|⟨PT,H⟩:=ae H
 .exact nomatch Wl.symm.trans PT
 obtain⟨P9,H⟩|⟨P9,H⟩:=ae H
 .exact nomatch VN.symm.trans P9
 obtain⟨U_,H⟩|⟨U_,H⟩:=ae H
 .refine sg ?_
  refine alM_ (λs:Int×Int=>match s with|(z6,S9)=>[(0,.one (.sl 0 v 0 n)),(1,.one (.c (.int .i64 O7))),(2,.one (.c (.int .i64 RD))),(3,.one (.c (.int .i64 O4))),(4,.one (.c (.fn zr zc))),(18,.one (.c (.int .i64 (bL (i64.wrap (O7+O4)))))),(19,.one (.c (.int .i64 (i64.wrap ((bL (i64.wrap (O7+O4)))+RD))))),(20,.one (.c (.int .i64 z6))),(21,.one (.c (.int .i64 S9))),(22,.one (.c (.int .i64 (i64.wrap ((i64.wrap ((bL (i64.wrap (O7+O4)))+RD))-(1:Int))))))]) (λs=>match s with|(z6,S9)=>[cc (λx=>[AC.lst (x.map cV)]) 1 v zd]) H (λ_=>ah7 _)
   (fm_ bg [] rfl aQ ⟨aM _ _ _ _ _,t7⟩) ?_
  rintro⟨z6,S9⟩ st5 RV hk5;unfold jv at RV;dsimp only at RV ⊢;obtain⟨Va,RV⟩|⟨Va,RV⟩:=ae RV
  .obtain⟨g39,RV⟩:=aq RV
   obtain⟨g40,RV⟩:=aq RV;obtain⟨XL,i41,RV⟩:=jJ RV;obtain⟨g42,RV⟩:=aq RV;obtain⟨g43,RV⟩:=aq RV;obtain⟨V7,i44,RV⟩:=jJ RV;obtain⟨V8,c45,RV⟩:=bd_ RV;replace c45:=zj _ _ _ c45;obtain⟨VG,RV⟩|⟨VG,RV⟩:=ae RV
   .cases RV
    refine sg ?_;exact⟨_,rfl,fm_ bg [] rfl aQ ⟨aM _ _ _ _ _,t7⟩⟩
   cases RV;refine sg ?_;exact⟨_,rfl,fm_ bg [] rfl aQ ⟨aM _ _ _ _ _,t7⟩⟩
  cases RV;have PD:jn zd O7 RD O4 a_cmp n rec (.inl (z6,S9))=some _:=hk5;unfold jn at PD;dsimp only at PD;obtain⟨XM,PD⟩|⟨XM,PD⟩:=ae PD
  .obtain⟨UM,PD⟩|⟨UM,PD⟩:=ae PD
   .obtain⟨c_37,c46,PD⟩:=bd_ PD
    replace c46:=xq (v:=v) (zc:=zc) zj c46;obtain⟨XN,PD⟩|⟨XN,PD⟩:=ae PD
    .obtain⟨YS,PD⟩|⟨YS,PD⟩:=ae PD
     .obtain⟨c_40,c47,PD⟩:=bd_ PD
      replace c47:=Pq (v:=v) (zc:=zc) zj c47;obtain⟨q_41,PD⟩|⟨q_41,PD⟩:=ae PD
      .obtain⟨V9,PD⟩|⟨V9,PD⟩:=ae PD
       .obtain⟨c_43,c48,PD⟩:=bd_ PD
        replace c48:=Pq (v:=v) (zc:=zc) zj c48
        cases PD;exact gX
       cases PD;exact gX
      cases PD;exact gX
     obtain⟨q_44,PD⟩|⟨q_44,PD⟩:=ae PD
     .obtain⟨WQ,PD⟩|⟨WQ,PD⟩:=ae PD
      .obtain⟨c_46,c49,PD⟩:=bd_ PD
       replace c49:=Pq (v:=v) (zc:=zc) zj c49
       cases PD;exact gX
      cases PD;exact gX
     cases PD;exact gX
    obtain⟨XO,PD⟩|⟨XO,PD⟩:=ae PD
    .obtain⟨q_48,PD⟩|⟨q_48,PD⟩:=ae PD
     .obtain⟨c_49,c50,PD⟩:=bd_ PD
      replace c50:=Pq (v:=v) (zc:=zc) zj c50
      cases PD;exact gX
     cases PD;exact gX
    cases PD;exact gX
   obtain⟨q_50,PD⟩|⟨q_50,PD⟩:=ae PD
   .obtain⟨q_51,PD⟩|⟨q_51,PD⟩:=ae PD
    .obtain⟨c_52,c51,PD⟩:=bd_ PD
     replace c51:=Pq (v:=v) (zc:=zc) zj c51;obtain⟨q_53,PD⟩|⟨q_53,PD⟩:=ae PD
     .obtain⟨YT,PD⟩|⟨YT,PD⟩:=ae PD
      .obtain⟨c_55,c52,PD⟩:=bd_ PD
       replace c52:=Pq (v:=v) (zc:=zc) zj c52
       cases PD;exact gX
      cases PD;exact gX
     cases PD;exact gX
    obtain⟨q_56,PD⟩|⟨q_56,PD⟩:=ae PD
    .obtain⟨q_57,PD⟩|⟨q_57,PD⟩:=ae PD
     .obtain⟨c_58,c53,PD⟩:=bd_ PD
      replace c53:=Pq (v:=v) (zc:=zc) zj c53
      cases PD;exact gX
     cases PD;exact gX
    cases PD;exact gX
   obtain⟨q_59,PD⟩|⟨q_59,PD⟩:=ae PD
   .obtain⟨YU,PD⟩|⟨YU,PD⟩:=ae PD
    .obtain⟨c_61,c54,PD⟩:=bd_ PD
     replace c54:=Pq (v:=v) (zc:=zc) zj c54
     cases PD;exact gX
    cases PD;exact gX
   cases PD;exact gX
  obtain⟨YV,PD⟩|⟨YV,PD⟩:=ae PD
  .obtain⟨q_63,PD⟩|⟨q_63,PD⟩:=ae PD
   .obtain⟨c_64,c55,PD⟩:=bd_ PD
    replace c55:=Pq (v:=v) (zc:=zc) zj c55;obtain⟨YW,PD⟩|⟨YW,PD⟩:=ae PD
    .obtain⟨q_66,PD⟩|⟨q_66,PD⟩:=ae PD
     .obtain⟨c_67,c56,PD⟩:=bd_ PD
      replace c56:=Pq (v:=v) (zc:=zc) zj c56
      cases PD;exact gX
     cases PD;exact gX
    cases PD;exact gX
   obtain⟨q_68,PD⟩|⟨q_68,PD⟩:=ae PD
   .obtain⟨YX,PD⟩|⟨YX,PD⟩:=ae PD
    .obtain⟨c_70,c57,PD⟩:=bd_ PD
     replace c57:=Pq (v:=v) (zc:=zc) zj c57
     cases PD;exact gX
    cases PD;exact gX
   cases PD;exact gX
  obtain⟨q_71,PD⟩|⟨q_71,PD⟩:=ae PD
  .obtain⟨YY,PD⟩|⟨YY,PD⟩:=ae PD
   .obtain⟨c_73,ct,PD⟩:=bd_ PD
    replace ct:=Pq (v:=v) (zc:=zc) zj ct
    cases PD;exact gX
   cases PD;exact gX
  cases PD;exact gX
 exact nomatch Vn.symm.trans U_
