/- Parts. No condition. -/
import Derived.Test.YtlcceppoloaecaaGreatDoorKBE
set_option maxHeartbeats 8000000
set_option maxRecDepth 100000
set_option linter.unusedSimpArgs false
set_option linter.unusedVariables false
namespace Go.Proofs.YtlcceppoloaecaaGreatDoor
open IntKind (i64)
open Go.RowKit Go.MapKept
theorem JJ {rec:Nat->List ac->Int->Int->Int->(ac->ac->Option Int)->Option (List ac)}{n:Nat}  (Pm:∀ {n:Nat} {X:List ac} {a m b:Int} {cmp:ac->ac->Option Int} {v:Nat} {zr:FuncId} {zc:List AC} (zj:∀ (y0:ac) (y1:ac) (r:Int),cmp y0 y1=some r->PTz zr ([.agg (af y0),.agg (af y1)]++zc.map .one) (.val (.one (.int .i64 r)))) {r:List ac},rec n X a m b cmp=some r->RTz 277 [cz af 2 v X] [.one (.sl 0 v 0 n),.one (.c (.int .i64 a)),.one (.c (.int .i64 m)),.one (.c (.int .i64 b)),.one (.c (.fn zr zc))] [cz af 2 v r] (.tup [])){zd:(List ac)}{OX:Int}{Pi:Int}{OY:Int}{a_cmp:ac->ac->Option (Int)}{v:Nat}{r:List ac}{zr:FuncId}{zc:List AC}(zj:∀ (y0:ac) (y1:ac) (r:Int),a_cmp y0 y1=some r->PTz zr ([.agg (af y0),.agg (af y1)]++zc.map .one) (.val (.one (.int .i64 r))))(Vt:(decide ((i64.wrap (Pi-OX))=(1:Int)))=false)(Tz:(decide ((i64.wrap (OY-Pi))=(1:Int)))=false)(UU:(decide ((bM (i64.wrap (OX+OY)))<Pi))=false)(H:rf rec n zd OX Pi OY a_cmp=some r):RTz 277 [cz af 2 v zd] [.one (.sl 0 v 0 n),.one (.c (.int .i64 OX)),.one (.c (.int .i64 Pi)),.one (.c (.int .i64 OY)),.one (.c (.fn zr zc))] [cz af 2 v r] (.tup []):=by
 unfold rf at H;refine be am Tryz.func277 rfl rfl Tryz.ntmps277 m5 ?_;simp only[eL];obtain⟨QM,H⟩|⟨QM,H⟩:=aj H
 ·exact nomatch Vt.symm.trans QM
 obtain⟨QA,H⟩|⟨QA,H⟩:=aj H
 ·exact nomatch Tz.symm.trans QA
 obtain⟨UI,H⟩|⟨UI,H⟩:=aj H
 ·exact nomatch UU.symm.trans UI
 refine w8 ?_;refine alM_ (λs:Int×Int=>match s with|(z7,Ro)=>[(0,.one (.sl 0 v 0 n)),(1,.one (.c (.int .i64 OX))),(2,.one (.c (.int .i64 Pi))),(3,.one (.c (.int .i64 OY))),(4,.one (.c (.fn zr zc))),(18,.one (.c (.int .i64 (bM (i64.wrap (OX+OY)))))),(19,.one (.c (.int .i64 (i64.wrap ((bM (i64.wrap (OX+OY)))+Pi))))),(20,.one (.c (.int .i64 z7))),(21,.one (.c (.int .i64 Ro))),(22,.one (.c (.int .i64 (i64.wrap ((i64.wrap ((bM (i64.wrap (OX+OY)))+Pi))-(1:Int))))))]) (λs=>match s with|(z7,Ro)=>[cz af 2 v zd]) H (λ_=>aqG _)
  (fm_ bE [] rfl bm ⟨aR _ _ _ _ _,t7⟩) ?_
 rintro⟨z7,Ro⟩ st6 QV hk6;unfold wm at QV;dsimp only at QV ⊢;obtain⟨q_76,QV⟩|⟨q_76,QV⟩:=aj QV
 ·obtain⟨g59,QV⟩:=aL QV
  obtain⟨g60,QV⟩:=aL QV;obtain⟨ZU,i61,QV⟩:=ln QV;obtain⟨g62,QV⟩:=aL QV;obtain⟨g63,QV⟩:=aL QV;obtain⟨ZV,i64,QV⟩:=ln QV;obtain⟨ZW,c65,QV⟩:=bd_ QV;replace c65:=zj _ _ _ c65;obtain⟨q_80,QV⟩|⟨q_80,QV⟩:=aj QV
  ·cases QV
   refine w8 ?_;exact⟨_,rfl,fm_ bE [] rfl bm ⟨aR _ _ _ _ _,t7⟩⟩
  cases QV;refine w8 ?_;exact⟨_,rfl,fm_ bE [] rfl bm ⟨aR _ _ _ _ _,t7⟩⟩
 cases QV;have Ph:r6 zd OX Pi OY a_cmp n rec (.inl (z7,Ro))=some _:=hk6;unfold r6 at Ph;dsimp only at Ph;obtain⟨q_81,Ph⟩|⟨q_81,Ph⟩:=aj Ph
 ·obtain⟨q_82,Ph⟩|⟨q_82,Ph⟩:=aj Ph
  ·obtain⟨Uh,c66,Ph⟩:=bd_ Ph
   replace c66:=vT (v:=v) (zc:=zc) zj c66;obtain⟨q_84,Ph⟩|⟨q_84,Ph⟩:=aj Ph
   ·obtain⟨q_85,Ph⟩|⟨q_85,Ph⟩:=aj Ph
    ·obtain⟨W5,c67,Ph⟩:=bd_ Ph
     replace c67:=Pm (v:=v) (zc:=zc) zj c67;obtain⟨q_87,Ph⟩|⟨q_87,Ph⟩:=aj Ph
     ·obtain⟨q_88,Ph⟩|⟨q_88,Ph⟩:=aj Ph
      ·obtain⟨ZX,c68,Ph⟩:=bd_ Ph
       replace c68:=Pm (v:=v) (zc:=zc) zj c68
       cases Ph;exact jp
      cases Ph;exact jp
     cases Ph;exact jp
    obtain⟨q_90,Ph⟩|⟨q_90,Ph⟩:=aj Ph
    ·obtain⟨q_91,Ph⟩|⟨q_91,Ph⟩:=aj Ph
     ·obtain⟨ZY,c69,Ph⟩:=bd_ Ph
      replace c69:=Pm (v:=v) (zc:=zc) zj c69
      cases Ph;exact jp
     cases Ph;exact jp
    cases Ph;exact jp
   obtain⟨q_93,Ph⟩|⟨q_93,Ph⟩:=aj Ph
   ·obtain⟨q_94,Ph⟩|⟨q_94,Ph⟩:=aj Ph
    ·obtain⟨ZZ,c70,Ph⟩:=bd_ Ph
     replace c70:=Pm (v:=v) (zc:=zc) zj c70
     cases Ph;exact jp
    cases Ph;exact jp
   cases Ph;exact jp
  obtain⟨q_96,Ph⟩|⟨q_96,Ph⟩:=aj Ph
  ·obtain⟨q_97,Ph⟩|⟨q_97,Ph⟩:=aj Ph
   ·obtain⟨W6,c71,Ph⟩:=bd_ Ph
    replace c71:=Pm (v:=v) (zc:=zc) zj c71;obtain⟨q_99,Ph⟩|⟨q_99,Ph⟩:=aj Ph
    ·obtain⟨Z5,Ph⟩|⟨Z5,Ph⟩:=aj Ph
     ·obtain⟨XC,c72,Ph⟩:=bd_ Ph
      replace c72:=Pm (v:=v) (zc:=zc) zj c72
      cases Ph;exact jp
     cases Ph;exact jp
    cases Ph;exact jp
   obtain⟨Z6,Ph⟩|⟨Z6,Ph⟩:=aj Ph
   ·obtain⟨Z7,Ph⟩|⟨Z7,Ph⟩:=aj Ph
    ·obtain⟨XD,c73,Ph⟩:=bd_ Ph
     replace c73:=Pm (v:=v) (zc:=zc) zj c73
     cases Ph;exact jp
    cases Ph;exact jp
   cases Ph;exact jp
  obtain⟨Z8,Ph⟩|⟨Z8,Ph⟩:=aj Ph
  ·obtain⟨Z9,Ph⟩|⟨Z9,Ph⟩:=aj Ph
   ·obtain⟨XE,c74,Ph⟩:=bd_ Ph
    replace c74:=Pm (v:=v) (zc:=zc) zj c74
    cases Ph;exact jp
   cases Ph;exact jp
  cases Ph;exact jp
 obtain⟨Z_,Ph⟩|⟨Z_,Ph⟩:=aj Ph
 ·obtain⟨q_109,Ph⟩|⟨q_109,Ph⟩:=aj Ph
  ·obtain⟨U4,c75,Ph⟩:=bd_ Ph
   replace c75:=Pm (v:=v) (zc:=zc) zj c75;obtain⟨q_111,Ph⟩|⟨q_111,Ph⟩:=aj Ph
   ·obtain⟨q_112,Ph⟩|⟨q_112,Ph⟩:=aj Ph
    ·obtain⟨XF,c76,Ph⟩:=bd_ Ph
     replace c76:=Pm (v:=v) (zc:=zc) zj c76
     cases Ph;exact jp
    cases Ph;exact jp
   cases Ph;exact jp
  obtain⟨q_114,Ph⟩|⟨q_114,Ph⟩:=aj Ph
  ·obtain⟨q_115,Ph⟩|⟨q_115,Ph⟩:=aj Ph
   ·obtain⟨XG,c77,Ph⟩:=bd_ Ph
    replace c77:=Pm (v:=v) (zc:=zc) zj c77
    cases Ph;exact jp
   cases Ph;exact jp
  cases Ph;exact jp
 obtain⟨q_117,Ph⟩|⟨q_117,Ph⟩:=aj Ph
 ·obtain⟨q_118,Ph⟩|⟨q_118,Ph⟩:=aj Ph
  ·obtain⟨XH,c78,Ph⟩:=bd_ Ph
   replace c78:=Pm (v:=v) (zc:=zc) zj c78
   cases Ph;exact jp
  cases Ph;exact jp
 cases Ph;exact jp
