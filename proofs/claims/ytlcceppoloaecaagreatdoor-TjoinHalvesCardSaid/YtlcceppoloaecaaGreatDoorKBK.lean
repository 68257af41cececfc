/- Parts. No condition. -/
import Derived.Test.YtlcceppoloaecaaGreatDoorKBH
set_option maxHeartbeats 8000000
set_option maxRecDepth 100000
set_option linter.unusedSimpArgs false
set_option linter.unusedVariables false
namespace Go.Proofs.YtlcceppoloaecaaGreatDoor
open IntKind (i64)
open Go.RowKit Go.MapKept
theorem abp {rec:Nat->List ac->Int->Int->Int->(ac->ac->Option Int)->Option (List ac)}{n:Nat}  (Pi:∀ {n:Nat} {X:List ac} {a m b:Int} {cmp:ac->ac->Option Int} {v:Nat} {zr:FuncId} {zc:List AC} (zj:∀ (y0:ac) (y1:ac) (r:Int),cmp y0 y1=some r->PTz zr ([.agg (af y0),.agg (af y1)]++zc.map .one) (.val (.one (.int .i64 r)))) {r:List ac},rec n X a m b cmp=some r->RTz 277 [cl af 2 v X] [.one (.sl 0 v 0 n),.one (.c (.int .i64 a)),.one (.c (.int .i64 m)),.one (.c (.int .i64 b)),.one (.c (.fn zr zc))] [cl af 2 v r] (.tup [])){zd:(List ac)}{OV:Int}{Pe:Int}{OW:Int}{a_cmp:ac->ac->Option (Int)}{v:Nat}{r:List ac}{zr:FuncId}{zc:List AC}(zj:∀ (y0:ac) (y1:ac) (r:Int),a_cmp y0 y1=some r->PTz zr ([.agg (af y0),.agg (af y1)]++zc.map .one) (.val (.one (.int .i64 r))))(U4:(decide ((i64.wrap (Pe-OV))=(1:Int)))=false)(SX:(decide ((i64.wrap (OW-Pe))=(1:Int)))=false)(Ut:(decide ((bL (i64.wrap (OV+OW)))<Pe))=false)(H:qz rec n zd OV Pe OW a_cmp=some r):RTz 277 [cl af 2 v zd] [.one (.sl 0 v 0 n),.one (.c (.int .i64 OV)),.one (.c (.int .i64 Pe)),.one (.c (.int .i64 OW)),.one (.c (.fn zr zc))] [cl af 2 v r] (.tup []):=by
 unfold qz at H;refine bo am Tryz.func277 rfl rfl Tryz.ntmps277 m5 ?_;simp only[ed];rcases aj H with⟨Qv,H⟩|⟨Qv,H⟩
 ·exact nomatch U4.symm.trans Qv
 rcases aj H with⟨Qk,H⟩|⟨Qk,H⟩
 ·exact nomatch SX.symm.trans Qk
 rcases aj H with⟨VF,H⟩|⟨VF,H⟩
 ·exact nomatch Ut.symm.trans VF
 refine tJ ?_;refine alM_ (fun s:Int×Int=>match s with|(z7,QX)=>[(0,.one (.sl 0 v 0 n)),(1,.one (.c (.int .i64 OV))),(2,.one (.c (.int .i64 Pe))),(3,.one (.c (.int .i64 OW))),(4,.one (.c (.fn zr zc))),(18,.one (.c (.int .i64 (bL (i64.wrap (OV+OW)))))),(19,.one (.c (.int .i64 (i64.wrap ((bL (i64.wrap (OV+OW)))+Pe))))),(20,.one (.c (.int .i64 z7))),(21,.one (.c (.int .i64 QX))),(22,.one (.c (.int .i64 (i64.wrap ((i64.wrap ((bL (i64.wrap (OV+OW)))+Pe))-(1:Int))))))]) (fun s=>match s with|(z7,QX)=>[cl af 2 v zd]) H (fun _=>aqo _)
  (fm_ bF [] rfl bn ⟨aR _ _ _ _ _,t7⟩) ?_
 rintro⟨z7,QX⟩ st6 QC hk6;unfold vu at QC;dsimp only at QC ⊢;rcases aj QC with⟨q_76,QC⟩|⟨q_76,QC⟩
 ·obtain⟨g59,QC⟩:=aK QC
  obtain⟨g60,QC⟩:=aK QC;obtain⟨Zs,i61,QC⟩:=kn QC;obtain⟨g62,QC⟩:=aK QC;obtain⟨g63,QC⟩:=aK QC;obtain⟨Zt,i64,QC⟩:=kn QC;obtain⟨Zu,c65,QC⟩:=bd_ QC;replace c65:=zj _ _ _ c65;rcases aj QC with⟨q_80,QC⟩|⟨q_80,QC⟩
  ·cases QC
   refine tJ ?_;exact⟨_,rfl,fm_ bF [] rfl bn ⟨aR _ _ _ _ _,t7⟩⟩
  cases QC;refine tJ ?_;exact⟨_,rfl,fm_ bF [] rfl bn ⟨aR _ _ _ _ _,t7⟩⟩
 cases QC;have O_:rp zd OV Pe OW a_cmp n rec (.inl (z7,QX))=some _:=hk6;unfold rp at O_;dsimp only at O_;rcases aj O_ with⟨q_81,O_⟩|⟨q_81,O_⟩
 ·rcases aj O_ with⟨q_82,O_⟩|⟨q_82,O_⟩
  ·obtain⟨TL,c66,O_⟩:=bd_ O_
   replace c66:=zm (v:=v) (zc:=zc) zj c66;rcases aj O_ with⟨q_84,O_⟩|⟨q_84,O_⟩
   ·rcases aj O_ with⟨q_85,O_⟩|⟨q_85,O_⟩
    ·obtain⟨WB,c67,O_⟩:=bd_ O_
     replace c67:=Pi (v:=v) (zc:=zc) zj c67;rcases aj O_ with⟨q_87,O_⟩|⟨q_87,O_⟩
     ·rcases aj O_ with⟨q_88,O_⟩|⟨q_88,O_⟩
      ·obtain⟨Zv,c68,O_⟩:=bd_ O_
       replace c68:=Pi (v:=v) (zc:=zc) zj c68
       cases O_;exact iw
      cases O_;exact iw
     cases O_;exact iw
    rcases aj O_ with⟨q_90,O_⟩|⟨q_90,O_⟩
    ·rcases aj O_ with⟨q_91,O_⟩|⟨q_91,O_⟩
     ·obtain⟨Zw,c69,O_⟩:=bd_ O_
      replace c69:=Pi (v:=v) (zc:=zc) zj c69
      cases O_;exact iw
     cases O_;exact iw
    cases O_;exact iw
   rcases aj O_ with⟨q_93,O_⟩|⟨q_93,O_⟩
   ·rcases aj O_ with⟨q_94,O_⟩|⟨q_94,O_⟩
    ·obtain⟨Zx,c70,O_⟩:=bd_ O_
     replace c70:=Pi (v:=v) (zc:=zc) zj c70
     cases O_;exact iw
    cases O_;exact iw
   cases O_;exact iw
  rcases aj O_ with⟨q_96,O_⟩|⟨q_96,O_⟩
  ·rcases aj O_ with⟨q_97,O_⟩|⟨q_97,O_⟩
   ·obtain⟨WC,c71,O_⟩:=bd_ O_
    replace c71:=Pi (v:=v) (zc:=zc) zj c71;rcases aj O_ with⟨q_99,O_⟩|⟨q_99,O_⟩
    ·rcases aj O_ with⟨ZB,O_⟩|⟨ZB,O_⟩
     ·obtain⟨Xa,c72,O_⟩:=bd_ O_
      replace c72:=Pi (v:=v) (zc:=zc) zj c72
      cases O_;exact iw
     cases O_;exact iw
    cases O_;exact iw
   rcases aj O_ with⟨ZC,O_⟩|⟨ZC,O_⟩
   ·rcases aj O_ with⟨ZD,O_⟩|⟨ZD,O_⟩
    ·obtain⟨Xb,c73,O_⟩:=bd_ O_
     replace c73:=Pi (v:=v) (zc:=zc) zj c73
     cases O_;exact iw
    cases O_;exact iw
   cases O_;exact iw
  rcases aj O_ with⟨ZE,O_⟩|⟨ZE,O_⟩
  ·rcases aj O_ with⟨ZF,O_⟩|⟨ZF,O_⟩
   ·obtain⟨Xc,c74,O_⟩:=bd_ O_
    replace c74:=Pi (v:=v) (zc:=zc) zj c74
    cases O_;exact iw
   cases O_;exact iw
  cases O_;exact iw
 rcases aj O_ with⟨ZG,O_⟩|⟨ZG,O_⟩
 ·rcases aj O_ with⟨ZH,O_⟩|⟨ZH,O_⟩
  ·obtain⟨Uz,c75,O_⟩:=bd_ O_
   replace c75:=Pi (v:=v) (zc:=zc) zj c75;rcases aj O_ with⟨ZI,O_⟩|⟨ZI,O_⟩
   ·rcases aj O_ with⟨ZJ,O_⟩|⟨ZJ,O_⟩
    ·obtain⟨Xd,c76,O_⟩:=bd_ O_
     replace c76:=Pi (v:=v) (zc:=zc) zj c76
     cases O_;exact iw
    cases O_;exact iw
   cases O_;exact iw
  rcases aj O_ with⟨ZK,O_⟩|⟨ZK,O_⟩
  ·rcases aj O_ with⟨ZL,O_⟩|⟨ZL,O_⟩
   ·obtain⟨Xe,c77,O_⟩:=bd_ O_
    replace c77:=Pi (v:=v) (zc:=zc) zj c77
    cases O_;exact iw
   cases O_;exact iw
  cases O_;exact iw
 rcases aj O_ with⟨ZM,O_⟩|⟨ZM,O_⟩
 ·rcases aj O_ with⟨ZN,O_⟩|⟨ZN,O_⟩
  ·obtain⟨Xf,c78,O_⟩:=bd_ O_
   replace c78:=Pi (v:=v) (zc:=zc) zj c78
   cases O_;exact iw
  cases O_;exact iw
 cases O_;exact iw
