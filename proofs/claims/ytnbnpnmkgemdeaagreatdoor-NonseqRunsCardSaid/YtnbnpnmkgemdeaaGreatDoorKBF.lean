/- Parts. No condition. -/
import Derived.Test.YtnbnpnmkgemdeaaGreatDoorKBD
import Derived.Test.YtnbnpnmkgemdeaaGreatDoorKBE
import Derived.Test.YtnbnpnmkgemdeaaGreatDoorKBC
import Derived.Test.YtnbnpnmkgemdeaaGreatDoorKAX
set_option maxHeartbeats 8000000
set_option maxRecDepth 100000
set_option linter.unusedSimpArgs false
set_option linter.unusedVariables false
namespace Go.Proofs.YtnbnpnmkgemdeaaGreatDoor
open _root_.ByteArray (empty)
open IntKind (i64)
open Go.RowKit Go.MapKept Tryz
def mq (Qn:Int)(O5:(List Val)):Option (Val):=(GG O5 (1:Int)).bind λPh=>bif (!Ph)then(cq ).bind λQm=>some Qm else
 (al O5 (0:Int)).bind λPK=>(al O5 (1:Int)).bind λQG=>(al O5 (2:Int)).bind λRf=>(al O5 (3:Int)).bind λQs=>(IV (⟨PK.int,QG.int⟩:dV) (⟨Rf.int,Qs.int⟩:dV)).bind λQN=>bif (!QN.2)then(cq ).bind λPR=>some PR else
 (oF (decide (QN.1=Qn))).bind λPY=>some PY
theorem E0 {Qn:Int}{O5:(List Val)}{r:Val}(H:mq Qn O5=some r):PTz 270 [.one (.int .i64 Qn),.one (.lst (O5.map cV))] (.val (.agg (cV r))):=by
 unfold mq at H;refine po_ func270 ntmps270 ?_;obtain⟨Ph,c1,H⟩:=bd_ H;replace c1:=ym c1;obtain⟨PP,H⟩|⟨PP,H⟩:=ae H
 .obtain⟨Qm,c2,H⟩:=bd_ H
  replace c2:=bI c2
  cases H;exact ao
 obtain⟨PK,Ud,i3,TK,H⟩:=aw (f:=cV) H;obtain⟨QG,VC,i4,U7,H⟩:=aw (f:=cV) H;obtain⟨Rf,i5z,i5,i5x,H⟩:=aw (f:=cV) H;obtain⟨Qs,ZX,i6,ZY,H⟩:=aw (f:=cV) H;obtain⟨QN,c7,H⟩:=bd_ H;replace c7:=abD c7;obtain⟨Q5,H⟩|⟨Q5,H⟩:=ae H
 .obtain⟨PR,c8,H⟩:=bd_ H
  replace c8:=bI c8
  cases H;exact ao
 obtain⟨PY,c9,H⟩:=bd_ H;replace c9:=kn c9
 cases H;exact ao
def pF (O_:Int)(O5:(List Val)):Option (Val):=(GG O5 (2:Int)).bind λPh=>bif (!Ph)then(cq ).bind λQm=>some Qm else
 bif O_=(19:Int)then(al O5 (0:Int)).bind λQG=>(al O5 (1:Int)).bind λRf=>bif QG.text.size+Rf.text.size<=9223372036854775807 then((AN (QG.text++Rf.text)).bind λQi=>some Qi)else none else
 (al O5 (0:Int)).bind λUu=>(iC (Uu.text.size:Int)).bind λQ4=>some Q4
theorem Eu {O_:Int}{O5:(List Val)}{r:Val}(H:pF O_ O5=some r):PTz 268 [.one (.int .i64 O_),.one (.lst (O5.map cV))] (.val (.agg (cV r))):=by
 unfold pF at H;refine po_ func268 ntmps268 ?_;obtain⟨Ph,c1,H⟩:=bd_ H;replace c1:=ym c1;obtain⟨PP,H⟩|⟨PP,H⟩:=ae H
 .obtain⟨Qm,c2,H⟩:=bd_ H
  replace c2:=bI c2
  cases H;exact ao
 obtain⟨P1,H⟩|⟨P1,H⟩:=ae H
 .obtain⟨QG,Ud,i3,TK,H⟩:=aw (f:=cV) H
  obtain⟨Rf,VC,i4,U7,H⟩:=aw (f:=cV) H;obtain⟨g5,H⟩:=aq H;obtain⟨Qi,c6,H⟩:=bd_ H;replace c6:=Oa c6
  try simp only[ah4,ah2,ah6,ahW,ay,aD]at c6
  cases H;exact ao
 obtain⟨Uu,Yi,i7,XY,H⟩:=aw (f:=cV) H;obtain⟨Q4,c8,H⟩:=bd_ H;replace c8:=eJ c8
 cases H;exact ao
def oj (O5:(List Val)):(Int)->Option (Step (Int) (Val)):=λs=>match s with
 |i_7=>bif i_7<(O5.length:Int)then(al O5 i_7).bind λUx=>bif Ux.kind≠(0:Int)then some (.ret Ux)else
 some (.next (i64.wrap (i_7+(1:Int))))else
 some (.exit i_7)
def lx:Sum (Int) (Val)->Option ((Val))
 |.inl i_7=>(cq ).bind λPY=>some PY
 |.inr q=>some q
def oa (O_:Int)(O5:(List Val)):Option (Val):=bif O_=(22:Int)then(al O5 (0:Int)).bind λXc=>(eV Xc).bind λQm=>bif Qm=(2:Int)then(al O5 (1:Int)).bind λQG=>some QG else
 (al O5 (2:Int)).bind λRf=>some Rf else
 (af (oj O5) fuel (0:Int)).bind (lx)
theorem Bf {O_:Int}{O5:(List Val)}{r:Val}(H:oa O_ O5=some r):PTz 269 [.one (.int .i64 O_),.one (.lst (O5.map cV))] (.val (.agg (cV r))):=by
 unfold oa at H;refine po_ func269 ntmps269 ?_;obtain⟨PT,H⟩|⟨PT,H⟩:=ae H
 .obtain⟨Xc,QV,i1,QI,H⟩:=aw (f:=cV) H
  obtain⟨Qm,c2,H⟩:=bd_ H;replace c2:=iN c2;obtain⟨P1,H⟩|⟨P1,H⟩:=ae H
  .obtain⟨QG,Ud,i3,TK,H⟩:=aw (f:=cV) H
   cases H;exact ao
  obtain⟨Rf,VC,i4,U7,H⟩:=aw (f:=cV) H
  cases H;exact ao
 refine aS ?_;refine alM_ (λs:Int=>match s with|i_7=>[(1,.one (.c (.lst (O5.map cV)))),(4,.one (.ptr 0 0)),(5,.one (.c (.int .i64 i_7)))]) (λs=>match s with|i_7=>[.box [.c (.int .i64 (0:Int)),.c (.int .i64 (0:Int)),.c (.str empty)]]) H (λ_=>aia _)
  (fm_ bg [] rfl aQ bq) ?_
 rintro i_7 Qr OZ Po;unfold oj at OZ;dsimp only at OZ ⊢;obtain⟨Qw,OZ⟩|⟨Qw,OZ⟩:=ae OZ
 .obtain⟨Ux,i5z,i5,i5x,OZ⟩:=aw (f:=cV) OZ
  obtain⟨P6,OZ⟩|⟨P6,OZ⟩:=ae OZ
  .cases OZ
   have O0:lx (.inr Ux)=some _:=Po;unfold lx at O0;dsimp only at O0
   cases O0;exact ao
  cases OZ;refine aS ?_;exact⟨_,rfl,fm_ bg [] rfl aQ bq⟩
 cases OZ;have O0:lx (.inl i_7)=some _:=Po;unfold lx at O0;dsimp only at O0;obtain⟨PY,c6,O0⟩:=bd_ O0;replace c6:=bI c6
 cases O0;exact ao
def xm (O6:Ex)(Pg:(List Val)):Option (Val):=bif O6.op=(2:Int)then(Gv Pg O6.int).bind λPW=>(cJ PW).bind λQm=>bif (!Qm)then(cq ).bind λPM=>some PM else
 some PW else
 (cJ O6.v).bind λQW=>bif (!QW)then(cq ).bind λQN=>some QN else
 some O6.v
theorem H4 {O6:Ex}{Pg:(List Val)}{r:Val}(H:xm O6 Pg=some r):PTz 262 [.agg (tE O6),.one (.lst (Pg.map cV))] (.val (.agg (cV r))):=by
 unfold xm at H;rw[ay O6];refine po_ func262 ntmps262 ?_;obtain⟨PT,H⟩|⟨PT,H⟩:=ae H
 .obtain⟨PW,c1,H⟩:=bd_ H
  replace c1:=yl c1;obtain⟨Qm,c2,H⟩:=bd_ H;replace c2:=kN c2;obtain⟨P1,H⟩|⟨P1,H⟩:=ae H
  .obtain⟨PM,c3,H⟩:=bd_ H
   replace c3:=bI c3
   cases H;exact ao
  cases H;exact ao
 obtain⟨QW,c4,H⟩:=bd_ H;replace c4:=kN c4;obtain⟨QX,H⟩|⟨QX,H⟩:=ae H
 .obtain⟨QN,c5,H⟩:=bd_ H
  replace c5:=bI c5
  cases H;exact ao
 cases H;exact ao
def k8 (O6:Ex)(Pg:(List Val))(rec:Ex->List Val->Option Val):((List Val)×Int)->Option (Step ((List Val)×Int) (Val)):=λs=>match s with
 |(RR,Qz)=>bif Qz<(O6.args.length:Int)then(al O6.args Qz).bind λQs=>(rec Qs Pg).bind λQN=>bif RR.length+1<=4398046511104 then(some (.next ((RR++[QN]),(i64.wrap (Qz+(1:Int))))))else none else
 some (.exit (RR,Qz))
def gER_K (O6:Ex)(Pg:(List Val)):Sum ((List Val)×Int) (Val)->Option ((Val))
 |.inl (RR,Qz)=>bif O6.op=(1:Int)then(xm O6 Pg).bind λPR=>some PR else
 bif O6.op=(2:Int)then(xm O6 Pg).bind λQq=>some Qq else
 bif O6.op=(4:Int)then(al RR (0:Int)).bind λUN=>(eV UN).bind λQ1=>(Ap Q1).bind λRL=>(xN RL).bind λQD=>some QD else
 bif O6.op=(5:Int)then(sb O6.op RR).bind λRt=>some Rt else
 bif O6.op=(6:Int)then(sb O6.op RR).bind λSU=>some SU else
 bif O6.op=(7:Int)then(al RR (0:Int)).bind λTU=>(al RR (1:Int)).bind λRQ=>(eO O6.op TU RQ).bind λTV=>(xN TV).bind λUO=>some UO else
 bif O6.op=(8:Int)then(al RR (0:Int)).bind λWU=>(al RR (1:Int)).bind λVd=>(eO O6.op WU Vd).bind λWL=>(xN WL).bind λTC=>some TC else
 bif O6.op=(9:Int)then(al RR (0:Int)).bind λWY=>(al RR (1:Int)).bind λWZ=>(eO O6.op WY WZ).bind λTR=>(xN TR).bind λr_36=>some r_36 else
 bif O6.op=(10:Int)then(al RR (0:Int)).bind λVe=>(al RR (1:Int)).bind λW0=>(eO O6.op Ve W0).bind λr_40=>(xN r_40).bind λVI=>some VI else
 bif O6.op=(11:Int)then(al RR (0:Int)).bind λx_43=>(al RR (1:Int)).bind λx_44=>(eO O6.op x_43 x_44).bind λr_45=>(xN r_45).bind λV_=>some V_ else
 bif O6.op=(12:Int)then(al RR (0:Int)).bind λx_48=>(al RR (1:Int)).bind λx_49=>(eO O6.op x_48 x_49).bind λr_50=>(xN r_50).bind λr_51=>some r_51 else
 bif O6.op=(18:Int)then(GG RR (1:Int)).bind λr_53=>bif (!r_53)then(cq ).bind λr_55=>some r_55 else
 (al RR (0:Int)).bind λx_56=>(iC (i64.wrap (0-x_56.int))).bind λr_57=>some r_57 else
 bif O6.op=(19:Int)then(pF O6.op RR).bind λr_59=>some r_59 else
 bif O6.op=(20:Int)then(pF O6.op RR).bind λr_61=>some r_61 else
 bif O6.op=(21:Int)then(al RR (0:Int)).bind λx_63=>(oF (decide (x_63.kind=(0:Int)))).bind λr_64=>some r_64 else
 bif O6.op=(22:Int)then(oa O6.op RR).bind λr_66=>some r_66 else
 bif O6.op=(23:Int)then(oa O6.op RR).bind λr_68=>some r_68 else
 bif O6.op=(24:Int)then(mq O6.int RR).bind λr_70=>some r_70 else
 (GG RR (1:Int)).bind λr_71=>bif (!r_71)then(cq ).bind λr_73=>some r_73 else
 (al RR (0:Int)).bind λx_74=>(al RR (1:Int)).bind λx_75=>(cu O6.op x_74.int x_75.int).bind λr_76=>some r_76
 |.inr q=>some q
def rO (rec:Ex->List Val->Option Val)(O6:Ex)(Pg:(List Val)):Option (Val):=(ir O6).bind λPh=>bif (!Ph)then(cq ).bind λQm=>some Qm else
 (af (k8 O6 Pg rec) fuel ([],(0:Int))).bind (gER_K O6 Pg)
theorem Kx {rec:Ex->List Val->Option Val}  (Pq:∀ {x:Ex} {y:List Val} {r:Val},rec x y=some r->PTz 224 [.agg (tE x),.one (.lst (y.map cV))] (.val (.agg (cV r)))){O6:Ex}{Pg:(List Val)}{r:Val}(H:rO rec O6 Pg=some r):PTz 224 [.agg (tE O6),.one (.lst (Pg.map cV))] (.val (.agg (cV r))):=by
 unfold rO at H;rw[ay O6];refine po_ func224 ntmps224 ?_;obtain⟨Ph,c1,H⟩:=bd_ H;replace c1:=xF c1
 try simp only[ah4,ah2,ah6,ahW,ay,aD]at c1
 obtain⟨PP,H⟩|⟨PP,H⟩:=ae H
 .obtain⟨Qm,c2,H⟩:=bd_ H
  replace c2:=bI c2
  cases H;exact ao
 refine aS ?_;refine br 5 3 rfl ?_;refine alM_ (λs:(List Val)×Int=>match s with|(RR,Qz)=>[(1,.one (.c (.lst (Pg.map cV)))),(2,.one (.ptr 0 0)),(4,.one (.ptr 1 0)),(5,.one (.own (RR.map cV) 2)),(6,.one (.c (.int .i64 Qz)))]) (λs=>match s with|(RR,Qz)=>[.box [.c (.int .i64 O6.op),.c (.int .i64 O6.int),.c (.int .i64 O6.v.kind),.c (.int .i64 O6.v.int),.c (.str O6.v.text),.c (.str O6.nm),.c (.lst (O6.args.map tE))],.box [.c (.int .i64 (0:Int)),.c (.int .i64 (0:Int)),.c (.str empty)],.spare RR.length 3]) H (λ_=>aia _)
  (fm_ bg [] rfl aQ bq) ?_
 rintro⟨RR,Qz⟩ Qr OZ Po;unfold k8 at OZ;dsimp only at OZ ⊢;obtain⟨Qb,OZ⟩|⟨Qb,OZ⟩:=ae OZ
 .obtain⟨Qs,Ud,i3,TK,OZ⟩:=aw (f:=tE) OZ
  simp only[ah4,ah2,ah6,ahW,ay]at TK;obtain⟨QN,c4,OZ⟩:=bd_ OZ;replace c4:=Pq c4
  try simp only[ah4,ah2,ah6,ahW,ay,aD]at c4
  obtain⟨g5,OZ⟩:=aq OZ
  cases OZ;refine aS ?_;exact⟨_,rfl,fm_ fO [] dU aQ bq⟩
 cases OZ;have O0:gER_K O6 Pg (.inl (RR,Qz))=some _:=Po;unfold gER_K at O0;dsimp only at O0;refine aS ?_;obtain⟨Q5,O0⟩|⟨Q5,O0⟩:=ae O0
 .obtain⟨PR,c6,O0⟩:=bd_ O0
  replace c6:=H4 c6
  try simp only[ah4,ah2,ah6,ahW,ay,aD]at c6
  cases O0;exact ao
 obtain⟨Qo,O0⟩|⟨Qo,O0⟩:=ae O0
 .obtain⟨Qq,c7,O0⟩:=bd_ O0
  replace c7:=H4 c7
  try simp only[ah4,ah2,ah6,ahW,ay,aD]at c7
  cases O0;exact ao
 obtain⟨P2,O0⟩|⟨P2,O0⟩:=ae O0
 .obtain⟨UN,i8z,i8,i8x,O0⟩:=aw (f:=cV) O0
  obtain⟨Q1,c9,O0⟩:=bd_ O0;replace c9:=iN c9;obtain⟨RL,Ug,O0⟩:=bd_ O0;replace Ug:=uc Ug;obtain⟨QD,SC,O0⟩:=bd_ O0;replace SC:=lH SC
  cases O0;exact ao
 refine aS ?_;obtain⟨QT,O0⟩|⟨QT,O0⟩:=ae O0
 .obtain⟨Rt,SJ,O0⟩:=bd_ O0
  replace SJ:=zA SJ
  cases O0;exact ao
 obtain⟨RJ,O0⟩|⟨RJ,O0⟩:=ae O0
 .obtain⟨SU,R4,O0⟩:=bd_ O0
  replace R4:=zA R4
  cases O0;exact ao
 obtain⟨SS,O0⟩|⟨SS,O0⟩:=ae O0
 .obtain⟨TU,i14z,i14,i14x,O0⟩:=aw (f:=cV) O0
  obtain⟨RQ,XU,i15,XV,O0⟩:=aw (f:=cV) O0;obtain⟨TV,VO,O0⟩:=bd_ O0;replace VO:=ft VO;obtain⟨UO,UK,O0⟩:=bd_ O0;replace UK:=lH UK
  cases O0;exact ao
 refine aS ?_;obtain⟨U_,O0⟩|⟨U_,O0⟩:=ae O0
 .obtain⟨WU,i18z,i18,i18x,O0⟩:=aw (f:=cV) O0
  obtain⟨Vd,i19z,i19,i19x,O0⟩:=aw (f:=cV) O0;obtain⟨WL,VJ,O0⟩:=bd_ O0;replace VJ:=ft VJ;obtain⟨TC,c21,O0⟩:=bd_ O0;replace c21:=lH c21
  cases O0;exact ao
 obtain⟨Vh,O0⟩|⟨Vh,O0⟩:=ae O0
 .obtain⟨WY,i22z,i22,i22x,O0⟩:=aw (f:=cV) O0
  obtain⟨WZ,i23z,i23,i23x,O0⟩:=aw (f:=cV) O0;obtain⟨TR,c24,O0⟩:=bd_ O0;replace c24:=ft c24;obtain⟨r_36,c25,O0⟩:=bd_ O0;replace c25:=lH c25
  cases O0;exact ao
 obtain⟨Y4,O0⟩|⟨Y4,O0⟩:=ae O0
 .obtain⟨Ve,i26z,i26,i26x,O0⟩:=aw (f:=cV) O0
  obtain⟨W0,i27z,i27,i27x,O0⟩:=aw (f:=cV) O0;obtain⟨r_40,c28,O0⟩:=bd_ O0;replace c28:=ft c28;obtain⟨VI,c29,O0⟩:=bd_ O0;replace c29:=lH c29
  cases O0;exact ao
 refine aS ?_;obtain⟨V9,O0⟩|⟨V9,O0⟩:=ae O0
 .obtain⟨x_43,i30z,i30,i30x,O0⟩:=aw (f:=cV) O0
  obtain⟨x_44,i31z,i31,i31x,O0⟩:=aw (f:=cV) O0;obtain⟨r_45,c32,O0⟩:=bd_ O0;replace c32:=ft c32;obtain⟨V_,c33,O0⟩:=bd_ O0;replace c33:=lH c33
  cases O0;exact ao
 obtain⟨XO,O0⟩|⟨XO,O0⟩:=ae O0
 .obtain⟨x_48,i34z,i34,i34x,O0⟩:=aw (f:=cV) O0
  obtain⟨x_49,i35z,i35,i35x,O0⟩:=aw (f:=cV) O0;obtain⟨r_50,c36,O0⟩:=bd_ O0;replace c36:=ft c36;obtain⟨r_51,c37,O0⟩:=bd_ O0;replace c37:=lH c37
  cases O0;exact ao
 obtain⟨q_52,O0⟩|⟨q_52,O0⟩:=ae O0
 .obtain⟨r_53,c38,O0⟩:=bd_ O0
  replace c38:=ym c38;refine aS ?_;obtain⟨YT,O0⟩|⟨YT,O0⟩:=ae O0
  .obtain⟨r_55,c39,O0⟩:=bd_ O0
   replace c39:=bI c39
   cases O0;exact ao
  obtain⟨x_56,i40z,i40,i40x,O0⟩:=aw (f:=cV) O0;obtain⟨r_57,c41,O0⟩:=bd_ O0;replace c41:=eJ c41
  cases O0;exact ao
 refine aS ?_;obtain⟨q_58,O0⟩|⟨q_58,O0⟩:=ae O0
 .obtain⟨r_59,c42,O0⟩:=bd_ O0
  replace c42:=Eu c42
  cases O0;exact ao
 obtain⟨YU,O0⟩|⟨YU,O0⟩:=ae O0
 .obtain⟨r_61,c43,O0⟩:=bd_ O0
  replace c43:=Eu c43
  cases O0;exact ao
 obtain⟨YV,O0⟩|⟨YV,O0⟩:=ae O0
 .obtain⟨x_63,i44z,i44,i44x,O0⟩:=aw (f:=cV) O0
  obtain⟨r_64,c45,O0⟩:=bd_ O0;replace c45:=kn c45
  cases O0;exact ao
 refine aS ?_;obtain⟨YW,O0⟩|⟨YW,O0⟩:=ae O0
 .obtain⟨r_66,c46,O0⟩:=bd_ O0
  replace c46:=Bf c46
  cases O0;exact ao
 obtain⟨q_67,O0⟩|⟨q_67,O0⟩:=ae O0
 .obtain⟨r_68,c47,O0⟩:=bd_ O0
  replace c47:=Bf c47
  cases O0;exact ao
 obtain⟨YX,O0⟩|⟨YX,O0⟩:=ae O0
 .obtain⟨r_70,c48,O0⟩:=bd_ O0
  replace c48:=E0 c48
  cases O0;exact ao
 obtain⟨r_71,c49,O0⟩:=bd_ O0;replace c49:=ym c49;refine aS ?_;obtain⟨YY,O0⟩|⟨YY,O0⟩:=ae O0
 .obtain⟨r_73,c50,O0⟩:=bd_ O0
  replace c50:=bI c50
  cases O0;exact ao
 obtain⟨x_74,i51z,i51,i51x,O0⟩:=aw (f:=cV) O0;obtain⟨x_75,i52z,i52,i52x,O0⟩:=aw (f:=cV) O0;obtain⟨r_76,c53,O0⟩:=bd_ O0;replace c53:=FX c53
 cases O0;exact ao
def fJ:Nat->Ex->List Val->Option Val
 |0,_,_=>none
 |n+1,e,r=>rO (fJ n) e r
theorem vD:∀ (n:Nat) {x:Ex} {y:List Val} {r:Val},fJ n x y=some r->PTz 224 [.agg (tE x),.one (.lst (y.map cV))] (.val (.agg (cV r)))
 |0,_,_,_,h=>nomatch h
 |n+1,_,_,_,h=>Kx (vD n) h
def ef:Val:=⟨0,0,empty⟩
theorem jr:iB=some ef:=rfl
theorem bJ:cq=some ef:=rfl
def vF (v:Val):Bool:=(cJ v).getD false
theorem fa (v:Val):cJ v=some (vF v):=by
 obtain⟨r,hr⟩:=AE v;unfold vF;rw[hr];rfl
theorem ot (v:Val):jN v=some (vF v):=(show jN v=cJ v from rfl).trans (fa v)
def Gf (v:Val):Val:=bif vF v then v else ef
theorem zJ (v:Val):nH v=some (Gf v):=by
 unfold nH Gf;rw[ot,ahQ,jr]
 cases vF v<;>rfl
theorem zX (v:Val):nQ v=some (Gf v):=by
 unfold nQ Gf;rw[fa,ahQ,bJ]
 cases vF v<;>rfl
theorem hH:vF ef=true:=by
 have e:(ByteArray.empty.toList==(⟨#[]⟩:ByteArray).toList)=true:=by rw[ByteArray.toList_eq,ByteArray.toList_eq];rfl
 unfold vF cJ ef;dsimp only;rw[e];rfl
theorem ln (v:Val):vF (Gf v)=true:=by
 unfold Gf
 cases h:vF v with
 |true=>exact h
 |false=>exact hH
def jL (b:Bool):Val:=bif b then⟨3,1,empty⟩else⟨3,0,empty⟩
theorem Ds (b:Bool):qB b=some (jL b):=by cases b<;>rfl
theorem qZ (b:Bool):oF b=some (jL b):=by cases b<;>rfl
theorem x9 (b:Bool):vF (jL b)=true:=by
 have e:(ByteArray.empty.toList==(⟨#[]⟩:ByteArray).toList)=true:=by rw[ByteArray.toList_eq,ByteArray.toList_eq];rfl
 unfold vF cJ jL
 cases b<;>(dsimp only[cond_true,cond_false];rw[e];rfl)
theorem iu (n:Int):jy n=some (Gf ⟨1,n,empty⟩):=by unfold jy;rw[zJ];rfl
theorem il (n:Int):iC n=some (Gf ⟨1,n,empty⟩):=by unfold iC;rw[zX];rfl
theorem Nx (s:ByteArray):wj s=some (Gf ⟨2,0,s⟩):=by unfold wj;rw[zJ];rfl
theorem Oc (s:ByteArray):AN s=some (Gf ⟨2,0,s⟩):=by unfold AN;rw[zX];rfl
def T3 (t:Int):Prop:=t=0\/t=1\/t=2
theorem th (v:Val):∃ t,ja v=some t/\eV v=some t/\T3 t:=by
 have e:ja v=eV v:=rfl;have h:∃ t,eV v=some t/\T3 t:=by
  unfold eV;rw[qZ,qZ];simp only[ahQ]
  cases cF [.c (.int .i64 v.kind),.c (.int .i64 v.int),.c (.str v.text)] [.c (.int .i64 (jL true).kind),.c (.int .i64 (jL true).int),.c (.str (jL true).text)]with
  |true=>exact⟨2,rfl,.inr (.inr rfl)⟩
  |false =>
   rw[ahS]
   cases cF [.c (.int .i64 v.kind),.c (.int .i64 v.int),.c (.str v.text)] [.c (.int .i64 (jL false).kind),.c (.int .i64 (jL false).int),.c (.str (jL false).text)]with
   |true=>exact⟨0,rfl,.inl rfl⟩
   |false=>exact⟨1,rfl,.inr (.inl rfl)⟩
 obtain⟨t,h1,h2⟩:=h;exact⟨t,e.trans h1,h1,h2⟩
def tF_ (v:Val):Int:=(eV v).getD 1
theorem ge (v:Val):ja v=some (tF_ v):=by obtain⟨t,h1,h2,_⟩:=th v;unfold tF_;rw[h1,h2];rfl
theorem kE (v:Val):eV v=some (tF_ v):=by obtain⟨t,h1,h2,_⟩:=th v;unfold tF_;rw[h2];rfl
theorem fG (v:Val):T3 (tF_ v):=by obtain⟨t,h1,h2,h3⟩:=th v;unfold tF_;rw[h2];exact h3
def yI (a:Int):Int:=if a=2 then 0 else if a=0 then 2 else 1
def BS (a b:Int):Int:=if a=0\/b=0 then 0 else if a=2/\b=2 then 2 else 1
def or3 (a b:Int):Int:=if a=2\/b=2 then 2 else if a=0/\b=0 then 0 else 1
theorem ox (a:Int):T3 (yI a):=by unfold yI;split;exact .inl rfl;split;exact .inr (.inr rfl);exact .inr (.inl rfl)
theorem EU (a b:Int):T3 (BS a b):=by unfold BS;split;exact .inl rfl;split;exact .inr (.inr rfl);exact .inr (.inl rfl)
theorem JD (a b:Int):T3 (or3 a b):=by unfold or3;split;exact .inr (.inr rfl);split;exact .inl rfl;exact .inr (.inl rfl)
theorem rr {a:Int}(h:T3 a):BU a=some (yI a):=by rcases h with rfl|rfl|rfl<;>rfl
theorem uo {a:Int}(h:T3 a):Ap a=some (yI a):=by rcases h with rfl|rfl|rfl<;>rfl
theorem Bd {a:Int}(h:T3 a):lI a=some a:=by rcases h with rfl|rfl|rfl<;>rfl
theorem Dl {a b:Int}(ha:T3 a)(hb:T3 b):wC [a,b]=some (pe (pe 2 a) b):=by
 unfold wC;rw[bP (l:=[a,b]) (mk:=λt i=>(t,i)) (f:=λt x=>(lI x).bind λr=>some (.inl (pe t r))) ?_ ?_ (by unfold fuel;simp) 2]
 .simp only[cb,Bd ha,Bd hb,ahQ]
  rfl
 .intro s i x hx
  have hi:=(ahR.1 hx).1;unfold rL;dsimp only;rw[aG hx,ahT,gn_ hx,wrapN (by simp at hi;omega)];simp only[ahQ]
  cases lI x<;>rfl
 .intro s
  unfold rL;dsimp only;rw[lF_,ahS]
theorem adl {a b:Int}(ha:T3 a)(hb:T3 b):J1 a b=some (BS a b):=by
 unfold J1;rw[Dl ha hb];rcases ha with rfl|rfl|rfl<;>rcases hb with rfl|rfl|rfl<;>rfl
theorem ab3 {a b:Int}(ha:T3 a)(hb:T3 b):AD a b=some (BS a b):=by
 rcases ha with rfl|rfl|rfl<;>rcases hb with rfl|rfl|rfl<;>rfl
theorem aeu {a b:Int}(ha:T3 a)(hb:T3 b):yZ a b=some (or3 a b):=by
 unfold yZ;rw[rr ha,rr hb];simp only[ahQ];rw[Dl (ox a) (ox b)];rcases ha with rfl|rfl|rfl<;>rcases hb with rfl|rfl|rfl<;>rfl
theorem acP {a b:Int}(ha:T3 a)(hb:T3 b):I2 a b=some (or3 a b):=by
 rcases ha with rfl|rfl|rfl<;>rcases hb with rfl|rfl|rfl<;>rfl
def tU (t:Int):Val:=if t=2 then jL true else if t=0 then jL false else ef
theorem iz {t:Int}(h:T3 t):u_ t=some (tU t):=by rcases h with rfl|rfl|rfl<;>rfl
theorem lJ {t:Int}(h:T3 t):xN t=some (tU t):=by rcases h with rfl|rfl|rfl<;>rfl
theorem nY (t:Int):vF (tU t)=true:=by
 unfold tU;split
 .exact x9 _
 .split
  .exact x9 _
  .exact hH
def Jq (a b:Val)(is:Bool):Int:=if a.kind=0\/a.kind≠b.kind then 1 else bif is then 2 else 0
theorem LU (a b:Val)(is:Bool):T3 (Jq a b is):=by
 unfold Jq;split
 .exact .inr (.inl rfl)
 .cases is
  .exact .inl rfl
  .exact .inr (.inr rfl)
theorem tA (a b:Val)(is:Bool):nI a b is=some (Jq a b is):=by
 unfold nI Jq;by_cases h1:a.kind=0
 .simp[h1]
 .by_cases h2:a.kind=b.kind
  .have hb:¬ b.kind=0:=by rw[<- h2];exact h1
   simp only[h2,ahU hb,ahS,ne_eq,not_true_eq_false,decide_false,or_false];rw[if_neg hb]
   cases is<;>rfl
  .simp only[ahU h1,ahS,ne_eq,h2,not_false_eq_true,decide_true,ahT,or_true,if_true]
theorem zF (a b:Val)(is:Bool):rK a b is=some (Jq a b is):=(show rK a b is=nI a b is from rfl).trans (tA a b is)
def eqF (a b:Val):Int:=Jq a b (decide (jl a b=0))
def ltF (a b:Val):Int:=Jq a b (decide (jl a b<0))
theorem adC (a b:Val):OC a b=some (eqF a b):=by unfold OC;rw[pN,ahQ,tA];rfl
theorem acn (a b:Val):Nq a b=some (eqF a b):=by unfold Nq;rw[uB,ahQ,zF];rfl
theorem NY (a b:Val):qG a b=some (ltF a b):=by unfold qG;rw[pN,ahQ,tA];rfl
theorem MR (a b:Val):qK a b=some (ltF a b):=by unfold qK;rw[uB,ahQ,zF];rfl
def nX (op:Int)(a b:Val):Int:=if op=7 then eqF a b else if op=8 then yI (eqF a b)else if op=9 then ltF a b else if op=11 then ltF b a else if op=10 then yI (ltF b a)else yI (ltF a b)
theorem Jx (a b:Val):T3 (eqF a b):=LU _ _ _
theorem vL (a b:Val):T3 (ltF a b):=LU _ _ _
theorem f5 (op:Int)(a b:Val):T3 (nX op a b):=by
 unfold nX;split
 .exact Jx _ _
 split
 .exact ox _
 split
 .exact vL _ _
 split
 .exact vL _ _
 split
 .exact ox _
 .exact ox _
theorem dT (op:Int)(a b:Val):jm op a b=some (nX op a b):=by
 unfold jm nX;simp only[adC,NY,ahQ,rr (Jx a b),rr (vL a b),rr (vL b a)];by_cases h1:op=7
 .simp[h1]
 by_cases h2:op=8
 .simp[h2]
 by_cases h3:op=9
 .simp[h3]
 by_cases h4:op=11
 .simp[h4]
 by_cases h5:op=10
 .simp[h5]
 simp[h1,h2,h3,h4,h5]
theorem fo (op:Int)(a b:Val):eO op a b=some (nX op a b):=by
 unfold eO nX;simp only[acn,MR,ahQ,uo (Jx a b),uo (vL a b),uo (vL b a)];by_cases h1:op=7
 .simp[h1]
 by_cases h2:op=8
 .simp[h2]
 by_cases h3:op=9
 .simp[h3]
 by_cases h4:op=11
 .simp[h4]
 by_cases h5:op=10
 .simp[h5]
 simp[h1,h2,h3,h4,h5]
def dM (p q:dV):Int :=
 if p.hi<q.lo then 0 else if p.hi=q.lo then 1 else if q.hi<p.lo then 12 else if q.hi=p.lo then 11 else if p.lo=q.lo/\p.hi=q.hi then 6
 else if p.lo=q.lo then(if p.hi<q.hi then 3 else 9)else if p.hi=q.hi then(if q.lo<p.lo then 5 else 7)
 else if p.lo<q.lo/\q.hi<p.hi then 8 else if q.lo<p.lo/\p.hi<q.hi then 4 else if p.lo<q.lo then 2 else 10
theorem cw (p q:dV):cF [.c (.int .i64 p.lo),.c (.int .i64 p.hi)] [.c (.int .i64 q.lo),.c (.int .i64 q.hi)]=decide (p.lo=q.lo/\p.hi=q.hi):=by
 simp[cF]
theorem acM (p q:dV):Ni p q=some (if cz p=true/\cz q=true then(dM p q,true)else(0,false)):=by
 unfold Ni;rw[abG,abG];simp only[ahQ]
 cases hp:cz p with
 |false=>simp
 |true =>
  cases hq:cz q with
  |false=>simp
  |true =>
   simp only[Bool.not_true,ahS,and_self,if_true,cw];unfold dM;by_cases h1:p.hi<q.lo
   .simp only[Bool.cond_decide,eq_true h1,if_true,if_false,and_true,true_and,and_false,false_and,and_self]
   by_cases h2:p.hi=q.lo
   .simp only[Bool.cond_decide,eq_true h2,eq_false h1,if_true,if_false,and_true,true_and,and_false,false_and,and_self]
   by_cases h3:q.hi<p.lo
   .simp only[Bool.cond_decide,eq_true h3,eq_false h1,eq_false h2,if_true,if_false,and_true,true_and,and_false,false_and,and_self]
   by_cases h4:q.hi=p.lo
   .simp only[Bool.cond_decide,eq_true h4,eq_false h1,eq_false h2,eq_false h3,if_true,if_false,and_true,true_and,and_false,false_and,and_self]
   by_cases h5:p.lo=q.lo
   .by_cases h6:p.hi=q.hi
    .simp only[Bool.cond_decide,eq_true h5,eq_true h6,eq_false h1,eq_false h2,eq_false h3,eq_false h4,if_true,if_false,and_true,true_and,and_false,false_and,and_self]
    .by_cases h7:p.hi<q.hi
     .simp only[Bool.cond_decide,eq_true h5,eq_true h7,eq_false h1,eq_false h2,eq_false h3,eq_false h4,eq_false h6,if_true,if_false,and_true,true_and,and_false,false_and,and_self]
     .simp only[Bool.cond_decide,eq_true h5,eq_false h1,eq_false h2,eq_false h3,eq_false h4,eq_false h6,eq_false h7,if_true,if_false,and_true,true_and,and_false,false_and,and_self]
   .by_cases h6:p.hi=q.hi
    .by_cases h7:q.lo<p.lo
     .simp only[Bool.cond_decide,eq_true h6,eq_true h7,eq_false h1,eq_false h2,eq_false h3,eq_false h4,eq_false h5,if_true,if_false,and_true,true_and,and_false,false_and,and_self]
     .simp only[Bool.cond_decide,eq_true h6,eq_false h1,eq_false h2,eq_false h3,eq_false h4,eq_false h5,eq_false h7,if_true,if_false,and_true,true_and,and_false,false_and,and_self]
    .by_cases h7:p.lo<q.lo
     .by_cases h8:q.hi<p.hi
      .simp only[Bool.cond_decide,eq_true h7,eq_true h8,eq_false h1,eq_false h2,eq_false h3,eq_false h4,eq_false h5,eq_false h6,if_true,if_false,and_true,true_and,and_false,false_and,and_self]
      .by_cases h9:q.lo<p.lo
       .omega
       .simp only[Bool.cond_decide,eq_true h7,eq_false h1,eq_false h2,eq_false h3,eq_false h4,eq_false h5,eq_false h6,eq_false h8,eq_false h9,if_true,if_false,and_true,true_and,and_false,false_and,and_self]
     .by_cases h8:q.lo<p.lo
      .by_cases h9:p.hi<q.hi
       .simp only[Bool.cond_decide,eq_true h8,eq_true h9,eq_false h1,eq_false h2,eq_false h3,eq_false h4,eq_false h5,eq_false h6,eq_false h7,if_true,if_false,and_true,true_and,and_false,false_and,and_self]
       .simp only[Bool.cond_decide,eq_true h8,eq_false h1,eq_false h2,eq_false h3,eq_false h4,eq_false h5,eq_false h6,eq_false h7,eq_false h9,if_true,if_false,and_true,true_and,and_false,false_and,and_self]
      .omega
theorem yR {p:dV}(h:cz p=true):0<=p.lo/\p.lo<p.hi/\p.hi<=1099511627776:=by
 unfold cz at h;simp only[ah9,decide_eq_true_eq]at h;omega
theorem OY {p q:dV}(hp:0<=p.lo/\p.lo<p.hi)(hq:0<=q.lo/\q.lo<q.hi):dM p q=0↔p.hi<q.lo:=by
 unfold dM
 repeat' split
 all_goals (constructor<;>intro h<;>omega)
theorem aec (p q:dV):fY 0 p q=some (decide (p.hi<q.lo)):=by
 unfold fY;simp only[Int.reduceEq,sl9,cw]<;>rfl
theorem ab1 {p q:dV}(hp:0<=p.lo/\p.lo<p.hi)(hq:0<=q.lo/\q.lo<q.hi):dM p q=1↔p.hi=q.lo:=by
 unfold dM
 repeat' split
 all_goals (constructor<;>intro h<;>omega)
theorem aex (p q:dV):fY 1 p q=some (decide (p.hi=q.lo)):=by
 unfold fY;simp only[Int.reduceEq,sl9,cw]<;>rfl
theorem abY {p q:dV}(hp:0<=p.lo/\p.lo<p.hi)(hq:0<=q.lo/\q.lo<q.hi):dM p q=2↔p.lo<q.lo/\q.lo<p.hi/\p.hi<q.hi:=by
 unfold dM
 repeat' split
 all_goals (constructor<;>intro h<;>omega)
theorem aeB (p q:dV):fY 2 p q=some (decide (p.lo<q.lo/\q.lo<p.hi/\p.hi<q.hi)):=by
 unfold fY;simp only[Int.reduceEq,sl9,cw];by_cases h0:p.lo<q.lo<;>by_cases h1:q.lo<p.hi<;>simp[h0,h1]
theorem aar {p q:dV}(hp:0<=p.lo/\p.lo<p.hi)(hq:0<=q.lo/\q.lo<q.hi):dM p q=3↔p.lo=q.lo/\p.hi<q.hi:=by
 unfold dM
 repeat' split
 all_goals (constructor<;>intro h<;>omega)
theorem ae6 (p q:dV):fY 3 p q=some (decide (p.lo=q.lo/\p.hi<q.hi)):=by
 unfold fY;simp only[Int.reduceEq,sl9,cw];by_cases h0:p.lo=q.lo<;>simp[h0]
theorem OT {p q:dV}(hp:0<=p.lo/\p.lo<p.hi)(hq:0<=q.lo/\q.lo<q.hi):dM p q=4↔q.lo<p.lo/\p.hi<q.hi:=by
 unfold dM
 repeat' split
 all_goals (constructor<;>intro h<;>omega)
theorem aem (p q:dV):fY 4 p q=some (decide (q.lo<p.lo/\p.hi<q.hi)):=by
 unfold fY;simp only[Int.reduceEq,sl9,cw];by_cases h0:q.lo<p.lo<;>simp[h0]
theorem ab5 {p q:dV}(hp:0<=p.lo/\p.lo<p.hi)(hq:0<=q.lo/\q.lo<q.hi):dM p q=5↔p.hi=q.hi/\q.lo<p.lo:=by
 unfold dM
 repeat' split
 all_goals (constructor<;>intro h<;>omega)
theorem aeG (p q:dV):fY 5 p q=some (decide (p.hi=q.hi/\q.lo<p.lo)):=by
 unfold fY;simp only[Int.reduceEq,sl9,cw];by_cases h0:p.hi=q.hi<;>simp[h0]
theorem aba {p q:dV}(hp:0<=p.lo/\p.lo<p.hi)(hq:0<=q.lo/\q.lo<q.hi):dM p q=6↔p.lo=q.lo/\p.hi=q.hi:=by
 unfold dM
 repeat' split
 all_goals (constructor<;>intro h<;>omega)
theorem aeq (p q:dV):fY 6 p q=some (decide (p.lo=q.lo/\p.hi=q.hi)):=by
 unfold fY;simp only[Int.reduceEq,sl9,cw]<;>rfl
theorem aaf {p q:dV}(hp:0<=p.lo/\p.lo<p.hi)(hq:0<=q.lo/\q.lo<q.hi):dM p q=7↔p.hi=q.hi/\p.lo<q.lo:=by
 unfold dM
 repeat' split
 all_goals (constructor<;>intro h<;>omega)
theorem ae1 (p q:dV):fY 7 p q=some (decide (p.hi=q.hi/\p.lo<q.lo)):=by
 unfold fY;simp only[Int.reduceEq,sl9,cw];by_cases h0:p.hi=q.hi<;>simp[h0]
theorem aaG {p q:dV}(hp:0<=p.lo/\p.lo<p.hi)(hq:0<=q.lo/\q.lo<q.hi):dM p q=8↔p.lo<q.lo/\q.hi<p.hi:=by
 unfold dM
 repeat' split
 all_goals (constructor<;>intro h<;>omega)
theorem ae3 (p q:dV):fY 8 p q=some (decide (p.lo<q.lo/\q.hi<p.hi)):=by
 unfold fY;simp only[Int.reduceEq,sl9,cw];by_cases h0:p.lo<q.lo<;>simp[h0]
theorem ab8 {p q:dV}(hp:0<=p.lo/\p.lo<p.hi)(hq:0<=q.lo/\q.lo<q.hi):dM p q=9↔p.lo=q.lo/\q.hi<p.hi:=by
 unfold dM
 repeat' split
 all_goals (constructor<;>intro h<;>omega)
theorem aeh (p q:dV):fY 9 p q=some (decide (p.lo=q.lo/\q.hi<p.hi)):=by
 unfold fY;simp only[Int.reduceEq,sl9,cw];by_cases h0:p.lo=q.lo<;>simp[h0]
theorem Oj {p q:dV}(hp:0<=p.lo/\p.lo<p.hi)(hq:0<=q.lo/\q.lo<q.hi):dM p q=10↔q.lo<p.lo/\p.lo<q.hi/\q.hi<p.hi:=by
 unfold dM
 repeat' split
 all_goals (constructor<;>intro h<;>omega)
theorem ac' (p q:dV):fY 10 p q=some (decide (q.lo<p.lo/\p.lo<q.hi/\q.hi<p.hi)):=by
 unfold fY;simp only[Int.reduceEq,sl9,cw];by_cases h0:q.lo<p.lo<;>by_cases h1:p.lo<q.hi<;>simp[h0,h1]
theorem MY {p q:dV}(hp:0<=p.lo/\p.lo<p.hi)(hq:0<=q.lo/\q.lo<q.hi):dM p q=11↔q.hi=p.lo:=by
 unfold dM
 repeat' split
 all_goals (constructor<;>intro h<;>omega)
theorem ady (p q:dV):fY 11 p q=some (decide (q.hi=p.lo)):=by
 unfold fY;simp only[Int.reduceEq,sl9,cw]<;>rfl
theorem ND {p q:dV}(hp:0<=p.lo/\p.lo<p.hi)(hq:0<=q.lo/\q.lo<q.hi):dM p q=12↔q.hi<p.lo:=by
 unfold dM
 repeat' split
 all_goals (constructor<;>intro h<;>omega)
theorem adh (p q:dV):fY 12 p q=some (decide (q.hi<p.lo)):=by
 unfold fY;simp only[Int.reduceEq,sl9,cw]<;>rfl
theorem s8 (p q:dV):0<=dM p q/\dM p q<13:=by
 unfold dM
 repeat' split
 all_goals omega
theorem aaP {rel:Int}(h:¬ (0<=rel/\rel<13))(p q:dV):fY rel p q=some false:=by
 unfold fY;rw[ahU (show ¬ rel=0 by omega),ahS];rw[ahU (show ¬ rel=1 by omega),ahS];rw[ahU (show ¬ rel=2 by omega),ahS];rw[ahU (show ¬ rel=3 by omega),ahS];rw[ahU (show ¬ rel=4 by omega),ahS];rw[ahU (show ¬ rel=5 by omega),ahS];rw[ahU (show ¬ rel=6 by omega),ahS];rw[ahU (show ¬ rel=7 by omega),ahS];rw[ahU (show ¬ rel=8 by omega),ahS];rw[ahU (show ¬ rel=9 by omega),ahS];rw[ahU (show ¬ rel=10 by omega),ahS];rw[ahU (show ¬ rel=11 by omega),ahS];rw[ahU (show ¬ rel=12 by omega),ahS]
theorem abt {p q:dV}(hp:cz p=true)(hq:cz q=true)(rel:Int):fY rel p q=some (decide (dM p q=rel)):=by
 obtain⟨p1,p2,p3⟩:=yR hp;obtain⟨q1,q2,q3⟩:=yR hq;by_cases hr:0<=rel/\rel<13
 .have:rel=0\/rel=1\/rel=2\/rel=3\/rel=4\/rel=5\/rel=6\/rel=7\/rel=8\/rel=9\/rel=10\/rel=11\/rel=12:=m0
  obtain rfl|rfl|rfl|rfl|rfl|rfl|rfl|rfl|rfl|rfl|rfl|rfl|rfl:=this
  .rw[aec];congr 1;rw[decide_eq_decide,OY ⟨p1,p2⟩ ⟨q1,q2⟩]
  .rw[aex];congr 1;rw[decide_eq_decide,ab1 ⟨p1,p2⟩ ⟨q1,q2⟩]
  .rw[aeB];congr 1;rw[decide_eq_decide,abY ⟨p1,p2⟩ ⟨q1,q2⟩]
  .rw[ae6];congr 1;rw[decide_eq_decide,aar ⟨p1,p2⟩ ⟨q1,q2⟩]
  .rw[aem];congr 1;rw[decide_eq_decide,OT ⟨p1,p2⟩ ⟨q1,q2⟩]
  .rw[aeG];congr 1;rw[decide_eq_decide,ab5 ⟨p1,p2⟩ ⟨q1,q2⟩]
  .rw[aeq];congr 1;rw[decide_eq_decide,aba ⟨p1,p2⟩ ⟨q1,q2⟩]
  .rw[ae1];congr 1;rw[decide_eq_decide,aaf ⟨p1,p2⟩ ⟨q1,q2⟩]
  .rw[ae3];congr 1;rw[decide_eq_decide,aaG ⟨p1,p2⟩ ⟨q1,q2⟩]
  .rw[aeh];congr 1;rw[decide_eq_decide,ab8 ⟨p1,p2⟩ ⟨q1,q2⟩]
  .rw[ac'];congr 1;rw[decide_eq_decide,Oj ⟨p1,p2⟩ ⟨q1,q2⟩]
  .rw[ady];congr 1;rw[decide_eq_decide,MY ⟨p1,p2⟩ ⟨q1,q2⟩]
  .rw[adh];congr 1;rw[decide_eq_decide,ND ⟨p1,p2⟩ ⟨q1,q2⟩]
 .rw[aaP hr,ahU]
  have:=s8 p q;omega
theorem BH (rel:Int)(p q:dV):vh rel p q=some (cz p&&(cz q&&decide (dM p q=rel))):=by
 unfold vh;rw[A3,A3];simp only[ahQ]
 cases hp:cz p with
 |false=>rfl
 |true =>
  cases hq:cz q with
  |false=>rfl
  |true=>rw[abt hp hq];rfl
theorem IQ (p q:dV)(h:cz p=true/\cz q=true):∀ (n i:Nat),(i:Int)<=dM p q->13-i<n->af (mA p q) n (i:Int)=some (.inr (dM p q,true))
 |0,i,_,h2=>by omega
 |n+1,i,h1,h2=>by
  have hr:=s8 p q;rw[af];unfold mA;dsimp only;rw[ahV (show(i:Int)<13 by omega),ahT,BH,ahQ,h.1,h.2,wrapN m0];by_cases e:dM p q=i
  .rw[e];simp
  .simp only[ain,ahU e,ahS]
   exact IQ p q h n (i+1) m0 m0
theorem IC (p q:dV)(h:¬ (cz p=true/\cz q=true)):∀ (n i:Nat),i<=13->13-i<n->af (mA p q) n (i:Int)=some (.inl ((13:Nat):Int))
 |0,i,_,h2=>by omega
 |n+1,i,h1,h2=>by
  rw[af];unfold mA;dsimp only;by_cases hi:i=13
  .subst hi;rfl
  .rw[ahV (show(i:Int)<13 by omega),ahT,BH,ahQ,wrapN m0]
   have:(cz p&&(cz q&&decide (dM p q=i)))=false:=by
    cases hp:cz p<;>cases hq:cz q<;>simp_all
   rw[this,ahS];exact IC p q h n (i+1) m0 m0
theorem acd (p q:dV):IV p q=some (if cz p=true/\cz q=true then(dM p q,true)else(0,false)):=by
 unfold IV;by_cases h:cz p=true/\cz q=true
 .have:=IQ p q h fuel 0 (s8 p q).1 (by unfold fuel;omega)
  rw[show((0:Nat):Int)=0 from rfl]at this;rw[this,if_pos h];rfl
 .have:=IC p q h fuel 0 m0 (by unfold fuel;omega)
  rw[show((0:Nat):Int)=0 from rfl]at this;rw[this,if_neg h];rfl
def qo (row:List Val)(i:Int):Val:=if 0<=i then(row[i.toNat]?).getD ef else ef
theorem abb (row:List Val)(i:Int):gAt row i=some (qo row i):=by
 unfold gAt qo;by_cases h1:i<0
 .rw[ahV h1,ahT,if_neg m0];rfl
 .rw[ahU h1,ahS,if_pos m0]
  by_cases h2:(row.length:Int)<=i
  .rw[ahV h2,ahT,List.getElem?_eq_none m0];rfl
  .rw[ahU h2,ahS]
   obtain⟨x,hx⟩:=gol_ (show i.toNat<row.length by omega);unfold al;rw[if_pos m0,hx];rfl
theorem L8 (row:List Val)(i:Int):Gv row i=some (qo row i):=(show Gv row i=gAt row i from rfl).trans (abb row i)
theorem N9 (row:List Val)(i:Int):GL row [i]=some [qo row i]:=by
 unfold GL;simp only[aib,aik];rw[show decide ((0:Int)<=(((0+1:Nat)):Int))=true from rfl,show decide ((32:Int)*(((0+1:Nat)):Int)<=281474976710656)=true from rfl,show decide ((((0+1:Nat)):Int)<=9223372036854775807)=true from rfl];simp only[ahT];rw[bP (l:=[i]) (mk:=λt i=>(t,i)) (f:=push (qo row) 4398046511104) ?_ ?_ (by unfold fuel;simp) []]
 .rw[ra _ _ _ _ m5];rfl
 .intro s j x hx
  have hi:=(ahR.1 hx).1;unfold um push;dsimp only;rw[aG hx,ahT,gn_ hx];simp only[ahQ];rw[abb,ahQ,wrapN (by simp at hi;omega)]
  cases decide (s.length+1<=4398046511104)<;>rfl
 .intro s
  unfold um;dsimp only;rw[lF_,ahS]
theorem Jg (row:List Val)(i:Int):uO row i=some (Gf (qo row i)):=by
 unfold uO;rw[N9,ahQ,show al [qo row i] (0:Int)=some (qo row i)from rfl,ahQ,ot,ahQ,jr];unfold Gf
 cases vF (qo row i)<;>rfl
theorem NH (e:Ex)(row:List Val)(h:e.op=2):xm e row=some (Gf (qo row e.int)):=by
 unfold xm;rw[h,show decide ((2:Int)=2)=true from rfl,ahT,L8,ahQ,fa,ahQ,bJ];unfold Gf
 cases vF (qo row e.int)<;>rfl
theorem H8 (e:Ex)(row:List Val)(h:e.op=1)(hv:vF e.v=true):xm e row=some e.v:=by
 unfold xm;rw[h,show decide ((1:Int)=2)=false from rfl,ahS,fa,ahQ,hv];rfl
def dD (l:List Val)(k:Int):Bool:=l.all λv=>decide (v.kind=k)
theorem jU (l:List Val)(k:Int)(hl:l.length<=1000000):GG l k=some (dD l k):=by
 unfold GG;rw[bP (l:=l) (mk:=λ(_:Unit) i=>i) (f:=λ_ v=>some (if v.kind≠k then .inr false else .inl ())) ?_ ?_ (by unfold fuel;omega) ()]
 .have:∀ l:List Val,cb (ρ:=Bool) (λ(_:Unit) (v:Val)=>some (if v.kind≠k then .inr false else .inl ())) () l=some (if dD l k=true then .inl ()else .inr false):=by
   intro l
   induction l with
   |nil=>rfl
   |cons v l ih =>
    rw[cb];by_cases h:v.kind=k
    .simp only[ne_eq,h,not_true_eq_false,if_false]
     rw[ih];simp[dD,h]
    .simp[dD,h]
  rw[this]
  cases dD l k<;>rfl
 .intro s i x hx
  have hi:=(ahR.1 hx).1;unfold xY;dsimp only;rw[aG hx,ahT,gn_ hx,wrapN m0];simp only[ahQ];by_cases h:x.kind=k
  .simp[h,mT]
  .simp[h,mT]
 .intro s
  unfold xY;dsimp only;rw[lF_,ahS]
def ue (f:Int->Int->Int)(l:List Val)(t:Int):Int:=l.foldl (λt v=>f t (tF_ v)) t
theorem yd {f:Int->Int->Int}(hf:∀ a b,T3 (f a b)):∀ (l:List Val) (t:Int),T3 t->T3 (ue f l t)
 |[],t,h=>h
 |v::l,t,h=>yd hf l _ (hf _ _)
theorem vd {f:Int->Int->Int}(hf:∀ a b,T3 (f a b)){g:Int->Int->Option Int}(hg:∀ a b,T3 a->T3 b->g a b=some (f a b)):∀ (l:List Val) (t:Int),T3 t->cb (ρ:=Val) (λt v=>(g t (tF_ v)).bind λr=>some (.inl r)) t l=some (.inl (ue f l t))
 |[],t,h=>rfl
 |v::l,t,h=>by
  rw[cb,hg _ _ h (fG v)];exact vd hf hg l _ (hf _ _)
theorem JE (x:Val)(l:List Val)(hl:l.length<=1000000):kW 5 (x::l)=some (tU (ue BS l (tF_ x))):=by
 unfold kW;rw[show al (x::l) (0:Int)=some x from rfl,ahQ,ge,ahQ,show decide ((5:Int)=4)=false from rfl,ahS,show decide ((5:Int)=5)=true from rfl,ahT];rw[show gE (x::l) (1:Int) (((x::l).length:Nat):Int)=some l by unfold gE;rw[if_pos (by simp only[aib];omega)];simp,ahQ];rw[bP (l:=l) (mk:=λt i=>(t,i)) (f:=λt v=>(J1 t (tF_ v)).bind λr=>some (.inl r)) ?_ ?_ (by unfold fuel;omega) (tF_ x)]
 .rw[vd EU (λa b ha hb=>adl ha hb) l _ (fG x)]
  show(u_ (ue BS l (tF_ x))).bind _=_;rw[iz (yd EU l _ (fG x))];rfl
 .intro s i v hv
  have hi:=(ahR.1 hv).1;unfold rH;dsimp only;rw[aG hv,ahT,gn_ hv,wrapN m0];simp only[ahQ];rw[ge,ahQ]
  cases J1 s (tF_ v)<;>rfl
 .intro s
  unfold rH;dsimp only;rw[lF_,ahS]
theorem Ny (x:Val)(l:List Val)(hl:l.length<=1000000):kW 6 (x::l)=some (tU (ue or3 l (tF_ x))):=by
 unfold kW;rw[show al (x::l) (0:Int)=some x from rfl,ahQ,ge,ahQ,show decide ((6:Int)=4)=false from rfl,ahS,show decide ((6:Int)=5)=false from rfl,ahS];rw[show gE (x::l) (1:Int) (((x::l).length:Nat):Int)=some l by unfold gE;rw[if_pos (by simp only[aib];omega)];simp,ahQ];rw[bP (l:=l) (mk:=λt i=>(t,i)) (f:=λt v=>(yZ t (tF_ v)).bind λr=>some (.inl r)) ?_ ?_ (by unfold fuel;omega) (tF_ x)]
 .rw[vd JD (λa b ha hb=>aeu ha hb) l _ (fG x)]
  show(u_ (ue or3 l (tF_ x))).bind _=_;rw[iz (yd JD l _ (fG x))];rfl
 .intro s i v hv
  have hi:=(ahR.1 hv).1;unfold rS;dsimp only;rw[aG hv,ahT,gn_ hv,wrapN m0];simp only[ahQ];rw[ge,ahQ]
  cases yZ s (tF_ v)<;>rfl
 .intro s
  unfold rS;dsimp only;rw[lF_,ahS]
theorem KF (x:Val):kW 4 [x]=some (tU (yI (tF_ x))):=by
 unfold kW;rw[show al [x] (0:Int)=some x from rfl,ahQ,ge,ahQ,show decide ((4:Int)=4)=true from rfl,ahT,rr (fG x),ahQ,iz (ox _)];rfl
theorem zN (op:Int)(f:Int->Int->Int)(hf:∀ a b,T3 (f a b))(TJ:∀ a b,T3 a->T3 b->(bif decide (op=5)then AD a b else I2 a b)=some (f a b))(x:Val)(l:List Val)(hl:l.length<=1000000):sb op (x::l)=some (tU (ue f l (tF_ x))):=by
 unfold sb;rw[show al (x::l) (0:Int)=some x from rfl,ahQ,kE,ahQ];have:=EC (l:=x::l) (body:=kI op (x::l)) (ρ:=Val) (mk:=λt i=>(t,i)) (f:=λt v=>(bif decide (op=5)then AD t (tF_ v)else I2 t (tF_ v)).bind λr=>some (.inl r)) (by
  intro s i v hv;have hi:=(ahR.1 hv).1;unfold kI;dsimp only;rw[aG hv,ahT,gn_ hv,wrapN (by simp at hi;omega)];simp only[ahQ,kE]
  cases decide (op=5)
  .simp only[ahS];cases I2 s (tF_ v)<;>rfl
  .simp only[ahT];cases AD s (tF_ v)<;>rfl) (by
  intro s;unfold kI;dsimp only;rw[lF_,ahS]) fuel 1 (tF_ x) m5 (by unfold fuel;simp;omega)
 rw[show((1:Nat):Int)=1 from rfl]at this;rw[this];have h2:=vd hf TJ l (tF_ x) (fG x);rw[show(x::l).drop 1=l from rfl,h2];show(xN (ue f l (tF_ x))).bind _=_;rw[lJ (yd hf l _ (fG x))];rfl
theorem rJ (s:ByteArray):(s.toList==(⟨#[]⟩:ByteArray).toList)=true↔s=empty:=by
 rw[beq_iff_eq,ByteArray.toList_eq,ByteArray.toList_eq];constructor
 .intro h
  have:s.data.toList=[]:=h;obtain⟨d⟩:=s;obtain⟨l⟩:=d;simp at this;subst this;rfl
 .rintro rfl;rfl
structure VV (v:Val):Prop where
 kind:0<=v.kind/\v.kind<=3
 int : -1125899906842624<=v.int/\v.int<=1125899906842624
 text:v.text.size<=200
theorem oT {v:Val}(h:vF v=true):VV v:=by
 have hx:=fa v;rw[h]at hx;unfold cJ at hx;have e0:∀ s:ByteArray,s=empty->s.size<=200:=by rintro s rfl;decide
 by_cases k0:v.kind=0
 .rw[ahV k0,ahT]at hx
  by_cases i0:v.int=0
  .rw[ahV i0,ahT]at hx
   have:=(rJ _).1 (aim hx);exact⟨m0,m0,e0 _ this⟩
  .rw[ahU i0,ahS]at hx;cases hx
 rw[ahU k0,ahS]at hx;by_cases k1:v.kind=1
 .rw[ahV k1,ahT]at hx
  by_cases t0:(v.text.toList==(⟨#[]⟩:ByteArray).toList)=true
  .rw[t0,ahT]at hx
   by_cases i1:(-1125899906842624:Int)<=v.int
   .rw[ahV i1,ahT]at hx
    have:=aii (aim hx);exact⟨m0,⟨i1,this⟩,e0 _ ((rJ _).1 t0)⟩
   .rw[ahU i1,ahS]at hx;cases hx
  .rw[Bool.not_eq_true]at t0
   rw[t0,ahS]at hx;cases hx
 rw[ahU k1,ahS]at hx;by_cases k2:v.kind=2
 .rw[ahV k2,ahT]at hx
  by_cases i0:v.int=0
  .rw[ahV i0,ahT]at hx
   by_cases t2:(v.text.size:Int)<=200
   .exact⟨m0,m0,m0⟩
   .rw[ahU t2,ahS]at hx;cases hx
  .rw[ahU i0,ahS]at hx;cases hx
 rw[ahU k2,ahS]at hx;by_cases k3:v.kind=3
 .rw[ahV k3,ahT]at hx
  by_cases t0:(v.text.toList==(⟨#[]⟩:ByteArray).toList)=true
  .rw[t0,ahT]at hx
   by_cases i0:v.int=0
   .exact⟨m0,m0,e0 _ ((rJ _).1 t0)⟩
   .rw[ahU i0,ahS]at hx
    have:=aii (aim hx);exact⟨m0,m0,e0 _ ((rJ _).1 t0)⟩
  .rw[Bool.not_eq_true]at t0
   rw[t0,ahS]at hx;cases hx
 rw[ahU k3,ahS]at hx
 cases hx
theorem VV.vok {v:Val}(h:VV v):KO v:=⟨⟨by have:=h.kind;omega,by have:=h.kind;omega⟩,⟨by have:=h.int;omega,by have:=h.int;omega⟩,by have:=h.text;omega⟩
abbrev agf (n:Int):Val:=Gf ⟨1,n,empty⟩
abbrev af6 (s:ByteArray):Val:=Gf ⟨2,0,s⟩
def acl (op a b:Int):Val:=(cu op a b).getD ef
theorem aeW {a:Int}(h : -1125899906842624<=a/\a<=1125899906842624):wZ a (i64.wrap (0-a))=(a.natAbs:Int):=by
 rw[aV m0];unfold wZ;split<;>omega
theorem Cc (a b:Int):pP a b=cu 15 a b:=by
 unfold pP cu;rw[show decide ((15:Int)=13)=false from rfl,show decide ((15:Int)=14)=false from rfl,show decide ((15:Int)=15)=true from rfl];simp only[ahT,ahS]
 cases decide (a≠0)with
 |false=>simp only[ahS];rw[iu,il]
 |true =>
  simp only[ahT];unfold N7;simp only[ahQ];rw[iu,il];rfl
theorem FH {op a b:Int}(ha : -1125899906842624<=a/\a<=1125899906842624):∃ v,cu op a b=some v/\vF v=true:=by
 unfold cu;simp only[il,ahQ,bJ]
 cases decide (op=13)with
 |true=>exact⟨_,rfl,ln _⟩
 |false =>
 cases decide (op=14)with
 |true=>exact⟨_,rfl,ln _⟩
 |false =>
 cases decide (op=15)with
 |true =>
  simp only[ahT,ahS];by_cases h:a=0
  .subst h;exact⟨_,rfl,ln _⟩
  .rw[ahV (show a≠0 from h),ahT]
   unfold N7;simp only[ahQ];rw[aeW ha,ahV (show(a.natAbs:Int)≠0 by omega),ahT];generalize decide (i64.wrap ((1125899906842624:Int).tdiv (a.natAbs:Int))<wZ b (i64.wrap (0-b)))=c
   cases c with
   |true=>exact⟨_,rfl,hH⟩
   |false=>exact⟨_,rfl,ln _⟩
 |false =>
  simp only[ahS];by_cases h:b=0
  .rw[ahV h];exact⟨_,rfl,hH⟩
  .rw[ahU h,ahV (show b≠0 from h)]
   simp only[ahT,ahS]
   cases decide (op=16)with
   |true=>exact⟨_,rfl,ln _⟩
   |false=>exact⟨_,rfl,ln _⟩
theorem ee {op a b:Int}(ha : -1125899906842624<=a/\a<=1125899906842624):cu op a b=some (acl op a b)/\vF (acl op a b)=true:=by
 obtain⟨v,h1,h2⟩:=FH (op:=op) (b:=b) ha;unfold acl;rw[h1];exact⟨rfl,h2⟩
theorem Bm (l:List Val)(hl:l.length<=1000000):af (mU l) fuel (0:Int)=some (bif dD l 1 then .inl (l.length:Int)else .inr ef):=by
 rw[bP (l:=l) (mk:=λ(_:Unit) i=>i) (f:=λ_ v=>some (if v.kind≠1 then .inr ef else .inl ())) ?_ ?_ (by unfold fuel;omega) ()]
 .have:∀ l:List Val,cb (ρ:=Val) (λ(_:Unit) (v:Val)=>some (if v.kind≠1 then .inr ef else .inl ())) () l=some (if dD l 1=true then .inl ()else .inr ef):=by
   intro l
   induction l with
   |nil=>rfl
   |cons v l ih =>
    rw[cb];by_cases h:v.kind=1
    .simp only[ne_eq,h,not_true_eq_false,if_false]
     rw[ih];simp[dD,h]
    .simp[dD,h]
  rw[this]
  cases dD l 1<;>rfl
 .intro s i x hx
  have hi:=(ahR.1 hx).1;unfold mU;dsimp only;rw[aG hx,ahT,gn_ hx,wrapN m0];simp only[ahQ];by_cases h:x.kind=1
  .simp[h,mT]
  .simp[h,mT,jr]
 .intro s
  unfold mU;dsimp only;rw[lF_,ahS]
def dP (op:Int)(a b:Val):Val:=bif dD [a,b] 1 then acl op a.int b.int else ef
theorem kB {op:Int}{a b:Val}(ha:VV a)(h:op=13\/op=14\/op=15\/op=16\/op=17):jF op [a,b]=some (dP op a b):=by
 unfold jF dP;rw[Bm _ m5]
 cases dD [a,b] 1 with
 |false=>rfl
 |true =>
  simp only[ahT,ahQ];have hc:=(ee (op:=op) (b:=b.int) ha.int).1;rw[<- hc];unfold j6;dsimp only;rw[show al [a,b] (0:Int)=some a from rfl,ahQ,show al [a,b] (i64.wrap ((([a,b].length:Nat):Int)-1))=some b from rfl,ahQ];obtain rfl|rfl|rfl|rfl|rfl:=h
  .unfold cu
   rw[show decide ((13:Int)=13)=true from rfl,ahT,ahT,il,iu]
  .unfold cu
   rw[show decide ((14:Int)=13)=false from rfl,show decide ((14:Int)=14)=true from rfl];simp only[ahT,ahS];rw[il,iu]
  .rw[show decide ((15:Int)=13)=false from rfl,show decide ((15:Int)=14)=false from rfl,show decide ((15:Int)=15)=true from rfl]
   simp only[ahT,ahS];rw[Cc]
   cases cu 15 a.int b.int<;>rfl
  .unfold cu
   rw[show decide ((16:Int)=13)=false from rfl,show decide ((16:Int)=14)=false from rfl,show decide ((16:Int)=15)=false from rfl,show decide ((16:Int)=18)=false from rfl,show decide ((16:Int)=16)=true from rfl];simp only[ahT,ahS,iu,il,jr,bJ]
  .unfold cu
   rw[show decide ((17:Int)=13)=false from rfl,show decide ((17:Int)=14)=false from rfl,show decide ((17:Int)=15)=false from rfl,show decide ((17:Int)=18)=false from rfl,show decide ((17:Int)=16)=false from rfl];simp only[ahT,ahS,iu,il,jr,bJ]
def HD (a:Val):Val:=bif dD [a] 1 then agf (i64.wrap (0-a.int))else ef
theorem JR (a:Val):jF 18 [a]=some (HD a):=by
 unfold jF HD;rw[Bm _ m5]
 cases dD [a] 1 with
 |false=>rfl
 |true =>
  simp only[ahT,ahQ];show(jy _).bind _=_;rw[iu];rfl
def FN (a b:Val):Val:=bif dD [a,b] 2 then af6 (a.text++b.text)else ef
def F3 (a:Val):Val:=bif dD [a] 2 then agf (a.text.size:Int)else ef
theorem KH {a b:Val}(ha:VV a)(hb:VV b):pF 19 [a,b]=some (FN a b):=by
 unfold pF FN;rw[jU _ _ m5,ahQ]
 cases dD [a,b] 2 with
 |false=>rfl
 |true =>
  have h1:=ha.text;have h2:=hb.text;rw[Bool.not_true,ahS,ahT,show decide ((19:Int)=19)=true from rfl,ahT,show al [a,b] (0:Int)=some a from rfl,ahQ,show al [a,b] (1:Int)=some b from rfl,ahQ];rw[ahV (show a.text.size+b.text.size<=9223372036854775807 by omega),ahT,Oc];rfl
theorem KE (a:Val):pF 20 [a]=some (F3 a):=by
 unfold pF F3;rw[jU _ _ m5,ahQ]
 cases dD [a] 2 with
 |false=>rfl
 |true =>
  rw[Bool.not_true,ahS,ahT,show decide ((20:Int)=19)=false from rfl,ahS,show al [a] (0:Int)=some a from rfl,ahQ,il];rfl
def lZ (p:Int×ByteArray)(x:Val):Option (Sum (Int×ByteArray) Val):=bif decide (x.kind≠2)then some (.inr ef)else bif decide (p.2.size+x.text.size<=9223372036854775807)then some (.inl (i64.wrap (p.1+(x.text.size:Int)),p.2++x.text))else none
theorem Be (op:Int)(l:List Val)(hl:l.length<=1000000):qj op l=(zl (λ(p:Int×ByteArray) i=>(p.1,p.2,i)) l.length (cb lZ (0,⟨#[]⟩) l)).bind (kj op):=by
 unfold qj;rw[bP (l:=l) (mk:=λ(p:Int×ByteArray) i=>(p.1,p.2,i)) (f:=lZ) ?_ ?_ (by unfold fuel;omega) ((0:Int),(⟨#[]⟩:ByteArray))]
 .intro s i x hx
  have hi:=(ahR.1 hx).1;unfold qP lZ;dsimp only;rw[aG hx,ahT,gn_ hx,wrapN m0];simp only[ahQ]
  cases decide (x.kind≠2)with
  |true=>rfl
  |false =>
   simp only[ahS]
   cases decide (s.2.size+x.text.size<=9223372036854775807)<;>rfl
 .intro s
  unfold qP;dsimp only;rw[lF_,ahS]
theorem acy (s:ByteArray):(⟨#[]⟩:ByteArray)++s=s:=by
 apply ByteArray.ext;simp
theorem I8 {a b:Val}(ha:VV a)(hb:VV b):qj 19 [a,b]=some (FN a b):=by
 have h1:=ha.text;have h2:=hb.text;have h0:(⟨#[]⟩:ByteArray).size=0:=rfl;rw[Be _ _ m5];unfold FN;by_cases ka:a.kind=2
 .by_cases kb:b.kind=2
  .have e:dD [a,b] 2=true:=by simp[dD,ka,kb]
   rw[e];simp only[cb,lZ];rw[ahU (show ¬ a.kind≠2 by omega),ahS,ahV (show(⟨#[]⟩:ByteArray).size+a.text.size<=9223372036854775807 by rw[h0];omega),ahT];simp only[];rw[ahU (show ¬ b.kind≠2 by omega),ahS,acy,ahV (show a.text.size+b.text.size<=9223372036854775807 by omega),ahT];show(wj (a.text++b.text)).bind _=_;rw[Nx];rfl
  .have e:dD [a,b] 2=false:=by simp[dD,kb]
   rw[e];simp only[cb,lZ];rw[ahU (show ¬ a.kind≠2 by omega),ahS,ahV (show(⟨#[]⟩:ByteArray).size+a.text.size<=9223372036854775807 by rw[h0];omega),ahT];simp only[];rw[ahV (show b.kind≠2 from kb),ahT];rfl
 .have e:dD [a,b] 2=false:=by simp[dD,ka]
  rw[e];simp only[cb,lZ];rw[ahV (show a.kind≠2 from ka),ahT];rfl
theorem JW {a:Val}(ha:VV a):qj 20 [a]=some (F3 a):=by
 have h1:=ha.text;have h0:(⟨#[]⟩:ByteArray).size=0:=rfl;rw[Be _ _ m5];unfold F3;by_cases ka:a.kind=2
 .have e:dD [a] 2=true:=by simp[dD,ka]
  rw[e];simp only[cb,lZ];rw[ahU (show ¬ a.kind≠2 by omega),ahS,ahV (show(⟨#[]⟩:ByteArray).size+a.text.size<=9223372036854775807 by rw[h0];omega),ahT];show(jy (i64.wrap (0+(a.text.size:Int)))).bind _=_;rw[iu,Int.zero_add,aV m0];rfl
 .have e:dD [a] 2=false:=by simp[dD,ka]
  rw[e];simp only[cb,lZ];rw[ahV (show a.kind≠2 from ka),ahT];rfl
def Fh (rel:Int)(a b c d:Val):Val :=
 bif dD [a,b,c,d] 1 then(if cz ⟨a.int,b.int⟩=true/\cz ⟨c.int,d.int⟩=true then jL (decide (dM ⟨a.int,b.int⟩ ⟨c.int,d.int⟩=rel))else ef)else ef
theorem EV (rel:Int)(a b c d:Val):mq rel [a,b,c,d]=some (Fh rel a b c d):=by
 unfold mq Fh;rw[jU _ _ m5,ahQ]
 cases dD [a,b,c,d] 1 with
 |false=>exact congrArg (λo:Option Val=>o.bind λr=>some r) bJ
 |true =>
  rw[Bool.not_true,ahS,ahT,show al [a,b,c,d] (0:Int)=some a from rfl,show al [a,b,c,d] (1:Int)=some b from rfl,show al [a,b,c,d] (2:Int)=some c from rfl,show al [a,b,c,d] (3:Int)=some d from rfl];rw[ahQ,ahQ,ahQ,ahQ,acd,ahQ];generalize dM ⟨a.int,b.int⟩ ⟨c.int,d.int⟩=x;generalize cz ⟨a.int,b.int⟩=y;generalize cz ⟨c.int,d.int⟩=z
  cases y<;>cases z
  .exact congrArg (λo:Option Val=>o.bind λr=>some r) bJ
  .exact congrArg (λo:Option Val=>o.bind λr=>some r) bJ
  .exact congrArg (λo:Option Val=>o.bind λr=>some r) bJ
  .exact congrArg (λo:Option Val=>o.bind λr=>some r) (qZ _)
theorem HL (rel:Int)(a b c d:Val):qE rel [a,b,c,d]=some (Fh rel a b c d):=by
 unfold qE Fh ui;rw[show al [a,b,c,d] (0:Int)=some a from rfl,show al [a,b,c,d] (1:Int)=some b from rfl,show al [a,b,c,d] (2:Int)=some c from rfl,show al [a,b,c,d] (3:Int)=some d from rfl];simp only[ahQ];rw[acM,ahQ,jr];have e:dD [a,b,c,d] 1=((decide (a.kind=1)&&decide (b.kind=1))&&(decide (c.kind=1)&&decide (d.kind=1))):=by
  simp[dD,Bool.and_assoc]
 rw[e];generalize (decide (a.kind=1)&&decide (b.kind=1))=u;generalize (decide (c.kind=1)&&decide (d.kind=1))=v;generalize dM ⟨a.int,b.int⟩ ⟨c.int,d.int⟩=x;generalize cz ⟨a.int,b.int⟩=y;generalize cz ⟨c.int,d.int⟩=z
 cases u
 .rfl
 cases v
 .rfl
 cases y<;>cases z
 .rfl
 .rfl
 .rfl
 .exact congrArg (λo:Option Val=>o.bind λr=>some r) (Ds _)
theorem cC {n k:Int}:decide (n=k)=(decide (k<=n)&&decide (n<=k)):=by
 rw[Bool.eq_iff_iff];simp only[ah9,decide_eq_true_eq];omega
theorem FW {n k:Int}(h:n<=1099511627776):decide (k<=n)=(decide (k<=n)&&decide (n<=1099511627776)):=by
 rw[ahV h,Bool.and_true]
def jg (op:Int):Int×Int:=(qN op).getD (-1,0)
theorem pg (op n:Int)(h:n<=1099511627776):qN op=some (jg op)/\nO op n=some (decide (0<=(jg op).1)&&(decide ((jg op).1<=n)&&decide (n<=(jg op).2)),decide (0<=(jg op).1))/\(0<=(jg op).1->op=1\/op=2\/op=4\/op=5\/op=6\/op=7\/op=8\/op=9\/op=10\/op=11\/op=12\/op=13\/op=14\/op=15\/op=16\/op=17\/op=18\/op=19\/op=20\/op=21\/op=22\/op=23\/op=24) /\ -1<=(jg op).1:=by
 by_cases h1:op=1
 .subst h1
  refine⟨rfl,?_,λ_=>by simp,by decide⟩;show some (decide (n=0),true)=some (true&&(decide ((0:Int)<=n)&&decide (n<=0)),true);rw[ain,<- cC]
 by_cases h2:op=2
 .subst h2
  refine⟨rfl,?_,λ_=>by simp,by decide⟩;show some (decide (n=0),true)=some (true&&(decide ((0:Int)<=n)&&decide (n<=0)),true);rw[ain,<- cC]
 by_cases h4:op=4
 .subst h4
  refine⟨rfl,?_,λ_=>by simp,by decide⟩;show some (decide (n=1),true)=some (true&&(decide ((1:Int)<=n)&&decide (n<=1)),true);rw[ain,<- cC]
 by_cases h5:op=5
 .subst h5
  refine⟨rfl,?_,λ_=>by simp,by decide⟩;show some (decide ((2:Int)<=n),true)=some (true&&(decide ((2:Int)<=n)&&decide (n<=1099511627776)),true);rw[ain,<- FW h]
 by_cases h6:op=6
 .subst h6
  refine⟨rfl,?_,λ_=>by simp,by decide⟩;show some (decide ((2:Int)<=n),true)=some (true&&(decide ((2:Int)<=n)&&decide (n<=1099511627776)),true);rw[ain,<- FW h]
 by_cases h7:op=7
 .subst h7
  refine⟨rfl,?_,λ_=>by simp,by decide⟩;show some (decide (n=2),true)=some (true&&(decide ((2:Int)<=n)&&decide (n<=2)),true);rw[ain,<- cC]
 by_cases h8:op=8
 .subst h8
  refine⟨rfl,?_,λ_=>by simp,by decide⟩;show some (decide (n=2),true)=some (true&&(decide ((2:Int)<=n)&&decide (n<=2)),true);rw[ain,<- cC]
 by_cases h9:op=9
 .subst h9
  refine⟨rfl,?_,λ_=>by simp,by decide⟩;show some (decide (n=2),true)=some (true&&(decide ((2:Int)<=n)&&decide (n<=2)),true);rw[ain,<- cC]
 by_cases YC:op=10
 .subst YC
  refine⟨rfl,?_,λ_=>by simp,by decide⟩;show some (decide (n=2),true)=some (true&&(decide ((2:Int)<=n)&&decide (n<=2)),true);rw[ain,<- cC]
 by_cases h11:op=11
 .subst h11
  refine⟨rfl,?_,λ_=>by simp,by decide⟩;show some (decide (n=2),true)=some (true&&(decide ((2:Int)<=n)&&decide (n<=2)),true);rw[ain,<- cC]
 by_cases h12:op=12
 .subst h12
  refine⟨rfl,?_,λ_=>by simp,by decide⟩;show some (decide (n=2),true)=some (true&&(decide ((2:Int)<=n)&&decide (n<=2)),true);rw[ain,<- cC]
 by_cases h13:op=13
 .subst h13
  refine⟨rfl,?_,λ_=>by simp,by decide⟩;show some (decide (n=2),true)=some (true&&(decide ((2:Int)<=n)&&decide (n<=2)),true);rw[ain,<- cC]
 by_cases h14:op=14
 .subst h14
  refine⟨rfl,?_,λ_=>by simp,by decide⟩;show some (decide (n=2),true)=some (true&&(decide ((2:Int)<=n)&&decide (n<=2)),true);rw[ain,<- cC]
 by_cases h15:op=15
 .subst h15
  refine⟨rfl,?_,λ_=>by simp,by decide⟩;show some (decide (n=2),true)=some (true&&(decide ((2:Int)<=n)&&decide (n<=2)),true);rw[ain,<- cC]
 by_cases h16:op=16
 .subst h16
  refine⟨rfl,?_,λ_=>by simp,by decide⟩;show some (decide (n=2),true)=some (true&&(decide ((2:Int)<=n)&&decide (n<=2)),true);rw[ain,<- cC]
 by_cases h17:op=17
 .subst h17
  refine⟨rfl,?_,λ_=>by simp,by decide⟩;show some (decide (n=2),true)=some (true&&(decide ((2:Int)<=n)&&decide (n<=2)),true);rw[ain,<- cC]
 by_cases h18:op=18
 .subst h18
  refine⟨rfl,?_,λ_=>by simp,by decide⟩;show some (decide (n=1),true)=some (true&&(decide ((1:Int)<=n)&&decide (n<=1)),true);rw[ain,<- cC]
 by_cases Z4:op=19
 .subst Z4
  refine⟨rfl,?_,λ_=>by simp,by decide⟩;show some (decide (n=2),true)=some (true&&(decide ((2:Int)<=n)&&decide (n<=2)),true);rw[ain,<- cC]
 by_cases h20:op=20
 .subst h20
  refine⟨rfl,?_,λ_=>by simp,by decide⟩;show some (decide (n=1),true)=some (true&&(decide ((1:Int)<=n)&&decide (n<=1)),true);rw[ain,<- cC]
 by_cases h21:op=21
 .subst h21
  refine⟨rfl,?_,λ_=>by simp,by decide⟩;show some (decide (n=1),true)=some (true&&(decide ((1:Int)<=n)&&decide (n<=1)),true);rw[ain,<- cC]
 by_cases h22:op=22
 .subst h22
  refine⟨rfl,?_,λ_=>by simp,by decide⟩;show some (decide (n=3),true)=some (true&&(decide ((3:Int)<=n)&&decide (n<=3)),true);rw[ain,<- cC]
 by_cases h23:op=23
 .subst h23
  refine⟨rfl,?_,λ_=>by simp,by decide⟩;show some (decide ((1:Int)<=n),true)=some (true&&(decide ((1:Int)<=n)&&decide (n<=1099511627776)),true);rw[ain,<- FW h]
 by_cases h24:op=24
 .subst h24
  refine⟨rfl,?_,λ_=>by simp,by decide⟩;show some (decide (n=4),true)=some (true&&(decide ((4:Int)<=n)&&decide (n<=4)),true);rw[ain,<- cC]
 have e1:qN op=some (-1,0):=by
  unfold qN;simp only[ahU h1,ahU h2,ahU h4,ahU h5,ahU h6,ahU h7,ahU h8,ahU h9,ahU YC,ahU h11,ahU h12,ahU h13,ahU h14,ahU h15,ahU h16,ahU h17,ahU h18,ahU Z4,ahU h20,ahU h21,ahU h22,ahU h23,ahU h24,ahS]
 have e2:nO op n=some (false,false):=by
  unfold nO;simp only[ahU h1,ahU h2,ahU h4,ahU h5,ahU h6,ahU h7,ahU h8,ahU h9,ahU YC,ahU h11,ahU h12,ahU h13,ahU h14,ahU h15,ahU h16,ahU h17,ahU h18,ahU Z4,ahU h20,ahU h21,ahU h22,ahU h23,ahU h24,ahS]
 have e3:jg op=(-1,0):=by unfold jg;rw[e1];rfl
 rw[e1,e2,e3];exact⟨rfl,rfl,λh=>absurd h m9,by decide⟩
theorem ar1:jg 1=(0,0):=rfl
theorem ar2:jg 2=(0,0):=rfl
theorem ar4:jg 4=(1,1):=rfl
theorem ar5:jg 5=(2,1099511627776):=rfl
theorem ar6:jg 6=(2,1099511627776):=rfl
theorem ar7:jg 7=(2,2):=rfl
theorem ar8:jg 8=(2,2):=rfl
theorem ar9:jg 9=(2,2):=rfl
theorem agU:jg 10=(2,2):=rfl
theorem ahq:jg 11=(2,2):=rfl
theorem aha:jg 12=(2,2):=rfl
theorem afH:jg 13=(2,2):=rfl
theorem agk:jg 14=(2,2):=rfl
theorem af2:jg 15=(2,2):=rfl
theorem afL:jg 16=(2,2):=rfl
theorem agr:jg 17=(2,2):=rfl
theorem ahx:jg 18=(1,1):=rfl
theorem ahu:jg 19=(2,2):=rfl
theorem ag5:jg 20=(1,1):=rfl
theorem agX:jg 21=(1,1):=rfl
theorem ae0:jg 22=(3,3):=rfl
theorem ahC:jg 23=(1,1099511627776):=rfl
theorem ag4:jg 24=(4,4):=rfl
def pc (e:Ex):Bool:=(ir e).getD false
def aa7 (v:Val):Bool:=cF [.c (.int .i64 v.kind),.c (.int .i64 v.int),.c (.str v.text)] [.c (.int .i64 (0:Int)),.c (.int .i64 (0:Int)),.c (.str empty)]
def vl (e:Ex):Bool:=(e.nm.toList==(⟨#[]⟩:ByteArray).toList)&&(if e.op=1 then decide (e.int=0)&&vF e.v else if e.op=2 then aa7 e.v else if e.op=24 then aa7 e.v&&(decide (0<=e.int)&&decide (e.int<13))else decide (e.int=0)&&aa7 e.v)
theorem lU (e:Ex)(h:e.args.length<=100000):ir e=some ((decide (0<=(jg e.op).1)&&(decide ((jg e.op).1<=(e.args.length:Int))&&decide ((e.args.length:Int)<=(jg e.op).2)))&&vl e)/\lC e=some ((decide (0<=(jg e.op).1)&&(decide ((jg e.op).1<=(e.args.length:Int))&&decide ((e.args.length:Int)<=(jg e.op).2)))&&vl e):=by
 obtain⟨h1,h2,h3,h4⟩:=pg e.op (e.args.length:Int) m0;generalize jg e.op=a at h1 h2 h3 h4;obtain⟨lo,hi⟩:=a;dsimp only at h1 h2 h3 h4 ⊢;have hR:ir e=(bif decide (0<=lo)&&(decide (lo<=(e.args.length:Int))&&decide ((e.args.length:Int)<=hi))then some (vl e)else some false):=by
  unfold ir;rw[h1,ahQ];dsimp only;by_cases c1:0<=lo
  .rw[ahU (show ¬ lo<0 by omega),ahV c1,ahS,ain]
   by_cases c2:lo<=(e.args.length:Int)
   .rw[ahU (show ¬ (e.args.length:Int)<lo by omega),ahV c2,ahS,ain]
    by_cases c3:(e.args.length:Int)<=hi
    .rw[ahU (show ¬ hi<(e.args.length:Int)by omega),ahV c3,ahS,ahT]
     unfold vl
     cases (e.nm.toList==(⟨#[]⟩:ByteArray).toList)with
     |false=>rfl
     |true =>
      rw[Bool.not_true,ahS,ain];by_cases o1:e.op=1
      .rw[ahV o1,ahT,if_pos o1,fa]
       cases decide (e.int=0)<;>rfl
      .rw[ahU o1,ahS,if_neg o1,bJ]
       by_cases o2:e.op=2
       .rw[ahV o2,ahT,if_pos o2];rfl
       .rw[ahU o2,ahS,if_neg o2]
        by_cases o3:e.op=24
        .rw[ahV o3,ahT,if_pos o3]
         show(bif aa7 e.v then _ else _)=_
         cases aa7 e.v
         .rfl
         .rw[ahT,ain]
          cases decide (0<=e.int)<;>rfl
        .rw[ahU o3,ahS,if_neg o3]
         cases decide (e.int=0)<;>rfl
    .rw[ahV (show hi<(e.args.length:Int)by omega),ahU c3,ahT];rfl
   .rw[ahV (show(e.args.length:Int)<lo by omega),ahU c2,ahT];rfl
  .rw[ahV (show lo<0 by omega),ahU c1,ahT];rfl
 have hP:lC e=(bif decide (0<=lo)&&(decide (lo<=(e.args.length:Int))&&decide ((e.args.length:Int)<=hi))then some (vl e)else some false):=by
  unfold lC;rw[h2,ahQ];dsimp only
  cases (decide (0<=lo)&&(decide (lo<=(e.args.length:Int))&&decide ((e.args.length:Int)<=hi)))with
  |false=>rfl
  |true =>
   rw[Bool.not_true,ahS,ahT];unfold vl
   cases (e.nm.toList==(⟨#[]⟩:ByteArray).toList)with
   |false=>rfl
   |true =>
    rw[Bool.not_true,ahS,ain];by_cases o1:e.op=1
    .rw[ahV o1,ahT,if_pos o1,ot]
     cases decide (e.int=0)<;>rfl
    .rw[ahU o1,ahS,if_neg o1]
     by_cases o3:e.op=24
     .have o2:¬ e.op=2:=m0
      rw[ahV o3,ahT,if_neg o2,if_pos o3];by_cases i1:0<=e.int
      .rw[ahU (show ¬ e.int<0 by omega),ahS,ahV i1,ain]
       by_cases i2:e.int<13
       .rw[ahU (show ¬ 13<=e.int by omega),ahS,ahV i2,Bool.and_true];rfl
       .rw[ahV (show 13<=e.int by omega),ahT,ahU i2,Bool.and_false]
      .rw[ahV (show e.int<0 by omega),ahT,ahU i1,Bool.false_and,Bool.and_false]
     .rw[ahU o3,ahS]
      by_cases o2:e.op=2
      .rw[ahV o2,ahT,if_pos o2];rfl
      .rw[ahU o2,ahS,if_neg o2,if_neg o3]
       cases decide (e.int=0)<;>rfl
 rw[hR,hP]
 cases (decide (0<=lo)&&(decide (lo<=(e.args.length:Int))&&decide ((e.args.length:Int)<=hi)))<;>exact⟨rfl,rfl⟩
theorem xp {e:Ex}(h:e.args.length<=100000):ir e=some (pc e):=by unfold pc;rw[(lU e h).1];rfl
theorem BC {e:Ex}(h:e.args.length<=100000):lC e=some (pc e):=by unfold pc;rw[(lU e h).2,(lU e h).1];rfl
theorem s7 {e:Ex}(h:e.args.length<=100000)(hf:pc e=true):(e.op=1\/e.op=2\/e.op=4\/e.op=5\/e.op=6\/e.op=7\/e.op=8\/e.op=9\/e.op=10\/e.op=11\/e.op=12\/e.op=13\/e.op=14\/e.op=15\/e.op=16\/e.op=17\/e.op=18\/e.op=19\/e.op=20\/e.op=21\/e.op=22\/e.op=23\/e.op=24)/\(jg e.op).1<=(e.args.length:Int)/\(e.args.length:Int)<=(jg e.op).2/\vl e=true:=by
 obtain⟨_,_,h3,_⟩:=pg e.op (e.args.length:Int) m0;unfold pc at hf;rw[(lU e h).1,Option.getD_some,ah9,ah9,ah9]at hf;exact⟨h3 (aii hf.1.1),aii hf.1.2.1,aii hf.1.2.2,hf.2⟩
theorem Kz {e:Ex}(h:e.op=1)(hr:vl e=true):vF e.v=true:=by
 unfold vl at hr;rw[if_pos h,ah9,ah9]at hr;exact hr.2.2
theorem GI {α β ρ:Type}{l:List α}{body:(List β×Int)->Option (Step (List β×Int) ρ)}(g:α->β)(h1:∀ (c:List β) (i:Nat) x,l[i]?=some x->i<c.length->body (c,(i:Int))=some (.next (c.set i (g x),((i+1:Nat):Int))))(h2:∀ c:List β,body (c,(l.length:Int))=some (.exit (c,(l.length:Int)))) :
  ∀ (n i:Nat) (c:List β),c.length=l.length->i<=l.length->l.length-i<n->af body n (c,(i:Int))=some (.inl (c.take i++(l.drop i).map g,(l.length:Int)))
 |0,i,c,_,_,h=>by omega
 |n+1,i,c,hc,hi,hn=>by
  rw[af];by_cases O8:i<l.length
  .obtain⟨x,hx⟩:=gol_ O8
   have e1:=(ahR.1 hx).2;rw[h1 c i x hx m0];show af body n (c.set i (g x),((i+1:Nat):Int))=_;rw[GI g h1 h2 n (i+1) (c.set i (g x)) (by rw[List.length_set];exact hc) m0 m0,ail O8,e1,ah2];congr 3;rw[List.take_succ_eq_append_getElem (by rw[List.length_set];omega),List.getElem_set_self,aig,List.take_set_of_le (ah7 i)];rfl
  .have:i=l.length:=m0
   subst this;rw[h2,aiG,ah6,aio,<- hc,List.take_length]
def du:Nat->Ex->Prop
 |0,_=>False
 |n+1,e=>e.args.length<=100000 /\ ∀ x∈e.args,du n x
theorem j8:∀ {n m:Nat} {e:Ex},n<=m->du n e->du m e
 |0,_,_,_,h=>h.elim
 |n+1,0,_,h,_=>by omega
 |n+1,m+1,e,h,k=>⟨k.1,λx hx=>j8 m0 (k.2 x hx)⟩
def uT (l:List Val):Val:=(l.find? λv=>decide (v.kind≠0)).getD ef
theorem vN:∀ l:List Val,cb (ρ:=Val) (λ(_:Unit) (v:Val)=>some (if v.kind≠0 then .inr v else .inl ())) () l=some (match l.find? λv=>decide (v.kind≠0)with|some v => .inr v|none => .inl ())
 |[]=>rfl
 |v::l=>by
  rw[cb];by_cases h:v.kind=0
  .simp only[ne_eq,h,not_true_eq_false,if_false]
   rw[vN l,List.find?_cons_of_neg (by simp[h])]
  .rw[List.find?_cons_of_pos (by simp[h])]
   simp[h]
theorem FD (l:List Val)(hl:l.length<=100000):oa 23 l=some (uT l):=by
 unfold oa;rw[show decide ((23:Int)=22)=false from rfl,ahS];rw[bP (l:=l) (mk:=λ(_:Unit) i=>i) (f:=λ_ v=>some (if v.kind≠0 then .inr v else .inl ())) ?_ ?_ (by unfold fuel;omega) ()]
 .rw[vN]
  unfold uT
  cases l.find? λv=>decide (v.kind≠0)with
  |none=>exact congrArg (λo:Option Val=>o.bind λr=>some r) bJ
  |some v=>rfl
 .intro s i x hx
  have hi:=(ahR.1 hx).1;unfold oj;dsimp only;rw[aG hx,ahT,gn_ hx,wrapN m0];simp only[ahQ];by_cases h:x.kind=0
  .simp[h,mT]
  .simp[h,mT]
 .intro s
  unfold oj;dsimp only;rw[lF_,ahS]
theorem I6 (l:List Val)(hl:l.length<=100000):(af (my l) fuel (0:Int)).bind km=some (uT l):=by
 rw[bP (l:=l) (mk:=λ(_:Unit) i=>i) (f:=λ_ v=>some (if v.kind≠0 then .inr v else .inl ())) ?_ ?_ (by unfold fuel;omega) ()]
 .rw[vN]
  unfold uT
  cases l.find? λv=>decide (v.kind≠0)with
  |none=>exact congrArg (λo:Option Val=>o.bind λr=>some r) jr
  |some v=>rfl
 .intro s i x hx
  have hi:=(ahR.1 hx).1;unfold my;dsimp only;rw[aG hx,ahT,gn_ hx,wrapN m0];simp only[ahQ];by_cases h:x.kind=0
  .simp[h,mT]
  .simp[h,mT]
 .intro s
  unfold my;dsimp only;rw[lF_,ahS]
theorem acr {l:List Val}(h:∀ v∈l,vF v=true):vF (uT l)=true:=by
 unfold uT
 cases e:l.find? λv=>decide (v.kind≠0)with
 |none=>exact hH
 |some v=>exact h v (List.mem_of_find?_eq_some e)
theorem mH {op:Int}{a b:Val}(h:VV a):vF (dP op a b)=true:=by
 unfold dP
 cases dD [a,b] 1 with
 |false=>exact hH
 |true=>exact(ee h.int).2
theorem ae2 (a:Val):vF (HD a)=true:=by
 unfold HD
 cases dD [a] 1 with
 |false=>exact hH
 |true=>exact ln _
theorem afc (a b:Val):vF (FN a b)=true:=by
 unfold FN
 cases dD [a,b] 2 with
 |false=>exact hH
 |true=>exact ln _
theorem ae8 (a:Val):vF (F3 a)=true:=by
 unfold F3
 cases dD [a] 2 with
 |false=>exact hH
 |true=>exact ln _
theorem aeP (r:Int)(a b c d:Val):vF (Fh r a b c d)=true:=by
 unfold Fh
 cases dD [a,b,c,d] 1 with
 |false=>exact hH
 |true =>
  rw[ahT];split
  .exact x9 _
  .exact hH
def ly (op k:Int)(l:List Val):Val :=
 if op=4 then tU (yI (tF_ (qo l 0)))else if op=5 then tU (ue BS l.tail (tF_ (qo l 0)))else if op=6 then tU (ue or3 l.tail (tF_ (qo l 0)))
 else if op=7\/op=8\/op=9\/op=10\/op=11\/op=12 then tU (nX op (qo l 0) (qo l 1))
 else if op=18 then HD (qo l 0)else if op=19 then FN (qo l 0) (qo l 1)else if op=20 then F3 (qo l 0)else if op=21 then jL (decide ((qo l 0).kind=0))
 else if op=22 then(bif decide (tF_ (qo l 0)=2)then qo l 1 else qo l 2)else if op=23 then uT l else if op=24 then Fh k (qo l 0) (qo l 1) (qo l 2) (qo l 3)
 else dP op (qo l 0) (qo l 1)
theorem aef {α:Type}{l:List α}(h:l.length=1):∃ a,l=[a]:=match l,h with|[a],_=>⟨a,rfl⟩
theorem Nz {α:Type}{l:List α}(h:l.length=2):∃ a b,l=[a,b]:=match l,h with|[a,b],_=>⟨a,b,rfl⟩
theorem adz {α:Type}{l:List α}(h:l.length=3):∃ a b c,l=[a,b,c]:=match l,h with|[a,b,c],_=>⟨a,b,c,rfl⟩
theorem ahG {α:Type}{l:List α}(h:l.length=4):∃ a b c d,l=[a,b,c,d]:=match l,h with|[a,b,c,d],_=>⟨a,b,c,d,rfl⟩
theorem ahD {α:Type}{l:List α}(h:1<=l.length):∃ a m,l=a::m:=match l,h with|a::m,_=>⟨a,m,rfl⟩
structure nD (op:Int)(l:List Val):Prop where
 lo:(jg op).1<=(l.length:Int)
 hi:(l.length:Int)<=(jg op).2
 len:l.length<=100000
 vf:∀ v∈l,vF v=true
theorem sh1 {op:Int}{l:List Val}(A:nD op l)(h:jg op=(1,1)):∃ a,l=[a]/\VV a:=by
 have h1:=A.lo;have h2:=A.hi;rw[h]at h1 h2;dsimp only at h1 h2;obtain⟨a,rfl⟩:=aef (l:=l) m0;exact⟨a,rfl,oT (A.vf a m5)⟩
theorem yi {op:Int}{l:List Val}(A:nD op l)(h:jg op=(2,2)):∃ a b,l=[a,b]/\VV a/\VV b:=by
 have h1:=A.lo;have h2:=A.hi;rw[h]at h1 h2;dsimp only at h1 h2;obtain⟨a,b,rfl⟩:=Nz (l:=l) m0;exact⟨a,b,rfl,oT (A.vf a m5),oT (A.vf b m5)⟩
theorem sh3 {op:Int}{l:List Val}(A:nD op l)(h:jg op=(3,3)):∃ a b c,l=[a,b,c]:=by
 have h1:=A.lo;have h2:=A.hi;rw[h]at h1 h2;dsimp only at h1 h2;exact adz (l:=l) m0
theorem sh4 {op:Int}{l:List Val}(A:nD op l)(h:jg op=(4,4)):∃ a b c d,l=[a,b,c,d]:=by
 have h1:=A.lo;have h2:=A.hi;rw[h]at h1 h2;dsimp only at h1 h2;exact ahG (l:=l) m0
theorem MX {op:Int}{l:List Val}(A:nD op l)(h:1<=(jg op).1):∃ a m,l=a::m/\VV a/\m.length<=1000000:=by
 have h1:=A.lo;have h3:=A.len;obtain⟨a,m,rfl⟩:=ahD (l:=l) m0;exact⟨a,m,rfl,oT (A.vf a m5),by rw[aib]at h3;omega⟩
theorem aa5 (e:Ex)(row l:List Val)(i:Int)(A:nD e.op l)(ho:e.op=4\/e.op=5\/e.op=6\/e.op=7\/e.op=8\/e.op=9\/e.op=10\/e.op=11\/e.op=12\/e.op=13\/e.op=14\/e.op=15\/e.op=16\/e.op=17\/e.op=18\/e.op=19\/e.op=20\/e.op=21\/e.op=22\/e.op=23\/e.op=24):gER_K e row (.inl (l,i))=some (ly e.op e.int l):=by
 obtain ho|ho|ho|ho|ho|ho|ho|ho|ho|ho|ho|ho|ho|ho|ho|ho|ho|ho|ho|ho|ho:=ho
 .obtain⟨a,rfl,va⟩:=sh1 A (by rw[ho];rfl)
  have hv:ly 4 e.int [a]=tU (yI (tF_ a)):=rfl;rw[ho,hv];unfold gER_K;dsimp only;simp only[ho,Int.reduceEq,sl9];rw[show al [a] (0:Int)=some a from rfl,ahQ,kE,ahQ,uo (fG a),ahQ,lJ (ox _)];rfl
 .obtain⟨a,m,rfl,va,hm⟩:=MX A (by rw[ho];decide)
  have hv:ly 5 e.int (a::m)=tU (ue BS m (tF_ a)):=rfl;rw[ho,hv];unfold gER_K;dsimp only;simp only[ho,Int.reduceEq,sl9];rw[zN 5 BS EU (λa b ha hb=>by rw[show decide ((5:Int)=5)=true from rfl];exact ab3 ha hb) a m hm];rfl
 .obtain⟨a,m,rfl,va,hm⟩:=MX A (by rw[ho];decide)
  have hv:ly 6 e.int (a::m)=tU (ue or3 m (tF_ a)):=rfl;rw[ho,hv];unfold gER_K;dsimp only;simp only[ho,Int.reduceEq,sl9];rw[zN 6 or3 JD (λa b ha hb=>by rw[show decide ((6:Int)=5)=false from rfl];exact acP ha hb) a m hm];rfl
 .obtain⟨a,b,rfl,va,vb⟩:=yi A (by rw[ho];rfl)
  have hv:ly 7 e.int [a,b]=tU (nX 7 a b):=rfl;rw[ho,hv];unfold gER_K;dsimp only;simp only[ho,Int.reduceEq,sl9];rw[show al [a,b] (0:Int)=some a from rfl,ahQ,show al [a,b] (1:Int)=some b from rfl,ahQ,fo,ahQ,lJ (f5 _ _ _)];rfl
 .obtain⟨a,b,rfl,va,vb⟩:=yi A (by rw[ho];rfl)
  have hv:ly 8 e.int [a,b]=tU (nX 8 a b):=rfl;rw[ho,hv];unfold gER_K;dsimp only;simp only[ho,Int.reduceEq,sl9];rw[show al [a,b] (0:Int)=some a from rfl,ahQ,show al [a,b] (1:Int)=some b from rfl,ahQ,fo,ahQ,lJ (f5 _ _ _)];rfl
 .obtain⟨a,b,rfl,va,vb⟩:=yi A (by rw[ho];rfl)
  have hv:ly 9 e.int [a,b]=tU (nX 9 a b):=rfl;rw[ho,hv];unfold gER_K;dsimp only;simp only[ho,Int.reduceEq,sl9];rw[show al [a,b] (0:Int)=some a from rfl,ahQ,show al [a,b] (1:Int)=some b from rfl,ahQ,fo,ahQ,lJ (f5 _ _ _)];rfl
 .obtain⟨a,b,rfl,va,vb⟩:=yi A (by rw[ho];rfl)
  have hv:ly 10 e.int [a,b]=tU (nX 10 a b):=rfl;rw[ho,hv];unfold gER_K;dsimp only;simp only[ho,Int.reduceEq,sl9];rw[show al [a,b] (0:Int)=some a from rfl,ahQ,show al [a,b] (1:Int)=some b from rfl,ahQ,fo,ahQ,lJ (f5 _ _ _)];rfl
 .obtain⟨a,b,rfl,va,vb⟩:=yi A (by rw[ho];rfl)
  have hv:ly 11 e.int [a,b]=tU (nX 11 a b):=rfl;rw[ho,hv];unfold gER_K;dsimp only;simp only[ho,Int.reduceEq,sl9];rw[show al [a,b] (0:Int)=some a from rfl,ahQ,show al [a,b] (1:Int)=some b from rfl,ahQ,fo,ahQ,lJ (f5 _ _ _)];rfl
 .obtain⟨a,b,rfl,va,vb⟩:=yi A (by rw[ho];rfl)
  have hv:ly 12 e.int [a,b]=tU (nX 12 a b):=rfl;rw[ho,hv];unfold gER_K;dsimp only;simp only[ho,Int.reduceEq,sl9];rw[show al [a,b] (0:Int)=some a from rfl,ahQ,show al [a,b] (1:Int)=some b from rfl,ahQ,fo,ahQ,lJ (f5 _ _ _)];rfl
 .obtain⟨a,b,rfl,va,vb⟩:=yi A (by rw[ho];rfl)
  have hv:ly 13 e.int [a,b]=dP 13 a b:=rfl;rw[ho,hv];unfold gER_K;dsimp only;simp only[ho,Int.reduceEq,sl9];unfold dP;rw[jU _ _ m5,ahQ]
  cases dD [a,b] 1 with
  |false=>exact congrArg (λo:Option Val=>o.bind λr=>some r) bJ
  |true=>exact congrArg (λo:Option Val=>o.bind λr=>some r) (ee va.int).1
 .obtain⟨a,b,rfl,va,vb⟩:=yi A (by rw[ho];rfl)
  have hv:ly 14 e.int [a,b]=dP 14 a b:=rfl;rw[ho,hv];unfold gER_K;dsimp only;simp only[ho,Int.reduceEq,sl9];unfold dP;rw[jU _ _ m5,ahQ]
  cases dD [a,b] 1 with
  |false=>exact congrArg (λo:Option Val=>o.bind λr=>some r) bJ
  |true=>exact congrArg (λo:Option Val=>o.bind λr=>some r) (ee va.int).1
 .obtain⟨a,b,rfl,va,vb⟩:=yi A (by rw[ho];rfl)
  have hv:ly 15 e.int [a,b]=dP 15 a b:=rfl;rw[ho,hv];unfold gER_K;dsimp only;simp only[ho,Int.reduceEq,sl9];unfold dP;rw[jU _ _ m5,ahQ]
  cases dD [a,b] 1 with
  |false=>exact congrArg (λo:Option Val=>o.bind λr=>some r) bJ
  |true=>exact congrArg (λo:Option Val=>o.bind λr=>some r) (ee va.int).1
 .obtain⟨a,b,rfl,va,vb⟩:=yi A (by rw[ho];rfl)
  have hv:ly 16 e.int [a,b]=dP 16 a b:=rfl;rw[ho,hv];unfold gER_K;dsimp only;simp only[ho,Int.reduceEq,sl9];unfold dP;rw[jU _ _ m5,ahQ]
  cases dD [a,b] 1 with
  |false=>exact congrArg (λo:Option Val=>o.bind λr=>some r) bJ
  |true=>exact congrArg (λo:Option Val=>o.bind λr=>some r) (ee va.int).1
 .obtain⟨a,b,rfl,va,vb⟩:=yi A (by rw[ho];rfl)
  have hv:ly 17 e.int [a,b]=dP 17 a b:=rfl;rw[ho,hv];unfold gER_K;dsimp only;simp only[ho,Int.reduceEq,sl9];unfold dP;rw[jU _ _ m5,ahQ]
  cases dD [a,b] 1 with
  |false=>exact congrArg (λo:Option Val=>o.bind λr=>some r) bJ
  |true=>exact congrArg (λo:Option Val=>o.bind λr=>some r) (ee va.int).1
 .obtain⟨a,rfl,va⟩:=sh1 A (by rw[ho];rfl)
  have hv:ly 18 e.int [a]=HD a:=rfl;rw[ho,hv];unfold gER_K;dsimp only;simp only[ho,Int.reduceEq,sl9];unfold HD;rw[jU _ _ m5,ahQ]
  cases dD [a] 1 with
  |false=>exact congrArg (λo:Option Val=>o.bind λr=>some r) bJ
  |true=>exact congrArg (λo:Option Val=>o.bind λr=>some r) (il _)
 .obtain⟨a,b,rfl,va,vb⟩:=yi A (by rw[ho];rfl)
  have hv:ly 19 e.int [a,b]=FN a b:=rfl;rw[ho,hv];unfold gER_K;dsimp only;simp only[ho,Int.reduceEq,sl9];rw[KH va vb];rfl
 .obtain⟨a,rfl,va⟩:=sh1 A (by rw[ho];rfl)
  have hv:ly 20 e.int [a]=F3 a:=rfl;rw[ho,hv];unfold gER_K;dsimp only;simp only[ho,Int.reduceEq,sl9];rw[KE];rfl
 .obtain⟨a,rfl,va⟩:=sh1 A (by rw[ho];rfl)
  have hv:ly 21 e.int [a]=jL (decide (a.kind=0)):=rfl;rw[ho,hv];unfold gER_K;dsimp only;simp only[ho,Int.reduceEq,sl9];rw[show al [a] (0:Int)=some a from rfl,ahQ,qZ];rfl
 .obtain⟨a,b,c,rfl⟩:=sh3 A (by rw[ho];rfl)
  have hv:ly 22 e.int [a,b,c]=(bif decide (tF_ a=2)then b else c):=rfl;rw[ho,hv];unfold gER_K;dsimp only;simp only[ho,Int.reduceEq,sl9];unfold oa;rw[show decide ((22:Int)=22)=true from rfl,ahT,show al [a,b,c] (0:Int)=some a from rfl,ahQ,kE,ahQ]
  cases decide (tF_ a=2)<;>rfl
 .obtain⟨a,m,rfl,va,hm⟩:=MX A (by rw[ho];decide)
  have hv:ly 23 e.int (a::m)=uT (a::m):=rfl;rw[ho,hv];unfold gER_K;dsimp only;simp only[ho,Int.reduceEq,sl9];rw[FD _ A.len];rfl
 .obtain⟨a,b,c,d,rfl⟩:=sh4 A (by rw[ho];rfl)
  have hv:ly 24 e.int [a,b,c,d]=Fh e.int a b c d:=rfl;rw[ho,hv];unfold gER_K;dsimp only;simp only[ho,Int.reduceEq,sl9];rw[EV];rfl
theorem abI (e:Ex)(l:List Val)(i:Int)(A:nD e.op l)(hle:l.length=e.args.length)(ho:e.op=4\/e.op=5\/e.op=6\/e.op=7\/e.op=8\/e.op=9\/e.op=10\/e.op=11\/e.op=12\/e.op=13\/e.op=14\/e.op=15\/e.op=16\/e.op=17\/e.op=18\/e.op=19\/e.op=20\/e.op=21\/e.op=23\/e.op=24):bp e (.inl (l,i))=some (ly e.op e.int l):=by
 obtain ho|ho|ho|ho|ho|ho|ho|ho|ho|ho|ho|ho|ho|ho|ho|ho|ho|ho|ho|ho:=ho
 .obtain⟨a,rfl,va⟩:=sh1 A (by rw[ho];rfl)
  have hv:ly 4 e.int [a]=tU (yI (tF_ a)):=rfl;rw[ho,hv];unfold bp;dsimp only;rw[ahV hle,ahT];simp only[ho,Int.reduceEq,sl9];rw[KF];rfl
 .obtain⟨a,m,rfl,va,hm⟩:=MX A (by rw[ho];decide)
  have hv:ly 5 e.int (a::m)=tU (ue BS m (tF_ a)):=rfl;rw[ho,hv];unfold bp;dsimp only;rw[ahV hle,ahT];simp only[ho,Int.reduceEq,sl9];rw[JE a m hm];rfl
 .obtain⟨a,m,rfl,va,hm⟩:=MX A (by rw[ho];decide)
  have hv:ly 6 e.int (a::m)=tU (ue or3 m (tF_ a)):=rfl;rw[ho,hv];unfold bp;dsimp only;rw[ahV hle,ahT];simp only[ho,Int.reduceEq,sl9];rw[Ny a m hm];rfl
 .obtain⟨a,b,rfl,va,vb⟩:=yi A (by rw[ho];rfl)
  have hv:ly 7 e.int [a,b]=tU (nX 7 a b):=rfl;rw[ho,hv];unfold bp;dsimp only;rw[ahV hle,ahT];simp only[ho,Int.reduceEq,sl9];rw[show al [a,b] (0:Int)=some a from rfl,ahQ,show al [a,b] (1:Int)=some b from rfl,ahQ,dT,ahQ,iz (f5 _ _ _)];rfl
 .obtain⟨a,b,rfl,va,vb⟩:=yi A (by rw[ho];rfl)
  have hv:ly 8 e.int [a,b]=tU (nX 8 a b):=rfl;rw[ho,hv];unfold bp;dsimp only;rw[ahV hle,ahT];simp only[ho,Int.reduceEq,sl9];rw[show al [a,b] (0:Int)=some a from rfl,ahQ,show al [a,b] (1:Int)=some b from rfl,ahQ,dT,ahQ,iz (f5 _ _ _)];rfl
 .obtain⟨a,b,rfl,va,vb⟩:=yi A (by rw[ho];rfl)
  have hv:ly 9 e.int [a,b]=tU (nX 9 a b):=rfl;rw[ho,hv];unfold bp;dsimp only;rw[ahV hle,ahT];simp only[ho,Int.reduceEq,sl9];rw[show al [a,b] (0:Int)=some a from rfl,ahQ,show al [a,b] (1:Int)=some b from rfl,ahQ,dT,ahQ,iz (f5 _ _ _)];rfl
 .obtain⟨a,b,rfl,va,vb⟩:=yi A (by rw[ho];rfl)
  have hv:ly 10 e.int [a,b]=tU (nX 10 a b):=rfl;rw[ho,hv];unfold bp;dsimp only;rw[ahV hle,ahT];simp only[ho,Int.reduceEq,sl9];rw[show al [a,b] (0:Int)=some a from rfl,ahQ,show al [a,b] (1:Int)=some b from rfl,ahQ,dT,ahQ,iz (f5 _ _ _)];rfl
 .obtain⟨a,b,rfl,va,vb⟩:=yi A (by rw[ho];rfl)
  have hv:ly 11 e.int [a,b]=tU (nX 11 a b):=rfl;rw[ho,hv];unfold bp;dsimp only;rw[ahV hle,ahT];simp only[ho,Int.reduceEq,sl9];rw[show al [a,b] (0:Int)=some a from rfl,ahQ,show al [a,b] (1:Int)=some b from rfl,ahQ,dT,ahQ,iz (f5 _ _ _)];rfl
 .obtain⟨a,b,rfl,va,vb⟩:=yi A (by rw[ho];rfl)
  have hv:ly 12 e.int [a,b]=tU (nX 12 a b):=rfl;rw[ho,hv];unfold bp;dsimp only;rw[ahV hle,ahT];simp only[ho,Int.reduceEq,sl9];rw[show al [a,b] (0:Int)=some a from rfl,ahQ,show al [a,b] (1:Int)=some b from rfl,ahQ,dT,ahQ,iz (f5 _ _ _)];rfl
 .obtain⟨a,b,rfl,va,vb⟩:=yi A (by rw[ho];rfl)
  have hv:ly 13 e.int [a,b]=dP 13 a b:=rfl;rw[ho,hv];unfold bp;dsimp only;rw[ahV hle,ahT];simp only[ho,Int.reduceEq,sl9];rw[kB va m0];rfl
 .obtain⟨a,b,rfl,va,vb⟩:=yi A (by rw[ho];rfl)
  have hv:ly 14 e.int [a,b]=dP 14 a b:=rfl;rw[ho,hv];unfold bp;dsimp only;rw[ahV hle,ahT];simp only[ho,Int.reduceEq,sl9];rw[kB va m0];rfl
 .obtain⟨a,b,rfl,va,vb⟩:=yi A (by rw[ho];rfl)
  have hv:ly 15 e.int [a,b]=dP 15 a b:=rfl;rw[ho,hv];unfold bp;dsimp only;rw[ahV hle,ahT];simp only[ho,Int.reduceEq,sl9];rw[kB va m0];rfl
 .obtain⟨a,b,rfl,va,vb⟩:=yi A (by rw[ho];rfl)
  have hv:ly 16 e.int [a,b]=dP 16 a b:=rfl;rw[ho,hv];unfold bp;dsimp only;rw[ahV hle,ahT];simp only[ho,Int.reduceEq,sl9];rw[kB va m0];rfl
 .obtain⟨a,b,rfl,va,vb⟩:=yi A (by rw[ho];rfl)
  have hv:ly 17 e.int [a,b]=dP 17 a b:=rfl;rw[ho,hv];unfold bp;dsimp only;rw[ahV hle,ahT];simp only[ho,Int.reduceEq,sl9];rw[kB va m0];rfl
 .obtain⟨a,rfl,va⟩:=sh1 A (by rw[ho];rfl)
  have hv:ly 18 e.int [a]=HD a:=rfl;rw[ho,hv];unfold bp;dsimp only;rw[ahV hle,ahT];simp only[ho,Int.reduceEq,sl9];rw[JR];rfl
 .obtain⟨a,b,rfl,va,vb⟩:=yi A (by rw[ho];rfl)
  have hv:ly 19 e.int [a,b]=FN a b:=rfl;rw[ho,hv];unfold bp;dsimp only;rw[ahV hle,ahT];simp only[ho,Int.reduceEq,sl9];rw[I8 va vb];rfl
 .obtain⟨a,rfl,va⟩:=sh1 A (by rw[ho];rfl)
  have hv:ly 20 e.int [a]=F3 a:=rfl;rw[ho,hv];unfold bp;dsimp only;rw[ahV hle,ahT];simp only[ho,Int.reduceEq,sl9];rw[JW va];rfl
 .obtain⟨a,rfl,va⟩:=sh1 A (by rw[ho];rfl)
  have hv:ly 21 e.int [a]=jL (decide (a.kind=0)):=rfl;rw[ho,hv];unfold bp;dsimp only;rw[ahV hle,ahT];simp only[ho,Int.reduceEq,sl9];rw[show al [a] (0:Int)=some a from rfl,ahQ,Ds];rfl
 .obtain⟨a,m,rfl,va,hm⟩:=MX A (by rw[ho];decide)
  have hv:ly 23 e.int (a::m)=uT (a::m):=rfl;rw[ho,hv];unfold bp;dsimp only;rw[ahV hle,ahT];simp only[ho,Int.reduceEq,sl9];exact I6 _ A.len
 .obtain⟨a,b,c,d,rfl⟩:=sh4 A (by rw[ho];rfl)
  have hv:ly 24 e.int [a,b,c,d]=Fh e.int a b c d:=rfl;rw[ho,hv];unfold bp;dsimp only;rw[ahV hle,ahT];simp only[ho,Int.reduceEq,sl9];rw[HL];rfl
theorem af7 (k:Int){op:Int}{l:List Val}(A:nD op l)(ho:op=4\/op=5\/op=6\/op=7\/op=8\/op=9\/op=10\/op=11\/op=12\/op=13\/op=14\/op=15\/op=16\/op=17\/op=18\/op=19\/op=20\/op=21\/op=22\/op=23\/op=24):vF (ly op k l)=true:=by
 obtain rfl|rfl|rfl|rfl|rfl|rfl|rfl|rfl|rfl|rfl|rfl|rfl|rfl|rfl|rfl|rfl|rfl|rfl|rfl|rfl|rfl:=ho
 .exact nY _
 .exact nY _
 .exact nY _
 .exact nY _
 .exact nY _
 .exact nY _
 .exact nY _
 .exact nY _
 .exact nY _
 .have PU:=A.lo
  have P8:=A.hi;rw[afH]at PU P8;dsimp only at PU P8;obtain⟨a,b,rfl⟩:=Nz (l:=l) m0;exact mH (oT (A.vf a m5))
 .have PU:=A.lo
  have P8:=A.hi;rw[agk]at PU P8;dsimp only at PU P8;obtain⟨a,b,rfl⟩:=Nz (l:=l) m0;exact mH (oT (A.vf a m5))
 .have PU:=A.lo
  have P8:=A.hi;rw[af2]at PU P8;dsimp only at PU P8;obtain⟨a,b,rfl⟩:=Nz (l:=l) m0;exact mH (oT (A.vf a m5))
 .have PU:=A.lo
  have P8:=A.hi;rw[afL]at PU P8;dsimp only at PU P8;obtain⟨a,b,rfl⟩:=Nz (l:=l) m0;exact mH (oT (A.vf a m5))
 .have PU:=A.lo
  have P8:=A.hi;rw[agr]at PU P8;dsimp only at PU P8;obtain⟨a,b,rfl⟩:=Nz (l:=l) m0;exact mH (oT (A.vf a m5))
 .exact ae2 _
 .exact afc _ _
 .exact ae8 _
 .exact x9 _
 .have PU:=A.lo
  have P8:=A.hi;rw[ae0]at PU P8;dsimp only at PU P8;obtain⟨a,b,c,rfl⟩:=adz (l:=l) m0;show vF (bif decide (tF_ a=2)then b else c)=true
  cases decide (tF_ a=2)
  .exact A.vf c m5
  .exact A.vf b m5
 .exact acr A.vf
 .exact aeP _ _ _ _ _
theorem Ez (row:List Val):∀ (n:Nat) (e:Ex),du n e ->∃ v,fJ n e row=some v/\qn n e row=some v/\vF v=true
 |0,_,h=>h.elim
 |n+1,e,h=>by
  have hx:∀ x∈e.args,fJ n x row=some ((fJ n x row).getD ef)/\qn n x row=some ((fJ n x row).getD ef)/\vF ((fJ n x row).getD ef)=true:=by
   intro x hx;obtain⟨v,h1,h2,h3⟩:=Ez row n x (h.2 x hx);rw[h1];exact⟨rfl,h2,h3⟩
  generalize hg:(λx=>(fJ n x row).getD ef)=g at hx;have RF:∀ x∈e.args,fJ n x row=some (g x)/\qn n x row=some (g x)/\vF (g x)=true:=by subst hg;exact hx
  show ∃ v,rO (fJ n) e row=some v/\vT (qn n) e row=some v/\vF v=true;have hR:rO (fJ n) e row=(bif pc e then gER_K e row (.inl (e.args.map g,(e.args.length:Int)))else some ef):=by
   unfold rO;rw[xp h.1,ahQ,bJ]
   cases pc e with
   |false=>rfl
   |true =>
    rw[Bool.not_true,ahS,ahT];have:=bX (l:=e.args) (body:=k8 e row (fJ n)) (λx=>[g x]) 4398046511104 ?_ ?_ (by unfold fuel;have:=h.1;omega) [] ?_
    .rw[this,ahW,<- List.map_eq_flatMap];rfl
    .intro s i x O0 hb
     have hi:=(ahR.1 O0).1;have hlen:=h.1;unfold k8;dsimp only;rw[aG O0,ahT,gn_ O0,wrapN m0,ahQ,(RF x (ahX O0)).1,ahQ,ahV (show s.length+1<=4398046511104 from hb),ahT]
    .intro s
     unfold k8;dsimp only;rw[lF_,ahS]
    .have:=h.1
     rw[<- List.map_eq_flatMap,ah3];simp;omega
  have hP:vT (qn n) e row=(bif pc e then(if e.op=1 then some e.v else if e.op=2 then some (Gf (qo row e.int))else if e.op=22 then some (ly 22 e.int (e.args.map g))else bp e (.inl (e.args.map g,(e.args.length:Int))))else some ef):=by
   unfold vT;rw[BC h.1,ahQ,jr]
   cases hf:pc e with
   |false=>rfl
   |true =>
    rw[Bool.not_true,ahS,ahT];by_cases o1:e.op=1
    .rw[ahV o1,ahT,if_pos o1]
    rw[ahU o1,ahS,if_neg o1];by_cases o2:e.op=2
    .rw[ahV o2,ahT,if_pos o2,Jg];rfl
    rw[ahU o2,ahS,if_neg o2];by_cases o3:e.op=22
    .rw[ahV o3,ahT,if_pos o3]
     obtain⟨_,PU,P8,_⟩:=s7 h.1 hf;rw[o3,ae0]at PU P8;dsimp only at PU P8;obtain⟨a,b,c,ha⟩:=adz (l:=e.args) m0;rw[ha]at RF ⊢;unfold x3;rw[show al [a,b,c] (0:Int)=some a from rfl,show al [a,b,c] (1:Int)=some b from rfl,show al [a,b,c] (2:Int)=some c from rfl];simp only[ahQ];rw[(RF a m5).2.1,ahQ,ge,(RF b m5).2.1,(RF c m5).2.1];show _=some (bif decide (tF_ (g a)=2)then g b else g c);simp only[ahQ]
     cases decide (tF_ (g a)=2)<;>rfl
    .rw[ahU o3,ahS,if_neg o3]
     have hlen:=h.1;rw[ahV (show(0:Int)<=(e.args.length:Int)by omega),ahV (show(32:Int)*(e.args.length:Int)<=281474976710656 by omega),ahV (show(e.args.length:Int)<=9223372036854775807 by omega),ahT,ahT,ahT];have:=GI (l:=e.args) (body:=mZ e row (qn n)) g ?_ ?_ fuel 0 (List.replicate e.args.length ⟨0,0,empty⟩) m5 (aia _) (by unfold fuel;omega)
     .rw[show((0:Nat):Int)=0 from rfl]at this
      rw[this,List.take_zero,ahW,List.drop_zero];rfl
     .intro c i x O0 hb
      have hi:=(ahR.1 O0).1;unfold mZ;dsimp only;rw[aG O0,ahT,gn_ O0,wrapN m0,ahQ,(RF x (ahX O0)).2.1,ahQ,ahV (show(0:Int)<=(i:Int)by omega),ahT,ahT,show 0+((i:Int)).toNat=i by omega,ahV hb,ahT]
     .intro c
      unfold mZ;dsimp only;rw[lF_,ahS]
  rw[hR,hP]
  cases hf:pc e with
  |false=>exact⟨_,rfl,rfl,hH⟩
  |true =>
   rw[ahT,ahT];obtain⟨Y5,PU,P8,Yj⟩:=s7 h.1 hf;by_cases o1:e.op=1
   .have hv:=Kz o1 Yj
    refine⟨e.v,?_,by rw[if_pos o1],hv⟩;unfold gER_K;dsimp only;rw[ahV o1,ahT,H8 e row o1 hv];rfl
   by_cases o2:e.op=2
   .refine⟨Gf (qo row e.int),?_,by rw[if_neg o1,if_pos o2],ln _⟩
    unfold gER_K;dsimp only;rw[ahU o1,ahS,ahV o2,ahT,NH e row o2];rfl
   have A:nD e.op (e.args.map g):=by
    refine⟨by rw[ah3];exact PU,by rw[ah3];exact P8,by rw[ah3];exact h.1,λv hv=>?_⟩;obtain⟨x,O0,rfl⟩:=aip.1 hv;exact(RF x O0).2.2
   have Yk:e.op=4\/e.op=5\/e.op=6\/e.op=7\/e.op=8\/e.op=9\/e.op=10\/e.op=11\/e.op=12\/e.op=13\/e.op=14\/e.op=15\/e.op=16\/e.op=17\/e.op=18\/e.op=19\/e.op=20\/e.op=21\/e.op=22\/e.op=23\/e.op=24:=m0
   refine⟨ly e.op e.int (e.args.map g),aa5 e row _ _ A Yk,?_,af7 _ A Yk⟩;rw[if_neg o1,if_neg o2];by_cases o3:e.op=22
   .rw[if_pos o3,o3]
   .rw[if_neg o3]
    exact abI e _ _ A (by rw[ah3]) m0
