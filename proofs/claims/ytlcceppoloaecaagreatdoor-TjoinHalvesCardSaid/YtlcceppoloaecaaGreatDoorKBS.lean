/- Parts. No condition. -/
import Derived.Test.YtlcceppoloaecaaGreatDoorKBR
import Derived.Shelf.Spec.SlicesGrow
set_option maxHeartbeats 8000000
set_option maxRecDepth 100000
set_option linter.unusedSimpArgs false
set_option linter.unusedVariables false
namespace Go.Proofs.YtlcceppoloaecaaGreatDoor
open _root_.ByteArray (empty)
open IntKind (i64)
open Go.RowKit Go.MapKept
def sD (a_l:(List Int)):(Int×Int)->Option (Step (Int×Int) (Int×Bool)):=fun s=>match s with
 |(QD,P6)=>bif (decide (P6<((a_l.length:Nat):Int)))then(aF a_l P6).bind fun P7=>bif (decide (P7=(0:Int)))then some (.next (QD,(i64.wrap (P6+(1:Int)))))else
 bif (decide (QD≠(0:Int)))then bif (decide (QD≠P7))then some (.ret ((0:Int),false))else
 some (.next (P7,(i64.wrap (P6+(1:Int)))))else
 some (.next (P7,(i64.wrap (P6+(1:Int)))))else
 some (.exit (QD,P6))
def aeO:Sum (Int×Int) (Int×Bool)->Option ((Int×Bool))
 |.inl (QD,P6)=>some (QD,true)
 |.inr q=>some q
def iK (a_l:(List Int)):Option (Int×Bool):=(ao (sD a_l) fuel ((0:Int),(0:Int))).bind (aeO)
instance gUnite_ok {a_l : (List Int)} {r : Int × Bool} : OkC (iK a_l = some r) (PTz 226 [.one (.lst (a_l.map (fun x => [AC.int .i64 x])))] (.tup [.one (.int .i64 r.1), .one (.bool r.2)])) := .mk fun H => by
 unfold iK at H;refine po_ Tryz.func226 Tryz.ntmps226 ?_;refine aY ?_;refine alM_ (fun s:Int×Int=>match s with|(QD,P6)=>[(4,.one (.c (.int .i64 QD))),(7,.one (.c (.lst (a_l.map (fun x=>[AC.int .i64 x]))))),(8,.one (.c (.int .i64 ((a_l.length:Nat):Int)))),(9,.one (.c (.int .i64 P6)))]) (fun s=>match s with|(QD,P6)=>[]) H (fun _=>aqu _)
  (fm_ bF [] rfl bn trivial) ?_
 rintro⟨QD,P6⟩ st1 OU Py;unfold sD at OU;dsimp only at OU ⊢;rcases aj OU with⟨Qf,OU⟩|⟨Qf,OU⟩
 ·obtain⟨P7,SG,i1,R9,OU⟩:=bw (f:=(fun x=>[AC.int .i64 x])) OU
  rcases aj OU with⟨Q6,OU⟩|⟨Q6,OU⟩
  ·cases OU
   refine aY ?_;exact⟨_,rfl,fm_ bF [] rfl bn trivial⟩
  rcases aj OU with⟨QT,OU⟩|⟨QT,OU⟩
  ·rcases aj OU with⟨SH,OU⟩|⟨SH,OU⟩
   ·exact br OU Py
   cases OU;refine aY ?_;exact⟨_,rfl,fm_ bF [] rfl bn trivial⟩
  cases OU;refine aY ?_;exact⟨_,rfl,fm_ bF [] rfl bn trivial⟩
 exact br OU Py
def apz:TI :={ tab with owns:=fun f=>f==248||tab.owns f }
theorem acb:TIok Tryz.prog apz:=⟨tab_ok.size,tab_ok.agg,tab_ok.elem,tab_ok.field,tab_ok.zero,tab_ok.bytes,tab_ok.kind,tab_ok.struct,tab_ok.zok,tab_ok.eqs⟩
theorem ad8 (l:List Int):∀ e∈l.map (fun x=>[AC.int .i64 x]),e.length=1:=by intro e he;obtain⟨x,_,rfl⟩:=aqJ.1 he;rfl
theorem aaV (l:List Int)(h0:l≠[])(hl:l.length<=1000000):RTz 248 [] [.one (.c (anP l))] [.spare l.length 1] (.one (.own (l.map fun x=>[AC.int .i64 x]) 0)):=by
 refine bo tab_ok Tryz.func248 rfl rfl Tryz.ntmps248 m5 ?_;simp only[ed];obtain⟨x,r,rfl⟩:∃ x r',l=x::r':=by cases l with|nil=>exact absurd rfl h0|cons x r=>exact⟨x,r,rfl⟩
 have hw:=ad8 (x::r);have hlen:((x::r).map fun x=>[AC.int .i64 x]).length=r.length+1:=by simp
 simp only[aqv]at hl
 repeat' (first|refine gw_ tab_ok tabS_ok ?_|refine gi_ (fun hb=>?_) (fun hb=>?_)|(refine st_pop rfl rfl rfl rfl ?_ ?_;· (repeat' (first|exact t7|rfl|exact aqi rfl|omega|exact hw|(rw[hlen];omega)|apply And.intro)))|(refine st_lop rfl rfl rfl rfl ?_ ?_;· (repeat' (first|exact t7|rfl|exact aqi rfl|omega|exact hw|(rw[hlen];omega)|apply And.intro)))|(refine sS_ rfl rfl rfl ?_ ?_;· (repeat' (first|exact t7|rfl|exact aqi rfl|omega|exact hw|(rw[hlen];omega)|apply And.intro)))|(refine st_lit rfl rfl rfl rfl ?_ ?_;· (repeat' (first|exact t7|rfl|exact aqi rfl|omega|exact hw|(rw[hlen];omega)|apply And.intro)))|(refine dI rfl rfl rfl rfl rfl (EN rfl rfl (tab_ok.kind 29 _ rfl)) ?_)|fail)
 all_goals exact⟨.inr rfl,⟨.inl ⟨2,rfl,rfl⟩,⟨[],by rw[aqI];exact congrArg (fun n=>[Ob.spare n 1]) m5⟩,aqu _,bv ⟨t7,t7⟩,by show 0<1;omega⟩⟩
def KQ (l:List Int):Bool := !l.isEmpty&&decide (l.length<=100000)
theorem agM {l:List Int}(h:KQ l=true):l≠[]/\l.length<=100000:=by
 unfold KQ at h;rw[aqr]at h;refine⟨?_,aqC h.2⟩;rintro rfl;exact absurd h.1 m9
theorem ae6 {a b:Bool}(h:a=b):(CV.val (.one (.bool a))) = .val (.one (.bool b)):=by rw[h]
def qy (l:List Int)(k:Int):Option Bool:=bif KQ l then(iK (l++[k])).bind fun r=>some (bif r.2 then decide (r.1=k)else false)else none
theorem jR {l:List Int}{k:Int}{r:Bool}(H:qy l k=some r):PTz 225 [.one (.lst (l.map (fun x=>[AC.int .i64 x]))),.one (.int .i64 k)] (.val (.one (.bool r))):=by
 unfold qy at H;obtain⟨g,H⟩:=gK H;refine pa_ acb Tryz.func225 rfl rfl Tryz.ntmps225 m5 ?_;simp only[argT,PV.av,aqj,aqn];obtain⟨h0,hl⟩:=agM g;obtain⟨⟨u1,u2⟩,hun,H⟩:=bd_ H;replace hun:=gUnite_ok hun;have htI:(l++[k]).map (fun x=>[AC.int .i64 x])=(l.map fun x=>[AC.int .i64 x])++[[.int .i64 k]]:=by simp
 rw[htI]at hun;have hun':PTz 226 [.one (.lst ((l.map fun x=>[AC.int .i64 x])++[[.int .i64 k]]))] (.tup [.one (.int .i64 u1),.one (.bool u2)]):=hun;obtain rfl:=aqG H;have hlm:(l.map fun x=>[AC.int .i64 x]).length=l.length:=by simp
 repeat' (first|refine aM rfl rfl rfl rfl hun' rfl ?_|(refine cI [] (r' := .one (.own (l.map fun x=>[AC.int .i64 x]) 0)) (L':=[.spare l.length 1]) rfl rfl rfl rfl (aaV l h0 m0) rfl ⟨rfl,m5,fun i x hx=>by simp at hx,fun x hx=>by simp at hx,bW ⟨t7,t7⟩⟩ rfl rfl ?_)|refine st_nil ?_|refine st_pop rfl rfl rfl rfl qp_ ?_|refine st_lop rfl rfl rfl rfl qp_ ?_|refine sS_ rfl rfl rfl qp_ ?_|refine st_lit rfl rfl rfl rfl qp_ ?_|refine st_skip rfl rfl rfl ?_|refine sk0_ rfl rfl ?_|(refine st_if rfl (fun hb=>?_) (fun hb=>?_)<;>(first|exact(fx_ hb).elim|rw[hb]))|refine aw_seq ?_|refine aw_region acb _ rfl ?_|refine aw_drawn2 tabS_ok _ rfl mixed (by decide +kernel) ?_|(refine aw_cond rfl (fun hb=>?_) (fun hb=>?_)<;>(try exact(fx_ hb).elim))|refine aw_block ?_|refine aw_exit ?_|refine aw_ret ?_|refine aw_skip ?_|(refine st_pop rfl rfl rfl rfl ?_ ?_;· (repeat' (first|exact t7|rfl|exact aqi rfl|omega|(intro e he;simp at he;subst he;rfl)|exact hlm|(show(_+1)*8<=_;omega)|(show _+1<=_;omega)|apply And.intro)))|(refine st_lop rfl rfl rfl rfl ?_ ?_;· (repeat' (first|exact t7|rfl|exact aqi rfl|omega|(intro e he;simp at he;subst he;rfl)|exact hlm|(show(_+1)*8<=_;omega)|(show _+1<=_;omega)|apply And.intro)))|(refine sS_ rfl rfl rfl ?_ ?_;· (repeat' (first|exact t7|rfl|exact aqi rfl|omega|(intro e he;simp at he;subst he;rfl)|exact hlm|(show(_+1)*8<=_;omega)|(show _+1<=_;omega)|apply And.intro)))|(refine st_lit rfl rfl rfl rfl ?_ ?_;· (repeat' (first|exact t7|rfl|exact aqi rfl|omega|(intro e he;simp at he;subst he;rfl)|exact hlm|(show(_+1)*8<=_;omega)|(show _+1<=_;omega)|apply And.intro)))|fail)
 all_goals (refine aZ (bg rfl (by trivial) (ae6 ?_));simp only[*, aqa,ap'])
def gRsP (OX:Ex)(a_l:(List Int)):Option (Int×Bool):=bif (decide (OX.op=(1:Int)))then some (OX.v.kind,true)else
 bif (decide (OX.op=(4:Int)))then(qy a_l (3:Int)).bind fun PT=>some ((3:Int),PT)else
 bif (decide (OX.op=(5:Int)))then(qy a_l (3:Int)).bind fun P2=>some ((3:Int),P2)else
 bif (decide (OX.op=(6:Int)))then(qy a_l (3:Int)).bind fun QV=>some ((3:Int),QV)else
 bif (decide (OX.op=(7:Int)))then(iK a_l).bind fun Q3=>some ((3:Int),Q3.2)else
 bif (decide (OX.op=(8:Int)))then(iK a_l).bind fun Qh=>some ((3:Int),Qh.2)else
 bif (decide (OX.op=(9:Int)))then(iK a_l).bind fun Ql=>some ((3:Int),Ql.2)else
 bif (decide (OX.op=(10:Int)))then(iK a_l).bind fun RE=>some ((3:Int),RE.2)else
 bif (decide (OX.op=(11:Int)))then(iK a_l).bind fun QJ=>some ((3:Int),QJ.2)else
 bif (decide (OX.op=(12:Int)))then(iK a_l).bind fun RF=>some ((3:Int),RF.2)else
 bif (decide (OX.op=(19:Int)))then(qy a_l (2:Int)).bind fun Q9=>some ((2:Int),Q9)else
 bif (decide (OX.op=(20:Int)))then(qy a_l (2:Int)).bind fun SN=>some ((1:Int),SN)else
 bif (decide (OX.op=(21:Int)))then some ((3:Int),true)else
 bif (decide (OX.op=(22:Int)))then(ga a_l (1:Int) ((a_l.length:Nat):Int)).bind fun s_26=>(iK s_26).bind fun UT=>bif UT.2 then(ga a_l (0:Int) (1:Int)).bind fun s_29=>(qy s_29 (3:Int)).bind fun WP=>some (UT.1,WP)else
 some (UT.1,false)else
 bif (decide (OX.op=(23:Int)))then(iK a_l).bind fun r_32=>some (r_32.1,r_32.2)else
 bif (decide (OX.op=(24:Int)))then(qy a_l (1:Int)).bind fun VL=>some ((3:Int),VL)else
 (qy a_l (1:Int)).bind fun UU=>some ((1:Int),UU)
instance gResultP_ok {OX : Ex} {a_l : (List Int)} {r : Int × Bool} : OkC (gRsP OX a_l = some r) (PTz 177 [.agg (tE OX), .one (.lst (a_l.map (fun x => [AC.int .i64 x])))] (.tup [.one (.int .i64 r.1), .one (.bool r.2)])) := .mk fun H => by
 unfold gRsP at H;rw[aC OX];refine po_ Tryz.func177 Tryz.ntmps177 ?_;rcases aj H with⟨Qv,H⟩|⟨Qv,H⟩
 ·exact ay H
 rcases aj H with⟨Qq,H⟩|⟨Qq,H⟩
 ·obtain⟨PT,c1,H⟩:=bd_ H
  replace c1:=jR c1;exact ay H
 refine aY ?_;rcases aj H with⟨P9,H⟩|⟨P9,H⟩
 ·obtain⟨P2,c2,H⟩:=bd_ H
  replace c2:=jR c2;exact ay H
 rcases aj H with⟨QT,H⟩|⟨QT,H⟩
 ·obtain⟨QV,c3,H⟩:=bd_ H
  replace c3:=jR c3;exact ay H
 rcases aj H with⟨RX,H⟩|⟨RX,H⟩
 ·exact ay H
 refine aY ?_;rcases aj H with⟨P_,H⟩|⟨P_,H⟩
 ·exact ay H
 rcases aj H with⟨RD,H⟩|⟨RD,H⟩
 ·exact ay H
 rcases aj H with⟨Qk,H⟩|⟨Qk,H⟩
 ·exact ay H
 refine aY ?_;rcases aj H with⟨Uc,H⟩|⟨Uc,H⟩
 ·exact ay H
 rcases aj H with⟨QU,H⟩|⟨QU,H⟩
 ·exact ay H
 rcases aj H with⟨Tf,H⟩|⟨Tf,H⟩
 ·obtain⟨Q9,YE,H⟩:=bd_ H
  replace YE:=jR YE;exact ay H
 refine aY ?_;rcases aj H with⟨Uk,H⟩|⟨Uk,H⟩
 ·obtain⟨SN,WH,H⟩:=bd_ H
  replace WH:=jR WH;exact ay H
 rcases aj H with⟨Ug,H⟩|⟨Ug,H⟩
 ·exact ay H
 rcases aj H with⟨q_25,H⟩|⟨q_25,H⟩
 ·obtain⟨s_26,u12,H⟩:=bd_ H
  obtain⟨⟨u12a,u12b,u12c⟩,u12⟩:=cR u12;have X_:=wo (f:=(fun x=>[AC.int .i64 x])) u12;obtain⟨UT,TU,H⟩:=bd_ H;replace TU:=gUnite_ok TU
  repeat' (first|refine gs_ ?_|rw[X_]|rw[show((0:Nat):Int)=0 from rfl])
  rcases aj H with⟨Ya,H⟩|⟨Ya,H⟩
  ·obtain⟨s_29,u14,H⟩:=bd_ H
   obtain⟨⟨u14a,u14b,u14c⟩,u14⟩:=cR u14;have u14x:=wo (f:=(fun x=>[AC.int .i64 x])) u14;obtain⟨WP,YF,H⟩:=bd_ H;replace YF:=jR YF
   cases H
   repeat' (first|refine gs_ ?_|rw[X_]|rw[u14x]|rw[show((0:Nat):Int)=0 from rfl])
   refine aZ (bg rfl ?_ ?_)
   ·repeat' (first|exact t7|rfl|exact aqi rfl|omega|apply And.intro)
   ·first|rfl|(simp only[aql,aqj,aqn,aqd]<;>rfl)
  cases H
  repeat' (first|refine gs_ ?_|rw[X_]|rw[show((0:Nat):Int)=0 from rfl])
  refine aZ (bg rfl ?_ ?_)
  ·repeat' (first|exact t7|rfl|exact aqi rfl|omega|apply And.intro)
  ·first|rfl|(simp only[aql,aqj,aqn,aqd]<;>rfl)
 refine aY ?_;rcases aj H with⟨X8,H⟩|⟨X8,H⟩
 ·exact ay H
 rcases aj H with⟨X9,H⟩|⟨X9,H⟩
 ·obtain⟨VL,YG,H⟩:=bd_ H
  replace YG:=jR YG;exact ay H
 obtain⟨UU,YH,H⟩:=bd_ H;replace YH:=jR YH;exact ay H
def eD (OX:Ex)(PD:Int)(rec:Ex->Int->Option Int):(Int×Int)->Option (Step (Int×Int) (Int)):=fun s=>match s with
 |(Sr,PY)=>bif (decide (PY<((OX.args.length:Nat):Int)))then(aF OX.args PY).bind fun P3=>(rec P3 (i64.wrap (PD-(1:Int)))).bind fun Qc=>some (.next ((zb Sr (i64.wrap ((1:Int)+Qc))),(i64.wrap (PY+(1:Int)))))else
 some (.exit (Sr,PY))
def L6:Sum (Int×Int) (Int)->Option ((Int))
 |.inl (Sr,PY)=>some Sr
 |.inr q=>some q
def rN (rec:Ex->Int->Option Int)(OX:Ex)(PD:Int):Option (Int):=bif (decide (PD<=(1:Int)))then some (1:Int)else
 (ao (eD OX PD rec) fuel ((1:Int),(0:Int))).bind (L6)
theorem LY {rec:Ex->Int->Option Int}  (Pi:∀ {x:Ex} {y:Int} {r:Int},rec x y=some r->PTz 175 [.agg (tE x),.one (.int .i64 y)] (.val (.one (.int .i64 r)))){OX:Ex}{PD:Int}{r:Int}(H:rN rec OX PD=some r):PTz 175 [.agg (tE OX),.one (.int .i64 PD)] (.val (.one (.int .i64 r))):=by
 unfold rN at H;rw[aC OX];refine po_ Tryz.func175 Tryz.ntmps175 ?_;rcases aj H with⟨Qv,H⟩|⟨Qv,H⟩
 ·exact ay H
 refine aY ?_;refine alM_ (fun s:Int×Int=>match s with|(Sr,PY)=>[(1,.one (.c (.int .i64 PD))),(5,.one (.c (.int .i64 Sr))),(11,.one (.c (.lst (OX.args.map tE)))),(12,.one (.c (.int .i64 ((OX.args.length:Nat):Int)))),(13,.one (.c (.int .i64 PY)))]) (fun s=>match s with|(Sr,PY)=>[.box [.c (.int .i64 OX.op),.c (.int .i64 OX.int),.c (.int .i64 OX.v.kind),.c (.int .i64 OX.v.int),.c (.str OX.v.text),.c (.str OX.nm),.c (.lst (OX.args.map tE))]]) H (fun _=>aqu _)
  (fm_ bF [] rfl bn cm) ?_
 rintro⟨Sr,PY⟩ st1 OU Py;unfold eD at OU;dsimp only at OU ⊢;rcases aj OU with⟨P9,OU⟩|⟨P9,OU⟩
 ·obtain⟨P3,SG,i1,R9,OU⟩:=bw (f:=tE) OU
  simp only[aql,aqj,aqn,aqd,aC]at R9;obtain⟨Qc,c2,OU⟩:=bd_ OU;replace c2:=Pi c2
  try simp only[aql,aqj,aqn,aqd,aC]at c2
  cases OU;refine aY ?_;exact⟨_,rfl,fm_ bF [_] rfl bn cm⟩
 exact br OU Py
def pS:Nat->Ex->Int->Option Int
 |0,_,_=>none
 |n+1,x,y=>rN (pS n) x y
theorem CC:∀ (n:Nat) {x:Ex} {y:Int} {r:Int},pS n x y=some r->PTz 175 [.agg (tE x),.one (.int .i64 y)] (.val (.one (.int .i64 r)))
 |0,_,_,_,h=>nomatch h
 |n+1,_,_,_,h=>LY (CC n) h
def acR (OX:Ex):Option (Int):=(pS fuel OX (25:Int)).bind fun O7=>some O7
instance gDepP_ok {OX : Ex} {r : Int} : OkC (acR OX = some r) (PTz 108 [.agg (tE OX)] (.val (.one (.int .i64 r)))) := .mk fun H => by
 unfold acR at H;rw[aC OX];refine po_ Tryz.func108 Tryz.ntmps108 ?_;obtain⟨O7,c1,H⟩:=bd_ H;replace c1:=CC fuel c1
 try simp only[aql,aqj,aqn,aqd,aC]at c1
 exact ay H
def mL (OX:Ex)(a_kinds:(List Int))(rec:Ex->List Int->Option (Int×Int)):((List Int)×Int)->Option (Step ((List Int)×Int) (Int×Int)):=fun s=>match s with
 |(VZ,Tu)=>bif (decide (Tu<((OX.args.length:Nat):Int)))then(aF OX.args Tu).bind fun TJ=>(rec TJ a_kinds).bind fun Ql=>bif (decide (Ql.2≠(0:Int)))then some (.ret ((0:Int),Ql.2))else
 bif (decide (VZ.length+1<=17592186044416))then(some (.next ((VZ++[Ql.1]),(i64.wrap (Tu+(1:Int))))))else none else
 some (.exit (VZ,Tu))
def zn (OX:Ex):Sum ((List Int)×Int) (Int×Int)->Option ((Int×Int))
 |.inl (VZ,Tu)=>(gRsP OX VZ).bind fun RE=>bif (!RE.2)then some ((0:Int),(7:Int))else
 some (RE.1,(0:Int))
 |.inr q=>some q
def rj (rec:Ex->List Int->Option (Int×Int))(OX:Ex)(a_kinds:(List Int)):Option (Int×Int):=(qo OX.op ((OX.args.length:Nat):Int)).bind fun O7=>bif (!O7.2)then some ((0:Int),(7:Int))else
 (mP OX).bind fun PT=>bif (!PT)then some ((0:Int),(8:Int))else
 bif (decide (OX.op=(2:Int)))then bif (decide (OX.int<(0:Int)))then some ((0:Int),(13:Int))else
 bif (decide (((a_kinds.length:Nat):Int)<=OX.int))then some ((0:Int),(13:Int))else
 (aF a_kinds OX.int).bind fun Sl=>some (Sl,(0:Int))else
 (ao (mL OX a_kinds rec) fuel ([],(0:Int))).bind (zn OX)
theorem Md {rec:Ex->List Int->Option (Int×Int)}  (Pi:∀ {x:Ex} {y:List Int} {r:Int×Int},rec x y=some r->PTz 109 [.agg (tE x),.one (.lst (y.map (fun x=>[AC.int .i64 x])))] (.tup [.one (.int .i64 r.1),.one (.int .i64 r.2)])){OX:Ex}{a_kinds:(List Int)}{r:Int×Int}(H:rj rec OX a_kinds=some r):PTz 109 [.agg (tE OX),.one (.lst (a_kinds.map (fun x=>[AC.int .i64 x])))] (.tup [.one (.int .i64 r.1),.one (.int .i64 r.2)]):=by
 unfold rj at H;rw[aC OX];refine po_ Tryz.func109 Tryz.ntmps109 ?_;obtain⟨O7,c1,H⟩:=bd_ H;replace c1:=gCounts_ok c1;rcases aj H with⟨Qq,H⟩|⟨Qq,H⟩
 ·exact ay H
 obtain⟨PT,c2,H⟩:=bd_ H;replace c2:=gFormed_ok c2
 try simp only[aql,aqj,aqn,aqd,aC]at c2
 rcases aj H with⟨P9,H⟩|⟨P9,H⟩
 ·exact ay H
 rcases aj H with⟨Q6,H⟩|⟨Q6,H⟩
 ·exact ay H
 refine aY ?_;refine bU 8 1 rfl ?_;refine alM_ (fun s:(List Int)×Int=>match s with|(VZ,Tu)=>[(1,.one (.c (.lst (a_kinds.map (fun x=>[AC.int .i64 x]))))),(2,.one (.ptr 0 0)),(8,.one (.own (VZ.map (fun x=>[AC.int .i64 x])) 1)),(48,.one (.c (.lst (OX.args.map tE)))),(49,.one (.c (.int .i64 ((OX.args.length:Nat):Int)))),(50,.one (.c (.int .i64 Tu)))]) (fun s=>match s with|(VZ,Tu)=>[.box [.c (.int .i64 OX.op),.c (.int .i64 OX.int),.c (.int .i64 OX.v.kind),.c (.int .i64 OX.v.int),.c (.str OX.v.text),.c (.str OX.nm),.c (.lst (OX.args.map tE))],.spare VZ.length 1]) H (fun _=>aqu _)
  (fm_ bF [] rfl bn cm) ?_
 rintro⟨VZ,Tu⟩ st1 OU Py;unfold mL at OU;dsimp only at OU ⊢;rcases aj OU with⟨Ta,OU⟩|⟨Ta,OU⟩
 ·obtain⟨TJ,Ys,i4,W_,OU⟩:=bw (f:=tE) OU
  simp only[aql,aqj,aqn,aqd,aC]at W_;obtain⟨Ql,c5,OU⟩:=bd_ OU;replace c5:=Pi c5
  try simp only[aql,aqj,aqn,aqd,aC]at c5
  rcases aj OU with⟨Qk,OU⟩|⟨Qk,OU⟩
  ·exact br OU Py
  obtain⟨g6,OU⟩:=aK OU
  cases OU;refine aY ?_;exact⟨_,rfl,fm_ qI [_] oO bn cm⟩
 exact br OU Py
def pz:Nat->Ex->List Int->Option (Int×Int)
 |0,_,_=>none
 |n+1,x,y=>rj (pz n) x y
theorem C3:∀ (n:Nat) {x:Ex} {y:List Int} {r:Int×Int},pz n x y=some r->PTz 109 [.agg (tE x),.one (.lst (y.map (fun x=>[AC.int .i64 x])))] (.tup [.one (.int .i64 r.1),.one (.int .i64 r.2)])
 |0,_,_,_,h=>nomatch h
 |n+1,_,_,_,h=>Md (C3 n) h
def F6 (OX:Ex)(a_kinds:(List Int)):Option (Int×Int):=(acR OX).bind fun O7=>bif (decide ((24:Int)<O7))then some ((0:Int),(26:Int))else
 (pz fuel OX a_kinds).bind fun PT=>some (PT.1,PT.2)
instance gChkP_ok {OX : Ex} {a_kinds : (List Int)} {r : Int × Int} : OkC (F6 OX a_kinds = some r) (PTz 73 [.agg (tE OX), .one (.lst (a_kinds.map (fun x => [AC.int .i64 x])))] (.tup [.one (.int .i64 r.1), .one (.int .i64 r.2)])) := .mk fun H => by
 unfold F6 at H;rw[aC OX];refine po_ Tryz.func73 Tryz.ntmps73 ?_;obtain⟨O7,c1,H⟩:=bd_ H;replace c1:=gDepP_ok c1
 try simp only[aql,aqj,aqn,aqd,aC]at c1
 rcases aj H with⟨Qq,H⟩|⟨Qq,H⟩
 ·exact ay H
 obtain⟨PT,c2,H⟩:=bd_ H;replace c2:=C3 fuel c2
 try simp only[aql,aqj,aqn,aqd,aC]at c2
 exact ay H
noncomputable section
def AE (OX:Ex)(O2:(List Val)):Option (Int):=(qR fuel OX O2).bind fun O7=>(jv O7).bind fun Qd=>some Qd
instance gTruthE_ok {OX : Ex} {O2 : (List Val)} {r : Int} : OkC (AE OX O2 = some r) (PTz 90 [.agg (tE OX), .one (.lst (O2.map cV))] (.val (.one (.int .i64 r)))) := .mk fun H => by
 unfold AE at H;rw[aC OX];refine po_ Tryz.func90 Tryz.ntmps90 ?_;obtain⟨O7,c1,H⟩:=bd_ H;replace c1:=D3 fuel c1
 try simp only[aql,aqj,aqn,aqd,aC]at c1
 exact ay H
end
def IL (Ph:ax)(PK:ax):Option (Bool):=(gPV Ph).bind fun O7=>bif O7 then(gPV PK).bind fun PT=>bif PT then bif (decide (Ph.lo<PK.hi))then some (decide (PK.lo<Ph.hi))else
 some false else
 some false else
 some false
instance gOverP_ok {Ph : ax} {PK : ax} {r : Bool} : OkC (IL Ph PK = some r) (PTz 144 [.agg (aN Ph), .agg (aN PK)] (.val (.one (.bool r)))) := .mk fun H => by
 unfold IL at H;refine po_ Tryz.func144 Tryz.ntmps144 ?_;exact ay H
def An (Ph:ax)(PK:ax):Option (ax×Bool):=(IL Ph PK).bind fun O7=>bif (!O7)then some ((⟨(0:Int),(0:Int)⟩:ax),false)else
 some ((⟨(zb Ph.lo PK.lo),(mnI Ph.hi PK.hi)⟩:ax),true)
instance gInterP_ok {Ph : ax} {PK : ax} {r : ax × Bool} : OkC (An Ph PK = some r) (PTz 91 [.agg (aN Ph), .agg (aN PK)] (.tup [.agg (aN r.1), .one (.bool r.2)])) := .mk fun H => by
 unfold An at H;refine po_ Tryz.func91 Tryz.ntmps91 ?_;exact ay H
end Go.Proofs.YtlcceppoloaecaaGreatDoor
namespace Go.Proofs
open Go.Shelf
def Tryz.growV_ren:Go.Shelf.Ren:=⟨fun|4=>155|n=>n,fun|22=>50|25=>33|3=>3|4=>4|9=>9|20=>20|0=>0|n=>n,fun|n=>n⟩
theorem Tryz.growV:Go.Proofs.Lays8.n4 Tryz.prog Tryz.growV_ren :={
 mixed:=k7
 f4:=⟨Tryz.f155.name,by decide,Tryz.func155.trans (congrArg some k7)⟩
 t0:=Tryz.underlying0
 a0:=Tryz.isAgg0
 z0:=Tryz.sizeOf0
 v0:=Tryz.zeroValue0
 t3:=Tryz.underlying3
 a3:=Tryz.isAgg3
 z3:=Tryz.sizeOf3
 v3:=Tryz.zeroValue3
 t4:=Tryz.underlying4
 a4:=Tryz.isAgg4
 z4:=Tryz.sizeOf4
 v4:=Tryz.zeroValue4
 t9:=Tryz.underlying9
 a9:=Tryz.isAgg9
 z9:=Tryz.sizeOf9
 v9:=Tryz.zeroValue9
 t20:=Tryz.underlying20
 a20:=Tryz.isAgg20
 z20:=Tryz.sizeOf20
 v20:=Tryz.zeroValue20
 t22:=Tryz.underlying50
 a22:=Tryz.isAgg50
 z22:=Tryz.sizeOf50
 v22:=Tryz.zeroValue50 }
end Go.Proofs
namespace Go.Proofs.YtlcceppoloaecaaGreatDoor
open _root_.ByteArray (empty)
open IntKind (i64)
open Go.RowKit Go.MapKept
theorem ah8 (n:Nat)(h0:0<n)(hn:n<=1000000000):RTz 155 [] [.one .emp,.one (.c (.int .i64 n))] [.row (33+65536) [] 3] (.one (.sl 0 (33+65536) 0 0)):=by
 refine⟨⟨_,Tryz.func155,k7,k7⟩,fun B R γ w vs hi hs hv=>?_⟩;obtain⟨v1,v2,rfl⟩:∃ a b,vs=#[a,b]:=by
  match vs,hs with
  |⟨[a,b]⟩,_=>exact⟨a,b,rfl⟩
 obtain⟨a,rfl⟩:=hv 0 v1 _ rfl rfl;have h2:bD R v2 (.int .i64 n):=hv 1 v2 _ rfl rfl
 cases h2;obtain⟨inf,z,PS,Rz,QF,UB⟩:=am.zok 33 rfl 3 (am.size _ _ rfl);have Qb:inf.bytes=32:=by have SA:=am.bytes 33 32 rfl;unfold kf at SA;rw[PS]at SA;simpa using SA
 have ZV:=Any8.slices_Grow_grow Tryz.growV inf z PS Rz (by rw[QF];decide) a 0 0 n [] w (aqo _) m0 (by rw[Qb];omega) m0 m5 (fun _=>rfl) (fun _ _ j v h=>by simp at h);refine(show Calls Tryz.prog 155 #[.slice a 0 0,.int .i64 n] w _ from ZV).mono ?_;rintro e w' ⟨rfl,rfl⟩;have RR:=grownCap_ge w (0+n) 0 33;have hE:(Tryz.growV_ren.t 25)=33:=rfl;rw[hE];generalize grownCap w (0+n) 0 33=cap at RR;have hγ:γ=[]:=aqz (by rw[hi.len];rfl);subst hγ;have hm:Mv R R ([]:List Gh) ([]++[.arr w.heap.size cap]) [] ([]++[.row (33+65536) [] 3]):=Mv.push _ _ hi.len;have UL:Inv B R ([]++[.arr w.heap.size cap]) ([]++[.row (33+65536) [] 3]) (w.alloc (.cells (([]:List Value).toArray++Builtin.zeroCells z.cells (0+n-0)++Builtin.zeroCells z.cells (cap-(0+n))) 33)):=by
  refine hi.push _ _ _ rfl ⟨⟨_,33,⟨dt w _,by show(33:Nat)=(33+65536)%65536;omega,by show 65536<=(33:Nat)+65536;omega⟩,?_,fun i e j u x he hu hx=>by simp at he⟩,aqu _,by decide,(fun e he=>by cases he),fun o=>hi.none_at o⟩;rw[Array.size_append,Array.size_append,size_zeroCells,size_zeroCells,UB];simp only[List.size_toArray,aqE];rw[aqR,<- Nat.add_mul];congr 1;omega
 refine⟨_,R,_,rfl,⟨UL.len,fun b o u h=>UL.val b o u h,fun i x g h1 h2=>(UL.obj i x g h1 h2).mv Mv.refl (fun _ _=>rfl) (fun _ _ _ h=>h),UL.inj,UL.new,UL.bsz⟩,⟨⟨rfl,rfl,rfl,by show w.heap.size<=(w.heap.push _).size;simp,fun b hb=>eT w.drew _ (hi.bsz b hb)⟩,PH.sub_refl _,fun _ _ _=>rfl⟩,hm,⟨rfl,rfl⟩,m5,fun QH S1 k2 e2=>?_⟩;simp at e2;obtain⟨q1,q2,q3⟩:=e2;subst q1 q2 q3;exact⟨aqo _,fun _=>⟨m5,.arr w.heap.size cap,rfl,.inl m5⟩⟩
def anG:TI :={ tab with owns:=fun f=>f==155||tab.owns f }
theorem gw:TIok Tryz.prog anG:=⟨tab_ok.size,tab_ok.agg,tab_ok.elem,tab_ok.field,tab_ok.zero,tab_ok.bytes,tab_ok.kind,tab_ok.struct,tab_ok.zok,tab_ok.eqs⟩
def Ik (a b:List Val):Nat->Nat
 |0=>0
 |1=>a.length
 |_=>a.length+b.length
def agT (a b:List Val):Nat->List Val
 |0=>[]
 |1=>a
 |_=>a++b
theorem Nq (l:List Val):∀ e∈l.map cV,e.length=3:=by intro e he;obtain⟨x,_,rfl⟩:=aqJ.1 he;rfl
theorem JW {id v w n m:Nat}(h:n=m)(hv:v=w):some (AV.one (.sl id v 0 n))=some (AV.one (.sl id w 0 m)):=by subst h hv;rfl
theorem aac {v w k:Nat}{a b:List (List SV)}(h:a=b)(hv:v=w):[Ob.row v a k]=[Ob.row w b k]:=by rw[h,hv]
theorem MF (a b:List Val)(h0:0<a.length+b.length)(h1:a.length+b.length<=1000000):PTz 97 [.one (.lst [[b8 a],[b8 b]])] (.val (.one (b8 (a++b)))):=by
 refine pa_ gw Tryz.func97 rfl rfl Tryz.ntmps97 m5 ?_;simp only[argT,PV.av,aqj,aqn];have ha:(((a.map cV).length:Nat):Int)=a.length:=by simp
 have hb:(((b.map cV).length:Nat):Int)=b.length:=by simp
 have w1:i64.wrap (((Ik a b 0:Nat):Int)+((a.map cV).length:Nat))=((Ik a b 1:Nat):Int):=by rw[ha];exact a7 (by simp[Ik]) (by simp only[Ik];omega)
 have w2:i64.wrap (((Ik a b 1:Nat):Int)+((b.map cV).length:Nat))=((Ik a b 2:Nat):Int):=by rw[hb];exact a7 (by simp[Ik]) (by simp only[Ik];omega)
 have n1:decide (((Ik a b 1:Nat):Int)<0)=false:=aqb m0;have n2:decide (((Ik a b 2:Nat):Int)<0)=false:=aqb m0
 repeat' (first|refine gw_ gw tabS_ok ?_|refine gi_ (fun hb=>?_) (fun hb=>?_)|fail)
 refine cA (fun i:Nat=>[(0,.one (.c (.lst [[b8 a],[b8 b]]))),(3,.one (.c (.int .i64 (Ik a b i)))),(9,.one (.c (.lst [[b8 a],[b8 b]]))),(10,.one (.c (.int .i64 2))),(11,.one (.c (.int .i64 i)))]) (fun _=>[]) (fun i=>i<=2) (fun i=>2-i) 0 m0 (fun _ _=>aqu _)
  (fm_ ⟨rfl,rfl,rfl,rfl,rfl,t7⟩ [] rfl (by repeat' (first|exact t7|apply And.intro)) (by repeat' (first|exact t7|apply And.intro))) ?_
 intro i hi
 match i,hi with
 |0,_ =>
  repeat' (first|rw[w1]|rw[n1]|refine gw_ gw tabS_ok ?_|refine gi_ (fun hb=>?_) (fun hb=>?_)|fail)
  exact⟨1,m0,m0,fm_ ⟨rfl,rfl,rfl,rfl,rfl,t7⟩ [] rfl (by repeat' (first|exact t7|apply And.intro)) (by repeat' (first|exact t7|apply And.intro))⟩
 |1,_ =>
  repeat' (first|rw[w2]|rw[n2]|refine gw_ gw tabS_ok ?_|refine gi_ (fun hb=>?_) (fun hb=>?_)|fail)
  exact⟨2,m0,m0,fm_ ⟨rfl,rfl,rfl,rfl,rfl,t7⟩ [] rfl (by repeat' (first|exact t7|apply And.intro)) (by repeat' (first|exact t7|apply And.intro))⟩
 |2,_ =>
  have hg:=ah8 (a.length+b.length) h0 m0
  repeat' (first|(refine cI [] (r' := .one (.sl 0 (33+65536) 0 0)) (L':=[.row (33+65536) [] 3]) rfl rfl rfl rfl hg rfl ⟨rfl,m5,fun i x hx=>by simp at hx,fun x hx=>by simp at hx,bW ⟨t7,t7,t7⟩⟩ rfl rfl ?_)|refine gw_ gw tabS_ok ?_|refine gi_ (fun hb=>?_) (fun hb=>?_)|fail)
  refine cA (fun i:Nat=>[(6,.one (.sl 0 (33+65536+65536*i) 0 (Ik a b i))),(25,.one (.c (.lst [[b8 a],[b8 b]]))),(26,.one (.c (.int .i64 2))),(27,.one (.c (.int .i64 i)))]) (fun i=>[.row (33+65536+65536*i) (((agT a b i).map cV).map (List.map SV.c)) 3]) (fun i=>i<=2) (fun i=>2-i) 0 m0 (fun _ _=>aqu _)
   (fm_ ⟨JW rfl m0,rfl,rfl,rfl,t7⟩ [] (aac rfl m0) ⟨Nat.zero_lt_one,t7,t7,t7,t7⟩ ⟨iY _ _ _ _ _,t7⟩) ?_
  intro i hi
  match i,hi with
  |0,_ =>
   repeat' (first|(refine b7 rfl rfl rfl rfl rfl (dX gw (k:=3) (by_:=32) (xs:=(a.map cV).map (List.map SV.c)) rfl rfl rfl rfl ⟨rfl,_,rfl,Nq _⟩ rfl m0 rfl rfl rfl m9 (by simp[agT,Ik]) (by rw[aqk,aqk];simp only[Ik];omega) (by rw[aqk,aqk];simp only[Ik];omega)) ?_)|refine gw_ gw tabS_ok ?_|refine gi_ (fun hb=>?_) (fun hb=>?_)|fail)
   exact⟨1,m0,m0,fm_ ⟨JW (by simp[Ik]) m0,rfl,rfl,rfl,t7⟩ [] (aac (by simp[agT]) m0) ⟨Nat.zero_lt_one,t7,t7,t7,t7⟩ ⟨iY _ _ _ _ _,t7⟩⟩
  |1,_ =>
   repeat' (first|(refine b7 rfl rfl rfl rfl rfl (dX gw (k:=3) (by_:=32) (xs:=(b.map cV).map (List.map SV.c)) rfl rfl rfl rfl ⟨rfl,_,rfl,Nq _⟩ rfl m0 rfl rfl rfl m9 (by simp[agT,Ik]) (by rw[aqk,aqk];simp only[Ik];omega) (by rw[aqk,aqk];simp only[Ik];omega)) ?_)|refine gw_ gw tabS_ok ?_|refine gi_ (fun hb=>?_) (fun hb=>?_)|fail)
   exact⟨2,m0,m0,fm_ ⟨JW (by simp[Ik]) m0,rfl,rfl,rfl,t7⟩ [] (aac (by simp[agT]) m0) ⟨Nat.zero_lt_one,t7,t7,t7,t7⟩ ⟨iY _ _ _ _ _,t7⟩⟩
  |2,_ =>
   refine iV 0 6 (cs:=(a++b).map cV) rfl (iC _) rfl (by rw[aqk,aqg];rfl) ?_
   repeat' (first|refine gw_ gw tabS_ok ?_|refine gi_ (fun hb=>?_) (fun hb=>?_)|fail)
   exact aZ (bg rfl (by trivial) rfl)
def ab5 (a b:List Val):Bool:=decide (0<a.length+b.length)&&decide (a.length+b.length<=1000000)
def xm (a b:List Val):Option (List Val):=bif ab5 a b then some (a++b)else none
theorem zw {a b r:List Val}(H:xm a b=some r):PTz 59 [.one (.lst (a.map cV)),.one (.lst (b.map cV))] (.val (.one (.lst (r.map cV)))):=by
 unfold xm at H;obtain⟨g,H⟩:=gK H;obtain rfl:=aqG H;unfold ab5 at g;rw[aqr]at g;have hc:=MF a b (aqC g.1) (aqC g.2);refine po_ Tryz.func59 Tryz.ntmps59 ?_
 repeat' (first|refine t_ rfl rfl rfl rfl ?_|refine aM rfl rfl rfl rfl hc rfl ?_|refine gw_ tab_ok tabS_ok ?_|refine gi_ (fun hb=>?_) (fun hb=>?_)|fail)
 exact aZ (bg rfl (by trivial) rfl)
def I5 (n:Int):Option (List Val):=bif decide (n<1)then some []else bif decide (4096<n)then some []else some (List.replicate n.toNat ⟨0,0,empty⟩)
theorem aar {n:Int}{r:List Val}(H:I5 n=some r):PTz 60 [.one (.int .i64 n)] (.val (.one (.lst (r.map cV)))):=by
 unfold I5 at H;have hnr:dV (List.replicate n.toNat [SV.c (.int .i64 0),.c (.int .i64 0),.c (.str empty)])=some (List.replicate n.toNat (cV ⟨0,0,empty⟩)):=by
  have:=iC (List.replicate n.toNat (cV ⟨0,0,empty⟩));rwa[List.map_replicate]at this
 refine po_ Tryz.func60 Tryz.ntmps60 ?_;rcases h1:decide (n<1)with _|_
 ·rw[h1,ap']at H
  rcases h2:decide (4096<n)with _|_
  ·rw[h2,ap']at H
   obtain rfl:=aqG H;have g1:=of_decide_eq_false h1;have g2:=of_decide_eq_false h2
   repeat' (first|rw[h1]|rw[h2]|(refine b7 rfl rfl rfl rfl rfl (sg tab_ok (k:=3) (by_:=32) rfl rfl rfl m9 rfl rfl rfl rfl rfl m9 m0 m0 m0) ?_)|(refine iV 0 2 (cs:=List.replicate n.toNat (cV ⟨0,0,empty⟩)) rfl hnr rfl m5 ?_)|refine gw_ tab_ok tabS_ok ?_|refine gi_ (fun hb=>?_) (fun hb=>?_)|fail)
   exact aZ (bg rfl (by trivial) (by rw[List.map_replicate];rfl))
  ·rw[h2,aqa]at H
   obtain rfl:=aqG H
   repeat' (first|rw[h1]|rw[h2]|refine gw_ tab_ok tabS_ok ?_|refine gi_ (fun hb=>?_) (fun hb=>?_)|fail)
   exact aZ (bg rfl (by trivial) rfl)
 ·rw[h1,aqa]at H
  obtain rfl:=aqG H
  repeat' (first|rw[h1]|refine gw_ tab_ok tabS_ok ?_|refine gi_ (fun hb=>?_) (fun hb=>?_)|fail)
  exact aZ (bg rfl (by trivial) rfl)
def sH (row:List Val)(i:Int):Val:=if 0<=i then(row[i.toNat]?).getD bJ else bJ
theorem ahv (row:List Val)(i:Int):gAt row i=some (sH row i):=by
 unfold gAt sH;by_cases h1:i<0
 ·rw[aqc h1,aqa,if_neg m0];rfl
 ·rw[aqb h1,ap',if_pos m0]
  by_cases h2:((row.length:Nat):Int)<=i
  ·rw[aqc h2,aqa,aqX m0];rfl
  ·rw[aqb h2,ap']
   obtain⟨x,hx⟩:=gol_ (show i.toNat<row.length by omega);unfold aF;rw[if_pos m0,hx];rfl
theorem aks (row:List Val)(i:Int):abZ row i=some (sH row i):=(show abZ row i=gAt row i from rfl).trans (ahv row i)
theorem aeX (row:List Val)(i:Int):NY row [i]=some [sH row i]:=by
 unfold NY;simp only[aqv,aqE];rw[show decide ((0:Int)<=(((0+1:Nat)):Int))=true from rfl,show decide ((32:Int)*(((0+1:Nat)):Int)<=281474976710656)=true from rfl,show decide ((((0+1:Nat)):Int)<=9223372036854775807)=true from rfl];simp only[aqa];rw[bX (l:=[i]) (mk:=fun t i=>(t,i)) (f:=push (sH row) 4398046511104) ?_ ?_ (by unfold fuel;simp) []]
 ·rw[G_ _ _ _ _ m5];rfl
 ·intro s j x hx
  have hi:=(ap_.1 hx).1;unfold wJ push;dsimp only;rw[aO hx,aqa,gn_ hx];simp only[ap9];rw[ahv,ap9,wrapN (by simp at hi;omega)]
  cases decide (s.length+1<=4398046511104)<;>rfl
 ·intro s
  unfold wJ;dsimp only;rw[lF_,ap']
theorem ab_ (row:List Val)(i:Int):xp row i=some (Kw (sH row i)):=by
 unfold xp;rw[aeX,ap9,show aF [sH row i] (0:Int)=some (sH row i)from rfl,ap9,uC,ap9,jN];unfold Kw
 cases vF (sH row i)<;>rfl
theorem aew (e:Ex)(row:List Val)(h:e.op=2):y8 e row=some (Kw (sH row e.int)):=by
 unfold y8;rw[h,show decide ((2:Int)=2)=true from rfl,aqa,aks,ap9,ia,ap9,bT];unfold Kw
 cases vF (sH row e.int)<;>rfl
theorem N_ (e:Ex)(row:List Val)(h:e.op=1)(hv:vF e.v=true):y8 e row=some e.v:=by
 unfold y8;rw[h,show decide ((1:Int)=2)=false from rfl,ap',ia,ap9,hv];rfl
def dP (l:List Val)(k:Int):Bool:=l.all fun v=>decide (v.kind=k)
theorem kF (l:List Val)(k:Int)(hl:l.length<=1000000):NL l k=some (dP l k):=by
 unfold NL;rw[bX (l:=l) (mk:=fun(_:Unit) i=>i) (f:=fun _ v=>some (if v.kind≠k then .inr false else .inl ())) ?_ ?_ (by unfold fuel;omega) ()]
 ·have:∀ l:List Val,cn (ρ:=Bool) (fun(_:Unit) (v:Val)=>some (if v.kind≠k then .inr false else .inl ())) () l=some (if dP l k=true then .inl ()else .inr false):=by
   intro l
   induction l with
   |nil=>rfl
   |cons v l ih =>
    rw[cn];by_cases h:v.kind=k
    ·simp only[ne_eq,h,not_true_eq_false,if_false]
     rw[ih];simp[dP,h]
    ·simp[dP,h]
  rw[this]
  cases dP l k<;>rfl
 ·intro s i x hx
  have hi:=(ap_.1 hx).1;unfold AM;dsimp only;rw[aO hx,aqa,gn_ hx,wrapN m0];simp only[ap9];by_cases h:x.kind=k
  ·simp[h,nT]
  ·simp[h,nT]
 ·intro s
  unfold AM;dsimp only;rw[lF_,ap']
def vU (f:Int->Int->Int)(l:List Val)(t:Int):Int:=l.foldl (fun t v=>f t (tF_ v)) t
theorem Az {f:Int->Int->Int}(hf:∀ a b,T3 (f a b)):∀ (l:List Val) (t:Int),T3 t->T3 (vU f l t)
 |[],t,h=>h
 |v::l,t,h=>Az hf l _ (hf _ _)
theorem wm {f:Int->Int->Int}(hf:∀ a b,T3 (f a b)){g:Int->Int->Option Int}(hg:∀ a b,T3 a->T3 b->g a b=some (f a b)):∀ (l:List Val) (t:Int),T3 t->cn (ρ:=Val) (fun t v=>(g t (tF_ v)).bind fun r=>some (.inl r)) t l=some (.inl (vU f l t))
 |[],t,h=>rfl
 |v::l,t,h=>by
  rw[cn,hg _ _ h (fV v)];exact wm hf hg l _ (hf _ _)
theorem abL (x:Val)(l:List Val)(hl:l.length<=1000000):l5 5 (x::l)=some (vn (vU Fq l (tF_ x))):=by
 unfold l5;rw[show aF (x::l) (0:Int)=some x from rfl,ap9,gZ,ap9,show decide ((5:Int)=4)=false from rfl,ap',show decide ((5:Int)=5)=true from rfl,aqa];rw[show ga (x::l) (1:Int) (((x::l).length:Nat):Int)=some l by unfold ga;rw[if_pos (by simp only[aqv];omega)];simp,ap9];rw[bX (l:=l) (mk:=fun t i=>(t,i)) (f:=fun t v=>(abJ t (tF_ v)).bind fun r=>some (.inl r)) ?_ ?_ (by unfold fuel;omega) (tF_ x)]
 ·rw[wm Kt (fun a b ha hb=>aj7 ha hb) l _ (fV x)]
  show(wb (vU Fq l (tF_ x))).bind _=_;rw[iE (Az Kt l _ (fV x))];rfl
 ·intro s i v hv
  have hi:=(ap_.1 hv).1;unfold sK;dsimp only;rw[aO hv,aqa,gn_ hv,wrapN m0];simp only[ap9];rw[gZ,ap9]
  cases abJ s (tF_ v)<;>rfl
 ·intro s
  unfold sK;dsimp only;rw[lF_,ap']
theorem ae1 (x:Val)(l:List Val)(hl:l.length<=1000000):l5 6 (x::l)=some (vn (vU or3 l (tF_ x))):=by
 unfold l5;rw[show aF (x::l) (0:Int)=some x from rfl,ap9,gZ,ap9,show decide ((6:Int)=4)=false from rfl,ap',show decide ((6:Int)=5)=false from rfl,ap'];rw[show ga (x::l) (1:Int) (((x::l).length:Nat):Int)=some l by unfold ga;rw[if_pos (by simp only[aqv];omega)];simp,ap9];rw[bX (l:=l) (mk:=fun t i=>(t,i)) (f:=fun t v=>(B5 t (tF_ v)).bind fun r=>some (.inl r)) ?_ ?_ (by unfold fuel;omega) (tF_ x)]
 ·rw[wm abl (fun a b ha hb=>amb ha hb) l _ (fV x)]
  show(wb (vU or3 l (tF_ x))).bind _=_;rw[iE (Az abl l _ (fV x))];rfl
 ·intro s i v hv
  have hi:=(ap_.1 hv).1;unfold sE;dsimp only;rw[aO hv,aqa,gn_ hv,wrapN m0];simp only[ap9];rw[gZ,ap9]
  cases B5 s (tF_ v)<;>rfl
 ·intro s
  unfold sE;dsimp only;rw[lF_,ap']
theorem aaj (x:Val):l5 4 [x]=some (vn (D_ (tF_ x))):=by
 unfold l5;rw[show aF [x] (0:Int)=some x from rfl,ap9,gZ,ap9,show decide ((4:Int)=4)=true from rfl,aqa,sN (fV x),ap9,iE (pv _)];rfl
theorem CU (op:Int)(f:Int->Int->Int)(hf:∀ a b,T3 (f a b))(Q4:∀ a b,T3 a->T3 b->(bif decide (op=5)then DU a b else abB a b)=some (f a b))(x:Val)(l:List Val)(hl:l.length<=1000000):sY op (x::l)=some (vn (vU f l (tF_ x))):=by
 unfold sY;rw[show aF (x::l) (0:Int)=some x from rfl,ap9,kS,ap9];have:=JH (l:=x::l) (body:=lW op (x::l)) (ρ:=Val) (mk:=fun t i=>(t,i)) (f:=fun t v=>(bif decide (op=5)then DU t (tF_ v)else abB t (tF_ v)).bind fun r=>some (.inl r)) (by
  intro s i v hv;have hi:=(ap_.1 hv).1;unfold lW;dsimp only;rw[aO hv,aqa,gn_ hv,wrapN (by simp at hi;omega)];simp only[ap9,kS]
  cases decide (op=5)
  ·simp only[ap'];cases abB s (tF_ v)<;>rfl
  ·simp only[aqa];cases DU s (tF_ v)<;>rfl) (by
  intro s;unfold lW;dsimp only;rw[lF_,ap']) fuel 1 (tF_ x) m5 (by unfold fuel;simp;omega)
 rw[show((1:Nat):Int)=1 from rfl]at this;rw[this];have h2:=wm hf Q4 l (tF_ x) (fV x);rw[show(x::l).drop 1=l from rfl,h2];show(zQ (vU f l (tF_ x))).bind _=_;rw[mr (Az hf l _ (fV x))];rfl
theorem sG (s:ByteArray):(s.toList==(⟨#[]⟩:ByteArray).toList)=true↔s=empty:=by
 rw[beq_iff_eq,ByteArray.toList_eq,ByteArray.toList_eq];constructor
 ·intro h
  have:s.data.toList=[]:=h;obtain⟨d⟩:=s;obtain⟨l⟩:=d;simp at this;subst this;rfl
 ·rintro rfl;rfl
structure VV (v:Val):Prop where
 kind:0<=v.kind/\v.kind<=3
 int : -1125899906842624<=v.int/\v.int<=1125899906842624
 text:v.text.size<=200
theorem rZ {v:Val}(h:vF v=true):VV v:=by
 have hx:=ia v;rw[h]at hx;unfold dc at hx;have e0:∀ s:ByteArray,s=empty->s.size<=200:=by rintro s rfl;decide
 by_cases k0:v.kind=0
 ·rw[aqc k0,aqa]at hx
  by_cases i0:v.int=0
  ·rw[aqc i0,aqa]at hx
   have:=(sG _).1 (aqG hx);exact⟨m0,m0,e0 _ this⟩
  ·rw[aqb i0,ap']at hx;cases hx
 rw[aqb k0,ap']at hx;by_cases k1:v.kind=1
 ·rw[aqc k1,aqa]at hx
  by_cases t0:(v.text.toList==(⟨#[]⟩:ByteArray).toList)=true
  ·rw[t0,aqa]at hx
   by_cases i1:(-1125899906842624:Int)<=v.int
   ·rw[aqc i1,aqa]at hx
    have:=aqC (aqG hx);exact⟨m0,⟨i1,this⟩,e0 _ ((sG _).1 t0)⟩
   ·rw[aqb i1,ap']at hx;cases hx
  ·rw[Bool.not_eq_true]at t0
   rw[t0,ap']at hx;cases hx
 rw[aqb k1,ap']at hx;by_cases k2:v.kind=2
 ·rw[aqc k2,aqa]at hx
  by_cases i0:v.int=0
  ·rw[aqc i0,aqa]at hx
   by_cases t2:((v.text.size:Nat):Int)<=200
   ·exact⟨m0,m0,m0⟩
   ·rw[aqb t2,ap']at hx;cases hx
  ·rw[aqb i0,ap']at hx;cases hx
 rw[aqb k2,ap']at hx;by_cases k3:v.kind=3
 ·rw[aqc k3,aqa]at hx
  by_cases t0:(v.text.toList==(⟨#[]⟩:ByteArray).toList)=true
  ·rw[t0,aqa]at hx
   by_cases i0:v.int=0
   ·exact⟨m0,m0,e0 _ ((sG _).1 t0)⟩
   ·rw[aqb i0,ap']at hx
    have:=aqC (aqG hx);exact⟨m0,m0,e0 _ ((sG _).1 t0)⟩
  ·rw[Bool.not_eq_true]at t0
   rw[t0,ap']at hx;cases hx
 rw[aqb k3,ap']at hx
 cases hx
theorem VV.vok {v:Val}(h:VV v):VOK v:=⟨⟨by have:=h.kind;omega,by have:=h.kind;omega⟩,⟨by have:=h.int;omega,by have:=h.int;omega⟩,by have:=h.text;omega⟩
abbrev anO (n:Int):Val:=Kw ⟨1,n,empty⟩
abbrev anx (s:ByteArray):Val:=Kw ⟨2,0,s⟩
def alc (op a b:Int):Val:=(cW op a b).getD bJ
theorem alA {a:Int}(h : -1125899906842624<=a/\a<=1125899906842624):zb a (i64.wrap (0-a))=(a.natAbs:Int):=by
 rw[dj m0];unfold zb;split<;>omega
theorem FS (a b:Int):rm a b=cW 15 a b:=by
 unfold rm cW;rw[show decide ((15:Int)=13)=false from rfl,show decide ((15:Int)=14)=false from rfl,show decide ((15:Int)=15)=true from rfl];simp only[aqa,ap']
 cases decide (a≠0)with
 |false=>simp only[ap'];rw[j0,iD]
 |true =>
  simp only[aqa];unfold afq;simp only[ap9];rw[j0,iD];rfl
theorem I6 {op a b:Int}(ha : -1125899906842624<=a/\a<=1125899906842624):∃ v,cW op a b=some v/\vF v=true:=by
 unfold cW;simp only[iD,ap9,bT]
 cases decide (op=13)with
 |true=>exact⟨_,rfl,mW _⟩
 |false =>
 cases decide (op=14)with
 |true=>exact⟨_,rfl,mW _⟩
 |false =>
 cases decide (op=15)with
 |true =>
  simp only[aqa,ap'];by_cases h:a=0
  ·subst h;exact⟨_,rfl,mW _⟩
  ·rw[aqc (show a≠0 from h),aqa]
   unfold afq;simp only[ap9];rw[alA ha,aqc (show((a.natAbs:Nat):Int)≠0 by omega),aqa];generalize decide (i64.wrap ((1125899906842624:Int).tdiv ((a.natAbs:Nat):Int))<zb b (i64.wrap (0-b)))=c
   cases c with
   |true=>exact⟨_,rfl,j_⟩
   |false=>exact⟨_,rfl,mW _⟩
 |false =>
  simp only[ap'];by_cases h:b=0
  ·rw[aqc h];exact⟨_,rfl,j_⟩
  ·rw[aqb h,aqc (show b≠0 from h)]
   simp only[aqa,ap']
   cases decide (op=16)with
   |true=>exact⟨_,rfl,mW _⟩
   |false=>exact⟨_,rfl,mW _⟩
theorem eO {op a b:Int}(ha : -1125899906842624<=a/\a<=1125899906842624):cW op a b=some (alc op a b)/\vF (alc op a b)=true:=by
 obtain⟨v,h1,h2⟩:=I6 (op:=op) (b:=b) ha;unfold alc;rw[h1];exact⟨rfl,h2⟩
theorem Bq (l:List Val)(hl:l.length<=1000000):ao (oI l) fuel (0:Int)=some (bif dP l 1 then .inl ((l.length:Nat):Int)else .inr bJ):=by
 rw[bX (l:=l) (mk:=fun(_:Unit) i=>i) (f:=fun _ v=>some (if v.kind≠1 then .inr bJ else .inl ())) ?_ ?_ (by unfold fuel;omega) ()]
 ·have:∀ l:List Val,cn (ρ:=Val) (fun(_:Unit) (v:Val)=>some (if v.kind≠1 then .inr bJ else .inl ())) () l=some (if dP l 1=true then .inl ()else .inr bJ):=by
   intro l
   induction l with
   |nil=>rfl
   |cons v l ih =>
    rw[cn];by_cases h:v.kind=1
    ·simp only[ne_eq,h,not_true_eq_false,if_false]
     rw[ih];simp[dP,h]
    ·simp[dP,h]
  rw[this]
  cases dP l 1<;>rfl
 ·intro s i x hx
  have hi:=(ap_.1 hx).1;unfold oI;dsimp only;rw[aO hx,aqa,gn_ hx,wrapN m0];simp only[ap9];by_cases h:x.kind=1
  ·simp[h,nT]
  ·simp[h,nT,jN]
 ·intro s
  unfold oI;dsimp only;rw[lF_,ap']
def ef (op:Int)(a b:Val):Val:=bif dP [a,b] 1 then alc op a.int b.int else bJ
theorem lL {op:Int}{a b:Val}(ha:VV a)(h:op=13\/op=14\/op=15\/op=16\/op=17):kg op [a,b]=some (ef op a b):=by
 unfold kg ef;rw[Bq _ m5]
 cases dP [a,b] 1 with
 |false=>rfl
 |true =>
  simp only[aqa,ap9];have hc:=(eO (op:=op) (b:=b.int) ha.int).1;rw[<- hc];unfold su;dsimp only;rw[show aF [a,b] (0:Int)=some a from rfl,ap9,show aF [a,b] (i64.wrap ((([a,b].length:Nat):Int)-1))=some b from rfl,ap9];rcases h with rfl|rfl|rfl|rfl|rfl
  ·unfold cW
   rw[show decide ((13:Int)=13)=true from rfl,aqa,aqa,iD,j0]
  ·unfold cW
   rw[show decide ((14:Int)=13)=false from rfl,show decide ((14:Int)=14)=true from rfl];simp only[aqa,ap'];rw[iD,j0]
  ·rw[show decide ((15:Int)=13)=false from rfl,show decide ((15:Int)=14)=false from rfl,show decide ((15:Int)=15)=true from rfl]
   simp only[aqa,ap'];rw[FS]
   cases cW 15 a.int b.int<;>rfl
  ·unfold cW
   rw[show decide ((16:Int)=13)=false from rfl,show decide ((16:Int)=14)=false from rfl,show decide ((16:Int)=15)=false from rfl,show decide ((16:Int)=18)=false from rfl,show decide ((16:Int)=16)=true from rfl];simp only[aqa,ap',j0,iD,jN,bT]
  ·unfold cW
   rw[show decide ((17:Int)=13)=false from rfl,show decide ((17:Int)=14)=false from rfl,show decide ((17:Int)=15)=false from rfl,show decide ((17:Int)=18)=false from rfl,show decide ((17:Int)=16)=false from rfl];simp only[aqa,ap',j0,iD,jN,bT]
def On (a:Val):Val:=bif dP [a] 1 then anO (i64.wrap (0-a.int))else bJ
theorem aaU (a:Val):kg 18 [a]=some (On a):=by
 unfold kg On;rw[Bq _ m5]
 cases dP [a] 1 with
 |false=>rfl
 |true =>
  simp only[aqa,ap9];show(mf _).bind _=_;rw[j0];rfl
def IB (a b:Val):Val:=bif dP [a,b] 2 then anx (a.text++b.text)else bJ
def Jh (a:Val):Val:=bif dP [a] 2 then anO ((a.text.size:Nat):Int)else bJ
theorem OG {a b:Val}(ha:VV a)(hb:VV b):qM 19 [a,b]=some (IB a b):=by
 unfold qM IB;rw[kF _ _ m5,ap9]
 cases dP [a,b] 2 with
 |false=>rfl
 |true =>
  have h1:=ha.text;have h2:=hb.text;rw[Bool.not_true,ap',aqa,show decide ((19:Int)=19)=true from rfl,aqa,show aF [a,b] (0:Int)=some a from rfl,ap9,show aF [a,b] (1:Int)=some b from rfl,ap9];rw[aqc (show a.text.size+b.text.size<=9223372036854775807 by omega),aqa,ae0];rfl
theorem ab9 (a:Val):qM 20 [a]=some (Jh a):=by
 unfold qM Jh;rw[kF _ _ m5,ap9]
 cases dP [a] 2 with
 |false=>rfl
 |true =>
  rw[Bool.not_true,ap',aqa,show decide ((20:Int)=19)=false from rfl,ap',show aF [a] (0:Int)=some a from rfl,ap9,iD];rfl
def mq (p:Int×ByteArray)(x:Val):Option (Sum (Int×ByteArray) Val):=bif decide (x.kind≠2)then some (.inr bJ)else bif decide (p.2.size+x.text.size<=9223372036854775807)then some (.inl (i64.wrap (p.1+((x.text.size:Nat):Int)),p.2++x.text))else none
theorem Ci (op:Int)(l:List Val)(hl:l.length<=1000000):rH op l=(A_ (fun(p:Int×ByteArray) i=>(p.1,p.2,i)) l.length (cn mq (0,⟨#[]⟩) l)).bind (Gi op):=by
 unfold rH;rw[bX (l:=l) (mk:=fun(p:Int×ByteArray) i=>(p.1,p.2,i)) (f:=mq) ?_ ?_ (by unfold fuel;omega) ((0:Int),(⟨#[]⟩:ByteArray))]
 ·intro s i x hx
  have hi:=(ap_.1 hx).1;unfold sR mq;dsimp only;rw[aO hx,aqa,gn_ hx,wrapN m0];simp only[ap9]
  cases decide (x.kind≠2)with
  |true=>rfl
  |false =>
   simp only[ap']
   cases decide (s.2.size+x.text.size<=9223372036854775807)<;>rfl
 ·intro s
  unfold sR;dsimp only;rw[lF_,ap']
theorem ai9 (s:ByteArray):(⟨#[]⟩:ByteArray)++s=s:=by
 apply ByteArray.ext;simp
theorem aaP {a b:Val}(ha:VV a)(hb:VV b):rH 19 [a,b]=some (IB a b):=by
 have h1:=ha.text;have h2:=hb.text;have h0:(⟨#[]⟩:ByteArray).size=0:=rfl;rw[Ci _ _ m5];unfold IB;by_cases ka:a.kind=2
 ·by_cases kb:b.kind=2
  ·have e:dP [a,b] 2=true:=by simp[dP,ka,kb]
   rw[e];simp only[cn,mq];rw[aqb (show ¬ a.kind≠2 by omega),ap',aqc (show(⟨#[]⟩:ByteArray).size+a.text.size<=9223372036854775807 by rw[h0];omega),aqa];simp only[];rw[aqb (show ¬ b.kind≠2 by omega),ap',ai9,aqc (show a.text.size+b.text.size<=9223372036854775807 by omega),aqa];show(yl (a.text++b.text)).bind _=_;rw[aep];rfl
  ·have e:dP [a,b] 2=false:=by simp[dP,kb]
   rw[e];simp only[cn,mq];rw[aqb (show ¬ a.kind≠2 by omega),ap',aqc (show(⟨#[]⟩:ByteArray).size+a.text.size<=9223372036854775807 by rw[h0];omega),aqa];simp only[];rw[aqc (show b.kind≠2 from kb),aqa];rfl
 ·have e:dP [a,b] 2=false:=by simp[dP,ka]
  rw[e];simp only[cn,mq];rw[aqc (show a.kind≠2 from ka),aqa];rfl
theorem aaw {a:Val}(ha:VV a):rH 20 [a]=some (Jh a):=by
 have h1:=ha.text;have h0:(⟨#[]⟩:ByteArray).size=0:=rfl;rw[Ci _ _ m5];unfold Jh;by_cases ka:a.kind=2
 ·have e:dP [a] 2=true:=by simp[dP,ka]
  rw[e];simp only[cn,mq];rw[aqb (show ¬ a.kind≠2 by omega),ap',aqc (show(⟨#[]⟩:ByteArray).size+a.text.size<=9223372036854775807 by rw[h0];omega),aqa];show(mf (i64.wrap (0+((a.text.size:Nat):Int)))).bind _=_;rw[j0,Int.zero_add,dj m0];rfl
 ·have e:dP [a] 2=false:=by simp[dP,ka]
  rw[e];simp only[cn,mq];rw[aqc (show a.kind≠2 from ka),aqa];rfl
def IG (rel:Int)(a b c d:Val):Val :=
 bif dP [a,b,c,d] 1 then(if aq ⟨a.int,b.int⟩=true/\aq ⟨c.int,d.int⟩=true then kq (decide (cL ⟨a.int,b.int⟩ ⟨c.int,d.int⟩=rel))else bJ)else bJ
theorem IA (rel:Int)(a b c d:Val):n9 rel [a,b,c,d]=some (IG rel a b c d):=by
 unfold n9 IG;rw[kF _ _ m5,ap9]
 cases dP [a,b,c,d] 1 with
 |false=>exact congrArg (fun o:Option Val=>o.bind fun r=>some r) bT
 |true =>
  rw[Bool.not_true,ap',aqa,show aF [a,b,c,d] (0:Int)=some a from rfl,show aF [a,b,c,d] (1:Int)=some b from rfl,show aF [a,b,c,d] (2:Int)=some c from rfl,show aF [a,b,c,d] (3:Int)=some d from rfl];rw[ap9,ap9,ap9,ap9,aiR,ap9];generalize cL ⟨a.int,b.int⟩ ⟨c.int,d.int⟩=x;generalize aq ⟨a.int,b.int⟩=y;generalize aq ⟨c.int,d.int⟩=z
  cases y<;>cases z
  ·exact congrArg (fun o:Option Val=>o.bind fun r=>some r) bT
  ·exact congrArg (fun o:Option Val=>o.bind fun r=>some r) bT
  ·exact congrArg (fun o:Option Val=>o.bind fun r=>some r) bT
  ·exact congrArg (fun o:Option Val=>o.bind fun r=>some r) (td _)
theorem MK (rel:Int)(a b c d:Val):qQ rel [a,b,c,d]=some (IG rel a b c d):=by
 unfold qQ IG xi;rw[show aF [a,b,c,d] (0:Int)=some a from rfl,show aF [a,b,c,d] (1:Int)=some b from rfl,show aF [a,b,c,d] (2:Int)=some c from rfl,show aF [a,b,c,d] (3:Int)=some d from rfl];simp only[ap9];rw[adi,ap9,jN];have e:dP [a,b,c,d] 1=((decide (a.kind=1)&&decide (b.kind=1))&&(decide (c.kind=1)&&decide (d.kind=1))):=by
  simp[dP,Bool.and_assoc]
 rw[e];generalize (decide (a.kind=1)&&decide (b.kind=1))=u;generalize (decide (c.kind=1)&&decide (d.kind=1))=v;generalize cL ⟨a.int,b.int⟩ ⟨c.int,d.int⟩=x;generalize aq ⟨a.int,b.int⟩=y;generalize aq ⟨c.int,d.int⟩=z
 cases u
 ·rfl
 cases v
 ·rfl
 cases y<;>cases z
 ·rfl
 ·rfl
 ·rfl
 ·exact congrArg (fun o:Option Val=>o.bind fun r=>some r) (GG _)
theorem cU {n k:Int}:decide (n=k)=(decide (k<=n)&&decide (n<=k)):=by
 rw[Bool.eq_iff_iff];simp only[aqr,decide_eq_true_eq];omega
theorem JV {n k:Int}(h:n<=1099511627776):decide (k<=n)=(decide (k<=n)&&decide (n<=1099511627776)):=by
 rw[aqc h,Bool.and_true]
def jt (op:Int):Int×Int:=(qY op).getD (-1,0)
theorem q_ (op n:Int)(h:n<=1099511627776):qY op=some (jt op)/\qo op n=some (decide (0<=(jt op).1)&&(decide ((jt op).1<=n)&&decide (n<=(jt op).2)),decide (0<=(jt op).1))/\(0<=(jt op).1->op=1\/op=2\/op=4\/op=5\/op=6\/op=7\/op=8\/op=9\/op=10\/op=11\/op=12\/op=13\/op=14\/op=15\/op=16\/op=17\/op=18\/op=19\/op=20\/op=21\/op=22\/op=23\/op=24) /\ -1<=(jt op).1:=by
 by_cases h1:op=1
 ·subst h1
  refine⟨rfl,?_,fun _=>by simp,by decide⟩;show some (decide (n=0),true)=some (true&&(decide ((0:Int)<=n)&&decide (n<=0)),true);rw[aqH,<- cU]
 by_cases h2:op=2
 ·subst h2
  refine⟨rfl,?_,fun _=>by simp,by decide⟩;show some (decide (n=0),true)=some (true&&(decide ((0:Int)<=n)&&decide (n<=0)),true);rw[aqH,<- cU]
 by_cases h4:op=4
 ·subst h4
  refine⟨rfl,?_,fun _=>by simp,by decide⟩;show some (decide (n=1),true)=some (true&&(decide ((1:Int)<=n)&&decide (n<=1)),true);rw[aqH,<- cU]
 by_cases h5:op=5
 ·subst h5
  refine⟨rfl,?_,fun _=>by simp,by decide⟩;show some (decide ((2:Int)<=n),true)=some (true&&(decide ((2:Int)<=n)&&decide (n<=1099511627776)),true);rw[aqH,<- JV h]
 by_cases h6:op=6
 ·subst h6
  refine⟨rfl,?_,fun _=>by simp,by decide⟩;show some (decide ((2:Int)<=n),true)=some (true&&(decide ((2:Int)<=n)&&decide (n<=1099511627776)),true);rw[aqH,<- JV h]
 by_cases h7:op=7
 ·subst h7
  refine⟨rfl,?_,fun _=>by simp,by decide⟩;show some (decide (n=2),true)=some (true&&(decide ((2:Int)<=n)&&decide (n<=2)),true);rw[aqH,<- cU]
 by_cases h8:op=8
 ·subst h8
  refine⟨rfl,?_,fun _=>by simp,by decide⟩;show some (decide (n=2),true)=some (true&&(decide ((2:Int)<=n)&&decide (n<=2)),true);rw[aqH,<- cU]
 by_cases h9:op=9
 ·subst h9
  refine⟨rfl,?_,fun _=>by simp,by decide⟩;show some (decide (n=2),true)=some (true&&(decide ((2:Int)<=n)&&decide (n<=2)),true);rw[aqH,<- cU]
 by_cases YZ:op=10
 ·subst YZ
  refine⟨rfl,?_,fun _=>by simp,by decide⟩;show some (decide (n=2),true)=some (true&&(decide ((2:Int)<=n)&&decide (n<=2)),true);rw[aqH,<- cU]
 by_cases h11:op=11
 ·subst h11
  refine⟨rfl,?_,fun _=>by simp,by decide⟩;show some (decide (n=2),true)=some (true&&(decide ((2:Int)<=n)&&decide (n<=2)),true);rw[aqH,<- cU]
 by_cases h12:op=12
 ·subst h12
  refine⟨rfl,?_,fun _=>by simp,by decide⟩;show some (decide (n=2),true)=some (true&&(decide ((2:Int)<=n)&&decide (n<=2)),true);rw[aqH,<- cU]
 by_cases h13:op=13
 ·subst h13
  refine⟨rfl,?_,fun _=>by simp,by decide⟩;show some (decide (n=2),true)=some (true&&(decide ((2:Int)<=n)&&decide (n<=2)),true);rw[aqH,<- cU]
 by_cases h14:op=14
 ·subst h14
  refine⟨rfl,?_,fun _=>by simp,by decide⟩;show some (decide (n=2),true)=some (true&&(decide ((2:Int)<=n)&&decide (n<=2)),true);rw[aqH,<- cU]
 by_cases h15:op=15
 ·subst h15
  refine⟨rfl,?_,fun _=>by simp,by decide⟩;show some (decide (n=2),true)=some (true&&(decide ((2:Int)<=n)&&decide (n<=2)),true);rw[aqH,<- cU]
 by_cases h16:op=16
 ·subst h16
  refine⟨rfl,?_,fun _=>by simp,by decide⟩;show some (decide (n=2),true)=some (true&&(decide ((2:Int)<=n)&&decide (n<=2)),true);rw[aqH,<- cU]
 by_cases h17:op=17
 ·subst h17
  refine⟨rfl,?_,fun _=>by simp,by decide⟩;show some (decide (n=2),true)=some (true&&(decide ((2:Int)<=n)&&decide (n<=2)),true);rw[aqH,<- cU]
 by_cases h18:op=18
 ·subst h18
  refine⟨rfl,?_,fun _=>by simp,by decide⟩;show some (decide (n=1),true)=some (true&&(decide ((1:Int)<=n)&&decide (n<=1)),true);rw[aqH,<- cU]
 by_cases h19:op=19
 ·subst h19
  refine⟨rfl,?_,fun _=>by simp,by decide⟩;show some (decide (n=2),true)=some (true&&(decide ((2:Int)<=n)&&decide (n<=2)),true);rw[aqH,<- cU]
 by_cases h20:op=20
 ·subst h20
  refine⟨rfl,?_,fun _=>by simp,by decide⟩;show some (decide (n=1),true)=some (true&&(decide ((1:Int)<=n)&&decide (n<=1)),true);rw[aqH,<- cU]
 by_cases h21:op=21
 ·subst h21
  refine⟨rfl,?_,fun _=>by simp,by decide⟩;show some (decide (n=1),true)=some (true&&(decide ((1:Int)<=n)&&decide (n<=1)),true);rw[aqH,<- cU]
 by_cases h22:op=22
 ·subst h22
  refine⟨rfl,?_,fun _=>by simp,by decide⟩;show some (decide (n=3),true)=some (true&&(decide ((3:Int)<=n)&&decide (n<=3)),true);rw[aqH,<- cU]
 by_cases h23:op=23
 ·subst h23
  refine⟨rfl,?_,fun _=>by simp,by decide⟩;show some (decide ((1:Int)<=n),true)=some (true&&(decide ((1:Int)<=n)&&decide (n<=1099511627776)),true);rw[aqH,<- JV h]
 by_cases h24:op=24
 ·subst h24
  refine⟨rfl,?_,fun _=>by simp,by decide⟩;show some (decide (n=4),true)=some (true&&(decide ((4:Int)<=n)&&decide (n<=4)),true);rw[aqH,<- cU]
 have e1:qY op=some (-1,0):=by
  unfold qY;simp only[aqb h1,aqb h2,aqb h4,aqb h5,aqb h6,aqb h7,aqb h8,aqb h9,aqb YZ,aqb h11,aqb h12,aqb h13,aqb h14,aqb h15,aqb h16,aqb h17,aqb h18,aqb h19,aqb h20,aqb h21,aqb h22,aqb h23,aqb h24,ap']
 have e2:qo op n=some (false,false):=by
  unfold qo;simp only[aqb h1,aqb h2,aqb h4,aqb h5,aqb h6,aqb h7,aqb h8,aqb h9,aqb YZ,aqb h11,aqb h12,aqb h13,aqb h14,aqb h15,aqb h16,aqb h17,aqb h18,aqb h19,aqb h20,aqb h21,aqb h22,aqb h23,aqb h24,ap']
 have e3:jt op=(-1,0):=by unfold jt;rw[e1];rfl
 rw[e1,e2,e3];exact⟨rfl,rfl,fun h=>absurd h m9,by decide⟩
theorem ar1:jt 1=(0,0):=rfl
theorem ar2:jt 2=(0,0):=rfl
theorem ar4:jt 4=(1,1):=rfl
theorem ar5:jt 5=(2,1099511627776):=rfl
theorem ar6:jt 6=(2,1099511627776):=rfl
theorem ar7:jt 7=(2,2):=rfl
theorem ar8:jt 8=(2,2):=rfl
theorem ar9:jt 9=(2,2):=rfl
theorem apD:jt 10=(2,2):=rfl
theorem apF:jt 11=(2,2):=rfl
theorem apk:jt 12=(2,2):=rfl
theorem an7:jt 13=(2,2):=rfl
theorem aoe:jt 14=(2,2):=rfl
theorem aoo:jt 15=(2,2):=rfl
theorem anE:jt 16=(2,2):=rfl
theorem an1:jt 17=(2,2):=rfl
theorem apj:jt 18=(1,1):=rfl
theorem ao8:jt 19=(2,2):=rfl
theorem apu:jt 20=(1,1):=rfl
theorem apG:jt 21=(1,1):=rfl
theorem alO:jt 22=(3,3):=rfl
theorem apq:jt 23=(1,1099511627776):=rfl
theorem ao5:jt 24=(4,4):=rfl
def qw (e:Ex):Bool:=(iO e).getD false
def agS (v:Val):Bool:=cg [.c (.int .i64 v.kind),.c (.int .i64 v.int),.c (.str v.text)] [.c (.int .i64 (0:Int)),.c (.int .i64 (0:Int)),.c (.str empty)]
def vw (e:Ex):Bool:=(e.nm.toList==(⟨#[]⟩:ByteArray).toList)&&(if e.op=1 then decide (e.int=0)&&vF e.v else if e.op=2 then agS e.v else if e.op=24 then agS e.v&&(decide (0<=e.int)&&decide (e.int<13))else decide (e.int=0)&&agS e.v)
theorem mC (e:Ex)(h:e.args.length<=100000):iO e=some ((decide (0<=(jt e.op).1)&&(decide ((jt e.op).1<=((e.args.length:Nat):Int))&&decide (((e.args.length:Nat):Int)<=(jt e.op).2)))&&vw e)/\mP e=some ((decide (0<=(jt e.op).1)&&(decide ((jt e.op).1<=((e.args.length:Nat):Int))&&decide (((e.args.length:Nat):Int)<=(jt e.op).2)))&&vw e):=by
 obtain⟨h1,h2,h3,h4⟩:=q_ e.op ((e.args.length:Nat):Int) m0;generalize jt e.op=a at h1 h2 h3 h4;obtain⟨lo,hi⟩:=a;dsimp only at h1 h2 h3 h4 ⊢;have hR:iO e=(bif decide (0<=lo)&&(decide (lo<=((e.args.length:Nat):Int))&&decide (((e.args.length:Nat):Int)<=hi))then some (vw e)else some false):=by
  unfold iO;rw[h1,ap9];dsimp only;by_cases c1:0<=lo
  ·rw[aqb (show ¬ lo<0 by omega),aqc c1,ap',aqH]
   by_cases c2:lo<=((e.args.length:Nat):Int)
   ·rw[aqb (show ¬ ((e.args.length:Nat):Int)<lo by omega),aqc c2,ap',aqH]
    by_cases c3:((e.args.length:Nat):Int)<=hi
    ·rw[aqb (show ¬ hi<((e.args.length:Nat):Int)by omega),aqc c3,ap',aqa]
     unfold vw
     cases (e.nm.toList==(⟨#[]⟩:ByteArray).toList)with
     |false=>rfl
     |true =>
      rw[Bool.not_true,ap',aqH];by_cases o1:e.op=1
      ·rw[aqc o1,aqa,if_pos o1,ia]
       cases decide (e.int=0)<;>rfl
      ·rw[aqb o1,ap',if_neg o1,bT]
       by_cases o2:e.op=2
       ·rw[aqc o2,aqa,if_pos o2];rfl
       ·rw[aqb o2,ap',if_neg o2]
        by_cases o3:e.op=24
        ·rw[aqc o3,aqa,if_pos o3]
         show(bif agS e.v then _ else _)=_
         cases agS e.v
         ·rfl
         ·rw[aqa,aqH]
          cases decide (0<=e.int)<;>rfl
        ·rw[aqb o3,ap',if_neg o3]
         cases decide (e.int=0)<;>rfl
    ·rw[aqc (show hi<((e.args.length:Nat):Int)by omega),aqb c3,aqa];rfl
   ·rw[aqc (show((e.args.length:Nat):Int)<lo by omega),aqb c2,aqa];rfl
  ·rw[aqc (show lo<0 by omega),aqb c1,aqa];rfl
 have hP:mP e=(bif decide (0<=lo)&&(decide (lo<=((e.args.length:Nat):Int))&&decide (((e.args.length:Nat):Int)<=hi))then some (vw e)else some false):=by
  unfold mP;rw[h2,ap9];dsimp only
  cases (decide (0<=lo)&&(decide (lo<=((e.args.length:Nat):Int))&&decide (((e.args.length:Nat):Int)<=hi)))with
  |false=>rfl
  |true =>
   rw[Bool.not_true,ap',aqa];unfold vw
   cases (e.nm.toList==(⟨#[]⟩:ByteArray).toList)with
   |false=>rfl
   |true =>
    rw[Bool.not_true,ap',aqH];by_cases o1:e.op=1
    ·rw[aqc o1,aqa,if_pos o1,uC]
     cases decide (e.int=0)<;>rfl
    ·rw[aqb o1,ap',if_neg o1]
     by_cases o3:e.op=24
     ·have o2:¬ e.op=2:=m0
      rw[aqc o3,aqa,if_neg o2,if_pos o3];by_cases i1:0<=e.int
      ·rw[aqb (show ¬ e.int<0 by omega),ap',aqc i1,aqH]
       by_cases i2:e.int<13
       ·rw[aqb (show ¬ 13<=e.int by omega),ap',aqc i2,Bool.and_true];rfl
       ·rw[aqc (show 13<=e.int by omega),aqa,aqb i2,Bool.and_false]
      ·rw[aqc (show e.int<0 by omega),aqa,aqb i1,Bool.false_and,Bool.and_false]
     ·rw[aqb o3,ap']
      by_cases o2:e.op=2
      ·rw[aqc o2,aqa,if_pos o2];rfl
      ·rw[aqb o2,ap',if_neg o2,if_neg o3]
       cases decide (e.int=0)<;>rfl
 rw[hR,hP]
 cases (decide (0<=lo)&&(decide (lo<=((e.args.length:Nat):Int))&&decide (((e.args.length:Nat):Int)<=hi)))<;>exact⟨rfl,rfl⟩
theorem zy {e:Ex}(h:e.args.length<=100000):iO e=some (qw e):=by unfold qw;rw[(mC e h).1];rfl
theorem Dc {e:Ex}(h:e.args.length<=100000):mP e=some (qw e):=by unfold qw;rw[(mC e h).2,(mC e h).1];rfl
theorem uP {e:Ex}(h:e.args.length<=100000)(hf:qw e=true):(e.op=1\/e.op=2\/e.op=4\/e.op=5\/e.op=6\/e.op=7\/e.op=8\/e.op=9\/e.op=10\/e.op=11\/e.op=12\/e.op=13\/e.op=14\/e.op=15\/e.op=16\/e.op=17\/e.op=18\/e.op=19\/e.op=20\/e.op=21\/e.op=22\/e.op=23\/e.op=24)/\(jt e.op).1<=((e.args.length:Nat):Int)/\((e.args.length:Nat):Int)<=(jt e.op).2/\vw e=true:=by
 obtain⟨_,_,h3,_⟩:=q_ e.op ((e.args.length:Nat):Int) m0;unfold qw at hf;rw[(mC e h).1,Option.getD_some,aqr,aqr,aqr]at hf;exact⟨h3 (aqC hf.1.1),aqC hf.1.2.1,aqC hf.1.2.2,hf.2⟩
theorem abr {e:Ex}(h:e.op=1)(hr:vw e=true):vF e.v=true:=by
 unfold vw at hr;rw[if_pos h,aqr,aqr]at hr;exact hr.2.2
def k8 (OX:Ex)(O2:(List Val))(rec:Ex->List Val->Option Val):((List Val)×Int)->Option (Step ((List Val)×Int) (Val)):=fun s=>match s with
 |(Rf,i_5)=>bif (decide (i_5<((OX.args.length:Nat):Int)))then(aF OX.args i_5).bind fun RY=>(rec RY O2).bind fun Sz=>bif (decide (Rf.length+1<=4398046511104))then(some (.next ((Rf++[Sz]),(i64.wrap (i_5+(1:Int))))))else none else
 some (.exit (Rf,i_5))
def gER_K (OX:Ex)(O2:(List Val)):Sum ((List Val)×Int) (Val)->Option ((Val))
 |.inl (Rf,i_5)=>bif (decide (OX.op=(1:Int)))then(y8 OX O2).bind fun Qr=>some Qr else
 bif (decide (OX.op=(2:Int)))then(y8 OX O2).bind fun PM=>some PM else
 bif (decide (OX.op=(4:Int)))then(aF Rf (0:Int)).bind fun x_14=>(fq x_14).bind fun RE=>(Bh RE).bind fun RJ=>(zQ RJ).bind fun QJ=>some QJ else
 bif (decide (OX.op=(5:Int)))then(sY OX.op Rf).bind fun RF=>some RF else
 bif (decide (OX.op=(6:Int)))then(sY OX.op Rf).bind fun Q9=>some Q9 else
 bif (decide (OX.op=(7:Int)))then(aF Rf (0:Int)).bind fun x_23=>(aF Rf (1:Int)).bind fun x_24=>(fh OX.op x_23 x_24).bind fun TM=>(zQ TM).bind fun Yb=>some Yb else
 bif (decide (OX.op=(8:Int)))then(aF Rf (0:Int)).bind fun x_28=>(aF Rf (1:Int)).bind fun x_29=>(fh OX.op x_28 x_29).bind fun WP=>(zQ WP).bind fun Yc=>some Yc else
 bif (decide (OX.op=(9:Int)))then(aF Rf (0:Int)).bind fun x_33=>(aF Rf (1:Int)).bind fun x_34=>(fh OX.op x_33 x_34).bind fun UU=>(zQ UU).bind fun WL=>some WL else
 bif (decide (OX.op=(10:Int)))then(aF Rf (0:Int)).bind fun x_38=>(aF Rf (1:Int)).bind fun x_39=>(fh OX.op x_38 x_39).bind fun WM=>(zQ WM).bind fun UV=>some UV else
 bif (decide (OX.op=(11:Int)))then(aF Rf (0:Int)).bind fun x_43=>(aF Rf (1:Int)).bind fun x_44=>(fh OX.op x_43 x_44).bind fun r_45=>(zQ r_45).bind fun Uj=>some Uj else
 bif (decide (OX.op=(12:Int)))then(aF Rf (0:Int)).bind fun x_48=>(aF Rf (1:Int)).bind fun x_49=>(fh OX.op x_48 x_49).bind fun WN=>(zQ WN).bind fun r_51=>some r_51 else
 bif (decide (OX.op=(18:Int)))then(NL Rf (1:Int)).bind fun r_53=>bif (!r_53)then(du ).bind fun WO=>some WO else
 (aF Rf (0:Int)).bind fun x_56=>(mi (i64.wrap (0-x_56.int))).bind fun r_57=>some r_57 else
 bif (decide (OX.op=(19:Int)))then(qM OX.op Rf).bind fun r_59=>some r_59 else
 bif (decide (OX.op=(20:Int)))then(qM OX.op Rf).bind fun r_61=>some r_61 else
 bif (decide (OX.op=(21:Int)))then(aF Rf (0:Int)).bind fun x_63=>(pN (decide (x_63.kind=(0:Int)))).bind fun r_64=>some r_64 else
 bif (decide (OX.op=(22:Int)))then(pd OX.op Rf).bind fun r_66=>some r_66 else
 bif (decide (OX.op=(23:Int)))then(pd OX.op Rf).bind fun r_68=>some r_68 else
 bif (decide (OX.op=(24:Int)))then(n9 OX.int Rf).bind fun r_70=>some r_70 else
 (NL Rf (1:Int)).bind fun r_71=>bif (!r_71)then(du ).bind fun r_73=>some r_73 else
 (aF Rf (0:Int)).bind fun x_74=>(aF Rf (1:Int)).bind fun x_75=>(cW OX.op x_74.int x_75.int).bind fun r_76=>some r_76
 |.inr q=>some q
def tn (rec:Ex->List Val->Option Val)(OX:Ex)(O2:(List Val)):Option (Val):=(iO OX).bind fun O7=>bif (!O7)then(du ).bind fun PT=>some PT else
 (ao (k8 OX O2 rec) fuel ([],(0:Int))).bind (gER_K OX O2)
def gX:Nat->Ex->List Val->Option Val
 |0,_,_=>none
 |n+1,e,r=>tn (gX n) e r
