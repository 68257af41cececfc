/- Parts. No condition. -/
import Derived.Test.YtlcceppoloaecaaGreatDoorXBI
import Derived.Shelf.Spec.SlicesGrow
set_option maxHeartbeats 8000000
set_option maxRecDepth 100000
set_option linter.unusedSimpArgs false
set_option linter.unusedVariables false
namespace Go.Proofs.YtlcceppoloaecaaGreatDoor
open _root_.ByteArray (empty)
open IntKind (i64)
open Go.RowKit Go.MapKept
def tl (a_l:(List Int)):(Int×Int)->Option (Step (Int×Int) (Int×Bool)):=fun s=>match s with
 |(Qm,PI)=>bif (decide (PI<((a_l.length:Nat):Int)))then(aF a_l PI).bind fun Qf=>bif (decide (Qf=(0:Int)))then some (.next (Qm,(i64.wrap (PI+(1:Int)))))else
 bif (decide (Qm≠(0:Int)))then bif (decide (Qm≠Qf))then some (.ret ((0:Int),false))else
 some (.next (Qf,(i64.wrap (PI+(1:Int)))))else
 some (.next (Qf,(i64.wrap (PI+(1:Int)))))else
 some (.exit (Qm,PI))
def afQ:Sum (Int×Int) (Int×Bool)->Option ((Int×Bool))
 |.inl (Qm,PI)=>some (Qm,true)
 |.inr q=>some q
def jb (a_l:(List Int)):Option (Int×Bool):=(ao (tl a_l) fuel ((0:Int),(0:Int))).bind (afQ)
instance gUnite_ok {a_l : (List Int)} {r : Int × Bool} : OkC (jb a_l = some r) (PTz 226 [.one (.lst (a_l.map (fun x => [AC.int .i64 x])))] (.tup [.one (.int .i64 r.1), .one (.bool r.2)])) := .mk fun H => by
 unfold jb at H;refine po_ Tryz.func226 Tryz.ntmps226 ?_;refine aY ?_;refine alM_ (fun s:Int×Int=>match s with|(Qm,PI)=>[(4,.one (.c (.int .i64 Qm))),(7,.one (.c (.lst (a_l.map (fun x=>[AC.int .i64 x]))))),(8,.one (.c (.int .i64 ((a_l.length:Nat):Int)))),(9,.one (.c (.int .i64 PI)))]) (fun s=>match s with|(Qm,PI)=>[]) H (fun _=>aru _)
  (fm_ bG [] rfl a8 trivial) ?_
 rintro⟨Qm,PI⟩ st1 OU PM;unfold tl at OU;dsimp only at OU ⊢;rcases aj OU with⟨QH,OU⟩|⟨QH,OU⟩
 ·obtain⟨Qf,SN,i1,RL,OU⟩:=bu (f:=(fun x=>[AC.int .i64 x])) OU
  rcases aj OU with⟨RD,OU⟩|⟨RD,OU⟩
  ·cases OU
   refine aY ?_;exact⟨_,rfl,fm_ bG [] rfl a8 trivial⟩
  rcases aj OU with⟨RF,OU⟩|⟨RF,OU⟩
  ·rcases aj OU with⟨SO,OU⟩|⟨SO,OU⟩
   ·exact bA OU PM
   cases OU;refine aY ?_;exact⟨_,rfl,fm_ bG [] rfl a8 trivial⟩
  cases OU;refine aY ?_;exact⟨_,rfl,fm_ bG [] rfl a8 trivial⟩
 exact bA OU PM
def aqw:TI :={ tab with owns:=fun f=>f==248||tab.owns f }
theorem aec:TIok Tryz.prog aqw:=⟨tab_ok.size,tab_ok.agg,tab_ok.elem,tab_ok.field,tab_ok.zero,tab_ok.bytes,tab_ok.kind,tab_ok.struct,tab_ok.zok,tab_ok.eqs⟩
theorem afR (l:List Int):∀ e∈l.map (fun x=>[AC.int .i64 x]),e.length=1:=by intro e he;obtain⟨x,_,rfl⟩:=arK.1 he;rfl
theorem aaI (l:List Int)(h0:l≠[])(hl:l.length<=1000000):RTz 248 [] [.one (.c (aoM l))] [.spare l.length 1] (.one (.own (l.map fun x=>[AC.int .i64 x]) 0)):=by
 refine bo tab_ok Tryz.func248 rfl rfl Tryz.ntmps248 m5 ?_;simp only[eI];obtain⟨x,r,rfl⟩:∃ x r',l=x::r':=by cases l with|nil=>exact absurd rfl h0|cons x r=>exact⟨x,r,rfl⟩
 have hw:=afR (x::r);have hlen:((x::r).map fun x=>[AC.int .i64 x]).length=r.length+1:=by simp
 simp only[arv]at hl
 repeat' (first|refine st_nil ?_|refine st_pop rfl rfl rfl rfl qp_ ?_|refine st_lop rfl rfl rfl rfl qp_ ?_|refine sS_ rfl rfl rfl qp_ ?_|refine st_lit rfl rfl rfl rfl qp_ ?_|refine st_skip rfl rfl rfl ?_|refine sk0_ rfl rfl ?_|(refine st_if rfl (fun hb=>?_) (fun hb=>?_)<;>(first|exact(fx_ hb).elim|rw[hb]))|refine aw_seq ?_|refine aw_region tab_ok _ rfl ?_|refine aw_drawn2 tabS_ok _ rfl mixed (by decide +kernel) ?_|(refine aw_cond rfl (fun hb=>?_) (fun hb=>?_)<;>(try exact(fx_ hb).elim))|refine aw_block ?_|refine aw_exit ?_|refine aw_ret ?_|refine aw_skip ?_|(refine st_pop rfl rfl rfl rfl ?_ ?_;· (repeat' (first|exact t7|rfl|exact arh rfl|omega|exact hw|(rw[hlen];omega)|apply And.intro)))|(refine st_lop rfl rfl rfl rfl ?_ ?_;· (repeat' (first|exact t7|rfl|exact arh rfl|omega|exact hw|(rw[hlen];omega)|apply And.intro)))|(refine sS_ rfl rfl rfl ?_ ?_;· (repeat' (first|exact t7|rfl|exact arh rfl|omega|exact hw|(rw[hlen];omega)|apply And.intro)))|(refine st_lit rfl rfl rfl rfl ?_ ?_;· (repeat' (first|exact t7|rfl|exact arh rfl|omega|exact hw|(rw[hlen];omega)|apply And.intro)))|(refine dM rfl rfl rfl rfl rfl (Ez rfl rfl (tab_ok.kind 29 _ rfl)) ?_)|fail)
 all_goals exact⟨.inr rfl,⟨.inl ⟨2,rfl,rfl⟩,⟨[],by rw[arJ];exact congrArg (fun n=>[Ob.spare n 1]) m5⟩,aru _,bw ⟨t7,t7⟩,by show 0<1;omega⟩⟩
def Nz (l:List Int):Bool := !l.isEmpty&&decide (l.length<=100000)
theorem ait {l:List Int}(h:Nz l=true):l≠[]/\l.length<=100000:=by
 unfold Nz at h;rw[arq]at h;refine⟨?_,arC h.2⟩;rintro rfl;exact absurd h.1 m9
theorem aeZ {a b:Bool}(h:a=b):(CV.val (.one (.bool a))) = .val (.one (.bool b)):=by rw[h]
def rm (l:List Int)(k:Int):Option Bool:=bif Nz l then(jb (l++[k])).bind fun r=>some (bif r.2 then decide (r.1=k)else false)else none
theorem ky {l:List Int}{k:Int}{r:Bool}(H:rm l k=some r):PTz 225 [.one (.lst (l.map (fun x=>[AC.int .i64 x]))),.one (.int .i64 k)] (.val (.one (.bool r))):=by
 unfold rm at H;obtain⟨g,H⟩:=gR H;refine pa_ aec Tryz.func225 rfl rfl Tryz.ntmps225 m5 ?_;simp only[argT,PV.av,ari,arn];obtain⟨h0,hl⟩:=ait g;obtain⟨⟨u1,u2⟩,hun,H⟩:=bd_ H;replace hun:=gUnite_ok hun;have htI:(l++[k]).map (fun x=>[AC.int .i64 x])=(l.map fun x=>[AC.int .i64 x])++[[.int .i64 k]]:=by simp
 rw[htI]at hun;have hun':PTz 226 [.one (.lst ((l.map fun x=>[AC.int .i64 x])++[[.int .i64 k]]))] (.tup [.one (.int .i64 u1),.one (.bool u2)]):=hun;obtain rfl:=arH H;have hlm:(l.map fun x=>[AC.int .i64 x]).length=l.length:=by simp
 repeat' (first|refine aN rfl rfl rfl rfl hun' rfl ?_|(refine cK [] (r' := .one (.own (l.map fun x=>[AC.int .i64 x]) 0)) (L':=[.spare l.length 1]) rfl rfl rfl rfl (aaI l h0 m0) rfl ⟨rfl,m5,fun i x hx=>by simp at hx,fun x hx=>by simp at hx,bY ⟨t7,t7⟩⟩ rfl rfl ?_)|refine st_nil ?_|refine st_pop rfl rfl rfl rfl qp_ ?_|refine st_lop rfl rfl rfl rfl qp_ ?_|refine sS_ rfl rfl rfl qp_ ?_|refine st_lit rfl rfl rfl rfl qp_ ?_|refine st_skip rfl rfl rfl ?_|refine sk0_ rfl rfl ?_|(refine st_if rfl (fun hb=>?_) (fun hb=>?_)<;>(first|exact(fx_ hb).elim|rw[hb]))|refine aw_seq ?_|refine aw_region aec _ rfl ?_|refine aw_drawn2 tabS_ok _ rfl mixed (by decide +kernel) ?_|(refine aw_cond rfl (fun hb=>?_) (fun hb=>?_)<;>(try exact(fx_ hb).elim))|refine aw_block ?_|refine aw_exit ?_|refine aw_ret ?_|refine aw_skip ?_|(refine st_pop rfl rfl rfl rfl ?_ ?_;· (repeat' (first|exact t7|rfl|exact arh rfl|omega|(intro e he;simp at he;subst he;rfl)|exact hlm|(show(_+1)*8<=_;omega)|(show _+1<=_;omega)|apply And.intro)))|(refine st_lop rfl rfl rfl rfl ?_ ?_;· (repeat' (first|exact t7|rfl|exact arh rfl|omega|(intro e he;simp at he;subst he;rfl)|exact hlm|(show(_+1)*8<=_;omega)|(show _+1<=_;omega)|apply And.intro)))|(refine sS_ rfl rfl rfl ?_ ?_;· (repeat' (first|exact t7|rfl|exact arh rfl|omega|(intro e he;simp at he;subst he;rfl)|exact hlm|(show(_+1)*8<=_;omega)|(show _+1<=_;omega)|apply And.intro)))|(refine st_lit rfl rfl rfl rfl ?_ ?_;· (repeat' (first|exact t7|rfl|exact arh rfl|omega|(intro e he;simp at he;subst he;rfl)|exact hlm|(show(_+1)*8<=_;omega)|(show _+1<=_;omega)|apply And.intro)))|fail)
 all_goals (refine a6 (bj rfl (by trivial) (aeZ ?_));simp only[*, aq8,aq7])
def gRsP (OV:Ex)(a_l:(List Int)):Option (Int×Bool):=bif (decide (OV.op=(1:Int)))then some (OV.v.kind,true)else
 bif (decide (OV.op=(4:Int)))then(rm a_l (3:Int)).bind fun P4=>some ((3:Int),P4)else
 bif (decide (OV.op=(5:Int)))then(rm a_l (3:Int)).bind fun QR=>some ((3:Int),QR)else
 bif (decide (OV.op=(6:Int)))then(rm a_l (3:Int)).bind fun Si=>some ((3:Int),Si)else
 bif (decide (OV.op=(7:Int)))then(jb a_l).bind fun SC=>some ((3:Int),SC.2)else
 bif (decide (OV.op=(8:Int)))then(jb a_l).bind fun QW=>some ((3:Int),QW.2)else
 bif (decide (OV.op=(9:Int)))then(jb a_l).bind fun Qc=>some ((3:Int),Qc.2)else
 bif (decide (OV.op=(10:Int)))then(jb a_l).bind fun QX=>some ((3:Int),QX.2)else
 bif (decide (OV.op=(11:Int)))then(jb a_l).bind fun Sj=>some ((3:Int),Sj.2)else
 bif (decide (OV.op=(12:Int)))then(jb a_l).bind fun Rt=>some ((3:Int),Rt.2)else
 bif (decide (OV.op=(19:Int)))then(rm a_l (2:Int)).bind fun QZ=>some ((2:Int),QZ)else
 bif (decide (OV.op=(20:Int)))then(rm a_l (2:Int)).bind fun Sr=>some ((1:Int),Sr)else
 bif (decide (OV.op=(21:Int)))then some ((3:Int),true)else
 bif (decide (OV.op=(22:Int)))then(gq a_l (1:Int) ((a_l.length:Nat):Int)).bind fun ZN=>(jb ZN).bind fun Ux=>bif Ux.2 then(gq a_l (0:Int) (1:Int)).bind fun ZO=>(rm ZO (3:Int)).bind fun Wp=>some (Ux.1,Wp)else
 some (Ux.1,false)else
 bif (decide (OV.op=(23:Int)))then(jb a_l).bind fun ZP=>some (ZP.1,ZP.2)else
 bif (decide (OV.op=(24:Int)))then(rm a_l (1:Int)).bind fun Vn=>some ((3:Int),Vn)else
 (rm a_l (1:Int)).bind fun Uy=>some ((1:Int),Uy)
instance gResultP_ok {OV : Ex} {a_l : (List Int)} {r : Int × Bool} : OkC (gRsP OV a_l = some r) (PTz 177 [.agg (tE OV), .one (.lst (a_l.map (fun x => [AC.int .i64 x])))] (.tup [.one (.int .i64 r.1), .one (.bool r.2)])) := .mk fun H => by
 unfold gRsP at H;rw[ay OV];refine po_ Tryz.func177 Tryz.ntmps177 ?_;rcases aj H with⟨RE,H⟩|⟨RE,H⟩
 ·exact az H
 rcases aj H with⟨QG,H⟩|⟨QG,H⟩
 ·obtain⟨P4,c1,H⟩:=bd_ H
  replace c1:=ky c1;exact az H
 refine aY ?_;rcases aj H with⟨Qk,H⟩|⟨Qk,H⟩
 ·obtain⟨QR,c2,H⟩:=bd_ H
  replace c2:=ky c2;exact az H
 rcases aj H with⟨RF,H⟩|⟨RF,H⟩
 ·obtain⟨Si,c3,H⟩:=bd_ H
  replace c3:=ky c3;exact az H
 rcases aj H with⟨S7,H⟩|⟨S7,H⟩
 ·exact az H
 refine aY ?_;rcases aj H with⟨Ql,H⟩|⟨Ql,H⟩
 ·exact az H
 rcases aj H with⟨RX,H⟩|⟨RX,H⟩
 ·exact az H
 rcases aj H with⟨Qh,H⟩|⟨Qh,H⟩
 ·exact az H
 refine aY ?_;rcases aj H with⟨Vb,H⟩|⟨Vb,H⟩
 ·exact az H
 rcases aj H with⟨Rq,H⟩|⟨Rq,H⟩
 ·exact az H
 rcases aj H with⟨TM,H⟩|⟨TM,H⟩
 ·obtain⟨QZ,Yj,H⟩:=bd_ H
  replace Yj:=ky Yj;exact az H
 refine aY ?_;rcases aj H with⟨TV,H⟩|⟨TV,H⟩
 ·obtain⟨Sr,Yk,H⟩:=bd_ H
  replace Yk:=ky Yk;exact az H
 rcases aj H with⟨TR,H⟩|⟨TR,H⟩
 ·exact az H
 rcases aj H with⟨q_25,H⟩|⟨q_25,H⟩
 ·obtain⟨ZN,u12,H⟩:=bd_ H
  obtain⟨⟨u12a,u12b,u12c⟩,u12⟩:=cX u12;have XQ:=wS (f:=(fun x=>[AC.int .i64 x])) u12;obtain⟨Ux,V6,H⟩:=bd_ H;replace V6:=gUnite_ok V6
  repeat' (first|refine gs_ ?_|rw[XQ]|rw[show((0:Nat):Int)=0 from rfl])
  rcases aj H with⟨XR,H⟩|⟨XR,H⟩
  ·obtain⟨ZO,u14,H⟩:=bd_ H
   obtain⟨⟨u14a,u14b,u14c⟩,u14⟩:=cX u14;have u14x:=wS (f:=(fun x=>[AC.int .i64 x])) u14;obtain⟨Wp,Yl,H⟩:=bd_ H;replace Yl:=ky Yl
   cases H
   repeat' (first|refine gs_ ?_|rw[XQ]|rw[u14x]|rw[show((0:Nat):Int)=0 from rfl])
   refine a6 (bj rfl ?_ ?_)
   ·repeat' (first|exact t7|rfl|exact arh rfl|omega|apply And.intro)
   ·first|rfl|(simp only[ark,ari,arn,ara]<;>rfl)
  cases H
  repeat' (first|refine gs_ ?_|rw[XQ]|rw[show((0:Nat):Int)=0 from rfl])
  refine a6 (bj rfl ?_ ?_)
  ·repeat' (first|exact t7|rfl|exact arh rfl|omega|apply And.intro)
  ·first|rfl|(simp only[ark,ari,arn,ara]<;>rfl)
 refine aY ?_;rcases aj H with⟨XO,H⟩|⟨XO,H⟩
 ·exact az H
 rcases aj H with⟨XP,H⟩|⟨XP,H⟩
 ·obtain⟨Vn,Ym,H⟩:=bd_ H
  replace Ym:=ky Ym;exact az H
 obtain⟨Uy,Yn,H⟩:=bd_ H;replace Yn:=ky Yn;exact az H
def eO (OV:Ex)(Po:Int)(rec:Ex->Int->Option Int):(Int×Int)->Option (Step (Int×Int) (Int)):=fun s=>match s with
 |(W0,PY)=>bif (decide (PY<((OV.args.length:Nat):Int)))then(aF OV.args PY).bind fun Qv=>(rec Qv (i64.wrap (Po-(1:Int)))).bind fun QK=>some (.next ((zL W0 (i64.wrap ((1:Int)+QK))),(i64.wrap (PY+(1:Int)))))else
 some (.exit (W0,PY))
def MR:Sum (Int×Int) (Int)->Option ((Int))
 |.inl (W0,PY)=>some W0
 |.inr q=>some q
def rQ (rec:Ex->Int->Option Int)(OV:Ex)(Po:Int):Option (Int):=bif (decide (Po<=(1:Int)))then some (1:Int)else
 (ao (eO OV Po rec) fuel ((1:Int),(0:Int))).bind (MR)
theorem aac {rec:Ex->Int->Option Int}  (O_:∀ {x:Ex} {y:Int} {r:Int},rec x y=some r->PTz 175 [.agg (tE x),.one (.int .i64 y)] (.val (.one (.int .i64 r)))){OV:Ex}{Po:Int}{r:Int}(H:rQ rec OV Po=some r):PTz 175 [.agg (tE OV),.one (.int .i64 Po)] (.val (.one (.int .i64 r))):=by
 unfold rQ at H;rw[ay OV];refine po_ Tryz.func175 Tryz.ntmps175 ?_;rcases aj H with⟨RE,H⟩|⟨RE,H⟩
 ·exact az H
 refine aY ?_;refine alM_ (fun s:Int×Int=>match s with|(W0,PY)=>[(1,.one (.c (.int .i64 Po))),(5,.one (.c (.int .i64 W0))),(11,.one (.c (.lst (OV.args.map tE)))),(12,.one (.c (.int .i64 ((OV.args.length:Nat):Int)))),(13,.one (.c (.int .i64 PY)))]) (fun s=>match s with|(W0,PY)=>[.box [.c (.int .i64 OV.op),.c (.int .i64 OV.int),.c (.int .i64 OV.v.kind),.c (.int .i64 OV.v.int),.c (.str OV.v.text),.c (.str OV.nm),.c (.lst (OV.args.map tE))]]) H (fun _=>aru _)
  (fm_ bG [] rfl a8 cm) ?_
 rintro⟨W0,PY⟩ st1 OU PM;unfold eO at OU;dsimp only at OU ⊢;rcases aj OU with⟨Qk,OU⟩|⟨Qk,OU⟩
 ·obtain⟨Qv,SN,i1,RL,OU⟩:=bu (f:=tE) OU
  simp only[ark,ari,arn,ara,ay]at RL;obtain⟨QK,c2,OU⟩:=bd_ OU;replace c2:=O_ c2
  try simp only[ark,ari,arn,ara,ay]at c2
  cases OU;refine aY ?_;exact⟨_,rfl,fm_ bG [_] rfl a8 cm⟩
 exact bA OU PM
def rf:Nat->Ex->Int->Option Int
 |0,_,_=>none
 |n+1,x,y=>rQ (rf n) x y
theorem Dx:∀ (n:Nat) {x:Ex} {y:Int} {r:Int},rf n x y=some r->PTz 175 [.agg (tE x),.one (.int .i64 y)] (.val (.one (.int .i64 r)))
 |0,_,_,_,h=>nomatch h
 |n+1,_,_,_,h=>aac (Dx n) h
def adM (OV:Ex):Option (Int):=(rf fuel OV (25:Int)).bind fun Pg=>some Pg
instance gDepP_ok {OV : Ex} {r : Int} : OkC (adM OV = some r) (PTz 108 [.agg (tE OV)] (.val (.one (.int .i64 r)))) := .mk fun H => by
 unfold adM at H;rw[ay OV];refine po_ Tryz.func108 Tryz.ntmps108 ?_;obtain⟨Pg,c1,H⟩:=bd_ H;replace c1:=Dx fuel c1
 try simp only[ark,ari,arn,ara,ay]at c1
 exact az H
def mQ (OV:Ex)(a_kinds:(List Int))(rec:Ex->List Int->Option (Int×Int)):((List Int)×Int)->Option (Step ((List Int)×Int) (Int×Int)):=fun s=>match s with
 |(VB,SS)=>bif (decide (SS<((OV.args.length:Nat):Int)))then(aF OV.args SS).bind fun Ut=>(rec Ut a_kinds).bind fun Qc=>bif (decide (Qc.2≠(0:Int)))then some (.ret ((0:Int),Qc.2))else
 bif (decide (VB.length+1<=17592186044416))then(some (.next ((VB++[Qc.1]),(i64.wrap (SS+(1:Int))))))else none else
 some (.exit (VB,SS))
def zN (OV:Ex):Sum ((List Int)×Int) (Int×Int)->Option ((Int×Int))
 |.inl (VB,SS)=>(gRsP OV VB).bind fun QX=>bif (!QX.2)then some ((0:Int),(7:Int))else
 some (QX.1,(0:Int))
 |.inr q=>some q
def sO (rec:Ex->List Int->Option (Int×Int))(OV:Ex)(a_kinds:(List Int)):Option (Int×Int):=(pL OV.op ((OV.args.length:Nat):Int)).bind fun Pg=>bif (!Pg.2)then some ((0:Int),(7:Int))else
 (mS OV).bind fun P4=>bif (!P4)then some ((0:Int),(8:Int))else
 bif (decide (OV.op=(2:Int)))then bif (decide (OV.int<(0:Int)))then some ((0:Int),(13:Int))else
 bif (decide (((a_kinds.length:Nat):Int)<=OV.int))then some ((0:Int),(13:Int))else
 (aF a_kinds OV.int).bind fun UH=>some (UH,(0:Int))else
 (ao (mQ OV a_kinds rec) fuel ([],(0:Int))).bind (zN OV)
theorem aaq {rec:Ex->List Int->Option (Int×Int)}  (O_:∀ {x:Ex} {y:List Int} {r:Int×Int},rec x y=some r->PTz 109 [.agg (tE x),.one (.lst (y.map (fun x=>[AC.int .i64 x])))] (.tup [.one (.int .i64 r.1),.one (.int .i64 r.2)])){OV:Ex}{a_kinds:(List Int)}{r:Int×Int}(H:sO rec OV a_kinds=some r):PTz 109 [.agg (tE OV),.one (.lst (a_kinds.map (fun x=>[AC.int .i64 x])))] (.tup [.one (.int .i64 r.1),.one (.int .i64 r.2)]):=by
 unfold sO at H;rw[ay OV];refine po_ Tryz.func109 Tryz.ntmps109 ?_;obtain⟨Pg,c1,H⟩:=bd_ H;replace c1:=gCounts_ok c1;rcases aj H with⟨QG,H⟩|⟨QG,H⟩
 ·exact az H
 obtain⟨P4,c2,H⟩:=bd_ H;replace c2:=gFormed_ok c2
 try simp only[ark,ari,arn,ara,ay]at c2
 rcases aj H with⟨Qk,H⟩|⟨Qk,H⟩
 ·exact az H
 rcases aj H with⟨RD,H⟩|⟨RD,H⟩
 ·exact az H
 refine aY ?_;refine bP 8 1 rfl ?_;refine alM_ (fun s:(List Int)×Int=>match s with|(VB,SS)=>[(1,.one (.c (.lst (a_kinds.map (fun x=>[AC.int .i64 x]))))),(2,.one (.ptr 0 0)),(8,.one (.own (VB.map (fun x=>[AC.int .i64 x])) 1)),(48,.one (.c (.lst (OV.args.map tE)))),(49,.one (.c (.int .i64 ((OV.args.length:Nat):Int)))),(50,.one (.c (.int .i64 SS)))]) (fun s=>match s with|(VB,SS)=>[.box [.c (.int .i64 OV.op),.c (.int .i64 OV.int),.c (.int .i64 OV.v.kind),.c (.int .i64 OV.v.int),.c (.str OV.v.text),.c (.str OV.nm),.c (.lst (OV.args.map tE))],.spare VB.length 1]) H (fun _=>aru _)
  (fm_ bG [] rfl a8 cm) ?_
 rintro⟨VB,SS⟩ st1 OU PM;unfold mQ at OU;dsimp only at OU ⊢;rcases aj OU with⟨Va,OU⟩|⟨Va,OU⟩
 ·obtain⟨Ut,Yc,i4,WO,OU⟩:=bu (f:=tE) OU
  simp only[ark,ari,arn,ara,ay]at WO;obtain⟨Qc,c5,OU⟩:=bd_ OU;replace c5:=O_ c5
  try simp only[ark,ari,arn,ara,ay]at c5
  rcases aj OU with⟨Qh,OU⟩|⟨Qh,OU⟩
  ·exact bA OU PM
  obtain⟨g6,OU⟩:=aK OU
  cases OU;refine aY ?_;exact⟨_,rfl,fm_ rB [_] nN a8 cm⟩
 exact bA OU PM
def qD:Nat->Ex->List Int->Option (Int×Int)
 |0,_,_=>none
 |n+1,x,y=>sO (qD n) x y
theorem DY:∀ (n:Nat) {x:Ex} {y:List Int} {r:Int×Int},qD n x y=some r->PTz 109 [.agg (tE x),.one (.lst (y.map (fun x=>[AC.int .i64 x])))] (.tup [.one (.int .i64 r.1),.one (.int .i64 r.2)])
 |0,_,_,_,h=>nomatch h
 |n+1,_,_,_,h=>aaq (DY n) h
def G1 (OV:Ex)(a_kinds:(List Int)):Option (Int×Int):=(adM OV).bind fun Pg=>bif (decide ((24:Int)<Pg))then some ((0:Int),(26:Int))else
 (qD fuel OV a_kinds).bind fun P4=>some (P4.1,P4.2)
instance gChkP_ok {OV : Ex} {a_kinds : (List Int)} {r : Int × Int} : OkC (G1 OV a_kinds = some r) (PTz 73 [.agg (tE OV), .one (.lst (a_kinds.map (fun x => [AC.int .i64 x])))] (.tup [.one (.int .i64 r.1), .one (.int .i64 r.2)])) := .mk fun H => by
 unfold G1 at H;rw[ay OV];refine po_ Tryz.func73 Tryz.ntmps73 ?_;obtain⟨Pg,c1,H⟩:=bd_ H;replace c1:=gDepP_ok c1
 try simp only[ark,ari,arn,ara,ay]at c1
 rcases aj H with⟨QG,H⟩|⟨QG,H⟩
 ·exact az H
 obtain⟨P4,c2,H⟩:=bd_ H;replace c2:=DY fuel c2
 try simp only[ark,ari,arn,ara,ay]at c2
 exact az H
noncomputable section
def AZ (OV:Ex)(O3:(List Val)):Option (Int):=(sS fuel OV O3).bind fun Pg=>(jL Pg).bind fun QN=>some QN
instance gTruthE_ok {OV : Ex} {O3 : (List Val)} {r : Int} : OkC (AZ OV O3 = some r) (PTz 90 [.agg (tE OV), .one (.lst (O3.map cV))] (.val (.one (.int .i64 r)))) := .mk fun H => by
 unfold AZ at H;rw[ay OV];refine po_ Tryz.func90 Tryz.ntmps90 ?_;obtain⟨Pg,c1,H⟩:=bd_ H;replace c1:=EB fuel c1
 try simp only[ark,ari,arn,ara,ay]at c1
 exact az H
def oO (a_kinds:(List Int))(a_l:(List ap)):Option (aW):=bif (decide (a_kinds.length<=17592186044416))then((qq a_l).bind fun Pg=>some (⟨a_kinds,Pg⟩:aW))else none
instance gRelation_ok {a_kinds : (List Int)} {a_l : (List ap)} {r : aW} : OkC (oO a_kinds a_l = some r) (PTz 75 [.one (.lst (a_kinds.map (fun x => [AC.int .i64 x]))), .one (.lst (a_l.map aH))] (.val (.agg (aV r)))) := .mk fun H => by
 unfold oO at H;refine po_ Tryz.func75 Tryz.ntmps75 ?_;exact az H
def lh (a_l:(List Ex))(Uh:ap):((List Val)×Int)->Option (Step ((List Val)×Int) (aW)):=fun s=>match s with
 |(Qd,Ss)=>bif (decide (Ss<((a_l.length:Nat):Int)))then(aF a_l Ss).bind fun S9=>(sS fuel S9 Uh.row).bind fun QO=>bif (decide (Qd.length+1<=4398046511104))then(some (.next ((Qd++[QO]),(i64.wrap (Ss+(1:Int))))))else none else
 some (.exit (Qd,Ss))
def k9 (PD:(List ap))(R3:Int)(Uh:ap):Sum ((List Val)×Int) (aW)->Option (Step ((List ap)×Int) (aW))
 |.inl (Qd,Ss)=>bif (decide (PD.length+1<=3518437208883))then(some (.next ((PD++[(⟨Qd,Uh.valid⟩:ap)]),(i64.wrap (R3+(1:Int))))))else none
 |.inr q=>some (.ret q)
def ln (Qy:aW)(a_l:(List Ex)):((List ap)×Int)->Option (Step ((List ap)×Int) (aW)):=fun s=>match s with
 |(PD,R3)=>bif (decide (R3<((Qy.facts.length:Nat):Int)))then(aF Qy.facts R3).bind fun Uh=>(ao (lh a_l Uh) fuel ([],(0:Int))).bind (k9 PD R3 Uh)else
 some (.exit (PD,R3))
def wk (Px:(List Int)):Sum ((List ap)×Int) (aW)->Option ((aW))
 |.inl (PD,R3)=>(oO Px PD).bind fun QX=>some QX
 |.inr q=>some q
def k8 (Qy:aW)(a_l:(List Ex)):((List Int)×Int)->Option (Step ((List Int)×Int) (aW)):=fun s=>match s with
 |(Px,PI)=>bif (decide (PI<((a_l.length:Nat):Int)))then(aF a_l PI).bind fun Qf=>(G1 Qf Qy.kinds).bind fun QR=>bif (decide (Px.length+1<=17592186044416))then(some (.next ((Px++[QR.1]),(i64.wrap (PI+(1:Int))))))else none else
 some (.exit (Px,PI))
def kP (Qy:aW)(a_l:(List Ex)):Sum ((List Int)×Int) (aW)->Option ((aW))
 |.inl (Px,PI)=>(ao (ln Qy a_l) fuel ([],(0:Int))).bind (wk Px)
 |.inr q=>some q
def oy (Qy:aW)(a_l:(List Ex)):Option (aW):=(ao (k8 Qy a_l) fuel ([],(0:Int))).bind (kP Qy a_l)
instance gProjectP_ok {Qy : aW} {a_l : (List Ex)} {r : aW} : OkC (oy Qy a_l = some r) (PTz 34 [.agg (aV Qy), .one (.lst (a_l.map tE))] (.val (.agg (aV r)))) := .mk fun H => by
 unfold oy at H;refine po_ Tryz.func34 Tryz.ntmps34 ?_;refine aY ?_;refine bP 5 1 rfl ?_;refine alM_ (fun s:(List Int)×Int=>match s with|(Px,PI)=>[(1,.one (.c (.lst (a_l.map tE)))),(2,.one (.ptr 0 0)),(4,.one (.ptr 1 0)),(5,.one (.own (Px.map (fun x=>[AC.int .i64 x])) 2)),(16,.one (.c (.lst (a_l.map tE)))),(17,.one (.c (.int .i64 ((a_l.length:Nat):Int)))),(18,.one (.c (.int .i64 PI)))]) (fun s=>match s with|(Px,PI)=>[.box [.c (.lst (Qy.kinds.map (fun x=>[AC.int .i64 x]))),.c (.lst (Qy.facts.map aH))],.box [.emp,.emp],.spare Px.length 1]) H (fun _=>aru _)
  (fm_ bG [] rfl a8 cm) ?_
 rintro⟨Px,PI⟩ st1 OU PM;unfold k8 at OU;dsimp only at OU ⊢;rcases aj OU with⟨QH,OU⟩|⟨QH,OU⟩
 ·obtain⟨Qf,SN,i1,RL,OU⟩:=bu (f:=tE) OU
  simp only[ark,ari,arn,ara,ay]at RL;obtain⟨QR,c2,OU⟩:=bd_ OU;replace c2:=gChkP_ok c2
  try simp only[ark,ari,arn,ara,ay]at c2
  obtain⟨g3,OU⟩:=aK OU
  cases OU;refine aY ?_;exact⟨_,rfl,fm_ rB [_] nN a8 cm⟩
 cases OU;have O0:kP Qy a_l (.inl (Px,PI))=some _:=PM;unfold kP at O0;dsimp only at O0;refine aY ?_;refine bP 10 3 rfl ?_;refine alM_ (fun s:(List ap)×Int=>match s with|(PD,R3)=>[(1,.one (.c (.lst (a_l.map tE)))),(4,.one (.ptr 1 0)),(5,.one (.own (Px.map (fun x=>[AC.int .i64 x])) 2)),(10,.one (.own (PD.map aH) 3)),(35,.one (.c (.lst (Qy.facts.map aH)))),(36,.one (.c (.int .i64 ((Qy.facts.length:Nat):Int)))),(37,.one (.c (.int .i64 R3)))]) (fun s=>match s with|(PD,R3)=>[.box [.c (.lst (Qy.kinds.map (fun x=>[AC.int .i64 x]))),.c (.lst (Qy.facts.map aH))],.box [.emp,.emp],.spare Px.length 1,.spare PD.length 3]) O0 (fun _=>aru _)
  (fm_ bG [] rfl a8 cm) ?_
 rintro⟨PD,R3⟩ st4 O7 hk4;unfold ln at O7;dsimp only at O7 ⊢;rcases aj O7 with⟨S7,O7⟩|⟨S7,O7⟩
 ·obtain⟨Uh,Yc,i4,WO,O7⟩:=bu (f:=aH) O7
  refine aY ?_;refine bP 13 3 rfl ?_;refine alM_ (fun s:(List Val)×Int=>match s with|(Qd,Ss)=>[(1,.one (.c (.lst (a_l.map tE)))),(4,.one (.ptr 1 0)),(5,.one (.own (Px.map (fun x=>[AC.int .i64 x])) 2)),(10,.one (.own (PD.map aH) 3)),(12,.one (.ptr 4 0)),(13,.one (.own (Qd.map cV) 5)),(35,.one (.c (.lst (Qy.facts.map aH)))),(36,.one (.c (.int .i64 ((Qy.facts.length:Nat):Int)))),(37,.one (.c (.int .i64 R3))),(41,.one (.c (.lst (a_l.map tE)))),(42,.one (.c (.int .i64 ((a_l.length:Nat):Int)))),(43,.one (.c (.int .i64 Ss)))]) (fun s=>match s with|(Qd,Ss)=>[.box [.c (.lst (Qy.kinds.map (fun x=>[AC.int .i64 x]))),.c (.lst (Qy.facts.map aH))],.box [.emp,.emp],.spare Px.length 1,.spare PD.length 3,.box [.c (.lst (Uh.row.map cV)),.c (.int .i64 Uh.valid.lo),.c (.int .i64 Uh.valid.hi)],.spare Qd.length 3]) O7 (fun _=>aru _)
   (fm_ bG [] rfl a8 cm) ?_
  rintro⟨Qd,Ss⟩ st5 P_ hk5;unfold lh at P_;dsimp only at P_ ⊢;rcases aj P_ with⟨RX,P_⟩|⟨RX,P_⟩
  ·obtain⟨S9,i5z,i5,i5x,P_⟩:=bu (f:=tE) P_
   simp only[ark,ari,arn,ara,ay]at i5x;obtain⟨QO,c6,P_⟩:=bd_ P_;replace c6:=EB fuel c6
   try simp only[ark,ari,arn,ara,ay]at c6
   obtain⟨g7,P_⟩:=aK P_
   cases P_;refine aY ?_;exact⟨_,rfl,fm_ rB [_] nN a8 cm⟩
  cases P_;have O5:k9 PD R3 Uh (.inl (Qd,Ss))=some _:=hk5;unfold k9 at O5;dsimp only at O5;obtain⟨g8,O5⟩:=aK O5
  cases O5;refine aY ?_;exact⟨_,rfl,fm_ rB [_,_] nN a8 cm⟩
 exact bA O7 hk4
end
def Jq (Qb:ax)(Qw:ax):Option (Bool):=(gPV Qb).bind fun Pg=>bif Pg then(gPV Qw).bind fun P4=>bif P4 then bif (decide (Qb.lo<Qw.hi))then some (decide (Qw.lo<Qb.hi))else
 some false else
 some false else
 some false
instance gOverP_ok {Qb : ax} {Qw : ax} {r : Bool} : OkC (Jq Qb Qw = some r) (PTz 144 [.agg (aO Qb), .agg (aO Qw)] (.val (.one (.bool r)))) := .mk fun H => by
 unfold Jq at H;refine po_ Tryz.func144 Tryz.ntmps144 ?_;exact az H
def AQ (Qb:ax)(Qw:ax):Option (ax×Bool):=(Jq Qb Qw).bind fun Pg=>bif (!Pg)then some ((⟨(0:Int),(0:Int)⟩:ax),false)else
 some ((⟨(zL Qb.lo Qw.lo),(mnI Qb.hi Qw.hi)⟩:ax),true)
instance gInterP_ok {Qb : ax} {Qw : ax} {r : ax × Bool} : OkC (AQ Qb Qw = some r) (PTz 91 [.agg (aO Qb), .agg (aO Qw)] (.tup [.agg (aO r.1), .one (.bool r.2)])) := .mk fun H => by
 unfold AQ at H;refine po_ Tryz.func91 Tryz.ntmps91 ?_;exact az H
end Go.Proofs.YtlcceppoloaecaaGreatDoor
namespace Go.Proofs
open Go.Shelf
def Tryz.growV_ren:Go.Shelf.Ren:=⟨fun|4=>155|n=>n,fun|22=>50|25=>33|3=>3|4=>4|9=>9|20=>20|0=>0|n=>n,fun|n=>n⟩
theorem Tryz.growV:Go.Proofs.Lays8.n4 Tryz.prog Tryz.growV_ren :={
 mixed:=k7
 f4:=⟨Tryz.f155.name,by decide,Tryz.func155.trans (congrArg some k7)⟩
 t0:=Tryz.underlying0
 a0:=Tryz.isAgg0
 z0:=Tryz.sizeOf0
 v0:=Tryz.zeroValue0
 t3:=Tryz.underlying3
 a3:=Tryz.isAgg3
 z3:=Tryz.sizeOf3
 v3:=Tryz.zeroValue3
 t4:=Tryz.underlying4
 a4:=Tryz.isAgg4
 z4:=Tryz.sizeOf4
 v4:=Tryz.zeroValue4
 t9:=Tryz.underlying9
 a9:=Tryz.isAgg9
 z9:=Tryz.sizeOf9
 v9:=Tryz.zeroValue9
 t20:=Tryz.underlying20
 a20:=Tryz.isAgg20
 z20:=Tryz.sizeOf20
 v20:=Tryz.zeroValue20
 t22:=Tryz.underlying50
 a22:=Tryz.isAgg50
 z22:=Tryz.sizeOf50
 v22:=Tryz.zeroValue50 }
end Go.Proofs
namespace Go.Proofs.YtlcceppoloaecaaGreatDoor
open _root_.ByteArray (empty)
open IntKind (i64)
open Go.RowKit Go.MapKept
theorem ag_ (n:Nat)(h0:0<n)(hn:n<=1000000000):RTz 155 [] [.one .emp,.one (.c (.int .i64 n))] [.row (33+65536) [] 3] (.one (.sl 0 (33+65536) 0 0)):=by
 refine⟨⟨_,Tryz.func155,k7,k7⟩,fun B R γ w vs hi hs hv=>?_⟩;obtain⟨v1,v2,rfl⟩:∃ a b,vs=#[a,b]:=by
  match vs,hs with
  |⟨[a,b]⟩,_=>exact⟨a,b,rfl⟩
 obtain⟨a,rfl⟩:=hv 0 v1 _ rfl rfl;have h2:bF R v2 (.int .i64 n):=hv 1 v2 _ rfl rfl
 cases h2;obtain⟨inf,z,PE,Rk,Qq,Uj⟩:=am.zok 33 rfl 3 (am.size _ _ rfl);have PX:inf.bytes=32:=by have R7:=am.bytes 33 32 rfl;unfold kB at R7;rw[PE]at R7;simpa using R7
 have hgr:=Any8.slices_Grow_grow Tryz.growV inf z PE Rk (by rw[Qq];decide) a 0 0 n [] w (aro _) m0 (by rw[PX];omega) m0 m5 (fun _=>rfl) (fun _ _ j v h=>by simp at h);refine(show Calls Tryz.prog 155 #[.slice a 0 0,.int .i64 n] w _ from hgr).mono ?_;rintro e w' ⟨rfl,rfl⟩;have Ry:=grownCap_ge w (0+n) 0 33;have hE:(Tryz.growV_ren.t 25)=33:=rfl;rw[hE];generalize grownCap w (0+n) 0 33=cap at Ry;have hγ:γ=[]:=arz (by rw[hi.len];rfl);subst hγ;have hm:Mv R R ([]:List Gh) ([]++[.arr w.heap.size cap]) [] ([]++[.row (33+65536) [] 3]):=Mv.push _ _ hi.len;have Uo:Inv B R ([]++[.arr w.heap.size cap]) ([]++[.row (33+65536) [] 3]) (w.alloc (.cells (([]:List Value).toArray++Builtin.zeroCells z.cells (0+n-0)++Builtin.zeroCells z.cells (cap-(0+n))) 33)):=by
  refine hi.push _ _ _ rfl ⟨⟨_,33,⟨dy w _,by show(33:Nat)=(33+65536)%65536;omega,by show 65536<=(33:Nat)+65536;omega⟩,?_,fun i e j u x he hu hx=>by simp at he⟩,aru _,by decide,(fun e he=>by cases he),fun o=>hi.none_at o⟩;rw[Array.size_append,Array.size_append,size_zeroCells,size_zeroCells,Uj];simp only[List.size_toArray,arE];rw[arS,<- Nat.add_mul];congr 1;omega
 refine⟨_,R,_,rfl,⟨Uo.len,fun b o u h=>Uo.val b o u h,fun i x g h1 h2=>(Uo.obj i x g h1 h2).mv Mv.refl (fun _ _=>rfl) (fun _ _ _ h=>h),Uo.inj,Uo.new,Uo.bsz⟩,⟨⟨rfl,rfl,rfl,by show w.heap.size<=(w.heap.push _).size;simp,fun b hb=>e_ w.drew _ (hi.bsz b hb)⟩,PH.sub_refl _,fun _ _ _=>rfl⟩,hm,⟨rfl,rfl⟩,m5,fun Qr SG k2 e2=>?_⟩;simp at e2;obtain⟨q1,q2,q3⟩:=e2;subst q1 q2 q3;exact⟨aro _,fun _=>⟨m5,.arr w.heap.size cap,rfl,.inl m5⟩⟩
def apj:TI :={ tab with owns:=fun f=>f==155||tab.owns f }
theorem gP:TIok Tryz.prog apj:=⟨tab_ok.size,tab_ok.agg,tab_ok.elem,tab_ok.field,tab_ok.zero,tab_ok.bytes,tab_ok.kind,tab_ok.struct,tab_ok.zok,tab_ok.eqs⟩
def I2 (a b:List Val):Nat->Nat
 |0=>0
 |1=>a.length
 |_=>a.length+b.length
def ah' (a b:List Val):Nat->List Val
 |0=>[]
 |1=>a
 |_=>a++b
theorem NF (l:List Val):∀ e∈l.map cV,e.length=3:=by intro e he;obtain⟨x,_,rfl⟩:=arK.1 he;rfl
theorem Kr {id v w n m:Nat}(h:n=m)(hv:v=w):some (AV.one (.sl id v 0 n))=some (AV.one (.sl id w 0 m)):=by subst h hv;rfl
theorem abz {v w k:Nat}{a b:List (List SV)}(h:a=b)(hv:v=w):[Ob.row v a k]=[Ob.row w b k]:=by rw[h,hv]
theorem MZ (a b:List Val)(h0:0<a.length+b.length)(h1:a.length+b.length<=1000000):PTz 97 [.one (.lst [[cl a],[cl b]])] (.val (.one (cl (a++b)))):=by
 refine pa_ gP Tryz.func97 rfl rfl Tryz.ntmps97 m5 ?_;simp only[argT,PV.av,ari,arn];have ha:(((a.map cV).length:Nat):Int)=a.length:=by simp
 have hb:(((b.map cV).length:Nat):Int)=b.length:=by simp
 have w1:i64.wrap (((I2 a b 0:Nat):Int)+((a.map cV).length:Nat))=((I2 a b 1:Nat):Int):=by rw[ha];exact a7 (by simp[I2]) (by simp only[I2];omega)
 have w2:i64.wrap (((I2 a b 1:Nat):Int)+((b.map cV).length:Nat))=((I2 a b 2:Nat):Int):=by rw[hb];exact a7 (by simp[I2]) (by simp only[I2];omega)
 have n1:decide (((I2 a b 1:Nat):Int)<0)=false:=aq9 m0;have n2:decide (((I2 a b 2:Nat):Int)<0)=false:=aq9 m0
 repeat' (first|refine st_nil ?_|refine st_pop rfl rfl rfl rfl qp_ ?_|refine st_lop rfl rfl rfl rfl qp_ ?_|refine sS_ rfl rfl rfl qp_ ?_|refine st_lit rfl rfl rfl rfl qp_ ?_|refine st_skip rfl rfl rfl ?_|refine sk0_ rfl rfl ?_|(refine st_if rfl (fun hb=>?_) (fun hb=>?_)<;>(first|exact(fx_ hb).elim|rw[hb]))|refine aw_seq ?_|refine aw_region gP _ rfl ?_|refine aw_drawn2 tabS_ok _ rfl mixed (by decide +kernel) ?_|(refine aw_cond rfl (fun hb=>?_) (fun hb=>?_)<;>(try exact(fx_ hb).elim))|refine aw_block ?_|refine aw_exit ?_|refine aw_ret ?_|refine aw_skip ?_|fail)
 refine cz (fun i:Nat=>[(0,.one (.c (.lst [[cl a],[cl b]]))),(3,.one (.c (.int .i64 (I2 a b i)))),(9,.one (.c (.lst [[cl a],[cl b]]))),(10,.one (.c (.int .i64 2))),(11,.one (.c (.int .i64 i)))]) (fun _=>[]) (fun i=>i<=2) (fun i=>2-i) 0 m0 (fun _ _=>aru _)
  (fm_ ⟨rfl,rfl,rfl,rfl,rfl,t7⟩ [] rfl (by repeat' (first|exact t7|apply And.intro)) (by repeat' (first|exact t7|apply And.intro))) ?_
 intro i hi
 match i,hi with
 |0,_ =>
  repeat' (first|rw[w1]|rw[n1]|refine st_nil ?_|refine st_pop rfl rfl rfl rfl qp_ ?_|refine st_lop rfl rfl rfl rfl qp_ ?_|refine sS_ rfl rfl rfl qp_ ?_|refine st_lit rfl rfl rfl rfl qp_ ?_|refine st_skip rfl rfl rfl ?_|refine sk0_ rfl rfl ?_|(refine st_if rfl (fun hb=>?_) (fun hb=>?_)<;>(first|exact(fx_ hb).elim|rw[hb]))|refine aw_seq ?_|refine aw_region gP _ rfl ?_|refine aw_drawn2 tabS_ok _ rfl mixed (by decide +kernel) ?_|(refine aw_cond rfl (fun hb=>?_) (fun hb=>?_)<;>(try exact(fx_ hb).elim))|refine aw_block ?_|refine aw_exit ?_|refine aw_ret ?_|refine aw_skip ?_|fail)
  exact⟨1,m0,m0,fm_ ⟨rfl,rfl,rfl,rfl,rfl,t7⟩ [] rfl (by repeat' (first|exact t7|apply And.intro)) (by repeat' (first|exact t7|apply And.intro))⟩
 |1,_ =>
  repeat' (first|rw[w2]|rw[n2]|refine st_nil ?_|refine st_pop rfl rfl rfl rfl qp_ ?_|refine st_lop rfl rfl rfl rfl qp_ ?_|refine sS_ rfl rfl rfl qp_ ?_|refine st_lit rfl rfl rfl rfl qp_ ?_|refine st_skip rfl rfl rfl ?_|refine sk0_ rfl rfl ?_|(refine st_if rfl (fun hb=>?_) (fun hb=>?_)<;>(first|exact(fx_ hb).elim|rw[hb]))|refine aw_seq ?_|refine aw_region gP _ rfl ?_|refine aw_drawn2 tabS_ok _ rfl mixed (by decide +kernel) ?_|(refine aw_cond rfl (fun hb=>?_) (fun hb=>?_)<;>(try exact(fx_ hb).elim))|refine aw_block ?_|refine aw_exit ?_|refine aw_ret ?_|refine aw_skip ?_|fail)
  exact⟨2,m0,m0,fm_ ⟨rfl,rfl,rfl,rfl,rfl,t7⟩ [] rfl (by repeat' (first|exact t7|apply And.intro)) (by repeat' (first|exact t7|apply And.intro))⟩
 |2,_ =>
  have hg:=ag_ (a.length+b.length) h0 m0
  repeat' (first|(refine cK [] (r' := .one (.sl 0 (33+65536) 0 0)) (L':=[.row (33+65536) [] 3]) rfl rfl rfl rfl hg rfl ⟨rfl,m5,fun i x hx=>by simp at hx,fun x hx=>by simp at hx,bY ⟨t7,t7,t7⟩⟩ rfl rfl ?_)|refine st_nil ?_|refine st_pop rfl rfl rfl rfl qp_ ?_|refine st_lop rfl rfl rfl rfl qp_ ?_|refine sS_ rfl rfl rfl qp_ ?_|refine st_lit rfl rfl rfl rfl qp_ ?_|refine st_skip rfl rfl rfl ?_|refine sk0_ rfl rfl ?_|(refine st_if rfl (fun hb=>?_) (fun hb=>?_)<;>(first|exact(fx_ hb).elim|rw[hb]))|refine aw_seq ?_|refine aw_region gP _ rfl ?_|refine aw_drawn2 tabS_ok _ rfl mixed (by decide +kernel) ?_|(refine aw_cond rfl (fun hb=>?_) (fun hb=>?_)<;>(try exact(fx_ hb).elim))|refine aw_block ?_|refine aw_exit ?_|refine aw_ret ?_|refine aw_skip ?_|fail)
  refine cz (fun i:Nat=>[(6,.one (.sl 0 (33+65536+65536*i) 0 (I2 a b i))),(25,.one (.c (.lst [[cl a],[cl b]]))),(26,.one (.c (.int .i64 2))),(27,.one (.c (.int .i64 i)))]) (fun i=>[.row (33+65536+65536*i) (((ah' a b i).map cV).map (List.map SV.c)) 3]) (fun i=>i<=2) (fun i=>2-i) 0 m0 (fun _ _=>aru _)
   (fm_ ⟨Kr rfl m0,rfl,rfl,rfl,t7⟩ [] (abz rfl m0) ⟨Nat.zero_lt_one,t7,t7,t7,t7⟩ ⟨jF _ _ _ _ _,t7⟩) ?_
  intro i hi
  match i,hi with
  |0,_ =>
   repeat' (first|(refine ci rfl rfl rfl rfl rfl (eh gP (k:=3) (by_:=32) (xs:=(a.map cV).map (List.map SV.c)) rfl rfl rfl rfl ⟨rfl,_,rfl,NF _⟩ rfl m0 rfl rfl rfl m9 (by simp[ah',I2]) (by rw[arj,arj];simp only[I2];omega) (by rw[arj,arj];simp only[I2];omega)) ?_)|refine st_nil ?_|refine st_pop rfl rfl rfl rfl qp_ ?_|refine st_lop rfl rfl rfl rfl qp_ ?_|refine sS_ rfl rfl rfl qp_ ?_|refine st_lit rfl rfl rfl rfl qp_ ?_|refine st_skip rfl rfl rfl ?_|refine sk0_ rfl rfl ?_|(refine st_if rfl (fun hb=>?_) (fun hb=>?_)<;>(first|exact(fx_ hb).elim|rw[hb]))|refine aw_seq ?_|refine aw_region gP _ rfl ?_|refine aw_drawn2 tabS_ok _ rfl mixed (by decide +kernel) ?_|(refine aw_cond rfl (fun hb=>?_) (fun hb=>?_)<;>(try exact(fx_ hb).elim))|refine aw_block ?_|refine aw_exit ?_|refine aw_ret ?_|refine aw_skip ?_|fail)
   exact⟨1,m0,m0,fm_ ⟨Kr (by simp[I2]) m0,rfl,rfl,rfl,t7⟩ [] (abz (by simp[ah']) m0) ⟨Nat.zero_lt_one,t7,t7,t7,t7⟩ ⟨jF _ _ _ _ _,t7⟩⟩
  |1,_ =>
   repeat' (first|(refine ci rfl rfl rfl rfl rfl (eh gP (k:=3) (by_:=32) (xs:=(b.map cV).map (List.map SV.c)) rfl rfl rfl rfl ⟨rfl,_,rfl,NF _⟩ rfl m0 rfl rfl rfl m9 (by simp[ah',I2]) (by rw[arj,arj];simp only[I2];omega) (by rw[arj,arj];simp only[I2];omega)) ?_)|refine st_nil ?_|refine st_pop rfl rfl rfl rfl qp_ ?_|refine st_lop rfl rfl rfl rfl qp_ ?_|refine sS_ rfl rfl rfl qp_ ?_|refine st_lit rfl rfl rfl rfl qp_ ?_|refine st_skip rfl rfl rfl ?_|refine sk0_ rfl rfl ?_|(refine st_if rfl (fun hb=>?_) (fun hb=>?_)<;>(first|exact(fx_ hb).elim|rw[hb]))|refine aw_seq ?_|refine aw_region gP _ rfl ?_|refine aw_drawn2 tabS_ok _ rfl mixed (by decide +kernel) ?_|(refine aw_cond rfl (fun hb=>?_) (fun hb=>?_)<;>(try exact(fx_ hb).elim))|refine aw_block ?_|refine aw_exit ?_|refine aw_ret ?_|refine aw_skip ?_|fail)
   exact⟨2,m0,m0,fm_ ⟨Kr (by simp[I2]) m0,rfl,rfl,rfl,t7⟩ [] (abz (by simp[ah']) m0) ⟨Nat.zero_lt_one,t7,t7,t7,t7⟩ ⟨jF _ _ _ _ _,t7⟩⟩
  |2,_ =>
   refine jK 0 6 (cs:=(a++b).map cV) rfl (je _) rfl (by rw[arj,ard];rfl) ?_
   repeat' (first|refine st_nil ?_|refine st_pop rfl rfl rfl rfl qp_ ?_|refine st_lop rfl rfl rfl rfl qp_ ?_|refine sS_ rfl rfl rfl qp_ ?_|refine st_lit rfl rfl rfl rfl qp_ ?_|refine st_skip rfl rfl rfl ?_|refine sk0_ rfl rfl ?_|(refine st_if rfl (fun hb=>?_) (fun hb=>?_)<;>(first|exact(fx_ hb).elim|rw[hb]))|refine aw_seq ?_|refine aw_region gP _ rfl ?_|refine aw_drawn2 tabS_ok _ rfl mixed (by decide +kernel) ?_|(refine aw_cond rfl (fun hb=>?_) (fun hb=>?_)<;>(try exact(fx_ hb).elim))|refine aw_block ?_|refine aw_exit ?_|refine aw_ret ?_|refine aw_skip ?_|fail)
   exact a6 (bj rfl (by trivial) rfl)
def aaZ (a b:List Val):Bool:=decide (0<a.length+b.length)&&decide (a.length+b.length<=1000000)
def wM (a b:List Val):Option (List Val):=bif aaZ a b then some (a++b)else none
theorem Ad {a b r:List Val}(H:wM a b=some r):PTz 59 [.one (.lst (a.map cV)),.one (.lst (b.map cV))] (.val (.one (.lst (r.map cV)))):=by
 unfold wM at H;obtain⟨g,H⟩:=gR H;obtain rfl:=arH H;unfold aaZ at g;rw[arq]at g;have hc:=MZ a b (arC g.1) (arC g.2);refine po_ Tryz.func59 Tryz.ntmps59 ?_
 repeat' (first|refine t_ rfl rfl rfl rfl ?_|refine aN rfl rfl rfl rfl hc rfl ?_|refine st_nil ?_|refine st_pop rfl rfl rfl rfl qp_ ?_|refine st_lop rfl rfl rfl rfl qp_ ?_|refine sS_ rfl rfl rfl qp_ ?_|refine st_lit rfl rfl rfl rfl qp_ ?_|refine st_skip rfl rfl rfl ?_|refine sk0_ rfl rfl ?_|(refine st_if rfl (fun hb=>?_) (fun hb=>?_)<;>(first|exact(fx_ hb).elim|rw[hb]))|refine aw_seq ?_|refine aw_region tab_ok _ rfl ?_|refine aw_drawn2 tabS_ok _ rfl mixed (by decide +kernel) ?_|(refine aw_cond rfl (fun hb=>?_) (fun hb=>?_)<;>(try exact(fx_ hb).elim))|refine aw_block ?_|refine aw_exit ?_|refine aw_ret ?_|refine aw_skip ?_|fail)
 exact a6 (bj rfl (by trivial) rfl)
def Kv (n:Int):Option (List Val):=bif decide (n<1)then some []else bif decide (4096<n)then some []else some (List.replicate n.toNat ⟨0,0,empty⟩)
theorem ach {n:Int}{r:List Val}(H:Kv n=some r):PTz 60 [.one (.int .i64 n)] (.val (.one (.lst (r.map cV)))):=by
 unfold Kv at H;have hnr:ee (List.replicate n.toNat [SV.c (.int .i64 0),.c (.int .i64 0),.c (.str empty)])=some (List.replicate n.toNat (cV ⟨0,0,empty⟩)):=by
  have:=je (List.replicate n.toNat (cV ⟨0,0,empty⟩));rwa[List.map_replicate]at this
 refine po_ Tryz.func60 Tryz.ntmps60 ?_;rcases h1:decide (n<1)with _|_
 ·rw[h1,aq7]at H
  rcases h2:decide (4096<n)with _|_
  ·rw[h2,aq7]at H
   obtain rfl:=arH H;have g1:=of_decide_eq_false h1;have g2:=of_decide_eq_false h2
   repeat' (first|rw[h1]|rw[h2]|(refine ci rfl rfl rfl rfl rfl (tK tab_ok (k:=3) (by_:=32) rfl rfl rfl m9 rfl rfl rfl rfl rfl m9 m0 m0 m0) ?_)|(refine jK 0 2 (cs:=List.replicate n.toNat (cV ⟨0,0,empty⟩)) rfl hnr rfl m5 ?_)|refine st_nil ?_|refine st_pop rfl rfl rfl rfl qp_ ?_|refine st_lop rfl rfl rfl rfl qp_ ?_|refine sS_ rfl rfl rfl qp_ ?_|refine st_lit rfl rfl rfl rfl qp_ ?_|refine st_skip rfl rfl rfl ?_|refine sk0_ rfl rfl ?_|(refine st_if rfl (fun hb=>?_) (fun hb=>?_)<;>(first|exact(fx_ hb).elim|rw[hb]))|refine aw_seq ?_|refine aw_region tab_ok _ rfl ?_|refine aw_drawn2 tabS_ok _ rfl mixed (by decide +kernel) ?_|(refine aw_cond rfl (fun hb=>?_) (fun hb=>?_)<;>(try exact(fx_ hb).elim))|refine aw_block ?_|refine aw_exit ?_|refine aw_ret ?_|refine aw_skip ?_|fail)
   exact a6 (bj rfl (by trivial) (by rw[List.map_replicate];rfl))
  ·rw[h2,aq8]at H
   obtain rfl:=arH H
   repeat' (first|rw[h1]|rw[h2]|refine st_nil ?_|refine st_pop rfl rfl rfl rfl qp_ ?_|refine st_lop rfl rfl rfl rfl qp_ ?_|refine sS_ rfl rfl rfl qp_ ?_|refine st_lit rfl rfl rfl rfl qp_ ?_|refine st_skip rfl rfl rfl ?_|refine sk0_ rfl rfl ?_|(refine st_if rfl (fun hb=>?_) (fun hb=>?_)<;>(first|exact(fx_ hb).elim|rw[hb]))|refine aw_seq ?_|refine aw_region tab_ok _ rfl ?_|refine aw_drawn2 tabS_ok _ rfl mixed (by decide +kernel) ?_|(refine aw_cond rfl (fun hb=>?_) (fun hb=>?_)<;>(try exact(fx_ hb).elim))|refine aw_block ?_|refine aw_exit ?_|refine aw_ret ?_|refine aw_skip ?_|fail)
   exact a6 (bj rfl (by trivial) rfl)
 ·rw[h1,aq8]at H
  obtain rfl:=arH H
  repeat' (first|rw[h1]|refine st_nil ?_|refine st_pop rfl rfl rfl rfl qp_ ?_|refine st_lop rfl rfl rfl rfl qp_ ?_|refine sS_ rfl rfl rfl qp_ ?_|refine st_lit rfl rfl rfl rfl qp_ ?_|refine st_skip rfl rfl rfl ?_|refine sk0_ rfl rfl ?_|(refine st_if rfl (fun hb=>?_) (fun hb=>?_)<;>(first|exact(fx_ hb).elim|rw[hb]))|refine aw_seq ?_|refine aw_region tab_ok _ rfl ?_|refine aw_drawn2 tabS_ok _ rfl mixed (by decide +kernel) ?_|(refine aw_cond rfl (fun hb=>?_) (fun hb=>?_)<;>(try exact(fx_ hb).elim))|refine aw_block ?_|refine aw_exit ?_|refine aw_ret ?_|refine aw_skip ?_|fail)
  exact a6 (bj rfl (by trivial) rfl)
def ro (row:List Val)(i:Int):Val:=if 0<=i then(row[i.toNat]?).getD bI else bI
theorem ahA (row:List Val)(i:Int):gAt row i=some (ro row i):=by
 unfold gAt ro;by_cases h1:i<0
 ·rw[aq_ h1,aq8,if_neg m0];rfl
 ·rw[aq9 h1,aq7,if_pos m0]
  by_cases h2:((row.length:Nat):Int)<=i
  ·rw[aq_ h2,aq8,arY m0];rfl
  ·rw[aq9 h2,aq7]
   obtain⟨x,hx⟩:=gol_ (show i.toNat<row.length by omega);unfold aF;rw[if_pos m0,hx];rfl
theorem alj (row:List Val)(i:Int):abv row i=some (ro row i):=(show abv row i=gAt row i from rfl).trans (ahA row i)
theorem af0 (row:List Val)(i:Int):Om row [i]=some [ro row i]:=by
 unfold Om;simp only[arv,arE];rw[show decide ((0:Int)<=(((0+1:Nat)):Int))=true from rfl,show decide ((32:Int)*(((0+1:Nat)):Int)<=281474976710656)=true from rfl,show decide ((((0+1:Nat)):Int)<=9223372036854775807)=true from rfl];simp only[aq8];rw[b6 (l:=[i]) (mk:=fun t i=>(t,i)) (f:=push (ro row) 4398046511104) ?_ ?_ (by unfold fuel;simp) []]
 ·rw[Iw _ _ _ _ m5];rfl
 ·intro s j x hx
  have hi:=(aq6.1 hx).1;unfold wz push;dsimp only;rw[aL hx,aq8,gn_ hx];simp only[aq5];rw[ahA,aq5,wrapN (by simp at hi;omega)]
  cases decide (s.length+1<=4398046511104)<;>rfl
 ·intro s
  unfold wz;dsimp only;rw[lF_,aq7]
theorem aca (row:List Val)(i:Int):xy row i=some (B6 (ro row i)):=by
 unfold xy;rw[af0,aq5,show aF [ro row i] (0:Int)=some (ro row i)from rfl,aq5,wb,aq5,kq];unfold B6
 cases vF (ro row i)<;>rfl
theorem HK (e:Ex)(row:List Val)(h:e.op=2):zW e row=some (B6 (ro row e.int)):=by
 unfold zW;rw[h,show decide ((2:Int)=2)=true from rfl,aq8,alj,aq5,iu,aq5,bS];unfold B6
 cases vF (ro row e.int)<;>rfl
theorem zU (e:Ex)(row:List Val)(h:e.op=1)(hv:vF e.v=true):zW e row=some e.v:=by
 unfold zW;rw[h,show decide ((1:Int)=2)=false from rfl,aq7,iu,aq5,hv];rfl
def dV (l:List Val)(k:Int):Bool:=l.all fun v=>decide (v.kind=k)
theorem kO (l:List Val)(k:Int)(hl:l.length<=1000000):MK l k=some (dV l k):=by
 unfold MK;rw[b6 (l:=l) (mk:=fun(_:Unit) i=>i) (f:=fun _ v=>some (if v.kind≠k then .inr false else .inl ())) ?_ ?_ (by unfold fuel;omega) ()]
 ·have:∀ l:List Val,cB (ρ:=Bool) (fun(_:Unit) (v:Val)=>some (if v.kind≠k then .inr false else .inl ())) () l=some (if dV l k=true then .inl ()else .inr false):=by
   intro l
   induction l with
   |nil=>rfl
   |cons v l ih =>
    rw[cB];by_cases h:v.kind=k
    ·simp only[ne_eq,h,not_true_eq_false,if_false]
     rw[ih];simp[dV,h]
    ·simp[dV,h]
  rw[this]
  cases dV l k<;>rfl
 ·intro s i x hx
  have hi:=(aq6.1 hx).1;unfold BM;dsimp only;rw[aL hx,aq8,gn_ hx,wrapN m0];simp only[aq5];by_cases h:x.kind=k
  ·simp[h,oL]
  ·simp[h,oL]
 ·intro s
  unfold BM;dsimp only;rw[lF_,aq7]
def wK (f:Int->Int->Int)(l:List Val)(t:Int):Int:=l.foldl (fun t v=>f t (tF_ v)) t
theorem A6 {f:Int->Int->Int}(hf:∀ a b,T3 (f a b)):∀ (l:List Val) (t:Int),T3 t->T3 (wK f l t)
 |[],t,h=>h
 |v::l,t,h=>A6 hf l _ (hf _ _)
theorem wX {f:Int->Int->Int}(hf:∀ a b,T3 (f a b)){g:Int->Int->Option Int}(hg:∀ a b,T3 a->T3 b->g a b=some (f a b)):∀ (l:List Val) (t:Int),T3 t->cB (ρ:=Val) (fun t v=>(g t (tF_ v)).bind fun r=>some (.inl r)) t l=some (.inl (wK f l t))
 |[],t,h=>rfl
 |v::l,t,h=>by
  rw[cB,hg _ _ h (gF v)];exact wX hf hg l _ (hf _ _)
theorem abh (x:Val)(l:List Val)(hl:l.length<=1000000):mo 5 (x::l)=some (wh (wK Gj l (tF_ x))):=by
 unfold mo;rw[show aF (x::l) (0:Int)=some x from rfl,aq5,iv,aq5,show decide ((5:Int)=4)=false from rfl,aq7,show decide ((5:Int)=5)=true from rfl,aq8];rw[show gq (x::l) (1:Int) (((x::l).length:Nat):Int)=some l by unfold gq;rw[if_pos (by simp only[arv];omega)];simp,aq5];rw[b6 (l:=l) (mk:=fun t i=>(t,i)) (f:=fun t v=>(acw t (tF_ v)).bind fun r=>some (.inl r)) ?_ ?_ (by unfold fuel;omega) (tF_ x)]
 ·rw[wX Jn (fun a b ha hb=>ake ha hb) l _ (gF x)]
  show(xt (wK Gj l (tF_ x))).bind _=_;rw[jd (A6 Jn l _ (gF x))];rfl
 ·intro s i v hv
  have hi:=(aq6.1 hv).1;unfold tm;dsimp only;rw[aL hv,aq8,gn_ hv,wrapN m0];simp only[aq5];rw[iv,aq5]
  cases acw s (tF_ v)<;>rfl
 ·intro s
  unfold tm;dsimp only;rw[lF_,aq7]
theorem af6 (x:Val)(l:List Val)(hl:l.length<=1000000):mo 6 (x::l)=some (wh (wK or3 l (tF_ x))):=by
 unfold mo;rw[show aF (x::l) (0:Int)=some x from rfl,aq5,iv,aq5,show decide ((6:Int)=4)=false from rfl,aq7,show decide ((6:Int)=5)=false from rfl,aq7];rw[show gq (x::l) (1:Int) (((x::l).length:Nat):Int)=some l by unfold gq;rw[if_pos (by simp only[arv];omega)];simp,aq5];rw[b6 (l:=l) (mk:=fun t i=>(t,i)) (f:=fun t v=>(EY t (tF_ v)).bind fun r=>some (.inl r)) ?_ ?_ (by unfold fuel;omega) (tF_ x)]
 ·rw[wX abp (fun a b ha hb=>am4 ha hb) l _ (gF x)]
  show(xt (wK or3 l (tF_ x))).bind _=_;rw[jd (A6 abp l _ (gF x))];rfl
 ·intro s i v hv
  have hi:=(aq6.1 hv).1;unfold tL;dsimp only;rw[aL hv,aq8,gn_ hv,wrapN m0];simp only[aq5];rw[iv,aq5]
  cases EY s (tF_ v)<;>rfl
 ·intro s
  unfold tL;dsimp only;rw[lF_,aq7]
theorem acg (x:Val):mo 4 [x]=some (wh (E9 (tF_ x))):=by
 unfold mo;rw[show aF [x] (0:Int)=some x from rfl,aq5,iv,aq5,show decide ((4:Int)=4)=true from rfl,aq8,tH (gF x),aq5,jd (qR _)];rfl
theorem D4 (op:Int)(f:Int->Int->Int)(hf:∀ a b,T3 (f a b))(QT:∀ a b,T3 a->T3 b->(bif decide (op=5)then CJ a b else acD a b)=some (f a b))(x:Val)(l:List Val)(hl:l.length<=1000000):tp op (x::l)=some (wh (wK f l (tF_ x))):=by
 unfold tp;rw[show aF (x::l) (0:Int)=some x from rfl,aq5,lV,aq5];have:=J7 (l:=x::l) (body:=mH op (x::l)) (ρ:=Val) (mk:=fun t i=>(t,i)) (f:=fun t v=>(bif decide (op=5)then CJ t (tF_ v)else acD t (tF_ v)).bind fun r=>some (.inl r)) (by
  intro s i v hv;have hi:=(aq6.1 hv).1;unfold mH;dsimp only;rw[aL hv,aq8,gn_ hv,wrapN (by simp at hi;omega)];simp only[aq5,lV]
  cases decide (op=5)
  ·simp only[aq7];cases acD s (tF_ v)<;>rfl
  ·simp only[aq8];cases CJ s (tF_ v)<;>rfl) (by
  intro s;unfold mH;dsimp only;rw[lF_,aq7]) fuel 1 (tF_ x) m5 (by unfold fuel;simp;omega)
 rw[show((1:Nat):Int)=1 from rfl]at this;rw[this];have h2:=wX hf QT l (tF_ x) (gF x);rw[show(x::l).drop 1=l from rfl,h2];show(AG (wK f l (tF_ x))).bind _=_;rw[mX (A6 hf l _ (gF x))];rfl
theorem tQ (s:ByteArray):(s.toList==(⟨#[]⟩:ByteArray).toList)=true↔s=empty:=by
 rw[beq_iff_eq,ByteArray.toList_eq,ByteArray.toList_eq];constructor
 ·intro h
  have:s.data.toList=[]:=h;obtain⟨d⟩:=s;obtain⟨l⟩:=d;simp at this;subst this;rfl
 ·rintro rfl;rfl
structure VV (v:Val):Prop where
 kind:0<=v.kind/\v.kind<=3
 int : -1125899906842624<=v.int/\v.int<=1125899906842624
 text:v.text.size<=200
theorem ri {v:Val}(h:vF v=true):VV v:=by
 have hx:=iu v;rw[h]at hx;unfold dq at hx;have e0:∀ s:ByteArray,s=empty->s.size<=200:=by rintro s rfl;decide
 by_cases k0:v.kind=0
 ·rw[aq_ k0,aq8]at hx
  by_cases i0:v.int=0
  ·rw[aq_ i0,aq8]at hx
   have:=(tQ _).1 (arH hx);exact⟨m0,m0,e0 _ this⟩
  ·rw[aq9 i0,aq7]at hx;cases hx
 rw[aq9 k0,aq7]at hx;by_cases k1:v.kind=1
 ·rw[aq_ k1,aq8]at hx
  by_cases t0:(v.text.toList==(⟨#[]⟩:ByteArray).toList)=true
  ·rw[t0,aq8]at hx
   by_cases i1:(-1125899906842624:Int)<=v.int
   ·rw[aq_ i1,aq8]at hx
    have:=arC (arH hx);exact⟨m0,⟨i1,this⟩,e0 _ ((tQ _).1 t0)⟩
   ·rw[aq9 i1,aq7]at hx;cases hx
  ·rw[Bool.not_eq_true]at t0
   rw[t0,aq7]at hx;cases hx
 rw[aq9 k1,aq7]at hx;by_cases k2:v.kind=2
 ·rw[aq_ k2,aq8]at hx
  by_cases i0:v.int=0
  ·rw[aq_ i0,aq8]at hx
   by_cases t2:((v.text.size:Nat):Int)<=200
   ·exact⟨m0,m0,m0⟩
   ·rw[aq9 t2,aq7]at hx;cases hx
  ·rw[aq9 i0,aq7]at hx;cases hx
 rw[aq9 k2,aq7]at hx;by_cases k3:v.kind=3
 ·rw[aq_ k3,aq8]at hx
  by_cases t0:(v.text.toList==(⟨#[]⟩:ByteArray).toList)=true
  ·rw[t0,aq8]at hx
   by_cases i0:v.int=0
   ·exact⟨m0,m0,e0 _ ((tQ _).1 t0)⟩
   ·rw[aq9 i0,aq7]at hx
    have:=arC (arH hx);exact⟨m0,m0,e0 _ ((tQ _).1 t0)⟩
  ·rw[Bool.not_eq_true]at t0
   rw[t0,aq7]at hx;cases hx
 rw[aq9 k3,aq7]at hx
 cases hx
theorem VV.vok {v:Val}(h:VV v):VOK v:=⟨⟨by have:=h.kind;omega,by have:=h.kind;omega⟩,⟨by have:=h.int;omega,by have:=h.int;omega⟩,by have:=h.text;omega⟩
abbrev aoe (n:Int):Val:=B6 ⟨1,n,empty⟩
abbrev ao7 (s:ByteArray):Val:=B6 ⟨2,0,s⟩
def akO (op a b:Int):Val:=(cW op a b).getD bI
theorem ana {a:Int}(h : -1125899906842624<=a/\a<=1125899906842624):zL a (i64.wrap (0-a))=(a.natAbs:Int):=by
 rw[dh m0];unfold zL;split<;>omega
theorem Gz (a b:Int):rJ a b=cW 15 a b:=by
 unfold rJ cW;rw[show decide ((15:Int)=13)=false from rfl,show decide ((15:Int)=14)=false from rfl,show decide ((15:Int)=15)=true from rfl];simp only[aq8,aq7]
 cases decide (a≠0)with
 |false=>simp only[aq7];rw[jW,jc]
 |true =>
  simp only[aq8];unfold agq;simp only[aq5];rw[jW,jc];rfl
theorem Jz {op a b:Int}(ha : -1125899906842624<=a/\a<=1125899906842624):∃ v,cW op a b=some v/\vF v=true:=by
 unfold cW;simp only[jc,aq5,bS]
 cases decide (op=13)with
 |true=>exact⟨_,rfl,nM _⟩
 |false =>
 cases decide (op=14)with
 |true=>exact⟨_,rfl,nM _⟩
 |false =>
 cases decide (op=15)with
 |true =>
  simp only[aq8,aq7];by_cases h:a=0
  ·subst h;exact⟨_,rfl,nM _⟩
  ·rw[aq_ (show a≠0 from h),aq8]
   unfold agq;simp only[aq5];rw[ana ha,aq_ (show((a.natAbs:Nat):Int)≠0 by omega),aq8];generalize decide (i64.wrap ((1125899906842624:Int).tdiv ((a.natAbs:Nat):Int))<zL b (i64.wrap (0-b)))=c
   cases c with
   |true=>exact⟨_,rfl,kG⟩
   |false=>exact⟨_,rfl,nM _⟩
 |false =>
  simp only[aq7];by_cases h:b=0
  ·rw[aq_ h];exact⟨_,rfl,kG⟩
  ·rw[aq9 h,aq_ (show b≠0 from h)]
   simp only[aq8,aq7]
   cases decide (op=16)with
   |true=>exact⟨_,rfl,nM _⟩
   |false=>exact⟨_,rfl,nM _⟩
theorem eV {op a b:Int}(ha : -1125899906842624<=a/\a<=1125899906842624):cW op a b=some (akO op a b)/\vF (akO op a b)=true:=by
 obtain⟨v,h1,h2⟩:=Jz (op:=op) (b:=b) ha;unfold akO;rw[h1];exact⟨rfl,h2⟩
theorem FD (l:List Val)(hl:l.length<=1000000):ao (oa l) fuel (0:Int)=some (bif dV l 1 then .inl ((l.length:Nat):Int)else .inr bI):=by
 rw[b6 (l:=l) (mk:=fun(_:Unit) i=>i) (f:=fun _ v=>some (if v.kind≠1 then .inr bI else .inl ())) ?_ ?_ (by unfold fuel;omega) ()]
 ·have:∀ l:List Val,cB (ρ:=Val) (fun(_:Unit) (v:Val)=>some (if v.kind≠1 then .inr bI else .inl ())) () l=some (if dV l 1=true then .inl ()else .inr bI):=by
   intro l
   induction l with
   |nil=>rfl
   |cons v l ih =>
    rw[cB];by_cases h:v.kind=1
    ·simp only[ne_eq,h,not_true_eq_false,if_false]
     rw[ih];simp[dV,h]
    ·simp[dV,h]
  rw[this]
  cases dV l 1<;>rfl
 ·intro s i x hx
  have hi:=(aq6.1 hx).1;unfold oa;dsimp only;rw[aL hx,aq8,gn_ hx,wrapN m0];simp only[aq5];by_cases h:x.kind=1
  ·simp[h,oL]
  ·simp[h,oL,kq]
 ·intro s
  unfold oa;dsimp only;rw[lF_,aq7]
def ei (op:Int)(a b:Val):Val:=bif dV [a,b] 1 then akO op a.int b.int else bI
theorem mr {op:Int}{a b:Val}(ha:VV a)(h:op=13\/op=14\/op=15\/op=16\/op=17):kA op [a,b]=some (ei op a b):=by
 unfold kA ei;rw[FD _ m5]
 cases dV [a,b] 1 with
 |false=>rfl
 |true =>
  simp only[aq8,aq5];have hc:=(eV (op:=op) (b:=b.int) ha.int).1;rw[<- hc];unfold tV;dsimp only;rw[show aF [a,b] (0:Int)=some a from rfl,aq5,show aF [a,b] (i64.wrap ((([a,b].length:Nat):Int)-1))=some b from rfl,aq5];rcases h with rfl|rfl|rfl|rfl|rfl
  ·unfold cW
   rw[show decide ((13:Int)=13)=true from rfl,aq8,aq8,jc,jW]
  ·unfold cW
   rw[show decide ((14:Int)=13)=false from rfl,show decide ((14:Int)=14)=true from rfl];simp only[aq8,aq7];rw[jc,jW]
  ·rw[show decide ((15:Int)=13)=false from rfl,show decide ((15:Int)=14)=false from rfl,show decide ((15:Int)=15)=true from rfl]
   simp only[aq8,aq7];rw[Gz]
   cases cW 15 a.int b.int<;>rfl
  ·unfold cW
   rw[show decide ((16:Int)=13)=false from rfl,show decide ((16:Int)=14)=false from rfl,show decide ((16:Int)=15)=false from rfl,show decide ((16:Int)=18)=false from rfl,show decide ((16:Int)=16)=true from rfl];simp only[aq8,aq7,jW,jc,kq,bS]
  ·unfold cW
   rw[show decide ((17:Int)=13)=false from rfl,show decide ((17:Int)=14)=false from rfl,show decide ((17:Int)=15)=false from rfl,show decide ((17:Int)=18)=false from rfl,show decide ((17:Int)=16)=false from rfl];simp only[aq8,aq7,jW,jc,kq,bS]
def Nl (a:Val):Val:=bif dV [a] 1 then aoe (i64.wrap (0-a.int))else bI
theorem abW (a:Val):kA 18 [a]=some (Nl a):=by
 unfold kA Nl;rw[FD _ m5]
 cases dV [a] 1 with
 |false=>rfl
 |true =>
  simp only[aq8,aq5];show(nh _).bind _=_;rw[jW];rfl
def K7 (a b:Val):Val:=bif dV [a,b] 2 then ao7 (a.text++b.text)else bI
def Kx (a:Val):Val:=bif dV [a] 2 then aoe ((a.text.size:Nat):Int)else bI
theorem ab3 {a b:Val}(ha:VV a)(hb:VV b):rU 19 [a,b]=some (K7 a b):=by
 unfold rU K7;rw[kO _ _ m5,aq5]
 cases dV [a,b] 2 with
 |false=>rfl
 |true =>
  have h1:=ha.text;have h2:=hb.text;rw[Bool.not_true,aq7,aq8,show decide ((19:Int)=19)=true from rfl,aq8,show aF [a,b] (0:Int)=some a from rfl,aq5,show aF [a,b] (1:Int)=some b from rfl,aq5];rw[aq_ (show a.text.size+b.text.size<=9223372036854775807 by omega),aq8,af4];rfl
theorem aaW (a:Val):rU 20 [a]=some (Kx a):=by
 unfold rU Kx;rw[kO _ _ m5,aq5]
 cases dV [a] 2 with
 |false=>rfl
 |true =>
  rw[Bool.not_true,aq7,aq8,show decide ((20:Int)=19)=false from rfl,aq7,show aF [a] (0:Int)=some a from rfl,aq5,jc];rfl
def nk (p:Int×ByteArray)(x:Val):Option (Sum (Int×ByteArray) Val):=bif decide (x.kind≠2)then some (.inr bI)else bif decide (p.2.size+x.text.size<=9223372036854775807)then some (.inl (i64.wrap (p.1+((x.text.size:Nat):Int)),p.2++x.text))else none
theorem Do (op:Int)(l:List Val)(hl:l.length<=1000000):su op l=(ET (fun(p:Int×ByteArray) i=>(p.1,p.2,i)) l.length (cB nk (0,⟨#[]⟩) l)).bind (Hl op):=by
 unfold su;rw[b6 (l:=l) (mk:=fun(p:Int×ByteArray) i=>(p.1,p.2,i)) (f:=nk) ?_ ?_ (by unfold fuel;omega) ((0:Int),(⟨#[]⟩:ByteArray))]
 ·intro s i x hx
  have hi:=(aq6.1 hx).1;unfold t8 nk;dsimp only;rw[aL hx,aq8,gn_ hx,wrapN m0];simp only[aq5]
  cases decide (x.kind≠2)with
  |true=>rfl
  |false =>
   simp only[aq7]
   cases decide (s.2.size+x.text.size<=9223372036854775807)<;>rfl
 ·intro s
  unfold t8;dsimp only;rw[lF_,aq7]
theorem ak5 (s:ByteArray):(⟨#[]⟩:ByteArray)++s=s:=by
 apply ByteArray.ext;simp
theorem abw {a b:Val}(ha:VV a)(hb:VV b):su 19 [a,b]=some (K7 a b):=by
 have h1:=ha.text;have h2:=hb.text;have h0:(⟨#[]⟩:ByteArray).size=0:=rfl;rw[Do _ _ m5];unfold K7;by_cases ka:a.kind=2
 ·by_cases kb:b.kind=2
  ·have e:dV [a,b] 2=true:=by simp[dV,ka,kb]
   rw[e];simp only[cB,nk];rw[aq9 (show ¬ a.kind≠2 by omega),aq7,aq_ (show(⟨#[]⟩:ByteArray).size+a.text.size<=9223372036854775807 by rw[h0];omega),aq8];simp only[];rw[aq9 (show ¬ b.kind≠2 by omega),aq7,ak5,aq_ (show a.text.size+b.text.size<=9223372036854775807 by omega),aq8];show(yU (a.text++b.text)).bind _=_;rw[afM];rfl
  ·have e:dV [a,b] 2=false:=by simp[dV,kb]
   rw[e];simp only[cB,nk];rw[aq9 (show ¬ a.kind≠2 by omega),aq7,aq_ (show(⟨#[]⟩:ByteArray).size+a.text.size<=9223372036854775807 by rw[h0];omega),aq8];simp only[];rw[aq_ (show b.kind≠2 from kb),aq8];rfl
 ·have e:dV [a,b] 2=false:=by simp[dV,ka]
  rw[e];simp only[cB,nk];rw[aq_ (show a.kind≠2 from ka),aq8];rfl
theorem abU {a:Val}(ha:VV a):su 20 [a]=some (Kx a):=by
 have h1:=ha.text;have h0:(⟨#[]⟩:ByteArray).size=0:=rfl;rw[Do _ _ m5];unfold Kx;by_cases ka:a.kind=2
 ·have e:dV [a] 2=true:=by simp[dV,ka]
  rw[e];simp only[cB,nk];rw[aq9 (show ¬ a.kind≠2 by omega),aq7,aq_ (show(⟨#[]⟩:ByteArray).size+a.text.size<=9223372036854775807 by rw[h0];omega),aq8];show(nh (i64.wrap (0+((a.text.size:Nat):Int)))).bind _=_;rw[jW,Int.zero_add,dh m0];rfl
 ·have e:dV [a] 2=false:=by simp[dV,ka]
  rw[e];simp only[cB,nk];rw[aq_ (show a.kind≠2 from ka),aq8];rfl
def K_ (rel:Int)(a b c d:Val):Val :=
 bif dV [a,b,c,d] 1 then(if aw ⟨a.int,b.int⟩=true/\aw ⟨c.int,d.int⟩=true then kI (decide (cQ ⟨a.int,b.int⟩ ⟨c.int,d.int⟩=rel))else bI)else bI
theorem KD (rel:Int)(a b c d:Val):pD rel [a,b,c,d]=some (K_ rel a b c d):=by
 unfold pD K_;rw[kO _ _ m5,aq5]
 cases dV [a,b,c,d] 1 with
 |false=>exact congrArg (fun o:Option Val=>o.bind fun r=>some r) bS
 |true =>
  rw[Bool.not_true,aq7,aq8,show aF [a,b,c,d] (0:Int)=some a from rfl,show aF [a,b,c,d] (1:Int)=some b from rfl,show aF [a,b,c,d] (2:Int)=some c from rfl,show aF [a,b,c,d] (3:Int)=some d from rfl];rw[aq5,aq5,aq5,aq5,ag6,aq5];generalize cQ ⟨a.int,b.int⟩ ⟨c.int,d.int⟩=x;generalize aw ⟨a.int,b.int⟩=y;generalize aw ⟨c.int,d.int⟩=z
  cases y<;>cases z
  ·exact congrArg (fun o:Option Val=>o.bind fun r=>some r) bS
  ·exact congrArg (fun o:Option Val=>o.bind fun r=>some r) bS
  ·exact congrArg (fun o:Option Val=>o.bind fun r=>some r) bS
  ·exact congrArg (fun o:Option Val=>o.bind fun r=>some r) (tw _)
theorem Nr (rel:Int)(a b c d:Val):rZ rel [a,b,c,d]=some (K_ rel a b c d):=by
 unfold rZ K_ xU;rw[show aF [a,b,c,d] (0:Int)=some a from rfl,show aF [a,b,c,d] (1:Int)=some b from rfl,show aF [a,b,c,d] (2:Int)=some c from rfl,show aF [a,b,c,d] (3:Int)=some d from rfl];simp only[aq5];rw[aes,aq5,kq];have e:dV [a,b,c,d] 1=((decide (a.kind=1)&&decide (b.kind=1))&&(decide (c.kind=1)&&decide (d.kind=1))):=by
  simp[dV,Bool.and_assoc]
 rw[e];generalize (decide (a.kind=1)&&decide (b.kind=1))=u;generalize (decide (c.kind=1)&&decide (d.kind=1))=v;generalize cQ ⟨a.int,b.int⟩ ⟨c.int,d.int⟩=x;generalize aw ⟨a.int,b.int⟩=y;generalize aw ⟨c.int,d.int⟩=z
 cases u
 ·rfl
 cases v
 ·rfl
 cases y<;>cases z
 ·rfl
 ·rfl
 ·rfl
 ·exact congrArg (fun o:Option Val=>o.bind fun r=>some r) (I4 _)
theorem cY {n k:Int}:decide (n=k)=(decide (k<=n)&&decide (n<=k)):=by
 rw[Bool.eq_iff_iff];simp only[arq,decide_eq_true_eq];omega
theorem K6 {n k:Int}(h:n<=1099511627776):decide (k<=n)=(decide (k<=n)&&decide (n<=1099511627776)):=by
 rw[aq_ h,Bool.and_true]
def jt (op:Int):Int×Int:=(nV op).getD (-1,0)
theorem nf (op n:Int)(h:n<=1099511627776):nV op=some (jt op)/\pL op n=some (decide (0<=(jt op).1)&&(decide ((jt op).1<=n)&&decide (n<=(jt op).2)),decide (0<=(jt op).1))/\(0<=(jt op).1->op=1\/op=2\/op=4\/op=5\/op=6\/op=7\/op=8\/op=9\/op=10\/op=11\/op=12\/op=13\/op=14\/op=15\/op=16\/op=17\/op=18\/op=19\/op=20\/op=21\/op=22\/op=23\/op=24) /\ -1<=(jt op).1:=by
 by_cases h1:op=1
 ·subst h1
  refine⟨rfl,?_,fun _=>by simp,by decide⟩;show some (decide (n=0),true)=some (true&&(decide ((0:Int)<=n)&&decide (n<=0)),true);rw[arI,<- cY]
 by_cases h2:op=2
 ·subst h2
  refine⟨rfl,?_,fun _=>by simp,by decide⟩;show some (decide (n=0),true)=some (true&&(decide ((0:Int)<=n)&&decide (n<=0)),true);rw[arI,<- cY]
 by_cases h4:op=4
 ·subst h4
  refine⟨rfl,?_,fun _=>by simp,by decide⟩;show some (decide (n=1),true)=some (true&&(decide ((1:Int)<=n)&&decide (n<=1)),true);rw[arI,<- cY]
 by_cases h5:op=5
 ·subst h5
  refine⟨rfl,?_,fun _=>by simp,by decide⟩;show some (decide ((2:Int)<=n),true)=some (true&&(decide ((2:Int)<=n)&&decide (n<=1099511627776)),true);rw[arI,<- K6 h]
 by_cases h6:op=6
 ·subst h6
  refine⟨rfl,?_,fun _=>by simp,by decide⟩;show some (decide ((2:Int)<=n),true)=some (true&&(decide ((2:Int)<=n)&&decide (n<=1099511627776)),true);rw[arI,<- K6 h]
 by_cases h7:op=7
 ·subst h7
  refine⟨rfl,?_,fun _=>by simp,by decide⟩;show some (decide (n=2),true)=some (true&&(decide ((2:Int)<=n)&&decide (n<=2)),true);rw[arI,<- cY]
 by_cases h8:op=8
 ·subst h8
  refine⟨rfl,?_,fun _=>by simp,by decide⟩;show some (decide (n=2),true)=some (true&&(decide ((2:Int)<=n)&&decide (n<=2)),true);rw[arI,<- cY]
 by_cases h9:op=9
 ·subst h9
  refine⟨rfl,?_,fun _=>by simp,by decide⟩;show some (decide (n=2),true)=some (true&&(decide ((2:Int)<=n)&&decide (n<=2)),true);rw[arI,<- cY]
 by_cases YH:op=10
 ·subst YH
  refine⟨rfl,?_,fun _=>by simp,by decide⟩;show some (decide (n=2),true)=some (true&&(decide ((2:Int)<=n)&&decide (n<=2)),true);rw[arI,<- cY]
 by_cases h11:op=11
 ·subst h11
  refine⟨rfl,?_,fun _=>by simp,by decide⟩;show some (decide (n=2),true)=some (true&&(decide ((2:Int)<=n)&&decide (n<=2)),true);rw[arI,<- cY]
 by_cases h12:op=12
 ·subst h12
  refine⟨rfl,?_,fun _=>by simp,by decide⟩;show some (decide (n=2),true)=some (true&&(decide ((2:Int)<=n)&&decide (n<=2)),true);rw[arI,<- cY]
 by_cases h13:op=13
 ·subst h13
  refine⟨rfl,?_,fun _=>by simp,by decide⟩;show some (decide (n=2),true)=some (true&&(decide ((2:Int)<=n)&&decide (n<=2)),true);rw[arI,<- cY]
 by_cases h14:op=14
 ·subst h14
  refine⟨rfl,?_,fun _=>by simp,by decide⟩;show some (decide (n=2),true)=some (true&&(decide ((2:Int)<=n)&&decide (n<=2)),true);rw[arI,<- cY]
 by_cases h15:op=15
 ·subst h15
  refine⟨rfl,?_,fun _=>by simp,by decide⟩;show some (decide (n=2),true)=some (true&&(decide ((2:Int)<=n)&&decide (n<=2)),true);rw[arI,<- cY]
 by_cases h16:op=16
 ·subst h16
  refine⟨rfl,?_,fun _=>by simp,by decide⟩;show some (decide (n=2),true)=some (true&&(decide ((2:Int)<=n)&&decide (n<=2)),true);rw[arI,<- cY]
 by_cases h17:op=17
 ·subst h17
  refine⟨rfl,?_,fun _=>by simp,by decide⟩;show some (decide (n=2),true)=some (true&&(decide ((2:Int)<=n)&&decide (n<=2)),true);rw[arI,<- cY]
 by_cases h18:op=18
 ·subst h18
  refine⟨rfl,?_,fun _=>by simp,by decide⟩;show some (decide (n=1),true)=some (true&&(decide ((1:Int)<=n)&&decide (n<=1)),true);rw[arI,<- cY]
 by_cases h19:op=19
 ·subst h19
  refine⟨rfl,?_,fun _=>by simp,by decide⟩;show some (decide (n=2),true)=some (true&&(decide ((2:Int)<=n)&&decide (n<=2)),true);rw[arI,<- cY]
 by_cases h20:op=20
 ·subst h20
  refine⟨rfl,?_,fun _=>by simp,by decide⟩;show some (decide (n=1),true)=some (true&&(decide ((1:Int)<=n)&&decide (n<=1)),true);rw[arI,<- cY]
 by_cases h21:op=21
 ·subst h21
  refine⟨rfl,?_,fun _=>by simp,by decide⟩;show some (decide (n=1),true)=some (true&&(decide ((1:Int)<=n)&&decide (n<=1)),true);rw[arI,<- cY]
 by_cases h22:op=22
 ·subst h22
  refine⟨rfl,?_,fun _=>by simp,by decide⟩;show some (decide (n=3),true)=some (true&&(decide ((3:Int)<=n)&&decide (n<=3)),true);rw[arI,<- cY]
 by_cases h23:op=23
 ·subst h23
  refine⟨rfl,?_,fun _=>by simp,by decide⟩;show some (decide ((1:Int)<=n),true)=some (true&&(decide ((1:Int)<=n)&&decide (n<=1099511627776)),true);rw[arI,<- K6 h]
 by_cases h24:op=24
 ·subst h24
  refine⟨rfl,?_,fun _=>by simp,by decide⟩;show some (decide (n=4),true)=some (true&&(decide ((4:Int)<=n)&&decide (n<=4)),true);rw[arI,<- cY]
 have e1:nV op=some (-1,0):=by
  unfold nV;simp only[aq9 h1,aq9 h2,aq9 h4,aq9 h5,aq9 h6,aq9 h7,aq9 h8,aq9 h9,aq9 YH,aq9 h11,aq9 h12,aq9 h13,aq9 h14,aq9 h15,aq9 h16,aq9 h17,aq9 h18,aq9 h19,aq9 h20,aq9 h21,aq9 h22,aq9 h23,aq9 h24,aq7]
 have e2:pL op n=some (false,false):=by
  unfold pL;simp only[aq9 h1,aq9 h2,aq9 h4,aq9 h5,aq9 h6,aq9 h7,aq9 h8,aq9 h9,aq9 YH,aq9 h11,aq9 h12,aq9 h13,aq9 h14,aq9 h15,aq9 h16,aq9 h17,aq9 h18,aq9 h19,aq9 h20,aq9 h21,aq9 h22,aq9 h23,aq9 h24,aq7]
 have e3:jt op=(-1,0):=by unfold jt;rw[e1];rfl
 rw[e1,e2,e3];exact⟨rfl,rfl,fun h=>absurd h m9,by decide⟩
theorem ar1:jt 1=(0,0):=rfl
theorem ar2:jt 2=(0,0):=rfl
theorem ar4:jt 4=(1,1):=rfl
theorem ar5:jt 5=(2,1099511627776):=rfl
theorem ar6:jt 6=(2,1099511627776):=rfl
theorem ar7:jt 7=(2,2):=rfl
theorem ar8:jt 8=(2,2):=rfl
theorem ar9:jt 9=(2,2):=rfl
theorem aqJ:jt 10=(2,2):=rfl
theorem aqa:jt 11=(2,2):=rfl
theorem ap5:jt 12=(2,2):=rfl
theorem apf:jt 13=(2,2):=rfl
theorem aoq:jt 14=(2,2):=rfl
theorem aox:jt 15=(2,2):=rfl
theorem apb:jt 16=(2,2):=rfl
theorem aoy:jt 17=(2,2):=rfl
theorem aqB:jt 18=(1,1):=rfl
theorem aqi:jt 19=(2,2):=rfl
theorem aqe:jt 20=(1,1):=rfl
theorem ap6:jt 21=(1,1):=rfl
theorem anF:jt 22=(3,3):=rfl
theorem aqu:jt 23=(1,1099511627776):=rfl
theorem ap_:jt 24=(4,4):=rfl
def fU (e:Ex):Bool:=(fO e).getD false
def aay (v:Val):Bool:=b8 [.c (.int .i64 v.kind),.c (.int .i64 v.int),.c (.str v.text)] [.c (.int .i64 (0:Int)),.c (.int .i64 (0:Int)),.c (.str empty)]
def oN (e:Ex):Bool:=(e.nm.toList==(⟨#[]⟩:ByteArray).toList)&&(if e.op=1 then decide (e.int=0)&&vF e.v else if e.op=2 then aay e.v else if e.op=24 then aay e.v&&(decide (0<=e.int)&&decide (e.int<13))else decide (e.int=0)&&aay e.v)
theorem kf (e:Ex)(h:e.args.length<=100000):fO e=some ((decide (0<=(jt e.op).1)&&(decide ((jt e.op).1<=((e.args.length:Nat):Int))&&decide (((e.args.length:Nat):Int)<=(jt e.op).2)))&&oN e)/\mS e=some ((decide (0<=(jt e.op).1)&&(decide ((jt e.op).1<=((e.args.length:Nat):Int))&&decide (((e.args.length:Nat):Int)<=(jt e.op).2)))&&oN e):=by
 obtain⟨h1,h2,h3,h4⟩:=nf e.op ((e.args.length:Nat):Int) m0;generalize jt e.op=a at h1 h2 h3 h4;obtain⟨lo,hi⟩:=a;dsimp only at h1 h2 h3 h4 ⊢;have hR:fO e=(bif decide (0<=lo)&&(decide (lo<=((e.args.length:Nat):Int))&&decide (((e.args.length:Nat):Int)<=hi))then some (oN e)else some false):=by
  unfold fO;rw[h1,aq5];dsimp only;by_cases c1:0<=lo
  ·rw[aq9 (show ¬ lo<0 by omega),aq_ c1,aq7,arI]
   by_cases c2:lo<=((e.args.length:Nat):Int)
   ·rw[aq9 (show ¬ ((e.args.length:Nat):Int)<lo by omega),aq_ c2,aq7,arI]
    by_cases c3:((e.args.length:Nat):Int)<=hi
    ·rw[aq9 (show ¬ hi<((e.args.length:Nat):Int)by omega),aq_ c3,aq7,aq8]
     unfold oN
     cases (e.nm.toList==(⟨#[]⟩:ByteArray).toList)with
     |false=>rfl
     |true =>
      rw[Bool.not_true,aq7,arI];by_cases o1:e.op=1
      ·rw[aq_ o1,aq8,if_pos o1,iu]
       cases decide (e.int=0)<;>rfl
      ·rw[aq9 o1,aq7,if_neg o1,bS]
       by_cases o2:e.op=2
       ·rw[aq_ o2,aq8,if_pos o2];rfl
       ·rw[aq9 o2,aq7,if_neg o2]
        by_cases o3:e.op=24
        ·rw[aq_ o3,aq8,if_pos o3]
         show(bif aay e.v then _ else _)=_
         cases aay e.v
         ·rfl
         ·rw[aq8,arI]
          cases decide (0<=e.int)<;>rfl
        ·rw[aq9 o3,aq7,if_neg o3]
         cases decide (e.int=0)<;>rfl
    ·rw[aq_ (show hi<((e.args.length:Nat):Int)by omega),aq9 c3,aq8];rfl
   ·rw[aq_ (show((e.args.length:Nat):Int)<lo by omega),aq9 c2,aq8];rfl
  ·rw[aq_ (show lo<0 by omega),aq9 c1,aq8];rfl
 have hP:mS e=(bif decide (0<=lo)&&(decide (lo<=((e.args.length:Nat):Int))&&decide (((e.args.length:Nat):Int)<=hi))then some (oN e)else some false):=by
  unfold mS;rw[h2,aq5];dsimp only
  cases (decide (0<=lo)&&(decide (lo<=((e.args.length:Nat):Int))&&decide (((e.args.length:Nat):Int)<=hi)))with
  |false=>rfl
  |true =>
   rw[Bool.not_true,aq7,aq8];unfold oN
   cases (e.nm.toList==(⟨#[]⟩:ByteArray).toList)with
   |false=>rfl
   |true =>
    rw[Bool.not_true,aq7,arI];by_cases o1:e.op=1
    ·rw[aq_ o1,aq8,if_pos o1,wb]
     cases decide (e.int=0)<;>rfl
    ·rw[aq9 o1,aq7,if_neg o1]
     by_cases o3:e.op=24
     ·have o2:¬ e.op=2:=m0
      rw[aq_ o3,aq8,if_neg o2,if_pos o3];by_cases i1:0<=e.int
      ·rw[aq9 (show ¬ e.int<0 by omega),aq7,aq_ i1,arI]
       by_cases i2:e.int<13
       ·rw[aq9 (show ¬ 13<=e.int by omega),aq7,aq_ i2,Bool.and_true];rfl
       ·rw[aq_ (show 13<=e.int by omega),aq8,aq9 i2,Bool.and_false]
      ·rw[aq_ (show e.int<0 by omega),aq8,aq9 i1,Bool.false_and,Bool.and_false]
     ·rw[aq9 o3,aq7]
      by_cases o2:e.op=2
      ·rw[aq_ o2,aq8,if_pos o2];rfl
      ·rw[aq9 o2,aq7,if_neg o2,if_neg o3]
       cases decide (e.int=0)<;>rfl
 rw[hR,hP]
 cases (decide (0<=lo)&&(decide (lo<=((e.args.length:Nat):Int))&&decide (((e.args.length:Nat):Int)<=hi)))<;>exact⟨rfl,rfl⟩
theorem m_ {e:Ex}(h:e.args.length<=100000):fO e=some (fU e):=by unfold fU;rw[(kf e h).1];rfl
theorem DF {e:Ex}(h:e.args.length<=100000):mS e=some (fU e):=by unfold fU;rw[(kf e h).2,(kf e h).1];rfl
theorem l7 {e:Ex}(h:e.args.length<=100000)(hf:fU e=true):(e.op=1\/e.op=2\/e.op=4\/e.op=5\/e.op=6\/e.op=7\/e.op=8\/e.op=9\/e.op=10\/e.op=11\/e.op=12\/e.op=13\/e.op=14\/e.op=15\/e.op=16\/e.op=17\/e.op=18\/e.op=19\/e.op=20\/e.op=21\/e.op=22\/e.op=23\/e.op=24)/\(jt e.op).1<=((e.args.length:Nat):Int)/\((e.args.length:Nat):Int)<=(jt e.op).2/\oN e=true:=by
 obtain⟨_,_,h3,_⟩:=nf e.op ((e.args.length:Nat):Int) m0;unfold fU at hf;rw[(kf e h).1,Option.getD_some,arq,arq,arq]at hf;exact⟨h3 (arC hf.1.1),arC hf.1.2.1,arC hf.1.2.2,hf.2⟩
theorem Dh {e:Ex}(h:e.op=1)(hr:oN e=true):vF e.v=true:=by
 unfold oN at hr;rw[if_pos h,arq,arq]at hr;exact hr.2.2
def dx (OV:Ex)(O3:(List Val))(rec:Ex->List Val->Option Val):((List Val)×Int)->Option (Step ((List Val)×Int) (Val)):=fun s=>match s with
 |(Qn,Tu)=>bif (decide (Tu<((OV.args.length:Nat):Int)))then(aF OV.args Tu).bind fun TN=>(rec TN O3).bind fun Yo=>bif (decide (Qn.length+1<=4398046511104))then(some (.next ((Qn++[Yo]),(i64.wrap (Tu+(1:Int))))))else none else
 some (.exit (Qn,Tu))
def gER_K (OV:Ex)(O3:(List Val)):Sum ((List Val)×Int) (Val)->Option ((Val))
 |.inl (Qn,Tu)=>bif (decide (OV.op=(1:Int)))then(zW OV O3).bind fun Rr=>some Rr else
 bif (decide (OV.op=(2:Int)))then(zW OV O3).bind fun P7=>some P7 else
 bif (decide (OV.op=(4:Int)))then(aF Qn (0:Int)).bind fun x_14=>(fD x_14).bind fun QX=>(Dm QX).bind fun Wq=>(AG Wq).bind fun Sj=>some Sj else
 bif (decide (OV.op=(5:Int)))then(tp OV.op Qn).bind fun Rt=>some Rt else
 bif (decide (OV.op=(6:Int)))then(tp OV.op Qn).bind fun QZ=>some QZ else
 bif (decide (OV.op=(7:Int)))then(aF Qn (0:Int)).bind fun x_23=>(aF Qn (1:Int)).bind fun x_24=>(fm OV.op x_23 x_24).bind fun Td=>(AG Td).bind fun XS=>some XS else
 bif (decide (OV.op=(8:Int)))then(aF Qn (0:Int)).bind fun x_28=>(aF Qn (1:Int)).bind fun x_29=>(fm OV.op x_28 x_29).bind fun Wp=>(AG Wp).bind fun XT=>some XT else
 bif (decide (OV.op=(9:Int)))then(aF Qn (0:Int)).bind fun x_33=>(aF Qn (1:Int)).bind fun x_34=>(fm OV.op x_33 x_34).bind fun Uy=>(AG Uy).bind fun Wj=>some Wj else
 bif (decide (OV.op=(10:Int)))then(aF Qn (0:Int)).bind fun x_38=>(aF Qn (1:Int)).bind fun x_39=>(fm OV.op x_38 x_39).bind fun Wl=>(AG Wl).bind fun Uz=>some Uz else
 bif (decide (OV.op=(11:Int)))then(aF Qn (0:Int)).bind fun x_43=>(aF Qn (1:Int)).bind fun x_44=>(fm OV.op x_43 x_44).bind fun r_45=>(AG r_45).bind fun TU=>some TU else
 bif (decide (OV.op=(12:Int)))then(aF Qn (0:Int)).bind fun x_48=>(aF Qn (1:Int)).bind fun x_49=>(fm OV.op x_48 x_49).bind fun Wm=>(AG Wm).bind fun r_51=>some r_51 else
 bif (decide (OV.op=(18:Int)))then(MK Qn (1:Int)).bind fun r_53=>bif (!r_53)then(dB ).bind fun Wn=>some Wn else
 (aF Qn (0:Int)).bind fun x_56=>(nq (i64.wrap (0-x_56.int))).bind fun r_57=>some r_57 else
 bif (decide (OV.op=(19:Int)))then(rU OV.op Qn).bind fun r_59=>some r_59 else
 bif (decide (OV.op=(20:Int)))then(rU OV.op Qn).bind fun r_61=>some r_61 else
 bif (decide (OV.op=(21:Int)))then(aF Qn (0:Int)).bind fun x_63=>(pY (decide (x_63.kind=(0:Int)))).bind fun r_64=>some r_64 else
 bif (decide (OV.op=(22:Int)))then(qB OV.op Qn).bind fun r_66=>some r_66 else
 bif (decide (OV.op=(23:Int)))then(qB OV.op Qn).bind fun r_68=>some r_68 else
 bif (decide (OV.op=(24:Int)))then(pD OV.int Qn).bind fun r_70=>some r_70 else
 (MK Qn (1:Int)).bind fun r_71=>bif (!r_71)then(dB ).bind fun r_73=>some r_73 else
 (aF Qn (0:Int)).bind fun x_74=>(aF Qn (1:Int)).bind fun x_75=>(cW OV.op x_74.int x_75.int).bind fun r_76=>some r_76
 |.inr q=>some q
def ji (rec:Ex->List Val->Option Val)(OV:Ex)(O3:(List Val)):Option (Val):=(fO OV).bind fun Pg=>bif (!Pg)then(dB ).bind fun P4=>some P4 else
 (ao (dx OV O3 rec) fuel ([],(0:Int))).bind (gER_K OV O3)
def dd:Nat->Ex->List Val->Option Val
 |0,_,_=>none
 |n+1,e,r=>ji (dd n) e r
