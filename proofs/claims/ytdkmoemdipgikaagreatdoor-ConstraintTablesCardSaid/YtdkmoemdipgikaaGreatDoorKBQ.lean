/- Parts. No condition. -/
import Derived.Test.YtdkmoemdipgikaaGreatDoorKBP
set_option maxHeartbeats 8000000
set_option maxRecDepth 100000
set_option linter.unusedSimpArgs false
set_option linter.unusedVariables false
namespace Go.Proofs.YtdkmoemdipgikaaGreatDoor
open IntKind (i64)
open Go.RowKit Go.MapKept
noncomputable section
def uJ (a_kind:Int)(a_t:bv)(a_index:Int)(r_1:(List aw)):((List bD)×Int)->Option (Step ((List bD)×Int) ((List bD))):=fun s=>match s with
 |(out_2,i_3)=>bif (decide (i_3<((r_1.length:Nat):Int)))then(aq r_1 i_3).bind fun x_5=>bif (decide (out_2.length+1<=1954687338268))then(some (.next ((out_2++[(⟨a_kind,a_t.nm,a_index,x_5.row,x_5.valid⟩:bD)]),(i64.wrap (i_3+(1:Int))))))else none else
 some (.exit (out_2,i_3))
def yW:Sum ((List bD)×Int) ((List bD))->Option (((List bD)))
 |.inl (out_2,i_3)=>some out_2
 |.inr q=>some q
def DG (a_kind:Int)(a_t:bv)(a_index:Int)(a_l:(List aw)):Option ((List bD)):=(uf a_l).bind fun r_1=>(ap (uJ a_kind a_t a_index r_1) fuel ([],(0:Int))).bind (yW)
theorem Ba {a_kind:Int}{a_t:bv}{a_index:Int}{a_l:(List aw)}{r:(List bD)}(H:DG a_kind a_t a_index a_l=some r):PTz 37 [.one (.int .i64 a_kind),.agg (bn a_t),.one (.int .i64 a_index),.one (.lst (a_l.map aA))] (.val (.one (.lst (r.map bN)))):=by
 unfold DG at H;refine po_ Tryz.func37 Tryz.ntmps37 ?_;obtain⟨r_1,c1,H⟩:=bd_ H;replace c1:=J8 c1;refine aX ?_;refine bK 10 6 rfl ?_;refine alM_ (fun s:(List bD)×Int=>match s with|(out_2,i_3)=>[(0,.one (.c (.int .i64 a_kind))),(2,.one (.c (.int .i64 a_index))),(5,.one (.ptr 0 0)),(9,.one (.c (.lst (r_1.map aA)))),(10,.one (.own (out_2.map bN) 1)),(11,.one (.c (.int .i64 i_3)))]) (fun s=>match s with|(out_2,i_3)=>[.box [.c (.str a_t.nm),.c (.lst (a_t.columns.map ez)),.c (.lst (a_t.key.map (fun x=>[AC.int .i64 x]))),.c (.lst (a_t.foreigns.map fY)),.c (.lst (a_t.checks.map tE))],.spare out_2.length 6]) H (fun _=>amR _)
  (fm_ bH [] rfl a8 bZ) ?_
 rintro⟨out_2,i_3⟩ st1 hb1 hk1;unfold uJ at hb1;dsimp only at hb1 ⊢;rcases af hb1 with⟨q_4,hb1⟩|⟨q_4,hb1⟩
 ·obtain⟨x_5,i2z,i2,i2x,hb1⟩:=aY (f:=aA) hb1
  obtain⟨g3,hb1⟩:=bo hb1
  cases hb1;refine aX ?_;exact⟨_,rfl,fm_ jb [] nk a8 bZ⟩
 cases hb1;have hx1:yW (.inl (out_2,i_3))=some _:=hk1;unfold yW at hx1;dsimp only at hx1
 cases hx1;exact bV
def ju (a_t:bv)(a_l:(List aw))(c_2:Int):((List aw)×Int)->Option (Step ((List aw)×Int) ((List bD))):=fun s=>match s with
 |(bad_4,i_5)=>bif (decide (i_5<((a_l.length:Nat):Int)))then(aq a_t.columns c_2).bind fun x_7=>bif (!x_7.nullable)then(aq a_l i_5).bind fun x_9=>(aq x_9.row c_2).bind fun x_10=>bif (decide (x_10.kind=(0:Int)))then bif (decide (bad_4.length+1<=3518437208883))then(some (.next ((bad_4++[x_9]),(i64.wrap (i_5+(1:Int))))))else none else
 some (.next (bad_4,(i64.wrap (i_5+(1:Int)))))else
 some (.next (bad_4,(i64.wrap (i_5+(1:Int)))))else
 some (.exit (bad_4,i_5))
def jD (a_t:bv)(out_1:(List bD))(c_2:Int):Sum ((List aw)×Int) ((List bD))->Option (Step ((List bD)×Int) ((List bD)))
 |.inl (bad_4,i_5)=>(DG (1:Int) a_t c_2 bad_4).bind fun r_12=>bif (decide (out_1.length+r_12.length<=1954687338268))then(some (.next ((out_1++r_12),(i64.wrap (c_2+(1:Int))))))else none
 |.inr q=>some (.ret q)
def nh (a_t:bv)(a_l:(List aw)):((List bD)×Int)->Option (Step ((List bD)×Int) ((List bD))):=fun s=>match s with
 |(out_1,c_2)=>bif (decide (c_2<((a_t.columns.length:Nat):Int)))then(ap (ju a_t a_l c_2) fuel ([],(0:Int))).bind (jD a_t out_1 c_2)else
 some (.exit (out_1,c_2))
def m_:Sum ((List bD)×Int) ((List bD))->Option (((List bD)))
 |.inl (out_1,c_2)=>some out_1
 |.inr q=>some q
def lG (a_t:bv)(a_l:(List aw)):Option ((List bD)):=(ap (nh a_t a_l) fuel ([],(0:Int))).bind (m_)
theorem ab7 {a_t:bv}{a_l:(List aw)}{r:(List bD)}(H:lG a_t a_l=some r):PTz 13 [.agg (bn a_t),.one (.lst (a_l.map aA))] (.val (.one (.lst (r.map bN)))):=by
 unfold lG at H;refine po_ Tryz.func13 Tryz.ntmps13 ?_;refine aX ?_;refine bK 5 6 rfl ?_;refine alM_ (fun s:(List bD)×Int=>match s with|(out_1,c_2)=>[(1,.one (.c (.lst (a_l.map aA)))),(2,.one (.ptr 0 0)),(5,.one (.own (out_1.map bN) 1)),(6,.one (.c (.int .i64 c_2)))]) (fun s=>match s with|(out_1,c_2)=>[.box [.c (.str a_t.nm),.c (.lst (a_t.columns.map ez)),.c (.lst (a_t.key.map (fun x=>[AC.int .i64 x]))),.c (.lst (a_t.foreigns.map fY)),.c (.lst (a_t.checks.map tE))],.spare out_1.length 6]) H (fun _=>amR _)
  (fm_ bH [] rfl a8 bZ) ?_
 rintro⟨out_1,c_2⟩ st3 hb3 hk3;unfold nh at hb3;dsimp only at hb3 ⊢;rcases af hb3 with⟨q_3,hb3⟩|⟨q_3,hb3⟩
 ·refine aX ?_
  refine bK 7 3 rfl ?_;refine alM_ (fun s:(List aw)×Int=>match s with|(bad_4,i_5)=>[(1,.one (.c (.lst (a_l.map aA)))),(2,.one (.ptr 0 0)),(5,.one (.own (out_1.map bN) 1)),(6,.one (.c (.int .i64 c_2))),(7,.one (.own (bad_4.map aA) 2)),(8,.one (.c (.int .i64 i_5)))]) (fun s=>match s with|(bad_4,i_5)=>[.box [.c (.str a_t.nm),.c (.lst (a_t.columns.map ez)),.c (.lst (a_t.key.map (fun x=>[AC.int .i64 x]))),.c (.lst (a_t.foreigns.map fY)),.c (.lst (a_t.checks.map tE))],.spare out_1.length 6,.spare bad_4.length 3]) hb3 (fun _=>amR _)
   (fm_ bH [] rfl a8 bZ) ?_
  rintro⟨bad_4,i_5⟩ st4 hb4 hk4;unfold ju at hb4;dsimp only at hb4 ⊢;rcases af hb4 with⟨q_6,hb4⟩|⟨q_6,hb4⟩
  ·obtain⟨x_7,i1z,i1,i1x,hb4⟩:=aY (f:=ez) hb4
   rcases af hb4 with⟨q_8,hb4⟩|⟨q_8,hb4⟩
   ·obtain⟨x_9,i2z,i2,i2x,hb4⟩:=aY (f:=aA) hb4
    obtain⟨x_10,i3z,i3,i3x,hb4⟩:=aY (f:=cV) hb4;rcases af hb4 with⟨q_11,hb4⟩|⟨q_11,hb4⟩
    ·obtain⟨g4,hb4⟩:=bo hb4
     cases hb4;refine aX ?_;exact⟨_,rfl,fm_ jb [] nk a8 bZ⟩
    cases hb4;refine aX ?_;exact⟨_,rfl,fm_ jb [] nk a8 bZ⟩
   cases hb4;refine aX ?_;exact⟨_,rfl,fm_ jb [] nk a8 bZ⟩
  cases hb4;have hx4:jD a_t out_1 c_2 (.inl (bad_4,i_5))=some _:=hk4;unfold jD at hx4;dsimp only at hx4;obtain⟨r_12,c5,hx4⟩:=bd_ hx4;replace c5:=Ba c5;obtain⟨g6,hx4⟩:=bo hx4
  cases hx4;refine aX ?_;exact⟨_,rfl,fm_ jb [_] nk a8 bZ⟩
 cases hb3;have hx3:m_ (.inl (out_1,c_2))=some _:=hk3;unfold m_ at hx3;dsimp only at hx3
 cases hx3;exact bV
theorem LO {a_t:bv}{a_l:(List aw)}{r:(List bD)}(H:lG a_t a_l=some r):RTz 13 [] [.agg [.c (.str a_t.nm),.c (.lst (a_t.columns.map ez)),.c (.lst (a_t.key.map (fun x=>[AC.int .i64 x]))),.c (.lst (a_t.foreigns.map fY)),.c (.lst (a_t.checks.map tE))],.one (.c (.lst (a_l.map aA)))] [.dead,.spare r.length 6] (.one (.own (r.map bN) 1)):=by
 unfold lG at H;refine cw tab_ok Tryz.func13 rfl rfl Tryz.ntmps13 m5 ?_;simp only[dN];refine aX ?_;refine bK 5 6 rfl ?_;refine alM_ (fun s:(List bD)×Int=>match s with|(out_1,c_2)=>[(1,.one (.c (.lst (a_l.map aA)))),(2,.one (.ptr 0 0)),(5,.one (.own (out_1.map bN) 1)),(6,.one (.c (.int .i64 c_2)))]) (fun s=>match s with|(out_1,c_2)=>[.box [.c (.str a_t.nm),.c (.lst (a_t.columns.map ez)),.c (.lst (a_t.key.map (fun x=>[AC.int .i64 x]))),.c (.lst (a_t.foreigns.map fY)),.c (.lst (a_t.checks.map tE))],.spare out_1.length 6]) H (fun _=>amR _)
  (fm_ bH [] rfl a8 bZ) ?_
 rintro⟨out_1,c_2⟩ st3 hb3 hk3;unfold nh at hb3;dsimp only at hb3 ⊢;rcases af hb3 with⟨q_3,hb3⟩|⟨q_3,hb3⟩
 ·refine aX ?_
  refine bK 7 3 rfl ?_;refine alM_ (fun s:(List aw)×Int=>match s with|(bad_4,i_5)=>[(1,.one (.c (.lst (a_l.map aA)))),(2,.one (.ptr 0 0)),(5,.one (.own (out_1.map bN) 1)),(6,.one (.c (.int .i64 c_2))),(7,.one (.own (bad_4.map aA) 2)),(8,.one (.c (.int .i64 i_5)))]) (fun s=>match s with|(bad_4,i_5)=>[.box [.c (.str a_t.nm),.c (.lst (a_t.columns.map ez)),.c (.lst (a_t.key.map (fun x=>[AC.int .i64 x]))),.c (.lst (a_t.foreigns.map fY)),.c (.lst (a_t.checks.map tE))],.spare out_1.length 6,.spare bad_4.length 3]) hb3 (fun _=>amR _)
   (fm_ bH [] rfl a8 bZ) ?_
  rintro⟨bad_4,i_5⟩ st4 hb4 hk4;unfold ju at hb4;dsimp only at hb4 ⊢;rcases af hb4 with⟨q_6,hb4⟩|⟨q_6,hb4⟩
  ·obtain⟨x_7,i1z,i1,i1x,hb4⟩:=aY (f:=ez) hb4
   rcases af hb4 with⟨q_8,hb4⟩|⟨q_8,hb4⟩
   ·obtain⟨x_9,i2z,i2,i2x,hb4⟩:=aY (f:=aA) hb4
    obtain⟨x_10,i3z,i3,i3x,hb4⟩:=aY (f:=cV) hb4;rcases af hb4 with⟨q_11,hb4⟩|⟨q_11,hb4⟩
    ·obtain⟨g4,hb4⟩:=bo hb4
     cases hb4;refine aX ?_;exact⟨_,rfl,fm_ jb [] nk a8 bZ⟩
    cases hb4;refine aX ?_;exact⟨_,rfl,fm_ jb [] nk a8 bZ⟩
   cases hb4;refine aX ?_;exact⟨_,rfl,fm_ jb [] nk a8 bZ⟩
  cases hb4;have hx4:jD a_t out_1 c_2 (.inl (bad_4,i_5))=some _:=hk4;unfold jD at hx4;dsimp only at hx4;obtain⟨r_12,c5,hx4⟩:=bd_ hx4;replace c5:=Ba c5;obtain⟨g6,hx4⟩:=bo hx4
  cases hx4;refine aX ?_;exact⟨_,rfl,fm_ jb [_] nk a8 bZ⟩
 cases hb3;have hx3:m_ (.inl (out_1,c_2))=some _:=hk3;unfold m_ at hx3;dsimp only at hx3
 cases hx3;refine cY 0 rfl rfl ?_;exact alV
def nw (a_t:bv)(a_l:(List aw))(c_2:Int):((List aw)×Int)->Option (Step ((List aw)×Int) ((List bD))):=fun s=>match s with
 |(bad_4,i_5)=>bif (decide (i_5<((a_l.length:Nat):Int)))then(aq a_t.checks c_2).bind fun x_7=>(aq a_l i_5).bind fun x_8=>(mG x_7 x_8.row).bind fun r_9=>bif (decide (r_9=(0:Int)))then bif (decide (bad_4.length+1<=3518437208883))then(some (.next ((bad_4++[x_8]),(i64.wrap (i_5+(1:Int))))))else none else
 some (.next (bad_4,(i64.wrap (i_5+(1:Int)))))else
 some (.exit (bad_4,i_5))
def qH (a_t:bv)(out_1:(List bD))(c_2:Int):Sum ((List aw)×Int) ((List bD))->Option (Step ((List bD)×Int) ((List bD)))
 |.inl (bad_4,i_5)=>(DG (4:Int) a_t c_2 bad_4).bind fun r_11=>bif (decide (out_1.length+r_11.length<=1954687338268))then(some (.next ((out_1++r_11),(i64.wrap (c_2+(1:Int))))))else none
 |.inr q=>some (.ret q)
def qX (a_t:bv)(a_l:(List aw)):((List bD)×Int)->Option (Step ((List bD)×Int) ((List bD))):=fun s=>match s with
 |(out_1,c_2)=>bif (decide (c_2<((a_t.checks.length:Nat):Int)))then(ap (nw a_t a_l c_2) fuel ([],(0:Int))).bind (qH a_t out_1 c_2)else
 some (.exit (out_1,c_2))
def wo:Sum ((List bD)×Int) ((List bD))->Option (((List bD)))
 |.inl (out_1,c_2)=>some out_1
 |.inr q=>some q
def qj (a_t:bv)(a_l:(List aw)):Option ((List bD)):=(ap (qX a_t a_l) fuel ([],(0:Int))).bind (wo)
theorem EV {a_t:bv}{a_l:(List aw)}{r:(List bD)}(H:qj a_t a_l=some r):PTz 15 [.agg (bn a_t),.one (.lst (a_l.map aA))] (.val (.one (.lst (r.map bN)))):=by
 unfold qj at H;refine po_ Tryz.func15 Tryz.ntmps15 ?_;refine aX ?_;refine bK 5 6 rfl ?_;refine alM_ (fun s:(List bD)×Int=>match s with|(out_1,c_2)=>[(1,.one (.c (.lst (a_l.map aA)))),(2,.one (.ptr 0 0)),(5,.one (.own (out_1.map bN) 1)),(6,.one (.c (.int .i64 c_2)))]) (fun s=>match s with|(out_1,c_2)=>[.box [.c (.str a_t.nm),.c (.lst (a_t.columns.map ez)),.c (.lst (a_t.key.map (fun x=>[AC.int .i64 x]))),.c (.lst (a_t.foreigns.map fY)),.c (.lst (a_t.checks.map tE))],.spare out_1.length 6]) H (fun _=>amR _)
  (fm_ bH [] rfl a8 bZ) ?_
 rintro⟨out_1,c_2⟩ st3 hb3 hk3;unfold qX at hb3;dsimp only at hb3 ⊢;rcases af hb3 with⟨q_3,hb3⟩|⟨q_3,hb3⟩
 ·refine aX ?_
  refine bK 7 3 rfl ?_;refine alM_ (fun s:(List aw)×Int=>match s with|(bad_4,i_5)=>[(1,.one (.c (.lst (a_l.map aA)))),(2,.one (.ptr 0 0)),(5,.one (.own (out_1.map bN) 1)),(6,.one (.c (.int .i64 c_2))),(7,.one (.own (bad_4.map aA) 2)),(8,.one (.c (.int .i64 i_5)))]) (fun s=>match s with|(bad_4,i_5)=>[.box [.c (.str a_t.nm),.c (.lst (a_t.columns.map ez)),.c (.lst (a_t.key.map (fun x=>[AC.int .i64 x]))),.c (.lst (a_t.foreigns.map fY)),.c (.lst (a_t.checks.map tE))],.spare out_1.length 6,.spare bad_4.length 3]) hb3 (fun _=>amR _)
   (fm_ bH [] rfl a8 bZ) ?_
  rintro⟨bad_4,i_5⟩ st4 hb4 hk4;unfold nw at hb4;dsimp only at hb4 ⊢;rcases af hb4 with⟨q_6,hb4⟩|⟨q_6,hb4⟩
  ·obtain⟨x_7,i1z,i1,i1x,hb4⟩:=aY (f:=tE) hb4
   simp only[amJ,amH,amL,amB,aN]at i1x;obtain⟨x_8,i2z,i2,i2x,hb4⟩:=aY (f:=aA) hb4;obtain⟨r_9,c3,hb4⟩:=bd_ hb4;replace c3:=Fh c3
   try simp only[amJ,amH,amL,amB,aN]at c3
   rcases af hb4 with⟨q_10,hb4⟩|⟨q_10,hb4⟩
   ·obtain⟨g4,hb4⟩:=bo hb4
    cases hb4;refine aX ?_;exact⟨_,rfl,fm_ jb [] nk a8 bZ⟩
   cases hb4;refine aX ?_;exact⟨_,rfl,fm_ jb [] nk a8 bZ⟩
  cases hb4;have hx4:qH a_t out_1 c_2 (.inl (bad_4,i_5))=some _:=hk4;unfold qH at hx4;dsimp only at hx4;obtain⟨r_11,c5,hx4⟩:=bd_ hx4;replace c5:=Ba c5;obtain⟨g6,hx4⟩:=bo hx4
  cases hx4;refine aX ?_;exact⟨_,rfl,fm_ jb [_] nk a8 bZ⟩
 cases hb3;have hx3:wo (.inl (out_1,c_2))=some _:=hk3;unfold wo at hx3;dsimp only at hx3
 cases hx3;exact bV
def iz (a_l:(List (List aw))):(Int)->Option (Step (Int) (Bool)):=fun s=>match s with
 |i_9=>bif (decide (i_9<((a_l.length:Nat):Int)))then(aq a_l i_9).bind fun x_11=>(zZ x_11 (14:Int)).bind fun r_12=>bif (!r_12)then some (.ret false)else
 some (.next (i64.wrap (i_9+(1:Int))))else
 some (.exit i_9)
def iB:Sum (Int) (Bool)->Option ((Bool))
 |.inl i_9=>some true
 |.inr q=>some q
def iH (a_t:(List bv)):(Int)->Option (Step (Int) (Bool)):=fun s=>match s with
 |i_3=>bif (decide (i_3<((a_t.length:Nat):Int)))then(aq a_t i_3).bind fun x_5=>bif (decide ((12:Int)<((x_5.columns.length:Nat):Int)))then some (.ret false)else
 bif (decide ((8:Int)<((x_5.checks.length:Nat):Int)))then some (.ret false)else
 bif (decide ((8:Int)<((x_5.foreigns.length:Nat):Int)))then some (.ret false)else
 some (.next (i64.wrap (i_3+(1:Int))))else
 some (.exit i_3)
def cZ (a_l:(List (List aw))):Sum (Int) (Bool)->Option ((Bool))
 |.inl i_3=>(ap (iz a_l) fuel (0:Int)).bind (iB)
 |.inr q=>some q
def pN (a_t:(List bv))(a_l:(List (List aw))):Option (Bool):=bif (decide ((4:Int)<((a_t.length:Nat):Int)))then some false else
 bif (decide ((4:Int)<((a_l.length:Nat):Int)))then some false else
 (ap (iH a_t) fuel (0:Int)).bind (cZ a_l)
theorem Jp {a_t:(List bv)}{a_l:(List (List aw))}{r:Bool}(H:pN a_t a_l=some r):PTz 8 [.one (.lst (a_t.map bn)),.one (.lst (a_l.map (fun x=>[AC.lst (x.map aA)])))] (.val (.one (.bool r))):=by
 unfold pN at H;refine po_ Tryz.func8 Tryz.ntmps8 ?_;rcases af H with⟨q_1,H⟩|⟨q_1,H⟩
 ·cases H
  exact bV
 rcases af H with⟨q_2,H⟩|⟨q_2,H⟩
 ·cases H
  exact bV
 refine aX ?_;refine alM_ (fun s:Int=>match s with|i_3=>[(0,.one (.c (.lst (a_t.map bn)))),(1,.one (.c (.lst (a_l.map (fun x=>[AC.lst (x.map aA)]))))),(5,.one (.c (.int .i64 i_3)))]) (fun s=>match s with|i_3=>[]) H (fun _=>amR _)
  (fm_ bH [] rfl a8 trivial) ?_
 rintro i_3 st1 hb1 hk1;unfold iH at hb1;dsimp only at hb1 ⊢;rcases af hb1 with⟨q_4,hb1⟩|⟨q_4,hb1⟩
 ·obtain⟨x_5,i1z,i1,i1x,hb1⟩:=aY (f:=bn) hb1
  rcases af hb1 with⟨q_6,hb1⟩|⟨q_6,hb1⟩
  ·cases hb1
   have hx1:cZ a_l (.inr false)=some _:=hk1;unfold cZ at hx1;dsimp only at hx1
   cases hx1;exact bV
  rcases af hb1 with⟨q_7,hb1⟩|⟨q_7,hb1⟩
  ·cases hb1
   have hx1:cZ a_l (.inr false)=some _:=hk1;unfold cZ at hx1;dsimp only at hx1
   cases hx1;exact bV
  rcases af hb1 with⟨q_8,hb1⟩|⟨q_8,hb1⟩
  ·cases hb1
   have hx1:cZ a_l (.inr false)=some _:=hk1;unfold cZ at hx1;dsimp only at hx1
   cases hx1;exact bV
  cases hb1;refine aX ?_;exact⟨_,rfl,fm_ bH [] rfl a8 trivial⟩
 cases hb1;have hx1:cZ a_l (.inl i_3)=some _:=hk1;unfold cZ at hx1;dsimp only at hx1;refine aX ?_;refine alM_ (fun s:Int=>match s with|i_9=>[(1,.one (.c (.lst (a_l.map (fun x=>[AC.lst (x.map aA)]))))),(6,.one (.c (.int .i64 i_9)))]) (fun s=>match s with|i_9=>[]) hx1 (fun _=>amR _)
  (fm_ bH [] rfl a8 trivial) ?_
 rintro i_9 st2 hb2 hk2;unfold iz at hb2;dsimp only at hb2 ⊢;rcases af hb2 with⟨q_10,hb2⟩|⟨q_10,hb2⟩
 ·obtain⟨x_11,i2z,i2,i2x,hb2⟩:=aY (f:=(fun x=>[AC.lst (x.map aA)])) hb2
  obtain⟨r_12,c3,hb2⟩:=bd_ hb2;replace c3:=acf c3;rcases af hb2 with⟨q_13,hb2⟩|⟨q_13,hb2⟩
  ·cases hb2
   have hx2:iB (.inr false)=some _:=hk2;unfold iB at hx2;dsimp only at hx2
   cases hx2;exact bV
  cases hb2;refine aX ?_;exact⟨_,rfl,fm_ bH [] rfl a8 trivial⟩
 cases hb2;have hx2:iB (.inl i_9)=some _:=hk2;unfold iB at hx2;dsimp only at hx2
 cases hx2;exact bV
end
