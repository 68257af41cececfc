/- Parts of the proof, joined. No condition. -/
import Derived.Test.YtfpbmfalamappaaGreatDoorKAA
import Derived.Test.YtfpbmfalamappaaGreatDoorKYA
import Derived.Test.YtfpbmfalamappaaGreatDoorKBD
import Derived.Test.YtfpbmfalamappaaGreatDoorKAI
import Derived.Test.YtfpbmfalamappaaGreatDoorKBE
set_option linter.unusedSimpArgs false
set_option linter.unusedVariables false
namespace Go.Proofs.YtfpbmfalamappaaGreatDoor
open Go.RowKit Go.MapKept
set_option maxRecDepth 100000
set_option maxHeartbeats 8000000
noncomputable section
def gQ (r_1:(List (List Val)) × (List Int)) (r_2:(List (List Val)) × (List Int)) (i_5:Int):(Int)->Option (Step (Int) ((List (List Val)) × (List Int) × (List Int))):=fun s=>match s with
 | k_7=>bif (decide (k_7<((r_2.1.length:Nat):Int))) then (aL r_2.1 k_7).bind fun x_9=>(aL r_1.1 i_5).bind fun x_10=>(CB x_9 x_10).bind fun r_11=>bif (decide (r_11<(0:Int))) then some (.next (IntKind.i64.wrap (k_7+(1:Int)))) else
 some (.exit k_7) else
 some (.exit k_7)
def iO (r_1:(List (List Val)) × (List Int)) (r_2:(List (List Val)) × (List Int)) (more_3:(List Int)) (i_5:Int):Sum (Int) ((List (List Val)) × (List Int) × (List Int))->Option (Step ((List Int) × Int × Int) ((List (List Val)) × (List Int) × (List Int)))
 | .inl k_7=>bif (decide (k_7<((r_2.1.length:Nat):Int))) then (aL r_2.1 k_7).bind fun x_14=>(aL r_1.1 i_5).bind fun x_15=>(gU x_14 x_15).bind fun r_16=>bif r_16 then (aL r_2.2 k_7).bind fun x_18=>bif (decide (more_3.length+1<=17592186044416)) then (some (.next ((more_3++[x_18]),k_7,(IntKind.i64.wrap (i_5+(1:Int)))))) else none else
 bif (decide (more_3.length+1<=17592186044416)) then (some (.next ((more_3++[(0:Int)]),k_7,(IntKind.i64.wrap (i_5+(1:Int)))))) else none else
 bif (decide (more_3.length+1<=17592186044416)) then (some (.next ((more_3++[(0:Int)]),k_7,(IntKind.i64.wrap (i_5+(1:Int)))))) else none
 | .inr q=>some (.ret q)
def gV (r_1:(List (List Val)) × (List Int)) (r_2:(List (List Val)) × (List Int)):((List Int) × Int × Int)->Option (Step ((List Int) × Int × Int) ((List (List Val)) × (List Int) × (List Int))):=fun s=>match s with
 | (more_3,k_4,i_5)=>bif (decide (i_5<((r_1.1.length:Nat):Int))) then (ax (gQ r_1 r_2 i_5) fuel k_4).bind (iO r_1 r_2 more_3 i_5) else
 some (.exit (more_3,k_4,i_5))
def nk (r_1:(List (List Val)) × (List Int)):Sum ((List Int) × Int × Int) ((List (List Val)) × (List Int) × (List Int))->Option (((List (List Val)) × (List Int) × (List Int)))
 | .inl (more_3,k_4,i_5)=>some (r_1.1,r_1.2,more_3)
 | .inr q=>some q
def nC (a_a:(List (List Val))) (a_b:(List (List Val))):Option ((List (List Val)) × (List Int) × (List Int)):=(lu a_a).bind fun r_1=>(lu a_b).bind fun r_2=>(ax (gV r_1 r_2) fuel ([],(0:Int),(0:Int))).bind (nk r_1)
theorem zH {a_a:(List (List Val))} {a_b:(List (List Val))} {r:(List (List Val)) × (List Int) × (List Int)} (H:nC a_a a_b=some r):Pure Tryz.prog 65 [.one (.lst (a_a.map (fun x=>[AC.lst (x.map cV)]))), .one (.lst (a_b.map (fun x=>[AC.lst (x.map cV)])))] (.tup [.one (.lst (r.1.map (fun x=>[AC.lst (x.map cV)]))), .one (.lst (r.2.1.map (fun x=>[AC.int .i64 x]))), .one (.lst (r.2.2.map (fun x=>[AC.int .i64 x])))]):=by
 unfold nC at H
 refine po_ Tryz.func65 Tryz.ntmps65 ?_
 obtain ⟨r_1,c1,H⟩:=bd_ H
 replace c1:=xV c1
 obtain ⟨r_2,c2,H⟩:=bd_ H
 replace c2:=xV c2
 refine bC ?_
 refine dh 11 1 rfl ?_
 refine alM_ (fun s:(List Int) × Int × Int=>match s with|(more_3,k_4,i_5)=>[(7, .one (.c (.lst (r_1.1.map (fun x=>[AC.lst (x.map cV)]))))),(8, .one (.c (.lst (r_1.2.map (fun x=>[AC.int .i64 x]))))),(9, .one (.c (.lst (r_2.1.map (fun x=>[AC.lst (x.map cV)]))))),(10, .one (.c (.lst (r_2.2.map (fun x=>[AC.int .i64 x]))))),(11, .one (.own (more_3.map (fun x=>[AC.int .i64 x])) 0)),(12, .one (.c (.int .i64 k_4))),(13, .one (.c (.int .i64 i_5)))]) (fun s=>match s with|(more_3,k_4,i_5)=>[.spare more_3.length 1]) H (fun _=>abv _)
  (fm_ bV [] rfl bE dw) ?_
 rintro ⟨more_3,k_4,i_5⟩ st3 hb3 hk3
 unfold gV at hb3
 dsimp only at hb3 ⊢
 rcases cnd_ hb3 with ⟨q_6,hb3⟩|⟨q_6,hb3⟩
 ·refine bC ?_
  refine alM_ (fun s:Int=>match s with|k_7=>[(7, .one (.c (.lst (r_1.1.map (fun x=>[AC.lst (x.map cV)]))))),(8, .one (.c (.lst (r_1.2.map (fun x=>[AC.int .i64 x]))))),(9, .one (.c (.lst (r_2.1.map (fun x=>[AC.lst (x.map cV)]))))),(10, .one (.c (.lst (r_2.2.map (fun x=>[AC.int .i64 x]))))),(11, .one (.own (more_3.map (fun x=>[AC.int .i64 x])) 0)),(12, .one (.c (.int .i64 k_7))),(13, .one (.c (.int .i64 i_5)))]) (fun s=>match s with|k_7=>[.spare more_3.length 1]) hb3 (fun _=>abv _)
   (fm_ bV [] rfl bE dw) ?_
  rintro k_7 st4 hb4 hk4
  unfold gQ at hb4
  dsimp only at hb4 ⊢
  rcases cnd_ hb4 with ⟨q_8,hb4⟩|⟨q_8,hb4⟩
  ·obtain ⟨x_9,i3z,i3,i3x,hb4⟩:=aX (f:=(fun x=>[AC.lst (x.map cV)])) hb4
   obtain ⟨x_10,i4z,i4,i4x,hb4⟩:=aX (f:=(fun x=>[AC.lst (x.map cV)])) hb4
   obtain ⟨r_11,c5,hb4⟩:=bd_ hb4
   replace c5:=Az c5
   rcases cnd_ hb4 with ⟨q_12,hb4⟩|⟨q_12,hb4⟩
   ·cases hb4
    refine bC ?_
    exact ⟨_,rfl,fm_ bV [] rfl bE dw⟩
   cases hb4
   have hx4:iO r_1 r_2 more_3 i_5 (.inl k_7)=some _:=hk4
   unfold iO at hx4
   dsimp only at hx4
   rcases cnd_ hx4 with ⟨q_13,hx4⟩|⟨q_13,hx4⟩
   ·obtain ⟨x_14,i6z,i6,i6x,hx4⟩:=aX (f:=(fun x=>[AC.lst (x.map cV)])) hx4
    cases abH (i3.symm.trans i6)
    obtain ⟨x_15,i7z,i7,i7x,hx4⟩:=aX (f:=(fun x=>[AC.lst (x.map cV)])) hx4
    cases abH (i4.symm.trans i7)
    obtain ⟨r_16,c8,hx4⟩:=bd_ hx4
    replace c8:=oN c8
    rcases cnd_ hx4 with ⟨q_17,hx4⟩|⟨q_17,hx4⟩
    ·obtain ⟨x_18,i9z,i9,i9x,hx4⟩:=aX (f:=(fun x=>[AC.int .i64 x])) hx4
     obtain ⟨g10,hx4⟩:=aK hx4
     cases hx4
     refine bC ?_
     exact ⟨_,rfl,fm_ o8 [] kJ bE dw⟩
    obtain ⟨g11,hx4⟩:=aK hx4
    cases hx4
    refine bC ?_
    exact ⟨_,rfl,fm_ o8 [] kJ bE dw⟩
   exact nomatch q_8.symm.trans q_13
  cases hb4
  have hx4:iO r_1 r_2 more_3 i_5 (.inl k_7)=some _:=hk4
  unfold iO at hx4
  dsimp only at hx4
  rcases cnd_ hx4 with ⟨q_13,hx4⟩|⟨q_13,hx4⟩
  ·exact nomatch q_8.symm.trans q_13
  obtain ⟨g12,hx4⟩:=aK hx4
  cases hx4
  refine bC ?_
  exact ⟨_,rfl,fm_ o8 [] kJ bE dw⟩
 cases hb3
 have hx3:nk r_1 (.inl (more_3,k_4,i_5))=some _:=hk3
 unfold nk at hx3
 dsimp only at hx3
 cases hx3
 exact go_
def ng (r_1:(List (List Val)) × (List Int) × (List Int)):((List (List Val)) × Int)->Option (Step ((List (List Val)) × Int) (Bag)):=fun s=>match s with
 | (c_2,i_3)=>bif (decide (i_3<((r_1.1.length:Nat):Int))) then (aL r_1.1 i_3).bind fun x_5=>(aL r_1.2.1 i_3).bind fun x_6=>(aL r_1.2.2 i_3).bind fun x_7=>(nE c_2 x_5 (IntKind.i64.wrap (x_6-x_7))).bind fun r_8=>some (.next (r_8,(IntKind.i64.wrap (i_3+(1:Int))))) else
 some (.exit (c_2,i_3))
def sD (a_a:Bag):Sum ((List (List Val)) × Int) (Bag)->Option ((Bag))
 | .inl (c_2,i_3)=>some (⟨a_a.kinds,c_2⟩:Bag)
 | .inr q=>some q
def rE (a_a:Bag) (a_b:Bag):Option (Bag):=(nC a_a.rows a_b.rows).bind fun r_1=>(ax (ng r_1) fuel ([],(0:Int))).bind (sD a_a)
theorem CY {p q:Prop} (k:q) (h:Bx q->p:=by
 intro hq
 repeat' (first|refine Z9 4 rfl rfl rfl rfl rfl ?_|refine p_ rfl rfl rfl rfl rfl ?_|refine st_nil ?_|refine x_ rfl rfl rfl rfl rfl rfl rfl rfl ?_|refine l_ rfl rfl rfl rfl ?_|refine s_ rfl rfl rfl ?_|refine t_ rfl rfl rfl rfl ?_|refine k_ rfl rfl rfl ?_|refine k0_ rfl rfl ?_|refine c_ rfl rfl rfl rfl ?_|refine pick_t rfl rfl rfl rfl rfl rfl rfl ?_|refine pick_f rfl rfl rfl rfl rfl rfl rfl ?_|refine aw_seq ?_|refine aw_region rH _ rfl ?_|refine aw_drawn2 xe _ rfl mixed (by decide +kernel) ?_|refine aw_condT rfl ?_|refine aw_condF rfl ?_|refine aw_block ?_|refine aw_exit ?_|refine aw_ret ?_|refine aw_skip ?_|rw [abl]|rw [mn_norm]|rw [mx_norm])
 exact hq.out):p:=h ⟨k⟩
theorem Li {p:Prop} (h:p:=by
 repeat' (first|refine Z9 4 rfl rfl rfl rfl rfl ?_|refine p_ rfl rfl rfl rfl rfl ?_|refine st_nil ?_|refine x_ rfl rfl rfl rfl rfl rfl rfl rfl ?_|refine l_ rfl rfl rfl rfl ?_|refine s_ rfl rfl rfl ?_|refine t_ rfl rfl rfl rfl ?_|refine k_ rfl rfl rfl ?_|refine k0_ rfl rfl ?_|refine c_ rfl rfl rfl rfl ?_|refine pick_t rfl rfl rfl rfl rfl rfl rfl ?_|refine pick_f rfl rfl rfl rfl rfl rfl rfl ?_|refine aw_seq ?_|refine aw_region rH _ rfl ?_|refine aw_drawn2 xe _ rfl mixed (by decide +kernel) ?_|refine aw_condT rfl ?_|refine aw_condF rfl ?_|refine aw_block ?_|refine aw_exit ?_|refine aw_ret ?_|refine aw_skip ?_|rw [abl]|rw [mn_norm]|rw [mx_norm])
 refine aO (aR rfl ?_ ?_)
 ·repeat' (first|exact trivial|rfl|exact abj rfl|omega|apply And.intro)
 ·first|rfl|(simp only [abm,abk,abo,abd]<;>rfl)):p:=h
theorem Lb {a_a:Bag} {a_b:Bag} {r:Bag} (H:rE a_a a_b=some r):Pure Tryz.prog 26 [.agg (cBag a_a), .agg (cBag a_b)] (.val (.agg (cBag r))):=by
 unfold rE at H
 refine pa_ rH Tryz.func26 rfl rfl Tryz.ntmps26 (by simp) ?_
 simp only [argT,PV.av,abk,abo]
 obtain ⟨r_1,c1,H⟩:=bd_ H
 replace c1:=zH c1
 refine CY ?_
 refine nI 3 1 1 rfl rfl ?_
 refine alM_ (fun s:(List (List Val)) × Int=>match s with|(c_2,i_3)=>[(4, .one (.ptr 2 0)),(5, .one (.ptr 3 0)),(6, .one (.c (.lst (r_1.1.map (fun x=>[AC.lst (x.map cV)]))))),(7, .one (.c (.lst (r_1.2.1.map (fun x=>[AC.int .i64 x]))))),(8, .one (.c (.lst (r_1.2.2.map (fun x=>[AC.int .i64 x]))))),(9, .one (.c (.int .i64 i_3)))]) (fun s=>match s with|(c_2,i_3)=>[.box [.c (.lst (a_a.kinds.map (fun x=>[AC.int .i64 x]))), .c (.lst (a_a.rows.map (fun x=>[AC.lst (x.map cV)])))], .box [.c (.lst (a_b.kinds.map (fun x=>[AC.int .i64 x]))), .c (.lst (a_b.rows.map (fun x=>[AC.lst (x.map cV)])))], .box [.emp, .emp], .box [.c (.lst (a_a.kinds.map (fun x=>[AC.int .i64 x]))), .own (c_2.map (fun x=>[AC.lst (x.map cV)])) 4], .spare c_2.length 1]) H (fun _=>abv _)
  (fm_ bV [] rfl bE dw) ?_
 rintro ⟨c_2,i_3⟩ st1 hb1 hk1
 unfold ng at hb1
 dsimp only at hb1 ⊢
 rcases cnd_ hb1 with ⟨q_4,hb1⟩|⟨q_4,hb1⟩
 ·obtain ⟨x_5,i2z,i2,i2x,hb1⟩:=aX (f:=(fun x=>[AC.lst (x.map cV)])) hb1
  obtain ⟨x_6,i3z,i3,i3x,hb1⟩:=aX (f:=(fun x=>[AC.int .i64 x])) hb1
  obtain ⟨x_7,i4z,i4,i4x,hb1⟩:=aX (f:=(fun x=>[AC.int .i64 x])) hb1
  obtain ⟨r_8,c5,hb1⟩:=bd_ hb1
  replace c5:=zX c5
  cases hb1
  refine CY ?_
  exact ⟨_,rfl,fm_ bV [] kJ bE dw⟩
 cases hb1
 have hx1:sD a_a (.inl (c_2,i_3))=some _:=hk1
 unfold sD at hx1
 dsimp only at hx1
 cases hx1
 exact Li
def pO (r_1:(List (List Val)) × (List Int) × (List Int)):((List (List Val)) × Int)->Option (Step ((List (List Val)) × Int) (Bag)):=fun s=>match s with
 | (c_2,i_3)=>bif (decide (i_3<((r_1.1.length:Nat):Int))) then (aL r_1.1 i_3).bind fun x_5=>(aL r_1.2.1 i_3).bind fun x_6=>(aL r_1.2.2 i_3).bind fun x_7=>(nE c_2 x_5 (WV x_6 x_7)).bind fun r_8=>some (.next (r_8,(IntKind.i64.wrap (i_3+(1:Int))))) else
 some (.exit (c_2,i_3))
def vM (a_a:Bag):Sum ((List (List Val)) × Int) (Bag)->Option ((Bag))
 | .inl (c_2,i_3)=>some (⟨a_a.kinds,c_2⟩:Bag)
 | .inr q=>some q
def vo (a_a:Bag) (a_b:Bag):Option (Bag):=(nC a_a.rows a_b.rows).bind fun r_1=>(ax (pO r_1) fuel ([],(0:Int))).bind (vM a_a)
theorem FQ {p q:Prop} (k:q) (h:Bx q->p:=by
 intro hq
 repeat' (first|refine Z9 4 rfl rfl rfl rfl rfl ?_|refine p_ rfl rfl rfl rfl rfl ?_|refine st_nil ?_|refine x_ rfl rfl rfl rfl rfl rfl rfl rfl ?_|refine l_ rfl rfl rfl rfl ?_|refine s_ rfl rfl rfl ?_|refine t_ rfl rfl rfl rfl ?_|refine k_ rfl rfl rfl ?_|refine k0_ rfl rfl ?_|refine c_ rfl rfl rfl rfl ?_|refine pick_t rfl rfl rfl rfl rfl rfl rfl ?_|refine pick_f rfl rfl rfl rfl rfl rfl rfl ?_|refine aw_seq ?_|refine aw_region rH _ rfl ?_|refine aw_drawn2 xe _ rfl mixed (by decide +kernel) ?_|refine aw_condT rfl ?_|refine aw_condF rfl ?_|refine aw_block ?_|refine aw_exit ?_|refine aw_ret ?_|refine aw_skip ?_|rw [abl]|rw [mn_norm]|rw [mx_norm])
 exact hq.out):p:=h ⟨k⟩
theorem NW {p:Prop} (h:p:=by
 repeat' (first|refine Z9 4 rfl rfl rfl rfl rfl ?_|refine p_ rfl rfl rfl rfl rfl ?_|refine st_nil ?_|refine x_ rfl rfl rfl rfl rfl rfl rfl rfl ?_|refine l_ rfl rfl rfl rfl ?_|refine s_ rfl rfl rfl ?_|refine t_ rfl rfl rfl rfl ?_|refine k_ rfl rfl rfl ?_|refine k0_ rfl rfl ?_|refine c_ rfl rfl rfl rfl ?_|refine pick_t rfl rfl rfl rfl rfl rfl rfl ?_|refine pick_f rfl rfl rfl rfl rfl rfl rfl ?_|refine aw_seq ?_|refine aw_region rH _ rfl ?_|refine aw_drawn2 xe _ rfl mixed (by decide +kernel) ?_|refine aw_condT rfl ?_|refine aw_condF rfl ?_|refine aw_block ?_|refine aw_exit ?_|refine aw_ret ?_|refine aw_skip ?_|rw [abl]|rw [mn_norm]|rw [mx_norm])
 refine aO (aR rfl ?_ ?_)
 ·repeat' (first|exact trivial|rfl|exact abj rfl|omega|apply And.intro)
 ·first|rfl|(simp only [abm,abk,abo,abd]<;>rfl)):p:=h
theorem Ma {a_a:Bag} {a_b:Bag} {r:Bag} (H:vo a_a a_b=some r):Pure Tryz.prog 28 [.agg (cBag a_a), .agg (cBag a_b)] (.val (.agg (cBag r))):=by
 unfold vo at H
 refine pa_ rH Tryz.func28 rfl rfl Tryz.ntmps28 (by simp) ?_
 simp only [argT,PV.av,abk,abo]
 obtain ⟨r_1,c1,H⟩:=bd_ H
 replace c1:=zH c1
 refine FQ ?_
 refine nI 3 1 1 rfl rfl ?_
 refine alM_ (fun s:(List (List Val)) × Int=>match s with|(c_2,i_3)=>[(4, .one (.ptr 2 0)),(5, .one (.ptr 3 0)),(6, .one (.c (.lst (r_1.1.map (fun x=>[AC.lst (x.map cV)]))))),(7, .one (.c (.lst (r_1.2.1.map (fun x=>[AC.int .i64 x]))))),(8, .one (.c (.lst (r_1.2.2.map (fun x=>[AC.int .i64 x]))))),(9, .one (.c (.int .i64 i_3)))]) (fun s=>match s with|(c_2,i_3)=>[.box [.c (.lst (a_a.kinds.map (fun x=>[AC.int .i64 x]))), .c (.lst (a_a.rows.map (fun x=>[AC.lst (x.map cV)])))], .box [.c (.lst (a_b.kinds.map (fun x=>[AC.int .i64 x]))), .c (.lst (a_b.rows.map (fun x=>[AC.lst (x.map cV)])))], .box [.emp, .emp], .box [.c (.lst (a_a.kinds.map (fun x=>[AC.int .i64 x]))), .own (c_2.map (fun x=>[AC.lst (x.map cV)])) 4], .spare c_2.length 1]) H (fun _=>abv _)
  (fm_ bV [] rfl bE dw) ?_
 rintro ⟨c_2,i_3⟩ st1 hb1 hk1
 unfold pO at hb1
 dsimp only at hb1 ⊢
 rcases cnd_ hb1 with ⟨q_4,hb1⟩|⟨q_4,hb1⟩
 ·obtain ⟨x_5,i2z,i2,i2x,hb1⟩:=aX (f:=(fun x=>[AC.lst (x.map cV)])) hb1
  obtain ⟨x_6,i3z,i3,i3x,hb1⟩:=aX (f:=(fun x=>[AC.int .i64 x])) hb1
  obtain ⟨x_7,i4z,i4,i4x,hb1⟩:=aX (f:=(fun x=>[AC.int .i64 x])) hb1
  obtain ⟨r_8,c5,hb1⟩:=bd_ hb1
  replace c5:=zX c5
  cases hb1
  refine FQ ?_
  exact ⟨_,rfl,fm_ bV [] kJ bE dw⟩
 cases hb1
 have hx1:vM a_a (.inl (c_2,i_3))=some _:=hk1
 unfold vM at hx1
 dsimp only at hx1
 cases hx1
 exact NW
end
set_option maxHeartbeats 8000000
noncomputable section
def A_ (a_a:Bag) (a_b:Bag):Option (Bool):=(gFew21 a_a (40:Int)).bind fun r_1=>bif (!r_1) then some (true) else
 (gFew21 a_b (40:Int)).bind fun r_4=>bif (!r_4) then some (true) else
 (gN a_a.kinds a_b.kinds).bind fun r_7=>bif (!r_7) then some (true) else
 (mV a_a a_b).bind fun r_10=>(wC a_a a_b).bind fun r_11=>(gExactly r_10 r_11).bind fun r_12=>bif r_12 then (qX a_a a_b).bind fun r_14=>(rE a_a a_b).bind fun r_15=>(gExactly r_14 r_15).bind fun r_16=>bif r_16 then (wU a_a a_b).bind fun r_18=>(vo a_a a_b).bind fun r_19=>(gExactly r_18 r_19).bind fun r_20=>bif r_20 then (uj a_a a_b).bind fun r_22=>(Ar a_a a_b).bind fun r_23=>bif (r_22==r_23) then (mV a_a (⟨a_a.kinds,[]⟩:Bag)).bind fun r_25=>(uj a_a r_25).bind fun r_26=>bif r_26 then some (true) else
 some false else
 some false else
 some false else
 some false else
 some false
theorem LM {a_a:Bag} {a_b:Bag} {r:Bool} (H:A_ a_a a_b=some r):Pure Tryz.prog 6 [.agg (cBag a_a), .agg (cBag a_b)] (.val (.one (.bool r))):=by
 unfold A_ at H
 refine po_ Tryz.func6 Tryz.ntmps6 ?_
 obtain ⟨r_1,c1,H⟩:=bd_ H
 replace c1:=gFew21_ok c1
 rcases cnd_ H with ⟨q_2,H⟩|⟨q_2,H⟩
 ·have hc_3:=awake_pure
  try simp only [abm,abk,abo,abd,tE_eq,tP_eq] at hc_3
  cases H
  exact go_
 obtain ⟨r_4,c2,H⟩:=bd_ H
 replace c2:=gFew21_ok c2
 rcases cnd_ H with ⟨q_5,H⟩|⟨q_5,H⟩
 ·have hc_6:=awake_pure
  try simp only [abm,abk,abo,abd,tE_eq,tP_eq] at hc_6
  cases H
  exact go_
 obtain ⟨r_7,c3,H⟩:=bd_ H
 replace c3:=qw c3
 rcases cnd_ H with ⟨q_8,H⟩|⟨q_8,H⟩
 ·have hc_9:=awake_pure
  try simp only [abm,abk,abo,abd,tE_eq,tP_eq] at hc_9
  cases H
  exact go_
 obtain ⟨r_10,c4,H⟩:=bd_ H
 replace c4:=nU c4
 obtain ⟨r_11,c5,H⟩:=bd_ H
 replace c5:=Mk c5
 obtain ⟨r_12,c6,H⟩:=bd_ H
 replace c6:=gExactly_ok c6
 rcases cnd_ H with ⟨q_13,H⟩|⟨q_13,H⟩
 ·obtain ⟨r_14,c7,H⟩:=bd_ H
  replace c7:=Di c7
  obtain ⟨r_15,c8,H⟩:=bd_ H
  replace c8:=Lb c8
  obtain ⟨r_16,c9,H⟩:=bd_ H
  replace c9:=gExactly_ok c9
  rcases cnd_ H with ⟨q_17,H⟩|⟨q_17,H⟩
  ·obtain ⟨r_18,c10,H⟩:=bd_ H
   replace c10:=F9 c10
   obtain ⟨r_19,c11,H⟩:=bd_ H
   replace c11:=Ma c11
   obtain ⟨r_20,c12,H⟩:=bd_ H
   replace c12:=gExactly_ok c12
   rcases cnd_ H with ⟨q_21,H⟩|⟨q_21,H⟩
   ·obtain ⟨r_22,c13,H⟩:=bd_ H
    replace c13:=qE c13
    obtain ⟨r_23,c14,H⟩:=bd_ H
    replace c14:=Om c14
    rcases cnd_ H with ⟨q_24,H⟩|⟨q_24,H⟩
    ·obtain ⟨r_25,c15,H⟩:=bd_ H
     replace c15:=nU c15
     try simp only [abm,abk,abo,abd,tE_eq,tP_eq] at c15
     obtain ⟨r_26,c16,H⟩:=bd_ H
     replace c16:=qE c16
     rcases cnd_ H with ⟨q_27,H⟩|⟨q_27,H⟩
     ·have hc_28:=awake_pure
      try simp only [abm,abk,abo,abd,tE_eq,tP_eq] at hc_28
      cases H
      exact go_
     cases H
     exact go_
    cases H
    exact go_
   cases H
   exact go_
  cases H
  exact go_
 cases H
 exact go_
end
def om (l:List Nat):List Int:=l.map fun (n:Nat)=>(n:Int)
theorem vG {l:List Nat} {i n:Nat} (h:l[i]?=some n):(om l)[i]?=some ((n:Nat):Int):=by unfold om;rw [abx,h];rfl
theorem xU {l:List (List Val)} (h:RK l):lu l=some (cK none (aI l),om (kK (aI l))):=by
 unfold lu
 rw [abb h.len,abW.2 fun r hr=>abb (h.big r hr)];rfl
theorem yb {α:Type} (p:α->Bool) : ∀ l:List α,l.dropWhile p=l.drop (l.takeWhile p).length
 | []=>rfl
 | x::l=>by
  by_cases hx:p x=true
  ·rw [List.dropWhile_cons_of_pos hx,List.takeWhile_cons_of_pos hx,abw,List.drop_succ_cons];exact yb p l
  ·rw [List.dropWhile_cons_of_neg hx,List.takeWhile_cons_of_neg hx];rfl
theorem Aj {R O:List (List Val)} {m1 m2:List Int} {i:Nat} {r:List Val} (hri:R[i]?=some r) (hr:r.length<=1000000) (hO : ∀ x∈O,x.length<=1000000) (hOl:O.length<=1000) : ∀ (n k:Nat),k<=O.length->O.length-k<n ->
  ax (gQ (R,m1) (O,m2) (i:Int)) n (k:Int)=some (.inl ((k+((O.drop k).takeWhile fun x=>decide (bD x r<0)).length:Nat):Int))
 | 0,k,_,h=>by omega
 | n+1,k,hk,hn=>by
  rw [ax]
  by_cases hlt:k<O.length
  ·obtain ⟨x,hx⟩:=gol_ hlt
   have ex:=(aa9.1 hx).2
   have hb:gQ (R,m1) (O,m2) (i:Int) (k:Int)=bif decide (bD x r<0) then some (.next ((k+1:Nat):Int)) else some (.exit (k:Int)):=by
    unfold gQ
    dsimp only
    rw [aY hx,aa',gn_ hx,aa8,gn_ hri,aa8,qI x r (by have:=hO x (abe hx);omega) (by omega),aa8,wrapN (by omega)]
   rw [hb,abG hlt,ex]
   by_cases hc:bD x r<0
   ·rw [abb hc,List.takeWhile_cons_of_pos (p:=fun x=>decide (bD x r<0)) (a:=x) (by simpa using hc),abw]
    show ax _ n _=_
    rw [Aj hri hr hO hOl n (k+1) (by omega) (by omega)]
    congr 3;omega
   ·rw [aba hc,List.takeWhile_cons_of_neg (p:=fun x=>decide (bD x r<0)) (a:=x) (by simpa using hc)]
    rfl
  ·have:k=O.length:=by omega
   subst this
   have hb:gQ (R,m1) (O,m2) (i:Int) ((O.length:Nat):Int)=some (.exit ((O.length:Nat):Int)):=by
    unfold gQ
    dsimp only
    rw [lF_,aa_]
   rw [hb,ab1]
   rfl
theorem zY {R O:List (List Val)} {m1:List Int} {M:List Nat} (hM:M.length=O.length) (hR : ∀ x∈R,x.length<=1000000) (hO : ∀ x∈O,x.length<=1000000) (hOl:O.length<=1000) (hRl:R.length<=1000) : ∀ (n i k:Nat) (s:List Nat),s.length=i->i<=R.length->k<=O.length->R.length-i<n ->
  (ax (gV (R,m1) (O,om M)) n (om s,(k:Int),(i:Int))).bind (nk (R,m1))=some (R,m1,om (s++Jj (R.drop i) ((O.zip M).drop k)))
 | 0,i,k,s,_,_,_,h=>by omega
 | n+1,i,k,s,hs,hi,hk,hn=>by
  rw [ax]
  by_cases hlt:i<R.length
  ·obtain ⟨r,hx⟩:=gol_ hlt
   have ex:=(aa9.1 hx).2
   have hzl:(O.zip M).length=O.length:=by rw [List.length_zip];omega
   have hmap : ∀ k,((O.zip M).drop k).map (·.1)=O.drop k:=fun k=>by
    rw [List.map_drop];congr 1
    exact List.map_fst_zip (by omega)
   have htw : ∀ (l:List (List Val × Nat)),(l.takeWhile fun p=>decide (bD p.1 r<0)).length=((l.map (·.1)).takeWhile fun x=>decide (bD x r<0)).length:=fun l=>by
    induction l with
    | nil=>rfl
    | cons y l ih =>
     rw [abk]
     by_cases h:bD y.1 r<0
     ·rw [List.takeWhile_cons_of_pos (p:=fun p:List Val × Nat=>decide (bD p.1 r<0)) (a:=y) (by simpa using h),List.takeWhile_cons_of_pos (p:=fun x=>decide (bD x r<0)) (a:=y.1) (by simpa using h),abw,abw,ih]
     ·rw [List.takeWhile_cons_of_neg (p:=fun p:List Val × Nat=>decide (bD p.1 r<0)) (a:=y) (by simpa using h),List.takeWhile_cons_of_neg (p:=fun x=>decide (bD x r<0)) (a:=y.1) (by simpa using h)];rfl
   rw [abG hlt,ex]
   unfold Jj
   rw [yb,htw,hmap k,List.drop_drop]
   have hin:=Aj (m1:=m1) (m2:=om M) hx (hR r (abe hx)) hO hOl fuel k hk (by unfold fuel;omega)
   have hkl:k+((O.drop k).takeWhile fun x=>decide (bD x r<0)).length<=O.length:=by
    have:=(List.takeWhile_sublist (l:=O.drop k) fun x=>decide (bD x r<0)).length_le
    rw [List.length_drop] at this;omega
   generalize k+((O.drop k).takeWhile fun x=>decide (bD x r<0)).length=k2 at hin hkl
   have hsl:(om s).length=i:=by unfold om;rw [abl];exact hs
   have hb:gV (R,m1) (O,om M) (om s,(k:Int),(i:Int))=some (.next (om (s++[match (O.zip M).drop k2 with|p::_=>if p.1=r then p.2 else 0|[]=>0]),((k2:Nat):Int),((i+1:Nat):Int))):=by
    unfold gV
    dsimp only
    rw [aY hx,aa',hin,aa8]
    unfold iO
    dsimp only
    rw [wrapN (by omega),hsl,abb (show i+1<=17592186044416 by omega)]
    by_cases h2:k2<O.length
    ·obtain ⟨x,hx2⟩:=gol_ h2
     obtain ⟨c,hc⟩:=gol_ (l:=M) (i:=k2) (by omega)
     have hz:(O.zip M)[k2]?=some (x,c):=by rw [List.getElem?_zip_eq_some];exact ⟨hx2,hc⟩
     have ez:=(aa9.1 hz).2
     rw [aY hx2,aa',gn_ hx2,aa8,gn_ hx,aa8,pI x r (hO x (abe hx2)) (hR r (abe hx)),aa8,gn_ (vG hc),aa8,abG (show k2<(O.zip M).length by omega),ez]
     by_cases he:x=r
     ·subst he
      simp [om]
     ·rw [aba he]
      simp [om,he]
    ·have:k2=O.length:=by omega
     subst this
     rw [lF_,List.drop_eq_nil_of_le (by omega)]
     simp [om]
   rw [hb]
   show (ax _ n _).bind _=_
   rw [zY hM hR hO hOl hRl n (i+1) k2 _ (by rw [abg,hs];rfl) (by omega) hkl (by omega),abB]
   rfl
  ·have:i=R.length:=by omega
   subst this
   have hb:gV (R,m1) (O,om M) (om s,(k:Int),((R.length:Nat):Int))=some (.exit (om s,(k:Int),((R.length:Nat):Int))):=by
    unfold gV
    dsimp only
    rw [lF_,aa_]
   rw [hb,ab1]
   show some (R,m1,om s)=_
   unfold Jj
   rw [abJ]
theorem Bq {l:List (List Val)} (h:RK l):RK (cK none (aI l)):=h.of (by have:=pR (aI l) none;have:=h.sort.len;omega) fun r hr=>(FW l r).1 hr
theorem Iu (l:List (List Val)):kK (aI l)=(cK none (aI l)).map fun r=>l.count r:=by
 unfold kK
 exact List.map_congr_left fun r _=>fw l r
theorem AU {a b:List (List Val)} (ha:RK a) (hb:RK b):nC a b=some (cK none (aI a),om ((cK none (aI a)).map fun r=>a.count r),om ((cK none (aI a)).map fun r=>b.count r)):=by
 have h1:=(Bq ha).len;have h2:=(Bq hb).len
 have hcl:(kK (aI b)).length=(cK none (aI b)).length:=abl _
 unfold nC
 rw [xU ha,aa8,xU hb,aa8]
 have:=zY (m1:=om (kK (aI a))) hcl (Bq ha).big (Bq hb).big (by omega) (by omega) fuel 0 0 [] rfl (abv _) (abv _) (by unfold fuel;omega)
 rw [show (om [],((0:Nat):Int),((0:Nat):Int))=(([],(0:Int),(0:Int)):List Int × Int × Int) from rfl] at this
 rw [this,abd,List.drop_zero,List.drop_zero,Iu a]
 have hz1:((cK none (aI b)).zip (kK (aI b))).map (·.1)=cK none (aI b):=List.map_fst_zip (by omega)
 rw [NI (fun r=>b.count r) _ _ (oI a) (by rw [hz1];exact oI b) (fun p hp=>?_),hz1]
 ·congr 4
  refine List.map_congr_left fun r _=>?_
  split
  ·rfl
  ·rename_i h
   rw [FW] at h
   exact (List.count_eq_zero.2 h).symm
 ·obtain ⟨i,hi⟩:=List.mem_iff_getElem?.1 hp
  rw [List.getElem?_zip_eq_some] at hi
  obtain ⟨h3,h4⟩:=hi
  rw [Iu,abx,h3] at h4
  exact (abH h4).symm
theorem zJ {l:List (List Val)} {row:List Val} {n:Int} (h:l.length+n.toNat<=1000000):nE l row n=some (l++List.replicate n.toNat row):=by
 unfold nE
 rw [abb h];rfl
theorem QM {a:List (List Val)} (ha:RK a) {n:List Val->Nat} {x:List (List Val)} (h:aI x=tY n (cK none (aI a))) (hx:RK x):RK (tY n (cK none (aI a))):=by rw [<- h];exact hx.sort
theorem J_ {a b:Bag} (ha:RK a.rows) (hb:RK b.rows):rE a b=some ⟨a.kinds,aI (iy (fun r=>b.rows.count r) a.rows).2⟩:=by
 have hR:=(Bq ha).len
 have hrk:=QM ha (F8 a.rows b.rows) (ha.split _).2
 have hrl:=hrk.len
 have hal:=ha.len;have hbl:=hb.len
 unfold rE
 rw [AU ha hb,aa8,eu (l:=cK none (aI a.rows)) (fun r=>List.replicate (a.rows.count r-b.rows.count r) r) 1000000 ?_ ?_ (by unfold fuel;omega) [] (by simp only [tY] at hrl;simp only [abF];omega)]
 ·rw [aa8,abd,F8];rfl
 ·intro s i x hx hs
  have hi:=(aa9.1 hx).1
  have h1:((cK none (aI a.rows)).map fun r=>a.rows.count r)[i]?=some (a.rows.count x):=by rw [abx,hx];rfl
  have h2:((cK none (aI a.rows)).map fun r=>b.rows.count r)[i]?=some (b.rows.count x):=by rw [abx,hx];rfl
  have c1:=List.count_le_length (a:=x) (l:=a.rows)
  have c2:=List.count_le_length (a:=x) (l:=b.rows)
  have hn:(((a.rows.count x:Nat):Int)-((b.rows.count x:Nat):Int)).toNat=a.rows.count x-b.rows.count x:=by omega
  rw [List.length_replicate] at hs
  unfold ng
  dsimp only
  rw [aY hx,aa',gn_ hx,aa8,gn_ (vG h1),aa8,gn_ (vG h2),aa8,bJ (by omega),zJ (by rw [hn];exact hs),aa8,wrapN (by omega),hn]
 ·intro s
  unfold ng
  dsimp only
  rw [lF_,aa_]
theorem Mw {a b:Bag} (ha:RK a.rows) (hb:RK b.rows):vo a b=some ⟨a.kinds,aI (iy (fun r=>b.rows.count r) a.rows).1⟩:=by
 have hR:=(Bq ha).len
 have hrk:=QM ha (Jh a.rows b.rows) (ha.split _).1
 have hrl:=hrk.len
 have hal:=ha.len;have hbl:=hb.len
 unfold vo
 rw [AU ha hb,aa8,eu (l:=cK none (aI a.rows)) (fun r=>List.replicate (min (a.rows.count r) (b.rows.count r)) r) 1000000 ?_ ?_ (by unfold fuel;omega) [] (by simp only [tY] at hrl;simp only [abF];omega)]
 ·rw [aa8,abd,Jh];rfl
 ·intro s i x hx hs
  have hi:=(aa9.1 hx).1
  have h1:((cK none (aI a.rows)).map fun r=>a.rows.count r)[i]?=some (a.rows.count x):=by rw [abx,hx];rfl
  have h2:((cK none (aI a.rows)).map fun r=>b.rows.count r)[i]?=some (b.rows.count x):=by rw [abx,hx];rfl
  have hn:(WV ((a.rows.count x:Nat):Int) ((b.rows.count x:Nat):Int)).toNat=min (a.rows.count x) (b.rows.count x):=by unfold WV;split<;>omega
  rw [List.length_replicate] at hs
  unfold pO
  dsimp only
  rw [aY hx,aa',gn_ hx,aa8,gn_ (vG h1),aa8,gn_ (vG h2),aa8,zJ (by rw [hn];exact hs),aa8,wrapN (by omega),hn]
 ·intro s
  unfold pO
  dsimp only
  rw [lF_,aa_]
theorem Ht (a b:Bag):A_ a b=some true:=by
 unfold A_
 obtain ⟨c,hc,hc2⟩:=jK a 40 (by omega)
 rw [show (40:Int)=((40:Nat):Int) from rfl,hc,aa8]
 cases c with
 | false=>rfl
 | true =>
  have ha:=hc2 rfl
  rw [Bool.not_true,aa_]
  obtain ⟨c,hc,hc2⟩:=jK b 40 (by omega)
  rw [hc,aa8]
  cases c with
  | false=>rfl
  | true =>
   have hb:=hc2 rfl
   rw [Bool.not_true,aa_]
   have h1:=ha.kinds;have h2:=hb.kinds
   obtain ⟨c,hc⟩:=xX a.kinds b.kinds (by omega)
   rw [hc,aa8]
   cases c with
   | false=>rfl
   | true =>
    have ra:=ha.rk (by omega);have rb:=hb.rk (by omega)
    have l1:=ha.len;have l2:=hb.len
    have hk:a.kinds.length<=1000000:=by omega
    have rab:=ra.app rb (by omega)
    have ra0:RK (a.rows++([]:List (List Val))):=by rw [abJ];exact ra
    have rus:RK (Bag.mk a.kinds (aI (a.rows++[]))).rows:=ra0.sort
    rw [Bool.not_true,aa_,oz hk rab,aa8,M6 rab,aa8,kW hk rab.sort,aa8,aa']
    rw [C9 hk ra rb,aa8,J_ ra rb,aa8,kW hk (ra.split _).2.sort,aa8,aa']
    rw [Fz hk ra rb,aa8,Mw ra rb,aa8,kW hk (ra.split _).1.sort,aa8,aa']
    rw [rT ra rb,aa8,Pd ra rb,aa8,beq_self_eq_true,aa']
    rw [oz (a:=a) (b:=⟨a.kinds,[]⟩) hk ra0,aa8,rT (b:=⟨a.kinds,aI (a.rows++[])⟩) ra rus,aa8,abb (show aI a.rows=aI (aI (a.rows++[])) by rw [abJ];exact rJ (bn _).symm)]
    rfl
theorem AO {a:Bag} {b:Bag} (q0:okBag a) (q1:okBag b):Pure Tryz.prog 6 [.agg (cBag a), .agg (cBag b)] (.val (.one (.bool true))):=LM (Ht a b)
end Go.Proofs.YtfpbmfalamappaaGreatDoor
