/- Parts of the proof, joined. No condition. -/
import Derived.Test.YtfccopdbgfdcdaaGreatDoorKBM
import Derived.Test.YtfccopdbgfdcdaaGreatDoorKBI
import Derived.Test.YtfccopdbgfdcdaaGreatDoorKAM
set_option linter.unusedSimpArgs false
set_option linter.unusedVariables false
namespace Go.Proofs.YtfccopdbgfdcdaaGreatDoor
open Go.RowKit Go.MapKept
set_option maxRecDepth 100000
set_option maxHeartbeats 8000000
noncomputable section
def gValid1 (a_p:Per):Option (Bool):=bif (decide ((0:Int)≤a_p.lo)) then bif (decide (a_p.lo<a_p.hi)) then some (decide (a_p.hi≤(1099511627776:Int))) else
 some false else
 some false
theorem gValid1_ok {a_p:Per} {r:Bool} (H:gValid1 a_p=some r):Pure Tryz.prog 32 [.agg (cPer a_p)] (.val (.one (.bool r))):=by
 unfold gValid1 at H
 refine po_ Tryz.func32 Tryz.ntmps32 ?_
 rcases cnd_ H with ⟨q_1,H⟩|⟨q_1,H⟩
 ·rcases cnd_ H with ⟨q_2,H⟩|⟨q_2,H⟩
  ·cases H
   exact go_
  cases H
  exact go_
 cases H
 exact go_
def gDistinct8_B1 (r_1:(List (List Val))):((List (List Val)) × Int)→Option (Step ((List (List Val)) × Int) ((List (List Val)))):=fun s=>match s with
 | (out_2,i_3)=>bif (decide (i_3<((r_1.length:Nat):Int))) then bif (decide (i_3=(0:Int))) then (getI r_1 i_3).bind fun x_6=>bif (decide (out_2.length+1≤5864062014805)) then (some (.next ((out_2++[x_6]),(IntKind.i64.wrap (i_3+(1:Int)))))) else none else
 (getI r_1 (IntKind.i64.wrap (i_3-(1:Int)))).bind fun x_7=>(getI r_1 i_3).bind fun x_8=>(gEqual8 x_7 x_8).bind fun r_9=>bif (!r_9) then bif (decide (out_2.length+1≤5864062014805)) then (some (.next ((out_2++[x_8]),(IntKind.i64.wrap (i_3+(1:Int)))))) else none else
 some (.next (out_2,(IntKind.i64.wrap (i_3+(1:Int))))) else
 some (.exit (out_2,i_3))
def gDistinct8_K1:Sum ((List (List Val)) × Int) ((List (List Val)))→Option (((List (List Val))))
 | .inl (out_2,i_3)=>some out_2
 | .inr q=>some q
def gDistinct8 (a_l:(List (List Val))):Option ((List (List Val))):=(gSortR a_l).bind fun r_1=>(loopM (gDistinct8_B1 r_1) fuel ([],(0:Int))).bind (gDistinct8_K1)
theorem gDistinct8_ok {a_l:(List (List Val))} {r:(List (List Val))} (H:gDistinct8 a_l=some r):Pure Tryz.prog 145 [.one (.lst (a_l.map (fun x=>[AC.lst (x.map cV)])))] (.val (.one (.lst (r.map (fun x=>[AC.lst (x.map cV)]))))):=by
 unfold gDistinct8 at H
 refine po_ Tryz.func145 Tryz.ntmps145 ?_
 obtain ⟨r_1,c1,H⟩:=bd_ H
 replace c1:=gSortR_ok c1
 refine gt_ ?_
 refine aw_tok 4 1 rfl ?_
 refine alM_ (fun s:(List (List Val)) × Int=>match s with|(out_2,i_3)=>[(3, .one (.c (.lst (r_1.map (fun x=>[AC.lst (x.map cV)]))))),(4, .one (.own (out_2.map (fun x=>[AC.lst (x.map cV)])) 0)),(5, .one (.c (.int .i64 i_3)))]) (fun s=>match s with|(out_2,i_3)=>[.spare out_2.length 1]) H (fun _=>Nat.zero_le _)
  (fm_ br_ [] rfl bt_ bo_) ?_
 rintro ⟨out_2,i_3⟩ st1 hb1 hk1
 unfold gDistinct8_B1 at hb1
 dsimp only at hb1 ⊢
 rcases cnd_ hb1 with ⟨q_4,hb1⟩|⟨q_4,hb1⟩
 ·rcases cnd_ hb1 with ⟨q_5,hb1⟩|⟨q_5,hb1⟩
  ·obtain ⟨x_6,i2z,i2,i2x,hb1⟩:=idx_ (f:=(fun x=>[AC.lst (x.map cV)])) hb1
   obtain ⟨g3,hb1⟩:=grd_d hb1
   cases hb1
   refine gt_ ?_
   exact ⟨_,rfl,fm_ bs_ [] be_ bt_ bo_⟩
  obtain ⟨x_7,i4z,i4,i4x,hb1⟩:=idx_ (f:=(fun x=>[AC.lst (x.map cV)])) hb1
  obtain ⟨x_8,i5z,i5,i5x,hb1⟩:=idx_ (f:=(fun x=>[AC.lst (x.map cV)])) hb1
  obtain ⟨r_9,c6,hb1⟩:=bd_ hb1
  replace c6:=gEqual8_ok c6
  rcases cnd_ hb1 with ⟨q_10,hb1⟩|⟨q_10,hb1⟩
  ·obtain ⟨g7,hb1⟩:=grd_d hb1
   cases hb1
   refine gt_ ?_
   exact ⟨_,rfl,fm_ bs_ [] be_ bt_ bo_⟩
  cases hb1
  refine gt_ ?_
  exact ⟨_,rfl,fm_ bs_ [] be_ bt_ bo_⟩
 cases hb1
 have hx1:gDistinct8_K1 (.inl (out_2,i_3))=some _:=hk1
 unfold gDistinct8_K1 at hx1
 dsimp only at hx1
 cases hx1
 exact go_
def gRows22_B1 (a_l:(List Fct)):((List (List Val)) × Int)→Option (Step ((List (List Val)) × Int) ((List (List Val)))):=fun s=>match s with
 | (out_1,i_2)=>bif (decide (i_2<((a_l.length:Nat):Int))) then (getI a_l i_2).bind fun x_4=>(gValid1 x_4.valid).bind fun r_5=>bif r_5 then bif (decide (out_1.length+1≤5864062014805)) then (some (.next ((out_1++[x_4.row]),(IntKind.i64.wrap (i_2+(1:Int)))))) else none else
 some (.next (out_1,(IntKind.i64.wrap (i_2+(1:Int))))) else
 some (.exit (out_1,i_2))
def gRows22_K1:Sum ((List (List Val)) × Int) ((List (List Val)))→Option (((List (List Val))))
 | .inl (out_1,i_2)=>(gDistinct8 out_1).bind fun r_7=>some r_7
 | .inr q=>some q
def gRows22 (a_l:(List Fct)):Option ((List (List Val))):=(loopM (gRows22_B1 a_l) fuel ([],(0:Int))).bind (gRows22_K1)
theorem gRows22_ok {a_l:(List Fct)} {r:(List (List Val))} (H:gRows22 a_l=some r):Pure Tryz.prog 98 [.one (.lst (a_l.map cFct))] (.val (.one (.lst (r.map (fun x=>[AC.lst (x.map cV)]))))):=by
 unfold gRows22 at H
 refine po_ Tryz.func98 Tryz.ntmps98 ?_
 refine gt_ ?_
 refine aw_tok 3 1 rfl ?_
 refine alM_ (fun s:(List (List Val)) × Int=>match s with|(out_1,i_2)=>[(0, .one (.c (.lst (a_l.map cFct)))),(3, .one (.own (out_1.map (fun x=>[AC.lst (x.map cV)])) 0)),(4, .one (.c (.int .i64 i_2)))]) (fun s=>match s with|(out_1,i_2)=>[.spare out_1.length 1]) H (fun _=>Nat.zero_le _)
  (fm_ br_ [] rfl bt_ bo_) ?_
 rintro ⟨out_1,i_2⟩ st1 hb1 hk1
 unfold gRows22_B1 at hb1
 dsimp only at hb1 ⊢
 rcases cnd_ hb1 with ⟨q_3,hb1⟩|⟨q_3,hb1⟩
 ·obtain ⟨x_4,i1z,i1,i1x,hb1⟩:=idx_ (f:=cFct) hb1
  obtain ⟨r_5,c2,hb1⟩:=bd_ hb1
  replace c2:=gValid1_ok c2
  rcases cnd_ hb1 with ⟨q_6,hb1⟩|⟨q_6,hb1⟩
  ·obtain ⟨g3,hb1⟩:=grd_d hb1
   cases hb1
   refine gt_ ?_
   exact ⟨_,rfl,fm_ bs_ [] be_ bt_ bo_⟩
  cases hb1
  refine gt_ ?_
  exact ⟨_,rfl,fm_ bs_ [] be_ bt_ bo_⟩
 cases hb1
 have hx1:gRows22_K1 (.inl (out_1,i_2))=some _:=hk1
 unfold gRows22_K1 at hx1
 dsimp only at hx1
 obtain ⟨r_7,c4,hx1⟩:=bd_ hx1
 replace c4:=gDistinct8_ok c4
 cases hx1
 exact go_
def gCounts22_B1 (a_l:(List Fct)) (a_row:(List Val)):((List Cnt) × Int)→Option (Step ((List Cnt) × Int) ((List Stp))):=fun s=>match s with
 | (c_1,i_2)=>bif (decide (i_2<((a_l.length:Nat):Int))) then (getI a_l i_2).bind fun x_4=>(gCmp8 x_4.row a_row).bind fun r_5=>bif (decide (r_5=(0:Int))) then bif (decide (c_1.length+1≤5864062014805)) then (some (.next ((c_1++[(⟨x_4.valid,(1:Int)⟩:Cnt)]),(IntKind.i64.wrap (i_2+(1:Int)))))) else none else
 some (.next (c_1,(IntKind.i64.wrap (i_2+(1:Int))))) else
 some (.exit (c_1,i_2))
def gCounts22_K1:Sum ((List Cnt) × Int) ((List Stp))→Option (((List Stp)))
 | .inl (c_1,i_2)=>(gOfR c_1).bind fun r_7=>some r_7
 | .inr q=>some q
def gCounts22 (a_l:(List Fct)) (a_row:(List Val)):Option ((List Stp)):=(loopM (gCounts22_B1 a_l a_row) fuel ([],(0:Int))).bind (gCounts22_K1)
theorem gCounts22_ok {a_l:(List Fct)} {a_row:(List Val)} {r:(List Stp)} (H:gCounts22 a_l a_row=some r):Pure Tryz.prog 99 [.one (.lst (a_l.map cFct)), .one (.lst (a_row.map cV))] (.val (.one (.lst (r.map cStp)))):=by
 unfold gCounts22 at H
 refine po_ Tryz.func99 Tryz.ntmps99 ?_
 refine gt_ ?_
 refine aw_tok 5 3 rfl ?_
 refine alM_ (fun s:(List Cnt) × Int=>match s with|(c_1,i_2)=>[(0, .one (.c (.lst (a_l.map cFct)))),(1, .one (.c (.lst (a_row.map cV)))),(5, .one (.own (c_1.map cCnt) 0)),(6, .one (.c (.int .i64 i_2)))]) (fun s=>match s with|(c_1,i_2)=>[.spare c_1.length 3]) H (fun _=>Nat.zero_le _)
  (fm_ br_ [] rfl bt_ bo_) ?_
 rintro ⟨c_1,i_2⟩ st1 hb1 hk1
 unfold gCounts22_B1 at hb1
 dsimp only at hb1 ⊢
 rcases cnd_ hb1 with ⟨q_3,hb1⟩|⟨q_3,hb1⟩
 ·obtain ⟨x_4,i1z,i1,i1x,hb1⟩:=idx_ (f:=cFct) hb1
  obtain ⟨r_5,c2,hb1⟩:=bd_ hb1
  replace c2:=gCmp8_ok c2
  rcases cnd_ hb1 with ⟨q_6,hb1⟩|⟨q_6,hb1⟩
  ·obtain ⟨g3,hb1⟩:=grd_d hb1
   cases hb1
   refine gt_ ?_
   exact ⟨_,rfl,fm_ bs_ [] be_ bt_ bo_⟩
  cases hb1
  refine gt_ ?_
  exact ⟨_,rfl,fm_ bs_ [] be_ bt_ bo_⟩
 cases hb1
 have hx1:gCounts22_K1 (.inl (c_1,i_2))=some _:=hk1
 unfold gCounts22_K1 at hx1
 dsimp only at hx1
 obtain ⟨r_7,c4,hx1⟩:=bd_ hx1
 replace c4:=gOfR_ok c4
 cases hx1
 exact go_
def gDuring_B1 (a_row:(List Val)) (a_p:(List Per)):((List Fct) × Int)→Option (Step ((List Fct) × Int) ((List Fct))):=fun s=>match s with
 | (out_1,i_2)=>bif (decide (i_2<((a_p.length:Nat):Int))) then (getI a_p i_2).bind fun x_4=>bif (decide (out_1.length+1≤3518437208883)) then (some (.next ((out_1++[(⟨a_row,x_4⟩:Fct)]),(IntKind.i64.wrap (i_2+(1:Int)))))) else none else
 some (.exit (out_1,i_2))
def gDuring_K1:Sum ((List Fct) × Int) ((List Fct))→Option (((List Fct)))
 | .inl (out_1,i_2)=>some out_1
 | .inr q=>some q
def gDuring (a_row:(List Val)) (a_p:(List Per)):Option ((List Fct)):=(loopM (gDuring_B1 a_row a_p) fuel ([],(0:Int))).bind (gDuring_K1)
theorem gDuring_ok {a_row:(List Val)} {a_p:(List Per)} {r:(List Fct)} (H:gDuring a_row a_p=some r):Pure Tryz.prog 63 [.one (.lst (a_row.map cV)), .one (.lst (a_p.map cPer))] (.val (.one (.lst (r.map cFct)))):=by
 unfold gDuring at H
 refine po_ Tryz.func63 Tryz.ntmps63 ?_
 refine gt_ ?_
 refine aw_tok 5 3 rfl ?_
 refine alM_ (fun s:(List Fct) × Int=>match s with|(out_1,i_2)=>[(0, .one (.c (.lst (a_row.map cV)))),(1, .one (.c (.lst (a_p.map cPer)))),(5, .one (.own (out_1.map cFct) 0)),(6, .one (.c (.int .i64 i_2)))]) (fun s=>match s with|(out_1,i_2)=>[.spare out_1.length 3]) H (fun _=>Nat.zero_le _)
  (fm_ br_ [] rfl bt_ bo_) ?_
 rintro ⟨out_1,i_2⟩ st1 hb1 hk1
 unfold gDuring_B1 at hb1
 dsimp only at hb1 ⊢
 rcases cnd_ hb1 with ⟨q_3,hb1⟩|⟨q_3,hb1⟩
 ·obtain ⟨x_4,i1z,i1,i1x,hb1⟩:=idx_ (f:=cPer) hb1
  obtain ⟨g2,hb1⟩:=grd_d hb1
  cases hb1
  refine gt_ ?_
  exact ⟨_,rfl,fm_ bs_ [] be_ bt_ bo_⟩
 cases hb1
 have hx1:gDuring_K1 (.inl (out_1,i_2))=some _:=hk1
 unfold gDuring_K1 at hx1
 dsimp only at hx1
 cases hx1
 exact go_
def gMerged22_B1 (a_a:(List Fct)) (a_b:(List Fct)):((List Fct) × Int × Int)→Option (Step ((List Fct) × Int × Int) ((List Fct))):=fun s=>match s with
 | (out_1,i_2,k_3)=>bif (decide (i_2<((a_a.length:Nat):Int))) then bif (decide (i_2=((a_a.length:Nat):Int))) then (getI a_b k_3).bind fun x_6=>bif (decide (out_1.length+1≤3518437208883)) then (some (.next ((out_1++[x_6]),i_2,(IntKind.i64.wrap (k_3+(1:Int)))))) else none else
 bif (decide (k_3<((a_b.length:Nat):Int))) then (getI a_b k_3).bind fun x_8=>(getI a_a i_2).bind fun x_9=>(gCmp8 x_8.row x_9.row).bind fun r_10=>bif (decide (r_10<(0:Int))) then bif (decide (out_1.length+1≤3518437208883)) then (some (.next ((out_1++[x_8]),i_2,(IntKind.i64.wrap (k_3+(1:Int)))))) else none else
 bif (decide (out_1.length+1≤3518437208883)) then (some (.next ((out_1++[x_9]),(IntKind.i64.wrap (i_2+(1:Int))),k_3))) else none else
 (getI a_a i_2).bind fun x_12=>bif (decide (out_1.length+1≤3518437208883)) then (some (.next ((out_1++[x_12]),(IntKind.i64.wrap (i_2+(1:Int))),k_3))) else none else
 bif (decide (k_3<((a_b.length:Nat):Int))) then bif (decide (i_2=((a_a.length:Nat):Int))) then (getI a_b k_3).bind fun x_15=>bif (decide (out_1.length+1≤3518437208883)) then (some (.next ((out_1++[x_15]),i_2,(IntKind.i64.wrap (k_3+(1:Int)))))) else none else
 (getI a_b k_3).bind fun x_16=>(getI a_a i_2).bind fun x_17=>(gCmp8 x_16.row x_17.row).bind fun r_18=>bif (decide (r_18<(0:Int))) then bif (decide (out_1.length+1≤3518437208883)) then (some (.next ((out_1++[x_16]),i_2,(IntKind.i64.wrap (k_3+(1:Int)))))) else none else
 bif (decide (out_1.length+1≤3518437208883)) then (some (.next ((out_1++[x_17]),(IntKind.i64.wrap (i_2+(1:Int))),k_3))) else none else
 some (.exit (out_1,i_2,k_3))
def gMerged22_K1:Sum ((List Fct) × Int × Int) ((List Fct))→Option (((List Fct)))
 | .inl (out_1,i_2,k_3)=>some out_1
 | .inr q=>some q
def gMerged22 (a_a:(List Fct)) (a_b:(List Fct)):Option ((List Fct)):=(loopM (gMerged22_B1 a_a a_b) fuel ([],(0:Int),(0:Int))).bind (gMerged22_K1)
theorem gMerged22_ok {a_a:(List Fct)} {a_b:(List Fct)} {r:(List Fct)} (H:gMerged22 a_a a_b=some r):Pure Tryz.prog 144 [.one (.lst (a_a.map cFct)), .one (.lst (a_b.map cFct))] (.val (.one (.lst (r.map cFct)))):=by
 unfold gMerged22 at H
 refine po_ Tryz.func144 Tryz.ntmps144 ?_
 refine gt_ ?_
 refine aw_tok 5 3 rfl ?_
 refine alM_ (fun s:(List Fct) × Int × Int=>match s with|(out_1,i_2,k_3)=>[(0, .one (.c (.lst (a_a.map cFct)))),(1, .one (.c (.lst (a_b.map cFct)))),(5, .one (.own (out_1.map cFct) 0)),(6, .one (.c (.int .i64 i_2))),(7, .one (.c (.int .i64 k_3)))]) (fun s=>match s with|(out_1,i_2,k_3)=>[.spare out_1.length 3]) H (fun _=>Nat.zero_le _)
  (fm_ br_ [] rfl bt_ bo_) ?_
 rintro ⟨out_1,i_2,k_3⟩ st1 hb1 hk1
 unfold gMerged22_B1 at hb1
 dsimp only at hb1 ⊢
 rcases cnd_ hb1 with ⟨q_4,hb1⟩|⟨q_4,hb1⟩
 ·rcases cnd_ hb1 with ⟨q_5,hb1⟩|⟨q_5,hb1⟩
  ·obtain ⟨x_6,i1z,i1,i1x,hb1⟩:=idx_ (f:=cFct) hb1
   obtain ⟨g2,hb1⟩:=grd_d hb1
   cases hb1
   refine gt_ ?_
   exact ⟨_,rfl,fm_ bs_ [] be_ bt_ bo_⟩
  rcases cnd_ hb1 with ⟨q_7,hb1⟩|⟨q_7,hb1⟩
  ·obtain ⟨x_8,i3z,i3,i3x,hb1⟩:=idx_ (f:=cFct) hb1
   obtain ⟨x_9,i4z,i4,i4x,hb1⟩:=idx_ (f:=cFct) hb1
   obtain ⟨r_10,c5,hb1⟩:=bd_ hb1
   replace c5:=gCmp8_ok c5
   rcases cnd_ hb1 with ⟨q_11,hb1⟩|⟨q_11,hb1⟩
   ·obtain ⟨g6,hb1⟩:=grd_d hb1
    cases hb1
    refine gt_ ?_
    exact ⟨_,rfl,fm_ bs_ [] be_ bt_ bo_⟩
   obtain ⟨g7,hb1⟩:=grd_d hb1
   cases hb1
   refine gt_ ?_
   exact ⟨_,rfl,fm_ bs_ [] be_ bt_ bo_⟩
  obtain ⟨x_12,i8z,i8,i8x,hb1⟩:=idx_ (f:=cFct) hb1
  obtain ⟨g9,hb1⟩:=grd_d hb1
  cases hb1
  refine gt_ ?_
  exact ⟨_,rfl,fm_ bs_ [] be_ bt_ bo_⟩
 rcases cnd_ hb1 with ⟨q_13,hb1⟩|⟨q_13,hb1⟩
 ·rcases cnd_ hb1 with ⟨q_14,hb1⟩|⟨q_14,hb1⟩
  ·obtain ⟨x_15,i10z,i10,i10x,hb1⟩:=idx_ (f:=cFct) hb1
   obtain ⟨g11,hb1⟩:=grd_d hb1
   cases hb1
   refine gt_ ?_
   exact ⟨_,rfl,fm_ bs_ [] be_ bt_ bo_⟩
  obtain ⟨x_16,i12z,i12,i12x,hb1⟩:=idx_ (f:=cFct) hb1
  obtain ⟨x_17,i13z,i13,i13x,hb1⟩:=idx_ (f:=cFct) hb1
  obtain ⟨r_18,c14,hb1⟩:=bd_ hb1
  replace c14:=gCmp8_ok c14
  rcases cnd_ hb1 with ⟨q_19,hb1⟩|⟨q_19,hb1⟩
  ·obtain ⟨g15,hb1⟩:=grd_d hb1
   cases hb1
   refine gt_ ?_
   exact ⟨_,rfl,fm_ bs_ [] be_ bt_ bo_⟩
  obtain ⟨g16,hb1⟩:=grd_d hb1
  cases hb1
  refine gt_ ?_
  exact ⟨_,rfl,fm_ bs_ [] be_ bt_ bo_⟩
 cases hb1
 have hx1:gMerged22_K1 (.inl (out_1,i_2,k_3))=some _:=hk1
 unfold gMerged22_K1 at hx1
 dsimp only at hx1
 cases hx1
 exact go_
def gOrderedB (rec:List Fct→Option (List Fct)) (a_l:(List Fct)):Option ((List Fct)):=bif (decide (((a_l.length:Nat):Int)<(2:Int))) then some a_l else
 bif (decide ((2:Int)≠0)) then ((subI a_l (0:Int) (IntKind.i64.wrap (((a_l.length:Nat):Int).tdiv (2:Int)))).bind fun s_2=>(rec s_2).bind fun r_3=>(subI a_l (IntKind.i64.wrap (((a_l.length:Nat):Int).tdiv (2:Int))) ((a_l.length:Nat):Int)).bind fun s_4=>(rec s_4).bind fun r_5=>(gMerged22 r_3 r_5).bind fun r_6=>some r_6) else none
theorem gOrderedB_ok {rec:List Fct→Option (List Fct)}  (hrec : ∀ {x:List Fct} {r:List Fct}, rec x=some r→Pure Tryz.prog 97 [.one (.lst (x.map cFct))] (.val (.one (.lst (r.map cFct))))) {a_l:(List Fct)} {r:(List Fct)} (H:gOrderedB rec a_l=some r):Pure Tryz.prog 97 [.one (.lst (a_l.map cFct))] (.val (.one (.lst (r.map cFct)))):=by
 unfold gOrderedB at H
 refine po_ Tryz.func97 Tryz.ntmps97 ?_
 rcases cnd_ H with ⟨q_1,H⟩|⟨q_1,H⟩
 ·cases H
  exact go_
 obtain ⟨g1,H⟩:=grd_d H
 obtain ⟨s_2,u2,H⟩:=bd_ H
 obtain ⟨⟨u2a,u2b,u2c⟩,u2⟩:=subI_some u2
 have u2x:=subE (f:=cFct) u2
 obtain ⟨r_3,c3,H⟩:=bd_ H
 replace c3:=hrec c3
 obtain ⟨s_4,u4,H⟩:=bd_ H
 obtain ⟨⟨u4a,u4b,u4c⟩,u4⟩:=subI_some u4
 have u4x:=subE (f:=cFct) u4
 obtain ⟨r_5,c5,H⟩:=bd_ H
 replace c5:=hrec c5
 obtain ⟨r_6,c6,H⟩:=bd_ H
 replace c6:=gMerged22_ok c6
 cases H
 repeat' (first|refine p_ rfl rfl rfl rfl rfl ?_|refine st_nil ?_|refine x_ rfl rfl rfl rfl rfl rfl rfl rfl ?_|refine l_ rfl rfl rfl rfl ?_|refine s_ rfl rfl rfl ?_|refine t_ rfl rfl rfl rfl ?_|refine k_ rfl rfl rfl ?_|refine k0_ rfl rfl ?_|refine c_ rfl rfl rfl rfl ?_|refine pick_t rfl rfl rfl rfl rfl rfl rfl ?_|refine pick_f rfl rfl rfl rfl rfl rfl rfl ?_|refine aw_seq ?_|refine aw_region tab_ok _ rfl ?_|refine aw_drawn2 tabS_ok _ rfl mx_ (by decide +kernel) ?_|refine aw_condT rfl ?_|refine aw_condF rfl ?_|refine aw_block ?_|refine aw_exit ?_|refine aw_ret ?_|refine aw_skip ?_|rw [List.length_map]|rw [mn_norm]|rw [mx_norm]|rw [u2x]|rw [u4x]|rw [show ((0:Nat):Int)=0 from rfl])
 refine end_ret (res_of rfl ?_ ?_)
 ·repeat' (first|exact trivial|rfl|exact Nat.le_of_ble_eq_true rfl|omega|apply And.intro)
 ·first|rfl|(simp only [List.map_append,List.map_cons,List.map_nil,List.nil_append]<;>rfl)
def gOrdered:Nat→List Fct→Option (List Fct)
 | 0,_=>none
 | n+1,a=>gOrderedB (gOrdered n) a
theorem gOrdered_ok : ∀ (n:Nat) {x:List Fct} {r:List Fct}, gOrdered n x=some r→Pure Tryz.prog 97 [.one (.lst (x.map cFct))] (.val (.one (.lst (r.map cFct))))
 | 0,_,_,h=>nomatch h
 | n+1,_,_,h=>gOrderedB_ok (gOrdered_ok n) h
def gGroups22_B7 (s_11:(List Fct)) (r_12:(List (List Val))):((List SGroup) × Int)→Option (Step ((List SGroup) × Int) ((List SGroup))):=fun s=>match s with
 | (out_13,n_14)=>bif (decide (n_14<((r_12.length:Nat):Int))) then (getI r_12 n_14).bind fun x_16=>(gCounts22 s_11 x_16).bind fun r_17=>bif (decide (out_13.length+1≤2932031007402)) then (some (.next ((out_13++[(⟨x_16,r_17⟩:SGroup)]),(IntKind.i64.wrap (n_14+(1:Int)))))) else none else
 some (.exit (out_13,n_14))
def gGroups22_K7 (k_5:Int):Sum ((List SGroup) × Int) ((List SGroup))→Option (Step ((List SGroup) × Int) ((List SGroup)))
 | .inl (out_13,n_14)=>some (.next (out_13,k_5))
 | .inr q=>some (.ret q)
def gGroups22_B6 (r_1:(List Fct)) (i_3:Int):(Int)→Option (Step (Int) ((List SGroup))):=fun s=>match s with
 | k_5=>bif (decide (k_5<((r_1.length:Nat):Int))) then (getI r_1 k_5).bind fun x_7=>(getI r_1 i_3).bind fun x_8=>(gCmp8 x_7.row x_8.row).bind fun r_9=>bif (decide (r_9=(0:Int))) then some (.next (IntKind.i64.wrap (k_5+(1:Int)))) else
 some (.exit k_5) else
 some (.exit k_5)
def gGroups22_K6 (r_1:(List Fct)) (out_2:(List SGroup)) (i_3:Int):Sum (Int) ((List SGroup))→Option (Step ((List SGroup) × Int) ((List SGroup)))
 | .inl k_5=>(subI r_1 i_3 k_5).bind fun s_11=>(gRows22 s_11).bind fun r_12=>(loopM (gGroups22_B7 s_11 r_12) fuel (out_2,(0:Int))).bind (gGroups22_K7 k_5)
 | .inr q=>some (.ret q)
def gGroups22_B5 (r_1:(List Fct)):((List SGroup) × Int)→Option (Step ((List SGroup) × Int) ((List SGroup))):=fun s=>match s with
 | (out_2,i_3)=>bif (decide (i_3<((r_1.length:Nat):Int))) then (loopM (gGroups22_B6 r_1 i_3) fuel i_3).bind (gGroups22_K6 r_1 out_2 i_3) else
 some (.exit (out_2,i_3))
def gGroups22_K5:Sum ((List SGroup) × Int) ((List SGroup))→Option (((List SGroup)))
 | .inl (out_2,i_3)=>some out_2
 | .inr q=>some q
def gGroups22 (a_l:(List Fct)):Option ((List SGroup)):=(gOrdered 640 a_l).bind fun r_1=>(loopM (gGroups22_B5 r_1) fuel ([],(0:Int))).bind (gGroups22_K5)
theorem gGroups22_ok {a_l:(List Fct)} {r:(List SGroup)} (H:gGroups22 a_l=some r):Pure Tryz.prog 62 [.one (.lst (a_l.map cFct))] (.val (.one (.lst (r.map cSGroup)))):=by
 unfold gGroups22 at H
 refine po_ Tryz.func62 Tryz.ntmps62 ?_
 obtain ⟨r_1,c1,H⟩:=bd_ H
 replace c1:=gOrdered_ok 640 c1
 refine gt_ ?_
 refine aw_tok 4 2 rfl ?_
 refine alM_ (fun s:(List SGroup) × Int=>match s with|(out_2,i_3)=>[(3, .one (.c (.lst (r_1.map cFct)))),(4, .one (.own (out_2.map cSGroup) 0)),(5, .one (.c (.int .i64 i_3)))]) (fun s=>match s with|(out_2,i_3)=>[.spare out_2.length 2]) H (fun _=>Nat.zero_le _)
  (fm_ br_ [] rfl bt_ bo_) ?_
 rintro ⟨out_2,i_3⟩ st5 hb5 hk5
 unfold gGroups22_B5 at hb5
 dsimp only at hb5 ⊢
 rcases cnd_ hb5 with ⟨q_4,hb5⟩|⟨q_4,hb5⟩
 ·refine gt_ ?_
  refine alM_ (fun s:Int=>match s with|k_5=>[(3, .one (.c (.lst (r_1.map cFct)))),(4, .one (.own (out_2.map cSGroup) 0)),(5, .one (.c (.int .i64 i_3))),(6, .one (.c (.int .i64 k_5)))]) (fun s=>match s with|k_5=>[.spare out_2.length 2]) hb5 (fun _=>Nat.zero_le _)
   (fm_ br_ [] rfl bt_ bo_) ?_
  rintro k_5 st6 hb6 hk6
  unfold gGroups22_B6 at hb6
  dsimp only at hb6 ⊢
  rcases cnd_ hb6 with ⟨q_6,hb6⟩|⟨q_6,hb6⟩
  ·obtain ⟨x_7,i2z,i2,i2x,hb6⟩:=idx_ (f:=cFct) hb6
   obtain ⟨x_8,i3z,i3,i3x,hb6⟩:=idx_ (f:=cFct) hb6
   obtain ⟨r_9,c4,hb6⟩:=bd_ hb6
   replace c4:=gCmp8_ok c4
   rcases cnd_ hb6 with ⟨q_10,hb6⟩|⟨q_10,hb6⟩
   ·cases hb6
    refine gt_ ?_
    exact ⟨_,rfl,fm_ br_ [] rfl bt_ bo_⟩
   cases hb6
   have hx6:gGroups22_K6 r_1 out_2 i_3 (.inl k_5)=some _:=hk6
   unfold gGroups22_K6 at hx6
   dsimp only at hx6
   obtain ⟨s_11,u5,hx6⟩:=bd_ hx6
   obtain ⟨⟨u5a,u5b,u5c⟩,u5⟩:=subI_some u5
   have u5x:=subE (f:=cFct) u5
   obtain ⟨r_12,c6,hx6⟩:=bd_ hx6
   replace c6:=gRows22_ok c6
   repeat' (first|refine p_ rfl rfl rfl rfl rfl ?_|refine st_nil ?_|refine x_ rfl rfl rfl rfl rfl rfl rfl rfl ?_|refine l_ rfl rfl rfl rfl ?_|refine s_ rfl rfl rfl ?_|refine t_ rfl rfl rfl rfl ?_|refine k_ rfl rfl rfl ?_|refine k0_ rfl rfl ?_|refine c_ rfl rfl rfl rfl ?_|refine pick_t rfl rfl rfl rfl rfl rfl rfl ?_|refine pick_f rfl rfl rfl rfl rfl rfl rfl ?_|refine aw_seq ?_|refine aw_region tab_ok _ rfl ?_|refine aw_drawn2 tabS_ok _ rfl mx_ (by decide +kernel) ?_|refine aw_condT rfl ?_|refine aw_condF rfl ?_|refine aw_block ?_|refine aw_exit ?_|refine aw_ret ?_|refine aw_skip ?_|rw [List.length_map]|rw [mn_norm]|rw [mx_norm]|rw [u5x]|rw [show ((0:Nat):Int)=0 from rfl])
   refine alM_ (fun s:(List SGroup) × Int=>match s with|(out_13,n_14)=>[(3, .one (.c (.lst (r_1.map cFct)))),(4, .one (.own (out_13.map cSGroup) 0)),(5, .one (.c (.int .i64 i_3))),(6, .one (.c (.int .i64 k_5))),(7, .one (.c (.lst (r_12.map (fun x=>[AC.lst (x.map cV)]))))),(8, .one (.c (.int .i64 n_14)))]) (fun s=>match s with|(out_13,n_14)=>[.spare out_13.length 2]) hx6 (fun _=>Nat.zero_le _)
    (fm_ br_ [] rfl bt_ bo_) ?_
   rintro ⟨out_13,n_14⟩ st7 hb7 hk7
   unfold gGroups22_B7 at hb7
   dsimp only at hb7 ⊢
   rcases cnd_ hb7 with ⟨q_15,hb7⟩|⟨q_15,hb7⟩
   ·obtain ⟨x_16,i7z,i7,i7x,hb7⟩:=idx_ (f:=(fun x=>[AC.lst (x.map cV)])) hb7
    obtain ⟨r_17,c8,hb7⟩:=bd_ hb7
    replace c8:=gCounts22_ok c8
    obtain ⟨g9,hb7⟩:=grd_d hb7
    cases hb7
    repeat' (first|refine p_ rfl rfl rfl rfl rfl ?_|refine st_nil ?_|refine x_ rfl rfl rfl rfl rfl rfl rfl rfl ?_|refine l_ rfl rfl rfl rfl ?_|refine s_ rfl rfl rfl ?_|refine t_ rfl rfl rfl rfl ?_|refine k_ rfl rfl rfl ?_|refine k0_ rfl rfl ?_|refine c_ rfl rfl rfl rfl ?_|refine pick_t rfl rfl rfl rfl rfl rfl rfl ?_|refine pick_f rfl rfl rfl rfl rfl rfl rfl ?_|refine aw_seq ?_|refine aw_region tab_ok _ rfl ?_|refine aw_drawn2 tabS_ok _ rfl mx_ (by decide +kernel) ?_|refine aw_condT rfl ?_|refine aw_condF rfl ?_|refine aw_block ?_|refine aw_exit ?_|refine aw_ret ?_|refine aw_skip ?_|rw [List.length_map]|rw [mn_norm]|rw [mx_norm]|rw [u5x]|rw [show ((0:Nat):Int)=0 from rfl])
    exact ⟨_,rfl,fm_ bs_ [] be_ bt_ bo_⟩
   cases hb7
   have hx7:gGroups22_K7 k_5 (.inl (out_13,n_14))=some _:=hk7
   unfold gGroups22_K7 at hx7
   dsimp only at hx7
   cases hx7
   repeat' (first|refine p_ rfl rfl rfl rfl rfl ?_|refine st_nil ?_|refine x_ rfl rfl rfl rfl rfl rfl rfl rfl ?_|refine l_ rfl rfl rfl rfl ?_|refine s_ rfl rfl rfl ?_|refine t_ rfl rfl rfl rfl ?_|refine k_ rfl rfl rfl ?_|refine k0_ rfl rfl ?_|refine c_ rfl rfl rfl rfl ?_|refine pick_t rfl rfl rfl rfl rfl rfl rfl ?_|refine pick_f rfl rfl rfl rfl rfl rfl rfl ?_|refine aw_seq ?_|refine aw_region tab_ok _ rfl ?_|refine aw_drawn2 tabS_ok _ rfl mx_ (by decide +kernel) ?_|refine aw_condT rfl ?_|refine aw_condF rfl ?_|refine aw_block ?_|refine aw_exit ?_|refine aw_ret ?_|refine aw_skip ?_|rw [List.length_map]|rw [mn_norm]|rw [mx_norm]|rw [u5x]|rw [show ((0:Nat):Int)=0 from rfl])
   exact ⟨_,rfl,fm_ bs_ [] be_ bt_ bo_⟩
  cases hb6
  have hx6:gGroups22_K6 r_1 out_2 i_3 (.inl k_5)=some _:=hk6
  unfold gGroups22_K6 at hx6
  dsimp only at hx6
  obtain ⟨s_11,u10,hx6⟩:=bd_ hx6
  obtain ⟨⟨u10a,u10b,u10c⟩,u10⟩:=subI_some u10
  have u10x:=subE (f:=cFct) u10
  obtain ⟨r_12,c11,hx6⟩:=bd_ hx6
  replace c11:=gRows22_ok c11
  repeat' (first|refine p_ rfl rfl rfl rfl rfl ?_|refine st_nil ?_|refine x_ rfl rfl rfl rfl rfl rfl rfl rfl ?_|refine l_ rfl rfl rfl rfl ?_|refine s_ rfl rfl rfl ?_|refine t_ rfl rfl rfl rfl ?_|refine k_ rfl rfl rfl ?_|refine k0_ rfl rfl ?_|refine c_ rfl rfl rfl rfl ?_|refine pick_t rfl rfl rfl rfl rfl rfl rfl ?_|refine pick_f rfl rfl rfl rfl rfl rfl rfl ?_|refine aw_seq ?_|refine aw_region tab_ok _ rfl ?_|refine aw_drawn2 tabS_ok _ rfl mx_ (by decide +kernel) ?_|refine aw_condT rfl ?_|refine aw_condF rfl ?_|refine aw_block ?_|refine aw_exit ?_|refine aw_ret ?_|refine aw_skip ?_|rw [List.length_map]|rw [mn_norm]|rw [mx_norm]|rw [u10x]|rw [show ((0:Nat):Int)=0 from rfl])
  refine alM_ (fun s:(List SGroup) × Int=>match s with|(out_13,n_14)=>[(3, .one (.c (.lst (r_1.map cFct)))),(4, .one (.own (out_13.map cSGroup) 0)),(5, .one (.c (.int .i64 i_3))),(6, .one (.c (.int .i64 k_5))),(7, .one (.c (.lst (r_12.map (fun x=>[AC.lst (x.map cV)]))))),(8, .one (.c (.int .i64 n_14)))]) (fun s=>match s with|(out_13,n_14)=>[.spare out_13.length 2]) hx6 (fun _=>Nat.zero_le _)
   (fm_ br_ [] rfl bt_ bo_) ?_
  rintro ⟨out_13,n_14⟩ st7 hb7 hk7
  unfold gGroups22_B7 at hb7
  dsimp only at hb7 ⊢
  rcases cnd_ hb7 with ⟨q_15,hb7⟩|⟨q_15,hb7⟩
  ·obtain ⟨x_16,i12z,i12,i12x,hb7⟩:=idx_ (f:=(fun x=>[AC.lst (x.map cV)])) hb7
   obtain ⟨r_17,c13,hb7⟩:=bd_ hb7
   replace c13:=gCounts22_ok c13
   obtain ⟨g14,hb7⟩:=grd_d hb7
   cases hb7
   repeat' (first|refine p_ rfl rfl rfl rfl rfl ?_|refine st_nil ?_|refine x_ rfl rfl rfl rfl rfl rfl rfl rfl ?_|refine l_ rfl rfl rfl rfl ?_|refine s_ rfl rfl rfl ?_|refine t_ rfl rfl rfl rfl ?_|refine k_ rfl rfl rfl ?_|refine k0_ rfl rfl ?_|refine c_ rfl rfl rfl rfl ?_|refine pick_t rfl rfl rfl rfl rfl rfl rfl ?_|refine pick_f rfl rfl rfl rfl rfl rfl rfl ?_|refine aw_seq ?_|refine aw_region tab_ok _ rfl ?_|refine aw_drawn2 tabS_ok _ rfl mx_ (by decide +kernel) ?_|refine aw_condT rfl ?_|refine aw_condF rfl ?_|refine aw_block ?_|refine aw_exit ?_|refine aw_ret ?_|refine aw_skip ?_|rw [List.length_map]|rw [mn_norm]|rw [mx_norm]|rw [u10x]|rw [show ((0:Nat):Int)=0 from rfl])
   exact ⟨_,rfl,fm_ bs_ [] be_ bt_ bo_⟩
  cases hb7
  have hx7:gGroups22_K7 k_5 (.inl (out_13,n_14))=some _:=hk7
  unfold gGroups22_K7 at hx7
  dsimp only at hx7
  cases hx7
  repeat' (first|refine p_ rfl rfl rfl rfl rfl ?_|refine st_nil ?_|refine x_ rfl rfl rfl rfl rfl rfl rfl rfl ?_|refine l_ rfl rfl rfl rfl ?_|refine s_ rfl rfl rfl ?_|refine t_ rfl rfl rfl rfl ?_|refine k_ rfl rfl rfl ?_|refine k0_ rfl rfl ?_|refine c_ rfl rfl rfl rfl ?_|refine pick_t rfl rfl rfl rfl rfl rfl rfl ?_|refine pick_f rfl rfl rfl rfl rfl rfl rfl ?_|refine aw_seq ?_|refine aw_region tab_ok _ rfl ?_|refine aw_drawn2 tabS_ok _ rfl mx_ (by decide +kernel) ?_|refine aw_condT rfl ?_|refine aw_condF rfl ?_|refine aw_block ?_|refine aw_exit ?_|refine aw_ret ?_|refine aw_skip ?_|rw [List.length_map]|rw [mn_norm]|rw [mx_norm]|rw [u10x]|rw [show ((0:Nat):Int)=0 from rfl])
  exact ⟨_,rfl,fm_ bs_ [] be_ bt_ bo_⟩
 cases hb5
 have hx5:gGroups22_K5 (.inl (out_2,i_3))=some _:=hk5
 unfold gGroups22_K5 at hx5
 dsimp only at hx5
 cases hx5
 exact go_
def gBagR_B1 (r_1:(List SGroup)):((List Fct) × Int)→Option (Step ((List Fct) × Int) ((List Fct))):=fun s=>match s with
 | (out_2,i_3)=>bif (decide (i_3<((r_1.length:Nat):Int))) then (getI r_1 i_3).bind fun x_5=>(gLevR x_5.steps).bind fun r_6=>(gDuring x_5.row r_6).bind fun r_7=>bif (decide (out_2.length+r_7.length≤3518437208883)) then (some (.next ((out_2++r_7),(IntKind.i64.wrap (i_3+(1:Int)))))) else none else
 some (.exit (out_2,i_3))
def gBagR_K1:Sum ((List Fct) × Int) ((List Fct))→Option (((List Fct)))
 | .inl (out_2,i_3)=>some out_2
 | .inr q=>some q
def gBagR (a_l:(List Fct)):Option ((List Fct)):=(gGroups22 a_l).bind fun r_1=>(loopM (gBagR_B1 r_1) fuel ([],(0:Int))).bind (gBagR_K1)
theorem gBagR_ok {a_l:(List Fct)} {r:(List Fct)} (H:gBagR a_l=some r):Pure Tryz.prog 33 [.one (.lst (a_l.map cFct))] (.val (.one (.lst (r.map cFct)))):=by
 unfold gBagR at H
 refine po_ Tryz.func33 Tryz.ntmps33 ?_
 obtain ⟨r_1,c1,H⟩:=bd_ H
 replace c1:=gGroups22_ok c1
 refine gt_ ?_
 refine aw_tok 4 3 rfl ?_
 refine alM_ (fun s:(List Fct) × Int=>match s with|(out_2,i_3)=>[(3, .one (.c (.lst (r_1.map cSGroup)))),(4, .one (.own (out_2.map cFct) 0)),(5, .one (.c (.int .i64 i_3)))]) (fun s=>match s with|(out_2,i_3)=>[.spare out_2.length 3]) H (fun _=>Nat.zero_le _)
  (fm_ br_ [] rfl bt_ bo_) ?_
 rintro ⟨out_2,i_3⟩ st1 hb1 hk1
 unfold gBagR_B1 at hb1
 dsimp only at hb1 ⊢
 rcases cnd_ hb1 with ⟨q_4,hb1⟩|⟨q_4,hb1⟩
 ·obtain ⟨x_5,i2z,i2,i2x,hb1⟩:=idx_ (f:=cSGroup) hb1
  obtain ⟨r_6,c3,hb1⟩:=bd_ hb1
  replace c3:=gLevR_ok c3
  obtain ⟨r_7,c4,hb1⟩:=bd_ hb1
  replace c4:=gDuring_ok c4
  obtain ⟨g5,hb1⟩:=grd_d hb1
  cases hb1
  refine gt_ ?_
  exact ⟨_,rfl,fm_ bs_ [] be_ bt_ bo_⟩
 cases hb1
 have hx1:gBagR_K1 (.inl (out_2,i_3))=some _:=hk1
 unfold gBagR_K1 at hx1
 dsimp only at hx1
 cases hx1
 exact go_
def gIdent_B1 (a_a:(List Fct)) (a_b:(List Fct)):(Int)→Option (Step (Int) (Bool)):=fun s=>match s with
 | i_2=>bif (decide (i_2<((a_a.length:Nat):Int))) then (getI a_a i_2).bind fun x_4=>(getI a_b i_2).bind fun x_5=>bif (!(sameS [.c (.int .i64 x_4.valid.lo), .c (.int .i64 x_4.valid.hi)] [.c (.int .i64 x_5.valid.lo), .c (.int .i64 x_5.valid.hi)])) then some (.ret false) else
 (gCmp8 x_4.row x_5.row).bind fun r_7=>bif (decide (r_7≠(0:Int))) then some (.ret false) else
 some (.next (IntKind.i64.wrap (i_2+(1:Int)))) else
 some (.exit i_2)
def gIdent_K1:Sum (Int) (Bool)→Option ((Bool))
 | .inl i_2=>some true
 | .inr q=>some q
def gIdent (a_a:(List Fct)) (a_b:(List Fct)):Option (Bool):=bif (decide (((a_a.length:Nat):Int)≠((a_b.length:Nat):Int))) then some false else
 (loopM (gIdent_B1 a_a a_b) fuel (0:Int)).bind (gIdent_K1)
theorem gIdent_ok {a_a:(List Fct)} {a_b:(List Fct)} {r:Bool} (H:gIdent a_a a_b=some r):Pure Tryz.prog 34 [.one (.lst (a_a.map cFct)), .one (.lst (a_b.map cFct))] (.val (.one (.bool r))):=by
 unfold gIdent at H
 refine po_ Tryz.func34 Tryz.ntmps34 ?_
 rcases cnd_ H with ⟨q_1,H⟩|⟨q_1,H⟩
 ·cases H
  exact go_
 refine gt_ ?_
 refine alM_ (fun s:Int=>match s with|i_2=>[(0, .one (.c (.lst (a_a.map cFct)))),(1, .one (.c (.lst (a_b.map cFct)))),(5, .one (.c (.int .i64 i_2)))]) (fun s=>match s with|i_2=>[]) H (fun _=>Nat.zero_le _)
  (fm_ br_ [] rfl bt_ trivial) ?_
 rintro i_2 st1 hb1 hk1
 unfold gIdent_B1 at hb1
 dsimp only at hb1 ⊢
 rcases cnd_ hb1 with ⟨q_3,hb1⟩|⟨q_3,hb1⟩
 ·obtain ⟨x_4,i1z,i1,i1x,hb1⟩:=idx_ (f:=cFct) hb1
  obtain ⟨x_5,i2z,i2,i2x,hb1⟩:=idx_ (f:=cFct) hb1
  rcases cnd_ hb1 with ⟨q_6,hb1⟩|⟨q_6,hb1⟩
  ·cases hb1
   have hx1:gIdent_K1 (.inr false)=some _:=hk1
   unfold gIdent_K1 at hx1
   dsimp only at hx1
   cases hx1
   exact go_
  obtain ⟨r_7,c3,hb1⟩:=bd_ hb1
  replace c3:=gCmp8_ok c3
  rcases cnd_ hb1 with ⟨q_8,hb1⟩|⟨q_8,hb1⟩
  ·cases hb1
   have hx1:gIdent_K1 (.inr false)=some _:=hk1
   unfold gIdent_K1 at hx1
   dsimp only at hx1
   cases hx1
   exact go_
  cases hb1
  refine gt_ ?_
  exact ⟨_,rfl,fm_ br_ [] rfl bt_ trivial⟩
 cases hb1
 have hx1:gIdent_K1 (.inl i_2)=some _:=hk1
 unfold gIdent_K1 at hx1
 dsimp only at hx1
 cases hx1
 exact go_
end
set_option maxHeartbeats 8000000
def gTextR (a_s:ByteArray):Option (Val):=(gvalidR (⟨(2:Int),(0:Int),a_s⟩:Val)).bind fun r_1=>some r_1
theorem gTextR_ok {a_s:ByteArray} {r:Val} (H:gTextR a_s=some r):Pure Tryz.prog 159 [.one (.str a_s)] (.val (.agg (cV r))):=by
 unfold gTextR at H
 refine po_ Tryz.func159 Tryz.ntmps159 ?_
 obtain ⟨r_1,c1,H⟩:=bd_ H
 replace c1:=gvalidR_ok c1
 cases H
 exact go_
def gBoolR (a_b:Bool):Option (Val):=bif a_b then some (⟨(3:Int),(1:Int),ByteArray.empty⟩:Val) else
 some (⟨(3:Int),(0:Int),ByteArray.empty⟩:Val)
theorem gBoolR_ok {a_b:Bool} {r:Val} (H:gBoolR a_b=some r):Pure Tryz.prog 107 [.one (.bool a_b)] (.val (.agg (cV r))):=by
 unfold gBoolR at H
 refine po_ Tryz.func107 Tryz.ntmps107 ?_
 rcases cnd_ H with ⟨q_1,H⟩|⟨q_1,H⟩
 ·cases H
  exact go_
 cases H
 exact go_
def gtruthR (a_a:Val) (a_b:Val) (a_is:Bool):Option (Int):=bif (decide (a_a.kind=(0:Int))) then some (1:Int) else
 bif (decide (a_a.kind≠a_b.kind)) then some (1:Int) else
 bif a_is then some (2:Int) else
 some (0:Int)
theorem gtruthR_ok {a_a:Val} {a_b:Val} {a_is:Bool} {r:Int} (H:gtruthR a_a a_b a_is=some r):Pure Tryz.prog 185 [.agg (cV a_a), .agg (cV a_b), .one (.bool a_is)] (.val (.one (.int .i64 r))):=by
 unfold gtruthR at H
 refine po_ Tryz.func185 Tryz.ntmps185 ?_
 rcases cnd_ H with ⟨q_1,H⟩|⟨q_1,H⟩
 ·cases H
  exact go_
 rcases cnd_ H with ⟨q_2,H⟩|⟨q_2,H⟩
 ·cases H
  exact go_
 rcases cnd_ H with ⟨q_3,H⟩|⟨q_3,H⟩
 ·cases H
  exact go_
 cases H
 exact go_
def gEqR (a_a:Val) (a_b:Val):Option (Int):=(gCmp7 a_a a_b).bind fun r_1=>(gtruthR a_a a_b (decide (r_1=(0:Int)))).bind fun r_2=>some r_2
theorem gEqR_ok {a_a:Val} {a_b:Val} {r:Int} (H:gEqR a_a a_b=some r):Pure Tryz.prog 156 [.agg (cV a_a), .agg (cV a_b)] (.val (.one (.int .i64 r))):=by
 unfold gEqR at H
 refine po_ Tryz.func156 Tryz.ntmps156 ?_
 obtain ⟨r_1,c1,H⟩:=bd_ H
 replace c1:=gCmp7_ok c1
 obtain ⟨r_2,c2,H⟩:=bd_ H
 replace c2:=gtruthR_ok c2
 cases H
 exact go_
def gLessR (a_a:Val) (a_b:Val):Option (Int):=(gCmp7 a_a a_b).bind fun r_1=>(gtruthR a_a a_b (decide (r_1<(0:Int)))).bind fun r_2=>some r_2
theorem gLessR_ok {a_a:Val} {a_b:Val} {r:Int} (H:gLessR a_a a_b=some r):Pure Tryz.prog 157 [.agg (cV a_a), .agg (cV a_b)] (.val (.one (.int .i64 r))):=by
 unfold gLessR at H
 refine po_ Tryz.func157 Tryz.ntmps157 ?_
 obtain ⟨r_1,c1,H⟩:=bd_ H
 replace c1:=gCmp7_ok c1
 obtain ⟨r_2,c2,H⟩:=bd_ H
 replace c2:=gtruthR_ok c2
 cases H
 exact go_
def gNotR (a_a:Int):Option (Int):=bif (decide (a_a=(2:Int))) then some (0:Int) else
 bif (decide (a_a=(0:Int))) then some (2:Int) else
 some (1:Int)
theorem gNotR_ok {a_a:Int} {r:Int} (H:gNotR a_a=some r):Pure Tryz.prog 112 [.one (.int .i64 a_a)] (.val (.one (.int .i64 r))):=by
 unfold gNotR at H
 refine po_ Tryz.func112 Tryz.ntmps112 ?_
 rcases cnd_ H with ⟨q_1,H⟩|⟨q_1,H⟩
 ·cases H
  exact go_
 rcases cnd_ H with ⟨q_2,H⟩|⟨q_2,H⟩
 ·cases H
  exact go_
 cases H
 exact go_
def gAndR (a_a:Int) (a_b:Int):Option (Int):=bif (decide (a_a=(0:Int))) then some (0:Int) else
 bif (decide (a_b=(0:Int))) then some (0:Int) else
 bif (decide (a_a=(2:Int))) then bif (decide (a_b=(2:Int))) then some (2:Int) else
 some (1:Int) else
 some (1:Int)
theorem gAndR_ok {a_a:Int} {a_b:Int} {r:Int} (H:gAndR a_a a_b=some r):Pure Tryz.prog 154 [.one (.int .i64 a_a), .one (.int .i64 a_b)] (.val (.one (.int .i64 r))):=by
 unfold gAndR at H
 refine po_ Tryz.func154 Tryz.ntmps154 ?_
 rcases cnd_ H with ⟨q_1,H⟩|⟨q_1,H⟩
 ·cases H
  exact go_
 rcases cnd_ H with ⟨q_2,H⟩|⟨q_2,H⟩
 ·cases H
  exact go_
 rcases cnd_ H with ⟨q_3,H⟩|⟨q_3,H⟩
 ·rcases cnd_ H with ⟨q_4,H⟩|⟨q_4,H⟩
  ·cases H
   exact go_
  cases H
  exact go_
 cases H
 exact go_
def gOrR (a_a:Int) (a_b:Int):Option (Int):=bif (decide (a_a=(2:Int))) then some (2:Int) else
 bif (decide (a_b=(2:Int))) then some (2:Int) else
 bif (decide (a_a=(0:Int))) then bif (decide (a_b=(0:Int))) then some (0:Int) else
 some (1:Int) else
 some (1:Int)
theorem gOrR_ok {a_a:Int} {a_b:Int} {r:Int} (H:gOrR a_a a_b=some r):Pure Tryz.prog 155 [.one (.int .i64 a_a), .one (.int .i64 a_b)] (.val (.one (.int .i64 r))):=by
 unfold gOrR at H
 refine po_ Tryz.func155 Tryz.ntmps155 ?_
 rcases cnd_ H with ⟨q_1,H⟩|⟨q_1,H⟩
 ·cases H
  exact go_
 rcases cnd_ H with ⟨q_2,H⟩|⟨q_2,H⟩
 ·cases H
  exact go_
 rcases cnd_ H with ⟨q_3,H⟩|⟨q_3,H⟩
 ·rcases cnd_ H with ⟨q_4,H⟩|⟨q_4,H⟩
  ·cases H
   exact go_
  cases H
  exact go_
 cases H
 exact go_
def gTruth7 (a_v:Val):Option (Int):=(gBoolR true).bind fun r_1=>bif (sameS [.c (.int .i64 a_v.kind), .c (.int .i64 a_v.int), .c (.str a_v.text)] [.c (.int .i64 r_1.kind), .c (.int .i64 r_1.int), .c (.str r_1.text)]) then some (2:Int) else
 (gBoolR false).bind fun r_3=>bif (sameS [.c (.int .i64 a_v.kind), .c (.int .i64 a_v.int), .c (.str a_v.text)] [.c (.int .i64 r_3.kind), .c (.int .i64 r_3.int), .c (.str r_3.text)]) then some (0:Int) else
 some (1:Int)
theorem gTruth7_ok {a_v:Val} {r:Int} (H:gTruth7 a_v=some r):Pure Tryz.prog 74 [.agg (cV a_v)] (.val (.one (.int .i64 r))):=by
 unfold gTruth7 at H
 refine po_ Tryz.func74 Tryz.ntmps74 ?_
 obtain ⟨r_1,c1,H⟩:=bd_ H
 replace c1:=gBoolR_ok c1
 rcases cnd_ H with ⟨q_2,H⟩|⟨q_2,H⟩
 ·cases H
  exact go_
 obtain ⟨r_3,c2,H⟩:=bd_ H
 replace c2:=gBoolR_ok c2
 rcases cnd_ H with ⟨q_4,H⟩|⟨q_4,H⟩
 ·cases H
  exact go_
 cases H
 exact go_
def gOf7 (a_t:Int):Option (Val):=bif (decide (a_t=(2:Int))) then (gBoolR (decide (a_t=(2:Int)))).bind fun r_2=>some r_2 else
 bif (decide (a_t=(0:Int))) then (gBoolR (decide (a_t=(2:Int)))).bind fun r_4=>some r_4 else
 (gNullR ).bind fun r_5=>some r_5
theorem gOf7_ok {a_t:Int} {r:Val} (H:gOf7 a_t=some r):Pure Tryz.prog 111 [.one (.int .i64 a_t)] (.val (.agg (cV r))):=by
 unfold gOf7 at H
 refine po_ Tryz.func111 Tryz.ntmps111 ?_
 rcases cnd_ H with ⟨q_1,H⟩|⟨q_1,H⟩
 ·obtain ⟨r_2,c1,H⟩:=bd_ H
  replace c1:=gBoolR_ok c1
  cases H
  exact go_
 rcases cnd_ H with ⟨q_3,H⟩|⟨q_3,H⟩
 ·obtain ⟨r_4,c2,H⟩:=bd_ H
  replace c2:=gBoolR_ok c2
  cases H
  exact go_
 obtain ⟨r_5,c3,H⟩:=bd_ H
 replace c3:=gNullR_ok c3
 cases H
 exact go_
set_option maxHeartbeats 8000000
def gArity (a_op:Int):Option (Int × Int):=bif (decide (a_op=(1:Int))) then some ((0:Int),(0:Int)) else
 bif (decide (a_op=(2:Int))) then some ((0:Int),(0:Int)) else
 bif (decide (a_op=(4:Int))) then some ((1:Int),(1:Int)) else
 bif (decide (a_op=(18:Int))) then some ((1:Int),(1:Int)) else
 bif (decide (a_op=(20:Int))) then some ((1:Int),(1:Int)) else
 bif (decide (a_op=(21:Int))) then some ((1:Int),(1:Int)) else
 bif (decide (a_op=(5:Int))) then some ((2:Int),(1099511627776:Int)) else
 bif (decide (a_op=(6:Int))) then some ((2:Int),(1099511627776:Int)) else
 bif (decide (a_op=(7:Int))) then some ((2:Int),(2:Int)) else
 bif (decide (a_op=(8:Int))) then some ((2:Int),(2:Int)) else
 bif (decide (a_op=(9:Int))) then some ((2:Int),(2:Int)) else
 bif (decide (a_op=(10:Int))) then some ((2:Int),(2:Int)) else
 bif (decide (a_op=(11:Int))) then some ((2:Int),(2:Int)) else
 bif (decide (a_op=(12:Int))) then some ((2:Int),(2:Int)) else
 bif (decide (a_op=(13:Int))) then some ((2:Int),(2:Int)) else
 bif (decide (a_op=(14:Int))) then some ((2:Int),(2:Int)) else
 bif (decide (a_op=(15:Int))) then some ((2:Int),(2:Int)) else
 bif (decide (a_op=(16:Int))) then some ((2:Int),(2:Int)) else
 bif (decide (a_op=(17:Int))) then some ((2:Int),(2:Int)) else
 bif (decide (a_op=(19:Int))) then some ((2:Int),(2:Int)) else
 bif (decide (a_op=(22:Int))) then some ((3:Int),(3:Int)) else
 bif (decide (a_op=(23:Int))) then some ((1:Int),(1099511627776:Int)) else
 bif (decide (a_op=(24:Int))) then some ((4:Int),(4:Int)) else
 some ((-1:Int),(0:Int))
theorem gArity_ok {a_op:Int} {r:Int × Int} (H:gArity a_op=some r):Pure Tryz.prog 150 [.one (.int .i64 a_op)] (.tup [.one (.int .i64 r.1), .one (.int .i64 r.2)]):=by
 unfold gArity at H
 refine po_ Tryz.func150 Tryz.ntmps150 ?_
 rcases cnd_ H with ⟨q_1,H⟩|⟨q_1,H⟩
 ·cases H
  exact go_
 rcases cnd_ H with ⟨q_2,H⟩|⟨q_2,H⟩
 ·cases H
  exact go_
 refine gt_ ?_
 rcases cnd_ H with ⟨q_3,H⟩|⟨q_3,H⟩
 ·cases H
  exact go_
 rcases cnd_ H with ⟨q_4,H⟩|⟨q_4,H⟩
 ·cases H
  exact go_
 rcases cnd_ H with ⟨q_5,H⟩|⟨q_5,H⟩
 ·cases H
  exact go_
 refine gt_ ?_
 rcases cnd_ H with ⟨q_6,H⟩|⟨q_6,H⟩
 ·cases H
  exact go_
 rcases cnd_ H with ⟨q_7,H⟩|⟨q_7,H⟩
 ·cases H
  exact go_
 rcases cnd_ H with ⟨q_8,H⟩|⟨q_8,H⟩
 ·cases H
  exact go_
 refine gt_ ?_
 rcases cnd_ H with ⟨q_9,H⟩|⟨q_9,H⟩
 ·cases H
  exact go_
 rcases cnd_ H with ⟨q_10,H⟩|⟨q_10,H⟩
 ·cases H
  exact go_
 rcases cnd_ H with ⟨q_11,H⟩|⟨q_11,H⟩
 ·cases H
  exact go_
 refine gt_ ?_
 rcases cnd_ H with ⟨q_12,H⟩|⟨q_12,H⟩
 ·cases H
  exact go_
 rcases cnd_ H with ⟨q_13,H⟩|⟨q_13,H⟩
 ·cases H
  exact go_
 rcases cnd_ H with ⟨q_14,H⟩|⟨q_14,H⟩
 ·cases H
  exact go_
 refine gt_ ?_
 rcases cnd_ H with ⟨q_15,H⟩|⟨q_15,H⟩
 ·cases H
  exact go_
 rcases cnd_ H with ⟨q_16,H⟩|⟨q_16,H⟩
 ·cases H
  exact go_
 rcases cnd_ H with ⟨q_17,H⟩|⟨q_17,H⟩
 ·cases H
  exact go_
 refine gt_ ?_
 rcases cnd_ H with ⟨q_18,H⟩|⟨q_18,H⟩
 ·cases H
  exact go_
 rcases cnd_ H with ⟨q_19,H⟩|⟨q_19,H⟩
 ·cases H
  exact go_
 rcases cnd_ H with ⟨q_20,H⟩|⟨q_20,H⟩
 ·cases H
  exact go_
 refine gt_ ?_
 rcases cnd_ H with ⟨q_21,H⟩|⟨q_21,H⟩
 ·cases H
  exact go_
 rcases cnd_ H with ⟨q_22,H⟩|⟨q_22,H⟩
 ·cases H
  exact go_
 rcases cnd_ H with ⟨q_23,H⟩|⟨q_23,H⟩
 ·cases H
  exact go_
 cases H
 exact go_
def gFormedR (a_e:Ex):Option (Bool):=(gArity a_e.op).bind fun r_1=>bif (decide (r_1.1<(0:Int))) then some false else
 bif (decide (((a_e.args.length:Nat):Int)<r_1.1)) then some false else
 bif (decide (r_1.2<((a_e.args.length:Nat):Int))) then some false else
 bif (!(a_e.nm.toList==(⟨#[]⟩:ByteArray).toList)) then some false else
 bif (decide (a_e.op=(1:Int))) then bif (decide (a_e.int=(0:Int))) then (gValidR a_e.v).bind fun r_8=>some r_8 else
 some false else
 bif (decide (a_e.op=(2:Int))) then (gNullR ).bind fun r_10=>some (sameS [.c (.int .i64 a_e.v.kind), .c (.int .i64 a_e.v.int), .c (.str a_e.v.text)] [.c (.int .i64 r_10.kind), .c (.int .i64 r_10.int), .c (.str r_10.text)]) else
 bif (decide (a_e.op=(24:Int))) then (gNullR ).bind fun r_12=>bif (sameS [.c (.int .i64 a_e.v.kind), .c (.int .i64 a_e.v.int), .c (.str a_e.v.text)] [.c (.int .i64 r_12.kind), .c (.int .i64 r_12.int), .c (.str r_12.text)]) then bif (decide ((0:Int)≤a_e.int)) then some (decide (a_e.int<(13:Int))) else
 some false else
 some false else
 bif (decide (a_e.int=(0:Int))) then (gNullR ).bind fun r_16=>some (sameS [.c (.int .i64 a_e.v.kind), .c (.int .i64 a_e.v.int), .c (.str a_e.v.text)] [.c (.int .i64 r_16.kind), .c (.int .i64 r_16.int), .c (.str r_16.text)]) else
 some false
theorem gFormedR_ok {a_e:Ex} {r:Bool} (H:gFormedR a_e=some r):Pure Tryz.prog 108 [.agg (tE a_e)] (.val (.one (.bool r))):=by
 unfold gFormedR at H
 rw [tE_eq a_e]
 refine po_ Tryz.func108 Tryz.ntmps108 ?_
 obtain ⟨r_1,c1,H⟩:=bd_ H
 replace c1:=gArity_ok c1
 rcases cnd_ H with ⟨q_2,H⟩|⟨q_2,H⟩
 ·cases H
  exact go_
 rcases cnd_ H with ⟨q_3,H⟩|⟨q_3,H⟩
 ·cases H
  exact go_
 refine gt_ ?_
 rcases cnd_ H with ⟨q_4,H⟩|⟨q_4,H⟩
 ·cases H
  exact go_
 rcases cnd_ H with ⟨q_5,H⟩|⟨q_5,H⟩
 ·cases H
  exact go_
 rcases cnd_ H with ⟨q_6,H⟩|⟨q_6,H⟩
 ·refine gt_ ?_
  rcases cnd_ H with ⟨q_7,H⟩|⟨q_7,H⟩
  ·obtain ⟨r_8,c2,H⟩:=bd_ H
   replace c2:=gValidR_ok c2
   cases H
   exact go_
  cases H
  exact go_
 refine gt_ ?_
 rcases cnd_ H with ⟨q_9,H⟩|⟨q_9,H⟩
 ·obtain ⟨r_10,c3,H⟩:=bd_ H
  replace c3:=gNullR_ok c3
  cases H
  exact go_
 rcases cnd_ H with ⟨q_11,H⟩|⟨q_11,H⟩
 ·obtain ⟨r_12,c4,H⟩:=bd_ H
  replace c4:=gNullR_ok c4
  rcases cnd_ H with ⟨q_13,H⟩|⟨q_13,H⟩
  ·refine gt_ ?_
   rcases cnd_ H with ⟨q_14,H⟩|⟨q_14,H⟩
   ·cases H
    exact go_
   cases H
   exact go_
  cases H
  exact go_
 rcases cnd_ H with ⟨q_15,H⟩|⟨q_15,H⟩
 ·obtain ⟨r_16,c5,H⟩:=bd_ H
  replace c5:=gNullR_ok c5
  cases H
  exact go_
 cases H
 exact go_
set_option maxHeartbeats 8000000
def gCompared (a_op:Int) (a_a:Val) (a_b:Val):Option (Int):=bif (decide (a_op=(7:Int))) then (gEqR a_a a_b).bind fun r_2=>some r_2 else
 bif (decide (a_op=(8:Int))) then (gEqR a_a a_b).bind fun r_4=>(gNotR r_4).bind fun r_5=>some r_5 else
 bif (decide (a_op=(9:Int))) then (gLessR a_a a_b).bind fun r_7=>some r_7 else
 bif (decide (a_op=(11:Int))) then (gLessR a_b a_a).bind fun r_9=>some r_9 else
 bif (decide (a_op=(10:Int))) then (gLessR a_b a_a).bind fun r_11=>(gNotR r_11).bind fun r_12=>some r_12 else
 (gLessR a_a a_b).bind fun r_13=>(gNotR r_13).bind fun r_14=>some r_14
theorem gCompared_ok {a_op:Int} {a_a:Val} {a_b:Val} {r:Int} (H:gCompared a_op a_a a_b=some r):Pure Tryz.prog 114 [.one (.int .i64 a_op), .agg (cV a_a), .agg (cV a_b)] (.val (.one (.int .i64 r))):=by
 unfold gCompared at H
 refine po_ Tryz.func114 Tryz.ntmps114 ?_
 rcases cnd_ H with ⟨q_1,H⟩|⟨q_1,H⟩
 ·obtain ⟨r_2,c1,H⟩:=bd_ H
  replace c1:=gEqR_ok c1
  cases H
  exact go_
 rcases cnd_ H with ⟨q_3,H⟩|⟨q_3,H⟩
 ·obtain ⟨r_4,c2,H⟩:=bd_ H
  replace c2:=gEqR_ok c2
  obtain ⟨r_5,c3,H⟩:=bd_ H
  replace c3:=gNotR_ok c3
  cases H
  exact go_
 refine gt_ ?_
 rcases cnd_ H with ⟨q_6,H⟩|⟨q_6,H⟩
 ·obtain ⟨r_7,c4,H⟩:=bd_ H
  replace c4:=gLessR_ok c4
  cases H
  exact go_
 rcases cnd_ H with ⟨q_8,H⟩|⟨q_8,H⟩
 ·obtain ⟨r_9,c5,H⟩:=bd_ H
  replace c5:=gLessR_ok c5
  cases H
  exact go_
 rcases cnd_ H with ⟨q_10,H⟩|⟨q_10,H⟩
 ·obtain ⟨r_11,c6,H⟩:=bd_ H
  replace c6:=gLessR_ok c6
  obtain ⟨r_12,c7,H⟩:=bd_ H
  replace c7:=gNotR_ok c7
  cases H
  exact go_
 obtain ⟨r_13,c8,H⟩:=bd_ H
 replace c8:=gLessR_ok c8
 obtain ⟨r_14,c9,H⟩:=bd_ H
 replace c9:=gNotR_ok c9
 cases H
 exact go_
def gAbs (a_n:Int):Option (Int):=some (mxI a_n (IntKind.i64.wrap (0-a_n)))
theorem gAbs_ok {a_n:Int} {r:Int} (H:gAbs a_n=some r):Pure Tryz.prog 161 [.one (.int .i64 a_n)] (.val (.one (.int .i64 r))):=by
 unfold gAbs at H
 refine po_ Tryz.func161 Tryz.ntmps161 ?_
 cases H
 exact go_
def gComputed (a_op:Int) (a_a:Int) (a_b:Int):Option (Val):=bif (decide (a_op=(13:Int))) then (gIntR (IntKind.i64.wrap (a_a+a_b))).bind fun r_2=>some r_2 else
 bif (decide (a_op=(14:Int))) then (gIntR (IntKind.i64.wrap (a_a-a_b))).bind fun r_4=>some r_4 else
 bif (decide (a_op=(15:Int))) then bif (decide (a_a≠(0:Int))) then (gAbs a_b).bind fun r_7=>(gAbs a_a).bind fun r_8=>bif (decide (r_8≠0)) then (bif (decide ((IntKind.i64.wrap ((1125899906842624:Int).tdiv r_8))<r_7)) then (gNullR ).bind fun r_10=>some r_10 else
 (gIntR (IntKind.i64.wrap (a_a*a_b))).bind fun r_11=>some r_11) else none else
 (gIntR (IntKind.i64.wrap (a_a*a_b))).bind fun r_12=>some r_12 else
 bif (decide (a_b=(0:Int))) then (gNullR ).bind fun r_14=>some r_14 else
 bif (decide (a_op=(16:Int))) then bif (decide (a_b≠0)) then ((gIntR (IntKind.i64.wrap (a_a.tdiv a_b))).bind fun r_16=>some r_16) else none else
 bif (decide (a_b≠0)) then ((gIntR (a_a.tmod a_b)).bind fun r_17=>some r_17) else none
theorem gComputed_ok {a_op:Int} {a_a:Int} {a_b:Int} {r:Val} (H:gComputed a_op a_a a_b=some r):Pure Tryz.prog 120 [.one (.int .i64 a_op), .one (.int .i64 a_a), .one (.int .i64 a_b)] (.val (.agg (cV r))):=by
 unfold gComputed at H
 refine po_ Tryz.func120 Tryz.ntmps120 ?_
 rcases cnd_ H with ⟨q_1,H⟩|⟨q_1,H⟩
 ·obtain ⟨r_2,c1,H⟩:=bd_ H
  replace c1:=gIntR_ok c1
  cases H
  exact go_
 rcases cnd_ H with ⟨q_3,H⟩|⟨q_3,H⟩
 ·obtain ⟨r_4,c2,H⟩:=bd_ H
  replace c2:=gIntR_ok c2
  cases H
  exact go_
 refine gt_ ?_
 rcases cnd_ H with ⟨q_5,H⟩|⟨q_5,H⟩
 ·rcases cnd_ H with ⟨q_6,H⟩|⟨q_6,H⟩
  ·obtain ⟨r_7,c3,H⟩:=bd_ H
   replace c3:=gAbs_ok c3
   obtain ⟨r_8,c4,H⟩:=bd_ H
   replace c4:=gAbs_ok c4
   obtain ⟨g5,H⟩:=grd_d H
   rcases cnd_ H with ⟨q_9,H⟩|⟨q_9,H⟩
   ·obtain ⟨r_10,c6,H⟩:=bd_ H
    replace c6:=gNullR_ok c6
    cases H
    exact go_
   obtain ⟨r_11,c7,H⟩:=bd_ H
   replace c7:=gIntR_ok c7
   cases H
   exact go_
  obtain ⟨r_12,c8,H⟩:=bd_ H
  replace c8:=gIntR_ok c8
  cases H
  exact go_
 rcases cnd_ H with ⟨q_13,H⟩|⟨q_13,H⟩
 ·obtain ⟨r_14,c9,H⟩:=bd_ H
  replace c9:=gNullR_ok c9
  cases H
  exact go_
 rcases cnd_ H with ⟨q_15,H⟩|⟨q_15,H⟩
 ·obtain ⟨g10,H⟩:=grd_d H
  obtain ⟨r_16,c11,H⟩:=bd_ H
  replace c11:=gIntR_ok c11
  cases H
  exact go_
 obtain ⟨g12,H⟩:=grd_d H
 obtain ⟨r_17,c13,H⟩:=bd_ H
 replace c13:=gIntR_ok c13
 cases H
 exact go_
def gAre_B1 (a_l:(List Val)) (a_kind:Int):(Int)→Option (Step (Int) (Bool)):=fun s=>match s with
 | i_1=>bif (decide (i_1<((a_l.length:Nat):Int))) then (getI a_l i_1).bind fun x_3=>bif (decide (x_3.kind≠a_kind)) then some (.ret false) else
 some (.next (IntKind.i64.wrap (i_1+(1:Int)))) else
 some (.exit i_1)
def gAre_K1:Sum (Int) (Bool)→Option ((Bool))
 | .inl i_1=>some true
 | .inr q=>some q
def gAre (a_l:(List Val)) (a_kind:Int):Option (Bool):=(loopM (gAre_B1 a_l a_kind) fuel (0:Int)).bind (gAre_K1)
theorem gAre_ok {a_l:(List Val)} {a_kind:Int} {r:Bool} (H:gAre a_l a_kind=some r):Pure Tryz.prog 115 [.one (.lst (a_l.map cV)), .one (.int .i64 a_kind)] (.val (.one (.bool r))):=by
 unfold gAre at H
 refine po_ Tryz.func115 Tryz.ntmps115 ?_
 refine gt_ ?_
 refine alM_ (fun s:Int=>match s with|i_1=>[(0, .one (.c (.lst (a_l.map cV)))),(1, .one (.c (.int .i64 a_kind))),(5, .one (.c (.int .i64 i_1)))]) (fun s=>match s with|i_1=>[]) H (fun _=>Nat.zero_le _)
  (fm_ br_ [] rfl bt_ trivial) ?_
 rintro i_1 st1 hb1 hk1
 unfold gAre_B1 at hb1
 dsimp only at hb1 ⊢
 rcases cnd_ hb1 with ⟨q_2,hb1⟩|⟨q_2,hb1⟩
 ·obtain ⟨x_3,i1z,i1,i1x,hb1⟩:=idx_ (f:=cV) hb1
  rcases cnd_ hb1 with ⟨q_4,hb1⟩|⟨q_4,hb1⟩
  ·cases hb1
   have hx1:gAre_K1 (.inr false)=some _:=hk1
   unfold gAre_K1 at hx1
   dsimp only at hx1
   cases hx1
   exact go_
  cases hb1
  refine gt_ ?_
  exact ⟨_,rfl,fm_ br_ [] rfl bt_ trivial⟩
 cases hb1
 have hx1:gAre_K1 (.inl i_1)=some _:=hk1
 unfold gAre_K1 at hx1
 dsimp only at hx1
 cases hx1
 exact go_
def gLogicR_B1 (a_op:Int) (a_l:(List Val)):(Int × Int)→Option (Step (Int × Int) (Val)):=fun s=>match s with
 | (t_3,i_4)=>bif (decide (i_4<((a_l.length:Nat):Int))) then bif (decide (a_op=(5:Int))) then (getI a_l i_4).bind fun x_7=>(gTruth7 x_7).bind fun r_8=>(gAndR t_3 r_8).bind fun r_9=>some (.next (r_9,(IntKind.i64.wrap (i_4+(1:Int))))) else
 (getI a_l i_4).bind fun x_10=>(gTruth7 x_10).bind fun r_11=>(gOrR t_3 r_11).bind fun r_12=>some (.next (r_12,(IntKind.i64.wrap (i_4+(1:Int))))) else
 some (.exit (t_3,i_4))
def gLogicR_K1:Sum (Int × Int) (Val)→Option ((Val))
 | .inl (t_3,i_4)=>(gOf7 t_3).bind fun r_13=>some r_13
 | .inr q=>some q
def gLogicR (a_op:Int) (a_l:(List Val)):Option (Val):=(getI a_l (0:Int)).bind fun x_1=>(gTruth7 x_1).bind fun r_2=>(loopM (gLogicR_B1 a_op a_l) fuel (r_2,(1:Int))).bind (gLogicR_K1)
theorem gLogicR_ok {a_op:Int} {a_l:(List Val)} {r:Val} (H:gLogicR a_op a_l=some r):Pure Tryz.prog 113 [.one (.int .i64 a_op), .one (.lst (a_l.map cV))] (.val (.agg (cV r))):=by
 unfold gLogicR at H
 refine po_ Tryz.func113 Tryz.ntmps113 ?_
 obtain ⟨x_1,i1z,i1,i1x,H⟩:=idx_ (f:=cV) H
 obtain ⟨r_2,c2,H⟩:=bd_ H
 replace c2:=gTruth7_ok c2
 refine gt_ ?_
 refine alM_ (fun s:Int × Int=>match s with|(t_3,i_4)=>[(0, .one (.c (.int .i64 a_op))),(1, .one (.c (.lst (a_l.map cV)))),(4, .one (.ptr 0 0)),(5, .one (.c (.int .i64 t_3))),(6, .one (.c (.int .i64 i_4)))]) (fun s=>match s with|(t_3,i_4)=>[.box [.c (.int .i64 (0:Int)), .c (.int .i64 (0:Int)), .c (.str ByteArray.empty)]]) H (fun _=>Nat.zero_le _)
  (fm_ br_ [] rfl bt_ bo_) ?_
 rintro ⟨t_3,i_4⟩ st1 hb1 hk1
 unfold gLogicR_B1 at hb1
 dsimp only at hb1 ⊢
 rcases cnd_ hb1 with ⟨q_5,hb1⟩|⟨q_5,hb1⟩
 ·rcases cnd_ hb1 with ⟨q_6,hb1⟩|⟨q_6,hb1⟩
  ·obtain ⟨x_7,i3z,i3,i3x,hb1⟩:=idx_ (f:=cV) hb1
   obtain ⟨r_8,c4,hb1⟩:=bd_ hb1
   replace c4:=gTruth7_ok c4
   obtain ⟨r_9,c5,hb1⟩:=bd_ hb1
   replace c5:=gAndR_ok c5
   cases hb1
   refine gt_ ?_
   exact ⟨_,rfl,fm_ br_ [] rfl bt_ bo_⟩
  obtain ⟨x_10,i6z,i6,i6x,hb1⟩:=idx_ (f:=cV) hb1
  obtain ⟨r_11,c7,hb1⟩:=bd_ hb1
  replace c7:=gTruth7_ok c7
  obtain ⟨r_12,c8,hb1⟩:=bd_ hb1
  replace c8:=gOrR_ok c8
  cases hb1
  refine gt_ ?_
  exact ⟨_,rfl,fm_ br_ [] rfl bt_ bo_⟩
 cases hb1
 have hx1:gLogicR_K1 (.inl (t_3,i_4))=some _:=hk1
 unfold gLogicR_K1 at hx1
 dsimp only at hx1
 obtain ⟨r_13,c9,hx1⟩:=bd_ hx1
 replace c9:=gOf7_ok c9
 cases hx1
 exact go_
end Go.Proofs.YtfccopdbgfdcdaaGreatDoor
