/- Parts of the proof, joined. No condition. -/
import Derived.Test.YtfccopdbgfdcdaaGreatDoorKBN
import Derived.Test.YtfccopdbgfdcdaaGreatDoorKBL
import Derived.Test.YtfccopdbgfdcdaaGreatDoorKBM
import Derived.Test.YtfccopdbgfdcdaaGreatDoorKAM
import Derived.Test.YtfccopdbgfdcdaaGreatDoorKBI
import Derived.ProofKit
import Derived.OpenShut
import Derived.ChangeOld
import Derived.Deep.Slices
set_option linter.unusedSimpArgs false
set_option linter.unusedVariables false
namespace Go.Proofs.YtfccopdbgfdcdaaGreatDoor
open Go.RowKit Go.MapKept
set_option maxRecDepth 100000
set_option maxHeartbeats 8000000
def gIs2 (a_rel:Int) (a_p:Per) (a_q:Per):Option (Bool):=bif (decide (a_rel=(0:Int))) then some (decide (a_p.hi<a_q.lo)) else
 bif (decide (a_rel=(1:Int))) then some (decide (a_p.hi=a_q.lo)) else
 bif (decide (a_rel=(2:Int))) then bif (decide (a_p.lo<a_q.lo)) then bif (decide (a_q.lo<a_p.hi)) then some (decide (a_p.hi<a_q.hi)) else
 some false else
 some false else
 bif (decide (a_rel=(3:Int))) then bif (decide (a_p.lo=a_q.lo)) then some (decide (a_p.hi<a_q.hi)) else
 some false else
 bif (decide (a_rel=(4:Int))) then bif (decide (a_q.lo<a_p.lo)) then some (decide (a_p.hi<a_q.hi)) else
 some false else
 bif (decide (a_rel=(5:Int))) then bif (decide (a_p.hi=a_q.hi)) then some (decide (a_q.lo<a_p.lo)) else
 some false else
 bif (decide (a_rel=(6:Int))) then some (sameS [.c (.int .i64 a_p.lo), .c (.int .i64 a_p.hi)] [.c (.int .i64 a_q.lo), .c (.int .i64 a_q.hi)]) else
 bif (decide (a_rel=(7:Int))) then bif (decide (a_p.hi=a_q.hi)) then some (decide (a_p.lo<a_q.lo)) else
 some false else
 bif (decide (a_rel=(8:Int))) then bif (decide (a_p.lo<a_q.lo)) then some (decide (a_q.hi<a_p.hi)) else
 some false else
 bif (decide (a_rel=(9:Int))) then bif (decide (a_p.lo=a_q.lo)) then some (decide (a_q.hi<a_p.hi)) else
 some false else
 bif (decide (a_rel=(10:Int))) then bif (decide (a_q.lo<a_p.lo)) then bif (decide (a_p.lo<a_q.hi)) then some (decide (a_q.hi<a_p.hi)) else
 some false else
 some false else
 bif (decide (a_rel=(11:Int))) then some (decide (a_q.hi=a_p.lo)) else
 bif (decide (a_rel=(12:Int))) then some (decide (a_q.hi<a_p.lo)) else
 some false
theorem gIs2_ok {a_rel:Int} {a_p:Per} {a_q:Per} {r:Bool} (H:gIs2 a_rel a_p a_q=some r):Pure Tryz.prog 93 [.one (.int .i64 a_rel), .agg (cPer a_p), .agg (cPer a_q)] (.val (.one (.bool r))):=by
 unfold gIs2 at H
 refine po_ Tryz.func93 Tryz.ntmps93 ?_
 rcases cnd_ H with ⟨q_1,H⟩|⟨q_1,H⟩
 ·cases H
  exact go_
 rcases cnd_ H with ⟨q_2,H⟩|⟨q_2,H⟩
 ·cases H
  exact go_
 refine gt_ ?_
 rcases cnd_ H with ⟨q_3,H⟩|⟨q_3,H⟩
 ·rcases cnd_ H with ⟨q_4,H⟩|⟨q_4,H⟩
  ·rcases cnd_ H with ⟨q_5,H⟩|⟨q_5,H⟩
   ·cases H
    exact go_
   cases H
   exact go_
  cases H
  exact go_
 rcases cnd_ H with ⟨q_6,H⟩|⟨q_6,H⟩
 ·rcases cnd_ H with ⟨q_7,H⟩|⟨q_7,H⟩
  ·cases H
   exact go_
  cases H
  exact go_
 rcases cnd_ H with ⟨q_8,H⟩|⟨q_8,H⟩
 ·refine gt_ ?_
  rcases cnd_ H with ⟨q_9,H⟩|⟨q_9,H⟩
  ·cases H
   exact go_
  cases H
  exact go_
 refine gt_ ?_
 rcases cnd_ H with ⟨q_10,H⟩|⟨q_10,H⟩
 ·rcases cnd_ H with ⟨q_11,H⟩|⟨q_11,H⟩
  ·cases H
   exact go_
  cases H
  exact go_
 rcases cnd_ H with ⟨q_12,H⟩|⟨q_12,H⟩
 ·cases H
  exact go_
 rcases cnd_ H with ⟨q_13,H⟩|⟨q_13,H⟩
 ·refine gt_ ?_
  rcases cnd_ H with ⟨q_14,H⟩|⟨q_14,H⟩
  ·cases H
   exact go_
  cases H
  exact go_
 refine gt_ ?_
 rcases cnd_ H with ⟨q_15,H⟩|⟨q_15,H⟩
 ·rcases cnd_ H with ⟨q_16,H⟩|⟨q_16,H⟩
  ·cases H
   exact go_
  cases H
  exact go_
 rcases cnd_ H with ⟨q_17,H⟩|⟨q_17,H⟩
 ·rcases cnd_ H with ⟨q_18,H⟩|⟨q_18,H⟩
  ·cases H
   exact go_
  cases H
  exact go_
 rcases cnd_ H with ⟨q_19,H⟩|⟨q_19,H⟩
 ·refine gt_ ?_
  rcases cnd_ H with ⟨q_20,H⟩|⟨q_20,H⟩
  ·rcases cnd_ H with ⟨q_21,H⟩|⟨q_21,H⟩
   ·cases H
    exact go_
   cases H
   exact go_
  cases H
  exact go_
 refine gt_ ?_
 rcases cnd_ H with ⟨q_22,H⟩|⟨q_22,H⟩
 ·cases H
  exact go_
 rcases cnd_ H with ⟨q_23,H⟩|⟨q_23,H⟩
 ·cases H
  exact go_
 cases H
 exact go_
def gHolds2 (a_rel:Int) (a_p:Per) (a_q:Per):Option (Bool):=(gValid1 a_p).bind fun r_1=>bif r_1 then (gValid1 a_q).bind fun r_3=>bif r_3 then (gIs2 a_rel a_p a_q).bind fun r_5=>some r_5 else
 some false else
 some false
theorem gHolds2_ok {a_rel:Int} {a_p:Per} {a_q:Per} {r:Bool} (H:gHolds2 a_rel a_p a_q=some r):Pure Tryz.prog 56 [.one (.int .i64 a_rel), .agg (cPer a_p), .agg (cPer a_q)] (.val (.one (.bool r))):=by
 unfold gHolds2 at H
 refine po_ Tryz.func56 Tryz.ntmps56 ?_
 obtain ⟨r_1,c1,H⟩:=bd_ H
 replace c1:=gValid1_ok c1
 rcases cnd_ H with ⟨q_2,H⟩|⟨q_2,H⟩
 ·obtain ⟨r_3,c2,H⟩:=bd_ H
  replace c2:=gValid1_ok c2
  rcases cnd_ H with ⟨q_4,H⟩|⟨q_4,H⟩
  ·obtain ⟨r_5,c3,H⟩:=bd_ H
   replace c3:=gIs2_ok c3
   cases H
   exact go_
  cases H
  exact go_
 cases H
 exact go_
def gRel2_B1 (a_p:Per) (a_q:Per):(Int)→Option (Step (Int) (Int × Bool)):=fun s=>match s with
 | rel_1=>bif (decide (rel_1<(13:Int))) then (gHolds2 rel_1 a_p a_q).bind fun r_3=>bif r_3 then some (.ret (rel_1,true)) else
 some (.next (IntKind.i64.wrap (rel_1+(1:Int)))) else
 some (.exit rel_1)
def gRel2_K1:Sum (Int) (Int × Bool)→Option ((Int × Bool))
 | .inl rel_1=>some ((0:Int),false)
 | .inr q=>some q
def gRel2 (a_p:Per) (a_q:Per):Option (Int × Bool):=(loopM (gRel2_B1 a_p a_q) fuel (0:Int)).bind (gRel2_K1)
theorem gRel2_ok {a_p:Per} {a_q:Per} {r:Int × Bool} (H:gRel2 a_p a_q=some r):Pure Tryz.prog 160 [.agg (cPer a_p), .agg (cPer a_q)] (.tup [.one (.int .i64 r.1), .one (.bool r.2)]):=by
 unfold gRel2 at H
 refine po_ Tryz.func160 Tryz.ntmps160 ?_
 refine gt_ ?_
 refine alM_ (fun s:Int=>match s with|rel_1=>[(2, .one (.ptr 0 0)),(3, .one (.ptr 1 0)),(6, .one (.c (.int .i64 rel_1)))]) (fun s=>match s with|rel_1=>[.box [.c (.int .i64 a_p.lo), .c (.int .i64 a_p.hi)], .box [.c (.int .i64 a_q.lo), .c (.int .i64 a_q.hi)]]) H (fun _=>Nat.zero_le _)
  (fm_ br_ [] rfl bt_ bo_) ?_
 rintro rel_1 st1 hb1 hk1
 unfold gRel2_B1 at hb1
 dsimp only at hb1 ⊢
 rcases cnd_ hb1 with ⟨q_2,hb1⟩|⟨q_2,hb1⟩
 ·obtain ⟨r_3,c1,hb1⟩:=bd_ hb1
  replace c1:=gHolds2_ok c1
  rcases cnd_ hb1 with ⟨q_4,hb1⟩|⟨q_4,hb1⟩
  ·cases hb1
   have hx1:gRel2_K1 (.inr (rel_1,true))=some _:=hk1
   unfold gRel2_K1 at hx1
   dsimp only at hx1
   cases hx1
   exact go_
  cases hb1
  refine gt_ ?_
  exact ⟨_,rfl,fm_ br_ [] rfl bt_ bo_⟩
 cases hb1
 have hx1:gRel2_K1 (.inl rel_1)=some _:=hk1
 unfold gRel2_K1 at hx1
 dsimp only at hx1
 cases hx1
 exact go_
set_option maxHeartbeats 8000000
def gRelatedR (a_rel:Int) (a_l:(List Val)):Option (Val):=(gAre a_l (1:Int)).bind fun r_1=>bif (!r_1) then (gNullR ).bind fun r_3=>some r_3 else
 (getI a_l (0:Int)).bind fun x_4=>(getI a_l (1:Int)).bind fun x_5=>(getI a_l (2:Int)).bind fun x_6=>(getI a_l (3:Int)).bind fun x_7=>(gRel2 (⟨x_4.int,x_5.int⟩:Per) (⟨x_6.int,x_7.int⟩:Per)).bind fun r_8=>bif (!r_8.2) then (gNullR ).bind fun r_10=>some r_10 else
 (gBoolR (decide (r_8.1=a_rel))).bind fun r_11=>some r_11
theorem gRelatedR_ok {a_rel:Int} {a_l:(List Val)} {r:Val} (H:gRelatedR a_rel a_l=some r):Pure Tryz.prog 119 [.one (.int .i64 a_rel), .one (.lst (a_l.map cV))] (.val (.agg (cV r))):=by
 unfold gRelatedR at H
 refine po_ Tryz.func119 Tryz.ntmps119 ?_
 obtain ⟨r_1,c1,H⟩:=bd_ H
 replace c1:=gAre_ok c1
 rcases cnd_ H with ⟨q_2,H⟩|⟨q_2,H⟩
 ·obtain ⟨r_3,c2,H⟩:=bd_ H
  replace c2:=gNullR_ok c2
  cases H
  exact go_
 obtain ⟨x_4,i3z,i3,i3x,H⟩:=idx_ (f:=cV) H
 obtain ⟨x_5,i4z,i4,i4x,H⟩:=idx_ (f:=cV) H
 obtain ⟨x_6,i5z,i5,i5x,H⟩:=idx_ (f:=cV) H
 obtain ⟨x_7,i6z,i6,i6x,H⟩:=idx_ (f:=cV) H
 obtain ⟨r_8,c7,H⟩:=bd_ H
 replace c7:=gRel2_ok c7
 rcases cnd_ H with ⟨q_9,H⟩|⟨q_9,H⟩
 ·obtain ⟨r_10,c8,H⟩:=bd_ H
  replace c8:=gNullR_ok c8
  cases H
  exact go_
 obtain ⟨r_11,c9,H⟩:=bd_ H
 replace c9:=gBoolR_ok c9
 cases H
 exact go_
def gTexts (a_op:Int) (a_l:(List Val)):Option (Val):=(gAre a_l (2:Int)).bind fun r_1=>bif (!r_1) then (gNullR ).bind fun r_3=>some r_3 else
 bif (decide (a_op=(19:Int))) then (getI a_l (0:Int)).bind fun x_5=>(getI a_l (1:Int)).bind fun x_6=>bif (decide (x_5.text.size+x_6.text.size≤9223372036854775807)) then ((gTextR (x_5.text++x_6.text)).bind fun r_7=>some r_7) else none else
 (getI a_l (0:Int)).bind fun x_8=>(gIntR ((x_8.text.size:Nat):Int)).bind fun r_9=>some r_9
theorem gTexts_ok {a_op:Int} {a_l:(List Val)} {r:Val} (H:gTexts a_op a_l=some r):Pure Tryz.prog 117 [.one (.int .i64 a_op), .one (.lst (a_l.map cV))] (.val (.agg (cV r))):=by
 unfold gTexts at H
 refine po_ Tryz.func117 Tryz.ntmps117 ?_
 obtain ⟨r_1,c1,H⟩:=bd_ H
 replace c1:=gAre_ok c1
 rcases cnd_ H with ⟨q_2,H⟩|⟨q_2,H⟩
 ·obtain ⟨r_3,c2,H⟩:=bd_ H
  replace c2:=gNullR_ok c2
  cases H
  exact go_
 rcases cnd_ H with ⟨q_4,H⟩|⟨q_4,H⟩
 ·obtain ⟨x_5,i3z,i3,i3x,H⟩:=idx_ (f:=cV) H
  obtain ⟨x_6,i4z,i4,i4x,H⟩:=idx_ (f:=cV) H
  obtain ⟨g5,H⟩:=grd_d H
  obtain ⟨r_7,c6,H⟩:=bd_ H
  replace c6:=gTextR_ok c6
  try simp only [List.map_append,List.map_cons,List.map_nil,List.nil_append,tE_eq] at c6
  cases H
  exact go_
 obtain ⟨x_8,i7z,i7,i7x,H⟩:=idx_ (f:=cV) H
 obtain ⟨r_9,c8,H⟩:=bd_ H
 replace c8:=gIntR_ok c8
 cases H
 exact go_
def gChosen_B1 (a_l:(List Val)):(Int)→Option (Step (Int) (Val)):=fun s=>match s with
 | i_7=>bif (decide (i_7<((a_l.length:Nat):Int))) then (getI a_l i_7).bind fun x_9=>bif (decide (x_9.kind≠(0:Int))) then some (.ret x_9) else
 some (.next (IntKind.i64.wrap (i_7+(1:Int)))) else
 some (.exit i_7)
def gChosen_K1:Sum (Int) (Val)→Option ((Val))
 | .inl i_7=>(gNullR ).bind fun r_11=>some r_11
 | .inr q=>some q
def gChosen (a_op:Int) (a_l:(List Val)):Option (Val):=bif (decide (a_op=(22:Int))) then (getI a_l (0:Int)).bind fun x_2=>(gTruth7 x_2).bind fun r_3=>bif (decide (r_3=(2:Int))) then (getI a_l (1:Int)).bind fun x_5=>some x_5 else
 (getI a_l (2:Int)).bind fun x_6=>some x_6 else
 (loopM (gChosen_B1 a_l) fuel (0:Int)).bind (gChosen_K1)
theorem gChosen_ok {a_op:Int} {a_l:(List Val)} {r:Val} (H:gChosen a_op a_l=some r):Pure Tryz.prog 118 [.one (.int .i64 a_op), .one (.lst (a_l.map cV))] (.val (.agg (cV r))):=by
 unfold gChosen at H
 refine po_ Tryz.func118 Tryz.ntmps118 ?_
 rcases cnd_ H with ⟨q_1,H⟩|⟨q_1,H⟩
 ·obtain ⟨x_2,i1z,i1,i1x,H⟩:=idx_ (f:=cV) H
  obtain ⟨r_3,c2,H⟩:=bd_ H
  replace c2:=gTruth7_ok c2
  rcases cnd_ H with ⟨q_4,H⟩|⟨q_4,H⟩
  ·obtain ⟨x_5,i3z,i3,i3x,H⟩:=idx_ (f:=cV) H
   cases H
   exact go_
  obtain ⟨x_6,i4z,i4,i4x,H⟩:=idx_ (f:=cV) H
  cases H
  exact go_
 refine gt_ ?_
 refine alM_ (fun s:Int=>match s with|i_7=>[(1, .one (.c (.lst (a_l.map cV)))),(4, .one (.ptr 0 0)),(5, .one (.c (.int .i64 i_7)))]) (fun s=>match s with|i_7=>[.box [.c (.int .i64 (0:Int)), .c (.int .i64 (0:Int)), .c (.str ByteArray.empty)]]) H (fun _=>Nat.zero_le _)
  (fm_ br_ [] rfl bt_ bo_) ?_
 rintro i_7 st1 hb1 hk1
 unfold gChosen_B1 at hb1
 dsimp only at hb1 ⊢
 rcases cnd_ hb1 with ⟨q_8,hb1⟩|⟨q_8,hb1⟩
 ·obtain ⟨x_9,i5z,i5,i5x,hb1⟩:=idx_ (f:=cV) hb1
  rcases cnd_ hb1 with ⟨q_10,hb1⟩|⟨q_10,hb1⟩
  ·cases hb1
   have hx1:gChosen_K1 (.inr x_9)=some _:=hk1
   unfold gChosen_K1 at hx1
   dsimp only at hx1
   cases hx1
   exact go_
  cases hb1
  refine gt_ ?_
  exact ⟨_,rfl,fm_ br_ [] rfl bt_ bo_⟩
 cases hb1
 have hx1:gChosen_K1 (.inl i_7)=some _:=hk1
 unfold gChosen_K1 at hx1
 dsimp only at hx1
 obtain ⟨r_11,c6,hx1⟩:=bd_ hx1
 replace c6:=gNullR_ok c6
 cases hx1
 exact go_
def gLeaf (a_e:Ex) (a_row:(List Val)):Option (Val):=bif (decide (a_e.op=(2:Int))) then (gAtR a_row a_e.int).bind fun r_2=>(gValidR r_2).bind fun r_3=>bif (!r_3) then (gNullR ).bind fun r_5=>some r_5 else
 some r_2 else
 (gValidR a_e.v).bind fun r_6=>bif (!r_6) then (gNullR ).bind fun r_8=>some r_8 else
 some a_e.v
theorem gLeaf_ok {a_e:Ex} {a_row:(List Val)} {r:Val} (H:gLeaf a_e a_row=some r):Pure Tryz.prog 110 [.agg (tE a_e), .one (.lst (a_row.map cV))] (.val (.agg (cV r))):=by
 unfold gLeaf at H
 rw [tE_eq a_e]
 refine po_ Tryz.func110 Tryz.ntmps110 ?_
 rcases cnd_ H with ⟨q_1,H⟩|⟨q_1,H⟩
 ·obtain ⟨r_2,c1,H⟩:=bd_ H
  replace c1:=gAtR_ok c1
  obtain ⟨r_3,c2,H⟩:=bd_ H
  replace c2:=gValidR_ok c2
  rcases cnd_ H with ⟨q_4,H⟩|⟨q_4,H⟩
  ·obtain ⟨r_5,c3,H⟩:=bd_ H
   replace c3:=gNullR_ok c3
   cases H
   exact go_
  cases H
  exact go_
 obtain ⟨r_6,c4,H⟩:=bd_ H
 replace c4:=gValidR_ok c4
 rcases cnd_ H with ⟨q_7,H⟩|⟨q_7,H⟩
 ·obtain ⟨r_8,c5,H⟩:=bd_ H
  replace c5:=gNullR_ok c5
  cases H
  exact go_
 cases H
 exact go_
set_option maxHeartbeats 8000000
def posV (B:List (List Val)) (x:List Val):Nat→Nat
 | 0=>0
 | j+1=>match B[j]? with
  | some y=>if rcmp x y<0 then posV B x j else j+1
  | none=>j+1
def insV (B:List (List Val)) (x:List Val):List (List Val):=B.take (posV B x B.length)++x::B.drop (posV B x B.length)
def sortV (l:List (List Val)):List (List Val):=l.foldl insV []
theorem posV_spec (B:List (List Val)) (x:List Val) : ∀ j,j≤B.length→posV B x j≤j∧(∀ i y,posV B x j≤i→i<j→B[i]?=some y→rcmp x y<0)∧(∀ q,posV B x j=q+1 → ∃ y,B[q]?=some y ∧ ¬ rcmp x y<0)
 | 0,_=>⟨Nat.le_refl _,fun i y _ h=>by omega,fun q h=>by simp [posV] at h⟩
 | j+1,hj=>by
  obtain ⟨y,hy⟩:=gol_ (show j<B.length by omega)
  have e:posV B x (j+1)=if rcmp x y<0 then posV B x j else j+1:=by rw [posV,hy]
  rw [e]
  by_cases h:rcmp x y<0
  ·rw [if_pos h]
   obtain ⟨h1,h2,h3⟩:=posV_spec B x j (by omega)
   refine ⟨by omega,fun i z hi hij hz=>?_,h3⟩
   by_cases hij':i<j
   ·exact h2 i z hi hij' hz
   ·have:i=j:=by omega
    subst this
    rw [hy] at hz
    obtain rfl:=Option.some.inj hz
    exact h
  ·rw [if_neg h]
   refine ⟨Nat.le_refl _,fun i z hi hij=>by omega,fun q hq=>?_⟩
   obtain rfl:j=q:=by omega
   exact ⟨y,hy,h⟩
theorem insV_perm (B:List (List Val)) (x:List Val):(insV B x).Perm (x::B):=by
 unfold insV
 refine List.perm_middle.trans ?_
 rw [List.take_append_drop]
theorem insV_asc {B:List (List Val)} (x:List Val) (h:Asc rcmp B):Asc rcmp (insV B x):=by
 obtain ⟨h1,h2,h3⟩:=posV_spec B x B.length (Nat.le_refl _)
 unfold insV
 generalize posV B x B.length=p at h1 h2 h3
 have hB:Asc rcmp (B.take p++B.drop p):=by rw [List.take_append_drop];exact h
 obtain ⟨ht,hd,hc⟩:=List.pairwise_append.1 hB
 have hx : ∀ b∈B.drop p,rcmp x b≤0:=by
  intro b hb
  obtain ⟨i,hi⟩:=List.getElem?_of_mem hb
  rw [List.getElem?_drop] at hi
  have:=h2 (p+i) b (by omega) (List.getElem?_eq_some_iff.1 hi).1 hi
  omega
 have hl : ∀ a∈B.take p,rcmp a x≤0:=by
  intro a ha
  cases p with
  | zero=>simp at ha
  | succ q =>
   obtain ⟨y,hy,hn⟩:=h3 q rfl
   have hyx:rcmp y x≤0:=by
    have:=tCr_.anti x y
    have:=tCr_.anti y x
    omega
   have hq:q<B.length:=(List.getElem?_eq_some_iff.1 hy).1
   have ey:=(List.getElem?_eq_some_iff.1 hy).2
   rw [List.take_succ_eq_append_getElem hq,ey] at ha ht
   rcases List.mem_append.1 ha with ha|ha
   ·exact tCr_.le_trans ((List.pairwise_append.1 ht).2.2 a ha y (by simp)) hyx
   ·obtain rfl:a=y:=by simpa using ha
    exact hyx
 refine List.pairwise_append.2 ⟨ht,List.pairwise_cons.2 ⟨hx,hd⟩,fun a ha b hb=>?_⟩
 rcases List.mem_cons.1 hb with rfl|hb
 ·exact hl a ha
 ·exact hc a ha b hb
theorem foldl_ins : ∀ (l B:List (List Val)),Asc rcmp B→Asc rcmp (l.foldl insV B)∧(l.foldl insV B).Perm (l++B)
 | [],B,h=>⟨h,List.Perm.refl _⟩
 | x::l,B,h=>by
  obtain ⟨h1,h2⟩:=foldl_ins l (insV B x) (insV_asc x h)
  refine ⟨h1,h2.trans ?_⟩
  refine ((insV_perm B x).append_left l).trans ?_
  exact List.perm_middle
theorem sortV_asc (l:List (List Val)):Asc rcmp (sortV l):=(foldl_ins l [] List.Pairwise.nil).1
theorem sortV_perm (l:List (List Val)):(sortV l).Perm l:=by
 have:=(foldl_ins l [] List.Pairwise.nil).2
 rwa [List.append_nil] at this
theorem sortV_unique {l r:List (List Val)} (h1:Asc rcmp r) (h2:r.Perm l):sortV l=r:=asc_unique tCr_ (sortV_asc l) h1 ((sortV_perm l).trans h2.symm)
def push {α β ρ:Type} (g:α→β) (N:Nat) (s:List β) (x:α):Option (Sum (List β) ρ):=bif decide (s.length+1≤N) then some (.inl (s++[g x])) else none
theorem fold_push {α β ρ:Type} (g:α→β) (N:Nat) : ∀ (l:List α) (s:List β),s.length+l.length≤N→foldS (ρ:=ρ) (push g N) s l=some (.inl (s++l.map g))
 | [],s,_=>by simp [foldS]
 | x::l,s,h=>by
  have h':s.length+(l.length+1)≤N:=by simpa using h
  have e:push (ρ:=ρ) g N s x=some (.inl (s++[g x])):=by unfold push;rw [show decide (s.length+1≤N)=true from decide_eq_true (by omega)];rfl
  rw [foldS,e]
  have:=fold_push (ρ:=ρ) g N l (s++[g x]) (by simp;omega)
  simpa using this
theorem fold_ex {α σ ρ:Type} {f:σ→α→Option (Sum σ ρ)} : ∀ (l:List α) (s:σ),(∀ s x,x∈l → ∃ r,f s x=some r) → ∃ r,foldS f s l=some r
 | [],s,_=>⟨_,rfl⟩
 | x::l,s,h=>by
  obtain ⟨r,hr⟩:=h s x (List.mem_cons_self ..)
  rw [foldS,hr]
  cases r with
  | inl s'=>exact fold_ex l s' fun s y hy=>h s y (List.mem_cons_of_mem _ hy)
  | inr r=>exact ⟨_,rfl⟩
theorem gBefore_nil (x y:List Val) (hx:x.length≤1000000) (hy:y.length≤1000000):gBefore x y []=some (decide (rcmp x y<0)):=by
 unfold gBefore
 rw [loop_list (l:=([]:List Ord)) (mk:=fun (_:Unit) i=>i) (f:=fun (_:Unit) (_:Ord)=>(none:Option (Sum Unit Bool))) ?_ ?_ (by unfold fuel;simp) ()]
 ·show gBefore_K1 x y (.inl ((([]:List Ord).length:Nat):Int))=_
  unfold gBefore_K1
  rw [gCmp8_eq x y (by omega) (by omega)];rfl
 ·intro s i x hx;simp at hx
 ·intro s
  unfold gBefore_B1
  dsimp only
  rw [lF_,cond_false]
def leV (x y:List Val):Bool := !decide (rcmp y x<0)
theorem leV_iff (x y:List Val):leV x y=true↔rcmp x y≤0:=by
 unfold leV
 have:=tCr_.anti x y
 have:=tCr_.anti y x
 simp
 omega
theorem gMerged_at {a b:List (List Val)} (ha:a.length≤1000000) (hb:b.length≤1000000) (hra : ∀ r∈a,r.length≤1000000) (hrb : ∀ r∈b,r.length≤1000000) : ∀ (n i k:Nat) (out:List (List Val)),i≤a.length→k≤b.length→out.length=i+k→(a.length-i)+(b.length-k)<n→(loopM (gMerged_B1 a b []) n (out,(i:Int),(k:Int))).bind gMerged_K1=some (out++List.merge (a.drop i) (b.drop k) leV)
 | 0,_,_,_,_,_,_,h=>by omega
 | n+1,i,k,out,h1,h2,ho,hn=>by
  have hg:decide (out.length+1≤5864062014805)=true:=decide_eq_true (by omega)
  rw [loopM]
  by_cases hlt:i<a.length
  ·obtain ⟨x,hx⟩:=gol_ hlt
   have ex:=(List.getElem?_eq_some_iff.1 hx).2
   have hne:decide ((i:Int)=((a.length:Nat):Int))=false:=decide_eq_false (by omega)
   have ihA:=gMerged_at ha hb hra hrb n (i+1) k (out++[x]) (by omega) (by omega) (by simp;omega) (by omega)
   by_cases hlb:k<b.length
   ·obtain ⟨y,hy⟩:=gol_ hlb
    have ey:=(List.getElem?_eq_some_iff.1 hy).2
    have ihB:=gMerged_at ha hb hra hrb n i (k+1) (out++[y]) (by omega) (by omega) (by simp;omega) (by omega)
    have eb:gMerged_B1 a b [] (out,(i:Int),(k:Int))=bif decide (rcmp y x<0) then some (.next (out++[y],(i:Int),((k+1:Nat):Int))) else some (.next (out++[x],((i+1:Nat):Int),(k:Int))):=by
     unfold gMerged_B1
     dsimp only
     rw [lt_dec hx,cond_true,hne,cond_false,lt_dec hy,cond_true,gn_ hy,gn_ hx]
     simp only [Option.bind_some]
     rw [gBefore_nil y x (hrb y (List.mem_of_getElem? hy)) (hra x (List.mem_of_getElem? hx)),wrapN (by omega),wrapN (by omega),hg]
     rfl
    rw [eb,List.drop_eq_getElem_cons hlt,List.drop_eq_getElem_cons hlb,ex,ey,List.cons_merge_cons]
    rw [List.drop_eq_getElem_cons hlb,ey] at ihA
    rw [List.drop_eq_getElem_cons hlt,ex] at ihB
    by_cases hc:rcmp y x<0
    ·rw [show decide (rcmp y x<0)=true from decide_eq_true hc,cond_true,if_neg (by unfold leV;simp [hc])]
     dsimp only
     rw [ihB];simp
    ·rw [show decide (rcmp y x<0)=false from decide_eq_false hc,cond_false,if_pos (by unfold leV;simp [hc])]
     dsimp only
     rw [ihA];simp
   ·have hk:k=b.length:=by omega
    have eb:gMerged_B1 a b [] (out,(i:Int),(k:Int))=some (.next (out++[x],((i+1:Nat):Int),(k:Int))):=by
     unfold gMerged_B1
     dsimp only
     rw [lt_dec hx,cond_true,hne,cond_false,hk,lF_,cond_false,gn_ hx]
     simp only [Option.bind_some]
     rw [wrapN (by omega),hg]
     rfl
    rw [eb]
    dsimp only
    rw [ihA,List.drop_eq_getElem_cons hlt,ex,hk,List.drop_length,List.merge_right,List.merge_right]
    simp
  ·have hi:i=a.length:=by omega
   subst hi
   by_cases hlb:k<b.length
   ·obtain ⟨y,hy⟩:=gol_ hlb
    have ey:=(List.getElem?_eq_some_iff.1 hy).2
    have ihB:=gMerged_at ha hb hra hrb n a.length (k+1) (out++[y]) (by omega) (by omega) (by simp;omega) (by omega)
    have eb:gMerged_B1 a b [] (out,((a.length:Nat):Int),(k:Int))=some (.next (out++[y],((a.length:Nat):Int),((k+1:Nat):Int))):=by
     unfold gMerged_B1
     dsimp only
     rw [lF_,cond_false,lt_dec hy,cond_true,show decide (((a.length:Nat):Int)=((a.length:Nat):Int))=true from decide_eq_true rfl,cond_true,gn_ hy]
     simp only [Option.bind_some]
     rw [wrapN (by omega),hg]
     rfl
    rw [eb]
    dsimp only
    rw [ihB,List.drop_eq_getElem_cons hlb,ey,List.drop_length,List.nil_merge,List.nil_merge]
    simp
   ·have hk:k=b.length:=by omega
    subst hk
    have eb:gMerged_B1 a b [] (out,((a.length:Nat):Int),((b.length:Nat):Int))=some (.exit (out,((a.length:Nat):Int),((b.length:Nat):Int))):=by
     unfold gMerged_B1
     dsimp only
     rw [lF_,cond_false,lF_,cond_false]
    rw [eb,List.drop_length,List.drop_length,List.nil_merge,List.append_nil]
    rfl
theorem gMerged_eq {a b:List (List Val)} (ha:a.length≤1000000) (hb:b.length≤1000000) (hra : ∀ r∈a,r.length≤1000000) (hrb : ∀ r∈b,r.length≤1000000):gMerged a b []=some (List.merge a b leV):=by
 unfold gMerged
 have:=gMerged_at ha hb hra hrb fuel 0 0 [] (Nat.zero_le _) (Nat.zero_le _) rfl (by unfold fuel;omega)
 rw [show (((0:Nat):Int))=0 from rfl] at this
 rw [this];simp
theorem merge_asc {a b:List (List Val)} (ha:Asc rcmp a) (hb:Asc rcmp b):Asc rcmp (List.merge a b leV):=by
 have:=List.pairwise_merge (le:=leV) (fun x y z h1 h2=>(leV_iff x z).2 (tCr_.le_trans ((leV_iff x y).1 h1) ((leV_iff y z).1 h2))) (fun x y=>by
  rw [Bool.or_eq_true,leV_iff,leV_iff];exact tCr_.total x y) a b (ha.imp fun h=>(leV_iff _ _).2 h) (hb.imp fun h=>(leV_iff _ _).2 h)
 exact this.imp fun h=>(leV_iff _ _).1 h
theorem gOrder_eq : ∀ (n:Nat) (l:List (List Val)),l.length≤n→l.length≤1000000→(∀ r∈l,r.length≤1000000) → ∃ r,gOrder (n+1) l []=some r∧Asc rcmp r∧r.Perm l:=by
 intro n
 induction n with
 | zero =>
  intro l h _ _
  have:l=[]:=by cases l with|nil=>rfl|cons _ _=>simp at h
  subst this
  exact ⟨[],rfl,List.Pairwise.nil,List.Perm.refl _⟩
 | succ n ih =>
  intro l h hl hr
  match l,h,hl,hr with
  | [],_,_,_=>exact ⟨[],rfl,List.Pairwise.nil,List.Perm.refl _⟩
  | [x],_,_,hr =>
   have hx:=hr x (by simp)
   refine ⟨[x],?_,by simp [Asc],List.Perm.refl _⟩
   show gOrderB (gOrder (n+1)) [x] []=_
   unfold gOrderB
   simp only [List.length_cons,List.length_nil]
   rw [show getI [x] 0=some x from rfl]
   simp only [Option.bind_some]
   rw [show decide (x.length≤4398046511104)=true from decide_eq_true (by omega)]
   rfl
  | x::y::t,h,hl,hr =>
   generalize hL:x::y::t=l at h hl hr
   have h2:2≤l.length:=by rw [← hL];simp
   have hm:IntKind.i64.wrap (((l.length:Nat):Int).tdiv (2:Int))=((l.length/2:Nat):Int):=by
    rw [show ((l.length:Nat):Int).tdiv 2=((l.length/2:Nat):Int) from rfl]
    exact wrap_eq (by omega) (by omega)
   have s1:subI l 0 ((l.length/2:Nat):Int)=some (l.take (l.length/2)):=by
    unfold subI
    rw [if_pos (by omega),Int.toNat_natCast];rfl
   have s2:subI l ((l.length/2:Nat):Int) ((l.length:Nat):Int)=some (l.drop (l.length/2)):=by
    unfold subI
    rw [if_pos (by omega),Int.toNat_natCast,Int.toNat_natCast,List.take_length]
   obtain ⟨r1,e1,a1,p1⟩:=ih (l.take (l.length/2)) (by simp;omega) (by simp;omega) fun r hr'=>hr r (List.mem_of_mem_take hr')
   obtain ⟨r2,e2,a2,p2⟩:=ih (l.drop (l.length/2)) (by simp;omega) (by simp;omega) fun r hr'=>hr r (List.mem_of_mem_drop hr')
   refine ⟨List.merge r1 r2 leV,?_,merge_asc a1 a2,?_⟩
   ·show gOrderB (gOrder (n+1)) l []=_
    unfold gOrderB
    rw [show decide (((l.length:Nat):Int)=0)=false from decide_eq_false (by omega),cond_false,show decide (((l.length:Nat):Int)=1)=false from decide_eq_false (by omega),cond_false,show decide ((2:Int)≠0)=true from rfl,cond_true,hm,s1,s2]
    simp only [Option.bind_some]
    rw [e1,e2]
    simp only [Option.bind_some]
    rw [gMerged_eq (by rw [p1.length_eq];simp;omega) (by rw [p2.length_eq];simp;omega) (fun r hr'=>hr r (List.mem_of_mem_take (p1.mem_iff.1 hr'))) (fun r hr'=>hr r (List.mem_of_mem_drop (p2.mem_iff.1 hr')))]
    rfl
   ·refine (List.merge_perm_append leV).trans ((p1.append p2).trans ?_)
    rw [List.take_append_drop]
theorem gSortR_eq (l:List (List Val)) (hl:l.length≤63) (hr : ∀ r∈l,r.length≤1000000):gSortR l=some (sortV l):=by
 obtain ⟨r,e,a,p⟩:=gOrder_eq 63 l hl (by omega) hr
 unfold gSortR
 rw [e,sortV_unique a p];rfl
theorem gPrintable_at {s:ByteArray} (hs:s.size≤1000000) : ∀ (n i:Nat),i≤s.size→s.size-i<n → ∃ r,(loopM (gPrintable_B1 s) n (i:Int)).bind gPrintable_K1=some r
 | 0,_,_,h=>by omega
 | n+1,i,h1,hn=>by
  rw [loopM]
  unfold gPrintable_B1
  dsimp only
  by_cases hlt:i<s.size
  ·rw [show decide ((i:Int)<((s.size:Nat):Int))=true from decide_eq_true (by omega),cond_true]
   obtain ⟨b,hb⟩ : ∃ b,getB s (i:Int)=some b:=by
    unfold getB
    rw [if_pos (by omega)]
    exact ⟨s[i],by simp [hlt]⟩
   rw [hb]
   simp only [Option.bind_some]
   cases decide (((b.toNat:Nat):Int)<32) with
   | true=>exact ⟨_,rfl⟩
   | false =>
    cases decide ((126:Int)<((b.toNat:Nat):Int)) with
    | true=>exact ⟨_,rfl⟩
    | false =>
     simp only [cond_false]
     rw [wrapN (by omega)]
     exact gPrintable_at hs n (i+1) (by omega) (by omega)
  ·rw [show decide ((i:Int)<((s.size:Nat):Int))=false from decide_eq_false (by omega),cond_false]
   exact ⟨_,rfl⟩
theorem gPrintable_ex {s:ByteArray} (hs:s.size≤1000000) : ∃ r,gPrintable s=some r:=by
 have:=gPrintable_at hs fuel 0 (Nat.zero_le _) (by unfold fuel;omega)
 rw [show (((0:Nat):Int))=0 from rfl] at this
 exact this
theorem gValidR_ex (v:Val) : ∃ r,gValidR v=some r:=by
 unfold gValidR
 cases decide (v.kind=0) with
 | true=>cases decide (v.int=0)<;>exact ⟨_,rfl⟩
 | false =>
  cases decide (v.kind=1) with
  | true=>cases (v.text.toList==(⟨#[]⟩:ByteArray).toList)<;>cases decide ((-1125899906842624:Int)≤v.int)<;>exact ⟨_,rfl⟩
  | false =>
   cases decide (v.kind=2) with
   | true =>
    cases decide (v.int=0) with
    | false=>exact ⟨_,rfl⟩
    | true =>
     by_cases h:((v.text.size:Nat):Int)≤200
     ·obtain ⟨r,hr⟩:=gPrintable_ex (s:=v.text) (by omega)
      rw [show decide (((v.text.size:Nat):Int)≤200)=true from decide_eq_true h,hr]
      exact ⟨_,rfl⟩
     ·rw [show decide (((v.text.size:Nat):Int)≤200)=false from decide_eq_false h]
      exact ⟨_,rfl⟩
   | false =>
    cases decide (v.kind=3) with
    | true=>cases (v.text.toList==(⟨#[]⟩:ByteArray).toList)<;>cases decide (v.int=0)<;>exact ⟨_,rfl⟩
    | false=>exact ⟨_,rfl⟩
theorem gFits8_ex (row:List Val) (kinds:List Int) (h:row.length≤1000000) : ∃ r,gFits8 row kinds=some r:=by
 unfold gFits8
 by_cases he:row.length=kinds.length
 ·rw [show decide (((row.length:Nat):Int)≠((kinds.length:Nat):Int))=false from decide_eq_false (by omega),cond_false]
  have hz:(row.zip kinds).length=row.length:=by simp;omega
  have k:=loop_list (l:=row.zip kinds) (body:=gFits8_B1 row kinds) (mk:=fun (_:Unit) i=>i) (f:=fun (_:Unit) (x:Val × Int)=>(gValidR x.1).bind fun r=>bif (!r) then some (.inr false) else bif decide (x.1.kind≠0) then bif decide (x.1.kind≠x.2) then some (.inr false) else some (.inl ()) else some (.inl ())) ?_ ?_ (by unfold fuel;omega) ()
  ·obtain ⟨r,hr⟩:=fold_ex (σ:=Unit) (ρ:=Bool) (f:=fun (_:Unit) (x:Val × Int)=>(gValidR x.1).bind fun r=>bif (!r) then some (.inr false) else bif decide (x.1.kind≠0) then bif decide (x.1.kind≠x.2) then some (.inr false) else some (.inl ()) else some (.inl ())) (row.zip kinds) () (by
    intro s x _
    obtain ⟨r,hr⟩:=gValidR_ex x.1
    rw [hr]
    cases r<;>cases decide (x.1.kind≠0)<;>cases decide (x.1.kind≠x.2)<;>exact ⟨_,rfl⟩)
   rw [k,hr]
   cases r with
   | inl _=>exact ⟨_,rfl⟩
   | inr _=>exact ⟨_,rfl⟩
  ·intro s i x hx
   obtain ⟨h1,h2⟩:=List.getElem?_zip_eq_some.1 hx
   have hi:i<row.length:=(List.getElem?_eq_some_iff.1 h1).1
   unfold gFits8_B1
   dsimp only
   rw [lt_dec h1,cond_true,gn_ h1,gn_ h2]
   simp only [Option.bind_some]
   rw [wrapN (by omega)]
   cases gValidR x.1 with
   | none=>rfl
   | some r=>cases r<;>cases decide (x.1.kind≠0)<;>cases decide (x.1.kind≠x.2)<;>rfl
  ·intro s
   unfold gFits8_B1
   dsimp only
   rw [hz,lF_,cond_false]
 ·rw [show decide (((row.length:Nat):Int)≠((kinds.length:Nat):Int))=true from decide_eq_true (by omega)]
  exact ⟨_,rfl⟩
theorem gKind_ex (k:Int) : ∃ r,gKind k=some r:=by
 unfold gKind
 cases decide (k=1)<;>cases decide (k=2)<;>exact ⟨_,rfl⟩
theorem gKinds_ex (l:List Int) (h:l.length≤1000000) : ∃ r,gKinds l=some r:=by
 unfold gKinds
 have k:=loop_list (l:=l) (body:=gKinds_B1 l) (mk:=fun (_:Unit) i=>i) (f:=fun (_:Unit) (x:Int)=>(gKind x).bind fun r=>bif (!r) then some (.inr false) else some (.inl ())) ?_ ?_ (by unfold fuel;omega) ()
 ·obtain ⟨r,hr⟩:=fold_ex (σ:=Unit) (ρ:=Bool) (f:=fun (_:Unit) (x:Int)=>(gKind x).bind fun r=>bif (!r) then some (.inr false) else some (.inl ())) l () (by
   intro s x _
   obtain ⟨r,hr⟩:=gKind_ex x
   rw [hr]
   cases r<;>exact ⟨_,rfl⟩)
  rw [k,hr]
  cases r with
  | inl _=>exact ⟨_,rfl⟩
  | inr _=>exact ⟨_,rfl⟩
 ·intro s i x hx
  have hi:i<l.length:=(List.getElem?_eq_some_iff.1 hx).1
  unfold gKinds_B1
  dsimp only
  rw [lt_dec hx,cond_true,gn_ hx]
  simp only [Option.bind_some]
  rw [wrapN (by omega)]
  cases gKind x with
  | none=>rfl
  | some r=>cases r<;>rfl
 ·intro s
  unfold gKinds_B1
  dsimp only
  rw [lF_,cond_false]
theorem gSameKinds_refl (l:List Int) (h:l.length≤1000000):gSameKinds l l=some true:=by
 unfold gSameKinds
 simp only [ne_eq,not_true_eq_false,decide_false,cond_false]
 rw [loop_list (l:=l) (mk:=fun (_:Unit) i=>i) (f:=fun (_:Unit) (_:Int)=>(some (.inl ()):Option (Sum Unit Bool))) ?_ ?_ (by unfold fuel;omega) ()]
 ·have : ∀ l:List Int,foldS (fun (_:Unit) (_:Int)=>(some (.inl ()):Option (Sum Unit Bool))) () l=some (.inl ()):=by
   intro l
   induction l with
   | nil=>rfl
   | cons x l ih=>rw [foldS];exact ih
  rw [this];rfl
 ·intro s i x hx
  have hi:i<l.length:=(List.getElem?_eq_some_iff.1 hx).1
  unfold gSameKinds_B1
  dsimp only
  rw [lt_dec hx,cond_true,gn_ hx]
  simp only [Option.bind_some]
  rw [wrapN (by omega)]
  simp [foldN]
 ·intro s
  unfold gSameKinds_B1
  dsimp only
  rw [lF_,cond_false]
theorem list2 {α:Type} : ∀ {l:List α}, l.length=2 → ∃ c0 c1,l=[c0,c1]
 | [c0,c1],_=>⟨c0,c1,rfl⟩
theorem list3 {α:Type} : ∀ {l:List α}, l.length=3 → ∃ c0 c1 c2,l=[c0,c1,c2]
 | [c0,c1,c2],_=>⟨c0,c1,c2,rfl⟩
theorem list7 {α:Type} : ∀ {l:List α}, l.length=7 → ∃ c0 c1 c2 c3 c4 c5 c6,l=[c0,c1,c2,c3,c4,c5,c6]
 | [c0,c1,c2,c3,c4,c5,c6],_=>⟨c0,c1,c2,c3,c4,c5,c6,rfl⟩
theorem addr_add (b o n:Nat):(⟨b,o,none⟩:Addr).add n=⟨b,o+n,none⟩:=by
 unfold Addr.add
 split<;>simp_all
def RW {W:World} (hT:TabR (fun b o=>W.cell? ⟨b,o,none⟩)):PH:=⟨fun b o=>W.cell? ⟨b,o,none⟩,hT⟩
def CRd {W:World} (hT:TabR (fun b o=>W.cell? ⟨b,o,none⟩)) (cs:List Value) (es:List AC):Prop:=cs.length=es.length ∧ ∀ (j:Nat) u x,cs[j]?=some u→es[j]?=some x→PRep (RW hT) u x
theorem CRd.app {W:World} {hT:TabR (fun b o=>W.cell? ⟨b,o,none⟩)} {c1 c2:List Value} {e1 e2:List AC} (h1:CRd hT c1 e1) (h2:CRd hT c2 e2):CRd hT (c1++c2) (e1++e2):=by
 refine ⟨by rw [List.length_append,List.length_append,h1.1,h2.1],fun j u x hu hx=>?_⟩
 have hl:=h1.1
 by_cases hj:j<c1.length
 ·rw [List.getElem?_append_left hj] at hu
  rw [List.getElem?_append_left (by omega)] at hx
  exact h1.2 j u x hu hx
 ·rw [List.getElem?_append_right (by omega)] at hu
  rw [List.getElem?_append_right (by omega), ← hl] at hx
  exact h2.2 _ u x hu hx
theorem CRd.one {W:World} {hT:TabR (fun b o=>W.cell? ⟨b,o,none⟩)} {v:Value} {e:AC} (h:PRep (RW hT) v e):CRd hT [v] [e]:=by
 refine ⟨rfl,fun j u x hu hx=>?_⟩
 match j,hu,hx with
 | 0,hu,hx=>simp at hu hx;subst hu hx;exact h
 | j+1,hu,hx=>simp at hu
def IOk (n:Int):Prop := -9223372036854775808≤n∧n≤9223372036854775807
def SOk (s:ByteArray):Prop:=s.size≤9223372036854775807
def LOk {α:Type} (k:Nat) (Q:α→Prop) (l:List α):Prop:=l.length*k≤reachBytes ∧ ∀ a∈l,Q a
def WOk {H:Type} (t:TypeId) (d:DataW H):Prop := ∀ n∈DataW.weights Tryz.prog t d,n≤reachBytes
theorem wok_all {H:Type} {e:TypeId} : ∀ {l:List (DataW H)} {d:DataW H}, d∈l → ∀ n∈DataW.weights Tryz.prog e d,n∈DataW.weightsAll Tryz.prog e l
 | x::l,d,h,n,hn=>by
  rw [DataW.weightsAll,List.mem_append]
  rcases List.mem_cons.1 h with rfl|h
  ·exact .inl hn
  ·exact .inr (wok_all h n hn)
theorem wok_each {H:Type} : ∀ {ts:List TypeId} {l:List (DataW H)} {i:Nat} {t:TypeId} {d:DataW H}, ts[i]?=some t→l[i]?=some d → ∀ n∈DataW.weights Tryz.prog t d,n∈DataW.weightsEach Tryz.prog ts l
 | t0::ts,d0::l,0,t,d,h1,h2,n,hn=>by
  simp at h1 h2;subst h1 h2
  rw [DataW.weightsEach,List.mem_append];exact .inl hn
 | t0::ts,d0::l,i+1,t,d,h1,h2,n,hn=>by
  rw [DataW.weightsEach,List.mem_append];exact .inr (wok_each (by simpa using h1) (by simpa using h2) n hn)
 | [],_,i,t,d,h1,_,n,hn=>by simp at h1
 | _::_,[],i,t,d,_,h2,n,hn=>by simp at h2
section
variable {H:Type} {enc:TypeId × Value→H} {W:World} {hT:TabR (fun b o=>W.cell? ⟨b,o,none⟩)} {base:Nat} {spare:Nat→Bool} {held:Bool}
theorem read_int {t:TypeId} (ht:Tryz.prog.underlying t=some (.int .i64)) {cs:List Value} {fuel:Nat} {x:DataW H × List MemPlace} (h:DataW.trod enc Tryz.prog W base spare held fuel t cs=some x) : ∃ n:Int,CRd hT cs [.int .i64 n]∧IOk n:=by
 obtain ⟨n,rfl,_,hw⟩:=DataW.trod_int ht h
 rw [Lit.wf,Bool.and_eq_true] at hw
 exact ⟨n,CRd.one (.int _ _),of_decide_eq_true hw.1,of_decide_eq_true hw.2⟩
theorem read_str {t:TypeId} (ht:Tryz.prog.underlying t=some .string) {cs:List Value} {fuel:Nat} {x:DataW H × List MemPlace} (h:DataW.trod enc Tryz.prog W base spare held fuel t cs=some x) : ∃ s:ByteArray,CRd hT cs [.str s]∧SOk s:=by
 obtain ⟨s,rfl,_,hs⟩:=DataW.trod_string ht h
 exact ⟨s,CRd.one (.str _),hs⟩
theorem read_slice {α:Type} {t e:TypeId} {k:Nat} {f:α→List AC} {Q:α→Prop} (ht:Tryz.prog.underlying t=some (.slice e)) (hk:Tryz.prog.cellsOf e=k) {by_:Nat} (hby:Tryz.prog.bytesOf e=by_) (hk0:0<k) (hf : ∀ x,(f x).length=k) {cs:List Value} {fuel:Nat} {x:DataW H × List MemPlace} (h:DataW.trod enc Tryz.prog W base spare held fuel t cs=some x) (hw:WOk t x.1)
  (hr : ∀ (fuel':Nat) (cs':List Value) (x':DataW H × List MemPlace),fuel'<fuel→DataW.trod enc Tryz.prog W base spare held fuel' e cs'=some x'→WOk e x'.1 → ∃ a,CRd hT cs' (f a)∧Q a) : ∃ l:List α,CRd hT cs [.lst (l.map f)]∧LOk by_ Q l:=by
 rcases DataW.trod_slice ht h with ⟨rfl,_⟩|⟨a,len,cap,elems,rest,n,hfu,rfl,hxe,_,hlc,hm,hel,hx,_,_⟩
 ·exact ⟨[],CRd.one (prep_nil _ _ _),by simp,fun a ha=>by cases ha⟩
 ·have hww:(∀ n∈DataW.weightsAll Tryz.prog e (elems.map (·.1)),n≤reachBytes)∧len*by_≤reachBytes:=by
   rw [hxe] at hw
   unfold WOk at hw
   simp only [DataW.weights,ht] at hw
   refine ⟨fun n hn=>hw n (List.mem_cons_of_mem _ (List.mem_append_left _ hn)),?_⟩
   have:=hw _ (List.mem_cons_self ..)
   simp only [List.length_map,hel,hby] at this
   exact Nat.le_trans (Nat.mul_le_mul_right _ (Nat.le_add_right _ _)) this
  have hi : ∀ i,i<len → ∃ y,(∃ cs',W.cells? base (a.add (i*k)) k=some cs'∧CRd hT cs' (f y))∧Q y:=by
   intro i hlt
   have h1:=hx i hlt
   rw [List.getElem?_eq_getElem (by omega),hk] at h1
   cases hc:W.cells? base (a.add (i*k)) k with
   | none=>rw [hc] at h1;cases h1
   | some cs'=>rw [hc] at h1;obtain ⟨y,h2,h3⟩:=hr n cs' _ (by omega) h1 (fun m hm=>hww.1 m (wok_all (List.mem_map_of_mem (f:=fun p:DataW H × List MemPlace=>p.1) (List.getElem_mem (by omega))) m hm));exact ⟨y,⟨cs',rfl,h2⟩,h3⟩
  rcases Nat.eq_zero_or_pos len with h0|h0
  ·subst h0;exact ⟨[],CRd.one (prep_nil _ _ _),by simp,fun a ha=>by cases ha⟩
  ·obtain ⟨y0,⟨cs0,hc0,_⟩,_⟩:=hi 0 h0
   let g:Nat→α:=fun i=>if h:i<len then Classical.choose (hi i h) else y0
   have hg : ∀ i,i<len→(∃ cs',W.cells? base (a.add (i*k)) k=some cs'∧CRd hT cs' (f (g i)))∧Q (g i):=by
    intro i hlt
    have:g i=Classical.choose (hi i hlt):=by simp [g,hlt]
    rw [this]
    exact Classical.choose_spec (hi i hlt)
   obtain ⟨b,off,spot⟩:=a
   have hs0:spot=none:=by
    obtain ⟨_,hl,hat⟩:=World.cells?_some hc0
    have h1:=hat 0 hk0
    rw [List.getElem?_eq_getElem (by omega)] at h1
    have:=World.cell?_spot h1
    simpa [Addr.add] using this
   subst hs0
   refine ⟨(List.range len).map g,CRd.one ?_,(by rw [List.length_map,List.length_range];exact hww.2),?_⟩
   ·have cell : ∀ i,i<len → ∀ j,j<k → ∃ u y,W.cell? ⟨b,off+(i*k+j),none⟩=some u∧(f (g i))[j]?=some y∧PRep (RW hT) u y:=by
     intro i hlt j hj
     obtain ⟨⟨cs',hc,hcr⟩,_⟩:=hg i hlt
     obtain ⟨_,hl,hat⟩:=World.cells?_some hc
     have h1:=hat j hj
     rw [List.getElem?_eq_getElem (by omega)] at h1
     have hfl:=hf (g i)
     refine ⟨_,_,?_,List.getElem?_eq_getElem (by omega),hcr.2 j _ _ (List.getElem?_eq_getElem (by omega)) (List.getElem?_eq_getElem (by omega))⟩
     rw [addr_add,addr_add,Nat.add_assoc] at h1
     exact h1
    refine .lst (some ⟨b,off,none⟩) len cap _ k (fun j=>(W.cell? ⟨b,off+j,none⟩).getD (.bool false)) b off (by simp) hlc ?_ (fun _=>rfl) ?_ ?_
    ·intro e he
     simp only [List.map_map,List.mem_map] at he
     obtain ⟨i,_,rfl⟩:=he
     exact hf _
    ·intro j hj
     have hd:j/k<len:=by rw [Nat.div_lt_iff_lt_mul hk0];exact hj
     obtain ⟨u,y,h1,_,_⟩:=cell (j/k) hd (j%k) (Nat.mod_lt _ hk0)
     have hjj:j/k*k+j%k=j:=by rw [Nat.mul_comm];exact Nat.div_add_mod j k
     rw [hjj] at h1
     show W.cell? _=_
     rw [h1];rfl
    ·intro i e j x he hxx
     have hlt:i<len:=by have:=(List.getElem?_eq_some_iff.1 he).1;simpa using this
     have:e=f (g i):=by simp [hlt] at he;exact he.symm
     subst this
     have hj:j<k:=by have:=(List.getElem?_eq_some_iff.1 hxx).1;rw [hf] at this;exact this
     obtain ⟨u,y,h1,h2,h3⟩:=cell i hlt j hj
     rw [h2] at hxx
     obtain rfl:=Option.some.inj hxx
     rw [h1];exact h3
   ·intro a ha
    simp only [List.mem_map,List.mem_range] at ha
    obtain ⟨i,hlt,rfl⟩:=ha
    exact (hg i hlt).2
theorem fld {s:TypeId} {x:DataW H × List MemPlace} {fs:Array Field} {n:Nat} {cs:List Value} {xs:List (DataW H × List MemPlace)} (hs:Tryz.prog.underlying s=some (.struct fs)) (hx:x=(.agg (xs.map (·.1)),xs.flatMap (·.2))) (hw:WOk s x.1) (hl:xs.length=fs.size) (hf : ∀ (i:Nat) (f:Field),fs[i]?=some f→DataW.trod enc Tryz.prog W base spare held n f.type ((cs.drop f.offset).take (Tryz.prog.cellsOf f.type))=xs[i]?)
  (i:Nat) {f:Field} {t o k:Nat} (hi:fs[i]?=some f) (h1:f.type=t) (h2:f.offset=o) (h3:Tryz.prog.cellsOf t=k) : ∃ y,DataW.trod enc Tryz.prog W base spare held n t ((cs.drop o).take k)=some y∧WOk t y.1:=by
 have hlt:i<fs.size:=(Array.getElem?_eq_some_iff.1 hi).1
 have:=hf i f hi
 rw [h1,h2,h3,List.getElem?_eq_getElem (by omega)] at this
 refine ⟨_,this,fun m hm=>?_⟩
 rw [hx] at hw
 unfold WOk at hw
 simp only [DataW.weights,hs] at hw
 refine hw m (wok_each (i:=i) ?_ ?_ m hm)
 ·rw [List.getElem?_map,Array.getElem?_toList,hi];simp [h1]
 ·rw [List.getElem?_map,List.getElem?_eq_getElem (by omega)];rfl
end
structure okVal (x:Val):Prop where
 kind:IOk x.kind
 int:IOk x.int
 text:SOk x.text
section
variable {H:Type} {enc:TypeId × Value→H} {W:World} {hT:TabR (fun b o=>W.cell? ⟨b,o,none⟩)} {base:Nat} {spare:Nat→Bool} {held:Bool}
theorem rd_Val : ∀ (fuel:Nat) {cs:List Value} {x:DataW H × List MemPlace}, DataW.trod enc Tryz.prog W base spare held fuel 27 cs=some x→WOk 27 x.1 → ∃ a:Val,CRd hT cs (cV a)∧okVal a:=by
 intro fuel
 intro cs x h hw
 obtain ⟨xs,n,hfu,hxe,hlen,hxs,hf⟩:=DataW.trod_struct Tryz.underlying27 h
 rw [show Tryz.prog.cellsOf 27=3 by kernel_rfl] at hlen
 obtain ⟨c0,c1,c2,rfl⟩:=list3 hlen
 obtain ⟨y0,h0,w0⟩:=fld Tryz.underlying27 hxe hw hxs hf 0 (t:=3) (o:=0) (k:=1) rfl rfl rfl (by kernel_rfl)
 replace h0:DataW.trod enc Tryz.prog W base spare held n 3 [c0]=some y0:=h0
 obtain ⟨l0,r0,q0⟩:=read_int Tryz.underlying3 h0
 obtain ⟨y1,h1,w1⟩:=fld Tryz.underlying27 hxe hw hxs hf 1 (t:=3) (o:=1) (k:=1) rfl rfl rfl (by kernel_rfl)
 replace h1:DataW.trod enc Tryz.prog W base spare held n 3 [c1]=some y1:=h1
 obtain ⟨l1,r1,q1⟩:=read_int Tryz.underlying3 h1
 obtain ⟨y2,h2,w2⟩:=fld Tryz.underlying27 hxe hw hxs hf 2 (t:=9) (o:=2) (k:=1) rfl rfl rfl (by kernel_rfl)
 replace h2:DataW.trod enc Tryz.prog W base spare held n 9 [c2]=some y2:=h2
 obtain ⟨l2,r2,q2⟩:=read_str Tryz.underlying9 h2
 exact ⟨⟨l0,l1,l2⟩,((r0.app r1).app r2),⟨q0,q1,q2⟩⟩
end
structure okPer (x:Per):Prop where
 lo:IOk x.lo
 hi:IOk x.hi
section
variable {H:Type} {enc:TypeId × Value→H} {W:World} {hT:TabR (fun b o=>W.cell? ⟨b,o,none⟩)} {base:Nat} {spare:Nat→Bool} {held:Bool}
theorem rd_Per : ∀ (fuel:Nat) {cs:List Value} {x:DataW H × List MemPlace}, DataW.trod enc Tryz.prog W base spare held fuel 43 cs=some x→WOk 43 x.1 → ∃ a:Per,CRd hT cs (cPer a)∧okPer a:=by
 intro fuel
 intro cs x h hw
 obtain ⟨xs,n,hfu,hxe,hlen,hxs,hf⟩:=DataW.trod_struct Tryz.underlying43 h
 rw [show Tryz.prog.cellsOf 43=2 by kernel_rfl] at hlen
 obtain ⟨c0,c1,rfl⟩:=list2 hlen
 obtain ⟨y0,h0,w0⟩:=fld Tryz.underlying43 hxe hw hxs hf 0 (t:=3) (o:=0) (k:=1) rfl rfl rfl (by kernel_rfl)
 replace h0:DataW.trod enc Tryz.prog W base spare held n 3 [c0]=some y0:=h0
 obtain ⟨l0,r0,q0⟩:=read_int Tryz.underlying3 h0
 obtain ⟨y1,h1,w1⟩:=fld Tryz.underlying43 hxe hw hxs hf 1 (t:=3) (o:=1) (k:=1) rfl rfl rfl (by kernel_rfl)
 replace h1:DataW.trod enc Tryz.prog W base spare held n 3 [c1]=some y1:=h1
 obtain ⟨l1,r1,q1⟩:=read_int Tryz.underlying3 h1
 exact ⟨⟨l0,l1⟩,(r0.app r1),⟨q0,q1⟩⟩
theorem rd_l70 {cs:List Value} {fuel:Nat} {x:DataW H × List MemPlace} (h:DataW.trod enc Tryz.prog W base spare held fuel 70 cs=some x) (hw:WOk 70 x.1) : ∃ l:List Val,CRd hT cs [.lst (l.map cV)]∧LOk 32 okVal l :=
 read_slice (k:=3) (f:=cV) (Q:=okVal) Tryz.underlying70 (by kernel_rfl) (by kernel_rfl) (by decide) (fun _=>rfl) h hw (fun f c x _ h hw=>rd_Val f h hw)
end
structure okFct (x:Fct):Prop where
 row:(LOk 32 okVal) x.row
 valid:okPer x.valid
section
variable {H:Type} {enc:TypeId × Value→H} {W:World} {hT:TabR (fun b o=>W.cell? ⟨b,o,none⟩)} {base:Nat} {spare:Nat→Bool} {held:Bool}
theorem rd_Fct : ∀ (fuel:Nat) {cs:List Value} {x:DataW H × List MemPlace}, DataW.trod enc Tryz.prog W base spare held fuel 72 cs=some x→WOk 72 x.1 → ∃ a:Fct,CRd hT cs (cFct a)∧okFct a:=by
 intro fuel
 intro cs x h hw
 obtain ⟨xs,n,hfu,hxe,hlen,hxs,hf⟩:=DataW.trod_struct Tryz.underlying72 h
 rw [show Tryz.prog.cellsOf 72=3 by kernel_rfl] at hlen
 obtain ⟨c0,c1,c2,rfl⟩:=list3 hlen
 obtain ⟨y0,h0,w0⟩:=fld Tryz.underlying72 hxe hw hxs hf 0 (t:=70) (o:=0) (k:=1) rfl rfl rfl (by kernel_rfl)
 replace h0:DataW.trod enc Tryz.prog W base spare held n 70 [c0]=some y0:=h0
 obtain ⟨l0,r0,q0⟩:=rd_l70 h0 w0
 obtain ⟨y1,h1,w1⟩:=fld Tryz.underlying72 hxe hw hxs hf 1 (t:=43) (o:=1) (k:=2) rfl rfl rfl (by kernel_rfl)
 replace h1:DataW.trod enc Tryz.prog W base spare held n 43 [c1,c2]=some y1:=h1
 obtain ⟨l1,r1,q1⟩:=rd_Per n h1 w1
 exact ⟨⟨l0,l1⟩,(r0.app r1),⟨q0,q1⟩⟩
theorem rd_l22 {cs:List Value} {fuel:Nat} {x:DataW H × List MemPlace} (h:DataW.trod enc Tryz.prog W base spare held fuel 22 cs=some x) (hw:WOk 22 x.1) : ∃ l:List Int,CRd hT cs [.lst (l.map (fun x=>[AC.int .i64 x]))]∧LOk 8 IOk l :=
 read_slice (k:=1) (f:=(fun x=>[AC.int .i64 x])) (Q:=IOk) Tryz.underlying22 (by kernel_rfl) (by kernel_rfl) (by decide) (fun _=>rfl) h hw (fun f c x _ h hw=>read_int Tryz.underlying3 h)
theorem rd_l23 {cs:List Value} {fuel:Nat} {x:DataW H × List MemPlace} (h:DataW.trod enc Tryz.prog W base spare held fuel 23 cs=some x) (hw:WOk 23 x.1) : ∃ l:List Fct,CRd hT cs [.lst (l.map cFct)]∧LOk 40 okFct l :=
 read_slice (k:=3) (f:=cFct) (Q:=okFct) Tryz.underlying23 (by kernel_rfl) (by kernel_rfl) (by decide) (fun _=>rfl) h hw (fun f c x _ h hw=>rd_Fct f h hw)
end
structure okRln (x:Rln):Prop where
 kinds:(LOk 8 IOk) x.kinds
 facts:(LOk 40 okFct) x.facts
section
variable {H:Type} {enc:TypeId × Value→H} {W:World} {hT:TabR (fun b o=>W.cell? ⟨b,o,none⟩)} {base:Nat} {spare:Nat→Bool} {held:Bool}
theorem rd_Rln : ∀ (fuel:Nat) {cs:List Value} {x:DataW H × List MemPlace}, DataW.trod enc Tryz.prog W base spare held fuel 25 cs=some x→WOk 25 x.1 → ∃ a:Rln,CRd hT cs (cRln a)∧okRln a:=by
 intro fuel
 intro cs x h hw
 obtain ⟨xs,n,hfu,hxe,hlen,hxs,hf⟩:=DataW.trod_struct Tryz.underlying25 h
 rw [show Tryz.prog.cellsOf 25=2 by kernel_rfl] at hlen
 obtain ⟨c0,c1,rfl⟩:=list2 hlen
 obtain ⟨y0,h0,w0⟩:=fld Tryz.underlying25 hxe hw hxs hf 0 (t:=22) (o:=0) (k:=1) rfl rfl rfl (by kernel_rfl)
 replace h0:DataW.trod enc Tryz.prog W base spare held n 22 [c0]=some y0:=h0
 obtain ⟨l0,r0,q0⟩:=rd_l22 h0 w0
 obtain ⟨y1,h1,w1⟩:=fld Tryz.underlying25 hxe hw hxs hf 1 (t:=23) (o:=1) (k:=1) rfl rfl rfl (by kernel_rfl)
 replace h1:DataW.trod enc Tryz.prog W base spare held n 23 [c1]=some y1:=h1
 obtain ⟨l1,r1,q1⟩:=rd_l23 h1 w1
 exact ⟨⟨l0,l1⟩,(r0.app r1),⟨q0,q1⟩⟩
end
inductive okEx:Ex→Prop
 | mk {op:Int} {int:Int} {v:Val} {nm:ByteArray} {args:(List Ex)} (h0:IOk op) (h1:IOk int) (h2:okVal v) (h3:SOk nm) (h4:args.length*88≤reachBytes) (g4 : ∀ a∈args,okEx a):okEx (.mk op int v nm args)
section
variable {H:Type} {enc:TypeId × Value→H} {W:World} {hT:TabR (fun b o=>W.cell? ⟨b,o,none⟩)} {base:Nat} {spare:Nat→Bool} {held:Bool}
theorem rd_Ex : ∀ (fuel:Nat) {cs:List Value} {x:DataW H × List MemPlace}, DataW.trod enc Tryz.prog W base spare held fuel 30 cs=some x→WOk 30 x.1 → ∃ a:Ex,CRd hT cs (tE a)∧okEx a:=by
 intro fuel
 induction fuel using Nat.strongRecOn with
 | ind fuel ih =>
 intro cs x h hw
 obtain ⟨xs,n,hfu,hxe,hlen,hxs,hf⟩:=DataW.trod_struct Tryz.underlying30 h
 rw [show Tryz.prog.cellsOf 30=7 by kernel_rfl] at hlen
 obtain ⟨c0,c1,c2,c3,c4,c5,c6,rfl⟩:=list7 hlen
 obtain ⟨y0,h0,w0⟩:=fld Tryz.underlying30 hxe hw hxs hf 0 (t:=3) (o:=0) (k:=1) rfl rfl rfl (by kernel_rfl)
 replace h0:DataW.trod enc Tryz.prog W base spare held n 3 [c0]=some y0:=h0
 obtain ⟨l0,r0,q0⟩:=read_int Tryz.underlying3 h0
 obtain ⟨y1,h1,w1⟩:=fld Tryz.underlying30 hxe hw hxs hf 1 (t:=3) (o:=1) (k:=1) rfl rfl rfl (by kernel_rfl)
 replace h1:DataW.trod enc Tryz.prog W base spare held n 3 [c1]=some y1:=h1
 obtain ⟨l1,r1,q1⟩:=read_int Tryz.underlying3 h1
 obtain ⟨y2,h2,w2⟩:=fld Tryz.underlying30 hxe hw hxs hf 2 (t:=27) (o:=2) (k:=3) rfl rfl rfl (by kernel_rfl)
 replace h2:DataW.trod enc Tryz.prog W base spare held n 27 [c2,c3,c4]=some y2:=h2
 obtain ⟨l2,r2,q2⟩:=rd_Val n h2 w2
 obtain ⟨y3,h3,w3⟩:=fld Tryz.underlying30 hxe hw hxs hf 3 (t:=9) (o:=5) (k:=1) rfl rfl rfl (by kernel_rfl)
 replace h3:DataW.trod enc Tryz.prog W base spare held n 9 [c5]=some y3:=h3
 obtain ⟨l3,r3,q3⟩:=read_str Tryz.underlying9 h3
 obtain ⟨y4,h4,w4⟩:=fld Tryz.underlying30 hxe hw hxs hf 4 (t:=28) (o:=6) (k:=1) rfl rfl rfl (by kernel_rfl)
 replace h4:DataW.trod enc Tryz.prog W base spare held n 28 [c6]=some y4:=h4
 obtain ⟨l4,r4,q4⟩:=read_slice (k:=7) (f:=tE) (Q:=okEx) Tryz.underlying28 (by kernel_rfl) (by kernel_rfl) (by decide) tE_len h4 w4 (fun f c x hlt h hw=>ih f (by omega) h hw)
 exact ⟨.mk l0 l1 l2 l3 l4,(by rw [tE_eq];exact ((((r0.app r1).app r2).app r3).app r4)), .mk q0 q1 q2 q3 q4.1 q4.2⟩
end
end Go.Proofs.YtfccopdbgfdcdaaGreatDoor
