/- Parts of the proof, joined. No condition. -/
import Derived.Test.YtnbnpnmkgemdeaaGreatDoorKAU
import Derived.RowKit
import Derived.Test.YtnbnpnmkgemdeaaGreatDoorKAZ
import Derived.Test.YtnbnpnmkgemdeaaGreatDoorKAY
import Derived.Test.YtnbnpnmkgemdeaaGreatDoorKBK
import Derived.Test.YtnbnpnmkgemdeaaGreatDoorKAP
import Derived.Test.YtnbnpnmkgemdeaaGreatDoorKBL
import Derived.Test.YtnbnpnmkgemdeaaGreatDoorKBM
import Derived.Test.YtnbnpnmkgemdeaaGreatDoorKBN
import Derived.Test.YtnbnpnmkgemdeaaGreatDoorKBH
import Derived.Test.YtnbnpnmkgemdeaaGreatDoorKBI
set_option linter.unusedSimpArgs false
set_option linter.unusedVariables false
namespace Go.Proofs.YtnbnpnmkgemdeaaGreatDoor.St

def stepOk (p q : Int × Int) : Bool := decide (p.1 < q.1) && decide (q.1 < 1099511627776) && !(q.2 == p.2)
def validFrom : Int × Int → List (Int × Int) → Bool
  | _, [] => true
  | p, q :: r => stepOk p q && validFrom q r
def svalid : List (Int × Int) → Bool
  | [] => false
  | p :: r => p.1 == 0 && validFrom p r

def rat (l : List (Int × Int)) (t : Int) : Int := if 0 ≤ t ∧ t < 1099511627776 then l.foldl (fun n s => if s.1 ≤ t then s.2 else n) 0 else 0

theorem validFrom_snoc : ∀ (l : List (Int × Int)) (p q : Int × Int), validFrom p (l ++ [q]) = (validFrom p l && stepOk ((p :: l).getLast (by simp)) q)
  | [], p, q => by simp [validFrom]
  | a :: l, p, q => by
    have := validFrom_snoc l a q
    simp only [List.cons_append, validFrom, this, Bool.and_assoc]
    rfl

end Go.Proofs.YtnbnpnmkgemdeaaGreatDoor.St
namespace Go.Proofs.YtnbnpnmkgemdeaaGreatDoor.St
open Go.RowKit
theorem fold_skip (t : Int) : ∀ (l : List (Int × Int)) (z : Int), (∀ x ∈ l, t < x.1) → l.foldl (fun n s => if s.1 ≤ t then s.2 else n) z = z
  | [], z, h => rfl
  | x :: l, z, h => by
    rw [List.foldl_cons, if_neg (by have := h x (by simp); omega)]
    exact fold_skip t l z fun y hy => h y (by simp [hy])
end Go.Proofs.YtnbnpnmkgemdeaaGreatDoor.St
namespace Go.Proofs.YtnbnpnmkgemdeaaGreatDoor
open Go.RowKit Go.MapKept
set_option maxRecDepth 100000
set_option maxHeartbeats 8000000
set_option linter.unusedVariables false
set_option linter.unusedSimpArgs false
def gSameRows_B1 (a_a : (List (List Val))) (a_b : (List (List Val))) : (Int) → Option (Step (Int) (Bool)) := fun s => match s with
  | i_2 => bif (decide (i_2 < ((a_a.length : Nat) : Int))) then
    (getI a_a i_2).bind fun x_4 => (getI a_b i_2).bind fun x_5 => (gEqual8 x_4 x_5).bind fun r_6 => bif (!r_6) then
      some (.ret false)
    else
      some (.next (IntKind.i64.wrap (i_2 + (1 : Int))))
  else
    some (.exit i_2)
def gSameRows_K1 : Sum (Int) (Bool) → Option ((Bool))
  | .inl i_2 => some true
  | .inr q => some q
def gSameRows (a_a : (List (List Val))) (a_b : (List (List Val))) : Option (Bool) := bif (decide (((a_a.length : Nat) : Int) ≠ ((a_b.length : Nat) : Int))) then
  some false
 else
  (loopM (gSameRows_B1 a_a a_b) fuel (0 : Int)).bind (gSameRows_K1)
theorem gSameRows_ok {a_a : (List (List Val))} {a_b : (List (List Val))} {r : Bool} (H : gSameRows a_a a_b = some r) : Pure Tryz.prog 26 [.one (.lst (a_a.map (fun x => [AC.lst (x.map cV)]))), .one (.lst (a_b.map (fun x => [AC.lst (x.map cV)])))] (.val (.one (.bool r))) := by
  unfold gSameRows at H
  refine pure_of_aw tab_ok Tryz.func26 rfl rfl Tryz.ntmps26 (by simp) ?_
  simp only [argT, PV.av, List.map_cons, List.map_nil]
  rcases Bool.eq_false_or_eq_true (decide (((a_a.length : Nat) : Int) ≠ ((a_b.length : Nat) : Int))) with q_1 | q_1
  · rw [q_1, cond_true] at H
    obtain rfl := Option.some.inj H
    exact go_
  · rw [q_1, cond_false] at H
    repeat' (first | refine p_ rfl rfl rfl rfl rfl ?_ | refine st_nil ?_ | refine x_ rfl rfl rfl rfl rfl rfl rfl rfl ?_ | refine l_ rfl rfl rfl rfl ?_ | refine s_ rfl rfl rfl ?_ | refine t_ rfl rfl rfl rfl ?_ | refine k_ rfl rfl rfl ?_ | refine k0_ rfl rfl ?_ | refine c_ rfl rfl rfl rfl ?_ | refine pick_t rfl rfl rfl rfl rfl rfl rfl ?_ | refine pick_f rfl rfl rfl rfl rfl rfl rfl ?_ | refine aw_seq ?_ | refine aw_region tab_ok _ rfl ?_ | refine aw_drawn2 tabS_ok _ rfl mixed (by decide +kernel) ?_ | refine aw_condT rfl ?_ | refine aw_condF rfl ?_ | refine aw_block ?_ | refine aw_exit ?_ | refine aw_ret ?_ | refine aw_skip ?_ | rw [List.length_map] | rw [mn_norm] | rw [mx_norm])
    refine aw_loopM (fun s : Int => match s with | i_2 => [(0, .one (.c (.lst (a_a.map (fun x => [AC.lst (x.map cV)]))))), (1, .one (.c (.lst (a_b.map (fun x => [AC.lst (x.map cV)]))))), (5, .one (.c (.int .i64 i_2)))]) (fun s => match s with | i_2 => []) H (fun _ => Nat.zero_le _)
      (fits_mk ⟨rfl, rfl, rfl, trivial⟩ [] rfl ⟨trivial, trivial, trivial, trivial⟩ trivial) ?_
    rintro i_2 st1 hb1 hk1
    unfold gSameRows_B1 at hb1
    dsimp only at hb1 ⊢
    rcases Bool.eq_false_or_eq_true (decide (i_2 < ((a_a.length : Nat) : Int))) with q_3 | q_3
    · rw [q_3, cond_true] at hb1
      obtain ⟨x_4, i1, hb1⟩ := bind_some hb1
      obtain ⟨i1z, i1⟩ := getI_some i1
      have i1x := idxI (f := (fun x => [AC.lst (x.map cV)])) i1
      obtain ⟨x_5, i2, hb1⟩ := bind_some hb1
      obtain ⟨i2z, i2⟩ := getI_some i2
      have i2x := idxI (f := (fun x => [AC.lst (x.map cV)])) i2
      obtain ⟨r_6, c3, hb1⟩ := bind_some hb1
      replace c3 := gEqual8_ok c3
      try simp only [List.map_append, List.map_cons, List.map_nil, List.nil_append, tE_eq, tP_eq] at c3
      rcases Bool.eq_false_or_eq_true (!r_6) with q_7 | q_7
      · rw [q_7, cond_true] at hb1
        obtain rfl := Option.some.inj hb1
        have hx1 : gSameRows_K1 (.inr false) = some _ := hk1
        unfold gSameRows_K1 at hx1
        dsimp only at hx1
        obtain rfl := Option.some.inj hx1
        exact go_
      · rw [q_7, cond_false] at hb1
        obtain rfl := Option.some.inj hb1
        repeat' (first | refine p_ rfl rfl rfl rfl rfl ?_ | refine st_nil ?_ | refine x_ rfl rfl rfl rfl rfl rfl rfl rfl ?_ | refine l_ rfl rfl rfl rfl ?_ | refine s_ rfl rfl rfl ?_ | refine t_ rfl rfl rfl rfl ?_ | refine k_ rfl rfl rfl ?_ | refine k0_ rfl rfl ?_ | refine c_ rfl rfl rfl rfl ?_ | refine pick_t rfl rfl rfl rfl rfl rfl rfl ?_ | refine pick_f rfl rfl rfl rfl rfl rfl rfl ?_ | refine aw_seq ?_ | refine aw_region tab_ok _ rfl ?_ | refine aw_drawn2 tabS_ok _ rfl mixed (by decide +kernel) ?_ | refine aw_condT rfl ?_ | refine aw_condF rfl ?_ | refine aw_block ?_ | refine aw_exit ?_ | refine aw_ret ?_ | refine aw_skip ?_ | rw [List.length_map] | rw [mn_norm] | rw [mx_norm])
        exact ⟨_, rfl, fits_mk ⟨rfl, rfl, rfl, trivial⟩ [] rfl ⟨trivial, trivial, trivial, trivial⟩ trivial⟩
    · rw [q_3, cond_false] at hb1
      obtain rfl := Option.some.inj hb1
      have hx1 : gSameRows_K1 (.inl i_2) = some _ := hk1
      unfold gSameRows_K1 at hx1
      dsimp only at hx1
      obtain rfl := Option.some.inj hx1
      exact go_
end Go.Proofs.YtnbnpnmkgemdeaaGreatDoor
namespace Go.Proofs.YtnbnpnmkgemdeaaGreatDoor
open Go.RowKit Go.MapKept
set_option maxRecDepth 100000
set_option maxHeartbeats 8000000
set_option linter.unusedVariables false
set_option linter.unusedSimpArgs false
noncomputable section
def gAt22_B1 (a_l : (List Fct)) (a_t : Int) : ((List (List Val)) × Int) → Option (Step ((List (List Val)) × Int) ((List (List Val)))) := fun s => match s with
  | (out_1, i_2) => bif (decide (i_2 < ((a_l.length : Nat) : Int))) then
    (getI a_l i_2).bind fun x_4 => (gContains1 x_4.valid a_t).bind fun r_5 => bif r_5 then
      bif (decide (out_1.length + 1 ≤ 5864062014805)) then (some (.next ((out_1 ++ [x_4.row]), (IntKind.i64.wrap (i_2 + (1 : Int)))))) else none
    else
      some (.next (out_1, (IntKind.i64.wrap (i_2 + (1 : Int)))))
  else
    some (.exit (out_1, i_2))
def gAt22_K1 : Sum ((List (List Val)) × Int) ((List (List Val))) → Option (((List (List Val))))
  | .inl (out_1, i_2) => (gSortR out_1).bind fun r_7 => some r_7
  | .inr q => some q
def gAt22 (a_l : (List Fct)) (a_t : Int) : Option ((List (List Val))) := (loopM (gAt22_B1 a_l a_t) fuel ([], (0 : Int))).bind (gAt22_K1)
theorem gAt22_ok {a_l : (List Fct)} {a_t : Int} {r : (List (List Val))} (H : gAt22 a_l a_t = some r) : Pure Tryz.prog 27 [.one (.lst (a_l.map cFct)), .one (.int .i64 a_t)] (.val (.one (.lst (r.map (fun x => [AC.lst (x.map cV)]))))) := by
  unfold gAt22 at H
  refine pure_of_aw tab_ok Tryz.func27 rfl rfl Tryz.ntmps27 (by simp) ?_
  simp only [argT, PV.av, List.map_cons, List.map_nil]
  repeat' (first | refine p_ rfl rfl rfl rfl rfl ?_ | refine st_nil ?_ | refine x_ rfl rfl rfl rfl rfl rfl rfl rfl ?_ | refine l_ rfl rfl rfl rfl ?_ | refine s_ rfl rfl rfl ?_ | refine t_ rfl rfl rfl rfl ?_ | refine k_ rfl rfl rfl ?_ | refine k0_ rfl rfl ?_ | refine c_ rfl rfl rfl rfl ?_ | refine pick_t rfl rfl rfl rfl rfl rfl rfl ?_ | refine pick_f rfl rfl rfl rfl rfl rfl rfl ?_ | refine aw_seq ?_ | refine aw_region tab_ok _ rfl ?_ | refine aw_drawn2 tabS_ok _ rfl mixed (by decide +kernel) ?_ | refine aw_condT rfl ?_ | refine aw_condF rfl ?_ | refine aw_block ?_ | refine aw_exit ?_ | refine aw_ret ?_ | refine aw_skip ?_ | rw [List.length_map] | rw [mn_norm] | rw [mx_norm])
  refine aw_tok 5 1 rfl ?_
  refine aw_loopM (fun s : (List (List Val)) × Int => match s with | (out_1, i_2) => [(0, .one (.c (.lst (a_l.map cFct)))), (1, .one (.c (.int .i64 a_t))), (5, .one (.own (out_1.map (fun x => [AC.lst (x.map cV)])) 0)), (6, .one (.c (.int .i64 i_2)))]) (fun s => match s with | (out_1, i_2) => [.spare out_1.length 1]) H (fun _ => Nat.zero_le _)
    (fits_mk ⟨rfl, rfl, rfl, rfl, trivial⟩ [] rfl ⟨trivial, trivial, by show 0 < 1; omega, trivial, trivial⟩ ⟨trivial, trivial⟩) ?_
  rintro ⟨out_1, i_2⟩ st1 hb1 hk1
  unfold gAt22_B1 at hb1
  dsimp only at hb1 ⊢
  rcases Bool.eq_false_or_eq_true (decide (i_2 < ((a_l.length : Nat) : Int))) with q_3 | q_3
  · rw [q_3, cond_true] at hb1
    obtain ⟨x_4, i1, hb1⟩ := bind_some hb1
    obtain ⟨i1z, i1⟩ := getI_some i1
    have i1x := idxI (f := cFct) i1
    obtain ⟨r_5, c2, hb1⟩ := bind_some hb1
    replace c2 := gContains1_ok c2
    try simp only [List.map_append, List.map_cons, List.map_nil, List.nil_append, tE_eq, tP_eq] at c2
    rcases Bool.eq_false_or_eq_true r_5 with q_6 | q_6
    · rw [q_6, cond_true] at hb1
      obtain ⟨g3, hb1⟩ := grd_some hb1
      replace g3 := of_decide_eq_true g3
      obtain rfl := Option.some.inj hb1
      repeat' (first | refine p_ rfl rfl rfl rfl rfl ?_ | refine st_nil ?_ | refine x_ rfl rfl rfl rfl rfl rfl rfl rfl ?_ | refine l_ rfl rfl rfl rfl ?_ | refine s_ rfl rfl rfl ?_ | refine t_ rfl rfl rfl rfl ?_ | refine k_ rfl rfl rfl ?_ | refine k0_ rfl rfl ?_ | refine c_ rfl rfl rfl rfl ?_ | refine pick_t rfl rfl rfl rfl rfl rfl rfl ?_ | refine pick_f rfl rfl rfl rfl rfl rfl rfl ?_ | refine aw_seq ?_ | refine aw_region tab_ok _ rfl ?_ | refine aw_drawn2 tabS_ok _ rfl mixed (by decide +kernel) ?_ | refine aw_condT rfl ?_ | refine aw_condF rfl ?_ | refine aw_block ?_ | refine aw_exit ?_ | refine aw_ret ?_ | refine aw_skip ?_ | rw [List.length_map] | rw [mn_norm] | rw [mx_norm])
      exact ⟨_, rfl, fits_mk ⟨rfl, rfl, (by simp only [List.map_append, List.map_cons, List.map_nil, List.nil_append] <;> rfl), rfl, trivial⟩ [] (by simp only [List.length_append, List.length_cons, List.length_nil, Nat.zero_add, List.map_append, List.map_cons, List.map_nil] <;> rfl) ⟨trivial, trivial, by show 0 < 1; omega, trivial, trivial⟩ ⟨trivial, trivial⟩⟩
    · rw [q_6, cond_false] at hb1
      obtain rfl := Option.some.inj hb1
      repeat' (first | refine p_ rfl rfl rfl rfl rfl ?_ | refine st_nil ?_ | refine x_ rfl rfl rfl rfl rfl rfl rfl rfl ?_ | refine l_ rfl rfl rfl rfl ?_ | refine s_ rfl rfl rfl ?_ | refine t_ rfl rfl rfl rfl ?_ | refine k_ rfl rfl rfl ?_ | refine k0_ rfl rfl ?_ | refine c_ rfl rfl rfl rfl ?_ | refine pick_t rfl rfl rfl rfl rfl rfl rfl ?_ | refine pick_f rfl rfl rfl rfl rfl rfl rfl ?_ | refine aw_seq ?_ | refine aw_region tab_ok _ rfl ?_ | refine aw_drawn2 tabS_ok _ rfl mixed (by decide +kernel) ?_ | refine aw_condT rfl ?_ | refine aw_condF rfl ?_ | refine aw_block ?_ | refine aw_exit ?_ | refine aw_ret ?_ | refine aw_skip ?_ | rw [List.length_map] | rw [mn_norm] | rw [mx_norm])
      exact ⟨_, rfl, fits_mk ⟨rfl, rfl, (by simp only [List.map_append, List.map_cons, List.map_nil, List.nil_append] <;> rfl), rfl, trivial⟩ [] (by simp only [List.length_append, List.length_cons, List.length_nil, Nat.zero_add, List.map_append, List.map_cons, List.map_nil] <;> rfl) ⟨trivial, trivial, by show 0 < 1; omega, trivial, trivial⟩ ⟨trivial, trivial⟩⟩
  · rw [q_3, cond_false] at hb1
    obtain rfl := Option.some.inj hb1
    have hx1 : gAt22_K1 (.inl (out_1, i_2)) = some _ := hk1
    unfold gAt22_K1 at hx1
    dsimp only at hx1
    obtain ⟨r_7, c4, hx1⟩ := bind_some hx1
    replace c4 := gSortR_ok c4
    try simp only [List.map_append, List.map_cons, List.map_nil, List.nil_append, tE_eq, tP_eq] at c4
    obtain rfl := Option.some.inj hx1
    exact go_
def gCanon (a_l : (List Fct)) : Option (Bool) := (gBagR a_l).bind fun r_1 => (gIdent a_l r_1).bind fun r_2 => some r_2
theorem gCanon_ok {a_l : (List Fct)} {r : Bool} (H : gCanon a_l = some r) : Pure Tryz.prog 25 [.one (.lst (a_l.map cFct))] (.val (.one (.bool r))) := by
  unfold gCanon at H
  refine pure_of_aw tab_ok Tryz.func25 rfl rfl Tryz.ntmps25 (by simp) ?_
  simp only [argT, PV.av, List.map_cons, List.map_nil]
  obtain ⟨r_1, c1, H⟩ := bind_some H
  replace c1 := gBagR_ok c1
  try simp only [List.map_append, List.map_cons, List.map_nil, List.nil_append, tE_eq, tP_eq] at c1
  obtain ⟨r_2, c2, H⟩ := bind_some H
  replace c2 := gIdent_ok c2
  try simp only [List.map_append, List.map_cons, List.map_nil, List.nil_append, tE_eq, tP_eq] at c2
  obtain rfl := Option.some.inj H
  exact go_
end
end Go.Proofs.YtnbnpnmkgemdeaaGreatDoor
namespace Go.Proofs.YtnbnpnmkgemdeaaGreatDoor
open Go.RowKit Go.MapKept
set_option maxRecDepth 100000
set_option maxHeartbeats 8000000
set_option linter.unusedVariables false
set_option linter.unusedSimpArgs false
noncomputable section
def gLawBeliefs_B1 (a_l : (List Ver)) (a_at : Int) (a_t : Int) : ((List (List Val)) × Int) → Option (Step ((List (List Val)) × Int) (Bool)) := fun s => match s with
  | (rows_4, i_5) => bif (decide (i_5 < ((a_l.length : Nat) : Int))) then
    (getI a_l i_5).bind fun x_7 => (gContains1 x_7.system a_at).bind fun r_8 => bif r_8 then
      (gContains1 x_7.valid a_t).bind fun r_10 => bif r_10 then
        bif (decide (rows_4.length + 1 ≤ 5864062014805)) then (some (.next ((rows_4 ++ [x_7.row]), (IntKind.i64.wrap (i_5 + (1 : Int)))))) else none
      else
        some (.next (rows_4, (IntKind.i64.wrap (i_5 + (1 : Int)))))
    else
      some (.next (rows_4, (IntKind.i64.wrap (i_5 + (1 : Int)))))
  else
    some (.exit (rows_4, i_5))
def gLawBeliefs_K1 (a_l : (List Ver)) (a_at : Int) (a_t : Int) : Sum ((List (List Val)) × Int) (Bool) → Option ((Bool))
  | .inl (rows_4, i_5) => (gSlice a_l a_at).bind fun r_12 => (gCanon r_12).bind fun r_13 => bif r_13 then
    (gAt22 r_12 a_t).bind fun r_15 => (gSortR rows_4).bind fun r_16 => (gSameRows r_15 r_16).bind fun r_17 => bif r_17 then
      (gSel a_l (⟨(1 : Int), a_at, (0 : Int)⟩ : Cla)).bind fun r_19 => (gFacts r_19).bind fun r_20 => (gBagR r_20).bind fun r_21 => (gIdent r_12 r_21).bind fun r_22 => bif r_22 then
        some (true)
      else
        some false
    else
      some false
  else
    some false
  | .inr q => some q
def gLawBeliefs (a_l : (List Ver)) (a_at : Int) (a_t : Int) : Option (Bool) := (gFew a_l).bind fun r_1 => bif (!r_1) then
  some (true)
 else
  (loopM (gLawBeliefs_B1 a_l a_at a_t) fuel ([], (0 : Int))).bind (gLawBeliefs_K1 a_l a_at a_t)
theorem gLawBeliefs_ok {a_l : (List Ver)} {a_at : Int} {a_t : Int} {r : Bool} (H : gLawBeliefs a_l a_at a_t = some r) : Pure Tryz.prog 5 [.one (.lst (a_l.map cVer)), .one (.int .i64 a_at), .one (.int .i64 a_t)] (.val (.one (.bool r))) := by
  unfold gLawBeliefs at H
  refine pure_of_aw tab_ok Tryz.func5 rfl rfl Tryz.ntmps5 (by simp) ?_
  simp only [argT, PV.av, List.map_cons, List.map_nil]
  obtain ⟨r_1, c1, H⟩ := bind_some H
  replace c1 := gFew_ok c1
  try simp only [List.map_append, List.map_cons, List.map_nil, List.nil_append, tE_eq, tP_eq] at c1
  rcases Bool.eq_false_or_eq_true (!r_1) with q_2 | q_2
  · rw [q_2, cond_true] at H
    have hc_3 := awake_pure
    try simp only [List.map_append, List.map_cons, List.map_nil, List.nil_append, tE_eq, tP_eq] at hc_3
    obtain rfl := Option.some.inj H
    exact go_
  · rw [q_2, cond_false] at H
    repeat' (first | refine p_ rfl rfl rfl rfl rfl ?_ | refine st_nil ?_ | refine x_ rfl rfl rfl rfl rfl rfl rfl rfl ?_ | refine l_ rfl rfl rfl rfl ?_ | refine s_ rfl rfl rfl ?_ | refine t_ rfl rfl rfl rfl ?_ | refine k_ rfl rfl rfl ?_ | refine k0_ rfl rfl ?_ | refine c_ rfl rfl rfl rfl ?_ | refine pick_t rfl rfl rfl rfl rfl rfl rfl ?_ | refine pick_f rfl rfl rfl rfl rfl rfl rfl ?_ | refine aw_seq ?_ | refine aw_region tab_ok _ rfl ?_ | refine aw_drawn2 tabS_ok _ rfl mixed (by decide +kernel) ?_ | refine aw_condT rfl ?_ | refine aw_condF rfl ?_ | refine aw_block ?_ | refine aw_exit ?_ | refine aw_ret ?_ | refine aw_skip ?_ | rw [List.length_map] | rw [mn_norm] | rw [mx_norm])
    refine aw_tok 7 1 rfl ?_
    refine aw_loopM (fun s : (List (List Val)) × Int => match s with | (rows_4, i_5) => [(0, .one (.c (.lst (a_l.map cVer)))), (1, .one (.c (.int .i64 a_at))), (2, .one (.c (.int .i64 a_t))), (7, .one (.own (rows_4.map (fun x => [AC.lst (x.map cV)])) 0)), (8, .one (.c (.int .i64 i_5)))]) (fun s => match s with | (rows_4, i_5) => [.spare rows_4.length 1]) H (fun _ => Nat.zero_le _)
      (fits_mk ⟨rfl, rfl, rfl, rfl, rfl, trivial⟩ [] rfl ⟨trivial, trivial, trivial, by show 0 < 1; omega, trivial, trivial⟩ ⟨trivial, trivial⟩) ?_
    rintro ⟨rows_4, i_5⟩ st1 hb1 hk1
    unfold gLawBeliefs_B1 at hb1
    dsimp only at hb1 ⊢
    rcases Bool.eq_false_or_eq_true (decide (i_5 < ((a_l.length : Nat) : Int))) with q_6 | q_6
    · rw [q_6, cond_true] at hb1
      obtain ⟨x_7, i2, hb1⟩ := bind_some hb1
      obtain ⟨i2z, i2⟩ := getI_some i2
      have i2x := idxI (f := cVer) i2
      obtain ⟨r_8, c3, hb1⟩ := bind_some hb1
      replace c3 := gContains1_ok c3
      try simp only [List.map_append, List.map_cons, List.map_nil, List.nil_append, tE_eq, tP_eq] at c3
      rcases Bool.eq_false_or_eq_true r_8 with q_9 | q_9
      · rw [q_9, cond_true] at hb1
        obtain ⟨r_10, c4, hb1⟩ := bind_some hb1
        replace c4 := gContains1_ok c4
        try simp only [List.map_append, List.map_cons, List.map_nil, List.nil_append, tE_eq, tP_eq] at c4
        rcases Bool.eq_false_or_eq_true r_10 with q_11 | q_11
        · rw [q_11, cond_true] at hb1
          obtain ⟨g5, hb1⟩ := grd_some hb1
          replace g5 := of_decide_eq_true g5
          obtain rfl := Option.some.inj hb1
          repeat' (first | refine p_ rfl rfl rfl rfl rfl ?_ | refine st_nil ?_ | refine x_ rfl rfl rfl rfl rfl rfl rfl rfl ?_ | refine l_ rfl rfl rfl rfl ?_ | refine s_ rfl rfl rfl ?_ | refine t_ rfl rfl rfl rfl ?_ | refine k_ rfl rfl rfl ?_ | refine k0_ rfl rfl ?_ | refine c_ rfl rfl rfl rfl ?_ | refine pick_t rfl rfl rfl rfl rfl rfl rfl ?_ | refine pick_f rfl rfl rfl rfl rfl rfl rfl ?_ | refine aw_seq ?_ | refine aw_region tab_ok _ rfl ?_ | refine aw_drawn2 tabS_ok _ rfl mixed (by decide +kernel) ?_ | refine aw_condT rfl ?_ | refine aw_condF rfl ?_ | refine aw_block ?_ | refine aw_exit ?_ | refine aw_ret ?_ | refine aw_skip ?_ | rw [List.length_map] | rw [mn_norm] | rw [mx_norm])
          exact ⟨_, rfl, fits_mk ⟨rfl, rfl, rfl, (by simp only [List.map_append, List.map_cons, List.map_nil, List.nil_append] <;> rfl), rfl, trivial⟩ [] (by simp only [List.length_append, List.length_cons, List.length_nil, Nat.zero_add, List.map_append, List.map_cons, List.map_nil] <;> rfl) ⟨trivial, trivial, trivial, by show 0 < 1; omega, trivial, trivial⟩ ⟨trivial, trivial⟩⟩
        · rw [q_11, cond_false] at hb1
          obtain rfl := Option.some.inj hb1
          repeat' (first | refine p_ rfl rfl rfl rfl rfl ?_ | refine st_nil ?_ | refine x_ rfl rfl rfl rfl rfl rfl rfl rfl ?_ | refine l_ rfl rfl rfl rfl ?_ | refine s_ rfl rfl rfl ?_ | refine t_ rfl rfl rfl rfl ?_ | refine k_ rfl rfl rfl ?_ | refine k0_ rfl rfl ?_ | refine c_ rfl rfl rfl rfl ?_ | refine pick_t rfl rfl rfl rfl rfl rfl rfl ?_ | refine pick_f rfl rfl rfl rfl rfl rfl rfl ?_ | refine aw_seq ?_ | refine aw_region tab_ok _ rfl ?_ | refine aw_drawn2 tabS_ok _ rfl mixed (by decide +kernel) ?_ | refine aw_condT rfl ?_ | refine aw_condF rfl ?_ | refine aw_block ?_ | refine aw_exit ?_ | refine aw_ret ?_ | refine aw_skip ?_ | rw [List.length_map] | rw [mn_norm] | rw [mx_norm])
          exact ⟨_, rfl, fits_mk ⟨rfl, rfl, rfl, (by simp only [List.map_append, List.map_cons, List.map_nil, List.nil_append] <;> rfl), rfl, trivial⟩ [] (by simp only [List.length_append, List.length_cons, List.length_nil, Nat.zero_add, List.map_append, List.map_cons, List.map_nil] <;> rfl) ⟨trivial, trivial, trivial, by show 0 < 1; omega, trivial, trivial⟩ ⟨trivial, trivial⟩⟩
      · rw [q_9, cond_false] at hb1
        obtain rfl := Option.some.inj hb1
        repeat' (first | refine p_ rfl rfl rfl rfl rfl ?_ | refine st_nil ?_ | refine x_ rfl rfl rfl rfl rfl rfl rfl rfl ?_ | refine l_ rfl rfl rfl rfl ?_ | refine s_ rfl rfl rfl ?_ | refine t_ rfl rfl rfl rfl ?_ | refine k_ rfl rfl rfl ?_ | refine k0_ rfl rfl ?_ | refine c_ rfl rfl rfl rfl ?_ | refine pick_t rfl rfl rfl rfl rfl rfl rfl ?_ | refine pick_f rfl rfl rfl rfl rfl rfl rfl ?_ | refine aw_seq ?_ | refine aw_region tab_ok _ rfl ?_ | refine aw_drawn2 tabS_ok _ rfl mixed (by decide +kernel) ?_ | refine aw_condT rfl ?_ | refine aw_condF rfl ?_ | refine aw_block ?_ | refine aw_exit ?_ | refine aw_ret ?_ | refine aw_skip ?_ | rw [List.length_map] | rw [mn_norm] | rw [mx_norm])
        exact ⟨_, rfl, fits_mk ⟨rfl, rfl, rfl, (by simp only [List.map_append, List.map_cons, List.map_nil, List.nil_append] <;> rfl), rfl, trivial⟩ [] (by simp only [List.length_append, List.length_cons, List.length_nil, Nat.zero_add, List.map_append, List.map_cons, List.map_nil] <;> rfl) ⟨trivial, trivial, trivial, by show 0 < 1; omega, trivial, trivial⟩ ⟨trivial, trivial⟩⟩
    · rw [q_6, cond_false] at hb1
      obtain rfl := Option.some.inj hb1
      have hx1 : gLawBeliefs_K1 a_l a_at a_t (.inl (rows_4, i_5)) = some _ := hk1
      unfold gLawBeliefs_K1 at hx1
      dsimp only at hx1
      obtain ⟨r_12, c6, hx1⟩ := bind_some hx1
      replace c6 := gSlice_ok c6
      try simp only [List.map_append, List.map_cons, List.map_nil, List.nil_append, tE_eq, tP_eq] at c6
      obtain ⟨r_13, c7, hx1⟩ := bind_some hx1
      replace c7 := gCanon_ok c7
      try simp only [List.map_append, List.map_cons, List.map_nil, List.nil_append, tE_eq, tP_eq] at c7
      rcases Bool.eq_false_or_eq_true r_13 with q_14 | q_14
      · rw [q_14, cond_true] at hx1
        obtain ⟨r_15, c8, hx1⟩ := bind_some hx1
        replace c8 := gAt22_ok c8
        try simp only [List.map_append, List.map_cons, List.map_nil, List.nil_append, tE_eq, tP_eq] at c8
        obtain ⟨r_16, c9, hx1⟩ := bind_some hx1
        replace c9 := gSortR_ok c9
        try simp only [List.map_append, List.map_cons, List.map_nil, List.nil_append, tE_eq, tP_eq] at c9
        obtain ⟨r_17, c10, hx1⟩ := bind_some hx1
        replace c10 := gSameRows_ok c10
        try simp only [List.map_append, List.map_cons, List.map_nil, List.nil_append, tE_eq, tP_eq] at c10
        rcases Bool.eq_false_or_eq_true r_17 with q_18 | q_18
        · rw [q_18, cond_true] at hx1
          obtain ⟨r_19, c11, hx1⟩ := bind_some hx1
          replace c11 := gSel_ok c11
          try simp only [List.map_append, List.map_cons, List.map_nil, List.nil_append, tE_eq, tP_eq] at c11
          obtain ⟨r_20, c12, hx1⟩ := bind_some hx1
          replace c12 := gFacts_ok c12
          try simp only [List.map_append, List.map_cons, List.map_nil, List.nil_append, tE_eq, tP_eq] at c12
          obtain ⟨r_21, c13, hx1⟩ := bind_some hx1
          replace c13 := gBagR_ok c13
          try simp only [List.map_append, List.map_cons, List.map_nil, List.nil_append, tE_eq, tP_eq] at c13
          obtain ⟨r_22, c14, hx1⟩ := bind_some hx1
          replace c14 := gIdent_ok c14
          try simp only [List.map_append, List.map_cons, List.map_nil, List.nil_append, tE_eq, tP_eq] at c14
          rcases Bool.eq_false_or_eq_true r_22 with q_23 | q_23
          · rw [q_23, cond_true] at hx1
            have hc_24 := awake_pure
            try simp only [List.map_append, List.map_cons, List.map_nil, List.nil_append, tE_eq, tP_eq] at hc_24
            obtain rfl := Option.some.inj hx1
            exact go_
          · rw [q_23, cond_false] at hx1
            obtain rfl := Option.some.inj hx1
            exact go_
        · rw [q_18, cond_false] at hx1
          obtain rfl := Option.some.inj hx1
          exact go_
      · rw [q_14, cond_false] at hx1
        obtain rfl := Option.some.inj hx1
        exact go_
end
end Go.Proofs.YtnbnpnmkgemdeaaGreatDoor
namespace Go.Proofs.YtnbnpnmkgemdeaaGreatDoor
open Go.RowKit Go.MapKept
set_option maxRecDepth 100000
set_option linter.unusedVariables false
set_option linter.unusedSimpArgs false
theorem gSameRows_refl (l : List (List Val)) (h : l.length ≤ 1000000) (hr : ∀ r ∈ l, r.length ≤ 1000000) : gSameRows l l = some true := by
  unfold gSameRows
  simp only [ne_eq, not_true_eq_false, decide_false, cond_false]
  rw [loop_list (l := l) (mk := fun (_ : Unit) i => i) (f := fun (_ : Unit) (x : List Val) => ((gEqual8 x x).bind fun r => bif (!r) then some (.inr false) else some (.inl ()) : Option (Sum Unit Bool))) ?_ ?_ (by unfold fuel; omega) ()]
  · have : ∀ l : List (List Val), (∀ r ∈ l, r.length ≤ 1000000) → foldS (fun (_ : Unit) (x : List Val) => ((gEqual8 x x).bind fun r => bif (!r) then some (.inr false) else some (.inl ()) : Option (Sum Unit Bool))) () l = some (.inl ()) := by
      intro l
      induction l with
      | nil => intro _; rfl
      | cons x l ih =>
        intro hr
        have hx := hr x (List.mem_cons_self ..)
        have e : gEqual8 x x = some true := by
          unfold gEqual8
          rw [gCmp8_eq x x (by omega) (by omega), totC_rcmp.refl]; rfl
        rw [foldS, e]
        exact ih fun r hr' => hr r (List.mem_cons_of_mem _ hr')
    rw [this l hr]; rfl
  · intro s i x hx
    have hi : i < l.length := (List.getElem?_eq_some_iff.1 hx).1
    unfold gSameRows_B1
    dsimp only
    rw [lt_dec hx, cond_true, getI_nat hx]
    simp only [Option.bind_some]
    rw [wrapN (by omega)]
    cases gEqual8 x x with
    | none => rfl
    | some r => cases r <;> rfl
  · intro s
    unfold gSameRows_B1
    dsimp only
    rw [lt_decF, cond_false]
end Go.Proofs.YtnbnpnmkgemdeaaGreatDoor
namespace Go.Proofs.YtnbnpnmkgemdeaaGreatDoor.St
open Go.RowKit

theorem Asc.of_list {l : List (Int × Int)} (h : l.Pairwise fun x y => x.1 < y.1) : Asc l := by
  intro i j x y hij hx hy
  obtain ⟨hi, rfl⟩ := List.getElem?_eq_some_iff.1 hx
  obtain ⟨hj, rfl⟩ := List.getElem?_eq_some_iff.1 hy
  exact List.pairwise_iff_getElem.1 h i j hi hj hij
theorem validFrom_asc : ∀ {l : List (Int × Int)} {p : Int × Int}, validFrom p l = true → (p :: l).Pairwise (fun x y => x.1 < y.1) ∧ ∀ s ∈ l, s.1 < 1099511627776
  | [], p, _ => ⟨by simp, by simp⟩
  | q :: r, p, h => by
    simp only [validFrom, Bool.and_eq_true] at h
    obtain ⟨h1, h2⟩ := validFrom_asc (l := r) (p := q) h.2
    have hs : p.1 < q.1 ∧ q.1 < 1099511627776 := by have := h.1; simp [stepOk] at this; omega
    refine ⟨List.pairwise_cons.2 ⟨fun y hy => ?_, h1⟩, fun s hs' => ?_⟩
    · rcases List.mem_cons.1 hy with e | e
      · subst e; exact hs.1
      · have := (List.pairwise_cons.1 h1).1 y e; omega
    · rcases List.mem_cons.1 hs' with e | e
      · subst e; exact hs.2
      · exact h2 s e
theorem svalid_asc {l : List (Int × Int)} (h : svalid l = true) : Asc l ∧ (∀ s ∈ l, s.1 < 1099511627776) ∧ l ≠ [] ∧ ∀ x, l[0]? = some x → x.1 = 0 := by
  match l, h with
  | p :: r, h =>
    simp only [svalid, Bool.and_eq_true, beq_iff_eq] at h
    obtain ⟨h1, h2⟩ := validFrom_asc h.2
    refine ⟨Asc.of_list h1, fun s hs => ?_, by simp, fun x hx => ?_⟩
    · rcases List.mem_cons.1 hs with e | e
      · subst e; omega
      · exact h2 s e
    · simp at hx; subst hx; exact h.1

def lastV (z : Int) (l : List (Int × Int)) (t : Int) : Int := l.foldl (fun n s => if s.1 ≤ t then s.2 else n) z
theorem rat_in {l : List (Int × Int)} {t : Int} (h1 : 0 ≤ t) (h2 : t < 1099511627776) : rat l t = lastV 0 l t := by unfold rat; rw [if_pos ⟨h1, h2⟩]; rfl
theorem rat_out {l : List (Int × Int)} {t : Int} (h : ¬ (0 ≤ t ∧ t < 1099511627776)) : rat l t = 0 := by unfold rat; rw [if_neg h]
theorem lastV_cons (z : Int) (p : Int × Int) (l : List (Int × Int)) (t : Int) : lastV z (p :: l) t = lastV (if p.1 ≤ t then p.2 else z) l t := rfl
theorem lastV_skip {z : Int} {l : List (Int × Int)} {t : Int} (h : ∀ x ∈ l, t < x.1) : lastV z l t = z := fold_skip t l z h
theorem valid_ext : ∀ (u v : List (Int × Int)) (p : Int × Int), 0 ≤ p.1 → validFrom p u = true → validFrom p v = true → (∀ t, p.1 ≤ t → t < 1099511627776 → lastV p.2 u t = lastV p.2 v t) → u = v
  | [], [], _, _, _, _, _ => rfl
  | [], q :: v, p, h0, _, hv, h => by
    exfalso
    simp only [validFrom, Bool.and_eq_true] at hv
    have hq : p.1 < q.1 ∧ q.1 < 1099511627776 ∧ q.2 ≠ p.2 := by have := hv.1; simp [stepOk] at this; exact ⟨this.1.1, this.1.2, this.2⟩
    have h1 := h q.1 (by omega) hq.2.1
    have h2 : lastV p.2 (q :: v) q.1 = q.2 := by rw [lastV_cons, if_pos (Int.le_refl _)]; exact lastV_skip (fun x hx => (List.pairwise_cons.1 (validFrom_asc hv.2).1).1 x hx)
    exact hq.2.2 (h2.symm.trans h1.symm)
  | q :: u, [], p, h0, hu, _, h => by
    exfalso
    simp only [validFrom, Bool.and_eq_true] at hu
    have hq : p.1 < q.1 ∧ q.1 < 1099511627776 ∧ q.2 ≠ p.2 := by have := hu.1; simp [stepOk] at this; exact ⟨this.1.1, this.1.2, this.2⟩
    have h1 := h q.1 (by omega) hq.2.1
    have h2 : lastV p.2 (q :: u) q.1 = q.2 := by rw [lastV_cons, if_pos (Int.le_refl _)]; exact lastV_skip (fun x hx => (List.pairwise_cons.1 (validFrom_asc hu.2).1).1 x hx)
    exact hq.2.2 (h2.symm.trans h1)
  | q :: u, r :: v, p, h0, hu, hv, h => by
    simp only [validFrom, Bool.and_eq_true] at hu hv
    have hq : p.1 < q.1 ∧ q.1 < 1099511627776 ∧ q.2 ≠ p.2 := by have := hu.1; simp [stepOk] at this; exact ⟨this.1.1, this.1.2, this.2⟩
    have hr : p.1 < r.1 ∧ r.1 < 1099511627776 ∧ r.2 ≠ p.2 := by have := hv.1; simp [stepOk] at this; exact ⟨this.1.1, this.1.2, this.2⟩
    have au := (List.pairwise_cons.1 (validFrom_asc hu.2).1).1
    have av := (List.pairwise_cons.1 (validFrom_asc hv.2).1).1
    have eu : ∀ t, t < q.1 → lastV p.2 (q :: u) t = p.2 := fun t ht => lastV_skip fun x hx => by
      rcases List.mem_cons.1 hx with e | e
      · subst e; exact ht
      · have := au x e; omega
    have ev : ∀ t, t < r.1 → lastV p.2 (r :: v) t = p.2 := fun t ht => lastV_skip fun x hx => by
      rcases List.mem_cons.1 hx with e | e
      · subst e; exact ht
      · have := av x e; omega
    have vq : lastV p.2 (q :: u) q.1 = q.2 := by rw [lastV_cons, if_pos (Int.le_refl _), lastV_skip (fun x hx => au x hx)]
    have vr : lastV p.2 (r :: v) r.1 = r.2 := by rw [lastV_cons, if_pos (Int.le_refl _), lastV_skip (fun x hx => av x hx)]
    have hfr : q.1 = r.1 := by
      rcases Int.lt_trichotomy q.1 r.1 with e | e | e
      · exfalso
        have h1 := h q.1 (by omega) hq.2.1
        rw [vq, ev q.1 e] at h1
        exact hq.2.2 h1
      · exact e
      · exfalso
        have h1 := h r.1 (by omega) hr.2.1
        rw [vr, eu r.1 e] at h1
        exact hr.2.2 h1.symm
    have hval : q.2 = r.2 := by
      have h1 := h q.1 (by omega) hq.2.1
      rw [vq, hfr, vr] at h1
      exact h1
    have hqr : q = r := Prod.ext hfr hval
    subst hqr
    rw [valid_ext u v q (by omega) hu.2 hv.2 fun t ht1 ht2 => ?_]
    have h1 := h t (by omega) ht2
    rw [lastV_cons, lastV_cons, if_pos ht1] at h1
    exact h1
theorem svalid_ext {u v : List (Int × Int)} (hu : svalid u = true) (hv : svalid v = true) (h : ∀ t, 0 ≤ t → t < 1099511627776 → rat u t = rat v t) : u = v := by
  match u, v, hu, hv with
  | p :: u, q :: v, hu, hv =>
    simp only [svalid, Bool.and_eq_true, beq_iff_eq] at hu hv
    have au := (List.pairwise_cons.1 (validFrom_asc hu.2).1).1
    have av := (List.pairwise_cons.1 (validFrom_asc hv.2).1).1
    have h0 := h 0 (by omega) (by omega)
    rw [rat_in (by omega) (by omega), rat_in (by omega) (by omega), lastV_cons, lastV_cons, if_pos (by omega), if_pos (by omega), lastV_skip (fun x hx => by have := au x hx; omega), lastV_skip (fun x hx => by have := av x hx; omega)] at h0
    have hpq : p = q := Prod.ext (by omega) h0
    subst hpq
    rw [valid_ext u v p (by omega) hu.2 hv.2 fun t ht1 ht2 => ?_]
    have h1 := h t (by omega) ht2
    rw [rat_in (by omega) ht2, rat_in (by omega) ht2, lastV_cons, lastV_cons, if_pos ht1] at h1
    exact h1

theorem lastV_snoc (z : Int) (l : List (Int × Int)) (q : Int × Int) (t : Int) : lastV z (l ++ [q]) t = if q.1 ≤ t then q.2 else lastV z l t := by unfold lastV; rw [List.foldl_append]; rfl
theorem svalid_snoc {u : List (Int × Int)} {x y : Int} {q : Int × Int} (hu : svalid u = true) (hl : u.getLast? = some (x, y)) (h1 : x < q.1) (h2 : q.1 < 1099511627776) (h3 : q.2 ≠ y) : svalid (u ++ [q]) = true := by
  match u, hu with
  | p :: r, hu =>
    simp only [svalid, Bool.and_eq_true, beq_iff_eq] at hu
    simp only [List.cons_append, svalid, Bool.and_eq_true, beq_iff_eq]
    refine ⟨hu.1, ?_⟩
    have he : (p :: r).getLast (by simp) = (x, y) := by
      rw [List.getLast?_eq_some_getLast (by simp)] at hl
      exact Option.some.inj hl
    rw [validFrom_snoc, hu.2, he]
    unfold stepOk
    simp [h1, h2, h3]
theorem lastV_end {u : List (Int × Int)} (ha : Asc u) {x y t : Int} (hl : u.getLast? = some (x, y)) (ht : x ≤ t) (z : Int) : lastV z u t = y := by
  have hne : u ≠ [] := by intro e; subst e; simp at hl
  have hu : u = u.dropLast ++ [(x, y)] := by
    have h1 := List.dropLast_concat_getLast hne
    rw [List.getLast?_eq_some_getLast hne] at hl
    rw [← Option.some.inj hl]; exact h1.symm
  rw [hu, lastV_snoc, if_pos ht]
theorem put_val {u : List (Int × Int)} (ha : Asc u) {x y p v : Int} (hl : u.getLast? = some (x, y)) (hp : x < p) (z t : Int) : lastV z (putS u (p, v)) t = if p ≤ t then v else lastV z u t := by
  unfold putS
  rw [hl]
  simp only [Option.map_some, Option.some.injEq]
  by_cases e : y = v
  · rw [if_pos e]
    split
    · rw [lastV_end ha hl (by omega), e]
    · rfl
  · rw [if_neg e, lastV_snoc]
theorem put_valid {u : List (Int × Int)} {x y p v : Int} (hu : svalid u = true) (hl : u.getLast? = some (x, y)) (hp : x < p) (hF : p < 1099511627776) : svalid (putS u (p, v)) = true ∧ ∃ x' y', (putS u (p, v)).getLast? = some (x', y') ∧ x' ≤ p := by
  unfold putS
  rw [hl]
  simp only [Option.map_some, Option.some.injEq]
  by_cases e : y = v
  · rw [if_pos e]; exact ⟨hu, x, y, hl, by omega⟩
  · rw [if_neg e]; exact ⟨svalid_snoc hu hl hp hF (fun h => e h.symm), p, v, by simp, Int.le_refl _⟩
theorem comb_foldF (f : Int → Int) : ∀ (P : List Int) (u : List (Int × Int)) (x y : Int), svalid u = true → u.getLast? = some (x, y) → (∀ p ∈ P, x < p ∧ p < 1099511627776) → SAsc P →
    svalid (P.foldl (fun acc p => putS acc (p, f p)) u) = true ∧ ∀ z t, lastV z (P.foldl (fun acc p => putS acc (p, f p)) u) t = lastV (lastV z u t) (P.map fun p => (p, f p)) t
  | [], u, x, y, hu, hl, _, _ => ⟨hu, fun z t => rfl⟩
  | p :: P, u, x, y, hu, hl, hP, hA => by
    obtain ⟨h1, h2⟩ := hP p (by simp)
    obtain ⟨g1, x', y', g2, g3⟩ := put_valid (v := f p) hu hl h1 h2
    obtain ⟨k1, k2⟩ := comb_foldF f P (putS u (p, f p)) x' y' g1 g2 (fun q hq => ⟨by have := hA.head q hq; omega, (hP q (by simp [hq])).2⟩) hA.tail
    refine ⟨k1, fun z t => ?_⟩
    rw [List.foldl_cons, k2, put_val (svalid_asc hu).1 hl h1, List.map_cons, lastV_cons]
theorem comb_spec (f : Int → Int) {P : List Int} (hA : SAsc P) (h0 : P.head? = some 0) (hF : ∀ p ∈ P, p < 1099511627776) : svalid (combS f P) = true ∧ ∀ z t, lastV z (combS f P) t = lastV z (P.map fun p => (p, f p)) t := by
  match P, h0 with
  | p :: P, h0 =>
    simp at h0
    subst h0
    have h1 := comb_foldF f P [(0, f 0)] 0 (f 0) rfl rfl (fun q hq => ⟨hA.head q hq, hF q (by simp [hq])⟩) hA.tail
    have h2 : combS f (0 :: P) = P.foldl (fun acc p => putS acc (p, f p)) [(0, f 0)] := rfl
    rw [h2]
    refine ⟨h1.1, fun z t => ?_⟩
    rw [h1.2, List.map_cons, lastV_cons]
    rfl
def Const (g : Int → Int) (P : List Int) : Prop := ∀ t p, 0 ≤ t → t < 1099511627776 → p ∈ P → p ≤ t → (∀ q ∈ P, q ≤ t → q ≤ p) → g t = g p
theorem lastV_map (g : Int → Int) : ∀ (P : List Int) (z t : Int), SAsc P → (∃ p ∈ P, p ≤ t) → ∃ p ∈ P, p ≤ t ∧ (∀ q ∈ P, q ≤ t → q ≤ p) ∧ lastV z (P.map fun p => (p, g p)) t = g p
  | [], z, t, _, ⟨p, hp, _⟩ => by simp at hp
  | a :: P, z, t, hA, ⟨p, hp, hpt⟩ => by
    have hat : a ≤ t := by
      rcases List.mem_cons.1 hp with e | e
      · omega
      · have := hA.head p e; omega
    rw [List.map_cons, lastV_cons, if_pos hat]
    by_cases h : ∃ q ∈ P, q ≤ t
    · obtain ⟨q, h1, h2, h3, h4⟩ := lastV_map g P (g a) t hA.tail h
      refine ⟨q, by simp [h1], h2, fun r hr hrt => ?_, h4⟩
      rcases List.mem_cons.1 hr with e | e
      · have := hA.head q h1; omega
      · exact h3 r e hrt
    · refine ⟨a, by simp, hat, fun r hr hrt => ?_, ?_⟩
      · rcases List.mem_cons.1 hr with e | e
        · omega
        · exact absurd ⟨r, e, hrt⟩ h
      · refine lastV_skip fun x hx => ?_
        obtain ⟨q, hq, e⟩ := List.mem_map.1 hx
        subst e
        exact Int.not_le.1 fun hh => h ⟨q, hq, hh⟩
theorem comb_rat (g : Int → Int) {P : List Int} (hA : SAsc P) (h0 : P.head? = some 0) (hF : ∀ p ∈ P, p < 1099511627776) (hC : Const g P) {t : Int} (t1 : 0 ≤ t) (t2 : t < 1099511627776) : rat (combS g P) t = g t := by
  rw [rat_in t1 t2, (comb_spec g hA h0 hF).2]
  have h0m : (0 : Int) ∈ P := List.mem_of_mem_head? h0
  obtain ⟨p, h1, h2, h3, h4⟩ := lastV_map g P 0 t hA ⟨0, h0m, t1⟩
  rw [h4, hC t p t1 t2 h1 h2 h3]
theorem head_zero {P : List Int} (hA : SAsc P) (h0 : (0 : Int) ∈ P) (hp : ∀ p ∈ P, 0 ≤ p) : P.head? = some 0 := by
  match P, h0 with
  | a :: P, h0 =>
    have ha := hp a (by simp)
    rcases List.mem_cons.1 h0 with e | e
    · rw [← e]; rfl
    · have := hA.head 0 e; omega
theorem svalid_nonneg {l : List (Int × Int)} (h : svalid l = true) : ∀ s ∈ l, 0 ≤ s.1 := by
  obtain ⟨h1, _, h3, h4⟩ := svalid_asc h
  intro s hs
  obtain ⟨i, hi, e⟩ := List.mem_iff_getElem.1 hs
  have hpos : 0 < l.length := by omega
  have h0 := h4 l[0] (List.getElem?_eq_getElem hpos)
  by_cases e0 : i = 0
  · subst e0; rw [← e]; omega
  · have := h1 0 i _ _ (by omega) (List.getElem?_eq_getElem hpos) (List.getElem?_eq_getElem hi)
    rw [e] at this; omega
theorem of_ok (l : List ((Int × Int) × Int)) : svalid (combS (rsum l) (ofPts l)) = true ∧ ∀ t, 0 ≤ t → t < 1099511627776 → rat (combS (rsum l) (ofPts l)) t = rsum l t := by
  obtain ⟨h1, h2⟩ := ofPts_spec l
  have hnn : ∀ p ∈ ofPts l, 0 ≤ p := by
    intro p hp
    rcases ((h2 p).1 hp).1 with e | ⟨y, hy⟩
    · omega
    · exact (chg_range (p, y) hy).1
  have h0 : (ofPts l).head? = some 0 := head_zero h1 ((h2 0).2 ⟨.inl rfl, by omega⟩) hnn
  have hF : ∀ p ∈ ofPts l, p < 1099511627776 := fun p hp => ((h2 p).1 hp).2
  have hC : Const (rsum l) (ofPts l) := by
    intro t p t1 t2 hp hpt hmax
    rw [rsum_eq, rsum_eq]
    congr 1
    unfold isum
    congr 1
    refine List.map_congr_left fun c hc => ?_
    have hiff : pcontains c.1 t = pcontains c.1 p := by
      unfold pcontains
      by_cases hv : pvalid c.1 = true
      · have hm : ∀ q, q = c.1.1 ∨ q = c.1.2 → q ≤ t → q ≤ p := by
          intro q hq hqt
          refine hmax q ((h2 q).2 ⟨.inr ?_, by omega⟩) hqt
          rcases hq with e | e
          · exact ⟨c.2, List.mem_flatMap.2 ⟨c, hc, by unfold chg1; rw [if_pos hv]; simp [e]⟩⟩
          · exact ⟨wrap64 (-c.2), List.mem_flatMap.2 ⟨c, hc, by unfold chg1; rw [if_pos hv]; simp [e]⟩⟩
        have m1 := hm c.1.1 (.inl rfl)
        have m2 := hm c.1.2 (.inr rfl)
        rw [hv, Bool.true_and, Bool.true_and, Bool.eq_iff_iff]
        simp only [Bool.and_eq_true, decide_eq_true_eq]
        constructor
        · rintro ⟨u1, u2⟩; exact ⟨m1 u1, by omega⟩
        · rintro ⟨u1, u2⟩
          refine ⟨by omega, Int.not_le.1 fun hh => ?_⟩
          have := m2 hh; omega
      · have : pvalid c.1 = false := by simpa using hv
        rw [this]; simp
    rw [hiff]
  exact ⟨(comb_spec _ h1 h0 hF).1, fun t t1 t2 => comb_rat _ h1 h0 hF hC t1 t2⟩
end Go.Proofs.YtnbnpnmkgemdeaaGreatDoor.St
namespace Go.Proofs.YtnbnpnmkgemdeaaGreatDoor.St
open Go.RowKit

def cnt (X : List (Int × Int)) (t : Int) : Int := (X.map fun p => if pcontains p t then (1 : Int) else 0).sum
theorem cnt_append (X Y : List (Int × Int)) (t : Int) : cnt (X ++ Y) t = cnt X t + cnt Y t := by simp [cnt]
theorem cnt_one {a b t : Int} (h0 : 0 ≤ a) (h1 : a < b) (h2 : b ≤ 1099511627776) : cnt [(a, b)] t = if a ≤ t ∧ t < b then 1 else 0 := by
  have hv : pvalid (a, b) = true := by simp [pvalid]; omega
  simp [cnt, pcontains, hv]
theorem atStep_cnt (n t v : Int) (out : List (Int × Int)) {a b : Int} (h0 : 0 ≤ a) (h1 : a < b) (h2 : b ≤ 1099511627776) (hout : ∀ q ∈ out, pvalid q = true ∧ q.2 ≤ a) :
    (∀ q ∈ atStep n out ((a, b), v), pvalid q = true ∧ q.2 ≤ b) ∧ cnt (atStep n out ((a, b), v)) t = cnt out t + (if n ≤ v ∧ a ≤ t ∧ t < b then 1 else 0) := by
  have hv : pvalid (a, b) = true := by simp [pvalid]; omega
  have happ : (∀ q ∈ out ++ [(a, b)], pvalid q = true ∧ q.2 ≤ b) ∧ cnt (out ++ [(a, b)]) t = cnt out t + (if a ≤ t ∧ t < b then 1 else 0) := by
    refine ⟨fun q hq => ?_, by rw [cnt_append, cnt_one h0 h1 h2]⟩
    rcases List.mem_append.1 hq with e | e
    · have := hout q e; exact ⟨this.1, by omega⟩
    · simp at e; subst e; exact ⟨hv, Int.le_refl _⟩
  unfold atStep
  by_cases hn : n ≤ v
  · rw [if_pos hn]
    simp only [hn, true_and]
    unfold joinP
    split
    · rename_i q hq
      split
      · rename_i hle
        have hmem : q ∈ out := List.mem_of_getLast? hq
        obtain ⟨hq1, hq2⟩ := hout q hmem
        have hle' : a ≤ q.2 := hle
        have hqe : q.2 = a := by omega
        have hsp : out = out.dropLast ++ [q] := by
          have hne : out ≠ [] := by intro e; rw [e] at hmem; simp at hmem
          rw [List.getLast?_eq_some_getLast hne] at hq
          injection hq with hq
          rw [← hq]; exact (List.dropLast_concat_getLast hne).symm
        have hqv : 0 ≤ q.1 ∧ q.1 < q.2 ∧ q.2 ≤ 1099511627776 := by simp [pvalid] at hq1; omega
        have hm : max q.2 b = b := by omega
        show (∀ x ∈ out.dropLast ++ [(q.1, max q.2 b)], pvalid x = true ∧ x.2 ≤ b) ∧ cnt (out.dropLast ++ [(q.1, max q.2 b)]) t = _
        rw [hm]
        refine ⟨fun x hx => ?_, ?_⟩
        · rcases List.mem_append.1 hx with e | e
          · have := hout x (List.dropLast_subset _ e); exact ⟨this.1, by omega⟩
          · simp at e; subst e; exact ⟨by simp [pvalid]; omega, Int.le_refl _⟩
        · have e1 : cnt out t = cnt out.dropLast t + cnt [(q.1, q.2)] t := by rw [← cnt_append]; exact congrArg (cnt · t) hsp
          rw [e1, cnt_append, cnt_one hqv.1 (by omega) h2, cnt_one hqv.1 hqv.2.1 hqv.2.2]
          split <;> split <;> split <;> omega
      · exact happ
    · exact happ
  · rw [if_neg hn]
    refine ⟨fun q hq => ?_, by simp [hn]⟩
    have := hout q hq; exact ⟨this.1, by omega⟩
theorem cnt_segs (n t : Int) (ht : t < 1099511627776) : ∀ (r : List (Int × Int)) (x : Int × Int) (out : List (Int × Int)), 0 ≤ x.1 → (x :: r).Pairwise (fun p q => p.1 < q.1) → (∀ s ∈ x :: r, s.1 < 1099511627776) → (∀ q ∈ out, pvalid q = true ∧ q.2 ≤ x.1) →
    cnt ((segs (x :: r)).foldl (atStep n) out) t = cnt out t + (if x.1 ≤ t ∧ n ≤ lastV x.2 r t then 1 else 0)
  | [], x, out, h0, _, hM, hout => by
    have := (atStep_cnt n t x.2 out h0 (hM x (by simp)) (Int.le_refl _) hout).2
    simp only [segs, List.foldl_cons, List.foldl_nil, this]
    have e : lastV x.2 [] t = x.2 := rfl
    rw [e]
    split <;> split <;> omega
  | y :: r, x, out, h0, hp, hM, hout => by
    have hxy : x.1 < y.1 := (List.pairwise_cons.1 hp).1 y (by simp)
    have hy := (List.pairwise_cons.1 hp).2
    obtain ⟨h1, h2⟩ := atStep_cnt n t x.2 out h0 hxy (by have := hM y (by simp); omega) hout
    have ih := cnt_segs n t ht r y _ (by omega) hy (fun s hs => hM s (List.mem_cons_of_mem _ hs)) h1
    have e : segs (x :: y :: r) = ((x.1, y.1), x.2) :: segs (y :: r) := rfl
    rw [e, List.foldl_cons, ih, h2, lastV_cons]
    by_cases hyt : y.1 ≤ t
    · rw [if_pos hyt]
      split <;> split <;> split <;> omega
    · rw [if_neg hyt]
      have e2 : lastV x.2 r t = x.2 := lastV_skip fun q hq => by have := (List.pairwise_cons.1 hy).1 q hq; omega
      rw [e2]
      split <;> split <;> split <;> omega
theorem cnt_atl {l : List (Int × Int)} (h : svalid l = true) (n t : Int) (h1 : 0 ≤ t) (h2 : t < 1099511627776) : cnt (atl l n) t = if n ≤ rat l t then 1 else 0 := by
  match l, h with
  | p :: r, h =>
    have ha := svalid_asc h
    have hp0 : p.1 = 0 := ha.2.2.2 p rfl
    simp only [svalid, Bool.and_eq_true] at h
    have hv := validFrom_asc h.2
    have := cnt_segs n t h2 r p [] (by omega) hv.1 ha.2.1 (by simp)
    unfold atl
    rw [this, rat_in h1 h2, lastV_cons, if_pos (show p.1 ≤ t by omega)]
    have e : cnt [] t = 0 := rfl
    rw [e]
    simp [hp0, h1]
theorem cnt_levTo {l : List (Int × Int)} (h : svalid l = true) (t : Int) (h1 : 0 ≤ t) (h2 : t < 1099511627776) (h3 : 0 ≤ rat l t) : ∀ k : Nat, cnt (levTo l k) t = if (k : Int) ≤ rat l t then (k : Int) else rat l t
  | 0 => by have e : cnt (levTo l 0) t = 0 := rfl
            rw [e]; split <;> omega
  | k + 1 => by
    rw [levTo_succ, cnt_append, cnt_levTo h t h1 h2 h3 k, cnt_atl h _ t h1 h2]
    split <;> split <;> split <;> omega
theorem cnt_perm {a b : List (Int × Int)} (h : a.Perm b) (t : Int) : cnt a t = cnt b t := by
  unfold cnt
  induction h with
  | nil => rfl
  | cons x _ ih => simp only [List.map_cons, List.sum_cons, ih]
  | swap x y l => simp only [List.map_cons, List.sum_cons]; omega
  | trans _ _ ih1 ih2 => exact ih1.trans ih2
theorem cnt_levM {l : List (Int × Int)} (h : svalid l = true) (t : Int) (h1 : 0 ≤ t) (h2 : t < 1099511627776) (h3 : 0 ≤ rat l t) (h4 : rat l t ≤ 600) : cnt (levM l) t = rat l t := by
  have hp : (levM l).Perm (levTo l 600) := by
    have h0 := (place_all (levAll l) [] .nil).2
    rw [List.nil_append] at h0
    have e : levAll l = levTo l 600 := by unfold levAll levTo; rfl
    rw [← e]; exact h0
  rw [cnt_perm hp, cnt_levTo h t h1 h2 h3]
  split <;> omega
def onesP (X : List (Int × Int)) : List ((Int × Int) × Int) := X.map fun p => (p, 1)
theorem isum_onesF (X : List (Int × Int)) (t : Int) : isum (onesP X) t = cnt X t := by
  unfold isum onesP cnt; rw [List.map_map]; rfl
theorem rebuilt {l : List (Int × Int)} (h : svalid l = true) (h0 : ∀ t, 0 ≤ rat l t) (h12 : ∀ t, rat l t ≤ 600) : combS (rsum (onesP (levM l))) (ofPts (onesP (levM l))) = l := by
  obtain ⟨g1, g2⟩ := of_ok (onesP (levM l))
  refine svalid_ext g1 h fun t t1 t2 => ?_
  rw [g2 t t1 t2, rsum_eq, isum_onesF, cnt_levM h t t1 t2 (h0 t) (h12 t)]
  have := h0 t; have := h12 t
  unfold wrap64; omega

end Go.Proofs.YtnbnpnmkgemdeaaGreatDoor.St
namespace Go.Proofs.YtnbnpnmkgemdeaaGreatDoor
open Go.RowKit
set_option linter.unusedVariables false
set_option linter.unusedSimpArgs false
def contB (p : Per) (t : Int) : Bool := St.pcontains (toP p) t
theorem contB_eq (p : Per) (t : Int) : contB p t = (St.pvalid (toP p) && (decide (p.lo ≤ t) && decide (t < p.hi))) := Bool.and_assoc _ _ _
def cntP (ps : List Per) (t : Int) : Nat := (ps.filter fun p => contB p t).length
theorem cnt_nat (ps : List Per) (t : Int) : St.cnt (ps.map toP) t = (cntP ps t : Int) := by
  unfold St.cnt cntP
  induction ps with
  | nil => rfl
  | cons p ps ih =>
    rw [List.map_cons, List.map_cons, List.sum_cons, ih, List.filter_cons]
    unfold contB
    by_cases h : St.pcontains (toP p) t = true
    · rw [if_pos h, if_pos h, List.length_cons]; omega
    · rw [if_neg h, if_neg h]; omega
theorem cntP_cons (p : Per) (ps : List Per) (t : Int) : cntP (p :: ps) t = (if contB p t = true then 1 else 0) + cntP ps t := by
  unfold cntP
  rw [List.filter_cons]
  split <;> simp <;> omega
theorem cont_range {p : Per} {t : Int} (h : contB p t = true) : 0 ≤ t ∧ t < 1099511627776 := by
  unfold contB St.pcontains St.pvalid at h
  simp only [Bool.and_eq_true, decide_eq_true_eq] at h
  omega
theorem cntP_out {t : Int} (h : ¬(0 ≤ t ∧ t < 1099511627776)) (ps : List Per) : cntP ps t = 0 := by
  unfold cntP
  rw [List.length_eq_zero_iff, List.filter_eq_nil_iff]
  exact fun p _ hp => h (cont_range hp)
theorem cntP_le (ps : List Per) (t : Int) : cntP ps t ≤ ps.length := List.length_filter_le _ _
def stepsOf (ps : List Per) : List (Int × Int) := St.ofL ((ones ps).map toC)
theorem ones_P (ps : List Per) : (ones ps).map toC = St.onesP (ps.map toP) := by
  unfold ones St.onesP
  rw [List.map_map, List.map_map]; rfl
theorem lev_P (ps : List Per) : (levOf ps).map toP = St.levM (stepsOf ps) := by
  unfold levOf levV ofV stepsOf
  rw [List.map_map, List.map_map]
  have e1 : (toP ∘ ofP) = id := by funext x; rfl
  have e2 : (toS ∘ ofS) = id := by funext x; rfl
  rw [e1, e2, List.map_id, List.map_id]
theorem steps_valid (ps : List Per) : St.svalid (stepsOf ps) = true := (St.of_ok _).1
theorem steps_rat (ps : List Per) (hn : ps.length ≤ 300) (t : Int) : St.rat (stepsOf ps) t = (cntP ps t : Int) := by
  by_cases h : 0 ≤ t ∧ t < 1099511627776
  · rw [show stepsOf ps = St.combS (St.rsum ((ones ps).map toC)) (St.ofPts ((ones ps).map toC)) from rfl, (St.of_ok _).2 t h.1 h.2, St.rsum_ones t (ones_two ps) (by simp [ones]; omega), ones_P, St.isum_onesF, cnt_nat]
  · rw [St.rat_out h, cntP_out h]; rfl
theorem steps_bound (ps : List Per) (hn : ps.length ≤ 300) (t : Int) : 0 ≤ St.rat (stepsOf ps) t ∧ St.rat (stepsOf ps) t ≤ 600 := by
  have := steps_rat ps hn t
  have := cntP_le ps t
  omega
theorem lev_cnt (ps : List Per) (hn : ps.length ≤ 300) (t : Int) : cntP (levOf ps) t = cntP ps t := by
  by_cases h : 0 ≤ t ∧ t < 1099511627776
  · have h1 := cnt_nat (levOf ps) t
    rw [lev_P, St.cnt_levM (steps_valid ps) t h.1 h.2 (steps_bound ps hn t).1 (steps_bound ps hn t).2, steps_rat ps hn] at h1
    omega
  · rw [cntP_out h, cntP_out h]
theorem lev_lev (ps : List Per) (hn : ps.length ≤ 300) : levOf (levOf ps) = levOf ps := by
  have h := St.rebuilt (steps_valid ps) (fun t => (steps_bound ps hn t).1) (fun t => (steps_bound ps hn t).2)
  have : ofV (ones (levOf ps)) = ofV (ones ps) := by
    unfold ofV
    rw [ones_P (levOf ps), lev_P]
    rw [show St.ofL (St.onesP (St.levM (stepsOf ps))) = stepsOf ps from h]
    rfl
  show levV (ofV (ones (levOf ps))) = levV (ofV (ones ps))
  rw [this]
def begP (ps : List Per) (x : Int) : Nat := (ps.filter fun p => St.pvalid (toP p) && decide (p.lo ≤ x)).length
theorem begP_cons (p : Per) (ps : List Per) (t : Int) : begP (p :: ps) t = (if (St.pvalid (toP p) && decide (p.lo ≤ t)) = true then 1 else 0) + begP ps t := by
  unfold begP
  rw [List.filter_cons]
  split <;> simp <;> omega
theorem beg_step {x y : Int} (h : x < y) : ∀ ps : List Per, cntP ps y + begP ps x ≤ cntP ps x + begP ps y
  | [] => by simp [cntP, begP]
  | p :: ps => by
    have ih := beg_step h ps
    rw [cntP_cons, cntP_cons, begP_cons, begP_cons]
    have : (if contB p y = true then 1 else 0) + (if (St.pvalid (toP p) && decide (p.lo ≤ x)) = true then 1 else 0) ≤ (if contB p x = true then 1 else 0) + (if (St.pvalid (toP p) && decide (p.lo ≤ y)) = true then 1 else 0) := by
      rw [contB_eq, contB_eq]
      cases hv : St.pvalid (toP p)
      · simp
      · simp only [Bool.true_and, Bool.and_eq_true, decide_eq_true_eq]
        split <;> split <;> split <;> split <;> omega
    omega
theorem cnt_beg (ps : List Per) (x : Int) : cntP ps x ≤ begP ps x := by
  induction ps with
  | nil => simp [cntP, begP]
  | cons p ps ih =>
    rw [cntP_cons, begP_cons]
    have : (if contB p x = true then 1 else 0) ≤ (if (St.pvalid (toP p) && decide (p.lo ≤ x)) = true then 1 else 0) := by
      rw [contB_eq]
      cases hv : St.pvalid (toP p)
      · simp
      · simp only [Bool.true_and, Bool.and_eq_true, decide_eq_true_eq]
        split <;> split <;> omega
    omega
theorem beg_mono {x y : Int} (h : x ≤ y) (ps : List Per) : begP ps x ≤ begP ps y := by
  induction ps with
  | nil => simp [begP]
  | cons p ps ih =>
    rw [begP_cons, begP_cons]
    have : (if (St.pvalid (toP p) && decide (p.lo ≤ x)) = true then 1 else 0) ≤ (if (St.pvalid (toP p) && decide (p.lo ≤ y)) = true then 1 else 0) := by
      cases hv : St.pvalid (toP p)
      · simp
      · simp only [Bool.true_and, decide_eq_true_eq]
        split <;> split <;> omega
    omega
theorem levK_inv2 {l : List (Int × Int)} (ps : List Per) (ha : St.Asc l) (hF : ∀ s ∈ l, 0 ≤ s.1 ∧ s.1 < 1099511627776) (hy : ∀ s ∈ l, s.2 = (cntP ps s.1 : Int)) : ∀ k, k ≤ l.length →
    (∀ q ∈ (St.levK l k).2, St.pvalid q = true) ∧ (∀ f ∈ (St.levK l k).1, 0 ≤ f ∧ f < 1099511627776 ∧ ∃ (j : Nat) (y : Int), j < k ∧ l[j]? = some (f, y)) ∧
    ((k = 0 ∧ (St.levK l k).1 = [] ∧ (St.levK l k).2 = []) ∨ ∃ x y, l[k - 1]? = some (x, y) ∧ 0 < k ∧ (St.levK l k).1.length = cntP ps x ∧ (St.levK l k).2.length + (St.levK l k).1.length ≤ begP ps x)
  | 0, _ => ⟨fun q hq => (by cases hq), fun f hf => (by cases hf), .inl ⟨rfl, rfl, rfl⟩⟩
  | k + 1, hk => by
    obtain ⟨h1, h2, h3⟩ := levK_inv2 ps ha hF hy k (by omega)
    have hx : l[k]? = some (l[k]'(by omega)) := List.getElem?_eq_getElem (by omega)
    generalize l[k]'(by omega) = p at hx
    obtain ⟨x, y⟩ := p
    have hm := List.mem_of_getElem? hx
    have hxF := hF _ hm
    have hxy : y = (cntP ps x : Int) := hy _ hm
    rw [St.levK_next hx]
    have hc : St.clipL y = cntP ps x := by
      unfold St.clipL
      rw [hxy]
      split <;> omega
    unfold St.levStep
    dsimp only
    rw [hc]
    refine ⟨fun q hq => ?_, fun f hf => ?_, .inr ⟨x, y, by simpa using hx, by omega, St.setE_len _ _ _, ?_⟩⟩
    · rcases List.mem_append.1 hq with hq | hq
      · exact h1 q hq
      · obtain ⟨f, hf, rfl⟩ := List.mem_map.1 hq
        obtain ⟨f1, f2, j, z, hj, hz⟩ := h2 f (List.mem_of_mem_drop hf)
        have := ha j k _ _ hj hz hx
        show St.pvalid (f, x) = true
        unfold St.pvalid
        simp only [Bool.and_eq_true, decide_eq_true_eq]
        dsimp only at this hxF
        omega
    · unfold St.setE at hf
      rcases List.mem_append.1 hf with hf | hf
      · obtain ⟨f1, f2, j, z, hj, hz⟩ := h2 f (List.mem_of_mem_take hf)
        exact ⟨f1, f2, j, z, by omega, hz⟩
      · obtain ⟨_, rfl⟩ := List.mem_replicate.1 hf
        exact ⟨hxF.1, hxF.2, k, y, by omega, hx⟩
    · rw [St.setE_len, List.length_append, List.length_map, List.length_drop]
      rcases h3 with ⟨_, e1, e2⟩ | ⟨x0, y0, hx0, hk0, e1, e2⟩
      · rw [e1, e2]
        have := cnt_beg ps x
        simp only [List.length_nil]
        omega
      · have hlt := ha (k - 1) k _ _ (by omega) hx0 hx
        dsimp only at hlt
        have b1 := beg_step hlt ps
        have b2 := beg_mono (Int.le_of_lt hlt) ps
        omega
theorem levD_facts (ps : List Per) (hn : ps.length ≤ 300) : (St.levD (stepsOf ps)).length ≤ ps.length ∧ ∀ q ∈ St.levD (stepsOf ps), St.pvalid q = true := by
  obtain ⟨ha, hF, hne, _⟩ := St.svalid_asc (steps_valid ps)
  have hnn := St.svalid_nonneg (steps_valid ps)
  have hy : ∀ s ∈ stepsOf ps, s.2 = (cntP ps s.1 : Int) := by
    intro s hs
    have h := ((St.ofL_spec ((ones ps).map toC)).2 s hs).2
    rw [h, St.rsum_ones s.1 (ones_two ps) (by simp [ones]; omega), ones_P, St.isum_onesF, cnt_nat]
  obtain ⟨h1, h2, h3⟩ := levK_inv2 ps ha (fun s hs => ⟨hnn s hs, hF s hs⟩) hy (stepsOf ps).length (Nat.le_refl _)
  unfold St.levD
  refine ⟨?_, fun q hq => ?_⟩
  · rw [List.length_append, List.length_map]
    rcases h3 with ⟨_, e1, e2⟩ | ⟨x, y, _, _, _, e2⟩
    · rw [e1, e2]; exact Nat.zero_le _
    · exact Nat.le_trans e2 (List.length_filter_le _ _)
  · rcases List.mem_append.1 hq with hq | hq
    · exact h1 q hq
    · obtain ⟨f, hf, rfl⟩ := List.mem_map.1 hq
      obtain ⟨f1, f2, _⟩ := h2 f hf
      show St.pvalid (f, 1099511627776) = true
      unfold St.pvalid
      simp only [Bool.and_eq_true, decide_eq_true_eq]
      omega
theorem lev_perm (ps : List Per) (hn : ps.length ≤ 300) : ((levOf ps).map toP).Perm (St.levD (stepsOf ps)) := by
  obtain ⟨ha, hF, _, _⟩ := St.svalid_asc (steps_valid ps)
  have hM : ∀ s ∈ stepsOf ps, s.2 ≤ 600 := by
    intro s hs
    have h := ((St.ofL_spec ((ones ps).map toC)).2 s hs).2
    rw [h, St.rsum_ones s.1 (ones_two ps) (by simp [ones]; omega), ones_P, St.isum_onesF, cnt_nat]
    have := cntP_le ps s.1
    omega
  rw [lev_P]
  have h0 := (St.place_all (St.levAll (stepsOf ps)) [] .nil).2
  rw [List.nil_append] at h0
  exact h0.trans (St.levD_perm ha hF hM).symm
theorem lev_len (ps : List Per) (hn : ps.length ≤ 300) : (levOf ps).length ≤ ps.length := by
  have := (lev_perm ps hn).length_eq
  rw [List.length_map] at this
  rw [this]; exact (levD_facts ps hn).1
theorem lev_valid (ps : List Per) (hn : ps.length ≤ 300) : ∀ p ∈ levOf ps, St.pvalid (toP p) = true := fun p hp =>
  (levD_facts ps hn).2 _ ((lev_perm ps hn).subset (List.mem_map_of_mem hp))
end Go.Proofs.YtnbnpnmkgemdeaaGreatDoor
