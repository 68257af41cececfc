/- Parts of the proof, joined (N7). No condition. -/
import Derived.Test.YtnbnpnmkgemdeaaGreatDoorKO
import Derived.Test.YtnbnpnmkgemdeaaGreatDoorKE
set_option linter.unusedSimpArgs false
set_option linter.unusedVariables false
namespace Go.Proofs.YtnbnpnmkgemdeaaGreatDoor
open Go.RowKit Go.MapKept
set_option maxRecDepth 100000
set_option linter.unusedVariables false
set_option linter.unusedSimpArgs false
def factOf (v : Ver) : Fct := ⟨v.row, v.valid⟩
theorem gFactsR_eq (l : List Ver) (hl : l.length ≤ 3000000000000) : gFactsR l = some (l.map factOf) := by
  unfold gFactsR
  rw [loop_list (l := l) (mk := fun out i => (out, i)) (f := fun (s : List Fct) (v : Ver) => (bif decide (s.length + 1 ≤ 3518437208883) then some (.inl (s ++ [factOf v])) else none : Option (Sum (List Fct) (List Fct)))) ?_ ?_ (by unfold fuel; omega) []]
  · have : ∀ (l : List Ver) (s : List Fct), s.length + l.length ≤ 3000000000000 → foldS (fun (s : List Fct) (v : Ver) => (bif decide (s.length + 1 ≤ 3518437208883) then some (.inl (s ++ [factOf v])) else none : Option (Sum (List Fct) (List Fct)))) s l = some (.inl (s ++ l.map factOf)) := by
      intro l
      induction l with
      | nil => intro s _; simp [foldS]
      | cons x l ih =>
        intro s h
        have h' : s.length + (l.length + 1) ≤ 3000000000000 := by simpa using h
        rw [foldS, show decide (s.length + 1 ≤ 3518437208883) = true from decide_eq_true (by omega), cond_true]
        have := ih (s ++ [factOf x]) (by simp; omega)
        simpa using this
    rw [this l [] (by simpa using hl)]; rfl
  · intro s i x hx
    have hi : i < l.length := (List.getElem?_eq_some_iff.1 hx).1
    unfold gFactsR_B1
    dsimp only
    rw [lt_dec hx, cond_true, getI_nat hx]
    simp only [Option.bind_some]
    rw [wrapN (by omega)]
    unfold factOf
    cases decide (s.length + 1 ≤ 3518437208883) <;> rfl
  · intro s
    unfold gFactsR_B1
    dsimp only
    rw [lt_decF, cond_false]
def fewF (l : List Fct) (n : Int) : Bool := decide ((l.length : Nat) ≤ n) && l.all fun f => decide (f.row.length ≤ 60)
theorem gFewR_eq (l : List Fct) (n : Int) (hn : n ≤ 1000000) : gFewR l n = some (fewF l n) := by
  unfold gFewR fewF
  by_cases h : n < ((l.length : Nat) : Int)
  · rw [show decide (n < ((l.length : Nat) : Int)) = true from decide_eq_true h, show decide (((l.length : Nat) : Int) ≤ n) = false from decide_eq_false (by omega)]; rfl
  · rw [show decide (n < ((l.length : Nat) : Int)) = false from decide_eq_false h, show decide (((l.length : Nat) : Int) ≤ n) = true from decide_eq_true (by omega), cond_false, Bool.true_and]
    rw [loop_list (l := l) (mk := fun (_ : Unit) i => i) (f := fun (_ : Unit) (f : Fct) => (bif decide (f.row.length ≤ 60) then some (.inl ()) else some (.inr false) : Option (Sum Unit Bool))) ?_ ?_ (by unfold fuel; omega) ()]
    · have : ∀ l : List Fct, foldS (fun (_ : Unit) (f : Fct) => (bif decide (f.row.length ≤ 60) then some (.inl ()) else some (.inr false) : Option (Sum Unit Bool))) () l = bif l.all (fun f => decide (f.row.length ≤ 60)) then some (.inl ()) else some (.inr false) := by
        intro l
        induction l with
        | nil => rfl
        | cons x l ih =>
          rw [foldS, List.all_cons]
          cases decide (x.row.length ≤ 60)
          · rfl
          · simp only [cond_true, Bool.true_and]; exact ih
      rw [this]
      cases l.all (fun f => decide (f.row.length ≤ 60)) <;> rfl
    · intro s i x hx
      have hi : i < l.length := (List.getElem?_eq_some_iff.1 hx).1
      unfold gFewR_B1
      dsimp only
      rw [lt_dec hx, cond_true, getI_nat hx]
      simp only [Option.bind_some]
      rw [wrapN (by omega)]
      by_cases hr : x.row.length ≤ 60
      · rw [show decide ((60 : Int) < ((x.row.length : Nat) : Int)) = false from decide_eq_false (by omega), show decide (x.row.length ≤ 60) = true from decide_eq_true hr]; rfl
      · rw [show decide ((60 : Int) < ((x.row.length : Nat) : Int)) = true from decide_eq_true (by omega), show decide (x.row.length ≤ 60) = false from decide_eq_false hr]; rfl
    · intro s
      unfold gFewR_B1
      dsimp only
      rw [lt_decF, cond_false]
theorem gFew_eq (l : List Ver) (hl : l.length ≤ 3000000000000) : gFew l = some (fewF (l.map factOf) 16) := by
  unfold gFew
  rw [gFactsR_eq l hl]
  simp only [Option.bind_some]
  rw [gFewR_eq _ 16 (by decide)]; rfl
theorem few_of {l : List Ver} (h : fewF (l.map factOf) 16 = true) : l.length ≤ 16 ∧ ∀ v ∈ l, v.row.length ≤ 60 := by
  unfold fewF at h
  rw [Bool.and_eq_true, List.all_eq_true] at h
  refine ⟨?_, fun v hv => of_decide_eq_true (h.2 (factOf v) (List.mem_map_of_mem hv))⟩
  have := of_decide_eq_true h.1
  rw [List.length_map] at this
  omega
theorem wrap_id {x : Int} (h1 : -9223372036854775808 ≤ x) (h2 : x ≤ 9223372036854775807) : IntKind.i64.wrap x = x := wrap_in ⟨h1, h2⟩
def exB (x : Ver) : Int → Nat → Bool
  | _, 0 => false
  | t, n + 1 => selF ⟨1, t, 0⟩ x || exB x (t + 1) n
theorem subI_one {l : List Ver} {i : Nat} {x : Ver} (h : l[i]? = some x) : subI l (i : Int) ((i + 1 : Nat) : Int) = some [x] := by
  have hi : i < l.length := (List.getElem?_eq_some_iff.1 h).1
  unfold subI
  rw [if_pos ⟨by omega, by omega, by omega⟩]
  congr 1
  rw [Int.toNat_natCast, Int.toNat_natCast, take_succ h, List.drop_append_of_le_length (by rw [List.length_take]; omega), List.drop_of_length_le (by rw [List.length_take]; omega)]
  rfl
theorem inner {l : List Ver} {i : Nat} {x : Ver} {to : Int} (hx : l[i]? = some x) (hr : x.row.length ≤ 60) (hl : l.length ≤ 16) (ht : to ≤ 1099511627775) : ∀ (n : Nat) (t : Int) (is : Bool) (m : Nat), t + n = to → 0 ≤ t → n < m → loopM (gLawRanges_B4 l to (i : Int)) m (is, t) = some (.inl (is || exB x t n, to))
  | 0, t, is, 0, _, _, hm => by omega
  | 0, t, is, m + 1, h, h0, _ => by
    rw [loopM]
    unfold gLawRanges_B4
    dsimp only
    rw [show decide (t < to) = false from decide_eq_false (by omega), cond_false]
    have : t = to := by omega
    subst this
    simp [exB]
  | n + 1, t, is, 0, _, _, hm => by omega
  | n + 1, t, is, m + 1, h, h0, hm => by
    have hi : i < l.length := (List.getElem?_eq_some_iff.1 hx).1
    rw [loopM]
    have hb : gLawRanges_B4 l to (i : Int) (is, t) = some (.next (is || selF ⟨1, t, 0⟩ x, t + 1)) := by
      unfold gLawRanges_B4
      dsimp only
      rw [show decide (t < to) = true from decide_eq_true (by omega), cond_true, wrapN (by omega), wrap_id (by omega) (by omega)]
      cases is with
      | true => rfl
      | false =>
        rw [cond_false, subI_one hx]
        simp only [Option.bind_some]
        rw [gSel_eq _ (fun v hv => by rw [List.mem_singleton.1 hv]; omega) (by simp)]
        simp only [Option.bind_some, Bool.false_or, List.filter_cons, List.filter_nil]
        cases selF ⟨1, t, 0⟩ x <;> rfl
    rw [hb]
    dsimp only
    rw [inner hx hr hl ht n (t + 1) _ m (by omega) (by omega) (by omega), exB, Bool.or_assoc]
theorem exB_iff (x : Ver) : ∀ (n : Nat) (t : Int), exB x t n = true ↔ validF x.system = true ∧ ∃ k : Nat, k < n ∧ x.system.lo ≤ t + k ∧ t + k < x.system.hi
  | 0, t => by simp [exB]
  | n + 1, t => by
    rw [exB, Bool.or_eq_true, exB_iff x n (t + 1)]
    have hs : selF ⟨1, t, 0⟩ x = true ↔ validF x.system = true ∧ x.system.lo ≤ t ∧ t < x.system.hi := by
      show (validF x.system && (validF x.system && (decide (x.system.lo ≤ t) && decide (t < x.system.hi)))) = true ↔ _
      simp only [Bool.and_eq_true, decide_eq_true_eq]
      constructor
      · rintro ⟨h1, _, h2, h3⟩; exact ⟨h1, h2, h3⟩
      · rintro ⟨h1, h2, h3⟩; exact ⟨h1, h1, h2, h3⟩
    rw [hs]
    constructor
    · rintro (⟨h1, h2, h3⟩ | ⟨h1, k, hk, h2, h3⟩)
      · exact ⟨h1, 0, by omega, by omega, by omega⟩
      · exact ⟨h1, k + 1, by omega, by omega, by omega⟩
    · rintro ⟨h1, k, hk, h2, h3⟩
      cases k with
      | zero => exact .inl ⟨h1, by omega, by omega⟩
      | succ k => exact .inr ⟨h1, k, by omega, by omega, by omega⟩
theorem bool_iff {a b : Bool} (h : a = true ↔ b = true) : a = b := by
  cases a <;> cases b <;> simp_all
theorem valid_iff (p : Per) : validF p = true ↔ 0 ≤ p.lo ∧ p.lo < p.hi ∧ p.hi ≤ 1099511627776 := by
  unfold validF; simp
theorem exB_sel (x : Ver) {a b : Int} (hab : a < b) : exB x a (b - a).toNat = selF ⟨2, a, b⟩ x := by
  apply bool_iff
  rw [exB_iff]
  show _ ↔ (validF x.system && (decide (a < b) && (decide (x.system.lo < b) && decide (a < x.system.hi)))) = true
  simp only [Bool.and_eq_true, valid_iff, decide_eq_true_eq]
  constructor
  · rintro ⟨hv, k, hk, h1, h2⟩
    exact ⟨hv, hab, by omega, by omega⟩
  · rintro ⟨hv, _, h1, h2⟩
    refine ⟨hv, (max a x.system.lo - a).toNat, by omega, by omega, by omega⟩
theorem sel_between (x : Ver) {a b : Int} (hab : a < b) : selF ⟨3, a, b - 1⟩ x = selF ⟨2, a, b⟩ x := by
  apply bool_iff
  show (validF x.system && (decide (a ≤ b - 1) && (decide (x.system.lo ≤ b - 1) && decide (a < x.system.hi)))) = true ↔ (validF x.system && (decide (a < b) && (decide (x.system.lo < b) && decide (a < x.system.hi)))) = true
  simp only [Bool.and_eq_true, valid_iff, decide_eq_true_eq]
  omega
theorem sel_current (x : Ver) : selF ⟨0, 0, 0⟩ x = selF ⟨1, 1099511627775, 0⟩ x := by
  apply bool_iff
  show (validF x.system && decide (x.system.hi = 1099511627776)) = true ↔ (validF x.system && (validF x.system && (decide (x.system.lo ≤ 1099511627775) && decide (1099511627775 < x.system.hi)))) = true
  simp only [Bool.and_eq_true, valid_iff, decide_eq_true_eq]
  omega
theorem filter_at {α : Type} (p : α → Bool) : ∀ (l : List α) (i : Nat) (x : α), l[i]? = some x → p x = true → (l.filter p)[((l.take i).filter p).length]? = some x
  | y :: l, 0, x, h, hp => by
    simp at h; subst h
    simp [hp]
  | y :: l, i + 1, x, h, hp => by
    have h' : l[i]? = some x := by simpa using h
    have ih := filter_at p l i x h' hp
    rw [List.take_succ_cons, List.filter_cons, List.filter_cons]
    cases p y
    · simpa using ih
    · simpa using ih
  | [], i, x, h, _ => by simp at h
theorem lt_le {α : Type} {l : List α} {i : Nat} {x : α} (h : l[i]? = some x) : decide (((l.length : Nat) : Int) ≤ ((i : Nat) : Int)) = false := by
  have hi : i < l.length := (List.getElem?_eq_some_iff.1 h).1
  exact decide_eq_false (by omega)
theorem outer {l : List Ver} {a b : Int} (hr : ∀ v ∈ l, v.row.length ≤ 60) (hl : l.length ≤ 16) (h0 : 0 ≤ a) (hab : a < b) (hb : b ≤ 1099511627775) : ∀ (k i m : Nat), i + k = l.length → k < m →
    loopM (gLawRanges_B3 l a b (l.filter (selF ⟨2, a, b⟩))) m (((((l.take i).filter (selF ⟨2, a, b⟩)).length : Nat) : Int), ((i : Nat) : Int)) = some (.inl ((((l.filter (selF ⟨2, a, b⟩)).length : Nat) : Int), ((l.length : Nat) : Int)))
  | 0, i, 0, _, hm => by omega
  | 0, i, m + 1, h, _ => by
    have : i = l.length := by omega
    subst this
    rw [loopM]
    unfold gLawRanges_B3
    dsimp only
    rw [lt_decF, cond_false, List.take_length]
  | k + 1, i, 0, _, hm => by omega
  | k + 1, i, m + 1, h, hm => by
    have hi : i < l.length := by omega
    obtain ⟨x, hx⟩ : ∃ x, l[i]? = some x := ⟨_, List.getElem?_eq_getElem hi⟩
    have hxr := hr x (List.mem_of_getElem? hx)
    have hn : ((l.take i).filter (selF ⟨2, a, b⟩)).length ≤ 16 := by
      have h1 := List.length_filter_le (selF ⟨2, a, b⟩) (l.take i)
      rw [List.length_take] at h1; omega
    have hb' : gLawRanges_B3 l a b (l.filter (selF ⟨2, a, b⟩)) (((((l.take i).filter (selF ⟨2, a, b⟩)).length : Nat) : Int), ((i : Nat) : Int)) = some (.next (((((l.take (i + 1)).filter (selF ⟨2, a, b⟩)).length : Nat) : Int), ((i + 1 : Nat) : Int))) := by
      unfold gLawRanges_B3
      dsimp only
      rw [lt_dec hx, cond_true, inner hx hxr hl hb (b - a).toNat a false fuel (by omega) h0 (by unfold fuel; omega), Bool.false_or, exB_sel x hab]
      simp only [Option.bind_some]
      unfold gLawRanges_K4
      rw [take_succ hx, List.filter_append, List.filter_cons, List.filter_nil]
      cases hp : selF ⟨2, a, b⟩ x
      · simp only [cond_false, Bool.false_eq_true, if_false, List.append_nil]
        rw [wrapN (by omega)]
      · have hat := filter_at (selF ⟨2, a, b⟩) l i x hx hp
        simp only [cond_true, if_true]
        rw [lt_le hat, cond_false, getI_nat hat, getI_nat hx]
        simp only [Option.bind_some]
        rw [gSameV_refl x (by omega), wrapN (by omega), wrapN (by omega)]
        simp
    rw [loopM, hb']
    exact outer hr hl h0 hab hb k (i + 1) m (by omega) (by omega)
theorem gLawRanges_true {l : List Ver} {a b : Int} (hl : LOk 88 okVer l) : gLawRanges l a b = some true := by
  have hlen : l.length ≤ 3000000000000 := by
    have := hl.1
    unfold reachBytes at this
    omega
  unfold gLawRanges
  rw [gFew_eq l hlen]
  simp only [Option.bind_some]
  cases hf : fewF (l.map factOf) 16 with
  | false => rfl
  | true =>
    obtain ⟨h16, hr⟩ := few_of hf
    simp only [Bool.not_true, cond_false]
    by_cases h0 : a < 0
    · rw [show decide (a < 0) = true from decide_eq_true h0]; rfl
    rw [show decide (a < 0) = false from decide_eq_false h0, cond_false]
    by_cases h1 : 1099511627775 < b
    · rw [show decide ((1099511627775 : Int) < b) = true from decide_eq_true h1]; rfl
    rw [show decide ((1099511627775 : Int) < b) = false from decide_eq_false h1, cond_false]
    by_cases h2 : b ≤ a
    · rw [show decide (b ≤ a) = true from decide_eq_true h2]; rfl
    rw [show decide (b ≤ a) = false from decide_eq_false h2, cond_false]
    cases decide ((20 : Int) < IntKind.i64.wrap (b - a)) with
    | true => rfl
    | false =>
      rw [cond_false]
      have hr' : ∀ v ∈ l, v.row.length ≤ 1000000 := fun v hv => by have := hr v hv; omega
      have hl' : l.length ≤ 1000000 := by omega
      rw [gSel_eq _ hr' hl']
      simp only [Option.bind_some]
      have ho := outer (l := l) (a := a) (b := b) hr h16 (by omega) (by omega) (by omega) l.length 0 fuel (by omega) (by unfold fuel; omega)
      simp only [List.take_zero, List.filter_nil, List.length_nil] at ho
      rw [show (((0 : Nat) : Int)) = 0 from rfl] at ho
      rw [ho]
      simp only [Option.bind_some]
      unfold gLawRanges_K3
      simp only [ne_eq, not_true_eq_false, decide_false, cond_false]
      rw [wrap_id (by omega) (by omega), gSel_eq _ hr' hl', gSel_eq _ hr' hl', gSel_eq _ hr' hl']
      simp only [Option.bind_some]
      have e1 : l.filter (selF ⟨3, a, b - 1⟩) = l.filter (selF ⟨2, a, b⟩) := by
        congr 1; funext x; exact sel_between x (by omega)
      have e2 : l.filter (selF ⟨0, 0, 0⟩) = l.filter (selF ⟨1, 1099511627775, 0⟩) := by
        congr 1; funext x; exact sel_current x
      rw [e1, e2, gSameVs_refl _ (fun v hv => hr' v (List.mem_filter.1 hv).1) (Nat.le_trans (List.length_filter_le _ _) hl'), gSameVs_refl _ (fun v hv => hr' v (List.mem_filter.1 hv).1) (Nat.le_trans (List.length_filter_le _ _) hl')]
      rfl
theorem nonseqRanges_pure {l : List Ver} {a b : Int} (hl : LOk 88 okVer l) (_ : IOk a) (_ : IOk b) : Pure Tryz.prog 6 [.one (.lst (l.map cVer)), .one (.int .i64 a), .one (.int .i64 b)] (.val (.one (.bool true))) := gLawRanges_ok (gLawRanges_true hl)
end Go.Proofs.YtnbnpnmkgemdeaaGreatDoor
