/- Walks of the functions that read one list of steps: validity, the value at an instant, the greatest value. Condition: at most 1000000 steps. -/
import Derived.Test.YtllenmkmompjpaaW2
namespace Go.Proofs.Ytllenmkmompjpaa
open Go.RowKit

theorem getLast_take {α : Type} {l : List α} {p : α} {k : Nat} {x : α} (hx : (p :: l)[k]? = some x) : (p :: l.take k).getLast (by simp) = x := by
  induction l generalizing p k with
  | nil =>
    cases k with
    | zero => simpa using hx
    | succ k => simp at hx
  | cons a l ih =>
    cases k with
    | zero => simpa using hx
    | succ k =>
      have := ih (p := a) (k := k) (by simpa using hx)
      simpa using this

theorem validFrom_take {p : Int × Int} {r : List (Int × Int)} {k : Nat} {x y : Int × Int} (hx : (p :: r)[k]? = some x) (hy : (p :: r)[k + 1]? = some y) :
    validFrom p (r.take (k + 1)) = (validFrom p (r.take k) && stepOk x y) := by
  have hy' : r[k]? = some y := by simpa using hy
  rw [List.take_add_one, hy']
  have := validFrom_snoc (r.take k) p y
  rw [getLast_take hx] at this
  exact this

theorem validFrom_pre {p : Int × Int} {r : List (Int × Int)} (k : Nat) (h : validFrom p (r.take k) = false) : validFrom p r = false := by
  induction r generalizing p k with
  | nil => simp [validFrom] at h
  | cons a r ih =>
    cases k with
    | zero => simp [validFrom] at h
    | succ k =>
      simp only [List.take_succ_cons, validFrom, Bool.and_eq_false_iff] at h ⊢
      rcases h with h | h
      · exact .inl h
      · exact .inr (ih k h)

theorem stepOk_no {x y u v : Int} (h : u ≤ x ∨ 1099511627776 ≤ u ∨ v = y) : stepOk (x, y) (u, v) = false := by
  unfold stepOk
  rcases h with h | h | h
  · simp [show ¬ x < u by omega]
  · simp [show ¬ u < 1099511627776 by omega]
  · simp [h]
theorem stepOk_yes {x y u v : Int} (h1 : x < u) (h2 : u < 1099511627776) (h3 : ¬ v = y) : stepOk (x, y) (u, v) = true := by
  unfold stepOk
  simp [h1, h2, h3]

set_option maxHeartbeats 1000000 in
theorem svalid_ref (A : Option Addr) (n c : Nat) (l : List (Int × Int)) (w : World) (ha : Rd e2 2 w w.heap.size A n l) (hn : n ≤ 1000000) :
    Calls Try.prog 27 #[.slice A n c] w fun e w' => e = .returned (.bool (svalid l)) ∧ Gr w w' := by
  match l, ha with
  | [], ha =>
    obtain rfl : n = 0 := ha.1.symm
    go_enter Try.func27, Try.ntmps27
    go_wp2
    go_ret
    exact ⟨rfl, Gr.refl _⟩
  | (f0, n0) :: r, ha =>
    have hl := ha.1
    simp only [List.length_cons] at hl
    have HL := Lib.hid hl
    obtain ⟨b0, o0, x0, y0, rfl, hb0, hx0, d1, d2⟩ := ha.at2 (i := 0) (by omega)
    simp only [List.getElem?_cons_zero, Option.some.injEq, Prod.mk.injEq, Nat.zero_mul, Nat.add_zero] at hx0 d1 d2
    obtain ⟨rfl, rfl⟩ := hx0
    have hpos : 0 < n := by omega
    have hne0 : ((n : Int) == 0) = false := by simp; omega
    clear hl
    by_cases hz : f0 = 0
    · subst hz
      go_enter Try.func27, Try.ntmps27
      go_wp2
      go_loopw [3] (fun i wr => ∃ k : Nat, 1 ≤ k ∧ k ≤ n ∧ i = .int .i64 k ∧ Hid (validFrom (0, n0) (r.take (k - 1)) = true) ∧ Gr w wr) (fun i _ => n - (intOf i).toNat)
      case atStart => exact ⟨1, Nat.le_refl _, by omega, rfl, rfl, Gr.refl _⟩
      case round =>
        obtain ⟨k, hk1, hk, rfl, HE, hbw⟩ := hrel
        by_cases hlt : k < n
        · obtain ⟨b1, o1, x1, y1, hA1, hb1, hx1, c1, c2⟩ := (ha.gr hbw).at2 hlt
          injection hA1 with hA1
          injection hA1 with hA2 hA3
          subst hA2 hA3
          obtain ⟨b2, o2, x2, y2, hA2, hb2, hx2, c3, c4⟩ := (ha.gr hbw).at2 (i := k - 1) (by omega)
          injection hA2 with hA2
          injection hA2 with hA3 hA4
          subst hA3 hA4
          have hstep := validFrom_take (k := k - 1) hx2 (by rw [Nat.sub_add_cancel hk1]; exact hx1)
          rw [Nat.sub_add_cancel hk1, HE.out, Bool.true_and] at hstep
          have HS := Lib.hid hstep
          clear hstep hx1 hx2 ha
          have hk0 : (1 : Int) ≤ (k : Int) := by omega
          by_cases t1 : x1 ≤ x2
          · have t1b : decide (x1 ≤ x2) = true := by simpa using t1
            go_wp2
            go_quiet (fail)
            go_wp2
            go_ret
            refine ⟨ret_bool ?_, hbw.drewNR _⟩
            have hv := validFrom_pre (p := (0, n0)) (r := r) k (by rw [HS.out]; exact stepOk_no (.inl t1))
            simp [svalid, hv]
          · have t1b : decide (x1 ≤ x2) = false := by simpa using t1
            by_cases t2 : 1099511627776 ≤ x1
            · have t2b : decide (1099511627776 ≤ x1) = true := by simpa using t2
              go_wp2
              go_quiet (fail)
              go_wp2
              go_ret
              refine ⟨ret_bool ?_, hbw.drewNR _⟩
              have hv := validFrom_pre (p := (0, n0)) (r := r) k (by rw [HS.out]; exact stepOk_no (.inr (.inl t2)))
              simp [svalid, hv]
            · have t2b : decide (1099511627776 ≤ x1) = false := by simpa using t2
              by_cases t3 : y1 = y2
              · have t3b : (y1 == y2) = true := by simpa using t3
                have T3 := Lib.hid t3
                clear t3
                go_wp2
                go_quiet (fail)
                go_wp2
                go_ret
                refine ⟨ret_bool ?_, hbw.drewNR _⟩
                have hv := validFrom_pre (p := (0, n0)) (r := r) k (by rw [HS.out]; exact stepOk_no (.inr (.inr T3.out)))
                simp [svalid, hv]
              · have t3b : (y1 == y2) = false := by simpa using t3
                go_wp2
                go_quiet (fail)
                go_wp2
                go_roundw
                case rel => exact ⟨k + 1, by omega, by omega, by go_num, (by show validFrom _ (r.take k) = true; rw [HS.out]; exact stepOk_yes (by omega) (by omega) t3), hbw.drewNR _⟩
                case measure => simp [intOf]; omega
        · have hkn : k = n := by omega
          subst hkn
          go_wp2
          go_ret
          refine ⟨ret_bool ?_, hbw⟩
          have := HE.out
          rw [List.take_of_length_le (by have := HL.out; omega)] at this
          simp [svalid, this]
    · have hzb : (f0 != 0) = true := by simpa using hz
      go_enter Try.func27, Try.ntmps27
      go_wp2
      go_ret
      exact ⟨ret_bool (by simp [svalid, hz]), Gr.refl _⟩

set_option maxHeartbeats 1000000 in
theorem svalid_prog (A : Option Addr) (n c : Nat) (l : List (Int × Int)) (w : World) (ha : Rd e2 2 w w.heap.size A n l) (hn : n ≤ 1000000) :
    Calls Try.prog 39 #[.slice A n c] w fun e w' => e = .returned (.bool (svalid l)) ∧ Gr w w' := by
  match l, ha with
  | [], ha =>
    obtain rfl : n = 0 := ha.1.symm
    go_enter Try.func39, Try.ntmps39
    go_wp2
    go_ret
    exact ⟨rfl, Gr.refl _⟩
  | (f0, n0) :: r, ha =>
    have hl := ha.1
    simp only [List.length_cons] at hl
    have HL := Lib.hid hl
    obtain ⟨b0, o0, x0, y0, rfl, hb0, hx0, d1, d2⟩ := ha.at2 (i := 0) (by omega)
    simp only [List.getElem?_cons_zero, Option.some.injEq, Prod.mk.injEq, Nat.zero_mul, Nat.add_zero] at hx0 d1 d2
    obtain ⟨rfl, rfl⟩ := hx0
    have hpos : 0 < n := by omega
    have hne0 : ((n : Int) == 0) = false := by simp; omega
    clear hl
    by_cases hz : f0 = 0
    · subst hz
      go_enter Try.func39, Try.ntmps39
      go_wp2
      go_loopw [3] (fun i wr => ∃ k : Nat, 1 ≤ k ∧ k ≤ n ∧ i = .int .i64 k ∧ Hid (validFrom (0, n0) (r.take (k - 1)) = true) ∧ Gr w wr) (fun i _ => n - (intOf i).toNat)
      case atStart => exact ⟨1, Nat.le_refl _, by omega, rfl, rfl, Gr.refl _⟩
      case round =>
        obtain ⟨k, hk1, hk, rfl, HE, hbw⟩ := hrel
        by_cases hlt : k < n
        · obtain ⟨b1, o1, x1, y1, hA1, hb1, hx1, c1, c2⟩ := (ha.gr hbw).at2 hlt
          injection hA1 with hA1
          injection hA1 with hA2 hA3
          subst hA2 hA3
          obtain ⟨b2, o2, x2, y2, hA2, hb2, hx2, c3, c4⟩ := (ha.gr hbw).at2 (i := k - 1) (by omega)
          injection hA2 with hA2
          injection hA2 with hA3 hA4
          subst hA3 hA4
          have hstep := validFrom_take (k := k - 1) hx2 (by rw [Nat.sub_add_cancel hk1]; exact hx1)
          rw [Nat.sub_add_cancel hk1, HE.out, Bool.true_and] at hstep
          have HS := Lib.hid hstep
          clear hstep hx1 hx2 ha
          have hk0 : (1 : Int) ≤ (k : Int) := by omega
          by_cases t1 : x1 ≤ x2
          · have t1b : decide (x1 ≤ x2) = true := by simpa using t1
            go_wp2
            go_quiet (fail)
            go_wp2
            go_ret
            refine ⟨ret_bool ?_, hbw.drewNR _⟩
            have hv := validFrom_pre (p := (0, n0)) (r := r) k (by rw [HS.out]; exact stepOk_no (.inl t1))
            simp [svalid, hv]
          · have t1b : decide (x1 ≤ x2) = false := by simpa using t1
            by_cases t2 : 1099511627776 ≤ x1
            · have t2b : decide (1099511627776 ≤ x1) = true := by simpa using t2
              go_wp2
              go_quiet (fail)
              go_wp2
              go_ret
              refine ⟨ret_bool ?_, hbw.drewNR _⟩
              have hv := validFrom_pre (p := (0, n0)) (r := r) k (by rw [HS.out]; exact stepOk_no (.inr (.inl t2)))
              simp [svalid, hv]
            · have t2b : decide (1099511627776 ≤ x1) = false := by simpa using t2
              by_cases t3 : y1 = y2
              · have t3b : (y1 == y2) = true := by simpa using t3
                have T3 := Lib.hid t3
                clear t3
                go_wp2
                go_quiet (fail)
                go_wp2
                go_ret
                refine ⟨ret_bool ?_, hbw.drewNR _⟩
                have hv := validFrom_pre (p := (0, n0)) (r := r) k (by rw [HS.out]; exact stepOk_no (.inr (.inr T3.out)))
                simp [svalid, hv]
              · have t3b : (y1 == y2) = false := by simpa using t3
                go_wp2
                go_quiet (fail)
                go_wp2
                go_roundw
                case rel => exact ⟨k + 1, by omega, by omega, by go_num, (by show validFrom _ (r.take k) = true; rw [HS.out]; exact stepOk_yes (by omega) (by omega) t3), hbw.drewNR _⟩
                case measure => simp [intOf]; omega
        · have hkn : k = n := by omega
          subst hkn
          go_wp2
          go_ret
          refine ⟨ret_bool ?_, hbw⟩
          have := HE.out
          rw [List.take_of_length_le (by have := HL.out; omega)] at this
          simp [svalid, this]
    · have hzb : (f0 != 0) = true := by simpa using hz
      go_enter Try.func39, Try.ntmps39
      go_wp2
      go_ret
      exact ⟨ret_bool (by simp [svalid, hz]), Gr.refl _⟩

end Go.Proofs.Ytllenmkmompjpaa
