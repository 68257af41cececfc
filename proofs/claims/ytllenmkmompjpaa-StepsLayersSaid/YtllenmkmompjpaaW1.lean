/- Walks of the small functions: equality of lists, validity, values. Each returns what the plain function of the same meaning computes. Condition: lists of at most 1000000 elements. -/
import Derived.Test.YtllenmkmompjpaaBase
import Derived.Test.YtllenmkmompjpaaPlain
namespace Go.Proofs.Ytllenmkmompjpaa
open Go.RowKit

theorem neqStep (w : World) (a b c d : Int) : (binOp .neq 48 (.agg #[.int .i64 a, .int .i64 b]) (.agg #[.int .i64 c, .int .i64 d])).run Try.prog w = .ok (.bool (!pairEq a b c d)) w := by
  have u3 := Try.underlying3
  have a3 := Try.isAgg3
  have z3 := Try.sizeOf3
  have hS : Try.prog.underlying 48 = some (.struct (Try.prog.fieldsOf 48)) := by kernel_rfl
  have hp : Try.prog.stoodInHeld 48 = false := by kernel_rfl
  rw [pairEq_beq, run_neq_struct, show (10000 : Nat) = 9999 + 1 from rfl, run_equalIn_agg w 9999 48 _ _ hS hp]
  simp only [Program.fieldsOf, Try.underlying48]
  go_simp
  by_cases h1 : a = c <;> by_cases h2 : b = d <;> simp [h1, h2]

theorem neqPeriod (w : World) (a b c d : Int) : (binOp .neq 38 (.agg #[.int .i64 a, .int .i64 b]) (.agg #[.int .i64 c, .int .i64 d])).run Try.prog w = .ok (.bool (!pairEq a b c d)) w := by
  have u3 := Try.underlying3
  have a3 := Try.isAgg3
  have z3 := Try.sizeOf3
  have hS : Try.prog.underlying 38 = some (.struct (Try.prog.fieldsOf 38)) := by kernel_rfl
  have hp : Try.prog.stoodInHeld 38 = false := by kernel_rfl
  rw [pairEq_beq, run_neq_struct, show (10000 : Nat) = 9999 + 1 from rfl, run_equalIn_agg w 9999 38 _ _ hS hp]
  simp only [Program.fieldsOf, Try.underlying38]
  go_simp
  by_cases h1 : a = c <;> by_cases h2 : b = d <;> simp [h1, h2]

theorem eqlPeriod (w : World) (a b c d : Int) : (binOp .eql 38 (.agg #[.int .i64 a, .int .i64 b]) (.agg #[.int .i64 c, .int .i64 d])).run Try.prog w = .ok (.bool (pairEq a b c d)) w := by
  have u3 := Try.underlying3
  have a3 := Try.isAgg3
  have z3 := Try.sizeOf3
  have hS : Try.prog.underlying 38 = some (.struct (Try.prog.fieldsOf 38)) := by kernel_rfl
  have hp : Try.prog.stoodInHeld 38 = false := by kernel_rfl
  rw [pairEq_beq, run_eql_struct, show (10000 : Nat) = 9999 + 1 from rfl, run_equalIn_agg w 9999 38 _ _ hS hp]
  simp only [Program.fieldsOf, Try.underlying38]
  go_simp
  by_cases h1 : a = c <;> by_cases h2 : b = d <;> simp [h1, h2]

theorem take_next {α : Type} {a b : List α} {k : Nat} {x y : α} (h : a.take k = b.take k) (hx : a[k]? = some x) (hy : b[k]? = some y) : (a.take (k + 1) = b.take (k + 1)) ↔ x = y := by
  rw [List.take_add_one, List.take_add_one, hx, hy, h]
  simp

set_option maxHeartbeats 400000 in
theorem same_any (A B : Option Addr) (n m ca cb : Nat) (a b : List (Int × Int)) (w : World) (ha : Rd e2 2 w w.heap.size A n a) (hb : Rd e2 2 w w.heap.size B m b) (hn : n ≤ 1000000) (hm : m ≤ 1000000) :
    Calls Try.prog 12 #[.slice A n ca, .slice B m cb] w fun e w' => e = .returned (.bool (decide (a = b))) ∧ Gr w w' := by
  have hq := fun w => neqStep w
  by_cases hnm : n = m
  · subst hnm
    go_enter Try.func12, Try.ntmps12
    go_wp2
    go_loopw [5] (fun i wr => ∃ k : Nat, k ≤ n ∧ i = .int .i64 k ∧ Hid (a.take k = b.take k) ∧ Gr w wr) (fun i _ => n - (intOf i).toNat)
    case atStart => exact ⟨0, Nat.zero_le _, rfl, rfl, Gr.refl _⟩
    case round =>
      obtain ⟨k, hk, rfl, HE, hbw⟩ := hrel
      by_cases hlt : k < n
      · obtain ⟨b1, o1, x1, y1, rfl, hb1, hx1, c1, c2⟩ := (ha.gr hbw).at2 hlt
        obtain ⟨b2, o2, x2, y2, rfl, hb2, hx2, c3, c4⟩ := (hb.gr hbw).at2 hlt
        have X1 := Lib.hid hx1
        have X2 := Lib.hid hx2
        clear hx1 hx2 ha hb
        go_wp2
        go_quiet (fail)
        go_wp2
        · have hne : (!pairEq x1 y1 x2 y2) = true := by assumption
          rw [Bool.not_eq_true'] at hne
          go_ret
          refine ⟨?_, hbw.drewNR _⟩
          have : a ≠ b := fun e => by
            subst e
            have := X1.out.symm.trans X2.out
            exact pairEq_no hne (by simpa using this)
          simp [this]
        · have heq : (!pairEq x1 y1 x2 y2) = false := by assumption
          rw [Bool.not_eq_false'] at heq
          go_roundw
          case rel => exact ⟨k + 1, by omega, by go_num, (take_next HE.out X1.out X2.out).2 (by simp [pairEq_yes heq]), hbw.drewNR _⟩
          case measure => simp [intOf]; omega
      · have hkn : k = n := by omega
        subst hkn
        go_wp2
        go_ret
        refine ⟨?_, hbw⟩
        have := HE.out
        rw [List.take_of_length_le (by rw [ha.1]; omega), List.take_of_length_le (by rw [hb.1]; omega)] at this
        simp [this]
  · have hne : ((n : Int) != (m : Int)) = true := by simp; omega
    go_enter Try.func12, Try.ntmps12
    go_wp2
    go_ret
    refine ⟨?_, Gr.refl _⟩
    have : a ≠ b := fun e => hnm (by rw [← ha.1, ← hb.1, e])
    simp [this]

set_option maxHeartbeats 400000 in
theorem psame_any (A B : Option Addr) (n m ca cb : Nat) (a b : List (Int × Int)) (w : World) (ha : Rd e2 2 w w.heap.size A n a) (hb : Rd e2 2 w w.heap.size B m b) (hn : n ≤ 1000000) (hm : m ≤ 1000000) :
    Calls Try.prog 16 #[.slice A n ca, .slice B m cb] w fun e w' => e = .returned (.bool (decide (a = b))) ∧ Gr w w' := by
  have hq := fun w => neqPeriod w
  by_cases hnm : n = m
  · subst hnm
    go_enter Try.func16, Try.ntmps16
    go_wp2
    go_loopw [5] (fun i wr => ∃ k : Nat, k ≤ n ∧ i = .int .i64 k ∧ Hid (a.take k = b.take k) ∧ Gr w wr) (fun i _ => n - (intOf i).toNat)
    case atStart => exact ⟨0, Nat.zero_le _, rfl, rfl, Gr.refl _⟩
    case round =>
      obtain ⟨k, hk, rfl, HE, hbw⟩ := hrel
      by_cases hlt : k < n
      · obtain ⟨b1, o1, x1, y1, rfl, hb1, hx1, c1, c2⟩ := (ha.gr hbw).at2 hlt
        obtain ⟨b2, o2, x2, y2, rfl, hb2, hx2, c3, c4⟩ := (hb.gr hbw).at2 hlt
        have X1 := Lib.hid hx1
        have X2 := Lib.hid hx2
        clear hx1 hx2 ha hb
        go_wp2
        go_quiet (fail)
        go_wp2
        · have hne : (!pairEq x1 y1 x2 y2) = true := by assumption
          rw [Bool.not_eq_true'] at hne
          go_ret
          refine ⟨?_, hbw.drewNR _⟩
          have : a ≠ b := fun e => by
            subst e
            have := X1.out.symm.trans X2.out
            exact pairEq_no hne (by simpa using this)
          simp [this]
        · have heq : (!pairEq x1 y1 x2 y2) = false := by assumption
          rw [Bool.not_eq_false'] at heq
          go_roundw
          case rel => exact ⟨k + 1, by omega, by go_num, (take_next HE.out X1.out X2.out).2 (by simp [pairEq_yes heq]), hbw.drewNR _⟩
          case measure => simp [intOf]; omega
      · have hkn : k = n := by omega
        subst hkn
        go_wp2
        go_ret
        refine ⟨?_, hbw⟩
        have := HE.out
        rw [List.take_of_length_le (by rw [ha.1]; omega), List.take_of_length_le (by rw [hb.1]; omega)] at this
        simp [this]
  · have hne : ((n : Int) != (m : Int)) = true := by simp; omega
    go_enter Try.func16, Try.ntmps16
    go_wp2
    go_ret
    refine ⟨?_, Gr.refl _⟩
    have : a ≠ b := fun e => hnm (by rw [← ha.1, ← hb.1, e])
    simp [this]

end Go.Proofs.Ytllenmkmompjpaa
