/- Walks of the functions that read one list of steps: the value at an instant, the greatest value. Condition: at most 1000000 steps. -/
import Derived.Test.YtllenmkmompjpaaW3
namespace Go.Proofs.Ytllenmkmompjpaa
open Go.RowKit

theorem foldl_take {α β : Type} {l : List α} {g : β → α → β} {b : β} {k : Nat} {x : α} (hx : l[k]? = some x) : (l.take (k + 1)).foldl g b = g ((l.take k).foldl g b) x := by
  rw [List.take_add_one, hx]
  simp

set_option maxHeartbeats 1000000 in
theorem rat_ref (A : Option Addr) (n c : Nat) (l : List (Int × Int)) (t : Int) (w : World) (ha : Rd e2 2 w w.heap.size A n l) (hn : n ≤ 1000000) :
    Calls Try.prog 37 #[.slice A n c, .int .i64 t] w fun e w' => e = .returned (.int .i64 (rat l t)) ∧ Gr w w' := by
  by_cases ht : 0 ≤ t ∧ t < 1099511627776
  · obtain ⟨t1, t2⟩ := ht
    have t1b : decide (0 ≤ t) = true := by simpa using t1
    have t2b : decide (t < 1099511627776) = true := by simpa using t2
    go_enter Try.func37, Try.ntmps37
    go_wp2
    go_loop [5, 6] (fun v i => ∃ (k : Nat) (z : Int), k ≤ n ∧ i = .int .i64 k ∧ v = .int .i64 z ∧ Hid (z = (l.take k).foldl (fun n s => if s.1 ≤ t then s.2 else n) 0)) (fun _ i => n - (intOf i).toNat)
    case atStart => exact ⟨0, 0, Nat.zero_le _, rfl, rfl, rfl⟩
    case round =>
      obtain ⟨k, z, hk, rfl, rfl, HE⟩ := hrel
      by_cases hlt : k < n
      · obtain ⟨b1, o1, x1, y1, rfl, hb1, hx1, c1, c2⟩ := ha.at2 hlt
        have X1 := Lib.hid hx1
        clear hx1
        go_wp2
        all_goals
          go_round
          case rel => exact ⟨k + 1, _, by omega, by go_num, rfl, by show _ = _; rw [foldl_take X1.out, ← HE.out]; first | rw [if_pos (by assumption)] | rw [if_neg (by omega)]⟩
          case measure => simp [intOf]; omega
      · have hkn : k = n := by omega
        subst hkn
        go_wp2
        go_ret
        refine ⟨ret_int ?_, Gr.refl _⟩
        rw [HE.out, List.take_of_length_le (by rw [ha.1]; omega)]
        unfold rat
        rw [if_pos ⟨t1, t2⟩]
  · have hr : rat l t = 0 := by unfold rat; rw [if_neg ht]
    have HR := Lib.hid hr
    clear hr
    by_cases t1 : 0 ≤ t
    · have t2 : ¬ t < 1099511627776 := fun h => ht ⟨t1, h⟩
      have t1b : decide (0 ≤ t) = true := by simpa using t1
      have t2b : decide (t < 1099511627776) = false := by simpa using t2
      by_cases h0 : 0 < n
      · go_enter Try.func37, Try.ntmps37
        go_wp2
        refine wp_loop_rounds 1 ?_
        rw [rounds_succ]
        go_wp2
        go_ret
        exact ⟨ret_int (by rw [HR.out]), Gr.refl _⟩
      · obtain rfl : n = 0 := by omega
        go_enter Try.func37, Try.ntmps37
        go_wp2
        refine wp_loop_rounds 1 ?_
        rw [rounds_succ]
        go_wp2
        go_ret
        exact ⟨ret_int (by rw [HR.out]), Gr.refl _⟩
    · have t1b : decide (0 ≤ t) = false := by simpa using t1
      by_cases h0 : 0 < n
      · go_enter Try.func37, Try.ntmps37
        go_wp2
        refine wp_loop_rounds 1 ?_
        rw [rounds_succ]
        go_wp2
        go_ret
        exact ⟨ret_int (by rw [HR.out]), Gr.refl _⟩
      · obtain rfl : n = 0 := by omega
        go_enter Try.func37, Try.ntmps37
        go_wp2
        refine wp_loop_rounds 1 ?_
        rw [rounds_succ]
        go_wp2
        go_ret
        exact ⟨ret_int (by rw [HR.out]), Gr.refl _⟩

def gfold (n : Int) (s : Int × Int) : Int := if n < s.2 then s.2 else n
theorem greatest_cons (p : Int × Int) (r : List (Int × Int)) : greatest (p :: r) = r.foldl gfold p.2 := rfl
/-- The greatest value of the first k steps. -/
theorem greatest_next {l : List (Int × Int)} {k : Nat} {x y : Int} (hx : l[k]? = some (x, y)) (hk : 0 < k) : greatest (l.take (k + 1)) = if greatest (l.take k) < y then y else greatest (l.take k) := by
  match l, k, hk with
  | [], _, _ => simp at hx
  | p :: r, k + 1, _ =>
    rw [List.take_succ_cons, List.take_succ_cons, greatest_cons, greatest_cons, foldl_take (by simpa using hx)]
    rfl
theorem greatest_one {l : List (Int × Int)} {x y : Int} (hx : l[0]? = some (x, y)) : greatest (l.take 1) = y := by
  match l with
  | [] => simp at hx
  | p :: r => simp at hx; subst hx; rfl

set_option maxHeartbeats 1000000 in
theorem greatest_ref (A : Option Addr) (n c : Nat) (l : List (Int × Int)) (w : World) (ha : Rd e2 2 w w.heap.size A n l) (hn : n ≤ 1000000) :
    Calls Try.prog 19 #[.slice A n c] w fun e w' => e = .returned (.int .i64 (greatest l)) ∧ Gr w w' := by
  go_enter Try.func19, Try.ntmps19
  go_wp2
  go_loop [3, 4] (fun v i => ∃ (k : Nat) (z : Int), k ≤ n ∧ i = .int .i64 k ∧ v = .int .i64 z ∧ Hid (z = greatest (l.take k))) (fun _ i => n - (intOf i).toNat)
  case atStart => exact ⟨0, 0, Nat.zero_le _, rfl, rfl, rfl⟩
  case round =>
    obtain ⟨k, z, hk, rfl, rfl, HE⟩ := hrel
    by_cases hlt : k < n
    · obtain ⟨b1, o1, x1, y1, rfl, hb1, hx1, c1, c2⟩ := ha.at2 hlt
      have X1 := Lib.hid hx1
      clear hx1
      by_cases h0 : k = 0
      · subst h0
        simp only [Nat.zero_mul, Nat.add_zero] at c1 c2
        go_wp2
        go_round
        case rel => exact ⟨1, _, by omega, by go_num, rfl, by show _ = _; rw [greatest_one X1.out]⟩
        case measure => simp [intOf]; omega
      · have h0b : ((k : Int) == 0) = false := by simp; omega
        clear h0
        have h0 : 0 < k := by simp at h0b; omega
        go_wp2
        all_goals
          go_round
          case rel => exact ⟨k + 1, _, by omega, by go_num, rfl, by show _ = _; rw [greatest_next X1.out h0, ← HE.out]; first | rw [if_pos (by assumption)] | rw [if_neg (by omega)]⟩
          case measure => simp [intOf]; omega
    · have hkn : k = n := by omega
      subst hkn
      go_wp2
      go_ret
      refine ⟨ret_int ?_, Gr.refl _⟩
      rw [HE.out, List.take_of_length_le (by rw [ha.1]; omega)]

end Go.Proofs.Ytllenmkmompjpaa
