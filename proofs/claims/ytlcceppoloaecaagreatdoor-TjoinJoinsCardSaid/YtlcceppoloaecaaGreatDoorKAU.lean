/- Parts of the proof, joined. No condition. -/
import Derived.Test.YtlcceppoloaecaaGreatDoorKAT
set_option linter.unusedSimpArgs false
set_option linter.unusedVariables false
namespace Go.Proofs.YtlcceppoloaecaaGreatDoor.St
open Go.RowKit
def ins (n : Int) : List Int → List Int
  | [] => [n]
  | x :: r => if x < n then x :: ins n r else if n < x then n :: x :: r else x :: r
def mid (n : Int) : Option Int → List Int
  | none => [n]
  | some y => if n < y then [n] else []
theorem RI (n : Int) : ∀ (l : List Int) (k : Nat), (∀ x ∈ l.take k, x < n) → (∀ y, l[k]? = some y → n ≤ y) → ins n l = l.take k ++ (mid n l[k]? ++ l.drop k)
  | [], k, h, h' => by simp [ins, mid]
  | x :: r, 0, h, h' => by
    have hx : n ≤ x := h' x rfl
    simp only [ins, mid, List.take_zero, List.nil_append, List.getElem?_cons_zero, List.drop_zero]
    rw [if_neg (by omega)]
    split <;> rfl
  | x :: r, k + 1, h, h' => by
    have hx : x < n := h x (by simp)
    have := RI n r k (fun y hy => h y (by simp [hy])) (fun y hy => h' y (by simpa using hy))
    simp only [ins]
    rw [if_pos hx, this]
    simp
theorem uT (n : Int) : ∀ l : List Int, (ins n l).length ≤ l.length + 1
  | [] => by simp [ins]
  | x :: r => by
    have := uT n r
    unfold ins
    split
    · simp; omega
    · split <;> simp
theorem om {α : Type} {l : List α} {k : Nat} {x : α} (hx : l[k]? = some x) : l.take k ++ [x] = l.take (k + 1) := by rw [List.take_add_one, hx]; rfl
theorem Aj {α : Type} {l pre : List α} {k j : Nat} {x : α} (hx : l[k + j]? = some x) : (pre ++ (l.drop k).take j) ++ [x] = pre ++ (l.drop k).take (j + 1) := by
  rw [List.append_assoc, om (by rw [List.getElem?_drop]; exact hx)]

set_option maxHeartbeats 2000000 in
theorem N0 (A : Option Addr) (n c : Nat) (l : List Int) (z : Int) (w : World) (ha : Rd e1 1 w w.heap.size A n l) (hn : n ≤ 1000000) :
    Calls Tryz.prog 214 #[.slice A n c, .int .i64 z] w fun e w' => ∃ A' m' c', e = .returned (.slice A' m' c') ∧ Own e1 1 3 w' w.heap.size (.slice A' m' c') (ins z l) ∧ Gr w w' := by
  have hlen := Lib.hid ha.1
  go_enter Tryz.func214, Tryz.ntmps214
  go_wp2
  go_loopw [5, 6] (fun v i wr => ∃ (k : Nat) (A' : Option Addr) (m' c' : Nat), k ≤ n ∧ i = .int .i64 k ∧ v = .slice A' m' c' ∧ Hid (∀ x ∈ l.take k, x < z) ∧ Own e1 1 3 wr w.heap.size (.slice A' m' c') (l.take k) ∧ Gr w wr) (fun _ i _ => n - (intOf i).toNat)
  case atStart => exact ⟨0, none, 0, 0, Nat.zero_le _, rfl, rfl, (fun x hx => by simp at hx), Own.nil _ _, Gr.refl _⟩
  case round =>
    obtain ⟨k, A', m', c', hk, rfl, rfl, HE, hown, hg⟩ := hrel
    have hm' : m' ≤ 1000000 := by have := hown.len; simp at this; omega
    by_cases hgo : ∃ x, l[k]? = some x ∧ x < z
    · obtain ⟨x, hx, hxz⟩ := hgo
      have hlt : k < n := by rw [← hlen.out]; exact (List.getElem?_eq_some_iff.1 hx).1
      obtain ⟨b1, o1, x1, rfl, hb1, hx1, c1⟩ := (ha.gr hg).at1 hlt
      obtain rfl : x1 = x := by rw [hx] at hx1; exact (Option.some.inj hx1).symm
      have X1 := Lib.hid hx
      clear hx hx1 ha
      have hzb : decide (x1 < z) = true := by simpa using hxz
      have hs := hg.size
      go_wp2_with (at_builtin; refine NH rfl (.tmp 19) (.tmp 24) rfl w.heap.size _ (l.take k) rfl hown [x1] 1 rfl rfl (by simp; omega) hs ?_; intro A2 m2 c2 w1 hown1 hbel)
      go_roundw
      case rel => exact ⟨k + 1, _, _, _, by omega, by go_num, rfl, (fun x hx => by rw [← om X1.out] at hx; simp at hx; rcases hx with hx | hx; exact HE.out x hx; omega), (by rw [om X1.out] at hown1; exact hown1), hg.out.trans hbel⟩
      case measure => simp [intOf]; omega
    · have hge : ∀ y, l[k]? = some y → z ≤ y := fun y hy => Int.not_lt.1 fun h => hgo ⟨y, hy, h⟩
      have hsp := Lib.hid (RI z l k HE.out hge)
      clear hgo HE
      by_cases hlt : k < n
      · obtain ⟨b1, o1, x1, rfl, hb1, hx1, c1⟩ := (ha.gr hg).at1 hlt
        have hz1 := hge x1 hx1
        have hzb : decide (x1 < z) = false := by simp; omega
        have hkn : ((k : Int) == (n : Int)) = false := by simp; omega
        by_cases hz2 : z < x1
        · have hzc : decide (z < x1) = true := by simpa using hz2
          have hmid := Lib.hid (show mid z l[k]? = [z] by rw [hx1]; simp [mid, hz2])
          have hs := hg.size
          clear hx1 hge
          go_wp2_with (at_builtin; refine NH rfl (.tmp 40) (.tmp 42) rfl w.heap.size _ (l.take k) rfl hown [z] 1 rfl rfl (by simp; omega) hs ?_; intro A2 m2 c2 w1 hown1 hbel)
          have hg1 : Gr w w1 := hg.out.trans hbel
          have hown2 : Own e1 1 3 w1 w.heap.size (.slice A2 m2 c2) (l.take k ++ mid z l[k]?) := by rw [hmid.out]; exact hown1
          generalize hpre : l.take k ++ mid z l[k]? = pre at hown2
          have HPre := Lib.hid hpre
          clear hpre
          have hpl : pre.length ≤ 1000001 := by rw [← HPre.out, hmid.out]; simp; omega
          go_loopw [5, 6] (fun v i wr => ∃ (j : Nat) (A' : Option Addr) (m' c' : Nat), k + j ≤ n ∧ i = .int .i64 ((k + j : Nat) : Int) ∧ v = .slice A' m' c' ∧ Own e1 1 3 wr w.heap.size (.slice A' m' c') (pre ++ (l.drop k).take j) ∧ Gr w wr) (fun _ i _ => n - (intOf i).toNat)
          case atStart => exact ⟨0, _, _, _, by omega, rfl, rfl, by simpa using hown2, hg1⟩
          case round =>
            obtain ⟨j, A3, m3, c3, hj, rfl, rfl, hown3, hg3⟩ := hrel
            by_cases hlt2 : k + j < n
            · obtain ⟨b2, o2, x2, hA2, hb2, hx2, d1⟩ := (ha.gr hg3).at1 hlt2
              cases hA2
              have X2 := Lib.hid hx2
              clear hx2 ha
              have hs3 := hg3.size
              go_wp2_with (at_builtin; refine NH rfl (.tmp 48) (.tmp 53) rfl w.heap.size _ (pre ++ (l.drop k).take j) rfl hown3 [x2] 1 rfl rfl (by simp; omega) hs3 ?_; intro A4 m4 c4 w4 hown4 hbel4)
              go_roundw
              case rel => exact ⟨j + 1, _, _, _, by omega, by go_num, rfl, (by rw [Aj X2.out] at hown4; exact hown4), hg3.out.trans hbel4⟩
              case measure => simp [intOf]; omega
            · go_wp2
              go_ret
              refine ⟨_, _, _, rfl, ?_, hg3⟩
              rw [hsp.out, ← List.append_assoc, HPre.out]
              rw [List.take_of_length_le (by rw [List.length_drop, hlen.out]; omega)] at hown3
              exact hown3
        · have hzc : decide (z < x1) = false := by simpa using hz2
          have hmid := Lib.hid (show mid z l[k]? = [] by rw [hx1]; simp [mid, hz2])
          clear hx1 hge
          go_wp2
          have hg1 : Gr w wr := hg
          have hown2 : Own e1 1 3 wr w.heap.size (.slice A' m' c') (l.take k ++ mid z l[k]?) := by rw [hmid.out, List.append_nil]; exact hown
          generalize hpre : l.take k ++ mid z l[k]? = pre at hown2
          have HPre := Lib.hid hpre
          clear hpre
          have hpl : pre.length ≤ 1000001 := by rw [← HPre.out, hmid.out]; simp; omega
          go_loopw [5, 6] (fun v i wr => ∃ (j : Nat) (A' : Option Addr) (m' c' : Nat), k + j ≤ n ∧ i = .int .i64 ((k + j : Nat) : Int) ∧ v = .slice A' m' c' ∧ Own e1 1 3 wr w.heap.size (.slice A' m' c') (pre ++ (l.drop k).take j) ∧ Gr w wr) (fun _ i _ => n - (intOf i).toNat)
          case atStart => exact ⟨0, _, _, _, by omega, rfl, rfl, by simpa using hown2, hg1⟩
          case round =>
            obtain ⟨j, A3, m3, c3, hj, rfl, rfl, hown3, hg3⟩ := hrel
            by_cases hlt2 : k + j < n
            · obtain ⟨b2, o2, x2, hA2, hb2, hx2, d1⟩ := (ha.gr hg3).at1 hlt2
              cases hA2
              have X2 := Lib.hid hx2
              clear hx2 ha
              have hs3 := hg3.size
              go_wp2_with (at_builtin; refine NH rfl (.tmp 48) (.tmp 53) rfl w.heap.size _ (pre ++ (l.drop k).take j) rfl hown3 [x2] 1 rfl rfl (by simp; omega) hs3 ?_; intro A4 m4 c4 w4 hown4 hbel4)
              go_roundw
              case rel => exact ⟨j + 1, _, _, _, by omega, by go_num, rfl, (by rw [Aj X2.out] at hown4; exact hown4), hg3.out.trans hbel4⟩
              case measure => simp [intOf]; omega
            · go_wp2
              go_ret
              refine ⟨_, _, _, rfl, ?_, hg3⟩
              rw [hsp.out, ← List.append_assoc, HPre.out]
              rw [List.take_of_length_le (by rw [List.length_drop, hlen.out]; omega)] at hown3
              exact hown3
      · have hkn : ((k : Int) == (n : Int)) = true := by simp; omega
        have hnone : l[k]? = none := List.getElem?_eq_none (by rw [hlen.out]; omega)
        have hmid := Lib.hid (show mid z l[k]? = [z] by rw [hnone]; rfl)
        have hs := hg.size
        clear hnone hge
        go_wp2_with (at_builtin; refine NH rfl (.tmp 40) (.tmp 42) rfl w.heap.size _ (l.take k) rfl hown [z] 1 rfl rfl (by simp; omega) hs ?_; intro A2 m2 c2 w1 hown1 hbel)
        have hg1 : Gr w w1 := hg.out.trans hbel
        have hown2 : Own e1 1 3 w1 w.heap.size (.slice A2 m2 c2) (l.take k ++ mid z l[k]?) := by rw [hmid.out]; exact hown1
        generalize hpre : l.take k ++ mid z l[k]? = pre at hown2
        have HPre := Lib.hid hpre
        clear hpre
        have hpl : pre.length ≤ 1000001 := by rw [← HPre.out, hmid.out]; simp; omega
        go_loopw [5, 6] (fun v i wr => ∃ (j : Nat) (A' : Option Addr) (m' c' : Nat), k + j ≤ n ∧ i = .int .i64 ((k + j : Nat) : Int) ∧ v = .slice A' m' c' ∧ Own e1 1 3 wr w.heap.size (.slice A' m' c') (pre ++ (l.drop k).take j) ∧ Gr w wr) (fun _ i _ => n - (intOf i).toNat)
        case atStart => exact ⟨0, _, _, _, by omega, rfl, rfl, by simpa using hown2, hg1⟩
        case round =>
          obtain ⟨j, A3, m3, c3, hj, rfl, rfl, hown3, hg3⟩ := hrel
          by_cases hlt2 : k + j < n
          · exact absurd hlt2 (by omega)
          · go_wp2
            go_ret
            refine ⟨_, _, _, rfl, ?_, hg3⟩
            rw [hsp.out, ← List.append_assoc, HPre.out]
            rw [List.take_of_length_le (by rw [List.length_drop, hlen.out]; omega)] at hown3
            exact hown3


end Go.Proofs.YtlcceppoloaecaaGreatDoor.St
