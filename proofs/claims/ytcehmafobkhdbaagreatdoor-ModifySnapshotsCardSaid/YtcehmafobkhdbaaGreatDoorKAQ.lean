/- Parts of the proof, joined. No condition. -/
import Derived.Test.YtcehmafobkhdbaaGreatDoorKAP
set_option linter.unusedSimpArgs false
set_option linter.unusedVariables false
namespace Go.Proofs.YtcehmafobkhdbaaGreatDoor.St
open Go.RowKit
def Hz (l : List (Int × Int)) (n : Int) (k : Nat) : List (Int × Int) := ((rR l).take k).foldl (dZ n) []
theorem O6 (l : List (Int × Int)) (n : Int) {k : Nat} (h : l.length ≤ k) : Hz l n k = Hf l n := by
  unfold Hz Hf; rw [List.take_of_length_le (by rw [RP]; exact h)]
theorem Jn {l : List (Int × Int)} {n : Int} {k : Nat} {x y : Int} (hx : l[k]? = some (x, y)) : Hz l n (k + 1) = dZ n (Hz l n k) ((x, ((l[k + 1]?).map (·.1)).getD 1099511627776), y) := by
  unfold Hz; exact iL (Rz l k (x, y) hx)
theorem O7 (l : List (Int × Int)) (n : Int) (k : Nat) : (Hz l n k).length ≤ k := by
  unfold Hz
  have h1 := Ic n ((rR l).take k) []
  have h2 : ((rR l).take k).length ≤ k := List.length_take_le _ _
  simp at h1
  simp at h2
  omega

set_option maxRecDepth 100000 in
set_option maxHeartbeats 4000000 in
theorem acE (A : Option Addr) (n c : Nat) (l : List (Int × Int)) (v : Int) (w : World) (ha : Rd e2 2 w w.heap.size A n l) (hn : n ≤ 100000) :
    Calls Tryz.prog 106 #[.slice A n c, .int .i64 v] w fun e w' => ∃ A' m' c', e = .returned (.slice A' m' c') ∧ Own e2 2 33 w' w.heap.size (.slice A' m' c') (Hf l v) ∧ Gr w w' := by
  have hlen := Lib.hid ha.1
  go_enter Tryz.func106, Tryz.ntmps106
  go_wp2_with fail
  go_loopw [5, 6, 7] (fun o i t wr => ∃ (k : Nat) (A' : Option Addr) (m' c' : Nat), k ≤ n ∧ i = .int .i64 k ∧ o = .slice A' m' c' ∧ m' ≤ k ∧ Own e2 2 33 wr w.heap.size (.slice A' m' c') (Hz l v k) ∧ Gr w wr) (fun _ i _ _ => n - (intOf i).toNat)
  case atStart => exact ⟨0, none, 0, 0, Nat.zero_le _, rfl, rfl, by omega, Own.nil _ _, Gr.refl _⟩
  case round =>
    obtain ⟨k, A', m', c', hk, rfl, rfl, hm', hown, hg⟩ := hrel
    by_cases hlt : k < n
    · obtain ⟨b1, o1, x1, y1, hA1, hb1, hx1, d1, d2⟩ := (ha.gr hg).at2 hlt
      cases hA1
      have hstep := Lib.hid (Jn (n := v) hx1)
      clear hx1
      by_cases hl2 : k + 1 < n
      · obtain ⟨b2, o2, x2, y2, hA2, hb2, hx2, d3, d4⟩ := (ha.gr hg).at2 hl2
        cases hA2
        have hnx := Lib.hid (show ((l[k + 1]?).map (·.1)).getD 1099511627776 = x2 by rw [hx2]; rfl)
        clear hx2
        by_cases hge : v ≤ y1
        · have hgeb : decide (v ≤ y1) = true := by simpa using hge
          have hst := Lib.hid (show Hz l v (k + 1) = jR (Hz l v k) (x1, x2) by rw [hstep.out, hnx.out]; unfold dZ; rw [if_pos hge])
          go_wp2_with fail
          refine (QS w.heap.size A' m' c' _ x1 x2 _ hown (by omega) hg.size).mono ?_
          rintro e w2 ⟨A2, m2, c2, rfl, hown2, hbel2⟩
          rw [← hst.out] at hown2
          have hm2 : m2 ≤ k + 1 := by have h1 := hown2.len; have h2 := O7 l v (k + 1); omega
          go_wp2_with fail
          go_roundw
          case rel => exact ⟨k + 1, _, _, _, by omega, by go_num, rfl, hm2, hown2, hg.out.trans hbel2⟩
          case measure => simp [intOf]; omega
        · have hgeb : decide (v ≤ y1) = false := by simpa using hge
          have hst := Lib.hid (show Hz l v (k + 1) = Hz l v k by rw [hstep.out]; unfold dZ; rw [if_neg hge])
          rw [← hst.out] at hown
          go_wp2_with fail
          go_roundw
          case rel => exact ⟨k + 1, _, _, _, by omega, by go_num, rfl, by omega, hown, hg⟩
          case measure => simp [intOf]; omega
      · have hnx := Lib.hid (show ((l[k + 1]?).map (·.1)).getD 1099511627776 = 1099511627776 by rw [List.getElem?_eq_none (by rw [hlen.out]; omega)]; rfl)
        by_cases hge : v ≤ y1
        · have hgeb : decide (v ≤ y1) = true := by simpa using hge
          have hst := Lib.hid (show Hz l v (k + 1) = jR (Hz l v k) (x1, 1099511627776) by rw [hstep.out, hnx.out]; unfold dZ; rw [if_pos hge])
          go_wp2_with fail
          refine (QS w.heap.size A' m' c' _ x1 1099511627776 _ hown (by omega) hg.size).mono ?_
          rintro e w2 ⟨A2, m2, c2, rfl, hown2, hbel2⟩
          rw [← hst.out] at hown2
          have hm2 : m2 ≤ k + 1 := by have h1 := hown2.len; have h2 := O7 l v (k + 1); omega
          go_wp2_with fail
          go_roundw
          case rel => exact ⟨k + 1, _, _, _, by omega, by go_num, rfl, hm2, hown2, hg.out.trans hbel2⟩
          case measure => simp [intOf]; omega
        · have hgeb : decide (v ≤ y1) = false := by simpa using hge
          have hst := Lib.hid (show Hz l v (k + 1) = Hz l v k by rw [hstep.out]; unfold dZ; rw [if_neg hge])
          rw [← hst.out] at hown
          go_wp2_with fail
          go_roundw
          case rel => exact ⟨k + 1, _, _, _, by omega, by go_num, rfl, by omega, hown, hg⟩
          case measure => simp [intOf]; omega
    · rw [O6 l v (by rw [hlen.out]; omega)] at hown
      go_wp2_with fail
      go_ret
      exact ⟨_, _, _, rfl, hown, hg⟩


end Go.Proofs.YtcehmafobkhdbaaGreatDoor.St
