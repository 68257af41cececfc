/- Parts of the proof, joined. No condition. -/
import Derived.Test.YtlcceppoloaecaaGreatDoorKAW
set_option linter.unusedSimpArgs false
set_option linter.unusedVariables false
namespace Go.Proofs.YtlcceppoloaecaaGreatDoor.St
open Go.RowKit
def Li (l : List (Int × Int)) (n : Int) (k : Nat) : List (Int × Int) := ((ul l).take k).foldl (eY n) []
theorem TV (l : List (Int × Int)) (n : Int) {k : Nat} (h : l.length ≤ k) : Li l n k = Lt l n := by
  unfold Li Lt; rw [List.take_of_length_le (by rw [XR]; exact h)]
theorem Ni {l : List (Int × Int)} {n : Int} {k : Nat} {x y : Int} (hx : l[k]? = some (x, y)) : Li l n (k + 1) = eY n (Li l n k) ((x, ((l[k + 1]?).map (·.1)).getD 1099511627776), y) := by
  unfold Li; exact jb (XM l k (x, y) hx)
theorem VF (l : List (Int × Int)) (n : Int) (k : Nat) : (Li l n k).length ≤ k := by
  unfold Li
  have h1 := Qk n ((ul l).take k) []
  have h2 : ((ul l).take k).length ≤ k := List.length_take_le _ _
  simp at h1
  simp at h2
  omega

set_option maxRecDepth 100000 in
set_option maxHeartbeats 4000000 in
theorem ak0 (A : Option Addr) (n c : Nat) (l : List (Int × Int)) (v : Int) (w : World) (ha : Rd e2 2 w w.heap.size A n l) (hn : n ≤ 100000) :
    Calls Tryz.prog 152 #[.slice A n c, .int .i64 v] w fun e w' => ∃ A' m' c', e = .returned (.slice A' m' c') ∧ Own e2 2 53 w' w.heap.size (.slice A' m' c') (Lt l v) ∧ Gr w w' := by
  have hlen := Lib.hid ha.1
  go_enter Tryz.func152, Tryz.ntmps152
  go_wp2_with fail
  go_loopw [5, 6, 7] (fun o i t wr => ∃ (k : Nat) (A' : Option Addr) (m' c' : Nat), k ≤ n ∧ i = .int .i64 k ∧ o = .slice A' m' c' ∧ m' ≤ k ∧ Own e2 2 53 wr w.heap.size (.slice A' m' c') (Li l v k) ∧ Gr w wr) (fun _ i _ _ => n - (intOf i).toNat)
  case atStart => exact ⟨0, none, 0, 0, Nat.zero_le _, rfl, rfl, by omega, Own.nil _ _, Gr.refl _⟩
  case round =>
    obtain ⟨k, A', m', c', hk, rfl, rfl, hm', hown, hg⟩ := hrel
    by_cases hlt : k < n
    · obtain ⟨b1, o1, x1, y1, hA1, hb1, hx1, d1, d2⟩ := (ha.gr hg).at2 hlt
      cases hA1
      have hstep := Lib.hid (Ni (n := v) hx1)
      clear hx1
      by_cases hl2 : k + 1 < n
      · obtain ⟨b2, o2, x2, y2, hA2, hb2, hx2, d3, d4⟩ := (ha.gr hg).at2 hl2
        cases hA2
        have hnx := Lib.hid (show ((l[k + 1]?).map (·.1)).getD 1099511627776 = x2 by rw [hx2]; rfl)
        clear hx2
        by_cases hge : v ≤ y1
        · have hgeb : decide (v ≤ y1) = true := by simpa using hge
          have hst := Lib.hid (show Li l v (k + 1) = jV (Li l v k) (x1, x2) by rw [hstep.out, hnx.out]; unfold eY; rw [if_pos hge])
          go_wp2_with fail
          refine (V3 w.heap.size A' m' c' _ x1 x2 _ hown (by omega) hg.size).mono ?_
          rintro e w2 ⟨A2, m2, c2, rfl, hown2, hbel2⟩
          rw [← hst.out] at hown2
          have hm2 : m2 ≤ k + 1 := by have h1 := hown2.len; have h2 := VF l v (k + 1); omega
          go_wp2_with fail
          go_roundw
          case rel => exact ⟨k + 1, _, _, _, by omega, by go_num, rfl, hm2, hown2, hg.out.trans hbel2⟩
          case measure => simp [intOf]; omega
        · have hgeb : decide (v ≤ y1) = false := by simpa using hge
          have hst := Lib.hid (show Li l v (k + 1) = Li l v k by rw [hstep.out]; unfold eY; rw [if_neg hge])
          rw [← hst.out] at hown
          go_wp2_with fail
          go_roundw
          case rel => exact ⟨k + 1, _, _, _, by omega, by go_num, rfl, by omega, hown, hg⟩
          case measure => simp [intOf]; omega
      · have hnx := Lib.hid (show ((l[k + 1]?).map (·.1)).getD 1099511627776 = 1099511627776 by rw [List.getElem?_eq_none (by rw [hlen.out]; omega)]; rfl)
        by_cases hge : v ≤ y1
        · have hgeb : decide (v ≤ y1) = true := by simpa using hge
          have hst := Lib.hid (show Li l v (k + 1) = jV (Li l v k) (x1, 1099511627776) by rw [hstep.out, hnx.out]; unfold eY; rw [if_pos hge])
          go_wp2_with fail
          refine (V3 w.heap.size A' m' c' _ x1 1099511627776 _ hown (by omega) hg.size).mono ?_
          rintro e w2 ⟨A2, m2, c2, rfl, hown2, hbel2⟩
          rw [← hst.out] at hown2
          have hm2 : m2 ≤ k + 1 := by have h1 := hown2.len; have h2 := VF l v (k + 1); omega
          go_wp2_with fail
          go_roundw
          case rel => exact ⟨k + 1, _, _, _, by omega, by go_num, rfl, hm2, hown2, hg.out.trans hbel2⟩
          case measure => simp [intOf]; omega
        · have hgeb : decide (v ≤ y1) = false := by simpa using hge
          have hst := Lib.hid (show Li l v (k + 1) = Li l v k by rw [hstep.out]; unfold eY; rw [if_neg hge])
          rw [← hst.out] at hown
          go_wp2_with fail
          go_roundw
          case rel => exact ⟨k + 1, _, _, _, by omega, by go_num, rfl, by omega, hown, hg⟩
          case measure => simp [intOf]; omega
    · rw [TV l v (by rw [hlen.out]; omega)] at hown
      go_wp2_with fail
      go_ret
      exact ⟨_, _, _, rfl, hown, hg⟩


end Go.Proofs.YtlcceppoloaecaaGreatDoor.St
