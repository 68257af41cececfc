/- The walk of AtLeast of the program. Condition: at most 100000 steps, which ascend and lie before Forever. -/
import Derived.Test.YtllenmkmompjpaaW15
namespace Go.Proofs.Ytllenmkmompjpaa
open Go.RowKit

theorem flatMap_set {α : Type} {enc : α → List Value} {k : Nat} (hk : ∀ x, (enc x).length = k) {x' : α} {u : Value} {j : Nat} (hj : j < k) : ∀ {l : List α} {i : Nat} {x : α}, l[i]? = some x → enc x' = (enc x).set j u → (l.flatMap enc).set (i * k + j) u = (l.set i x').flatMap enc
  | [], i, x, h, _ => by simp at h
  | y :: l, 0, x, h, he => by
    simp at h; subst h
    rw [List.set_cons_zero, List.flatMap_cons, List.flatMap_cons, he, Nat.zero_mul, Nat.zero_add, List.set_append_left _ _ (by rw [hk]; exact hj)]
  | y :: l, i + 1, x, h, he => by
    have := flatMap_set hk hj (l := l) (i := i) (x := x) (by simpa using h) he
    rw [List.set_cons_succ, List.flatMap_cons, List.flatMap_cons, ← this]
    have e : (i + 1) * k + j = (enc y).length + (i * k + j) := by rw [hk, Nat.succ_mul]; omega
    rw [e, List.set_append_right _ _ (by omega)]
    congr 2; omega
theorem Own.at {α : Type} {enc : α → List Value} {k : Nat} {w : World} {E : TypeId} {base n c : Nat} {A : Option Addr} {l : List α} (h : Own enc k E w base (.slice A n c) l) (h0 : 0 < n) : ∃ g, A = some ⟨g, 0, none⟩ ∧ base ≤ g ∧ g < w.heap.size ∧ (∀ o, w.frozen? ⟨g, o, none⟩ = false) := by
  rcases h.2 with ⟨hv, hx⟩ | ⟨g, cap, cur, hv, hb, hh, _⟩
  · injection hv with h1 h2 h3; omega
  · injection hv with h1 h2 h3
    exact ⟨g, h1, hb, (Array.getElem?_eq_some_iff.1 hh).1, fun o => by simp [World.frozen?, hh]⟩
theorem Own.stored {α : Type} {enc : α → List Value} {k : Nat} {w : World} {E : TypeId} {base n c g i j : Nat} {l : List α} {x x' : α} {u : Value} (hk : ∀ x, (enc x).length = k) (h : Own enc k E w base (.slice (some ⟨g, 0, none⟩) n c) l) (hj : j < k) (hx : l[i]? = some x) (he : enc x' = (enc x).set j u) :
    Own enc k E (w.setCell ⟨g, i * k + j, none⟩ u) base (.slice (some ⟨g, 0, none⟩) n c) (l.set i x') := by
  have hl := h.len
  subst hl
  have := (World.ownsRow.stored h (i * k + j) u).1
  unfold Own
  rw [List.length_set, ← flatMap_set hk hj hx he]
  exact this
theorem below_set {B : Nat} {w : World} {g o : Nat} {u : Value} (h : B ≤ g) : Below B w (w.setCell ⟨g, o, none⟩ u) := (Below.refl _ _).setCell (p := ⟨g, o, none⟩) h u

theorem joinP_le {l : List (Int × Int)} {x t z : Int} (h : ∀ p ∈ l, p.2 ≤ z) (ht : t ≤ z) : ∀ p ∈ joinP l (x, t), p.2 ≤ z := by
  intro p hp
  unfold joinP at hp
  split at hp
  · rename_i q hq
    have hq2 := h q (List.mem_of_getLast? hq)
    split at hp
    · rcases List.mem_append.1 hp with e | e
      · exact h p (List.dropLast_subset l e)
      · simp at e; subst e; simp; omega
    · rcases List.mem_append.1 hp with e | e
      · exact h p e
      · simp at e; subst e; exact ht
  · rcases List.mem_append.1 hp with e | e
    · exact h p e
    · simp at e; subst e; exact ht
theorem atK_le {l : List (Int × Int)} (ha : Asc l) (v : Int) : ∀ (k : Nat) (x y : Int), l[k]? = some (x, y) → ∀ p ∈ atK l v k, p.2 ≤ x
  | 0, x, y, _ => by intro p hp; simp [atK] at hp
  | k + 1, x, y, hx => by
    intro p hp
    have hk : k < l.length := by have := (List.getElem?_eq_some_iff.1 hx).1; omega
    obtain ⟨x0, y0, hx0⟩ : ∃ x0 y0, l[k]? = some (x0, y0) := ⟨l[k].1, l[k].2, by rw [List.getElem?_eq_getElem hk]⟩
    have ih := atK_le ha v k x0 y0 hx0
    have hlt : x0 < x := ha k (k + 1) _ _ (by omega) hx0 hx
    rw [atK_next hx0, hx] at hp
    simp only [Option.map_some, Option.getD_some] at hp
    unfold atStep at hp
    split at hp
    · exact joinP_le (fun q hq => by have := ih q hq; omega) (Int.le_refl _) p hp
    · have := ih p hp; omega
/-- Where the last period ends at x or before: joined to it just if it ends at x. -/
theorem joinP_eq {l : List (Int × Int)} {x0 y0 x t : Int} (hq : l.getLast? = some (x0, y0)) (hle : y0 ≤ x) (ht : x < t) : joinP l (x, t) = if y0 = x then l.set (l.length - 1) (x0, t) else l ++ [(x, t)] := by
  unfold joinP
  rw [hq]
  simp only
  by_cases e : y0 = x
  · rw [if_pos (by omega), if_pos e, show max y0 t = t by omega]
    have hne : l ≠ [] := by intro h; subst h; simp at hq
    have hl : l = l.dropLast ++ [(x0, y0)] := by
      have := List.dropLast_concat_getLast hne
      rw [List.getLast?_eq_some_getLast hne] at hq
      injection hq with hq
      rw [← hq]; exact this.symm
    rw [hl]
    simp
  · rw [if_neg (by omega), if_neg e]

set_option maxRecDepth 100000 in
set_option maxHeartbeats 8000000 in
theorem atl_prog (A : Option Addr) (n c : Nat) (l : List (Int × Int)) (v : Int) (w : World) (ha : Rd e2 2 w w.heap.size A n l) (hn : n ≤ 100000) (hasc : Asc l) (hF : ∀ s ∈ l, s.1 < 1099511627776) :
    Calls Try.prog 17 #[.slice A n c, .int .i64 v] w fun e w' => ∃ A' m' c', e = .returned (.slice A' m' c') ∧ Own e2 2 38 w' w.heap.size (.slice A' m' c') (atl l v) ∧ Gr w w' := by
  have hlen := Lib.hid ha.1
  have HA := Lib.hid hasc
  have HF := Lib.hid hF
  clear hasc hF
  go_enter Try.func17, Try.ntmps17
  go_wp2_with fail
  go_loopw [5, 12] (fun o i wr => ∃ (k : Nat) (A' : Option Addr) (m' c' : Nat), k ≤ n ∧ i = .int .i64 k ∧ o = .slice A' m' c' ∧ m' ≤ k ∧ Own e2 2 38 wr w.heap.size (.slice A' m' c') (atK l v k) ∧ Gr w wr) (fun _ i _ => n - (intOf i).toNat)
  case atStart => exact ⟨0, none, 0, 0, Nat.zero_le _, rfl, rfl, by omega, Own.nil _ _, Gr.refl _⟩
  case round =>
    obtain ⟨k, A', m', c', hk, rfl, rfl, hm', hown, hg⟩ := hrel
    have hs := hg.size
    by_cases hlt : k < n
    · obtain ⟨b1, o1, x1, y1, hA1, hb1, hx1, d1, d2⟩ := (ha.gr hg).at2 hlt
      cases hA1
      have hstep := Lib.hid (atK_next (n := v) hx1)
      have X1 := Lib.hid hx1
      clear hx1
      have hne1 : wr.heap.size ≠ b1 := by omega
      by_cases hl2 : k + 1 < n
      · obtain ⟨b2, o2, x2, y2, hA2, hb2, hx2, d3, d4⟩ := (ha.gr hg).at2 hl2
        cases hA2
        have hnx := Lib.hid (show ((l[k + 1]?).map (·.1)).getD 1099511627776 = x2 by rw [hx2]; rfl)
        have hlt2 : x1 < x2 := HA.out k (k + 1) _ _ (by omega) X1.out hx2
        clear hx2
        by_cases hge : v ≤ y1
        · have hgeb : decide (y1 < v) = false := by simp; omega
          have hst0 := Lib.hid (show atK l v (k + 1) = joinP (atK l v k) (x1, x2) by rw [hstep.out, hnx.out]; unfold atStep; rw [if_pos hge])
          have hown1 := hown.alloc (.cells #[.int .i64 x1, .int .i64 y1] 48)
          have hmm := Lib.hid hown.len
          by_cases hm0 : m' = 0
          · subst hm0
            have hnl := Lib.hid (List.eq_nil_of_length_eq_zero hmm.out)
            have hst := Lib.hid (show atK l v (k + 1) = atK l v k ++ [(x1, x2)] by rw [hst0.out, hnl.out]; rfl)
            go_wp2_with fail
            go_quiet (fail)
            go_wp2_with (at_builtin; refine appAtPeriod rfl (.tmp 53) (.tmp 58) rfl w.heap.size _ (atK l v k) rfl (((hown.alloc _).drewN _).alloc _) (wr.heap.size + 1) 1 1 [(x1, x2)] rfl rfl (heap_at _ _ _ (by simp)) rfl (by rw [hmm.out]; omega) (by simp; omega) ?_; intro A2 m2 c2 w2 hown2 hgr2)
            have hB : Below w.heap.size w w2 := (((hg.out.alloc hs _).trans (below_drewN _ _ _)).alloc (by simp; omega) _).trans ((((hown.alloc _).drewN _).alloc _).grown (by simp; omega) hgr2)
            rw [← hst.out] at hown2
            have hm2 : m2 ≤ k + 1 := by have h1 := hown2.len; have h2 := atK_len l v (k + 1); omega
            go_roundw
            case rel => exact ⟨k + 1, _, _, _, by omega, by go_num, rfl, hm2, hown2, hB⟩
            case measure => simp [intOf]; omega
          · have hm0b : decide (0 < m') = true := by simp; omega
            have hm0p : 0 < m' := by omega
            have hm1 : (1 : Int) ≤ (m' : Int) := by omega
            obtain ⟨g, hA3, hg3, hg3', hfr⟩ := hown.at (by omega)
            cases hA3
            obtain ⟨b3, o3, x3, y3, hA4, hb3, hx3, f1, f2⟩ := (hown.rds e2_len).at2 (i := m' - 1) (by omega)
            injection hA4 with hA4
            injection hA4 with hA5 hA6
            subst hA5 hA6
            simp only [Nat.zero_add] at f1 f2
            have hfr1 := hfr ((m' - 1) * 2 + 1)
            have hlast := getLast?_of (by rw [hmm.out]; exact hx3)
            have hle : y3 ≤ x1 := atK_le HA.out v k x1 y1 X1.out (x3, y3) (List.mem_of_getLast? hlast)
            have hjq := joinP_eq (t := x2) hlast hle hlt2
            rw [hmm.out] at hjq
            have X3 := Lib.hid hx3
            clear hx3 hlast hfr
            by_cases hxe : y3 = x1
            · have hxb : (y3 == x1) = true := by simpa using hxe
              rw [if_pos hxe] at hjq
              have hst := Lib.hid (hst0.out.trans hjq)
              clear hjq hxe hle
              go_wp2_with fail
              go_quiet (fail)
              go_wp2_with fail
              have hown2 := ((hown.alloc (.cells #[.int .i64 x1, .int .i64 y1] 48)).drewN nq).stored (i := m' - 1) (j := 1) (u := .int .i64 x2) (x' := (x3, x2)) e2_len (by omega) X3.out rfl
              rw [← hst.out] at hown2
              go_roundw
              case rel => exact ⟨k + 1, _, _, _, by omega, by go_num, rfl, by omega, hown2, ((hg.out.alloc hs _).trans (below_drewN _ _ _)).trans (below_set hg3)⟩
              case measure => simp [intOf]; omega
            · have hxb : (y3 == x1) = false := by simpa using hxe
              rw [if_neg hxe] at hjq
              have hst := Lib.hid (hst0.out.trans hjq)
              clear hjq hxe hle
              go_wp2_with fail
              go_quiet (fail)
              go_wp2_with (at_builtin; refine appAtPeriod rfl (.tmp 53) (.tmp 58) rfl w.heap.size _ (atK l v k) rfl (((hown.alloc _).drewN _).alloc _) (wr.heap.size + 1) 1 1 [(x1, x2)] rfl rfl (heap_at _ _ _ (by simp)) rfl (by rw [hmm.out]; omega) (by simp; omega) ?_; intro A2 m2 c2 w2 hown2 hgr2)
              have hB : Below w.heap.size w w2 := (((hg.out.alloc hs _).trans (below_drewN _ _ _)).alloc (by simp; omega) _).trans ((((hown.alloc _).drewN _).alloc _).grown (by simp; omega) hgr2)
              rw [← hst.out] at hown2
              have hm2 : m2 ≤ k + 1 := by have h1 := hown2.len; have h2 := atK_len l v (k + 1); omega
              go_roundw
              case rel => exact ⟨k + 1, _, _, _, by omega, by go_num, rfl, hm2, hown2, hB⟩
              case measure => simp [intOf]; omega
        · have hgeb : decide (y1 < v) = true := by simp; omega
          have hst := Lib.hid (show atK l v (k + 1) = atK l v k by rw [hstep.out]; unfold atStep; rw [if_neg hge])
          rw [← hst.out] at hown
          go_wp2_with fail
          go_roundw
          case rel => exact ⟨k + 1, _, _, _, by omega, by go_num, rfl, by omega, hown.alloc _, hg.allocR _⟩
          case measure => simp [intOf]; omega
      · have hnx := Lib.hid (show ((l[k + 1]?).map (·.1)).getD 1099511627776 = 1099511627776 by rw [List.getElem?_eq_none (by rw [hlen.out]; omega)]; rfl)
        have hlt2 : x1 < 1099511627776 := HF.out (x1, y1) (List.mem_of_getElem? X1.out)
        by_cases hge : v ≤ y1
        · have hgeb : decide (y1 < v) = false := by simp; omega
          have hst0 := Lib.hid (show atK l v (k + 1) = joinP (atK l v k) (x1, 1099511627776) by rw [hstep.out, hnx.out]; unfold atStep; rw [if_pos hge])
          have hown1 := hown.alloc (.cells #[.int .i64 x1, .int .i64 y1] 48)
          have hmm := Lib.hid hown.len
          by_cases hm0 : m' = 0
          · subst hm0
            have hnl := Lib.hid (List.eq_nil_of_length_eq_zero hmm.out)
            have hst := Lib.hid (show atK l v (k + 1) = atK l v k ++ [(x1, 1099511627776)] by rw [hst0.out, hnl.out]; rfl)
            go_wp2_with fail
            go_quiet (fail)
            go_wp2_with (at_builtin; refine appAtPeriod rfl (.tmp 53) (.tmp 58) rfl w.heap.size _ (atK l v k) rfl (((hown.alloc _).drewN _).alloc _) (wr.heap.size + 1) 1 1 [(x1, 1099511627776)] rfl rfl (heap_at _ _ _ (by simp)) rfl (by rw [hmm.out]; omega) (by simp; omega) ?_; intro A2 m2 c2 w2 hown2 hgr2)
            have hB : Below w.heap.size w w2 := (((hg.out.alloc hs _).trans (below_drewN _ _ _)).alloc (by simp; omega) _).trans ((((hown.alloc _).drewN _).alloc _).grown (by simp; omega) hgr2)
            rw [← hst.out] at hown2
            have hm2 : m2 ≤ k + 1 := by have h1 := hown2.len; have h2 := atK_len l v (k + 1); omega
            go_roundw
            case rel => exact ⟨k + 1, _, _, _, by omega, by go_num, rfl, hm2, hown2, hB⟩
            case measure => simp [intOf]; omega
          · have hm0b : decide (0 < m') = true := by simp; omega
            have hm0p : 0 < m' := by omega
            have hm1 : (1 : Int) ≤ (m' : Int) := by omega
            obtain ⟨g, hA3, hg3, hg3', hfr⟩ := hown.at (by omega)
            cases hA3
            obtain ⟨b3, o3, x3, y3, hA4, hb3, hx3, f1, f2⟩ := (hown.rds e2_len).at2 (i := m' - 1) (by omega)
            injection hA4 with hA4
            injection hA4 with hA5 hA6
            subst hA5 hA6
            simp only [Nat.zero_add] at f1 f2
            have hfr1 := hfr ((m' - 1) * 2 + 1)
            have hlast := getLast?_of (by rw [hmm.out]; exact hx3)
            have hle : y3 ≤ x1 := atK_le HA.out v k x1 y1 X1.out (x3, y3) (List.mem_of_getLast? hlast)
            have hjq := joinP_eq (t := 1099511627776) hlast hle hlt2
            rw [hmm.out] at hjq
            have X3 := Lib.hid hx3
            clear hx3 hlast hfr
            by_cases hxe : y3 = x1
            · have hxb : (y3 == x1) = true := by simpa using hxe
              rw [if_pos hxe] at hjq
              have hst := Lib.hid (hst0.out.trans hjq)
              clear hjq hxe hle
              go_wp2_with fail
              go_quiet (fail)
              go_wp2_with fail
              have hown2 := ((hown.alloc (.cells #[.int .i64 x1, .int .i64 y1] 48)).drewN nq).stored (i := m' - 1) (j := 1) (u := .int .i64 1099511627776) (x' := (x3, 1099511627776)) e2_len (by omega) X3.out rfl
              rw [← hst.out] at hown2
              go_roundw
              case rel => exact ⟨k + 1, _, _, _, by omega, by go_num, rfl, by omega, hown2, ((hg.out.alloc hs _).trans (below_drewN _ _ _)).trans (below_set hg3)⟩
              case measure => simp [intOf]; omega
            · have hxb : (y3 == x1) = false := by simpa using hxe
              rw [if_neg hxe] at hjq
              have hst := Lib.hid (hst0.out.trans hjq)
              clear hjq hxe hle
              go_wp2_with fail
              go_quiet (fail)
              go_wp2_with (at_builtin; refine appAtPeriod rfl (.tmp 53) (.tmp 58) rfl w.heap.size _ (atK l v k) rfl (((hown.alloc _).drewN _).alloc _) (wr.heap.size + 1) 1 1 [(x1, 1099511627776)] rfl rfl (heap_at _ _ _ (by simp)) rfl (by rw [hmm.out]; omega) (by simp; omega) ?_; intro A2 m2 c2 w2 hown2 hgr2)
              have hB : Below w.heap.size w w2 := (((hg.out.alloc hs _).trans (below_drewN _ _ _)).alloc (by simp; omega) _).trans ((((hown.alloc _).drewN _).alloc _).grown (by simp; omega) hgr2)
              rw [← hst.out] at hown2
              have hm2 : m2 ≤ k + 1 := by have h1 := hown2.len; have h2 := atK_len l v (k + 1); omega
              go_roundw
              case rel => exact ⟨k + 1, _, _, _, by omega, by go_num, rfl, hm2, hown2, hB⟩
              case measure => simp [intOf]; omega
        · have hgeb : decide (y1 < v) = true := by simp; omega
          have hst := Lib.hid (show atK l v (k + 1) = atK l v k by rw [hstep.out]; unfold atStep; rw [if_neg hge])
          rw [← hst.out] at hown
          go_wp2_with fail
          go_roundw
          case rel => exact ⟨k + 1, _, _, _, by omega, by go_num, rfl, by omega, hown.alloc _, hg.allocR _⟩
          case measure => simp [intOf]; omega
    · rw [atK_all l v (by rw [hlen.out]; omega)] at hown
      go_wp2_with fail
      go_ret
      exact ⟨_, _, _, rfl, hown, hg⟩

end Go.Proofs.Ytllenmkmompjpaa
