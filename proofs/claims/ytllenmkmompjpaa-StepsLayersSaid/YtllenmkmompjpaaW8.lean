/- The walk of merge (the places of two lists of steps in ascending order, each once). Condition: at most 1000000 steps each, in ascending order. -/
import Derived.Test.YtllenmkmompjpaaW7
namespace Go.Proofs.Ytllenmkmompjpaa
open Go.RowKit

set_option maxHeartbeats 400000 in
theorem from_any (x y : Int) (w : World) :
    Calls Try.prog 71 #[.agg #[.int .i64 x, .int .i64 y]] w fun e w' => e = .returned (.int .i64 x) ∧ Gr w w' := by
  go_enter Try.func71, Try.ntmps71
  go_wp2
  all_goals
    go_ret
    refine ⟨rfl, ?_⟩
    first | exact Gr.refl _ | (repeat (first | exact Gr.refl _ | assumption | exact Gr.alloc _ _ | refine Gr.allocR ?_ _ | refine Gr.drewNR ?_ _ | refine Gr.drewR ?_ | refine Gr.trans ?_ (by assumption)))

/-- Strictly ascending. -/
def SAsc (l : List Int) : Prop := ∀ (i j : Nat) (x y : Int), i < j → l[i]? = some x → l[j]? = some y → x < y
/-- P holds the places of the first i steps of a and the first k of b; the others are not less. -/
def Merged (a b P : List (Int)) (i k : Nat) : Prop := SAsc P ∧ (∀ x, x ∈ P ↔ x ∈ a.take i ∨ x ∈ b.take k) ∧ (∀ x ∈ P, ∀ (q : Nat) y, i ≤ q → a[q]? = some y → x ≤ y) ∧ (∀ x ∈ P, ∀ (q : Nat) y, k ≤ q → b[q]? = some y → x ≤ y)
def putI (l : List Int) (x : Int) : List Int := if l.getLast? = some x then l else l ++ [x]
theorem SAsc.snoc {l : List Int} {x : Int} (h : SAsc l) (hx : ∀ y ∈ l, y < x) : SAsc (l ++ [x]) := by
  intro i j u v hij hu hv
  have hj := (List.getElem?_eq_some_iff.1 hv).1
  simp at hj
  rw [List.getElem?_append_left (by omega)] at hu
  by_cases e : j = l.length
  · subst e
    rw [List.getElem?_append_right (by omega)] at hv
    simp at hv
    subst hv
    exact hx u (List.mem_of_getElem? hu)
  · rw [List.getElem?_append_left (by omega)] at hv
    exact h i j u v hij hu hv
theorem SAsc.le_last {l : List Int} {z : Int} (h : SAsc l) (hz : l.getLast? = some z) : ∀ y ∈ l, y ≤ z := by
  intro y hy
  obtain ⟨i, hi, e⟩ := List.mem_iff_getElem.1 hy
  rw [List.getLast?_eq_getElem?] at hz
  have hyi : l[i]? = some y := by rw [List.getElem?_eq_getElem hi, e]
  by_cases e2 : i = l.length - 1
  · subst e2; rw [hyi] at hz; cases hz; omega
  · have := h i (l.length - 1) y z (by omega) hyi hz; omega
/-- The next place, not less than any so far. -/
theorem putI_asc {l : List Int} {x : Int} (h : SAsc l) (hx : ∀ y ∈ l, y ≤ x) : SAsc (putI l x) ∧ (∀ y, y ∈ putI l x ↔ y ∈ l ∨ y = x) := by
  unfold putI
  by_cases e : l.getLast? = some x
  · rw [if_pos e]
    refine ⟨h, fun y => ⟨.inl, fun hy => ?_⟩⟩
    rcases hy with hy | rfl
    · exact hy
    · exact List.mem_of_getLast? e
  · rw [if_neg e]
    refine ⟨h.snoc fun y hy => ?_, fun y => by simp⟩
    have h1 := hx y hy
    by_cases e2 : y = x
    · exfalso
      subst e2
      cases hl : l.getLast? with
      | none => rw [List.getLast?_eq_none_iff] at hl; subst hl; simp at hy
      | some z =>
        have h2 := h.le_last hl y hy
        have h3 := hx z (List.mem_of_getLast? hl)
        have : z = y := by omega
        subst this
        exact e hl
    · omega
theorem mem_take_succ {l : List Int} {i : Nat} {x y : Int} (hx : l[i]? = some x) : y ∈ l.take (i + 1) ↔ y ∈ l.take i ∨ y = x := by
  rw [List.take_add_one, hx]; simp
theorem Merged.left {a b P : List Int} {i k : Nat} {x : Int} (h : Merged a b P i k) (ha : SAsc a) (hx : a[i]? = some x) (hb : ∀ (q : Nat) y, k ≤ q → b[q]? = some y → x ≤ y) : Merged a b (putI P x) (i + 1) k := by
  obtain ⟨h1, h2, h3, h4⟩ := h
  obtain ⟨g1, g2⟩ := putI_asc h1 fun y hy => h3 y hy i x (Nat.le_refl _) hx
  refine ⟨g1, fun y => ?_, fun y hy q z hq hz => ?_, fun y hy q z hq hz => ?_⟩
  · rw [g2, h2, mem_take_succ hx]
    grind
  · rcases (g2 y).1 hy with u | u
    · exact h3 y u q z (by omega) hz
    · subst u; have := ha i q y z (by omega) hx hz; omega
  · rcases (g2 y).1 hy with u | u
    · exact h4 y u q z hq hz
    · subst u; exact hb q z hq hz
theorem Merged.right {a b P : List Int} {i k : Nat} {x : Int} (h : Merged a b P i k) (hb : SAsc b) (hx : b[k]? = some x) (ha : ∀ (q : Nat) y, i ≤ q → a[q]? = some y → x ≤ y) : Merged a b (putI P x) i (k + 1) := by
  obtain ⟨h1, h2, h3, h4⟩ := h
  obtain ⟨g1, g2, g3, g4⟩ := Merged.left (a := b) (b := a) ⟨h1, fun y => (h2 y).trans Or.comm, h4, h3⟩ hb hx ha
  exact ⟨g1, fun y => (g2 y).trans Or.comm, g4, g3⟩
theorem SAsc.from {l : List Int} (h : SAsc l) {i : Nat} {x z : Int} (hx : l[i]? = some x) (hz : z ≤ x) : ∀ (q : Nat) y, i ≤ q → l[q]? = some y → z ≤ y := by
  intro q y hq hy
  by_cases e : q = i
  · subst e; rw [hx] at hy; cases hy; exact hz
  · have := h i q x y (by omega) hx hy; omega
theorem Asc.map {l : List (Int × Int)} (h : Asc l) : SAsc (l.map (·.1)) := by
  intro i j x y hij hx hy
  simp at hx hy
  obtain ⟨u, hu⟩ := hx
  obtain ⟨v, hv⟩ := hy
  exact h i j _ _ hij hu hv

set_option maxHeartbeats 4000000 in
theorem merge_any (A B : Option Addr) (n m ca cb : Nat) (a b : List (Int × Int)) (w : World) (ha : Rd e2 2 w w.heap.size A n a) (hb : Rd e2 2 w w.heap.size B m b) (hn : n ≤ 1000000) (hm : m ≤ 1000000) (hsa : Asc a) (hsb : Asc b) :
    Calls Try.prog 70 #[.slice A n ca, .slice B m cb, .func (.func 71) #[] #[], .func (.func 71) #[] #[]] w fun e w' => ∃ A' m' c', e = .returned (.slice A' m' c') ∧ ∃ P, Own e1 1 3 w' w.heap.size (.slice A' m' c') P ∧ Hid (Merged (a.map (·.1)) (b.map (·.1)) P n m) ∧ P.length ≤ n + m ∧ Gr w w' := by
  have hla := Lib.hid ha.1
  have hlb := Lib.hid hb.1
  have HA := Lib.hid hsa.map
  have HB := Lib.hid hsb.map
  clear hsa hsb
  go_enter Try.func70, Try.ntmps70
  go_wp2_with fail
  go_loopw [9, 10, 11] (fun v i j wr => ∃ (k1 k2 : Nat) (A' : Option Addr) (m' c' : Nat) (P : List Int), k1 ≤ n ∧ k2 ≤ m ∧ i = .int .i64 k1 ∧ j = .int .i64 k2 ∧ v = .slice A' m' c' ∧ m' ≤ k1 + k2 ∧ Own e1 1 3 wr w.heap.size (.slice A' m' c') P ∧ Hid (Merged (a.map (·.1)) (b.map (·.1)) P k1 k2) ∧ Gr w wr) (fun _ i j _ => n + m - ((intOf i).toNat + (intOf j).toNat))
  case atStart => exact ⟨0, 0, none, 0, 0, [], Nat.zero_le _, Nat.zero_le _, rfl, rfl, rfl, Nat.zero_le _, Own.nil _ _, ⟨fun i j x y _ h => by simp at h, by simp, by simp, by simp⟩, Gr.refl _⟩
  case round =>
    obtain ⟨k1, k2, A', m', c', P, hk1, hk2, rfl, rfl, rfl, hm', hown, HM, hg⟩ := hrel
    by_cases h1 : k1 < n
    · obtain ⟨b1, o1, x1, y1, rfl, hb1, hx1, c1, c2⟩ := (ha.gr hg).at2 h1
      have X1 := Lib.hid (show (a.map (·.1))[k1]? = some x1 by simp [hx1])
      clear hx1 ha
      by_cases h2 : k2 < m
      · obtain ⟨b2, o2, x2, y2, rfl, hb2, hx2, c3, c4⟩ := (hb.gr hg).at2 h2
        have X2 := Lib.hid (show (b.map (·.1))[k2]? = some x2 by simp [hx2])
        clear hx2 hb
        have hkm : ((k2 : Int) == (m : Int)) = false := by simp; omega
        have hk1b : decide ((k1 : Int) < (n : Int)) = true := by simp; omega
        by_cases hle : x1 ≤ x2
        · have hleb : decide (x1 ≤ x2) = true := by simpa using hle
          have HN := Lib.hid (HM.out.left HA.out X1.out (HB.out.from X2.out hle))
          go_wp2_with fail
          go_region_held3 (fun w' => Gr wr w' ∧ w'.cell? ⟨b1, o1 + k1 * 2, none⟩ = some (.int .i64 x1) ∧ w'.cell? ⟨b1, o1 + k1 * 2 + 1, none⟩ = some (.int .i64 y1) ∧ w'.cell? ⟨b2, o2 + k2 * 2, none⟩ = some (.int .i64 x2) ∧ w'.cell? ⟨b2, o2 + k2 * 2 + 1, none⟩ = some (.int .i64 y2))
            (first | (refine ⟨(Gr.refl _).drewR, ?_, ?_, ?_, ?_⟩ <;> assumption) | (go_split_ands; refine ⟨Gr.trans (by assumption) hg1, ?_, ?_, ?_, ?_⟩; all_goals (refine (hc _ _ ?_).trans (by assumption); first | exact Nat.lt_of_lt_of_le hb1 (Gr.size (by assumption)) | exact Nat.lt_of_lt_of_le hb2 (Gr.size (by assumption)))) | go_keep)
            (first | (go_at_call 71; refine (from_any _ _ _).mono ?_; rintro e w' ⟨rfl, hg1⟩; obtain ⟨hc, hf⟩ := hg1.cells))
          rename_i hH
          obtain ⟨hgH, d1, d2, d3, d4⟩ := hH
          clear hc hf
          go_wp2_with fail
          refine (from_any _ _ _).mono ?_
          rintro e W ⟨rfl, hgW⟩
          have hG : Gr wr W := hgH.trans hgW
          have hG0 : Gr w W := hg.trans hG
          have howW := hown.gr hG
          have hs := hG0.size
          have hmP := Lib.hid howW.len
          by_cases hz : m' = 0
          · subst hz
            have hP := Lib.hid (List.eq_nil_of_length_eq_zero hmP.out)
            have hput := Lib.hid (show P ++ [x1] = putI P x1 by rw [hP.out]; rfl)
            go_wp2_with (at_builtin; refine appInt rfl (.tmp 78) (.tmp 80) rfl w.heap.size _ P rfl howW [x1] 1 rfl rfl (by rw [hP.out]; simp) hs ?_; intro A2 m2 c2 w2 hown2 hbel2)
            have hm2 : m2 ≤ 1 := by have := hown2.len; rw [hP.out] at this; simp at this; omega
            go_roundw
            case rel => exact ⟨k1 + 1, k2, _, _, _, putI P x1, by omega, by omega, by go_num, by go_num, rfl, by omega, (by rw [hput.out] at hown2; exact hown2), HN.out, hG0.out.trans hbel2⟩
            case measure => simp [intOf]; omega
          · have hzb : ((m' : Int) == 0) = false := by simp; omega
            obtain ⟨b3, o3, z3, hA3, hb3, hz3, e1⟩ := (howW.rds e1_len).at1 (i := m' - 1) (by omega)
            cases hA3
            have hlast := Lib.hid (getLast?_of (by rw [hmP.out]; exact hz3))
            clear hz3
            by_cases hl : z3 = x1
            · have hlb : (z3 != x1) = false := by simpa using hl
              have hput := Lib.hid (show P = putI P x1 by unfold putI; rw [if_pos (by rw [hlast.out, hl])])
              clear hl
              go_wp2_with fail
              go_roundw
              case rel => exact ⟨k1 + 1, k2, _, _, _, putI P x1, by omega, by omega, by go_num, by go_num, rfl, by omega, (by rw [hput.out] at howW; exact howW), HN.out, hG0⟩
              case measure => simp [intOf]; omega
            · have hlb : (z3 != x1) = true := by simpa using hl
              have hput := Lib.hid (show P ++ [x1] = putI P x1 by unfold putI; rw [if_neg (by rw [hlast.out]; simpa using hl)])
              clear hl
              go_wp2_with (at_builtin; refine appInt rfl (.tmp 78) (.tmp 80) rfl w.heap.size _ P rfl howW [x1] 1 rfl rfl (by rw [hmP.out]; simp; omega) hs ?_; intro A2 m2 c2 w2 hown2 hbel2)
              have hm2 : m2 ≤ m' + 1 := by have := hown2.len; simp at this; have := hmP.out; omega
              go_roundw
              case rel => exact ⟨k1 + 1, k2, _, _, _, putI P x1, by omega, by omega, by go_num, by go_num, rfl, by omega, (by rw [hput.out] at hown2; exact hown2), HN.out, hG0.out.trans hbel2⟩
              case measure => simp [intOf]; omega
        · have hleb : decide (x1 ≤ x2) = false := by simpa using hle
          have HN := Lib.hid (HM.out.right HB.out X2.out (HA.out.from X1.out (by omega)))
          go_wp2_with fail
          go_region_held3 (fun w' => Gr wr w' ∧ w'.cell? ⟨b1, o1 + k1 * 2, none⟩ = some (.int .i64 x1) ∧ w'.cell? ⟨b1, o1 + k1 * 2 + 1, none⟩ = some (.int .i64 y1) ∧ w'.cell? ⟨b2, o2 + k2 * 2, none⟩ = some (.int .i64 x2) ∧ w'.cell? ⟨b2, o2 + k2 * 2 + 1, none⟩ = some (.int .i64 y2))
            (first | (refine ⟨(Gr.refl _).drewR, ?_, ?_, ?_, ?_⟩ <;> assumption) | (go_split_ands; refine ⟨Gr.trans (by assumption) hg1, ?_, ?_, ?_, ?_⟩; all_goals (refine (hc _ _ ?_).trans (by assumption); first | exact Nat.lt_of_lt_of_le hb1 (Gr.size (by assumption)) | exact Nat.lt_of_lt_of_le hb2 (Gr.size (by assumption)))) | go_keep)
            (first | (go_at_call 71; refine (from_any _ _ _).mono ?_; rintro e w' ⟨rfl, hg1⟩; obtain ⟨hc, hf⟩ := hg1.cells))
          rename_i hH
          obtain ⟨hgH, d1, d2, d3, d4⟩ := hH
          clear hc hf
          go_wp2_with fail
          refine (from_any _ _ _).mono ?_
          rintro e W ⟨rfl, hgW⟩
          have hG : Gr wr W := hgH.trans hgW
          have hG0 : Gr w W := hg.trans hG
          have howW := hown.gr hG
          have hs := hG0.size
          have hmP := Lib.hid howW.len
          by_cases hz : m' = 0
          · subst hz
            have hP := Lib.hid (List.eq_nil_of_length_eq_zero hmP.out)
            have hput := Lib.hid (show P ++ [x2] = putI P x2 by rw [hP.out]; rfl)
            go_wp2_with (at_builtin; refine appInt rfl (.tmp 78) (.tmp 80) rfl w.heap.size _ P rfl howW [x2] 1 rfl rfl (by rw [hP.out]; simp) hs ?_; intro A2 m2 c2 w2 hown2 hbel2)
            have hm2 : m2 ≤ 1 := by have := hown2.len; rw [hP.out] at this; simp at this; omega
            go_roundw
            case rel => exact ⟨k1, k2 + 1, _, _, _, putI P x2, by omega, by omega, by go_num, by go_num, rfl, by omega, (by rw [hput.out] at hown2; exact hown2), HN.out, hG0.out.trans hbel2⟩
            case measure => simp [intOf]; omega
          · have hzb : ((m' : Int) == 0) = false := by simp; omega
            obtain ⟨b3, o3, z3, hA3, hb3, hz3, e1⟩ := (howW.rds e1_len).at1 (i := m' - 1) (by omega)
            cases hA3
            have hlast := Lib.hid (getLast?_of (by rw [hmP.out]; exact hz3))
            clear hz3
            by_cases hl : z3 = x2
            · have hlb : (z3 != x2) = false := by simpa using hl
              have hput := Lib.hid (show P = putI P x2 by unfold putI; rw [if_pos (by rw [hlast.out, hl])])
              clear hl
              go_wp2_with fail
              go_roundw
              case rel => exact ⟨k1, k2 + 1, _, _, _, putI P x2, by omega, by omega, by go_num, by go_num, rfl, by omega, (by rw [hput.out] at howW; exact howW), HN.out, hG0⟩
              case measure => simp [intOf]; omega
            · have hlb : (z3 != x2) = true := by simpa using hl
              have hput := Lib.hid (show P ++ [x2] = putI P x2 by unfold putI; rw [if_neg (by rw [hlast.out]; simpa using hl)])
              clear hl
              go_wp2_with (at_builtin; refine appInt rfl (.tmp 78) (.tmp 80) rfl w.heap.size _ P rfl howW [x2] 1 rfl rfl (by rw [hmP.out]; simp; omega) hs ?_; intro A2 m2 c2 w2 hown2 hbel2)
              have hm2 : m2 ≤ m' + 1 := by have := hown2.len; simp at this; have := hmP.out; omega
              go_roundw
              case rel => exact ⟨k1, k2 + 1, _, _, _, putI P x2, by omega, by omega, by go_num, by go_num, rfl, by omega, (by rw [hput.out] at hown2; exact hown2), HN.out, hG0.out.trans hbel2⟩
              case measure => simp [intOf]; omega
      · have hkm : ((k2 : Int) == (m : Int)) = true := by simp; omega
        have HN := Lib.hid (HM.out.left HA.out X1.out fun q y hq hy => absurd (List.getElem?_eq_some_iff.1 hy).1 (by simp [hlb.out]; omega))
        go_wp2_with fail
        go_quiet (fail)
        go_wp2_with fail
        refine (from_any _ _ _).mono ?_
        rintro e W ⟨rfl, hgW⟩
        have hG : Gr wr W := ((Gr.refl _).drewNR _).trans hgW
        have hG0 : Gr w W := hg.trans hG
        have howW := hown.gr hG
        have hs := hG0.size
        have hmP := Lib.hid howW.len
        by_cases hz : m' = 0
        · subst hz
          have hP := Lib.hid (List.eq_nil_of_length_eq_zero hmP.out)
          have hput := Lib.hid (show P ++ [x1] = putI P x1 by rw [hP.out]; rfl)
          go_wp2_with (at_builtin; refine appInt rfl (.tmp 78) (.tmp 80) rfl w.heap.size _ P rfl howW [x1] 1 rfl rfl (by rw [hP.out]; simp) hs ?_; intro A2 m2 c2 w2 hown2 hbel2)
          have hm2 : m2 ≤ 1 := by have := hown2.len; rw [hP.out] at this; simp at this; omega
          go_roundw
          case rel => exact ⟨k1 + 1, k2, _, _, _, putI P x1, by omega, by omega, by go_num, by go_num, rfl, by omega, (by rw [hput.out] at hown2; exact hown2), HN.out, hG0.out.trans hbel2⟩
          case measure => simp [intOf]; omega
        · have hzb : ((m' : Int) == 0) = false := by simp; omega
          obtain ⟨b3, o3, z3, hA3, hb3, hz3, e1⟩ := (howW.rds e1_len).at1 (i := m' - 1) (by omega)
          cases hA3
          have hlast := Lib.hid (getLast?_of (by rw [hmP.out]; exact hz3))
          clear hz3
          by_cases hl : z3 = x1
          · have hlb : (z3 != x1) = false := by simpa using hl
            have hput := Lib.hid (show P = putI P x1 by unfold putI; rw [if_pos (by rw [hlast.out, hl])])
            clear hl
            go_wp2_with fail
            go_roundw
            case rel => exact ⟨k1 + 1, k2, _, _, _, putI P x1, by omega, by omega, by go_num, by go_num, rfl, by omega, (by rw [hput.out] at howW; exact howW), HN.out, hG0⟩
            case measure => simp [intOf]; omega
          · have hlb : (z3 != x1) = true := by simpa using hl
            have hput := Lib.hid (show P ++ [x1] = putI P x1 by unfold putI; rw [if_neg (by rw [hlast.out]; simpa using hl)])
            clear hl
            go_wp2_with (at_builtin; refine appInt rfl (.tmp 78) (.tmp 80) rfl w.heap.size _ P rfl howW [x1] 1 rfl rfl (by rw [hmP.out]; simp; omega) hs ?_; intro A2 m2 c2 w2 hown2 hbel2)
            have hm2 : m2 ≤ m' + 1 := by have := hown2.len; simp at this; have := hmP.out; omega
            go_roundw
            case rel => exact ⟨k1 + 1, k2, _, _, _, putI P x1, by omega, by omega, by go_num, by go_num, rfl, by omega, (by rw [hput.out] at hown2; exact hown2), HN.out, hG0.out.trans hbel2⟩
            case measure => simp [intOf]; omega
    · have hk1b : decide ((k1 : Int) < (n : Int)) = false := by simp; omega
      by_cases h2 : k2 < m
      · obtain ⟨b2, o2, x2, y2, rfl, hb2, hx2, c3, c4⟩ := (hb.gr hg).at2 h2
        have X2 := Lib.hid (show (b.map (·.1))[k2]? = some x2 by simp [hx2])
        clear hx2 hb
        have hkm : ((k2 : Int) == (m : Int)) = false := by simp; omega
        have HN := Lib.hid (HM.out.right HB.out X2.out fun q y hq hy => absurd (List.getElem?_eq_some_iff.1 hy).1 (by simp [hla.out]; omega))
        go_wp2_with fail
        go_quiet (fail)
        go_wp2_with fail
        refine (from_any _ _ _).mono ?_
        rintro e W ⟨rfl, hgW⟩
        have hG : Gr wr W := ((Gr.refl _).drewNR _).trans hgW
        have hG0 : Gr w W := hg.trans hG
        have howW := hown.gr hG
        have hs := hG0.size
        have hmP := Lib.hid howW.len
        by_cases hz : m' = 0
        · subst hz
          have hP := Lib.hid (List.eq_nil_of_length_eq_zero hmP.out)
          have hput := Lib.hid (show P ++ [x2] = putI P x2 by rw [hP.out]; rfl)
          go_wp2_with (at_builtin; refine appInt rfl (.tmp 78) (.tmp 80) rfl w.heap.size _ P rfl howW [x2] 1 rfl rfl (by rw [hP.out]; simp) hs ?_; intro A2 m2 c2 w2 hown2 hbel2)
          have hm2 : m2 ≤ 1 := by have := hown2.len; rw [hP.out] at this; simp at this; omega
          go_roundw
          case rel => exact ⟨k1, k2 + 1, _, _, _, putI P x2, by omega, by omega, by go_num, by go_num, rfl, by omega, (by rw [hput.out] at hown2; exact hown2), HN.out, hG0.out.trans hbel2⟩
          case measure => simp [intOf]; omega
        · have hzb : ((m' : Int) == 0) = false := by simp; omega
          obtain ⟨b3, o3, z3, hA3, hb3, hz3, e1⟩ := (howW.rds e1_len).at1 (i := m' - 1) (by omega)
          cases hA3
          have hlast := Lib.hid (getLast?_of (by rw [hmP.out]; exact hz3))
          clear hz3
          by_cases hl : z3 = x2
          · have hlb : (z3 != x2) = false := by simpa using hl
            have hput := Lib.hid (show P = putI P x2 by unfold putI; rw [if_pos (by rw [hlast.out, hl])])
            clear hl
            go_wp2_with fail
            go_roundw
            case rel => exact ⟨k1, k2 + 1, _, _, _, putI P x2, by omega, by omega, by go_num, by go_num, rfl, by omega, (by rw [hput.out] at howW; exact howW), HN.out, hG0⟩
            case measure => simp [intOf]; omega
          · have hlb : (z3 != x2) = true := by simpa using hl
            have hput := Lib.hid (show P ++ [x2] = putI P x2 by unfold putI; rw [if_neg (by rw [hlast.out]; simpa using hl)])
            clear hl
            go_wp2_with (at_builtin; refine appInt rfl (.tmp 78) (.tmp 80) rfl w.heap.size _ P rfl howW [x2] 1 rfl rfl (by rw [hmP.out]; simp; omega) hs ?_; intro A2 m2 c2 w2 hown2 hbel2)
            have hm2 : m2 ≤ m' + 1 := by have := hown2.len; simp at this; have := hmP.out; omega
            go_roundw
            case rel => exact ⟨k1, k2 + 1, _, _, _, putI P x2, by omega, by omega, by go_num, by go_num, rfl, by omega, (by rw [hput.out] at hown2; exact hown2), HN.out, hG0.out.trans hbel2⟩
            case measure => simp [intOf]; omega
      · have e1 : k1 = n := by omega
        have e2 : k2 = m := by omega
        have E1 := Lib.hid e1
        have E2 := Lib.hid e2
        clear e1 e2
        go_wp2_with fail
        go_ret
        exact ⟨_, _, _, rfl, P, hown, by rw [← E1.out, ← E2.out]; exact HM, by have := hown.len; omega, hg⟩

end Go.Proofs.Ytllenmkmompjpaa
