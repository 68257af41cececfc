/- The walks of the binary search over steps, of find and of At. Condition: at most 1000000 steps, in ascending order. -/
import Derived.Test.YtllenmkmompjpaaW6
namespace Go.Proofs.Ytllenmkmompjpaa
open Go.RowKit

def cmpI (a b : Int) : Int := if a < b then -1 else if b < a then 1 else 0

set_option maxHeartbeats 400000 in
theorem cmp_any (a b : Int) (w : World) :
    Calls Try.prog 54 #[.int .i64 a, .int .i64 b] w fun e w' => e = .returned (.int .i64 (cmpI a b)) ∧ Gr w w' := by
  go_enter Try.func54, Try.ntmps54
  go_wp2
  all_goals
    go_ret
    refine ⟨ret_int (by unfold cmpI; (repeat' split) <;> first | rfl | omega), ?_⟩
    first | exact Gr.refl _ | (repeat (first | exact Gr.refl _ | assumption | exact Gr.alloc _ _ | refine Gr.allocR ?_ _ | refine Gr.drewNR ?_ _ | refine Gr.drewR ?_ | refine Gr.trans ?_ (by assumption)))

set_option maxHeartbeats 400000 in
theorem find1_any (x y t : Int) (w : World) :
    Calls Try.prog 74 #[.agg #[.int .i64 x, .int .i64 y], .int .i64 t] w fun e w' => e = .returned (.int .i64 (cmpI x t)) ∧ Gr w w' := by
  go_enter Try.func74, Try.ntmps74
  go_wp2_with (first | (go_at_call 54; refine (cmp_any _ _ _).mono ?_; rintro e w' ⟨rfl, hb⟩; have hz := hb.size; (try simp only [World.size_alloc] at hz); obtain ⟨hc, hf⟩ := hb.cells))
  all_goals
    go_ret
    refine ⟨rfl, ?_⟩
    first | exact Gr.refl _ | (repeat (first | exact Gr.refl _ | assumption | exact Gr.alloc _ _ | refine Gr.allocR ?_ _ | refine Gr.drewNR ?_ _ | refine Gr.drewR ?_ | refine Gr.trans ?_ (by assumption)))

/-- All before i are less than t; all from j on are not. -/
def Parts (l : List (Int × Int)) (t : Int) (i j : Nat) : Prop := (∀ q x, q < i → l[q]? = some x → x.1 < t) ∧ (∀ q x, j ≤ q → l[q]? = some x → t ≤ x.1)
def Asc (l : List (Int × Int)) : Prop := ∀ (i j : Nat) (x y : Int × Int), i < j → l[i]? = some x → l[j]? = some y → x.1 < y.1
/-- What the binary search returns. -/
def Found (l : List (Int × Int)) (t : Int) (i : Nat) (f : Bool) : Prop := i ≤ l.length ∧ Parts l t i i ∧ (f = true ↔ ∃ x, l[i]? = some x ∧ x.1 = t)

theorem Parts.up {l : List (Int × Int)} {t : Int} {i j h : Nat} {x : Int × Int} (ha : Asc l) (hp : Parts l t i j) (hx : l[h]? = some x) (hlt : x.1 < t) : Parts l t (h + 1) j :=
  ⟨fun q y hq hy => by
    by_cases e : q = h
    · subst e; rw [hx] at hy; cases hy; exact hlt
    · have := ha q h y x (by omega) hy hx; omega, hp.2⟩
theorem Parts.down {l : List (Int × Int)} {t : Int} {i j h : Nat} {x : Int × Int} (ha : Asc l) (hp : Parts l t i j) (hx : l[h]? = some x) (hge : t ≤ x.1) : Parts l t i h :=
  ⟨hp.1, fun q y hq hy => by
    by_cases e : q = h
    · subst e; rw [hx] at hy; cases hy; exact hge
    · have := ha h q x y (by omega) hx hy; omega⟩

set_option maxRecDepth 1000000 in
set_option maxHeartbeats 2000000 in
theorem bsearch_any (A : Option Addr) (n c : Nat) (l : List (Int × Int)) (t : Int) (w : World) (ha : Rd e2 2 w w.heap.size A n l) (hn : n ≤ 1000000) (hasc : Asc l) :
    Calls Try.prog 73 #[.slice A n c, .int .i64 t, .func (.func 74) #[] #[]] w fun e w' => ∃ (i : Nat) (f : Bool), e = .returned (.tuple #[.int .i64 i, .bool f]) ∧ i ≤ n ∧ Hid (Found l t i f) ∧ Gr w w' := by
  have hlen := Lib.hid ha.1
  have HA := Lib.hid hasc
  clear hasc
  go_enter Try.func73, Try.ntmps73
  go_wp2_with fail
  go_loopw [9, 10] (fun v i wr => ∃ (a b : Nat), a ≤ b ∧ b ≤ n ∧ v = .int .i64 a ∧ i = .int .i64 b ∧ Hid (Parts l t a b) ∧ Gr w wr) (fun v i _ => (intOf i).toNat - (intOf v).toNat)
  case atStart => exact ⟨0, n, Nat.zero_le _, Nat.le_refl _, rfl, rfl, ⟨fun q x h => absurd h (by omega), fun q x h hx => absurd (List.getElem?_eq_some_iff.1 hx).1 (by rw [hlen.out]; omega)⟩, Gr.refl _⟩
  case round =>
    obtain ⟨a, b, hab, hbn, rfl, rfl, HP, hg⟩ := hrel
    by_cases hlt : a < b
    · obtain ⟨b1, o1, x1, y1, rfl, hb1, hx1, c1, c2⟩ := (ha.gr hg).at2 (i := (a + b) / 2) (by omega)
      have X1 := Lib.hid hx1
      clear hx1
      have hc := fun W => find1_any x1 y1 t W
      by_cases hyx : x1 < t
      · have hv : cmpI x1 t = -1 := by unfold cmpI; rw [if_pos hyx]
        rw [hv] at hc
        clear hv
        go_wp2_with (go_at_call 74; refine (hc _).mono ?_; rintro e w' ⟨rfl, hg1⟩)
        go_roundw
        case rel => exact ⟨(a + b) / 2 + 1, b, by omega, hbn, by rw [show ((a : Int) + (b : Int)) / 2 + 1 = (((a + b) / 2 + 1 : Nat) : Int) by omega], rfl, HP.out.up HA.out X1.out hyx, hg.trans hg1⟩
        case measure => simp [intOf]; omega
      · have hv : 0 ≤ cmpI x1 t := by unfold cmpI; rw [if_neg hyx]; split <;> omega
        generalize cmpI x1 t = r at hc hv
        go_wp2_with (go_at_call 74; refine (hc _).mono ?_; rintro e w' ⟨rfl, hg1⟩)
        go_roundw
        case rel => exact ⟨a, (a + b) / 2, by omega, by omega, rfl, by rw [show ((a : Int) + (b : Int)) / 2 = (((a + b) / 2 : Nat) : Int) by omega], HP.out.down HA.out X1.out (by simpa using hyx), hg.trans hg1⟩
        case measure => simp [intOf]; omega
    · obtain rfl : a = b := by omega
      by_cases hn2 : a < n
      · obtain ⟨b1, o1, x1, y1, rfl, hb1, hx1, c1, c2⟩ := (ha.gr hg).at2 hn2
        have X1 := Lib.hid hx1
        clear hx1
        have hc := fun W => find1_any x1 y1 t W
        by_cases hyx : x1 = t
        · have hv : cmpI x1 t = 0 := by unfold cmpI; rw [if_neg (by omega), if_neg (by omega)]
          have Y := Lib.hid hyx
          rw [hv] at hc
          clear hv hyx
          go_wp2_with (go_at_call 74; refine (hc _).mono ?_; rintro e w' ⟨rfl, hg1⟩)
          go_ret2
          exact ⟨a, true, rfl, hbn, ⟨by rw [hlen.out]; exact hbn, HP.out, by simp; exact ⟨y1, by rw [X1.out, Y.out]⟩⟩, hg.trans hg1⟩
        · have hv : cmpI x1 t ≠ 0 := by unfold cmpI; split; omega; split; omega; omega
          generalize cmpI x1 t = r at hc hv
          have hvb : (r == 0) = false := by simpa using hv
          go_wp2_with (go_at_call 74; refine (hc _).mono ?_; rintro e w' ⟨rfl, hg1⟩)
          go_ret2
          exact ⟨a, false, rfl, hbn, ⟨by rw [hlen.out]; exact hbn, HP.out, by simp; intro y hx; rw [X1.out] at hx; cases hx; exact hyx rfl⟩, hg.trans hg1⟩
      · go_wp2
        go_ret2
        exact ⟨a, false, rfl, hbn, ⟨by rw [hlen.out]; exact hbn, HP.out, by simp; intro y hx; exact absurd (List.getElem?_eq_some_iff.1 hx).1 (by rw [hlen.out]; omega)⟩, hg⟩

theorem fold_skip (t : Int) : ∀ (l : List (Int × Int)) (z : Int), (∀ x ∈ l, t < x.1) → l.foldl (fun n s => if s.1 ≤ t then s.2 else n) z = z
  | [], z, h => rfl
  | x :: l, z, h => by
    rw [List.foldl_cons, if_neg (by have := h x (by simp); omega)]
    exact fold_skip t l z fun y hy => h y (by simp [hy])
theorem rat_last {l : List (Int × Int)} {t : Int} {i : Nat} {x : Int × Int} (t1 : 0 ≤ t) (t2 : t < 1099511627776) (hx : l[i]? = some x) (hle : x.1 ≤ t) (hup : ∀ q y, i < q → l[q]? = some y → t < y.1) : rat l t = x.2 := by
  unfold rat
  rw [if_pos ⟨t1, t2⟩, ← List.take_append_drop (i + 1) l, List.foldl_append, foldl_take hx, if_pos hle]
  refine fold_skip t _ _ fun y hy => ?_
  obtain ⟨q, hq, e⟩ := List.mem_iff_getElem.1 hy
  have : l[i + 1 + q]? = some y := by rw [← List.getElem?_drop, List.getElem?_eq_getElem hq, e]
  exact hup _ y (by omega) this
theorem rat_none {l : List (Int × Int)} {t : Int} (hup : ∀ (q : Nat) (y : Int × Int), l[q]? = some y → t < y.1) : rat l t = 0 := by
  unfold rat
  split
  · refine fold_skip t _ _ fun y hy => ?_
    obtain ⟨q, hq, e⟩ := List.mem_iff_getElem.1 hy
    exact hup q y (by rw [List.getElem?_eq_getElem hq, e])
  · rfl
/-- The index of the last step that is not behind t; -1 if there is none. -/
def LastAt (l : List (Int × Int)) (t : Int) (i : Int) : Prop := -1 ≤ i ∧ i < l.length ∧ (∀ (q : Nat) x, (q : Int) = i → l[q]? = some x → x.1 ≤ t) ∧ (∀ (q : Nat) x, i < q → l[q]? = some x → t < x.1)
theorem Found.yes {l : List (Int × Int)} {t : Int} {i : Nat} (ha : Asc l) (h : Found l t i true) : LastAt l t i := by
  obtain ⟨h1, h2, h3⟩ := h
  obtain ⟨x, hx, e⟩ := h3.1 rfl
  have hi := (List.getElem?_eq_some_iff.1 hx).1
  refine ⟨by omega, by omega, fun q y hq hy => ?_, fun q y hq hy => ?_⟩
  · obtain rfl : q = i := by omega
    rw [hx] at hy; cases hy; omega
  · have := ha i q x y (by omega) hx hy; omega
theorem Found.no {l : List (Int × Int)} {t : Int} {i : Nat} (ha : Asc l) (h : Found l t i false) : LastAt l t (i - 1) := by
  obtain ⟨h1, h2, h3⟩ := h
  refine ⟨by omega, by omega, fun q y hq hy => ?_, fun q y hq hy => ?_⟩
  · have := h2.1 q y (by omega) hy; omega
  · have h4 := h2.2 q y (by omega) hy
    by_cases e : q = i
    · subst e
      have : ¬ y.1 = t := fun e => by have := h3.2 ⟨y, hy, e⟩; simp at this
      omega
    · by_cases e2 : y.1 = t
      · exfalso
        have hlt : i < l.length := by have := (List.getElem?_eq_some_iff.1 hy).1; omega
        have hxi : l[i]? = some l[i] := List.getElem?_eq_getElem hlt
        have h5 := h2.2 i _ (Nat.le_refl _) hxi
        have h6 := ha i q _ y (by omega) hxi hy
        omega
      · omega

set_option maxHeartbeats 1000000 in
theorem find_any (A : Option Addr) (n c : Nat) (l : List (Int × Int)) (t : Int) (w : World) (ha : Rd e2 2 w w.heap.size A n l) (hn : n ≤ 1000000) (hasc : Asc l) :
    Calls Try.prog 64 #[.slice A n c, .int .i64 t] w fun e w' => ∃ i : Int, e = .returned (.int .i64 i) ∧ Hid (LastAt l t i) ∧ Gr w w' := by
  have hcon := bsearch_any A n c l t w ha hn hasc
  have HA := Lib.hid hasc
  clear hasc ha
  go_enter Try.func64, Try.ntmps64
  go_wp2_with (go_at_call 73; refine hcon.mono ?_; rintro e w' ⟨i, f, rfl, hi, HF, hg⟩)
  · have hf : f = true := by assumption
    go_ret
    refine ⟨_, rfl, Found.yes HA.out (by rw [← hf]; exact HF.out), hg⟩
  · have hf : f = false := by assumption
    go_ret
    refine ⟨_, rfl, Found.no HA.out (by rw [← hf]; exact HF.out), hg⟩

set_option maxHeartbeats 1000000 in
theorem rat_prog (A : Option Addr) (n c : Nat) (l : List (Int × Int)) (t : Int) (w : World) (ha : Rd e2 2 w w.heap.size A n l) (hn : n ≤ 1000000) (hasc : Asc l) :
    Calls Try.prog 38 #[.slice A n c, .int .i64 t] w fun e w' => e = .returned (.int .i64 (rat l t)) ∧ Gr w w' := by
  have hlen := Lib.hid ha.1
  have hcon := find_any A n c l t w ha hn hasc
  clear hasc
  by_cases ht : 0 ≤ t ∧ t < 1099511627776
  · obtain ⟨t1, t2⟩ := ht
    go_enter Try.func38, Try.ntmps38
    go_wp2_with fail
    refine hcon.mono ?_
    rintro e w' ⟨i, rfl, HF, hg⟩
    clear hcon
    by_cases hi : i < 0
    · go_wp2_with fail
      go_ret
      refine ⟨ret_int ?_, hg⟩
      rw [rat_none fun q y hy => HF.out.2.2.2 q y (by omega) hy]
    · obtain ⟨k, rfl⟩ := Int.eq_ofNat_of_zero_le (show 0 ≤ i by omega)
      have hk : k < n := by have := HF.out.2.1; rw [hlen.out] at this; omega
      obtain ⟨b1, o1, x1, y1, rfl, hb1, hx1, c1, c2⟩ := (ha.gr hg).at2 hk
      have X1 := Lib.hid hx1
      clear hx1
      go_wp2_with fail
      go_ret
      refine ⟨ret_int ?_, hg⟩
      rw [rat_last t1 t2 X1.out (HF.out.2.2.1 k _ rfl X1.out) fun q y hq hy => HF.out.2.2.2 q y (by omega) hy]
  · have hr : rat l t = 0 := by unfold rat; rw [if_neg ht]
    have HR := Lib.hid hr
    clear hr
    by_cases t1 : 0 ≤ t
    · have t2 : ¬ t < 1099511627776 := fun h => ht ⟨t1, h⟩
      go_enter Try.func38, Try.ntmps38
      go_wp2_with fail
      go_ret
      exact ⟨ret_int (by rw [HR.out]), Gr.refl _⟩
    · go_enter Try.func38, Try.ntmps38
      go_wp2_with fail
      go_ret
      exact ⟨ret_int (by rw [HR.out]), Gr.refl _⟩

end Go.Proofs.Ytllenmkmompjpaa
