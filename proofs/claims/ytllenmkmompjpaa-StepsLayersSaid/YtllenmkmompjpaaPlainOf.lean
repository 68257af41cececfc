/- Plain facts on sums over pieces and over changes: what Of computes; no program in sight. No condition. -/
import Derived.Test.YtllenmkmompjpaaW11
namespace Go.Proofs.Ytllenmkmompjpaa
open Go.RowKit

theorem wrap_wl (a b : Int) : wrap64 (wrap64 a + b) = wrap64 (a + b) := by unfold wrap64; omega
theorem wrap_wr (a b : Int) : wrap64 (a + wrap64 b) = wrap64 (a + b) := by unfold wrap64; omega
theorem wrap_w (a : Int) : wrap64 (wrap64 a) = wrap64 a := by unfold wrap64; omega
theorem wrap_0 : wrap64 0 = 0 := by unfold wrap64; omega

/-- The sum of the pieces that contain an instant, as the reference runs it. -/
def rsum (l : List ((Int × Int) × Int)) (p : Int) : Int := l.foldl (fun n c => if pcontains c.1 p then wrap64 (n + c.2) else n) 0
def isum (l : List ((Int × Int) × Int)) (p : Int) : Int := (l.map fun c => if pcontains c.1 p then c.2 else 0).sum
theorem rsum_fold (p : Int) : ∀ (l : List ((Int × Int) × Int)) (z : Int), l.foldl (fun n c => if pcontains c.1 p then wrap64 (n + c.2) else n) (wrap64 z) = wrap64 (z + isum l p)
  | [], z => by simp [isum]
  | c :: l, z => by
    have hi : isum (c :: l) p = (if pcontains c.1 p then c.2 else 0) + isum l p := by simp [isum]
    rw [List.foldl_cons, hi]
    by_cases h : pcontains c.1 p = true
    · rw [if_pos h, if_pos h, wrap_wl, rsum_fold p l]
      congr 1; omega
    · rw [if_neg h, if_neg h, rsum_fold p l]
      congr 1; omega
theorem rsum_eq (l : List ((Int × Int) × Int)) (p : Int) : rsum l p = wrap64 (isum l p) := by
  have := rsum_fold p l 0
  rw [wrap_0, Int.zero_add] at this
  exact this
/-- The changes of the pieces. -/
def chg1 (c : (Int × Int) × Int) : List (Int × Int) := if pvalid c.1 then [(c.1.1, c.2), (c.1.2, wrap64 (-c.2))] else []
def chg (l : List ((Int × Int) × Int)) : List (Int × Int) := l.flatMap chg1
def csum (X : List (Int × Int)) (p : Int) : Int := (X.map fun s => if s.1 ≤ p then s.2 else 0).sum
theorem csum_append (X Y : List (Int × Int)) (p : Int) : csum (X ++ Y) p = csum X p + csum Y p := by simp [csum]
theorem csum_chg1 (c : (Int × Int) × Int) (p : Int) : wrap64 (csum (chg1 c) p) = wrap64 (if pcontains c.1 p then c.2 else 0) := by
  unfold chg1
  by_cases h : pvalid c.1 = true
  · rw [if_pos h]
    have hv : c.1.1 < c.1.2 := by simp [pvalid] at h; omega
    by_cases h1 : c.1.1 ≤ p
    · by_cases h2 : c.1.2 ≤ p
      · have hc : ¬ pcontains c.1 p = true := by simp [pcontains]; omega
        rw [if_neg hc]
        simp only [csum, List.map_cons, List.map_nil, List.sum_cons, List.sum_nil, if_pos h1, if_pos h2]
        unfold wrap64; omega
      · have hc : pcontains c.1 p = true := by simp [pcontains, h]; omega
        rw [if_pos hc]
        simp only [csum, List.map_cons, List.map_nil, List.sum_cons, List.sum_nil, if_pos h1, if_neg h2]
        congr 1; omega
    · have hc : ¬ pcontains c.1 p = true := by simp [pcontains]; omega
      rw [if_neg hc]
      simp only [csum, List.map_cons, List.map_nil, List.sum_cons, List.sum_nil, if_neg h1, if_neg (show ¬ c.1.2 ≤ p by omega)]
      rfl
  · rw [if_neg h]
    have hc : ¬ pcontains c.1 p = true := by simp [pcontains]; intro e; exact absurd e h
    rw [if_neg hc]; rfl
theorem csum_chg : ∀ (l : List ((Int × Int) × Int)) (p : Int), wrap64 (csum (chg l) p) = wrap64 (isum l p)
  | [], p => rfl
  | c :: l, p => by
    have hi : isum (c :: l) p = (if pcontains c.1 p then c.2 else 0) + isum l p := by simp [isum]
    have hc : chg (c :: l) = chg1 c ++ chg l := by simp [chg]
    rw [hi, hc, csum_append, ← wrap_wl, csum_chg1, wrap_wl, ← wrap_wr, csum_chg l p, wrap_wr]
theorem csum_perm {X Y : List (Int × Int)} (h : X.Perm Y) (p : Int) : csum X p = csum Y p := by
  unfold csum
  induction h with
  | nil => rfl
  | cons x _ ih => simp only [List.map_cons, List.sum_cons, ih]
  | swap x y l => simp only [List.map_cons, List.sum_cons]; omega
  | trans _ _ ih1 ih2 => exact ih1.trans ih2
/-- The running sum of changes. -/
def wsum (X : List (Int × Int)) : Int := X.foldl (fun s c => wrap64 (s + c.2)) 0
theorem wsum_fold : ∀ (X : List (Int × Int)) (z : Int), X.foldl (fun s c => wrap64 (s + c.2)) (wrap64 z) = wrap64 (z + (X.map (·.2)).sum)
  | [], z => by simp
  | c :: X, z => by
    rw [List.foldl_cons, wrap_wl, wsum_fold X]
    simp only [List.map_cons, List.sum_cons]
    congr 1; omega
theorem wsum_eq (X : List (Int × Int)) : wsum X = wrap64 (X.map (·.2)).sum := by
  have := wsum_fold X 0
  rw [wrap_0, Int.zero_add] at this
  exact this
theorem wsum_take {X : List (Int × Int)} {k : Nat} {x y : Int} (hx : X[k]? = some (x, y)) : wsum (X.take (k + 1)) = wrap64 (wsum (X.take k) + y) := foldl_take hx
theorem csum_all {X : List (Int × Int)} {p : Int} (h : ∀ s ∈ X, s.1 ≤ p) : csum X p = (X.map (·.2)).sum := by
  unfold csum
  congr 1
  exact List.map_congr_left fun s hs => if_pos (h s hs)
theorem csum_none : ∀ {X : List (Int × Int)} {p : Int}, (∀ s ∈ X, p < s.1) → csum X p = 0
  | [], p, _ => rfl
  | s :: X, p, h => by
    have h1 : csum (s :: X) p = (if s.1 ≤ p then s.2 else 0) + csum X p := by simp [csum]
    rw [h1, if_neg (by have := h s (by simp); omega), csum_none fun t ht => h t (by simp [ht])]; rfl
/-- Where the changes up to p are the first k, the running sum is the function's value. -/
theorem value_at {l : List ((Int × Int) × Int)} {C : List (Int × Int)} {k : Nat} {p : Int} (hp : C.Perm (chg l)) (h1 : ∀ s ∈ C.take k, s.1 ≤ p) (h2 : ∀ s ∈ C.drop k, p < s.1) : wsum (C.take k) = rsum l p := by
  rw [rsum_eq, ← csum_chg, ← csum_perm hp, wsum_eq, ← List.take_append_drop k C, csum_append, csum_all h1, csum_none h2]
  simp
/-- Ascending, equals allowed. -/
def AscW (C : List (Int × Int)) : Prop := ∀ (i j : Nat) (x y : Int × Int), i < j → C[i]? = some x → C[j]? = some y → x.1 ≤ y.1
theorem AscW.of_pairwise {C : List (Int × Int)} (h : C.Pairwise fun x y => x.1 ≤ y.1) : AscW C := by
  intro i j x y hij hx hy
  obtain ⟨hi, rfl⟩ := List.getElem?_eq_some_iff.1 hx
  obtain ⟨hj, rfl⟩ := List.getElem?_eq_some_iff.1 hy
  exact List.pairwise_iff_getElem.1 h i j hi hj hij
theorem mem_drop_iff {α : Type} {C : List α} {k : Nat} {s : α} : s ∈ C.drop k ↔ ∃ q, k ≤ q ∧ C[q]? = some s := by
  constructor
  · intro h
    obtain ⟨i, hi, e⟩ := List.mem_iff_getElem.1 h
    exact ⟨k + i, by omega, by rw [← List.getElem?_drop, List.getElem?_eq_getElem hi, e]⟩
  · rintro ⟨q, hq, e⟩
    have : (C.drop k)[q - k]? = some s := by rw [List.getElem?_drop, ← e]; congr 1; omega
    exact List.mem_of_getElem? this
theorem mem_take_iff {α : Type} {C : List α} {k : Nat} {s : α} : s ∈ C.take k ↔ ∃ q, q < k ∧ C[q]? = some s := by
  constructor
  · intro h
    obtain ⟨i, hi, e⟩ := List.mem_iff_getElem.1 h
    simp at hi
    exact ⟨i, by omega, by rw [← e, List.getElem_take, List.getElem?_eq_getElem (by omega)]⟩
  · rintro ⟨q, hq, e⟩
    have : (C.take k)[q]? = some s := by rw [List.getElem?_take_of_lt hq, e]
    exact List.mem_of_getElem? this
/-- The places met so far: 0 and those of the first k changes; all others are greater. -/
def Met (C : List (Int × Int)) (k : Nat) (Pr : List Int) : Prop := SAsc Pr ∧ (∀ x, x ∈ Pr ↔ x = 0 ∨ ∃ y, (x, y) ∈ C.take k) ∧ (∀ x ∈ Pr, ∀ s ∈ C.drop k, x < s.1)
theorem Met.start {C : List (Int × Int)} {k : Nat} (h1 : ∀ s ∈ C.take k, s.1 = 0) (h2 : ∀ s ∈ C.drop k, 0 < s.1) : Met C k [0] := by
  refine ⟨SAsc.nil.snoc (by simp), fun x => ?_, fun x hx s hs => ?_⟩
  · simp
    intro y hy
    exact h1 _ hy
  · simp at hx
    subst hx
    exact h2 s hs
theorem Met.next {C : List (Int × Int)} {k j : Nat} {Pr : List Int} {x : Int} (h : Met C k Pr) (hkj : k < j) (hx : ∀ q s, k ≤ q → q < j → C[q]? = some s → s.1 = x) (hj : j ≤ C.length) (h2 : ∀ s ∈ C.drop j, x < s.1) : Met C j (Pr ++ [x]) := by
  obtain ⟨g1, g2, g3⟩ := h
  have hk : C[k]? = some C[k] := List.getElem?_eq_getElem (by omega)
  have hxk := hx k _ (Nat.le_refl _) hkj hk
  have hlt : ∀ y ∈ Pr, y < x := fun y hy => by
    have := g3 y hy C[k] (mem_drop_iff.2 ⟨k, Nat.le_refl _, hk⟩)
    omega
  refine ⟨g1.snoc hlt, fun y => ?_, fun y hy s hs => ?_⟩
  · rw [List.mem_append, g2, List.mem_singleton]
    constructor
    · rintro ((e | ⟨z, hz⟩) | e)
      · exact .inl e
      · obtain ⟨q, hq, e⟩ := mem_take_iff.1 hz
        exact .inr ⟨z, mem_take_iff.2 ⟨q, by omega, e⟩⟩
      · subst e
        exact .inr ⟨C[k].2, mem_take_iff.2 ⟨k, hkj, by rw [hk, ← hxk]⟩⟩
    · rintro (e | ⟨z, hz⟩)
      · exact .inl (.inl e)
      · obtain ⟨q, hq, e⟩ := mem_take_iff.1 hz
        by_cases hqk : q < k
        · exact .inl (.inr ⟨z, mem_take_iff.2 ⟨q, hqk, e⟩⟩)
        · exact .inr (hx q _ (by omega) hq e)
  · rcases List.mem_append.1 hy with e | e
    · have h3 := h2 s hs
      have := hlt y e
      omega
    · simp at e
      subst e
      exact h2 s hs
theorem combS_snoc (f : Int → Int) (P : List Int) (x : Int) : combS f (P ++ [x]) = putS (combS f P) (x, f x) := by unfold combS; rw [List.foldl_append]; rfl
/-- The places of the reference. -/
def ofAll (l : List ((Int × Int) × Int)) : List Int := l.foldl (fun p c => if pvalid c.1 then ins c.1.2 (ins c.1.1 p) else p) [0]
def ofPts (l : List ((Int × Int) × Int)) : List Int := (ofAll l).takeWhile fun p => decide (p < 1099511627776)
theorem ofAll_spec : ∀ (l : List ((Int × Int) × Int)) (p : List Int), SAsc p → SAsc (l.foldl (fun p c => if pvalid c.1 then ins c.1.2 (ins c.1.1 p) else p) p) ∧
    ∀ x, x ∈ l.foldl (fun p c => if pvalid c.1 then ins c.1.2 (ins c.1.1 p) else p) p ↔ x ∈ p ∨ ∃ y, (x, y) ∈ chg l
  | [], p, h => ⟨h, fun x => by simp [chg]⟩
  | c :: l, p, h => by
    rw [List.foldl_cons]
    have hc : chg (c :: l) = chg1 c ++ chg l := by simp [chg]
    by_cases hv : pvalid c.1 = true
    · rw [if_pos hv]
      obtain ⟨g1, g2⟩ := ofAll_spec l _ ((h.ins c.1.1).ins c.1.2)
      refine ⟨g1, fun x => ?_⟩
      rw [g2, mem_ins, mem_ins, hc]
      have h1 : chg1 c = [(c.1.1, c.2), (c.1.2, wrap64 (-c.2))] := by unfold chg1; rw [if_pos hv]
      rw [h1]
      constructor
      · rintro ((e | e | e) | ⟨y, hy⟩)
        · exact .inr ⟨wrap64 (-c.2), by simp [e]⟩
        · exact .inr ⟨c.2, by simp [e]⟩
        · exact .inl e
        · exact .inr ⟨y, by simp [hy]⟩
      · rintro (e | ⟨y, hy⟩)
        · exact .inl (.inr (.inr e))
        · simp only [List.mem_append, List.mem_cons, List.not_mem_nil, or_false, Prod.mk.injEq] at hy
          rcases hy with (⟨e, _⟩ | ⟨e, _⟩) | e
          · exact .inl (.inr (.inl e))
          · exact .inl (.inl e)
          · exact .inr ⟨y, e⟩
    · rw [if_neg hv]
      obtain ⟨g1, g2⟩ := ofAll_spec l _ h
      refine ⟨g1, fun x => ?_⟩
      rw [g2, hc]
      have h1 : chg1 c = [] := by unfold chg1; rw [if_neg hv]
      rw [h1, List.nil_append]
theorem SAsc.takeWhile {b : Int} : ∀ {l : List Int}, SAsc l → SAsc (l.takeWhile fun p => decide (p < b)) ∧ ∀ x, x ∈ l.takeWhile (fun p => decide (p < b)) ↔ x ∈ l ∧ x < b
  | [], h => ⟨h, fun x => by simp⟩
  | a :: l, h => by
    obtain ⟨g1, g2⟩ := SAsc.takeWhile (b := b) h.tail
    by_cases hab : a < b
    · rw [List.takeWhile_cons_of_pos (by simpa using hab)]
      refine ⟨g1.cons fun y hy => h.head y ((g2 y).1 hy).1, fun x => ?_⟩
      rw [List.mem_cons, g2, List.mem_cons]
      constructor
      · rintro (rfl | ⟨e1, e2⟩)
        · exact ⟨.inl rfl, hab⟩
        · exact ⟨.inr e1, e2⟩
      · rintro ⟨rfl | e1, e2⟩
        · exact .inl rfl
        · exact .inr ⟨e1, e2⟩
    · rw [List.takeWhile_cons_of_neg (by simpa using hab)]
      refine ⟨.nil, fun x => ⟨fun hx => by simp at hx, fun ⟨hx, hlt⟩ => ?_⟩⟩
      rcases List.mem_cons.1 hx with e | e
      · omega
      · have := h.head x e; omega
theorem ofPts_spec (l : List ((Int × Int) × Int)) : SAsc (ofPts l) ∧ ∀ x, x ∈ ofPts l ↔ (x = 0 ∨ ∃ y, (x, y) ∈ chg l) ∧ x < 1099511627776 := by
  obtain ⟨g1, g2⟩ := ofAll_spec l [0] (SAsc.nil.snoc (by simp))
  obtain ⟨g3, g4⟩ := SAsc.takeWhile (b := 1099511627776) (l := ofAll l) g1
  refine ⟨g3, fun x => ?_⟩
  have := g2 x
  rw [List.mem_singleton] at this
  exact (g4 x).trans (by rw [← this]; exact Iff.rfl)
/-- When the changes before Forever are done, all places have been met. -/
theorem Met.done {l : List ((Int × Int) × Int)} {C : List (Int × Int)} {k : Nat} {Pr : List Int} (hp : C.Perm (chg l)) (h : Met C k Pr) (h1 : ∀ s ∈ C.take k, s.1 < 1099511627776) (h2 : ∀ s ∈ C.drop k, 1099511627776 ≤ s.1) : Pr = ofPts l := by
  obtain ⟨g1, g2, _⟩ := h
  obtain ⟨g3, g4⟩ := ofPts_spec l
  refine g1.ext g3 fun x => ?_
  rw [g2, g4]
  constructor
  · rintro (e | ⟨y, hy⟩)
    · exact ⟨.inl e, by omega⟩
    · exact ⟨.inr ⟨y, hp.mem_iff.1 (List.mem_of_mem_take hy)⟩, h1 _ hy⟩
  · rintro ⟨e | ⟨y, hy⟩, hlt⟩
    · exact .inl e
    · have hy' := hp.mem_iff.2 hy
      rw [← List.take_append_drop k C, List.mem_append] at hy'
      rcases hy' with e | e
      · exact .inr ⟨y, e⟩
      · have := h2 _ e; simp at this; omega
end Go.Proofs.Ytllenmkmompjpaa
