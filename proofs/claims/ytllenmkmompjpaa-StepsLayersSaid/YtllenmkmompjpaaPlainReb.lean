/- How many of the periods of all levels hold an instant: as many as the value says. No program in sight. -/
import Derived.Test.YtllenmkmompjpaaPlainFun
import Derived.Test.YtllenmkmompjpaaW21
namespace Go.Proofs.Ytllenmkmompjpaa
open Go.RowKit

def cnt (X : List (Int × Int)) (t : Int) : Int := (X.map fun p => if pcontains p t then (1 : Int) else 0).sum
theorem cnt_append (X Y : List (Int × Int)) (t : Int) : cnt (X ++ Y) t = cnt X t + cnt Y t := by simp [cnt]
theorem cnt_one {a b t : Int} (h0 : 0 ≤ a) (h1 : a < b) (h2 : b ≤ 1099511627776) : cnt [(a, b)] t = if a ≤ t ∧ t < b then 1 else 0 := by
  have hv : pvalid (a, b) = true := by simp [pvalid]; omega
  simp [cnt, pcontains, hv]
theorem atStep_cnt (n t v : Int) (out : List (Int × Int)) {a b : Int} (h0 : 0 ≤ a) (h1 : a < b) (h2 : b ≤ 1099511627776) (hout : ∀ q ∈ out, pvalid q = true ∧ q.2 ≤ a) :
    (∀ q ∈ atStep n out ((a, b), v), pvalid q = true ∧ q.2 ≤ b) ∧ cnt (atStep n out ((a, b), v)) t = cnt out t + (if n ≤ v ∧ a ≤ t ∧ t < b then 1 else 0) := by
  have hv : pvalid (a, b) = true := by simp [pvalid]; omega
  have happ : (∀ q ∈ out ++ [(a, b)], pvalid q = true ∧ q.2 ≤ b) ∧ cnt (out ++ [(a, b)]) t = cnt out t + (if a ≤ t ∧ t < b then 1 else 0) := by
    refine ⟨fun q hq => ?_, by rw [cnt_append, cnt_one h0 h1 h2]⟩
    rcases List.mem_append.1 hq with e | e
    · have := hout q e; exact ⟨this.1, by omega⟩
    · simp at e; subst e; exact ⟨hv, Int.le_refl _⟩
  unfold atStep
  by_cases hn : n ≤ v
  · rw [if_pos hn]
    simp only [hn, true_and]
    unfold joinP
    split
    · rename_i q hq
      split
      · rename_i hle
        have hmem : q ∈ out := List.mem_of_getLast? hq
        obtain ⟨hq1, hq2⟩ := hout q hmem
        have hle' : a ≤ q.2 := hle
        have hqe : q.2 = a := by omega
        have hsp : out = out.dropLast ++ [q] := by
          have hne : out ≠ [] := by intro e; rw [e] at hmem; simp at hmem
          rw [List.getLast?_eq_some_getLast hne] at hq
          injection hq with hq
          rw [← hq]; exact (List.dropLast_concat_getLast hne).symm
        have hqv : 0 ≤ q.1 ∧ q.1 < q.2 ∧ q.2 ≤ 1099511627776 := by simp [pvalid] at hq1; omega
        have hm : max q.2 b = b := by omega
        show (∀ x ∈ out.dropLast ++ [(q.1, max q.2 b)], pvalid x = true ∧ x.2 ≤ b) ∧ cnt (out.dropLast ++ [(q.1, max q.2 b)]) t = _
        rw [hm]
        refine ⟨fun x hx => ?_, ?_⟩
        · rcases List.mem_append.1 hx with e | e
          · have := hout x (List.dropLast_subset _ e); exact ⟨this.1, by omega⟩
          · simp at e; subst e; exact ⟨by simp [pvalid]; omega, Int.le_refl _⟩
        · have e1 : cnt out t = cnt out.dropLast t + cnt [(q.1, q.2)] t := by rw [← cnt_append]; exact congrArg (cnt · t) hsp
          rw [e1, cnt_append, cnt_one hqv.1 (by omega) h2, cnt_one hqv.1 hqv.2.1 hqv.2.2]
          split <;> split <;> split <;> omega
      · exact happ
    · exact happ
  · rw [if_neg hn]
    refine ⟨fun q hq => ?_, by simp [hn]⟩
    have := hout q hq; exact ⟨this.1, by omega⟩
theorem cnt_segs (n t : Int) (ht : t < 1099511627776) : ∀ (r : List (Int × Int)) (x : Int × Int) (out : List (Int × Int)), 0 ≤ x.1 → (x :: r).Pairwise (fun p q => p.1 < q.1) → (∀ s ∈ x :: r, s.1 < 1099511627776) → (∀ q ∈ out, pvalid q = true ∧ q.2 ≤ x.1) →
    cnt ((segs (x :: r)).foldl (atStep n) out) t = cnt out t + (if x.1 ≤ t ∧ n ≤ lastV x.2 r t then 1 else 0)
  | [], x, out, h0, _, hM, hout => by
    have := (atStep_cnt n t x.2 out h0 (hM x (by simp)) (Int.le_refl _) hout).2
    simp only [segs, List.foldl_cons, List.foldl_nil, this]
    have e : lastV x.2 [] t = x.2 := rfl
    rw [e]
    split <;> split <;> omega
  | y :: r, x, out, h0, hp, hM, hout => by
    have hxy : x.1 < y.1 := (List.pairwise_cons.1 hp).1 y (by simp)
    have hy := (List.pairwise_cons.1 hp).2
    obtain ⟨h1, h2⟩ := atStep_cnt n t x.2 out h0 hxy (by have := hM y (by simp); omega) hout
    have ih := cnt_segs n t ht r y _ (by omega) hy (fun s hs => hM s (List.mem_cons_of_mem _ hs)) h1
    have e : segs (x :: y :: r) = ((x.1, y.1), x.2) :: segs (y :: r) := rfl
    rw [e, List.foldl_cons, ih, h2, lastV_cons]
    by_cases hyt : y.1 ≤ t
    · rw [if_pos hyt]
      split <;> split <;> split <;> omega
    · rw [if_neg hyt]
      have e2 : lastV x.2 r t = x.2 := lastV_skip fun q hq => by have := (List.pairwise_cons.1 hy).1 q hq; omega
      rw [e2]
      split <;> split <;> split <;> omega
theorem cnt_atl {l : List (Int × Int)} (h : svalid l = true) (n t : Int) (h1 : 0 ≤ t) (h2 : t < 1099511627776) : cnt (atl l n) t = if n ≤ rat l t then 1 else 0 := by
  match l, h with
  | p :: r, h =>
    have ha := svalid_asc h
    have hp0 : p.1 = 0 := ha.2.2.2 p rfl
    simp only [svalid, Bool.and_eq_true] at h
    have hv := validFrom_asc h.2
    have := cnt_segs n t h2 r p [] (by omega) hv.1 ha.2.1 (by simp)
    unfold atl
    rw [this, rat_in h1 h2, lastV_cons, if_pos (show p.1 ≤ t by omega)]
    have e : cnt [] t = 0 := rfl
    rw [e]
    simp [hp0, h1]
theorem cnt_levTo {l : List (Int × Int)} (h : svalid l = true) (t : Int) (h1 : 0 ≤ t) (h2 : t < 1099511627776) (h3 : 0 ≤ rat l t) : ∀ k : Nat, cnt (levTo l k) t = if (k : Int) ≤ rat l t then (k : Int) else rat l t
  | 0 => by have e : cnt (levTo l 0) t = 0 := rfl
            rw [e]; split <;> omega
  | k + 1 => by
    rw [levTo_succ, cnt_append, cnt_levTo h t h1 h2 h3 k, cnt_atl h _ t h1 h2]
    split <;> split <;> split <;> omega
theorem cnt_perm {a b : List (Int × Int)} (h : a.Perm b) (t : Int) : cnt a t = cnt b t := by
  unfold cnt
  induction h with
  | nil => rfl
  | cons x _ ih => simp only [List.map_cons, List.sum_cons, ih]
  | swap x y l => simp only [List.map_cons, List.sum_cons]; omega
  | trans _ _ ih1 ih2 => exact ih1.trans ih2
theorem cnt_levM {l : List (Int × Int)} (h : svalid l = true) (t : Int) (h1 : 0 ≤ t) (h2 : t < 1099511627776) (h3 : 0 ≤ rat l t) (h4 : rat l t ≤ 12) : cnt (levM l) t = rat l t := by
  have hp : (levM l).Perm (levTo l 12) := (place_all (levAll l) [] .nil).2
  rw [cnt_perm hp, cnt_levTo h t h1 h2 h3]
  split <;> omega
def ones (X : List (Int × Int)) : List ((Int × Int) × Int) := X.map fun p => (p, 1)
theorem isum_ones (X : List (Int × Int)) (t : Int) : isum (ones X) t = cnt X t := by
  unfold isum ones cnt; rw [List.map_map]; rfl
theorem rebuilt {l : List (Int × Int)} (h : svalid l = true) (h0 : ∀ t, 0 ≤ rat l t) (h12 : ∀ t, rat l t ≤ 12) : combS (rsum (ones (levM l))) (ofPts (ones (levM l))) = l := by
  obtain ⟨g1, g2⟩ := of_ok (ones (levM l))
  refine svalid_ext g1 h fun t t1 t2 => ?_
  rw [g2 t t1 t2, rsum_eq, isum_ones, cnt_levM h t t1 t2 (h0 t) (h12 t)]
  have := h0 t; have := h12 t
  unfold wrap64; omega

end Go.Proofs.Ytllenmkmompjpaa
