/- The plain law of StepsLayers: higher levels lie within lower ones; two levels are disjoint or nested. No condition. -/
import Derived.Test.YtllenmkmompjpaaPlainReb
namespace Go.Proofs.Ytllenmkmompjpaa

def SepB (out : List (Int × Int)) (a : Int) : Prop := out.Pairwise (fun p q => p.2 < q.1) ∧ ∀ q ∈ out, pvalid q = true ∧ q.2 ≤ a
theorem pvalid_iff (p : Int × Int) : pvalid p = true ↔ 0 ≤ p.1 ∧ p.1 < p.2 ∧ p.2 ≤ 1099511627776 := by simp [pvalid]; omega
theorem sep_step (n v : Int) (out : List (Int × Int)) {a b : Int} (h0 : 0 ≤ a) (h1 : a < b) (h2 : b ≤ 1099511627776) (hs : SepB out a) : SepB (atStep n out ((a, b), v)) b := by
  obtain ⟨hp, hv⟩ := hs
  have hvb : ∀ q ∈ out, pvalid q = true ∧ q.2 ≤ b := fun q hq => ⟨(hv q hq).1, by have := (hv q hq).2; omega⟩
  have hab : pvalid (a, b) = true := (pvalid_iff _).2 ⟨h0, h1, h2⟩
  unfold atStep
  split
  · unfold joinP
    split
    · rename_i q hq
      have hout : out = out.dropLast ++ [q] := by
        rw [List.getLast?_eq_some_iff] at hq
        obtain ⟨ys, rfl⟩ := hq
        simp
      have hqv := hv q (List.mem_of_getLast? hq)
      have hqp := (pvalid_iff q).1 hqv.1
      rw [hout] at hp
      obtain ⟨hp1, _, hp3⟩ := List.pairwise_append.1 hp
      split
      · refine ⟨?_, fun x hx => ?_⟩
        · rw [List.pairwise_append]
          refine ⟨hp1, by simp, fun x hx y hy => ?_⟩
          simp at hy; subst hy
          exact hp3 x hx q (by simp)
        · rcases List.mem_append.1 hx with hx | hx
          · exact hvb x ((List.dropLast_sublist _).subset hx)
          · simp at hx; subst hx
            refine ⟨(pvalid_iff _).2 ⟨hqp.1, ?_, ?_⟩, ?_⟩ <;> simp <;> omega
      · rename_i hlt
        have hlt' : q.2 < a := by simpa using hlt
        refine ⟨?_, fun x hx => ?_⟩
        · rw [List.pairwise_append]
          refine ⟨by rw [hout]; exact hp, by simp, fun x hx y hy => ?_⟩
          simp at hy; subst hy
          rw [hout] at hx
          rcases List.mem_append.1 hx with hx | hx
          · have := hp3 x hx q (by simp); show x.2 < a; omega
          · simp at hx; subst hx; show x.2 < a; omega
        · rcases List.mem_append.1 hx with hx | hx
          · exact hvb x hx
          · simp at hx; subst hx; exact ⟨hab, Int.le_refl _⟩
    · rename_i hq
      have : out = [] := by simpa using hq
      subst this
      refine ⟨by simp, fun x hx => ?_⟩
      simp at hx; subst hx; exact ⟨hab, Int.le_refl _⟩
  · exact ⟨hp, hvb⟩
theorem sep_segs (n : Int) : ∀ (r : List (Int × Int)) (x : Int × Int) (out : List (Int × Int)), 0 ≤ x.1 → (x :: r).Pairwise (fun p q => p.1 < q.1) → (∀ s ∈ x :: r, s.1 < 1099511627776) → SepB out x.1 → SepB ((segs (x :: r)).foldl (atStep n) out) 1099511627776
  | [], x, out, h0, _, hM, hs => sep_step n x.2 out h0 (hM x (by simp)) (Int.le_refl _) hs
  | y :: r, x, out, h0, hp, hM, hs => by
    have hxy : x.1 < y.1 := (List.pairwise_cons.1 hp).1 y (by simp)
    have hy := (List.pairwise_cons.1 hp).2
    have h1 := sep_step n x.2 out h0 hxy (by have := hM y (by simp); omega) hs
    exact sep_segs n r y _ (by omega) hy (fun s hs => hM s (List.mem_cons_of_mem _ hs)) h1
theorem sep_atl {l : List (Int × Int)} (h : svalid l = true) (n : Int) : SepB (atl l n) 1099511627776 := by
  match l, h with
  | p :: r, h =>
    have ha := svalid_asc h
    have hp0 : p.1 = 0 := ha.2.2.2 p rfl
    simp only [svalid, Bool.and_eq_true] at h
    have hv := validFrom_asc h.2
    exact sep_segs n r p [] (by omega) hv.1 ha.2.1 ⟨by simp, by simp⟩

theorem cnt_nonneg : ∀ (X : List (Int × Int)) (t : Int), 0 ≤ cnt X t
  | [], t => by simp [cnt]
  | p :: X, t => by
    have := cnt_nonneg X t
    simp only [cnt, List.map_cons, List.sum_cons] at this ⊢
    split <;> omega
theorem any_cnt : ∀ (X : List (Int × Int)) (t : Int), (X.any fun p => pcontains p t) = true ↔ 0 < cnt X t
  | [], t => by simp [cnt]
  | p :: X, t => by
    have ih := any_cnt X t
    have h0 := cnt_nonneg X t
    simp only [List.any_cons, Bool.or_eq_true, ih]
    simp only [cnt, List.map_cons, List.sum_cons] at h0 ⊢
    split
    · rename_i h; simp [h]; omega
    · rename_i h; simp [h]
theorem pcontains_iff (p : Int × Int) (t : Int) : pcontains p t = true ↔ pvalid p = true ∧ p.1 ≤ t ∧ t < p.2 := by
  simp only [pcontains, Bool.and_eq_true, decide_eq_true_eq]
  exact ⟨fun h => ⟨h.1.1, h.1.2, h.2⟩, fun h => ⟨⟨h.1, h.2.1⟩, h.2.2⟩⟩
theorem any_range {X : List (Int × Int)} {t : Int} (h : (X.any fun p => pcontains p t) = true) : 0 ≤ t ∧ t < 1099511627776 := by
  obtain ⟨p, _, hp⟩ := List.any_eq_true.1 h
  obtain ⟨h1, h2, h3⟩ := (pcontains_iff p t).1 hp
  have := (pvalid_iff p).1 h1
  omega
theorem any_atl {l : List (Int × Int)} (h : svalid l = true) (n t : Int) : ((atl l n).any fun p => pcontains p t) = true ↔ (0 ≤ t ∧ t < 1099511627776) ∧ n ≤ rat l t := by
  constructor
  · intro ha
    have hr := any_range ha
    have := (any_cnt _ _).1 ha
    rw [cnt_atl h n t hr.1 hr.2] at this
    refine ⟨hr, ?_⟩
    split at this
    · assumption
    · omega
  · rintro ⟨hr, hn⟩
    rw [any_cnt, cnt_atl h n t hr.1 hr.2, if_pos hn]; omega
theorem layers_sub {l : List (Int × Int)} (h : svalid l = true) (n t : Int) (ha : ((atl l (n + 1)).any fun p => pcontains p t) = true) : ((atl l n).any fun p => pcontains p t) = true := by
  rw [any_atl h] at ha ⊢
  exact ⟨ha.1, by omega⟩
theorem pw_mem {X : List (Int × Int)} (h : X.Pairwise (fun p q => p.2 < q.1)) : ∀ {p q}, p ∈ X → q ∈ X → p = q ∨ p.2 < q.1 ∨ q.2 < p.1 := by
  induction X with
  | nil => intro p q hp; cases hp
  | cons x X ih =>
    intro p q hp hq
    obtain ⟨h1, h2⟩ := List.pairwise_cons.1 h
    rcases List.mem_cons.1 hp with e1 | hp1 <;> rcases List.mem_cons.1 hq with e2 | hq1
    · exact .inl (e1.trans e2.symm)
    · exact .inr (.inl (by rw [e1]; exact h1 q hq1))
    · exact .inr (.inr (by rw [e2]; exact h1 p hp1))
    · exact ih h2 hp1 hq1
theorem out_left {X : List (Int × Int)} {b : Int} (h : SepB X b) {p : Int × Int} (hp : p ∈ X) : (X.any fun q => pcontains q (p.1 - 1)) = false ∧ (X.any fun q => pcontains q p.2) = false := by
  have hpv := (pvalid_iff p).1 (h.2 p hp).1
  constructor
  · rw [Bool.eq_false_iff]
    intro e
    obtain ⟨q, hq, hc⟩ := List.any_eq_true.1 e
    obtain ⟨_, h2, h3⟩ := (pcontains_iff q _).1 hc
    have hqv := (pvalid_iff q).1 (h.2 q hq).1
    rcases pw_mem h.1 hp hq with rfl | h4 | h4 <;> omega
  · rw [Bool.eq_false_iff]
    intro e
    obtain ⟨q, hq, hc⟩ := List.any_eq_true.1 e
    obtain ⟨_, h2, h3⟩ := (pcontains_iff q _).1 hc
    have hqv := (pvalid_iff q).1 (h.2 q hq).1
    rcases pw_mem h.1 hp hq with rfl | h4 | h4 <;> omega
theorem nest {l : List (Int × Int)} (h : svalid l = true) {a b : Int} (hab : a ≤ b) {p q : Int × Int} (hp : p ∈ atl l a) (hq : q ∈ atl l b) (ho : p.1 < q.2 ∧ q.1 < p.2) : pcovers p q = true := by
  have sa := sep_atl h a
  have sb := sep_atl h b
  have hpv := (pvalid_iff p).1 (sa.2 p hp).1
  have hqv := (pvalid_iff q).1 (sb.2 q hq).1
  have hin : ∀ t, q.1 ≤ t → t < q.2 → ((atl l a).any fun r => pcontains r t) = true := by
    intro t h1 h2
    have : ((atl l b).any fun r => pcontains r t) = true := List.any_eq_true.2 ⟨q, hq, (pcontains_iff q t).2 ⟨(sb.2 q hq).1, h1, h2⟩⟩
    rw [any_atl h] at this ⊢
    exact ⟨this.1, by omega⟩
  obtain ⟨hl, hr⟩ := out_left sa hp
  have h1 : p.1 ≤ q.1 := by
    rcases Int.lt_or_le q.1 p.1 with hc | hc
    · have := hin (p.1 - 1) (by omega) (by omega)
      rw [hl] at this; cases this
    · exact hc
  have h2 : q.2 ≤ p.2 := by
    rcases Int.lt_or_le p.2 q.2 with hc | hc
    · have := hin p.2 (by omega) (by omega)
      rw [hr] at this; cases this
    · exact hc
  simp only [pcovers, Bool.and_eq_true, decide_eq_true_eq]
  exact ⟨⟨⟨(sa.2 p hp).1, (sb.2 q hq).1⟩, h1⟩, h2⟩
theorem nested {l : List (Int × Int)} (h : svalid l = true) {p q : Int × Int} (hp : p ∈ levM l) (hq : q ∈ levM l) (ho : poverlaps p q = true) : pcovers p q = true ∨ pcovers q p = true := by
  have hp' := (levM_spec l).2.mem_iff.1 hp
  have hq' := (levM_spec l).2.mem_iff.1 hq
  unfold levAll at hp' hq'
  obtain ⟨j, _, hj⟩ := List.mem_flatMap.1 hp'
  obtain ⟨i, _, hi⟩ := List.mem_flatMap.1 hq'
  simp only [poverlaps, Bool.and_eq_true, decide_eq_true_eq] at ho
  rcases Nat.le_total j i with hji | hji
  · exact .inl (nest h (by omega) hj hi ⟨ho.1.2, ho.2⟩)
  · exact .inr (nest h (by omega) hi hj ⟨ho.2, ho.1.2⟩)
end Go.Proofs.Ytllenmkmompjpaa
