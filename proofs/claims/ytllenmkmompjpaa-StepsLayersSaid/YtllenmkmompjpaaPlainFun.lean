/- Plain facts: a valid list of steps is determined by its values; what the value of a combination is. No condition. -/
import Derived.Test.YtllenmkmompjpaaW20
namespace Go.Proofs.Ytllenmkmompjpaa
open Go.RowKit

theorem validFrom_asc : ∀ {l : List (Int × Int)} {p : Int × Int}, validFrom p l = true → (p :: l).Pairwise (fun x y => x.1 < y.1) ∧ ∀ s ∈ l, s.1 < 1099511627776
  | [], p, _ => ⟨by simp, by simp⟩
  | q :: r, p, h => by
    simp only [validFrom, Bool.and_eq_true] at h
    obtain ⟨h1, h2⟩ := validFrom_asc (l := r) (p := q) h.2
    have hs : p.1 < q.1 ∧ q.1 < 1099511627776 := by have := h.1; simp [stepOk] at this; omega
    refine ⟨List.pairwise_cons.2 ⟨fun y hy => ?_, h1⟩, fun s hs' => ?_⟩
    · rcases List.mem_cons.1 hy with e | e
      · subst e; exact hs.1
      · have := (List.pairwise_cons.1 h1).1 y e; omega
    · rcases List.mem_cons.1 hs' with e | e
      · subst e; exact hs.2
      · exact h2 s e
theorem svalid_asc {l : List (Int × Int)} (h : svalid l = true) : Asc l ∧ (∀ s ∈ l, s.1 < 1099511627776) ∧ l ≠ [] ∧ ∀ x, l[0]? = some x → x.1 = 0 := by
  match l, h with
  | p :: r, h =>
    simp only [svalid, Bool.and_eq_true, beq_iff_eq] at h
    obtain ⟨h1, h2⟩ := validFrom_asc h.2
    refine ⟨Asc.of_list h1, fun s hs => ?_, by simp, fun x hx => ?_⟩
    · rcases List.mem_cons.1 hs with e | e
      · subst e; omega
      · exact h2 s e
    · simp at hx; subst hx; exact h.1

/-- The value of the last step that is not behind t; z if there is none. -/
def lastV (z : Int) (l : List (Int × Int)) (t : Int) : Int := l.foldl (fun n s => if s.1 ≤ t then s.2 else n) z
theorem rat_in {l : List (Int × Int)} {t : Int} (h1 : 0 ≤ t) (h2 : t < 1099511627776) : rat l t = lastV 0 l t := by unfold rat; rw [if_pos ⟨h1, h2⟩]; rfl
theorem rat_out {l : List (Int × Int)} {t : Int} (h : ¬ (0 ≤ t ∧ t < 1099511627776)) : rat l t = 0 := by unfold rat; rw [if_neg h]
theorem lastV_cons (z : Int) (p : Int × Int) (l : List (Int × Int)) (t : Int) : lastV z (p :: l) t = lastV (if p.1 ≤ t then p.2 else z) l t := rfl
theorem lastV_skip {z : Int} {l : List (Int × Int)} {t : Int} (h : ∀ x ∈ l, t < x.1) : lastV z l t = z := fold_skip t l z h
/-- Two lists that start alike, are valid from there and have the same values are one. -/
theorem valid_ext : ∀ (u v : List (Int × Int)) (p : Int × Int), 0 ≤ p.1 → validFrom p u = true → validFrom p v = true → (∀ t, p.1 ≤ t → t < 1099511627776 → lastV p.2 u t = lastV p.2 v t) → u = v
  | [], [], _, _, _, _, _ => rfl
  | [], q :: v, p, h0, _, hv, h => by
    exfalso
    simp only [validFrom, Bool.and_eq_true] at hv
    have hq : p.1 < q.1 ∧ q.1 < 1099511627776 ∧ q.2 ≠ p.2 := by have := hv.1; simp [stepOk] at this; exact ⟨this.1.1, this.1.2, this.2⟩
    have h1 := h q.1 (by omega) hq.2.1
    have h2 : lastV p.2 (q :: v) q.1 = q.2 := by rw [lastV_cons, if_pos (Int.le_refl _)]; exact lastV_skip (fun x hx => (List.pairwise_cons.1 (validFrom_asc hv.2).1).1 x hx)
    exact hq.2.2 (h2.symm.trans h1.symm)
  | q :: u, [], p, h0, hu, _, h => by
    exfalso
    simp only [validFrom, Bool.and_eq_true] at hu
    have hq : p.1 < q.1 ∧ q.1 < 1099511627776 ∧ q.2 ≠ p.2 := by have := hu.1; simp [stepOk] at this; exact ⟨this.1.1, this.1.2, this.2⟩
    have h1 := h q.1 (by omega) hq.2.1
    have h2 : lastV p.2 (q :: u) q.1 = q.2 := by rw [lastV_cons, if_pos (Int.le_refl _)]; exact lastV_skip (fun x hx => (List.pairwise_cons.1 (validFrom_asc hu.2).1).1 x hx)
    exact hq.2.2 (h2.symm.trans h1)
  | q :: u, r :: v, p, h0, hu, hv, h => by
    simp only [validFrom, Bool.and_eq_true] at hu hv
    have hq : p.1 < q.1 ∧ q.1 < 1099511627776 ∧ q.2 ≠ p.2 := by have := hu.1; simp [stepOk] at this; exact ⟨this.1.1, this.1.2, this.2⟩
    have hr : p.1 < r.1 ∧ r.1 < 1099511627776 ∧ r.2 ≠ p.2 := by have := hv.1; simp [stepOk] at this; exact ⟨this.1.1, this.1.2, this.2⟩
    have au := (List.pairwise_cons.1 (validFrom_asc hu.2).1).1
    have av := (List.pairwise_cons.1 (validFrom_asc hv.2).1).1
    have eu : ∀ t, t < q.1 → lastV p.2 (q :: u) t = p.2 := fun t ht => lastV_skip fun x hx => by
      rcases List.mem_cons.1 hx with e | e
      · subst e; exact ht
      · have := au x e; omega
    have ev : ∀ t, t < r.1 → lastV p.2 (r :: v) t = p.2 := fun t ht => lastV_skip fun x hx => by
      rcases List.mem_cons.1 hx with e | e
      · subst e; exact ht
      · have := av x e; omega
    have vq : lastV p.2 (q :: u) q.1 = q.2 := by rw [lastV_cons, if_pos (Int.le_refl _), lastV_skip (fun x hx => au x hx)]
    have vr : lastV p.2 (r :: v) r.1 = r.2 := by rw [lastV_cons, if_pos (Int.le_refl _), lastV_skip (fun x hx => av x hx)]
    have hfr : q.1 = r.1 := by
      rcases Int.lt_trichotomy q.1 r.1 with e | e | e
      · exfalso
        have h1 := h q.1 (by omega) hq.2.1
        rw [vq, ev q.1 e] at h1
        exact hq.2.2 h1
      · exact e
      · exfalso
        have h1 := h r.1 (by omega) hr.2.1
        rw [vr, eu r.1 e] at h1
        exact hr.2.2 h1.symm
    have hval : q.2 = r.2 := by
      have h1 := h q.1 (by omega) hq.2.1
      rw [vq, hfr, vr] at h1
      exact h1
    have hqr : q = r := Prod.ext hfr hval
    subst hqr
    rw [valid_ext u v q (by omega) hu.2 hv.2 fun t ht1 ht2 => ?_]
    have h1 := h t (by omega) ht2
    rw [lastV_cons, lastV_cons, if_pos ht1] at h1
    exact h1
theorem svalid_ext {u v : List (Int × Int)} (hu : svalid u = true) (hv : svalid v = true) (h : ∀ t, 0 ≤ t → t < 1099511627776 → rat u t = rat v t) : u = v := by
  match u, v, hu, hv with
  | p :: u, q :: v, hu, hv =>
    simp only [svalid, Bool.and_eq_true, beq_iff_eq] at hu hv
    have au := (List.pairwise_cons.1 (validFrom_asc hu.2).1).1
    have av := (List.pairwise_cons.1 (validFrom_asc hv.2).1).1
    have h0 := h 0 (by omega) (by omega)
    rw [rat_in (by omega) (by omega), rat_in (by omega) (by omega), lastV_cons, lastV_cons, if_pos (by omega), if_pos (by omega), lastV_skip (fun x hx => by have := au x hx; omega), lastV_skip (fun x hx => by have := av x hx; omega)] at h0
    have hpq : p = q := Prod.ext (by omega) h0
    subst hpq
    rw [valid_ext u v p (by omega) hu.2 hv.2 fun t ht1 ht2 => ?_]
    have h1 := h t (by omega) ht2
    rw [rat_in (by omega) ht2, rat_in (by omega) ht2, lastV_cons, lastV_cons, if_pos ht1] at h1
    exact h1

theorem lastV_snoc (z : Int) (l : List (Int × Int)) (q : Int × Int) (t : Int) : lastV z (l ++ [q]) t = if q.1 ≤ t then q.2 else lastV z l t := by unfold lastV; rw [List.foldl_append]; rfl
theorem svalid_snoc {u : List (Int × Int)} {x y : Int} {q : Int × Int} (hu : svalid u = true) (hl : u.getLast? = some (x, y)) (h1 : x < q.1) (h2 : q.1 < 1099511627776) (h3 : q.2 ≠ y) : svalid (u ++ [q]) = true := by
  match u, hu with
  | p :: r, hu =>
    simp only [svalid, Bool.and_eq_true, beq_iff_eq] at hu
    simp only [List.cons_append, svalid, Bool.and_eq_true, beq_iff_eq]
    refine ⟨hu.1, ?_⟩
    have he : (p :: r).getLast (by simp) = (x, y) := by
      rw [List.getLast?_eq_some_getLast (by simp)] at hl
      exact Option.some.inj hl
    rw [validFrom_snoc, hu.2, he]
    unfold stepOk
    simp [h1, h2, h3]
theorem lastV_end {u : List (Int × Int)} (ha : Asc u) {x y t : Int} (hl : u.getLast? = some (x, y)) (ht : x ≤ t) (z : Int) : lastV z u t = y := by
  have hne : u ≠ [] := by intro e; subst e; simp at hl
  have hu : u = u.dropLast ++ [(x, y)] := by
    have h1 := List.dropLast_concat_getLast hne
    rw [List.getLast?_eq_some_getLast hne] at hl
    rw [← Option.some.inj hl]; exact h1.symm
  rw [hu, lastV_snoc, if_pos ht]
theorem put_val {u : List (Int × Int)} (ha : Asc u) {x y p v : Int} (hl : u.getLast? = some (x, y)) (hp : x < p) (z t : Int) : lastV z (putS u (p, v)) t = if p ≤ t then v else lastV z u t := by
  unfold putS
  rw [hl]
  simp only [Option.map_some, Option.some.injEq]
  by_cases e : y = v
  · rw [if_pos e]
    split
    · rw [lastV_end ha hl (by omega), e]
    · rfl
  · rw [if_neg e, lastV_snoc]
theorem put_valid {u : List (Int × Int)} {x y p v : Int} (hu : svalid u = true) (hl : u.getLast? = some (x, y)) (hp : x < p) (hF : p < 1099511627776) : svalid (putS u (p, v)) = true ∧ ∃ x' y', (putS u (p, v)).getLast? = some (x', y') ∧ x' ≤ p := by
  unfold putS
  rw [hl]
  simp only [Option.map_some, Option.some.injEq]
  by_cases e : y = v
  · rw [if_pos e]; exact ⟨hu, x, y, hl, by omega⟩
  · rw [if_neg e]; exact ⟨svalid_snoc hu hl hp hF (fun h => e h.symm), p, v, by simp, Int.le_refl _⟩
theorem comb_fold (f : Int → Int) : ∀ (P : List Int) (u : List (Int × Int)) (x y : Int), svalid u = true → u.getLast? = some (x, y) → (∀ p ∈ P, x < p ∧ p < 1099511627776) → SAsc P →
    svalid (P.foldl (fun acc p => putS acc (p, f p)) u) = true ∧ ∀ z t, lastV z (P.foldl (fun acc p => putS acc (p, f p)) u) t = lastV (lastV z u t) (P.map fun p => (p, f p)) t
  | [], u, x, y, hu, hl, _, _ => ⟨hu, fun z t => rfl⟩
  | p :: P, u, x, y, hu, hl, hP, hA => by
    obtain ⟨h1, h2⟩ := hP p (by simp)
    obtain ⟨g1, x', y', g2, g3⟩ := put_valid (v := f p) hu hl h1 h2
    obtain ⟨k1, k2⟩ := comb_fold f P (putS u (p, f p)) x' y' g1 g2 (fun q hq => ⟨by have := hA.head q hq; omega, (hP q (by simp [hq])).2⟩) hA.tail
    refine ⟨k1, fun z t => ?_⟩
    rw [List.foldl_cons, k2, put_val (svalid_asc hu).1 hl h1, List.map_cons, lastV_cons]
/-- The steps of f at ascending places from 0 on: a valid list; its values. -/
theorem comb_spec (f : Int → Int) {P : List Int} (hA : SAsc P) (h0 : P.head? = some 0) (hF : ∀ p ∈ P, p < 1099511627776) : svalid (combS f P) = true ∧ ∀ z t, lastV z (combS f P) t = lastV z (P.map fun p => (p, f p)) t := by
  match P, h0 with
  | p :: P, h0 =>
    simp at h0
    subst h0
    have h1 := comb_fold f P [(0, f 0)] 0 (f 0) rfl rfl (fun q hq => ⟨hA.head q hq, hF q (by simp [hq])⟩) hA.tail
    have h2 : combS f (0 :: P) = P.foldl (fun acc p => putS acc (p, f p)) [(0, f 0)] := rfl
    rw [h2]
    refine ⟨h1.1, fun z t => ?_⟩
    rw [h1.2, List.map_cons, lastV_cons]
    rfl
/-- g does not change between two places. -/
def Const (g : Int → Int) (P : List Int) : Prop := ∀ t p, 0 ≤ t → t < 1099511627776 → p ∈ P → p ≤ t → (∀ q ∈ P, q ≤ t → q ≤ p) → g t = g p
theorem lastV_map (g : Int → Int) : ∀ (P : List Int) (z t : Int), SAsc P → (∃ p ∈ P, p ≤ t) → ∃ p ∈ P, p ≤ t ∧ (∀ q ∈ P, q ≤ t → q ≤ p) ∧ lastV z (P.map fun p => (p, g p)) t = g p
  | [], z, t, _, ⟨p, hp, _⟩ => by simp at hp
  | a :: P, z, t, hA, ⟨p, hp, hpt⟩ => by
    have hat : a ≤ t := by
      rcases List.mem_cons.1 hp with e | e
      · omega
      · have := hA.head p e; omega
    rw [List.map_cons, lastV_cons, if_pos hat]
    by_cases h : ∃ q ∈ P, q ≤ t
    · obtain ⟨q, h1, h2, h3, h4⟩ := lastV_map g P (g a) t hA.tail h
      refine ⟨q, by simp [h1], h2, fun r hr hrt => ?_, h4⟩
      rcases List.mem_cons.1 hr with e | e
      · have := hA.head q h1; omega
      · exact h3 r e hrt
    · refine ⟨a, by simp, hat, fun r hr hrt => ?_, ?_⟩
      · rcases List.mem_cons.1 hr with e | e
        · omega
        · exact absurd ⟨r, e, hrt⟩ h
      · refine lastV_skip fun x hx => ?_
        obtain ⟨q, hq, e⟩ := List.mem_map.1 hx
        subst e
        exact Int.not_le.1 fun hh => h ⟨q, hq, hh⟩
theorem comb_rat (g : Int → Int) {P : List Int} (hA : SAsc P) (h0 : P.head? = some 0) (hF : ∀ p ∈ P, p < 1099511627776) (hC : Const g P) {t : Int} (t1 : 0 ≤ t) (t2 : t < 1099511627776) : rat (combS g P) t = g t := by
  rw [rat_in t1 t2, (comb_spec g hA h0 hF).2]
  have h0m : (0 : Int) ∈ P := List.mem_of_mem_head? h0
  obtain ⟨p, h1, h2, h3, h4⟩ := lastV_map g P 0 t hA ⟨0, h0m, t1⟩
  rw [h4, hC t p t1 t2 h1 h2 h3]
theorem rat_const {l : List (Int × Int)} {t p : Int} (t2 : t < 1099511627776) (p1 : 0 ≤ p) (hpt : p ≤ t) (h : ∀ s ∈ l, s.1 ≤ t → s.1 ≤ p) : rat l t = rat l p := by
  rw [rat_in (by omega) t2, rat_in p1 (by omega)]
  have key : ∀ (l : List (Int × Int)) (z : Int), (∀ s ∈ l, s.1 ≤ t → s.1 ≤ p) → lastV z l t = lastV z l p := by
    intro l
    induction l with
    | nil => intro z _; rfl
    | cons s l ih =>
      intro z hs
      rw [lastV_cons, lastV_cons, ih _ fun q hq => hs q (by simp [hq])]
      congr 1
      by_cases e : s.1 ≤ t
      · rw [if_pos e, if_pos (hs s (by simp) e)]
      · rw [if_neg e, if_neg (by omega)]
  exact key l 0 h
theorem head_zero {P : List Int} (hA : SAsc P) (h0 : (0 : Int) ∈ P) (hp : ∀ p ∈ P, 0 ≤ p) : P.head? = some 0 := by
  match P, h0 with
  | a :: P, h0 =>
    have ha := hp a (by simp)
    rcases List.mem_cons.1 h0 with e | e
    · rw [← e]; rfl
    · have := hA.head 0 e; omega
theorem svalid_nonneg {l : List (Int × Int)} (h : svalid l = true) : ∀ s ∈ l, 0 ≤ s.1 := by
  obtain ⟨h1, _, h3, h4⟩ := svalid_asc h
  intro s hs
  obtain ⟨i, hi, e⟩ := List.mem_iff_getElem.1 hs
  have hpos : 0 < l.length := by omega
  have h0 := h4 l[0] (List.getElem?_eq_getElem hpos)
  by_cases e0 : i = 0
  · subst e0; rw [← e]; omega
  · have := h1 0 i _ _ (by omega) (List.getElem?_eq_getElem hpos) (List.getElem?_eq_getElem hi)
    rw [e] at this; omega
theorem svalid_zero {l : List (Int × Int)} (h : svalid l = true) : (0 : Int) ∈ l.map (·.1) := by
  obtain ⟨_, _, h3, h4⟩ := svalid_asc h
  have hpos : 0 < l.length := by cases l with | nil => exact absurd rfl h3 | cons _ _ => simp
  have h0 := h4 l[0] (List.getElem?_eq_getElem hpos)
  rw [← h0]
  exact List.mem_map_of_mem (List.getElem_mem hpos)
/-- The places of two valid lists. -/
theorem pts_ok {a b : List (Int × Int)} (ha : svalid a = true) (hb : svalid b = true ∨ b = []) : SAsc (pts a b) ∧ (pts a b).head? = some 0 ∧ (∀ p ∈ pts a b, p < 1099511627776) ∧ ∀ p ∈ pts a b, 0 ≤ p := by
  have hmem : ∀ p ∈ pts a b, 0 ≤ p ∧ p < 1099511627776 := by
    intro p hp
    rcases (mem_pts a b p).1 hp with e | e
    · obtain ⟨s, hs, rfl⟩ := List.mem_map.1 e
      exact ⟨svalid_nonneg ha s hs, (svalid_asc ha).2.1 s hs⟩
    · rcases hb with hb | hb
      · obtain ⟨s, hs, rfl⟩ := List.mem_map.1 e
        exact ⟨svalid_nonneg hb s hs, (svalid_asc hb).2.1 s hs⟩
      · subst hb; simp at e
  exact ⟨pts_asc a b, head_zero (pts_asc a b) ((mem_pts a b 0).2 (.inl (svalid_zero ha))) fun p hp => (hmem p hp).1, fun p hp => (hmem p hp).2, fun p hp => (hmem p hp).1⟩
theorem const_op (op : Int → Int → Int) {a b : List (Int × Int)} (hn : ∀ p ∈ pts a b, 0 ≤ p) : Const (fun p => op (rat a p) (rat b p)) (pts a b) := by
  intro t p t1 t2 hp hpt hmax
  have e1 : rat a t = rat a p := rat_const t2 (hn p hp) hpt fun s hs hst => hmax _ ((mem_pts a b _).2 (.inl (List.mem_map_of_mem hs))) hst
  have e2 : rat b t = rat b p := rat_const t2 (hn p hp) hpt fun s hs hst => hmax _ ((mem_pts a b _).2 (.inr (List.mem_map_of_mem hs))) hst
  show op _ _ = op _ _
  rw [e1, e2]
/-- A combination of two valid lists: valid; its value at an instant. -/
theorem comb_ok (op : Int → Int → Int) {a b : List (Int × Int)} (ha : svalid a = true) (hb : svalid b = true ∨ b = []) :
    svalid (combS (fun p => op (rat a p) (rat b p)) (pts a b)) = true ∧ ∀ t, 0 ≤ t → t < 1099511627776 → rat (combS (fun p => op (rat a p) (rat b p)) (pts a b)) t = op (rat a t) (rat b t) := by
  obtain ⟨h1, h2, h3, h4⟩ := pts_ok ha hb
  exact ⟨(comb_spec _ h1 h2 h3).1, fun t t1 t2 => comb_rat _ h1 h2 h3 (const_op op h4) t1 t2⟩
/-- Of: valid; its value at an instant. -/
theorem of_ok (l : List ((Int × Int) × Int)) : svalid (combS (rsum l) (ofPts l)) = true ∧ ∀ t, 0 ≤ t → t < 1099511627776 → rat (combS (rsum l) (ofPts l)) t = rsum l t := by
  obtain ⟨h1, h2⟩ := ofPts_spec l
  have hnn : ∀ p ∈ ofPts l, 0 ≤ p := by
    intro p hp
    rcases ((h2 p).1 hp).1 with e | ⟨y, hy⟩
    · omega
    · exact (chg_range (p, y) hy).1
  have h0 : (ofPts l).head? = some 0 := head_zero h1 ((h2 0).2 ⟨.inl rfl, by omega⟩) hnn
  have hF : ∀ p ∈ ofPts l, p < 1099511627776 := fun p hp => ((h2 p).1 hp).2
  have hC : Const (rsum l) (ofPts l) := by
    intro t p t1 t2 hp hpt hmax
    rw [rsum_eq, rsum_eq]
    congr 1
    unfold isum
    congr 1
    refine List.map_congr_left fun c hc => ?_
    have hiff : pcontains c.1 t = pcontains c.1 p := by
      unfold pcontains
      by_cases hv : pvalid c.1 = true
      · have hm : ∀ q, q = c.1.1 ∨ q = c.1.2 → q ≤ t → q ≤ p := by
          intro q hq hqt
          refine hmax q ((h2 q).2 ⟨.inr ?_, by omega⟩) hqt
          rcases hq with e | e
          · exact ⟨c.2, List.mem_flatMap.2 ⟨c, hc, by unfold chg1; rw [if_pos hv]; simp [e]⟩⟩
          · exact ⟨wrap64 (-c.2), List.mem_flatMap.2 ⟨c, hc, by unfold chg1; rw [if_pos hv]; simp [e]⟩⟩
        have m1 := hm c.1.1 (.inl rfl)
        have m2 := hm c.1.2 (.inr rfl)
        rw [hv, Bool.true_and, Bool.true_and, Bool.eq_iff_iff]
        simp only [Bool.and_eq_true, decide_eq_true_eq]
        constructor
        · rintro ⟨u1, u2⟩; exact ⟨m1 u1, by omega⟩
        · rintro ⟨u1, u2⟩
          refine ⟨by omega, Int.not_le.1 fun hh => ?_⟩
          have := m2 hh; omega
      · have : pvalid c.1 = false := by simpa using hv
        rw [this]; simp
    rw [hiff]
  exact ⟨(comb_spec _ h1 h0 hF).1, fun t t1 t2 => comb_rat _ h1 h0 hF hC t1 t2⟩
end Go.Proofs.Ytllenmkmompjpaa
