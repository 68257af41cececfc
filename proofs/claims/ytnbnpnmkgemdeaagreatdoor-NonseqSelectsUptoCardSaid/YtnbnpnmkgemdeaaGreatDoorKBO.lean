/- Parts of the proof, joined. No condition. -/
import Derived.Test.YtnbnpnmkgemdeaaGreatDoorKBN
import Derived.Test.YtnbnpnmkgemdeaaGreatDoorKBM
import Derived.Test.YtnbnpnmkgemdeaaGreatDoorRows
set_option linter.unusedSimpArgs false
set_option linter.unusedVariables false
namespace Go.Proofs.YtnbnpnmkgemdeaaGreatDoor
open Go.RowKit Go.MapKept
set_option maxRecDepth 100000
set_option linter.unusedVariables false
set_option linter.unusedSimpArgs false
theorem gValid1_eq (p : Per) : gValid1 p = some (pvalB p) := by
  unfold gValid1 pvalB
  cases h1 : decide (0 ≤ p.lo) <;> cases h2 : decide (p.lo < p.hi) <;> cases h3 : decide (p.hi ≤ 1099511627776) <;> simp_all
theorem gEqual8_self (x : List Val) (h : x.length ≤ 1000000) : gEqual8 x x = some true := by
  unfold gEqual8
  rw [gCmp8_eq x x (by omega) (by omega), Option.bind_some, totC_rcmp.refl]; rfl
theorem gDistinct8_rep (r : List Val) (hr : r.length ≤ 1000000) (k : Nat) (hk : k ≤ 63) : gDistinct8 (List.replicate k r) = some (if k = 0 then [] else [r]) := by
  unfold gDistinct8
  have hp := sortV_perm (List.replicate k r)
  have hs : sortV (List.replicate k r) = List.replicate k r := by
    refine List.eq_replicate_iff.2 ⟨by rw [hp.length_eq]; simp, fun b hb => ?_⟩
    exact (List.mem_replicate.1 (hp.mem_iff.1 hb)).2
  rw [gSortR_eq _ (by simpa using hk) (fun x hx => by rw [(List.mem_replicate.1 hx).2]; exact hr), Option.bind_some, hs]
  have hlen : (List.replicate k r).length = k := by simp
  have get : ∀ i, i < k → (List.replicate k r)[i]? = some r := fun i hi => by rw [List.getElem?_replicate]; simp [hi]
  have loop : ∀ (n i : Nat), 1 ≤ i → i ≤ k → k - i < n → loopM (gDistinct8_B1 (List.replicate k r)) n ([r], (i : Int)) = some (.inl ([r], (k : Int))) := by
    intro n
    induction n with
    | zero => intro i _ _ h; omega
    | succ n ih =>
      intro i h1 h2 hn
      rw [loopM]
      by_cases hlt : i < k
      · have hx := get i hlt
        have e : gDistinct8_B1 (List.replicate k r) ([r], (i : Int)) = some (.next ([r], ((i + 1 : Nat) : Int))) := by
          unfold gDistinct8_B1
          dsimp only
          rw [lt_dec hx, cond_true, show decide ((i : Int) = 0) = false from decide_eq_false (by omega), cond_false, show IntKind.i64.wrap ((i : Int) - 1) = ((i - 1 : Nat) : Int) from wrap_eq (by omega) (by omega), getI_nat (get (i - 1) (by omega)), getI_nat hx]
          simp only [Option.bind_some]
          rw [gEqual8_self r hr]
          simp only [Option.bind_some, Bool.not_true, cond_false]
          rw [wrapN (by omega)]
        rw [e]
        exact ih (i + 1) (by omega) (by omega) (by omega)
      · have : i = k := by omega
        subst this
        have e : gDistinct8_B1 (List.replicate i r) ([r], (i : Int)) = some (.exit ([r], (i : Int))) := by
          unfold gDistinct8_B1
          dsimp only
          rw [show decide ((i : Int) < (((List.replicate i r).length : Nat) : Int)) = false from decide_eq_false (by simp), cond_false]
        rw [e]
  by_cases h0 : k = 0
  · subst h0
    rw [if_pos rfl]
    have e : gDistinct8_B1 (List.replicate 0 r) ([], 0) = some (.exit ([], 0)) := by
      unfold gDistinct8_B1
      rfl
    show (loopM (gDistinct8_B1 (List.replicate 0 r)) (4611686018427387903 + 1) ([], 0)).bind gDistinct8_K1 = _
    rw [loopM, e]
    rfl
  · rw [if_neg h0]
    have hx := get 0 (by omega)
    have e : gDistinct8_B1 (List.replicate k r) ([], 0) = some (.next ([r], ((1 : Nat) : Int))) := by
      have hg := getI_nat hx
      unfold gDistinct8_B1
      dsimp only
      rw [show decide ((0 : Int) < (((List.replicate k r).length : Nat) : Int)) = true from decide_eq_true (by simp; omega), cond_true, show decide ((0 : Int) = 0) = true from rfl, cond_true]
      rw [show getI (List.replicate k r) 0 = some r from hg]
      rfl
    show (loopM (gDistinct8_B1 (List.replicate k r)) (4611686018427387903 + 1) ([], 0)).bind gDistinct8_K1 = _
    rw [loopM, e]
    dsimp only
    rw [loop 4611686018427387903 1 (by omega) (by omega) (by omega)]
    rfl
theorem gRows22_run (s : List Fct) (r : List Val) (hr : r.length ≤ 1000000) (hs : ∀ f ∈ s, f.row = r) (hn : s.length ≤ 63) : gRows22 s = some (if s.any fun f => pvalB f.valid then [r] else []) := by
  unfold gRows22
  have hfm : ∀ l : List Fct, (∀ f ∈ l, f.row = r) → (l.flatMap fun f => if pvalB f.valid then [f.row] else []) = List.replicate (l.countP fun f => pvalB f.valid) r := by
    intro l
    induction l with
    | nil => intro _; rfl
    | cons f l ih =>
      intro h
      rw [List.flatMap_cons, ih fun x hx => h x (List.mem_cons_of_mem _ hx), List.countP_cons, h f (by simp)]
      by_cases hv : pvalB f.valid = true
      · rw [if_pos hv, if_pos hv, List.replicate_succ]; rfl
      · rw [if_neg hv, if_neg hv]; rfl
  have hc : s.countP (fun f => pvalB f.valid) ≤ s.length := List.countP_le_length
  rw [loop_app (l := s) (fun f => if pvalB f.valid then [f.row] else []) 5864062014805 ?_ ?_ (by unfold fuel; omega) [] (by rw [hfm s hs]; simp; omega)]
  · rw [Option.bind_some, hfm s hs, List.nil_append]
    show (gDistinct8 _).bind _ = _
    rw [gDistinct8_rep r hr _ (by omega), Option.bind_some]
    by_cases ha : (s.any fun f => pvalB f.valid) = true
    · rw [if_pos ha, if_neg]
      intro e
      obtain ⟨f, hf, hv⟩ := List.any_eq_true.1 ha
      have := (List.countP_pos_iff (p := fun f : Fct => pvalB f.valid)).2 ⟨f, hf, hv⟩
      omega
    · rw [if_neg ha, if_pos]
      rw [List.countP_eq_zero]
      intro f hf hv
      exact ha (List.any_eq_true.2 ⟨f, hf, hv⟩)
  · intro o i x hx ho
    have hi := (List.getElem?_eq_some_iff.1 hx).1
    unfold gRows22_B1
    dsimp only
    rw [lt_dec hx, cond_true, getI_nat hx]
    simp only [Option.bind_some]
    rw [gValid1_eq, Option.bind_some]
    by_cases hv : pvalB x.valid = true
    · rw [if_pos hv] at ho ⊢
      rw [hv, cond_true, show decide (o.length + 1 ≤ 5864062014805) = true from decide_eq_true (by simpa using ho), cond_true, wrapN (by omega)]
    · rw [if_neg hv]
      rw [Bool.not_eq_true] at hv
      rw [hv, cond_false, wrapN (by omega), List.append_nil]
  · intro o
    unfold gRows22_B1
    dsimp only
    rw [lt_decF, cond_false]
def perAll (l : List Fct) (r : List Val) : List Per := (l.filter fun f => decide (f.row = r)).map (·.valid)
theorem gCounts22_eq (s : List Fct) (r : List Val) (hr : r.length ≤ 1000000) (hs : ∀ f ∈ s, f.row.length ≤ 1000000) (hn : s.length ≤ 1000) : gCounts22 s r = some (ofV (ones (perAll s r))) := by
  unfold gCounts22
  have hfm : ∀ l : List Fct, (l.flatMap fun f => if f.row = r then [(⟨f.valid, 1⟩ : Cnt)] else []) = ones (perAll l r) := by
    intro l
    induction l with
    | nil => rfl
    | cons f l ih =>
      rw [List.flatMap_cons, ih]
      unfold perAll ones
      by_cases e : f.row = r
      · rw [if_pos e, List.filter_cons_of_pos (by simpa using e)]; rfl
      · rw [if_neg e, List.filter_cons_of_neg (by simpa using e)]; rfl
  have hl : (perAll s r).length ≤ s.length := by unfold perAll; rw [List.length_map]; exact List.length_filter_le _ _
  have hl2 : (ones (perAll s r)).length = (perAll s r).length := by unfold ones; simp
  rw [loop_app (l := s) (fun f => if f.row = r then [(⟨f.valid, 1⟩ : Cnt)] else []) 5864062014805 ?_ ?_ (by unfold fuel; omega) [] (by rw [hfm]; simp; omega)]
  · rw [Option.bind_some, hfm, List.nil_append]
    show (gOfR _).bind _ = _
    unfold gOfR
    rw [show decide ((ones (perAll s r)).length ≤ 100000) = true from decide_eq_true (by omega)]
    rfl
  · intro o i x hx ho
    have hi := (List.getElem?_eq_some_iff.1 hx).1
    unfold gCounts22_B1
    dsimp only
    rw [lt_dec hx, cond_true, getI_nat hx]
    simp only [Option.bind_some]
    rw [gCmp8_eq x.row r (by have := hs x (List.mem_of_getElem? hx); omega) (by omega), Option.bind_some]
    by_cases e : x.row = r
    · rw [if_pos e] at ho ⊢
      rw [show decide (rcmp x.row r = 0) = true from decide_eq_true (by rw [e]; exact totC_rcmp.refl r), cond_true, show decide (o.length + 1 ≤ 5864062014805) = true from decide_eq_true (by simpa using ho), cond_true, wrapN (by omega)]
    · rw [if_neg e, show decide (rcmp x.row r = 0) = false from decide_eq_false fun q => e (totC_rcmp.zero _ _ q), cond_false, wrapN (by omega), List.append_nil]
  · intro o
    unfold gCounts22_B1
    dsimp only
    rw [lt_decF, cond_false]
theorem gDuring_eq (r : List Val) (ps : List Per) (hn : ps.length ≤ 1000000) : gDuring r ps = some (ps.map fun p => ⟨r, p⟩) := by
  unfold gDuring
  rw [loop_app (l := ps) (fun p => [(⟨r, p⟩ : Fct)]) 3518437208883 ?_ ?_ (by unfold fuel; omega) [] (by rw [flatMap_one]; simp; omega)]
  · rw [Option.bind_some, flatMap_one, List.nil_append]; rfl
  · intro o i x hx ho
    have hi := (List.getElem?_eq_some_iff.1 hx).1
    unfold gDuring_B1
    dsimp only
    rw [lt_dec hx, cond_true, getI_nat hx]
    simp only [Option.bind_some]
    rw [show decide (o.length + 1 ≤ 3518437208883) = true from decide_eq_true (by simpa using ho), cond_true, wrapN (by omega)]
  · intro o
    unfold gDuring_B1
    dsimp only
    rw [lt_decF, cond_false]
end Go.Proofs.YtnbnpnmkgemdeaaGreatDoor
namespace Go.Proofs.YtnbnpnmkgemdeaaGreatDoor
open Go.RowKit Go.MapKept
set_option maxRecDepth 100000
set_option linter.unusedVariables false
set_option linter.unusedSimpArgs false
theorem split_run (r : List Val) : ∀ l : List Fct, ∃ s t, l = s ++ t ∧ (∀ f ∈ s, f.row = r) ∧ (∀ f u, t = f :: u → f.row ≠ r)
  | [] => ⟨[], [], rfl, (fun _ h => by cases h), (fun _ _ h => by cases h)⟩
  | f :: l => by
    by_cases e : f.row = r
    · obtain ⟨s, t, h1, h2, h3⟩ := split_run r l
      refine ⟨f :: s, t, by rw [h1]; rfl, fun g hg => ?_, h3⟩
      rcases List.mem_cons.1 hg with rfl | hg
      · exact e
      · exact h2 g hg
    · exact ⟨[], f :: l, rfl, (fun _ h => by cases h), (fun g u h => by injection h with h1 h2; subst h1; exact e)⟩
theorem subI_mid {α : Type} (P s t : List α) : subI (P ++ s ++ t) ((P.length : Nat) : Int) (((P.length + s.length : Nat) : Nat) : Int) = some s := by
  unfold subI
  rw [if_pos (by simp; omega), Int.toNat_natCast, Int.toNat_natCast]
  congr 1
  have e : (P ++ s ++ t).take (P.length + s.length) = P ++ s := by
    rw [List.take_append_of_le_length (by simp)]
    rw [List.take_of_length_le (by simp)]
  rw [e, List.drop_left]
theorem perAll_app (s t : List Fct) (r : List Val) : perAll (s ++ t) r = perAll s r ++ perAll t r := by unfold perAll; rw [List.filter_append, List.map_append]
theorem perAll_none {l : List Fct} {r : List Val} (h : ∀ f ∈ l, f.row ≠ r) : perAll l r = [] := by
  unfold perAll
  rw [List.map_eq_nil_iff, List.filter_eq_nil_iff]
  intro f hf e
  exact h f hf (of_decide_eq_true e)
def GrpsOf (l : List Fct) (G : List SGroup) : Prop := RowsOf l (G.map (·.row)) ∧ ∀ g ∈ G, g.steps = ofV (ones (perAll l g.row))
theorem run_end (P s t : List Fct) (r : List Val) (f0 : Fct) (hf0 : f0.row = r) (hrl : ∀ f ∈ P ++ s ++ t, f.row.length ≤ 1000000) (hn : (P ++ s ++ t).length ≤ 63) (hs : ∀ f ∈ s, f.row = r) (hs0 : s[0]? = some f0) (ht : ∀ f u, t = f :: u → f.row ≠ r) :
    ∀ (n j : Nat), j ≤ s.length → s.length - j < n → loopM (gGroups22_B6 (P ++ s ++ t) ((P.length : Nat) : Int)) n (((P.length + j : Nat) : Nat) : Int) = some (.inl (((P.length + s.length : Nat) : Nat) : Int)) := by
  have hi : (P ++ s ++ t)[P.length]? = some f0 := by
    rw [List.append_assoc, List.getElem?_append_right (Nat.le_refl _), Nat.sub_self, List.getElem?_append_left (by have := (List.getElem?_eq_some_iff.1 hs0).1; omega)]
    exact hs0
  have hnl : P.length + s.length ≤ 63 := by simp only [List.length_append] at hn; omega
  intro n
  induction n with
  | zero => intro j _ h; omega
  | succ n ih =>
    intro j hj hn2
    rw [loopM]
    by_cases hlt : j < s.length
    · obtain ⟨x, hx⟩ := get_of_lt hlt
      have hx2 : (P ++ s ++ t)[P.length + j]? = some x := by
        rw [List.append_assoc, List.getElem?_append_right (by omega), show P.length + j - P.length = j by omega, List.getElem?_append_left hlt]
        exact hx
      have hxm := List.mem_of_getElem? hx2
      have him := List.mem_of_getElem? hi
      have e : gGroups22_B6 (P ++ s ++ t) ((P.length : Nat) : Int) (((P.length + j : Nat) : Nat) : Int) = some (.next (((P.length + (j + 1) : Nat) : Nat) : Int)) := by
        unfold gGroups22_B6
        dsimp only
        rw [lt_dec hx2, cond_true, getI_nat hx2, getI_nat hi]
        simp only [Option.bind_some]
        rw [gCmp8_eq x.row f0.row (by have := hrl x hxm; omega) (by have := hrl f0 him; omega), Option.bind_some]
        rw [hs x (List.mem_of_getElem? hx), hf0, totC_rcmp.refl]
        rw [show decide ((0 : Int) = 0) = true from rfl, cond_true, wrapN (by omega)]
        rfl
      rw [e]
      exact ih (j + 1) (by omega) (by omega)
    · have hje : j = s.length := by omega
      subst hje
      have e : gGroups22_B6 (P ++ s ++ t) ((P.length : Nat) : Int) (((P.length + s.length : Nat) : Nat) : Int) = some (.exit (((P.length + s.length : Nat) : Nat) : Int)) := by
        unfold gGroups22_B6
        dsimp only
        cases t with
        | nil =>
          rw [show decide ((((P.length + s.length : Nat) : Nat) : Int) < (((P ++ s ++ ([] : List Fct)).length : Nat) : Int)) = false from decide_eq_false (by simp), cond_false]
        | cons y u =>
          have hy : (P ++ s ++ y :: u)[P.length + s.length]? = some y := by
            rw [List.getElem?_append_right (by simp), List.length_append, Nat.sub_self]; rfl
          rw [lt_dec hy, cond_true, getI_nat hy, getI_nat hi]
          simp only [Option.bind_some]
          rw [gCmp8_eq y.row f0.row (by have := hrl y (List.mem_of_getElem? hy); omega) (by have := hrl f0 (List.mem_of_getElem? hi); omega), Option.bind_some]
          rw [show decide (rcmp y.row f0.row = 0) = false from decide_eq_false fun q => ht y u rfl ((totC_rcmp.zero _ _ q).trans hf0), cond_false]
      rw [e]
theorem groups_at (all : List Fct) (hrl : ∀ f ∈ all, f.row.length ≤ 1000000) (hn : all.length ≤ 63) (ha : AscF all) :
    ∀ (n : Nat) (P t : List Fct) (out : List SGroup), all = P ++ t → t.length < n → out.length ≤ P.length → ∃ G, GrpsOf t G ∧ loopM (gGroups22_B5 all) n (out, ((P.length : Nat) : Int)) = some (.inl (out ++ G, ((all.length : Nat) : Int))) := by
  intro n
  induction n with
  | zero => intro P t out _ h; omega
  | succ n ih =>
    intro P t out hall htn hout
    rw [loopM]
    match t, hall, htn with
    | [], hall, _ =>
      refine ⟨[], ⟨⟨List.Pairwise.nil, fun x => ?_⟩, fun g hg => by cases hg⟩, ?_⟩
      · constructor
        · intro h; cases h
        · rintro ⟨f, hf, _⟩; cases hf
      · have e : gGroups22_B5 all (out, ((P.length : Nat) : Int)) = some (.exit (out, ((P.length : Nat) : Int))) := by
          unfold gGroups22_B5
          dsimp only
          rw [show decide (((P.length : Nat) : Int) < ((all.length : Nat) : Int)) = false from decide_eq_false (by rw [hall]; simp), cond_false]
        rw [e, hall]; simp
    | f0 :: t0, hall, htn =>
      obtain ⟨s, u, hsu, hs, hu⟩ := split_run f0.row (f0 :: t0)
      have hs0 : s[0]? = some f0 := by
        cases s with
        | nil => exact absurd rfl (hu f0 t0 (by rw [hsu]; rfl))
        | cons y s' => rw [List.cons_append] at hsu; injection hsu with h1 _; rw [h1]; rfl
      have hsl : 0 < s.length := (List.getElem?_eq_some_iff.1 hs0).1
      have hall2 : all = P ++ s ++ u := by rw [hall, hsu, List.append_assoc]
      have hlen := congrArg List.length hall2
      simp only [List.length_append] at hlen
      have hu2 : u.length + s.length = (f0 :: t0).length := by rw [hsu]; simp; omega
      have hrun := run_end P s u f0.row f0 rfl (by rw [← hall2]; exact hrl) (by rw [← hall2]; exact hn) hs hs0 hu fuel 0 (Nat.zero_le _) (by unfold fuel; omega)
      rw [← hall2, Nat.add_zero] at hrun
      have hr0 : f0.row.length ≤ 1000000 := hrl f0 (by rw [hall]; simp)
      have hrs : ∀ f ∈ s, f.row.length ≤ 1000000 := fun f hf => hrl f (by rw [hall2]; simp [hf])
      have hrows := gRows22_run s f0.row hr0 hs (by omega)
      have hcnt := gCounts22_eq s f0.row hr0 hrs (by omega)
      -- what lies behind the run is greater
      have hgt : ∀ f ∈ u, rcmp f0.row f.row < 0 := by
        intro f hf
        have h1 : AscF u := by rw [hall2] at ha; exact (List.pairwise_append.1 ha).2.1
        have h2 : ∀ a ∈ P ++ s, ∀ b ∈ u, rcmp a.row b.row ≤ 0 := by rw [hall2] at ha; exact (List.pairwise_append.1 ha).2.2
        have hf0s : f0 ∈ P ++ s := List.mem_append_right _ (List.mem_of_getElem? hs0)
        cases u with
        | nil => cases hf
        | cons y v =>
          have hy0 := h2 f0 hf0s y (by simp)
          have hyn : rcmp f0.row y.row ≠ 0 := fun q => hu y v rfl (totC_rcmp.zero _ _ q).symm
          have hlt : rcmp f0.row y.row < 0 := by omega
          rcases List.mem_cons.1 hf with rfl | hf
          · exact hlt
          · have hyf := (List.pairwise_cons.1 h1).1 f hf
            rcases Int.lt_or_eq_of_le hyf with h | h
            · exact totC_rcmp.trans _ _ _ hlt h
            · rw [← totC_rcmp.zero _ _ h]; exact hlt
      have hne : ∀ f ∈ u, f.row ≠ f0.row := fun f hf e => by have := hgt f hf; rw [e, totC_rcmp.refl] at this; omega
      obtain ⟨o1, ho1⟩ : ∃ o1 : List SGroup, o1 = if s.any (fun f => pvalB f.valid) then [⟨f0.row, ofV (ones (perAll s f0.row))⟩] else [] := ⟨_, rfl⟩
      have ho1l : o1.length ≤ 1 := by rw [ho1]; split <;> simp
      obtain ⟨G, hG, hL⟩ := ih (P ++ s) u (out ++ o1) hall2 (by simp at htn; simp at hu2; omega) (by simp; omega)
      have hi0 : all[P.length]? = some f0 := by
        rw [hall, List.getElem?_append_right (Nat.le_refl _), Nat.sub_self]; rfl
      have e : gGroups22_B5 all (out, ((P.length : Nat) : Int)) = some (.next (out ++ o1, (((P ++ s).length : Nat) : Int))) := by
        unfold gGroups22_B5
        dsimp only
        rw [lt_dec hi0, cond_true, hrun, Option.bind_some]
        show (subI all ((P.length : Nat) : Int) (((P.length + s.length : Nat) : Nat) : Int)).bind _ = _
        rw [show subI all ((P.length : Nat) : Int) (((P.length + s.length : Nat) : Nat) : Int) = some s by rw [hall2]; exact subI_mid P s u, Option.bind_some, hrows, Option.bind_some]
        by_cases hv : (s.any fun f => pvalB f.valid) = true
        · rw [if_pos hv] at ho1 ⊢
          rw [loop_app (l := [f0.row]) (fun r => [(⟨r, ofV (ones (perAll s f0.row))⟩ : SGroup)]) 2932031007402 ?_ ?_ (by unfold fuel; simp) out (by simp; omega)]
          · rw [Option.bind_some, ho1, List.length_append]; rfl
          · intro o i x hx ho
            have hi := (List.getElem?_eq_some_iff.1 hx).1
            have hi1 : i = 0 := by simpa using hi
            subst hi1
            simp at hx; subst hx
            unfold gGroups22_B7
            dsimp only
            rw [show decide (((0 : Nat) : Int) < ((([f0.row] : List (List Val)).length : Nat) : Int)) = true from rfl, cond_true, show getI [f0.row] ((0 : Nat) : Int) = some f0.row from rfl, Option.bind_some, hcnt, Option.bind_some]
            rw [show decide (o.length + 1 ≤ 2932031007402) = true from decide_eq_true (by simpa using ho), cond_true, wrapN (by omega)]
          · intro o
            unfold gGroups22_B7
            dsimp only
            rw [lt_decF, cond_false]
        · rw [if_neg hv] at ho1 ⊢
          rw [loop_app (l := ([] : List (List Val))) (fun r => ([] : List SGroup)) 2932031007402 ?_ ?_ (by unfold fuel; simp) out (by simp; omega)]
          · rw [Option.bind_some, ho1, List.length_append]; simp [gGroups22_K7]
          · intro o i x hx; simp at hx
          · intro o
            unfold gGroups22_B7
            dsimp only
            rw [lt_decF, cond_false]
      refine ⟨o1 ++ G, ⟨⟨?_, fun x => ?_⟩, fun g hg => ?_⟩, ?_⟩
      · rw [List.map_append]
        refine List.pairwise_append.2 ⟨by rw [ho1]; split <;> simp, hG.1.1, fun a ha2 b hb => ?_⟩
        obtain ⟨f, hf, _, e⟩ := (hG.1.2 b).1 hb
        have : a = f0.row := by rw [ho1] at ha2; split at ha2 <;> simp at ha2; exact ha2
        rw [this, ← e]; exact hgt f hf
      · rw [List.map_append, List.mem_append, hG.1.2 x, hsu]
        constructor
        · rintro (h | ⟨f, hf, h⟩)
          · rw [ho1] at h
            split at h
            · rename_i hv
              simp at h
              obtain ⟨f, hf, hv⟩ := List.any_eq_true.1 hv
              exact ⟨f, List.mem_append_left _ hf, hv, by rw [h]; exact hs f hf⟩
            · simp at h
          · exact ⟨f, List.mem_append_right _ hf, h⟩
        · rintro ⟨f, hf, hv, e⟩
          rcases List.mem_append.1 hf with hf | hf
          · left
            rw [ho1, if_pos (List.any_eq_true.2 ⟨f, hf, hv⟩)]
            simp [← e, hs f hf]
          · exact .inr ⟨f, hf, hv, e⟩
      · rw [hsu, perAll_app]
        rcases List.mem_append.1 hg with hg | hg
        · have hgr : g = ⟨f0.row, ofV (ones (perAll s f0.row))⟩ := by rw [ho1] at hg; split at hg <;> simp at hg; exact hg
          rw [hgr]
          rw [perAll_none hne, List.append_nil]
        · have hgm : g.row ∈ G.map (·.row) := List.mem_map_of_mem hg
          obtain ⟨f, hf, _, e⟩ := (hG.1.2 g.row).1 hgm
          rw [perAll_none (l := s) (fun f' hf' q => hne f hf (by rw [e, ← q]; exact (hs f' hf'))), List.nil_append]
          exact hG.2 g hg
      · rw [e]
        dsimp only
        rw [hL, List.append_assoc]
end Go.Proofs.YtnbnpnmkgemdeaaGreatDoor
namespace Go.Proofs.YtnbnpnmkgemdeaaGreatDoor
open Go.RowKit Go.MapKept
set_option maxRecDepth 100000
set_option linter.unusedVariables false
set_option linter.unusedSimpArgs false
theorem levOf_all (l all : List Fct) (h : all.Perm l) (r : List Val) : levOf (perAll all r) = levOf (perOf l r) := by
  refine levOf_perm ?_
  have e1 : (perAll all r).filter (fun p => St.pvalid (toP p)) = perOf all r := by
    unfold perAll perOf
    rw [List.filter_map, List.filter_filter]
    congr 1
  have e2 : (perOf l r).filter (fun p => St.pvalid (toP p)) = perOf l r := List.filter_eq_self.2 fun p hp => perOf_valid l r p hp
  rw [e1, e2]
  unfold perOf
  exact (h.filter _).map _
theorem gBagR_eq (l : List Fct) (hn : l.length ≤ 63) (hr : ∀ f ∈ l, f.row.length ≤ 1000000) : ∃ R, RowsOf l R ∧ gBagR l = some (bagOf l R) ∧ (bagOf l R).length ≤ 4800600 := by
  obtain ⟨all, e1, a1, p1⟩ := gOrdered_eq 639 l (by omega) (by omega) hr
  have hal : all.length = l.length := p1.length_eq
  obtain ⟨G, hG, hL⟩ := groups_at all (fun f hf => hr f (p1.mem_iff.1 hf)) (by omega) a1 fuel [] all [] rfl (by unfold fuel; omega) (Nat.le_refl _)
  have hgr : gGroups22 l = some G := by
    unfold gGroups22
    rw [e1, Option.bind_some]
    have : loopM (gGroups22_B5 all) fuel ([], (0 : Int)) = some (.inl ([] ++ G, ((all.length : Nat) : Int))) := hL
    rw [this, Option.bind_some, List.nil_append]; rfl
  have hR : RowsOf l (G.map (·.row)) := by
    refine ⟨hG.1.1, fun x => (hG.1.2 x).trans ?_⟩
    constructor
    · rintro ⟨f, hf, h⟩; exact ⟨f, p1.mem_iff.1 hf, h⟩
    · rintro ⟨f, hf, h⟩; exact ⟨f, p1.mem_iff.2 hf, h⟩
  refine ⟨G.map (·.row), hR, ?_⟩
  have hpl : ∀ r, (perAll all r).length ≤ 63 := fun r => by
    have : (perAll all r).length ≤ all.length := by unfold perAll; rw [List.length_map]; exact List.length_filter_le _ _
    omega
  have hlev : ∀ g ∈ G, gLevR g.steps = some (levOf (perOf l g.row)) := by
    intro g hg
    rw [hG.2 g hg, ← levOf_all l all p1]
    unfold gLevR
    rw [if_pos (levOK_of _ (by have := hpl g.row; omega))]
    rfl
  have hll : ∀ g ∈ G, (levOf (perOf l g.row)).length ≤ 76200 := fun g hg => by
    have h1 := levOf_len (perOf l g.row)
    have h2 := perOf_len l g.row
    omega
  have hGl : G.length ≤ 63 := by
    -- the rows of the groups are rows of facts, each once
    have h1 : ∀ (R : List (List Val)) (L : List (List Val)), R.Nodup → (∀ x ∈ R, x ∈ L) → R.length ≤ L.length := by
      intro R
      induction R with
      | nil => intro L _ _; simp
      | cons x R ih =>
        intro L hnd hm
        have hx := hm x (by simp)
        have hnd2 := List.nodup_cons.1 hnd
        have h2 := ih (L.erase x) hnd2.2 fun y hy => by
          have hne : y ≠ x := fun e => hnd2.1 (e ▸ hy)
          exact (List.mem_erase_of_ne hne).2 (hm y (List.mem_cons_of_mem _ hy))
        have h3 := List.length_erase_of_mem hx
        have h4 : 0 < L.length := List.length_pos_of_mem hx
        rw [List.length_cons]; omega
    have h2 : (G.map (·.row)).Nodup := by
      refine List.Pairwise.imp ?_ hR.1
      intro a b h e
      rw [e, totC_rcmp.refl] at h; omega
    have h3 := h1 (G.map (·.row)) (l.map (·.row)) h2 fun x hx => by
      obtain ⟨f, hf, _, e⟩ := (hR.2 x).1 hx
      exact List.mem_map.2 ⟨f, hf, e⟩
    simp at h3
    omega
  have hfl : ∀ L : List SGroup, (∀ g ∈ L, (levOf (perOf l g.row)).length ≤ 76200) → (L.flatMap fun g => (levOf (perOf l g.row)).map fun p => (⟨g.row, p⟩ : Fct)).length ≤ L.length * 76200 := by
    intro L
    induction L with
    | nil => intro _; simp
    | cons g L ih =>
      intro hL
      have h1 := ih fun x hx => hL x (List.mem_cons_of_mem _ hx)
      have h2 := hL g (by simp)
      rw [List.flatMap_cons, List.length_append, List.length_map, List.length_cons]; omega
  have htot := Nat.le_trans (hfl G hll) (Nat.mul_le_mul_right 76200 hGl)
  refine ⟨?_, by unfold bagOf; rw [List.flatMap_map]; exact htot⟩
  unfold gBagR
  rw [hgr, Option.bind_some]
  rw [loop_app (l := G) (fun g => (levOf (perOf l g.row)).map fun p => (⟨g.row, p⟩ : Fct)) 3518437208883 ?_ ?_ (by unfold fuel; omega) [] (by simp only [List.length_nil]; omega)]
  · rw [Option.bind_some, List.nil_append]
    show some _ = some _
    unfold bagOf
    rw [List.flatMap_map]
  · intro s i x hx hs
    have hi := (List.getElem?_eq_some_iff.1 hx).1
    have hxm := List.mem_of_getElem? hx
    have h2 := hll x hxm
    unfold gBagR_B1
    dsimp only
    rw [lt_dec hx, cond_true, getI_nat hx]
    simp only [Option.bind_some]
    rw [hlev x hxm, Option.bind_some, gDuring_eq x.row _ (by omega), Option.bind_some]
    rw [show decide (s.length + ((levOf (perOf l x.row)).map fun p => (⟨x.row, p⟩ : Fct)).length ≤ 3518437208883) = true from decide_eq_true hs, cond_true, wrapN (by omega)]
  · intro s
    unfold gBagR_B1
    dsimp only
    rw [lt_decF, cond_false]
theorem bags_eq (l : List Fct) (h : FctsOK l) : ∃ r, gBag l = some r ∧ gBagR l = some r ∧ ∃ R, RowsOf l R ∧ r = bagOf l R ∧ r.length ≤ 4800600 := by
  obtain ⟨R, h1, h2⟩ := gBag_eq l h
  obtain ⟨S, h3, h4, h5⟩ := gBagR_eq l (by have := h.1; omega) fun f hf => by have := (h.2 f hf).1; omega
  rw [← h1.ext h3] at h4 h5
  exact ⟨_, h2, h4, R, h1, rfl, h5⟩
end Go.Proofs.YtnbnpnmkgemdeaaGreatDoor
namespace Go.Proofs.YtnbnpnmkgemdeaaGreatDoor
open Go.RowKit Go.MapKept
set_option maxRecDepth 100000
set_option linter.unusedVariables false
set_option linter.unusedSimpArgs false
theorem gContains1_eq (p : Per) (t : Int) : gContains1 p t = some (pvalB p && (decide (p.lo ≤ t) && decide (t < p.hi))) := by
  unfold gContains1
  rw [gValid1_eq, Option.bind_some]
  cases pvalB p <;> cases decide (p.lo ≤ t) <;> rfl
theorem gSelectsR_eq (c : Cla) (v : Ver) : gSelectsR c v = some (selF c v) := by
  unfold gSelectsR selF holdF
  rw [gValid1_eq, Option.bind_some]
  have e : validF v.system = pvalB v.system := by
    unfold validF pvalB; rw [Bool.and_assoc]
  rw [e]
  by_cases h0 : c.kind = 0
  · simp only [h0, decide_true, cond_true]
    cases pvalB v.system <;> rfl
  rw [decide_eq_false h0]
  simp only [cond_false]
  by_cases h1 : c.kind = 1
  · rw [decide_eq_true h1, if_neg h0, if_pos h1]
    simp only [cond_true, gContains1_eq, Option.bind_some]
    unfold inF
    rw [e]
    cases pvalB v.system <;> rfl
  rw [decide_eq_false h1, if_neg h0, if_neg h1]
  simp only [cond_false]
  by_cases h2 : c.kind = 2
  · simp only [h2, decide_true, cond_true, if_true]
    cases pvalB v.system <;> cases decide (c.lo < c.hi) <;> cases decide (c.lo < v.system.hi) <;> cases decide (v.system.lo < c.hi) <;> rfl
  rw [decide_eq_false h2, if_neg h2]
  simp only [cond_false]
  by_cases h3 : c.kind = 3
  · simp only [h3, decide_true, cond_true, if_true]
    cases pvalB v.system <;> cases decide (c.lo ≤ c.hi) <;> cases decide (c.lo < v.system.hi) <;> cases decide (v.system.lo ≤ c.hi) <;> rfl
  rw [decide_eq_false h3, if_neg h3]
  simp only [cond_false]
  cases pvalB v.system <;> rfl
theorem flatMap_if {α : Type} (p : α → Bool) : ∀ l : List α, (l.flatMap fun x => if p x then [x] else []) = l.filter p
  | [] => rfl
  | x :: l => by
    rw [List.flatMap_cons, flatMap_if p l]
    by_cases h : p x = true
    · rw [if_pos h, List.filter_cons_of_pos h]; rfl
    · rw [if_neg h, List.filter_cons_of_neg h]; rfl
theorem gSelR_eq (l : List Ver) (c : Cla) (hn : l.length ≤ 1000000) : gSelR l c = some (l.filter (selF c)) := by
  unfold gSelR
  have hl : (l.filter (selF c)).length ≤ l.length := List.length_filter_le _ _
  rw [loop_app (l := l) (fun v => if selF c v then [v] else []) 1599289640401 ?_ ?_ (by unfold fuel; omega) [] (by rw [flatMap_if]; simp only [List.length_nil]; omega)]
  · rw [Option.bind_some, flatMap_if, List.nil_append]; rfl
  · intro o i x hx ho
    have hi := (List.getElem?_eq_some_iff.1 hx).1
    unfold gSelR_B1
    dsimp only
    rw [lt_dec hx, cond_true, getI_nat hx]
    simp only [Option.bind_some]
    rw [gSelectsR_eq, Option.bind_some]
    by_cases hv : selF c x = true
    · rw [if_pos hv] at ho ⊢
      rw [hv, cond_true, show decide (o.length + 1 ≤ 1599289640401) = true from decide_eq_true (by simpa using ho), cond_true, wrapN (by omega)]
    · rw [if_neg hv]
      rw [Bool.not_eq_true] at hv
      rw [hv, cond_false, wrapN (by omega), List.append_nil]
  · intro o
    unfold gSelR_B1
    dsimp only
    rw [lt_decF, cond_false]
theorem gFacts_eq (l : List Ver) (hn : l.length ≤ 1000000) (hr : ∀ v ∈ l, v.row.length ≤ 1000000) : gFacts l = some (l.map factOf) := by
  unfold gFacts
  rw [loop_app (l := l) (fun v => [factOf v]) 3518437208883 ?_ ?_ (by unfold fuel; omega) [] (by rw [flatMap_one]; simp; omega)]
  · rw [Option.bind_some, flatMap_one, List.nil_append]; rfl
  · intro o i x hx ho
    have hi := (List.getElem?_eq_some_iff.1 hx).1
    have hxr := hr x (List.mem_of_getElem? hx)
    unfold gFacts_B1
    dsimp only
    rw [lt_dec hx, cond_true, getI_nat hx]
    simp only [Option.bind_some]
    rw [show decide (x.row.length ≤ 4398046511104) = true from decide_eq_true (by omega), cond_true, show decide (o.length + 1 ≤ 3518437208883) = true from decide_eq_true (by simpa using ho), cond_true, wrapN (by omega)]
    rfl
  · intro o
    unfold gFacts_B1
    dsimp only
    rw [lt_decF, cond_false]
theorem gIdent_refl (l : List Fct) (hn : l.length ≤ 1000000000) (hr : ∀ f ∈ l, f.row.length ≤ 1000000) : gIdent l l = some true := by
  unfold gIdent
  rw [show decide (((l.length : Nat) : Int) ≠ ((l.length : Nat) : Int)) = false from decide_eq_false fun h => h rfl, cond_false]
  have loop : ∀ (n i : Nat), i ≤ l.length → l.length - i < n → loopM (gIdent_B1 l l) n (i : Int) = some (.inl ((l.length : Nat) : Int)) := by
    intro n
    induction n with
    | zero => intro i _ h; omega
    | succ n ih =>
      intro i hi h
      rw [loopM]
      by_cases hlt : i < l.length
      · obtain ⟨x, hx⟩ := get_of_lt hlt
        have hxr := hr x (List.mem_of_getElem? hx)
        have e : gIdent_B1 l l (i : Int) = some (.next (((i + 1 : Nat) : Nat) : Int)) := by
          unfold gIdent_B1
          dsimp only
          rw [lt_dec hx, cond_true, getI_nat hx]
          simp only [Option.bind_some]
          rw [show sameS [.c (.int .i64 x.valid.lo), .c (.int .i64 x.valid.hi)] [.c (.int .i64 x.valid.lo), .c (.int .i64 x.valid.hi)] = true by simp [sameS], gCmp8_eq x.row x.row (by omega) (by omega)]
          simp only [Bool.not_true, cond_false, Option.bind_some]
          rw [totC_rcmp.refl, show decide ((0 : Int) ≠ 0) = false from rfl, cond_false, wrapN (by omega)]
        rw [e]
        exact ih (i + 1) (by omega) (by omega)
      · have : i = l.length := by omega
        subst this
        have e : gIdent_B1 l l ((l.length : Nat) : Int) = some (.exit ((l.length : Nat) : Int)) := by
          unfold gIdent_B1
          dsimp only
          rw [lt_decF, cond_false]
        rw [e]
  have := loop fuel 0 (Nat.zero_le _) (by unfold fuel; omega)
  rw [show loopM (gIdent_B1 l l) fuel (0 : Int) = _ from this]
  rfl
def Light (l : List Ver) : Prop := ∀ v ∈ l, ∀ x ∈ v.row, x.text.size ≤ 10000000000
theorem fcts_ok {l : List Ver} (hl : LOk 88 okVer l) (hn : l.length ≤ 16) (hr : ∀ v ∈ l, v.row.length ≤ 60) (ht : Light l) (p : Ver → Bool) : FctsOK ((l.filter p).map factOf) := by
  refine ⟨?_, fun f hf => ?_⟩
  · rw [List.length_map]
    have := List.length_filter_le p l
    omega
  · obtain ⟨v, hv, rfl⟩ := List.mem_map.1 hf
    have hv := (List.mem_filter.1 hv).1
    refine ⟨by have := hr v hv; show v.row.length ≤ 1000; omega, fun x hx => ?_⟩
    have hok := (hl.2 v hv).row.2 x hx
    exact ⟨hok.kind, hok.int, ht v hv x hx⟩
theorem bag_rows {l : List Fct} {R : List (List Val)} (h : RowsOf l R) (hr : ∀ f ∈ l, f.row.length ≤ 1000000) : ∀ f ∈ bagOf l R, f.row.length ≤ 1000000 := by
  intro f hf
  obtain ⟨r, hrR, hf⟩ := List.mem_flatMap.1 hf
  obtain ⟨p, _, rfl⟩ := List.mem_map.1 hf
  obtain ⟨g, hg, _, e⟩ := (h.2 r).1 hrR
  show r.length ≤ 1000000
  rw [← e]; exact hr g hg
theorem gLawSelects_true {l : List Ver} {c : Cla} {t : Int} (hl : LOk 88 okVer l) (ht : Light l) : gLawSelects l c t = some true := by
  have hl3 : l.length ≤ 3000000000000 := by have := hl.1; unfold reachBytes at this; omega
  unfold gLawSelects
  rw [gFew_eq l hl3, Option.bind_some]
  cases hf : fewF (l.map factOf) 16 with
  | false => rfl
  | true =>
    obtain ⟨h16, h60⟩ := few_of hf
    have hr : ∀ v ∈ l, v.row.length ≤ 1000000 := fun v hv => by have := h60 v hv; omega
    have hsel : ∀ d : Cla, ∀ v ∈ l.filter (selF d), v.row.length ≤ 1000000 := fun d v hv => hr v (List.mem_filter.1 hv).1
    have hsl : ∀ d : Cla, (l.filter (selF d)).length ≤ 16 := fun d => Nat.le_trans (List.length_filter_le _ _) h16
    simp only [Bool.not_true, cond_false]
    rw [gSel_eq c hr (by omega), Option.bind_some, gSelR_eq l c (by omega), Option.bind_some, gSameVs_refl _ (hsel c) (by have := hsl c; omega), Option.bind_some, cond_true]
    rw [gFacts_eq l (by omega) hr, Option.bind_some, gFactsR_eq l hl3, Option.bind_some, gIdent_refl _ (by rw [List.length_map]; omega) (fun f hf => by obtain ⟨v, hv, rfl⟩ := List.mem_map.1 hf; exact hr v hv), Option.bind_some, cond_true]
    obtain ⟨r, e1, e2, R, hR, e3, e4⟩ := bags_eq _ (fcts_ok hl h16 h60 ht (selF ⟨1, t, 0⟩))
    have hs : gSlice l t = some r := by
      unfold gSlice
      rw [gSel_eq _ hr (by omega), Option.bind_some, gFacts_eq _ (by have := hsl ⟨1, t, 0⟩; omega) (hsel _), Option.bind_some, e1]; rfl
    have hsR : gSliceR l t = some r := by
      unfold gSliceR
      rw [gSelR_eq _ _ (by omega), Option.bind_some, gFactsR_eq _ (by have := hsl ⟨1, t, 0⟩; omega), Option.bind_some, e2]; rfl
    rw [hs, Option.bind_some, hsR, Option.bind_some, gIdent_refl r (by omega) (by
      rw [e3]
      exact bag_rows hR fun f hf => by obtain ⟨v, hv, rfl⟩ := List.mem_map.1 hf; exact hsel _ v hv), Option.bind_some, cond_true]
theorem nonseqSelects_pure {l : List Ver} {c : Cla} {t : Int} (hl : LOk 88 okVer l) (ht : Light l) : Pure Tryz.prog 3 [.one (.lst (l.map cVer)), .agg (cCla c), .one (.int .i64 t)] (.val (.one (.bool true))) := gLawSelects_ok (gLawSelects_true hl ht)
end Go.Proofs.YtnbnpnmkgemdeaaGreatDoor
namespace Go.Proofs.YtnbnpnmkgemdeaaGreatDoor.Up
open Go.RowKit Go.MapKept
set_option linter.unusedVariables false
set_option maxRecDepth 100000
def upB : Nat := 8589934592
def SOk (s : ByteArray) : Prop := s.size ≤ upB
def LOk {α : Type} (k : Nat) (Q : α → Prop) (l : List α) : Prop := l.length * k ≤ upB ∧ ∀ a ∈ l, Q a
theorem one_le {H : Type} (d : DataW H) : 1 ≤ Rows.uptoBulk d := by
  cases d with
  | lit l => cases l <;> simp [Rows.uptoBulk]
  | nil => simp [Rows.uptoBulk]
  | ptr d => simp [Rows.uptoBulk]
  | slice elems spare => simp [Rows.uptoBulk]
  | agg parts => simp [Rows.uptoBulk]
  | iface t d => simp [Rows.uptoBulk]
  | map entries => simp [Rows.uptoBulk]
  | held h => simp [Rows.uptoBulk]
theorem length_le {H : Type} : ∀ l : List (DataW H), l.length ≤ Rows.uptoBulkAll l
  | [] => Nat.zero_le _
  | x :: r => by have := one_le x; have := length_le r; simp only [Rows.uptoBulkAll, List.length_cons]; omega
theorem part_le {H : Type} {d : DataW H} {l : List (DataW H)} (h : d ∈ l) : Rows.uptoBulk d ≤ Rows.uptoBulkAll l := by
  induction l with
  | nil => cases h
  | cons x r ih =>
    simp only [Rows.uptoBulkAll]
    cases List.mem_cons.1 h with
    | inl e => subst e; omega
    | inr e => have := ih e; omega
def WOk {H : Type} (t : TypeId) (d : DataW H) : Prop := Rows.uptoBulk d ≤ 1048576
theorem wok {H : Type} {ds : List (DataW H)} (h : Rows.uptoSmall H ds = true) {d : DataW H} (hd : d ∈ ds) (t : TypeId) : WOk t d :=
  Nat.le_trans (part_le hd) (of_decide_eq_true h)
section
variable {H : Type} {enc : TypeId × Value → H} {W : World} {hT : TabR (fun b o => W.cell? ⟨b, o, none⟩)} {base : Nat} {spare : Nat → Bool} {held : Bool}
theorem read_str {t : TypeId} (ht : Tryz.prog.underlying t = some .string) {cs : List Value} {fuel : Nat} {x : DataW H × List MemPlace} (h : DataW.trod enc Tryz.prog W base spare held fuel t cs = some x) (hw : WOk t x.1) : ∃ s : ByteArray, CRd hT cs [.str s] ∧ SOk s := by
  obtain ⟨s, rfl, hx, hs⟩ := DataW.trod_string ht h
  refine ⟨s, CRd.one (.str _), ?_⟩
  subst hx
  unfold WOk at hw
  simp only [Rows.uptoBulk, Array.length_toList] at hw
  show s.data.size ≤ 8589934592
  omega
theorem read_slice {α : Type} {t e : TypeId} {k : Nat} {f : α → List AC} {Q : α → Prop} (ht : Tryz.prog.underlying t = some (.slice e)) (hk : Tryz.prog.cellsOf e = k) {by_ : Nat} (hby : Tryz.prog.bytesOf e = by_) (hk0 : 0 < k) (hb : by_ ≤ 8192) (hf : ∀ x, (f x).length = k) {cs : List Value} {fuel : Nat} {x : DataW H × List MemPlace} (h : DataW.trod enc Tryz.prog W base spare held fuel t cs = some x) (hw : WOk t x.1)
    (hr : ∀ (fuel' : Nat) (cs' : List Value) (x' : DataW H × List MemPlace), fuel' < fuel → DataW.trod enc Tryz.prog W base spare held fuel' e cs' = some x' → WOk e x'.1 → ∃ a, CRd hT cs' (f a) ∧ Q a) : ∃ l : List α, CRd hT cs [.lst (l.map f)] ∧ LOk by_ Q l := by
  rcases DataW.trod_slice ht h with ⟨rfl, _⟩ | ⟨a, len, cap, elems, rest, n, hfu, rfl, hxe, _, hlc, hm, hel, hx, _, _⟩
  · exact ⟨[], CRd.one (prep_nil _ _ _), by simp, fun a ha => by cases ha⟩
  · have hww : Rows.uptoBulkAll (elems.map (·.1)) ≤ 1048576 ∧ len * by_ ≤ upB := by
      rw [hxe] at hw
      unfold WOk at hw
      simp only [Rows.uptoBulk] at hw
      have h1 := length_le (elems.map (·.1))
      rw [List.length_map, hel] at h1
      exact ⟨by omega, Nat.mul_le_mul (show len ≤ 1048576 by omega) hb⟩
    have hi : ∀ i, i < len → ∃ y, (∃ cs', W.cells? base (a.add (i * k)) k = some cs' ∧ CRd hT cs' (f y)) ∧ Q y := by
      intro i hlt
      have h1 := hx i hlt
      rw [List.getElem?_eq_getElem (by omega), hk] at h1
      cases hc : W.cells? base (a.add (i * k)) k with
      | none => rw [hc] at h1; cases h1
      | some cs' => rw [hc] at h1; obtain ⟨y, h2, h3⟩ := hr n cs' _ (by omega) h1 (Nat.le_trans (part_le (List.mem_map_of_mem (f := fun p : DataW H × List MemPlace => p.1) (List.getElem_mem (by omega)))) hww.1); exact ⟨y, ⟨cs', rfl, h2⟩, h3⟩
    rcases Nat.eq_zero_or_pos len with h0 | h0
    · subst h0; exact ⟨[], CRd.one (prep_nil _ _ _), by simp, fun a ha => by cases ha⟩
    · obtain ⟨y0, ⟨cs0, hc0, _⟩, _⟩ := hi 0 h0
      let g : Nat → α := fun i => if h : i < len then Classical.choose (hi i h) else y0
      have hg : ∀ i, i < len → (∃ cs', W.cells? base (a.add (i * k)) k = some cs' ∧ CRd hT cs' (f (g i))) ∧ Q (g i) := by
        intro i hlt
        have : g i = Classical.choose (hi i hlt) := by simp [g, hlt]
        rw [this]
        exact Classical.choose_spec (hi i hlt)
      obtain ⟨b, off, spot⟩ := a
      have hs0 : spot = none := by
        obtain ⟨_, hl, hat⟩ := World.cells?_some hc0
        have h1 := hat 0 hk0
        rw [List.getElem?_eq_getElem (by omega)] at h1
        have := World.cell?_spot h1
        simpa [Addr.add] using this
      subst hs0
      refine ⟨(List.range len).map g, CRd.one ?_, (by rw [List.length_map, List.length_range]; exact hww.2), ?_⟩
      · have cell : ∀ i, i < len → ∀ j, j < k → ∃ u y, W.cell? ⟨b, off + (i * k + j), none⟩ = some u ∧ (f (g i))[j]? = some y ∧ PRep (RW hT) u y := by
          intro i hlt j hj
          obtain ⟨⟨cs', hc, hcr⟩, _⟩ := hg i hlt
          obtain ⟨_, hl, hat⟩ := World.cells?_some hc
          have h1 := hat j hj
          rw [List.getElem?_eq_getElem (by omega)] at h1
          have hfl := hf (g i)
          refine ⟨_, _, ?_, List.getElem?_eq_getElem (by omega), hcr.2 j _ _ (List.getElem?_eq_getElem (by omega)) (List.getElem?_eq_getElem (by omega))⟩
          rw [addr_add, addr_add, Nat.add_assoc] at h1
          exact h1
        refine .lst (some ⟨b, off, none⟩) len cap _ k (fun j => (W.cell? ⟨b, off + j, none⟩).getD (.bool false)) b off (by simp) hlc ?_ (fun _ => rfl) ?_ ?_
        · intro e he
          simp only [List.map_map, List.mem_map] at he
          obtain ⟨i, _, rfl⟩ := he
          exact hf _
        · intro j hj
          have hd : j / k < len := by rw [Nat.div_lt_iff_lt_mul hk0]; exact hj
          obtain ⟨u, y, h1, _, _⟩ := cell (j / k) hd (j % k) (Nat.mod_lt _ hk0)
          have hjj : j / k * k + j % k = j := by rw [Nat.mul_comm]; exact Nat.div_add_mod j k
          rw [hjj] at h1
          show W.cell? _ = _
          rw [h1]; rfl
        · intro i e j x he hxx
          have hlt : i < len := by have := (List.getElem?_eq_some_iff.1 he).1; simpa using this
          have : e = f (g i) := by simp [hlt] at he; exact he.symm
          subst this
          have hj : j < k := by have := (List.getElem?_eq_some_iff.1 hxx).1; rw [hf] at this; exact this
          obtain ⟨u, y, h1, h2, h3⟩ := cell i hlt j hj
          rw [h2] at hxx
          obtain rfl := Option.some.inj hxx
          rw [h1]; exact h3
      · intro a ha
        simp only [List.mem_map, List.mem_range] at ha
        obtain ⟨i, hlt, rfl⟩ := ha
        exact (hg i hlt).2
theorem fld {s : TypeId} {x : DataW H × List MemPlace} {fs : Array Field} {n : Nat} {cs : List Value} {xs : List (DataW H × List MemPlace)} (hs : Tryz.prog.underlying s = some (.struct fs)) (hx : x = (.agg (xs.map (·.1)), xs.flatMap (·.2))) (hw : WOk s x.1) (hl : xs.length = fs.size) (hf : ∀ (i : Nat) (f : Field), fs[i]? = some f → DataW.trod enc Tryz.prog W base spare held n f.type ((cs.drop f.offset).take (Tryz.prog.cellsOf f.type)) = xs[i]?)
    (i : Nat) {f : Field} {t o k : Nat} (hi : fs[i]? = some f) (h1 : f.type = t) (h2 : f.offset = o) (h3 : Tryz.prog.cellsOf t = k) : ∃ y, DataW.trod enc Tryz.prog W base spare held n t ((cs.drop o).take k) = some y ∧ WOk t y.1 := by
  have hlt : i < fs.size := (Array.getElem?_eq_some_iff.1 hi).1
  have := hf i f hi
  rw [h1, h2, h3, List.getElem?_eq_getElem (by omega)] at this
  refine ⟨_, this, ?_⟩
  rw [hx] at hw
  unfold WOk at hw ⊢
  simp only [Rows.uptoBulk] at hw
  have h2 := part_le (List.mem_map_of_mem (f := fun p : DataW H × List MemPlace => p.1) (List.getElem_mem (show i < xs.length by omega)))
  omega
end
structure okCla (x : Cla) : Prop where
  kind : IOk x.kind
  lo : IOk x.lo
  hi : IOk x.hi
section
variable {H : Type} {enc : TypeId × Value → H} {W : World} {hT : TabR (fun b o => W.cell? ⟨b, o, none⟩)} {base : Nat} {spare : Nat → Bool} {held : Bool}
theorem rd_Cla : ∀ (fuel : Nat) {cs : List Value} {x : DataW H × List MemPlace}, DataW.trod enc Tryz.prog W base spare held fuel 24 cs = some x → WOk 24 x.1 → ∃ a : Cla, CRd hT cs (cCla a) ∧ okCla a := by
  intro fuel
  intro cs x h hw
  obtain ⟨xs, n, hfu, hxe, hlen, hxs, hf⟩ := DataW.trod_struct Tryz.underlying24 h
  rw [show Tryz.prog.cellsOf 24 = 3 by kernel_rfl] at hlen
  obtain ⟨c0, c1, c2, rfl⟩ := list3 hlen
  obtain ⟨y0, h0, w0⟩ := fld Tryz.underlying24 hxe hw hxs hf 0 (t := 3) (o := 0) (k := 1) rfl rfl rfl (by kernel_rfl)
  replace h0 : DataW.trod enc Tryz.prog W base spare held n 3 [c0] = some y0 := h0
  obtain ⟨l0, r0, q0⟩ := read_int Tryz.underlying3 h0
  obtain ⟨y1, h1, w1⟩ := fld Tryz.underlying24 hxe hw hxs hf 1 (t := 3) (o := 1) (k := 1) rfl rfl rfl (by kernel_rfl)
  replace h1 : DataW.trod enc Tryz.prog W base spare held n 3 [c1] = some y1 := h1
  obtain ⟨l1, r1, q1⟩ := read_int Tryz.underlying3 h1
  obtain ⟨y2, h2, w2⟩ := fld Tryz.underlying24 hxe hw hxs hf 2 (t := 3) (o := 2) (k := 1) rfl rfl rfl (by kernel_rfl)
  replace h2 : DataW.trod enc Tryz.prog W base spare held n 3 [c2] = some y2 := h2
  obtain ⟨l2, r2, q2⟩ := read_int Tryz.underlying3 h2
  exact ⟨⟨l0, l1, l2⟩, ((r0.app r1).app r2), ⟨q0, q1, q2⟩⟩
end
structure okVal (x : Val) : Prop where
  kind : IOk x.kind
  int : IOk x.int
  text : SOk x.text
section
variable {H : Type} {enc : TypeId × Value → H} {W : World} {hT : TabR (fun b o => W.cell? ⟨b, o, none⟩)} {base : Nat} {spare : Nat → Bool} {held : Bool}
theorem rd_Val : ∀ (fuel : Nat) {cs : List Value} {x : DataW H × List MemPlace}, DataW.trod enc Tryz.prog W base spare held fuel 57 cs = some x → WOk 57 x.1 → ∃ a : Val, CRd hT cs (cV a) ∧ okVal a := by
  intro fuel
  intro cs x h hw
  obtain ⟨xs, n, hfu, hxe, hlen, hxs, hf⟩ := DataW.trod_struct Tryz.underlying57 h
  rw [show Tryz.prog.cellsOf 57 = 3 by kernel_rfl] at hlen
  obtain ⟨c0, c1, c2, rfl⟩ := list3 hlen
  obtain ⟨y0, h0, w0⟩ := fld Tryz.underlying57 hxe hw hxs hf 0 (t := 3) (o := 0) (k := 1) rfl rfl rfl (by kernel_rfl)
  replace h0 : DataW.trod enc Tryz.prog W base spare held n 3 [c0] = some y0 := h0
  obtain ⟨l0, r0, q0⟩ := read_int Tryz.underlying3 h0
  obtain ⟨y1, h1, w1⟩ := fld Tryz.underlying57 hxe hw hxs hf 1 (t := 3) (o := 1) (k := 1) rfl rfl rfl (by kernel_rfl)
  replace h1 : DataW.trod enc Tryz.prog W base spare held n 3 [c1] = some y1 := h1
  obtain ⟨l1, r1, q1⟩ := read_int Tryz.underlying3 h1
  obtain ⟨y2, h2, w2⟩ := fld Tryz.underlying57 hxe hw hxs hf 2 (t := 9) (o := 2) (k := 1) rfl rfl rfl (by kernel_rfl)
  replace h2 : DataW.trod enc Tryz.prog W base spare held n 9 [c2] = some y2 := h2
  obtain ⟨l2, r2, q2⟩ := read_str Tryz.underlying9 h2 w2
  exact ⟨⟨l0, l1, l2⟩, ((r0.app r1).app r2), ⟨q0, q1, q2⟩⟩
end
section
variable {H : Type} {enc : TypeId × Value → H} {W : World} {hT : TabR (fun b o => W.cell? ⟨b, o, none⟩)} {base : Nat} {spare : Nat → Bool} {held : Bool}
theorem rd_l43 {cs : List Value} {fuel : Nat} {x : DataW H × List MemPlace} (h : DataW.trod enc Tryz.prog W base spare held fuel 43 cs = some x) (hw : WOk 43 x.1) : ∃ l : List Val, CRd hT cs [.lst (l.map cV)] ∧ LOk 32 okVal l :=
  read_slice (k := 3) (f := cV) (Q := okVal) Tryz.underlying43 (by kernel_rfl) (by kernel_rfl) (by decide) (by decide) (fun _ => rfl) h hw (fun f c x _ h hw => rd_Val f h hw)
end
structure okPer (x : Per) : Prop where
  lo : IOk x.lo
  hi : IOk x.hi
section
variable {H : Type} {enc : TypeId × Value → H} {W : World} {hT : TabR (fun b o => W.cell? ⟨b, o, none⟩)} {base : Nat} {spare : Nat → Bool} {held : Bool}
theorem rd_Per : ∀ (fuel : Nat) {cs : List Value} {x : DataW H × List MemPlace}, DataW.trod enc Tryz.prog W base spare held fuel 45 cs = some x → WOk 45 x.1 → ∃ a : Per, CRd hT cs (cPer a) ∧ okPer a := by
  intro fuel
  intro cs x h hw
  obtain ⟨xs, n, hfu, hxe, hlen, hxs, hf⟩ := DataW.trod_struct Tryz.underlying45 h
  rw [show Tryz.prog.cellsOf 45 = 2 by kernel_rfl] at hlen
  obtain ⟨c0, c1, rfl⟩ := list2 hlen
  obtain ⟨y0, h0, w0⟩ := fld Tryz.underlying45 hxe hw hxs hf 0 (t := 3) (o := 0) (k := 1) rfl rfl rfl (by kernel_rfl)
  replace h0 : DataW.trod enc Tryz.prog W base spare held n 3 [c0] = some y0 := h0
  obtain ⟨l0, r0, q0⟩ := read_int Tryz.underlying3 h0
  obtain ⟨y1, h1, w1⟩ := fld Tryz.underlying45 hxe hw hxs hf 1 (t := 3) (o := 1) (k := 1) rfl rfl rfl (by kernel_rfl)
  replace h1 : DataW.trod enc Tryz.prog W base spare held n 3 [c1] = some y1 := h1
  obtain ⟨l1, r1, q1⟩ := read_int Tryz.underlying3 h1
  exact ⟨⟨l0, l1⟩, (r0.app r1), ⟨q0, q1⟩⟩
end
structure okVer (x : Ver) : Prop where
  id : IOk x.id
  schema : IOk x.schema
  row : (LOk 32 okVal) x.row
  valid : okPer x.valid
  system : okPer x.system
  by_ : IOk x.by_
  til : IOk x.til
section
variable {H : Type} {enc : TypeId × Value → H} {W : World} {hT : TabR (fun b o => W.cell? ⟨b, o, none⟩)} {base : Nat} {spare : Nat → Bool} {held : Bool}
theorem rd_Ver : ∀ (fuel : Nat) {cs : List Value} {x : DataW H × List MemPlace}, DataW.trod enc Tryz.prog W base spare held fuel 47 cs = some x → WOk 47 x.1 → ∃ a : Ver, CRd hT cs (cVer a) ∧ okVer a := by
  intro fuel
  intro cs x h hw
  obtain ⟨xs, n, hfu, hxe, hlen, hxs, hf⟩ := DataW.trod_struct Tryz.underlying47 h
  rw [show Tryz.prog.cellsOf 47 = 9 by kernel_rfl] at hlen
  obtain ⟨c0, c1, c2, c3, c4, c5, c6, c7, c8, rfl⟩ := list9 hlen
  obtain ⟨y0, h0, w0⟩ := fld Tryz.underlying47 hxe hw hxs hf 0 (t := 3) (o := 0) (k := 1) rfl rfl rfl (by kernel_rfl)
  replace h0 : DataW.trod enc Tryz.prog W base spare held n 3 [c0] = some y0 := h0
  obtain ⟨l0, r0, q0⟩ := read_int Tryz.underlying3 h0
  obtain ⟨y1, h1, w1⟩ := fld Tryz.underlying47 hxe hw hxs hf 1 (t := 3) (o := 1) (k := 1) rfl rfl rfl (by kernel_rfl)
  replace h1 : DataW.trod enc Tryz.prog W base spare held n 3 [c1] = some y1 := h1
  obtain ⟨l1, r1, q1⟩ := read_int Tryz.underlying3 h1
  obtain ⟨y2, h2, w2⟩ := fld Tryz.underlying47 hxe hw hxs hf 2 (t := 43) (o := 2) (k := 1) rfl rfl rfl (by kernel_rfl)
  replace h2 : DataW.trod enc Tryz.prog W base spare held n 43 [c2] = some y2 := h2
  obtain ⟨l2, r2, q2⟩ := rd_l43 h2 w2
  obtain ⟨y3, h3, w3⟩ := fld Tryz.underlying47 hxe hw hxs hf 3 (t := 45) (o := 3) (k := 2) rfl rfl rfl (by kernel_rfl)
  replace h3 : DataW.trod enc Tryz.prog W base spare held n 45 [c3, c4] = some y3 := h3
  obtain ⟨l3, r3, q3⟩ := rd_Per n h3 w3
  obtain ⟨y4, h4, w4⟩ := fld Tryz.underlying47 hxe hw hxs hf 4 (t := 45) (o := 5) (k := 2) rfl rfl rfl (by kernel_rfl)
  replace h4 : DataW.trod enc Tryz.prog W base spare held n 45 [c5, c6] = some y4 := h4
  obtain ⟨l4, r4, q4⟩ := rd_Per n h4 w4
  obtain ⟨y5, h5, w5⟩ := fld Tryz.underlying47 hxe hw hxs hf 5 (t := 3) (o := 7) (k := 1) rfl rfl rfl (by kernel_rfl)
  replace h5 : DataW.trod enc Tryz.prog W base spare held n 3 [c7] = some y5 := h5
  obtain ⟨l5, r5, q5⟩ := read_int Tryz.underlying3 h5
  obtain ⟨y6, h6, w6⟩ := fld Tryz.underlying47 hxe hw hxs hf 6 (t := 3) (o := 8) (k := 1) rfl rfl rfl (by kernel_rfl)
  replace h6 : DataW.trod enc Tryz.prog W base spare held n 3 [c8] = some y6 := h6
  obtain ⟨l6, r6, q6⟩ := read_int Tryz.underlying3 h6
  exact ⟨⟨l0, l1, l2, l3, l4, l5, l6⟩, ((((((r0.app r1).app r2).app r3).app r4).app r5).app r6), ⟨q0, q1, q2, q3, q4, q5, q6⟩⟩
end
section
variable {H : Type} {enc : TypeId × Value → H} {W : World} {hT : TabR (fun b o => W.cell? ⟨b, o, none⟩)} {base : Nat} {spare : Nat → Bool} {held : Bool}
theorem rd_l22 {cs : List Value} {fuel : Nat} {x : DataW H × List MemPlace} (h : DataW.trod enc Tryz.prog W base spare held fuel 22 cs = some x) (hw : WOk 22 x.1) : ∃ l : List Ver, CRd hT cs [.lst (l.map cVer)] ∧ LOk 88 okVer l :=
  read_slice (k := 9) (f := cVer) (Q := okVer) Tryz.underlying22 (by kernel_rfl) (by kernel_rfl) (by decide) (by decide) (fun _ => rfl) h hw (fun f c x _ h hw => rd_Ver f h hw)
end
theorem val_ok {x : Val} (h : okVal x) : Go.Proofs.YtnbnpnmkgemdeaaGreatDoor.okVal x := ⟨h.kind, h.int, Nat.le_trans h.text (by decide)⟩
theorem lok_ok {α : Type} {k : Nat} {Q R : α → Prop} (hQ : ∀ a, Q a → R a) {l : List α} (h : LOk k Q l) : Go.Proofs.YtnbnpnmkgemdeaaGreatDoor.LOk k R l := ⟨Nat.le_trans h.1 (by decide), fun a ha => hQ a (h.2 a ha)⟩
theorem per_ok {x : Per} (h : okPer x) : Go.Proofs.YtnbnpnmkgemdeaaGreatDoor.okPer x := ⟨h.lo, h.hi⟩
theorem ver_ok {x : Ver} (h : okVer x) : Go.Proofs.YtnbnpnmkgemdeaaGreatDoor.okVer x := ⟨h.id, h.schema, lok_ok (fun _ => val_ok) h.row, per_ok h.valid, per_ok h.system, h.by_, h.til⟩
end Go.Proofs.YtnbnpnmkgemdeaaGreatDoor.Up
