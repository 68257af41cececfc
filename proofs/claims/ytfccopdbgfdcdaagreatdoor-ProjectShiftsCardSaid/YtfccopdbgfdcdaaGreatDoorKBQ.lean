/- Parts of the proof, joined. No condition. -/
import Derived.Test.YtfccopdbgfdcdaaGreatDoorKBP
import Derived.Test.YtfccopdbgfdcdaaGreatDoorKBN
import Derived.Test.YtfccopdbgfdcdaaGreatDoorKBO
import Derived.Test.YtfccopdbgfdcdaaGreatDoorKBH
set_option linter.unusedSimpArgs false
set_option linter.unusedVariables false
namespace Go.Proofs.YtfccopdbgfdcdaaGreatDoor
open Go.RowKit Go.MapKept
set_option linter.unusedVariables false
theorem loop_app {α β ρ : Type} {l : List α} {body : (List β × Int) → Option (Step (List β × Int) ρ)} (g : α → List β) (N : Nat) (h1 : ∀ (s : List β) (i : Nat) x, l[i]? = some x → s.length + (g x).length ≤ N → body (s, (i : Int)) = some (.next (s ++ g x, ((i + 1 : Nat) : Int)))) (h2 : ∀ s : List β, body (s, ((l.length : Nat) : Int)) = some (.exit (s, ((l.length : Nat) : Int)))) (hl : l.length < fuel) (s : List β) (hN : s.length + (l.flatMap g).length ≤ N) :
    loopM body fuel (s, (0 : Int)) = some (.inl (s ++ l.flatMap g, ((l.length : Nat) : Int))) := by
  have key : ∀ (n i : Nat) (s : List β), i ≤ l.length → l.length - i < n → s.length + ((l.drop i).flatMap g).length ≤ N → loopM body n (s, (i : Int)) = some (.inl (s ++ (l.drop i).flatMap g, ((l.length : Nat) : Int))) := by
    intro n
    induction n with
    | zero => intro i s _ h _; omega
    | succ n ih =>
      intro i s hi hn hs
      rw [loopM]
      by_cases hlt : i < l.length
      · obtain ⟨x, hx⟩ := get_of_lt hlt
        have e1 := (List.getElem?_eq_some_iff.1 hx).2
        rw [List.drop_eq_getElem_cons hlt, e1, List.flatMap_cons] at hs ⊢
        rw [List.length_append] at hs
        rw [h1 s i x hx (by omega)]
        show loopM body n _ = _
        rw [ih (i + 1) (s ++ g x) (by omega) (by omega) (by rw [List.length_append]; omega), List.append_assoc]
      · have : i = l.length := by omega
        subst this
        rw [h2, List.drop_length]
        simp
  have := key fuel 0 s (Nat.zero_le _) (by omega) (by simpa using hN)
  simpa using this
def SRows (l : List (List Val)) : Prop := l.Pairwise fun a b => rcmp a b < 0
theorem srows_ext : ∀ {a b : List (List Val)}, SRows a → SRows b → (∀ x, x ∈ a ↔ x ∈ b) → a = b
  | [], [], _, _, _ => rfl
  | [], y :: b, _, _, h => by have := (h y).2 (by simp); cases this
  | x :: a, [], _, _, h => by have := (h x).1 (by simp); cases this
  | x :: a, y :: b, ha, hb, h => by
    have ha := List.pairwise_cons.1 ha
    have hb := List.pairwise_cons.1 hb
    have irr : ∀ z, ¬ rcmp z z < 0 := fun z => by rw [totC_rcmp.refl]; omega
    have hxy : x = y := by
      rcases List.mem_cons.1 ((h x).1 (by simp)) with e | e
      · exact e
      · rcases List.mem_cons.1 ((h y).2 (by simp)) with e2 | e2
        · exact e2.symm
        · exact absurd (totC_rcmp.trans _ _ _ (ha.1 y e2) (hb.1 x e)) (irr x)
    subst hxy
    rw [srows_ext ha.2 hb.2 fun z => ?_]
    constructor
    · intro hz
      rcases List.mem_cons.1 ((h z).1 (List.mem_cons_of_mem _ hz)) with rfl | e
      · exact absurd (ha.1 z hz) (irr z)
      · exact e
    · intro hz
      rcases List.mem_cons.1 ((h z).2 (List.mem_cons_of_mem _ hz)) with rfl | e
      · exact absurd (hb.1 z hz) (irr z)
      · exact e
instance decRow (a b : List Val) : Decidable (a = b) := if h : rcmp a b = 0 then .isTrue (totC_rcmp.zero _ _ h) else .isFalse fun e => h (by rw [e]; exact totC_rcmp.refl _)
def perOf (l : List Fct) (r : List Val) : List Per := (l.filter fun f => pvalB f.valid && decide (f.row = r)).map (·.valid)
def RowsOf (l : List Fct) (R : List (List Val)) : Prop := SRows R ∧ ∀ x, x ∈ R ↔ ∃ f ∈ l, pvalB f.valid = true ∧ f.row = x
def bagOf (l : List Fct) (R : List (List Val)) : List Fct := R.flatMap fun r => (levOf (perOf l r)).map fun p => ⟨r, p⟩
theorem RowsOf.ext {l : List Fct} {R S : List (List Val)} (h : RowsOf l R) (k : RowsOf l S) : R = S := srows_ext h.1 k.1 fun x => (h.2 x).trans (k.2 x).symm
theorem perOf_snoc (l : List Fct) (f : Fct) (r : List Val) : perOf (l ++ [f]) r = perOf l r ++ (if pvalB f.valid && decide (f.row = r) then [f.valid] else []) := by
  unfold perOf
  rw [List.filter_append, List.map_append]
  congr 1
  by_cases h : (pvalB f.valid && decide (f.row = r)) = true
  · simp [h]
  · simp [h]
theorem gfind_some {s : ByteArray} : ∀ {G : List GrpC} {i : Nat}, gfind s G = some i → ∃ g, G[i]? = some g ∧ keyC g.f.row = s
  | [], _, h => by simp [gfind] at h
  | g :: r, i, h => by
    unfold gfind at h
    split at h
    · rename_i e; injection h with h; subst h; exact ⟨g, rfl, e.symm⟩
    · cases hr : gfind s r with
      | none => rw [hr] at h; cases h
      | some j =>
        rw [hr] at h; injection h with h; subst h
        obtain ⟨g', h1, h2⟩ := gfind_some hr
        exact ⟨g', by simpa using h1, h2⟩
theorem gfind_none {s : ByteArray} : ∀ {G : List GrpC}, gfind s G = none → ∀ g ∈ G, keyC g.f.row ≠ s
  | [], _, g, hg => by cases hg
  | x :: r, h, g, hg => by
    unfold gfind at h
    split at h
    · cases h
    · rename_i e
      cases hr : gfind s r with
      | none =>
        rcases List.mem_cons.1 hg with rfl | hg
        · exact fun q => e q.symm
        · exact gfind_none hr g hg
      | some j => rw [hr] at h; cases h
structure GInv (l : List Fct) (G : List GrpC) : Prop where
  nd : G.Pairwise fun g h => g.f.row ≠ h.f.row
  ps : ∀ g ∈ G, g.ps = perOf l g.f.row
  mem : ∀ g ∈ G, ∃ f ∈ l, pvalB f.valid = true ∧ f.row = g.f.row
  all : ∀ f ∈ l, pvalB f.valid = true → ∃ g ∈ G, g.f.row = f.row
theorem GInv.step {l : List Fct} {G : List GrpC} (h : GInv l G) (f : Fct) : GInv (l ++ [f]) (gstepC G f) := by
  unfold gstepC
  cases hv : pvalB f.valid with
  | false =>
    rw [cond_false]
    refine ⟨h.nd, fun g hg => ?_, fun g hg => ?_, fun f' hf' hv' => ?_⟩
    · rw [perOf_snoc, hv]; simpa using h.ps g hg
    · obtain ⟨f', h1, h2⟩ := h.mem g hg; exact ⟨f', List.mem_append_left _ h1, h2⟩
    · rcases List.mem_append.1 hf' with hf' | hf'
      · exact h.all f' hf' hv'
      · rw [List.mem_singleton.1 hf'] at hv'; rw [hv] at hv'; cases hv'
  | true =>
    rw [cond_true]
    cases hf : gfind (keyC f.row) G with
    | none =>
      have hne : ∀ g ∈ G, g.f.row ≠ f.row := fun g hg e => gfind_none hf g hg (by rw [e])
      have hemp : perOf l f.row = [] := by
        unfold perOf
        rw [List.map_eq_nil_iff, List.filter_eq_nil_iff]
        intro f' hf' hc
        rw [Bool.and_eq_true] at hc
        obtain ⟨g, hg, e⟩ := h.all f' hf' hc.1
        exact hne g hg (e.trans (of_decide_eq_true hc.2))
      refine ⟨List.pairwise_append.2 ⟨h.nd, List.pairwise_singleton _ _, fun g hg g' hg' => by rw [List.mem_singleton.1 hg']; exact hne g hg⟩, fun g hg => ?_, fun g hg => ?_, fun f' hf' hv' => ?_⟩
      · rcases List.mem_append.1 hg with hg | hg
        · rw [perOf_snoc, hv, show decide (f.row = g.f.row) = false from decide_eq_false fun e => hne g hg e.symm]
          simpa using h.ps g hg
        · rw [List.mem_singleton.1 hg, perOf_snoc, hv, hemp]; simp
      · rcases List.mem_append.1 hg with hg | hg
        · obtain ⟨f', h1, h2⟩ := h.mem g hg; exact ⟨f', List.mem_append_left _ h1, h2⟩
        · rw [List.mem_singleton.1 hg]; exact ⟨f, by simp, hv, rfl⟩
      · rcases List.mem_append.1 hf' with hf' | hf'
        · obtain ⟨g, hg, e⟩ := h.all f' hf' hv'; exact ⟨g, List.mem_append_left _ hg, e⟩
        · rw [List.mem_singleton.1 hf']; exact ⟨⟨f, [f.valid]⟩, by simp, rfl⟩
    | some i =>
      obtain ⟨g0, hg0, hk⟩ := gfind_some hf
      have hrow : g0.f.row = f.row := key_inj hk
      dsimp only
      rw [hg0]
      dsimp only
      have hil := (List.getElem?_eq_some_iff.1 hg0).1
      have hmap : (G.set i ⟨g0.f, g0.ps ++ [f.valid]⟩).map (·.f.row) = G.map (·.f.row) := by
        rw [List.map_set]
        refine List.ext_getElem? fun j => ?_
        rw [List.getElem?_set]
        split
        · rename_i e; subst e
          rw [List.length_map, if_pos hil, List.getElem?_map, hg0]; rfl
        · rfl
      have hnd : (G.set i ⟨g0.f, g0.ps ++ [f.valid]⟩).Pairwise fun g h => g.f.row ≠ h.f.row := by
        have h1 : (G.map (·.f.row)).Pairwise (· ≠ ·) := List.pairwise_map.2 h.nd
        rw [← hmap] at h1
        exact List.pairwise_map.1 h1
      have hmemG : ∀ g ∈ G.set i ⟨g0.f, g0.ps ++ [f.valid]⟩, (g ∈ G ∧ g.f.row ≠ f.row) ∨ g = ⟨g0.f, g0.ps ++ [f.valid]⟩ := by
        intro g hg
        obtain ⟨j, hj⟩ := List.getElem?_of_mem hg
        rw [List.getElem?_set] at hj
        split at hj
        · rename_i e
          injection hj with hj
          exact .inr hj.symm
        · rename_i e
          refine .inl ⟨List.mem_of_getElem? hj, fun q => ?_⟩
          have hjl := (List.getElem?_eq_some_iff.1 hj).1
          have e1 := (List.getElem?_eq_some_iff.1 hj).2
          have e2 := (List.getElem?_eq_some_iff.1 hg0).2
          rcases Nat.lt_or_gt_of_ne e with hlt | hlt
          · have := List.pairwise_iff_getElem.1 h.nd i j hil hjl hlt
            rw [e1, e2] at this; exact this (hrow.trans q.symm)
          · have := List.pairwise_iff_getElem.1 h.nd j i hjl hil hlt
            rw [e1, e2] at this; exact this (q.trans hrow.symm)
      have hg0m := List.mem_of_getElem? hg0
      refine ⟨hnd, fun g hg => ?_, fun g hg => ?_, fun f' hf' hv' => ?_⟩
      · rcases hmemG g hg with ⟨hg, hne⟩ | rfl
        · rw [perOf_snoc, hv, show decide (f.row = g.f.row) = false from decide_eq_false fun e => hne e.symm]
          simpa using h.ps g hg
        · show g0.ps ++ [f.valid] = perOf (l ++ [f]) g0.f.row
          rw [perOf_snoc, hv, show decide (f.row = g0.f.row) = true from decide_eq_true hrow.symm, ← h.ps g0 hg0m]; rfl
      · rcases hmemG g hg with ⟨hg, _⟩ | rfl
        · obtain ⟨f', h1, h2⟩ := h.mem g hg; exact ⟨f', List.mem_append_left _ h1, h2⟩
        · exact ⟨f, by simp, hv, hrow.symm⟩
      · have hex : ∃ g ∈ G, g.f.row = f'.row := by
          rcases List.mem_append.1 hf' with hf' | hf'
          · exact h.all f' hf' hv'
          · rw [List.mem_singleton.1 hf']; exact ⟨g0, hg0m, hrow⟩
        obtain ⟨g, hg, e⟩ := hex
        have : g.f.row ∈ (G.set i ⟨g0.f, g0.ps ++ [f.valid]⟩).map (·.f.row) := by rw [hmap]; exact List.mem_map_of_mem hg
        obtain ⟨g', hg', e'⟩ := List.mem_map.1 this
        exact ⟨g', hg', e'.trans e⟩
theorem gfoldC_inv (l : List Fct) : GInv l (gfoldC l) := by
  have : ∀ (l l0 : List Fct) (G : List GrpC), GInv l0 G → GInv (l0 ++ l) (l.foldl gstepC G) := by
    intro l
    induction l with
    | nil => intro l0 G h; simpa using h
    | cons f l ih =>
      intro l0 G h
      have := ih (l0 ++ [f]) _ (h.step f)
      rw [List.append_assoc] at this
      exact this
  have := this l [] [] ⟨List.Pairwise.nil, fun g hg => (by cases hg), fun g hg => (by cases hg), fun f hf => (by cases hf)⟩
  simpa [gfoldC] using this
theorem rcmp_le_trans (a b d : List Val) (h1 : rcmp a b ≤ 0) (h2 : rcmp b d ≤ 0) : rcmp a d ≤ 0 := by
  rcases Int.lt_or_eq_of_le h1 with h1 | h1
  · rcases Int.lt_or_eq_of_le h2 with h2 | h2
    · exact Int.le_of_lt (totC_rcmp.trans _ _ _ h1 h2)
    · rw [← totC_rcmp.zero _ _ h2]; exact Int.le_of_lt h1
  · rw [totC_rcmp.zero _ _ h1]; exact h2
theorem rcmp_tot (a b : List Val) (h : ¬ rcmp a b < 0) : rcmp b a ≤ 0 := by
  have := (totC_rcmp.anti a b); omega
theorem rowsP_eq (l : List Fct) : ∃ R, RowsOf l R ∧ rowsP l = R.map fun r => ⟨r, perOf l r⟩ := by
  have hi := gfoldC_inv l
  have hp := sortT_perm cmpSG ((gfoldC l).map fun g => (⟨g.f.row, g.ps⟩ : SGroupcoalesce))
  have ha := sortT_asc (c := cmpSG) (fun a b d => rcmp_le_trans a.row b.row d.row) (fun a b => rcmp_tot a.row b.row) ((gfoldC l).map fun g => (⟨g.f.row, g.ps⟩ : SGroupcoalesce))
  have hn : (rowsP l).Pairwise fun a b => a.row ≠ b.row := by
    have h1 : ((gfoldC l).map fun g => (⟨g.f.row, g.ps⟩ : SGroupcoalesce)).Pairwise fun a b => a.row ≠ b.row := List.pairwise_map.2 hi.nd
    exact (List.Perm.pairwise_iff (fun {a b} h => Ne.symm h) hp).2 h1
  have hmem : ∀ s ∈ rowsP l, s.periods = perOf l s.row ∧ ∃ f ∈ l, pvalB f.valid = true ∧ f.row = s.row := by
    intro s hs
    obtain ⟨g, hg, rfl⟩ := List.mem_map.1 (hp.mem_iff.1 hs)
    exact ⟨hi.ps g hg, hi.mem g hg⟩
  refine ⟨(rowsP l).map (·.row), ⟨?_, fun x => ?_⟩, ?_⟩
  · refine List.pairwise_map.2 ?_
    refine (List.Pairwise.and ha hn).imp ?_
    rintro a b ⟨h1, h2⟩
    rcases Int.lt_or_eq_of_le h1 with h | h
    · exact h
    · exact absurd (totC_rcmp.zero _ _ h) h2
  · constructor
    · intro hx
      obtain ⟨s, hs, rfl⟩ := List.mem_map.1 hx
      exact (hmem s hs).2
    · rintro ⟨f, hf, hv, rfl⟩
      obtain ⟨g, hg, e⟩ := hi.all f hf hv
      exact List.mem_map.2 ⟨⟨g.f.row, g.ps⟩, hp.mem_iff.2 (List.mem_map.2 ⟨g, hg, rfl⟩), e⟩
  · rw [List.map_map]
    refine (List.map_id (rowsP l)).symm.trans (List.map_congr_left fun s hs => ?_)
    have := (hmem s hs).1
    obtain ⟨r, ps⟩ := s
    show (⟨r, ps⟩ : SGroupcoalesce) = ⟨r, perOf l r⟩
    rw [← this]
end Go.Proofs.YtfccopdbgfdcdaaGreatDoor
namespace Go.Proofs.YtfccopdbgfdcdaaGreatDoor
open Go.RowKit Go.MapKept
set_option linter.unusedVariables false
theorem flatMap_one {α β : Type} (f : α → β) : ∀ l : List α, (l.flatMap fun x => [f x]) = l.map f
  | [] => rfl
  | x :: l => by rw [List.flatMap_cons, flatMap_one f l]; rfl
theorem gCounted_eq (ps : List Per) (hn : ps.length ≤ 100000) : gCounted ps = some (ofV (ones ps)) := by
  unfold gCounted
  rw [loop_app (l := ps) (fun p => [(⟨p, 1⟩ : Cnt)]) 5864062014805 ?_ ?_ (by unfold fuel; omega) [] (by rw [flatMap_one]; simp; omega)]
  · rw [Option.bind_some, flatMap_one, List.nil_append]
    show (gOfL (ones ps)).bind _ = _
    unfold gOfL
    rw [show decide ((ones ps).length ≤ 100000) = true from decide_eq_true (by simpa [ones] using hn)]
    rfl
  · intro s i x hx hs
    have hi := (List.getElem?_eq_some_iff.1 hx).1
    unfold gCounted_B1
    dsimp only
    rw [lt_dec hx, cond_true, getI_nat hx]
    simp only [Option.bind_some]
    rw [show decide (s.length + 1 ≤ 5864062014805) = true from decide_eq_true (by simpa using hs), cond_true, wrapN (by omega)]
  · intro s
    unfold gCounted_B1
    dsimp only
    rw [lt_decF, cond_false]
theorem levOf_len (ps : List Per) : (levOf ps).length ≤ 600 * (1 + 2 * ps.length) := by
  unfold levOf levV
  rw [List.length_map, (St.levM_spec _).2.length_eq]
  have h1 := St.levTo_len ((ofV (ones ps)).map toS) 600
  have h2 : St.levAll ((ofV (ones ps)).map toS) = St.levTo ((ofV (ones ps)).map toS) 600 := rfl
  rw [h2]
  have h3 : ((ofV (ones ps)).map toS).length ≤ 1 + 2 * ps.length := by
    rw [List.length_map]
    unfold ofV
    rw [List.length_map]
    have := St.ofL_len ((ones ps).map toC)
    simpa [ones] using this
  exact Nat.le_trans h1 (Nat.mul_le_mul_left _ h3)
theorem gBag1_eq (ps : List Per) (hn : ps.length ≤ 300) (hv : ∀ p ∈ ps, pvalB p = true) : gBag1 ps = some (levOf ps) := by
  unfold gBag1
  by_cases h1 : ps.length = 1
  · rw [show decide (((ps.length : Nat) : Int) = 1) = true from decide_eq_true (by omega), cond_true]
    match ps, h1 with
    | [p], _ => rw [levOf_one p (hv p (by simp))]
  · rw [show decide (((ps.length : Nat) : Int) = 1) = false from decide_eq_false (by omega), cond_false, gCounted_eq ps (by omega), Option.bind_some]
    unfold gLevL
    rw [if_pos (levOK_of ps hn)]
    rfl
theorem perOf_len (l : List Fct) (r : List Val) : (perOf l r).length ≤ l.length := by unfold perOf; rw [List.length_map]; exact List.length_filter_le _ _
theorem perOf_valid (l : List Fct) (r : List Val) : ∀ p ∈ perOf l r, pvalB p = true := by
  intro p hp
  obtain ⟨f, hf, rfl⟩ := List.mem_map.1 hp
  have := (List.mem_filter.1 hf).2
  rw [Bool.and_eq_true] at this
  exact this.1
def grpF (s : SGroupcoalesce) : List Fct := (levOf s.periods).map fun p => ⟨s.row, p⟩
theorem gBag_eq (l : List Fct) (h : FctsOK l) : ∃ R, RowsOf l R ∧ gBag l = some (bagOf l R) := by
  obtain ⟨R, hR, hr⟩ := rowsP_eq l
  refine ⟨R, hR, ?_⟩
  have hmem : ∀ s ∈ rowsP l, s.periods.length ≤ 19 ∧ (∀ p ∈ s.periods, pvalB p = true) ∧ s.row.length ≤ 1000 := by
    intro s hs
    rw [hr] at hs
    obtain ⟨r, hrR, rfl⟩ := List.mem_map.1 hs
    obtain ⟨f, hf, _, e⟩ := (hR.2 r).1 hrR
    refine ⟨Nat.le_trans (perOf_len l r) h.1, perOf_valid l r, ?_⟩
    show r.length ≤ 1000
    rw [← e]; exact (h.2 f hf).1
  have hlen : (rowsP l).length ≤ 19 := by
    have h1 := (sortT_perm cmpSG ((gfoldC l).map fun g => (⟨g.f.row, g.ps⟩ : SGroupcoalesce))).length_eq
    have h2 := gfoldC_len l
    have h3 := h.1
    show (sortT cmpSG _).length ≤ 19
    rw [h1, List.length_map]; omega
  have hg : ∀ s ∈ rowsP l, (grpF s).length ≤ 23400 := by
    intro s hs
    unfold grpF
    rw [List.length_map]
    have h1 := levOf_len s.periods
    have h2 := (hmem s hs).1
    omega
  have htot : ((rowsP l).flatMap grpF).length ≤ 19 * 23400 := by
    have : ∀ (L : List SGroupcoalesce), (∀ s ∈ L, (grpF s).length ≤ 23400) → (L.flatMap grpF).length ≤ L.length * 23400 := by
      intro L
      induction L with
      | nil => intro _; simp
      | cons s L ih =>
        intro hL
        have h1 := ih fun x hx => hL x (List.mem_cons_of_mem _ hx)
        have h2 := hL s (by simp)
        rw [List.flatMap_cons, List.length_append, List.length_cons]; omega
    exact Nat.le_trans (this _ hg) (Nat.mul_le_mul_right _ hlen)
  have hb : bagOf l R = (rowsP l).flatMap grpF := by
    rw [hr, List.flatMap_map]; rfl
  unfold gBag gBuild
  have e1 : gRowsCo l = some (rowsP l) := by unfold gRowsCo; rw [if_pos h]
  rw [e1, Option.bind_some]
  generalize rowsP l = X at hmem hlen hg htot hb ⊢
  rw [loop_app (l := X) grpF 3518437208883 ?_ ?_ (by unfold fuel; omega) [] (by simp only [List.length_nil]; omega)]
  · simp only [Option.bind_some, gBuild_K3, List.nil_append, hb]
  · intro s i x hx hs
    have hi := (List.getElem?_eq_some_iff.1 hx).1
    obtain ⟨m1, m2, m3⟩ := hmem x (List.mem_of_getElem? hx)
    unfold gBuild_B3
    dsimp only
    rw [lt_dec hx, cond_true, getI_nat hx]
    simp only [Option.bind_some]
    rw [gBag1_eq x.periods (by omega) m2, Option.bind_some]
    have hgl : (grpF x).length = (levOf x.periods).length := by unfold grpF; rw [List.length_map]
    have hgx := hg x (List.mem_of_getElem? hx)
    rw [loop_app (l := levOf x.periods) (fun p => [(⟨x.row, p⟩ : Fct)]) 3518437208883 ?_ ?_ (by unfold fuel; omega) s (by rw [flatMap_one, List.length_map]; omega)]
    · rw [Option.bind_some, flatMap_one]
      show some (Step.next (s ++ grpF x, _)) = _
      rw [wrapN (by omega)]
    · intro s' j y hy hs'
      have hj := (List.getElem?_eq_some_iff.1 hy).1
      unfold gBuild_B4
      dsimp only
      rw [lt_dec hy, cond_true, getI_nat hy]
      simp only [Option.bind_some]
      rw [show decide (x.row.length ≤ 4398046511104) = true from decide_eq_true (by omega), cond_true, show decide (s'.length + 1 ≤ 3518437208883) = true from decide_eq_true (by simpa using hs'), cond_true, wrapN (by omega)]
    · intro s'
      unfold gBuild_B4
      dsimp only
      rw [lt_decF, cond_false]
  · intro s
    unfold gBuild_B3
    dsimp only
    rw [lt_decF, cond_false]
end Go.Proofs.YtfccopdbgfdcdaaGreatDoor
namespace Go.Proofs.YtfccopdbgfdcdaaGreatDoor
open Go.RowKit Go.MapKept
set_option maxRecDepth 100000
set_option linter.unusedVariables false
set_option linter.unusedSimpArgs false
def AscF (l : List Fct) : Prop := l.Pairwise fun a b => rcmp a.row b.row ≤ 0
def leF (x y : Fct) : Bool := leV x.row y.row
theorem leF_iff (x y : Fct) : leF x y = true ↔ rcmp x.row y.row ≤ 0 := leV_iff x.row y.row
theorem gMerged22_at {a b : List Fct} (ha : a.length ≤ 1000000) (hb : b.length ≤ 1000000) (hra : ∀ r ∈ a, r.row.length ≤ 1000000) (hrb : ∀ r ∈ b, r.row.length ≤ 1000000) : ∀ (n i k : Nat) (out : List Fct), i ≤ a.length → k ≤ b.length → out.length = i + k → (a.length - i) + (b.length - k) < n → (loopM (gMerged22_B1 a b) n (out, (i : Int), (k : Int))).bind gMerged22_K1 = some (out ++ List.merge (a.drop i) (b.drop k) leF)
  | 0, _, _, _, _, _, _, h => by omega
  | n + 1, i, k, out, h1, h2, ho, hn => by
    have hg : decide (out.length + 1 ≤ 3518437208883) = true := decide_eq_true (by omega)
    rw [loopM]
    by_cases hlt : i < a.length
    · obtain ⟨x, hx⟩ := get_of_lt hlt
      have ex := (List.getElem?_eq_some_iff.1 hx).2
      have hne : decide ((i : Int) = ((a.length : Nat) : Int)) = false := decide_eq_false (by omega)
      have ihA := gMerged22_at ha hb hra hrb n (i + 1) k (out ++ [x]) (by omega) (by omega) (by simp; omega) (by omega)
      by_cases hlb : k < b.length
      · obtain ⟨y, hy⟩ := get_of_lt hlb
        have ey := (List.getElem?_eq_some_iff.1 hy).2
        have ihB := gMerged22_at ha hb hra hrb n i (k + 1) (out ++ [y]) (by omega) (by omega) (by simp; omega) (by omega)
        have eb : gMerged22_B1 a b (out, (i : Int), (k : Int)) = bif decide (rcmp y.row x.row < 0) then some (.next (out ++ [y], (i : Int), ((k + 1 : Nat) : Int))) else some (.next (out ++ [x], ((i + 1 : Nat) : Int), (k : Int))) := by
          unfold gMerged22_B1
          dsimp only
          rw [lt_dec hx, cond_true, hne, cond_false, lt_dec hy, cond_true, getI_nat hy, getI_nat hx]
          simp only [Option.bind_some]
          rw [gCmp8_eq y.row x.row (by have := hrb y (List.mem_of_getElem? hy); omega) (by have := hra x (List.mem_of_getElem? hx); omega), wrapN (by omega), wrapN (by omega), hg]
          rfl
        rw [eb, List.drop_eq_getElem_cons hlt, List.drop_eq_getElem_cons hlb, ex, ey, List.cons_merge_cons]
        rw [List.drop_eq_getElem_cons hlb, ey] at ihA
        rw [List.drop_eq_getElem_cons hlt, ex] at ihB
        by_cases hc : rcmp y.row x.row < 0
        · rw [show decide (rcmp y.row x.row < 0) = true from decide_eq_true hc, cond_true, if_neg (by unfold leF leV; simp [hc])]
          dsimp only
          rw [ihB]; simp
        · rw [show decide (rcmp y.row x.row < 0) = false from decide_eq_false hc, cond_false, if_pos (by unfold leF leV; simp [hc])]
          dsimp only
          rw [ihA]; simp
      · have hk : k = b.length := by omega
        have eb : gMerged22_B1 a b (out, (i : Int), (k : Int)) = some (.next (out ++ [x], ((i + 1 : Nat) : Int), (k : Int))) := by
          unfold gMerged22_B1
          dsimp only
          rw [lt_dec hx, cond_true, hne, cond_false, hk, lt_decF, cond_false, getI_nat hx]
          simp only [Option.bind_some]
          rw [wrapN (by omega), hg]
          rfl
        rw [eb]
        dsimp only
        rw [ihA, List.drop_eq_getElem_cons hlt, ex, hk, List.drop_length, List.merge_right, List.merge_right]
        simp
    · have hi : i = a.length := by omega
      subst hi
      by_cases hlb : k < b.length
      · obtain ⟨y, hy⟩ := get_of_lt hlb
        have ey := (List.getElem?_eq_some_iff.1 hy).2
        have ihB := gMerged22_at ha hb hra hrb n a.length (k + 1) (out ++ [y]) (by omega) (by omega) (by simp; omega) (by omega)
        have eb : gMerged22_B1 a b (out, ((a.length : Nat) : Int), (k : Int)) = some (.next (out ++ [y], ((a.length : Nat) : Int), ((k + 1 : Nat) : Int))) := by
          unfold gMerged22_B1
          dsimp only
          rw [lt_decF, cond_false, lt_dec hy, cond_true, show decide (((a.length : Nat) : Int) = ((a.length : Nat) : Int)) = true from decide_eq_true rfl, cond_true, getI_nat hy]
          simp only [Option.bind_some]
          rw [wrapN (by omega), hg]
          rfl
        rw [eb]
        dsimp only
        rw [ihB, List.drop_eq_getElem_cons hlb, ey, List.drop_length, List.nil_merge, List.nil_merge]
        simp
      · have hk : k = b.length := by omega
        subst hk
        have eb : gMerged22_B1 a b (out, ((a.length : Nat) : Int), ((b.length : Nat) : Int)) = some (.exit (out, ((a.length : Nat) : Int), ((b.length : Nat) : Int))) := by
          unfold gMerged22_B1
          dsimp only
          rw [lt_decF, cond_false, lt_decF, cond_false]
        rw [eb, List.drop_length, List.drop_length, List.nil_merge, List.append_nil]
        rfl
theorem gMerged22_eq {a b : List Fct} (ha : a.length ≤ 1000000) (hb : b.length ≤ 1000000) (hra : ∀ r ∈ a, r.row.length ≤ 1000000) (hrb : ∀ r ∈ b, r.row.length ≤ 1000000) : gMerged22 a b = some (List.merge a b leF) := by
  unfold gMerged22
  have := gMerged22_at ha hb hra hrb fuel 0 0 [] (Nat.zero_le _) (Nat.zero_le _) rfl (by unfold fuel; omega)
  rw [show (((0 : Nat) : Int)) = 0 from rfl] at this
  rw [this]; simp
theorem mergeF_asc {a b : List Fct} (ha : AscF a) (hb : AscF b) : AscF (List.merge a b leF) := by
  have := List.pairwise_merge (le := leF) (fun x y z h1 h2 => (leF_iff x z).2 (rcmp_le_trans _ _ _ ((leF_iff x y).1 h1) ((leF_iff y z).1 h2))) (fun x y => by
    rw [Bool.or_eq_true, leF_iff, leF_iff]; exact totC_rcmp.total x.row y.row) a b (ha.imp fun h => (leF_iff _ _).2 h) (hb.imp fun h => (leF_iff _ _).2 h)
  exact this.imp fun h => (leF_iff _ _).1 h
theorem gOrdered_eq : ∀ (n : Nat) (l : List Fct), l.length ≤ n → l.length ≤ 1000000 → (∀ r ∈ l, r.row.length ≤ 1000000) → ∃ r, gOrdered (n + 1) l = some r ∧ AscF r ∧ r.Perm l := by
  intro n
  induction n with
  | zero =>
    intro l h _ _
    have : l = [] := by cases l with | nil => rfl | cons _ _ => simp at h
    subst this
    exact ⟨[], rfl, List.Pairwise.nil, List.Perm.refl _⟩
  | succ n ih =>
    intro l h hl hr
    match l, h, hl, hr with
    | [], _, _, _ => exact ⟨[], rfl, List.Pairwise.nil, List.Perm.refl _⟩
    | [x], _, _, hr => exact ⟨[x], rfl, by simp [AscF], List.Perm.refl _⟩
    | x :: y :: t, h, hl, hr =>
      generalize hL : x :: y :: t = l at h hl hr
      have h2 : 2 ≤ l.length := by rw [← hL]; simp
      have hm : IntKind.i64.wrap (((l.length : Nat) : Int).tdiv (2 : Int)) = ((l.length / 2 : Nat) : Int) := by
        rw [show ((l.length : Nat) : Int).tdiv 2 = ((l.length / 2 : Nat) : Int) from rfl]
        exact wrap_eq (by omega) (by omega)
      have s1 : subI l 0 ((l.length / 2 : Nat) : Int) = some (l.take (l.length / 2)) := by
        unfold subI
        rw [if_pos (by omega), Int.toNat_natCast]; rfl
      have s2 : subI l ((l.length / 2 : Nat) : Int) ((l.length : Nat) : Int) = some (l.drop (l.length / 2)) := by
        unfold subI
        rw [if_pos (by omega), Int.toNat_natCast, Int.toNat_natCast, List.take_length]
      obtain ⟨r1, e1, a1, p1⟩ := ih (l.take (l.length / 2)) (by simp; omega) (by simp; omega) fun r hr' => hr r (List.mem_of_mem_take hr')
      obtain ⟨r2, e2, a2, p2⟩ := ih (l.drop (l.length / 2)) (by simp; omega) (by simp; omega) fun r hr' => hr r (List.mem_of_mem_drop hr')
      refine ⟨List.merge r1 r2 leF, ?_, mergeF_asc a1 a2, ?_⟩
      · show gOrderedB (gOrdered (n + 1)) l = _
        unfold gOrderedB
        rw [show decide (((l.length : Nat) : Int) < 2) = false from decide_eq_false (by omega), cond_false, show decide ((2 : Int) ≠ 0) = true from rfl, cond_true, hm, s1]
        simp only [Option.bind_some]
        rw [e1, Option.bind_some, s2, Option.bind_some, e2, Option.bind_some]
        rw [gMerged22_eq (by rw [p1.length_eq]; simp; omega) (by rw [p2.length_eq]; simp; omega) (fun r hr' => hr r (List.mem_of_mem_take (p1.mem_iff.1 hr'))) (fun r hr' => hr r (List.mem_of_mem_drop (p2.mem_iff.1 hr')))]
        rfl
      · refine (List.merge_perm_append leF).trans ((p1.append p2).trans ?_)
        rw [List.take_append_drop]
end Go.Proofs.YtfccopdbgfdcdaaGreatDoor
namespace Go.Proofs.YtfccopdbgfdcdaaGreatDoor
open Go.RowKit Go.MapKept
set_option maxRecDepth 100000
set_option linter.unusedVariables false
set_option linter.unusedSimpArgs false
theorem gValid1_eq (p : Per) : gValid1 p = some (pvalB p) := by
  unfold gValid1 pvalB
  cases h1 : decide (0 ≤ p.lo) <;> cases h2 : decide (p.lo < p.hi) <;> cases h3 : decide (p.hi ≤ 1099511627776) <;> simp_all
theorem gEqual8_self (x : List Val) (h : x.length ≤ 1000000) : gEqual8 x x = some true := by
  unfold gEqual8
  rw [gCmp8_eq x x (by omega) (by omega), Option.bind_some, totC_rcmp.refl]; rfl
theorem gDistinct8_rep (r : List Val) (hr : r.length ≤ 1000000) (k : Nat) (hk : k ≤ 63) : gDistinct8 (List.replicate k r) = some (if k = 0 then [] else [r]) := by
  unfold gDistinct8
  have hp := sortV_perm (List.replicate k r)
  have hs : sortV (List.replicate k r) = List.replicate k r := by
    refine List.eq_replicate_iff.2 ⟨by rw [hp.length_eq]; simp, fun b hb => ?_⟩
    exact (List.mem_replicate.1 (hp.mem_iff.1 hb)).2
  rw [gSortR_eq _ (by simpa using hk) (fun x hx => by rw [(List.mem_replicate.1 hx).2]; exact hr), Option.bind_some, hs]
  have hlen : (List.replicate k r).length = k := by simp
  have get : ∀ i, i < k → (List.replicate k r)[i]? = some r := fun i hi => by rw [List.getElem?_replicate]; simp [hi]
  have loop : ∀ (n i : Nat), 1 ≤ i → i ≤ k → k - i < n → loopM (gDistinct8_B1 (List.replicate k r)) n ([r], (i : Int)) = some (.inl ([r], (k : Int))) := by
    intro n
    induction n with
    | zero => intro i _ _ h; omega
    | succ n ih =>
      intro i h1 h2 hn
      rw [loopM]
      by_cases hlt : i < k
      · have hx := get i hlt
        have e : gDistinct8_B1 (List.replicate k r) ([r], (i : Int)) = some (.next ([r], ((i + 1 : Nat) : Int))) := by
          unfold gDistinct8_B1
          dsimp only
          rw [lt_dec hx, cond_true, show decide ((i : Int) = 0) = false from decide_eq_false (by omega), cond_false, show IntKind.i64.wrap ((i : Int) - 1) = ((i - 1 : Nat) : Int) from wrap_eq (by omega) (by omega), getI_nat (get (i - 1) (by omega)), getI_nat hx]
          simp only [Option.bind_some]
          rw [gEqual8_self r hr]
          simp only [Option.bind_some, Bool.not_true, cond_false]
          rw [wrapN (by omega)]
        rw [e]
        exact ih (i + 1) (by omega) (by omega) (by omega)
      · have : i = k := by omega
        subst this
        have e : gDistinct8_B1 (List.replicate i r) ([r], (i : Int)) = some (.exit ([r], (i : Int))) := by
          unfold gDistinct8_B1
          dsimp only
          rw [show decide ((i : Int) < (((List.replicate i r).length : Nat) : Int)) = false from decide_eq_false (by simp), cond_false]
        rw [e]
  by_cases h0 : k = 0
  · subst h0
    rw [if_pos rfl]
    have e : gDistinct8_B1 (List.replicate 0 r) ([], 0) = some (.exit ([], 0)) := by
      unfold gDistinct8_B1
      rfl
    show (loopM (gDistinct8_B1 (List.replicate 0 r)) (4611686018427387903 + 1) ([], 0)).bind gDistinct8_K1 = _
    rw [loopM, e]
    rfl
  · rw [if_neg h0]
    have hx := get 0 (by omega)
    have e : gDistinct8_B1 (List.replicate k r) ([], 0) = some (.next ([r], ((1 : Nat) : Int))) := by
      have hg := getI_nat hx
      unfold gDistinct8_B1
      dsimp only
      rw [show decide ((0 : Int) < (((List.replicate k r).length : Nat) : Int)) = true from decide_eq_true (by simp; omega), cond_true, show decide ((0 : Int) = 0) = true from rfl, cond_true]
      rw [show getI (List.replicate k r) 0 = some r from hg]
      rfl
    show (loopM (gDistinct8_B1 (List.replicate k r)) (4611686018427387903 + 1) ([], 0)).bind gDistinct8_K1 = _
    rw [loopM, e]
    dsimp only
    rw [loop 4611686018427387903 1 (by omega) (by omega) (by omega)]
    rfl
theorem gRows22_run (s : List Fct) (r : List Val) (hr : r.length ≤ 1000000) (hs : ∀ f ∈ s, f.row = r) (hn : s.length ≤ 63) : gRows22 s = some (if s.any fun f => pvalB f.valid then [r] else []) := by
  unfold gRows22
  have hfm : ∀ l : List Fct, (∀ f ∈ l, f.row = r) → (l.flatMap fun f => if pvalB f.valid then [f.row] else []) = List.replicate (l.countP fun f => pvalB f.valid) r := by
    intro l
    induction l with
    | nil => intro _; rfl
    | cons f l ih =>
      intro h
      rw [List.flatMap_cons, ih fun x hx => h x (List.mem_cons_of_mem _ hx), List.countP_cons, h f (by simp)]
      by_cases hv : pvalB f.valid = true
      · rw [if_pos hv, if_pos hv, List.replicate_succ]; rfl
      · rw [if_neg hv, if_neg hv]; rfl
  have hc : s.countP (fun f => pvalB f.valid) ≤ s.length := List.countP_le_length
  rw [loop_app (l := s) (fun f => if pvalB f.valid then [f.row] else []) 5864062014805 ?_ ?_ (by unfold fuel; omega) [] (by rw [hfm s hs]; simp; omega)]
  · rw [Option.bind_some, hfm s hs, List.nil_append]
    show (gDistinct8 _).bind _ = _
    rw [gDistinct8_rep r hr _ (by omega), Option.bind_some]
    by_cases ha : (s.any fun f => pvalB f.valid) = true
    · rw [if_pos ha, if_neg]
      intro e
      obtain ⟨f, hf, hv⟩ := List.any_eq_true.1 ha
      have := (List.countP_pos_iff (p := fun f : Fct => pvalB f.valid)).2 ⟨f, hf, hv⟩
      omega
    · rw [if_neg ha, if_pos]
      rw [List.countP_eq_zero]
      intro f hf hv
      exact ha (List.any_eq_true.2 ⟨f, hf, hv⟩)
  · intro o i x hx ho
    have hi := (List.getElem?_eq_some_iff.1 hx).1
    unfold gRows22_B1
    dsimp only
    rw [lt_dec hx, cond_true, getI_nat hx]
    simp only [Option.bind_some]
    rw [gValid1_eq, Option.bind_some]
    by_cases hv : pvalB x.valid = true
    · rw [if_pos hv] at ho ⊢
      rw [hv, cond_true, show decide (o.length + 1 ≤ 5864062014805) = true from decide_eq_true (by simpa using ho), cond_true, wrapN (by omega)]
    · rw [if_neg hv]
      rw [Bool.not_eq_true] at hv
      rw [hv, cond_false, wrapN (by omega), List.append_nil]
  · intro o
    unfold gRows22_B1
    dsimp only
    rw [lt_decF, cond_false]
def perAll (l : List Fct) (r : List Val) : List Per := (l.filter fun f => decide (f.row = r)).map (·.valid)
theorem gCounts22_eq (s : List Fct) (r : List Val) (hr : r.length ≤ 1000000) (hs : ∀ f ∈ s, f.row.length ≤ 1000000) (hn : s.length ≤ 1000) : gCounts22 s r = some (ofV (ones (perAll s r))) := by
  unfold gCounts22
  have hfm : ∀ l : List Fct, (l.flatMap fun f => if f.row = r then [(⟨f.valid, 1⟩ : Cnt)] else []) = ones (perAll l r) := by
    intro l
    induction l with
    | nil => rfl
    | cons f l ih =>
      rw [List.flatMap_cons, ih]
      unfold perAll ones
      by_cases e : f.row = r
      · rw [if_pos e, List.filter_cons_of_pos (by simpa using e)]; rfl
      · rw [if_neg e, List.filter_cons_of_neg (by simpa using e)]; rfl
  have hl : (perAll s r).length ≤ s.length := by unfold perAll; rw [List.length_map]; exact List.length_filter_le _ _
  have hl2 : (ones (perAll s r)).length = (perAll s r).length := by unfold ones; simp
  rw [loop_app (l := s) (fun f => if f.row = r then [(⟨f.valid, 1⟩ : Cnt)] else []) 5864062014805 ?_ ?_ (by unfold fuel; omega) [] (by rw [hfm]; simp; omega)]
  · rw [Option.bind_some, hfm, List.nil_append]
    show (gOfR _).bind _ = _
    unfold gOfR
    rw [show decide ((ones (perAll s r)).length ≤ 100000) = true from decide_eq_true (by omega)]
    rfl
  · intro o i x hx ho
    have hi := (List.getElem?_eq_some_iff.1 hx).1
    unfold gCounts22_B1
    dsimp only
    rw [lt_dec hx, cond_true, getI_nat hx]
    simp only [Option.bind_some]
    rw [gCmp8_eq x.row r (by have := hs x (List.mem_of_getElem? hx); omega) (by omega), Option.bind_some]
    by_cases e : x.row = r
    · rw [if_pos e] at ho ⊢
      rw [show decide (rcmp x.row r = 0) = true from decide_eq_true (by rw [e]; exact totC_rcmp.refl r), cond_true, show decide (o.length + 1 ≤ 5864062014805) = true from decide_eq_true (by simpa using ho), cond_true, wrapN (by omega)]
    · rw [if_neg e, show decide (rcmp x.row r = 0) = false from decide_eq_false fun q => e (totC_rcmp.zero _ _ q), cond_false, wrapN (by omega), List.append_nil]
  · intro o
    unfold gCounts22_B1
    dsimp only
    rw [lt_decF, cond_false]
theorem gDuring_eq (r : List Val) (ps : List Per) (hn : ps.length ≤ 1000000) : gDuring r ps = some (ps.map fun p => ⟨r, p⟩) := by
  unfold gDuring
  rw [loop_app (l := ps) (fun p => [(⟨r, p⟩ : Fct)]) 3518437208883 ?_ ?_ (by unfold fuel; omega) [] (by rw [flatMap_one]; simp; omega)]
  · rw [Option.bind_some, flatMap_one, List.nil_append]; rfl
  · intro o i x hx ho
    have hi := (List.getElem?_eq_some_iff.1 hx).1
    unfold gDuring_B1
    dsimp only
    rw [lt_dec hx, cond_true, getI_nat hx]
    simp only [Option.bind_some]
    rw [show decide (o.length + 1 ≤ 3518437208883) = true from decide_eq_true (by simpa using ho), cond_true, wrapN (by omega)]
  · intro o
    unfold gDuring_B1
    dsimp only
    rw [lt_decF, cond_false]
end Go.Proofs.YtfccopdbgfdcdaaGreatDoor
namespace Go.Proofs.YtfccopdbgfdcdaaGreatDoor
open Go.RowKit Go.MapKept
set_option maxRecDepth 100000
set_option linter.unusedVariables false
set_option linter.unusedSimpArgs false
theorem split_run (r : List Val) : ∀ l : List Fct, ∃ s t, l = s ++ t ∧ (∀ f ∈ s, f.row = r) ∧ (∀ f u, t = f :: u → f.row ≠ r)
  | [] => ⟨[], [], rfl, (fun _ h => by cases h), (fun _ _ h => by cases h)⟩
  | f :: l => by
    by_cases e : f.row = r
    · obtain ⟨s, t, h1, h2, h3⟩ := split_run r l
      refine ⟨f :: s, t, by rw [h1]; rfl, fun g hg => ?_, h3⟩
      rcases List.mem_cons.1 hg with rfl | hg
      · exact e
      · exact h2 g hg
    · exact ⟨[], f :: l, rfl, (fun _ h => by cases h), (fun g u h => by injection h with h1 h2; subst h1; exact e)⟩
theorem subI_mid {α : Type} (P s t : List α) : subI (P ++ s ++ t) ((P.length : Nat) : Int) (((P.length + s.length : Nat) : Nat) : Int) = some s := by
  unfold subI
  rw [if_pos (by simp; omega), Int.toNat_natCast, Int.toNat_natCast]
  congr 1
  have e : (P ++ s ++ t).take (P.length + s.length) = P ++ s := by
    rw [List.take_append_of_le_length (by simp)]
    rw [List.take_of_length_le (by simp)]
  rw [e, List.drop_left]
theorem perAll_app (s t : List Fct) (r : List Val) : perAll (s ++ t) r = perAll s r ++ perAll t r := by unfold perAll; rw [List.filter_append, List.map_append]
theorem perAll_none {l : List Fct} {r : List Val} (h : ∀ f ∈ l, f.row ≠ r) : perAll l r = [] := by
  unfold perAll
  rw [List.map_eq_nil_iff, List.filter_eq_nil_iff]
  intro f hf e
  exact h f hf (of_decide_eq_true e)
def GrpsOf (l : List Fct) (G : List SGroup) : Prop := RowsOf l (G.map (·.row)) ∧ ∀ g ∈ G, g.steps = ofV (ones (perAll l g.row))
theorem run_end (P s t : List Fct) (r : List Val) (f0 : Fct) (hf0 : f0.row = r) (hrl : ∀ f ∈ P ++ s ++ t, f.row.length ≤ 1000000) (hn : (P ++ s ++ t).length ≤ 63) (hs : ∀ f ∈ s, f.row = r) (hs0 : s[0]? = some f0) (ht : ∀ f u, t = f :: u → f.row ≠ r) :
    ∀ (n j : Nat), j ≤ s.length → s.length - j < n → loopM (gGroups22_B6 (P ++ s ++ t) ((P.length : Nat) : Int)) n (((P.length + j : Nat) : Nat) : Int) = some (.inl (((P.length + s.length : Nat) : Nat) : Int)) := by
  have hi : (P ++ s ++ t)[P.length]? = some f0 := by
    rw [List.append_assoc, List.getElem?_append_right (Nat.le_refl _), Nat.sub_self, List.getElem?_append_left (by have := (List.getElem?_eq_some_iff.1 hs0).1; omega)]
    exact hs0
  have hnl : P.length + s.length ≤ 63 := by simp only [List.length_append] at hn; omega
  intro n
  induction n with
  | zero => intro j _ h; omega
  | succ n ih =>
    intro j hj hn2
    rw [loopM]
    by_cases hlt : j < s.length
    · obtain ⟨x, hx⟩ := get_of_lt hlt
      have hx2 : (P ++ s ++ t)[P.length + j]? = some x := by
        rw [List.append_assoc, List.getElem?_append_right (by omega), show P.length + j - P.length = j by omega, List.getElem?_append_left hlt]
        exact hx
      have hxm := List.mem_of_getElem? hx2
      have him := List.mem_of_getElem? hi
      have e : gGroups22_B6 (P ++ s ++ t) ((P.length : Nat) : Int) (((P.length + j : Nat) : Nat) : Int) = some (.next (((P.length + (j + 1) : Nat) : Nat) : Int)) := by
        unfold gGroups22_B6
        dsimp only
        rw [lt_dec hx2, cond_true, getI_nat hx2, getI_nat hi]
        simp only [Option.bind_some]
        rw [gCmp8_eq x.row f0.row (by have := hrl x hxm; omega) (by have := hrl f0 him; omega), Option.bind_some]
        rw [hs x (List.mem_of_getElem? hx), hf0, totC_rcmp.refl]
        rw [show decide ((0 : Int) = 0) = true from rfl, cond_true, wrapN (by omega)]
        rfl
      rw [e]
      exact ih (j + 1) (by omega) (by omega)
    · have hje : j = s.length := by omega
      subst hje
      have e : gGroups22_B6 (P ++ s ++ t) ((P.length : Nat) : Int) (((P.length + s.length : Nat) : Nat) : Int) = some (.exit (((P.length + s.length : Nat) : Nat) : Int)) := by
        unfold gGroups22_B6
        dsimp only
        cases t with
        | nil =>
          rw [show decide ((((P.length + s.length : Nat) : Nat) : Int) < (((P ++ s ++ ([] : List Fct)).length : Nat) : Int)) = false from decide_eq_false (by simp), cond_false]
        | cons y u =>
          have hy : (P ++ s ++ y :: u)[P.length + s.length]? = some y := by
            rw [List.getElem?_append_right (by simp), List.length_append, Nat.sub_self]; rfl
          rw [lt_dec hy, cond_true, getI_nat hy, getI_nat hi]
          simp only [Option.bind_some]
          rw [gCmp8_eq y.row f0.row (by have := hrl y (List.mem_of_getElem? hy); omega) (by have := hrl f0 (List.mem_of_getElem? hi); omega), Option.bind_some]
          rw [show decide (rcmp y.row f0.row = 0) = false from decide_eq_false fun q => ht y u rfl ((totC_rcmp.zero _ _ q).trans hf0), cond_false]
      rw [e]
theorem groups_at (all : List Fct) (hrl : ∀ f ∈ all, f.row.length ≤ 1000000) (hn : all.length ≤ 63) (ha : AscF all) :
    ∀ (n : Nat) (P t : List Fct) (out : List SGroup), all = P ++ t → t.length < n → out.length ≤ P.length → ∃ G, GrpsOf t G ∧ loopM (gGroups22_B5 all) n (out, ((P.length : Nat) : Int)) = some (.inl (out ++ G, ((all.length : Nat) : Int))) := by
  intro n
  induction n with
  | zero => intro P t out _ h; omega
  | succ n ih =>
    intro P t out hall htn hout
    rw [loopM]
    match t, hall, htn with
    | [], hall, _ =>
      refine ⟨[], ⟨⟨List.Pairwise.nil, fun x => ?_⟩, fun g hg => by cases hg⟩, ?_⟩
      · constructor
        · intro h; cases h
        · rintro ⟨f, hf, _⟩; cases hf
      · have e : gGroups22_B5 all (out, ((P.length : Nat) : Int)) = some (.exit (out, ((P.length : Nat) : Int))) := by
          unfold gGroups22_B5
          dsimp only
          rw [show decide (((P.length : Nat) : Int) < ((all.length : Nat) : Int)) = false from decide_eq_false (by rw [hall]; simp), cond_false]
        rw [e, hall]; simp
    | f0 :: t0, hall, htn =>
      obtain ⟨s, u, hsu, hs, hu⟩ := split_run f0.row (f0 :: t0)
      have hs0 : s[0]? = some f0 := by
        cases s with
        | nil => exact absurd rfl (hu f0 t0 (by rw [hsu]; rfl))
        | cons y s' => rw [List.cons_append] at hsu; injection hsu with h1 _; rw [h1]; rfl
      have hsl : 0 < s.length := (List.getElem?_eq_some_iff.1 hs0).1
      have hall2 : all = P ++ s ++ u := by rw [hall, hsu, List.append_assoc]
      have hlen := congrArg List.length hall2
      simp only [List.length_append] at hlen
      have hu2 : u.length + s.length = (f0 :: t0).length := by rw [hsu]; simp; omega
      have hrun := run_end P s u f0.row f0 rfl (by rw [← hall2]; exact hrl) (by rw [← hall2]; exact hn) hs hs0 hu fuel 0 (Nat.zero_le _) (by unfold fuel; omega)
      rw [← hall2, Nat.add_zero] at hrun
      have hr0 : f0.row.length ≤ 1000000 := hrl f0 (by rw [hall]; simp)
      have hrs : ∀ f ∈ s, f.row.length ≤ 1000000 := fun f hf => hrl f (by rw [hall2]; simp [hf])
      have hrows := gRows22_run s f0.row hr0 hs (by omega)
      have hcnt := gCounts22_eq s f0.row hr0 hrs (by omega)
      -- what lies behind the run is greater
      have hgt : ∀ f ∈ u, rcmp f0.row f.row < 0 := by
        intro f hf
        have h1 : AscF u := by rw [hall2] at ha; exact (List.pairwise_append.1 ha).2.1
        have h2 : ∀ a ∈ P ++ s, ∀ b ∈ u, rcmp a.row b.row ≤ 0 := by rw [hall2] at ha; exact (List.pairwise_append.1 ha).2.2
        have hf0s : f0 ∈ P ++ s := List.mem_append_right _ (List.mem_of_getElem? hs0)
        cases u with
        | nil => cases hf
        | cons y v =>
          have hy0 := h2 f0 hf0s y (by simp)
          have hyn : rcmp f0.row y.row ≠ 0 := fun q => hu y v rfl (totC_rcmp.zero _ _ q).symm
          have hlt : rcmp f0.row y.row < 0 := by omega
          rcases List.mem_cons.1 hf with rfl | hf
          · exact hlt
          · have hyf := (List.pairwise_cons.1 h1).1 f hf
            rcases Int.lt_or_eq_of_le hyf with h | h
            · exact totC_rcmp.trans _ _ _ hlt h
            · rw [← totC_rcmp.zero _ _ h]; exact hlt
      have hne : ∀ f ∈ u, f.row ≠ f0.row := fun f hf e => by have := hgt f hf; rw [e, totC_rcmp.refl] at this; omega
      obtain ⟨o1, ho1⟩ : ∃ o1 : List SGroup, o1 = if s.any (fun f => pvalB f.valid) then [⟨f0.row, ofV (ones (perAll s f0.row))⟩] else [] := ⟨_, rfl⟩
      have ho1l : o1.length ≤ 1 := by rw [ho1]; split <;> simp
      obtain ⟨G, hG, hL⟩ := ih (P ++ s) u (out ++ o1) hall2 (by simp at htn; simp at hu2; omega) (by simp; omega)
      have hi0 : all[P.length]? = some f0 := by
        rw [hall, List.getElem?_append_right (Nat.le_refl _), Nat.sub_self]; rfl
      have e : gGroups22_B5 all (out, ((P.length : Nat) : Int)) = some (.next (out ++ o1, (((P ++ s).length : Nat) : Int))) := by
        unfold gGroups22_B5
        dsimp only
        rw [lt_dec hi0, cond_true, hrun, Option.bind_some]
        show (subI all ((P.length : Nat) : Int) (((P.length + s.length : Nat) : Nat) : Int)).bind _ = _
        rw [show subI all ((P.length : Nat) : Int) (((P.length + s.length : Nat) : Nat) : Int) = some s by rw [hall2]; exact subI_mid P s u, Option.bind_some, hrows, Option.bind_some]
        by_cases hv : (s.any fun f => pvalB f.valid) = true
        · rw [if_pos hv] at ho1 ⊢
          rw [loop_app (l := [f0.row]) (fun r => [(⟨r, ofV (ones (perAll s f0.row))⟩ : SGroup)]) 2932031007402 ?_ ?_ (by unfold fuel; simp) out (by simp; omega)]
          · rw [Option.bind_some, ho1, List.length_append]; rfl
          · intro o i x hx ho
            have hi := (List.getElem?_eq_some_iff.1 hx).1
            have hi1 : i = 0 := by simpa using hi
            subst hi1
            simp at hx; subst hx
            unfold gGroups22_B7
            dsimp only
            rw [show decide (((0 : Nat) : Int) < ((([f0.row] : List (List Val)).length : Nat) : Int)) = true from rfl, cond_true, show getI [f0.row] ((0 : Nat) : Int) = some f0.row from rfl, Option.bind_some, hcnt, Option.bind_some]
            rw [show decide (o.length + 1 ≤ 2932031007402) = true from decide_eq_true (by simpa using ho), cond_true, wrapN (by omega)]
          · intro o
            unfold gGroups22_B7
            dsimp only
            rw [lt_decF, cond_false]
        · rw [if_neg hv] at ho1 ⊢
          rw [loop_app (l := ([] : List (List Val))) (fun r => ([] : List SGroup)) 2932031007402 ?_ ?_ (by unfold fuel; simp) out (by simp; omega)]
          · rw [Option.bind_some, ho1, List.length_append]; simp [gGroups22_K7]
          · intro o i x hx; simp at hx
          · intro o
            unfold gGroups22_B7
            dsimp only
            rw [lt_decF, cond_false]
      refine ⟨o1 ++ G, ⟨⟨?_, fun x => ?_⟩, fun g hg => ?_⟩, ?_⟩
      · rw [List.map_append]
        refine List.pairwise_append.2 ⟨by rw [ho1]; split <;> simp, hG.1.1, fun a ha2 b hb => ?_⟩
        obtain ⟨f, hf, _, e⟩ := (hG.1.2 b).1 hb
        have : a = f0.row := by rw [ho1] at ha2; split at ha2 <;> simp at ha2; exact ha2
        rw [this, ← e]; exact hgt f hf
      · rw [List.map_append, List.mem_append, hG.1.2 x, hsu]
        constructor
        · rintro (h | ⟨f, hf, h⟩)
          · rw [ho1] at h
            split at h
            · rename_i hv
              simp at h
              obtain ⟨f, hf, hv⟩ := List.any_eq_true.1 hv
              exact ⟨f, List.mem_append_left _ hf, hv, by rw [h]; exact hs f hf⟩
            · simp at h
          · exact ⟨f, List.mem_append_right _ hf, h⟩
        · rintro ⟨f, hf, hv, e⟩
          rcases List.mem_append.1 hf with hf | hf
          · left
            rw [ho1, if_pos (List.any_eq_true.2 ⟨f, hf, hv⟩)]
            simp [← e, hs f hf]
          · exact .inr ⟨f, hf, hv, e⟩
      · rw [hsu, perAll_app]
        rcases List.mem_append.1 hg with hg | hg
        · have hgr : g = ⟨f0.row, ofV (ones (perAll s f0.row))⟩ := by rw [ho1] at hg; split at hg <;> simp at hg; exact hg
          rw [hgr]
          rw [perAll_none hne, List.append_nil]
        · have hgm : g.row ∈ G.map (·.row) := List.mem_map_of_mem hg
          obtain ⟨f, hf, _, e⟩ := (hG.1.2 g.row).1 hgm
          rw [perAll_none (l := s) (fun f' hf' q => hne f hf (by rw [e, ← q]; exact (hs f' hf'))), List.nil_append]
          exact hG.2 g hg
      · rw [e]
        dsimp only
        rw [hL, List.append_assoc]
end Go.Proofs.YtfccopdbgfdcdaaGreatDoor
namespace Go.Proofs.YtfccopdbgfdcdaaGreatDoor
open Go.RowKit Go.MapKept
set_option maxRecDepth 100000
set_option linter.unusedVariables false
set_option linter.unusedSimpArgs false
theorem levOf_all (l all : List Fct) (h : all.Perm l) (r : List Val) : levOf (perAll all r) = levOf (perOf l r) := by
  refine levOf_perm ?_
  have e1 : (perAll all r).filter (fun p => St.pvalid (toP p)) = perOf all r := by
    unfold perAll perOf
    rw [List.filter_map, List.filter_filter]
    congr 1
  have e2 : (perOf l r).filter (fun p => St.pvalid (toP p)) = perOf l r := List.filter_eq_self.2 fun p hp => perOf_valid l r p hp
  rw [e1, e2]
  unfold perOf
  exact (h.filter _).map _
theorem gBagR_eq (l : List Fct) (hn : l.length ≤ 63) (hr : ∀ f ∈ l, f.row.length ≤ 1000000) : ∃ R, RowsOf l R ∧ gBagR l = some (bagOf l R) ∧ (bagOf l R).length ≤ 4800600 := by
  obtain ⟨all, e1, a1, p1⟩ := gOrdered_eq 639 l (by omega) (by omega) hr
  have hal : all.length = l.length := p1.length_eq
  obtain ⟨G, hG, hL⟩ := groups_at all (fun f hf => hr f (p1.mem_iff.1 hf)) (by omega) a1 fuel [] all [] rfl (by unfold fuel; omega) (Nat.le_refl _)
  have hgr : gGroups22 l = some G := by
    unfold gGroups22
    rw [e1, Option.bind_some]
    have : loopM (gGroups22_B5 all) fuel ([], (0 : Int)) = some (.inl ([] ++ G, ((all.length : Nat) : Int))) := hL
    rw [this, Option.bind_some, List.nil_append]; rfl
  have hR : RowsOf l (G.map (·.row)) := by
    refine ⟨hG.1.1, fun x => (hG.1.2 x).trans ?_⟩
    constructor
    · rintro ⟨f, hf, h⟩; exact ⟨f, p1.mem_iff.1 hf, h⟩
    · rintro ⟨f, hf, h⟩; exact ⟨f, p1.mem_iff.2 hf, h⟩
  refine ⟨G.map (·.row), hR, ?_⟩
  have hpl : ∀ r, (perAll all r).length ≤ 63 := fun r => by
    have : (perAll all r).length ≤ all.length := by unfold perAll; rw [List.length_map]; exact List.length_filter_le _ _
    omega
  have hlev : ∀ g ∈ G, gLevR g.steps = some (levOf (perOf l g.row)) := by
    intro g hg
    rw [hG.2 g hg, ← levOf_all l all p1]
    unfold gLevR
    rw [if_pos (levOK_of _ (by have := hpl g.row; omega))]
    rfl
  have hll : ∀ g ∈ G, (levOf (perOf l g.row)).length ≤ 76200 := fun g hg => by
    have h1 := levOf_len (perOf l g.row)
    have h2 := perOf_len l g.row
    omega
  have hGl : G.length ≤ 63 := by
    -- the rows of the groups are rows of facts, each once
    have h1 : ∀ (R : List (List Val)) (L : List (List Val)), R.Nodup → (∀ x ∈ R, x ∈ L) → R.length ≤ L.length := by
      intro R
      induction R with
      | nil => intro L _ _; simp
      | cons x R ih =>
        intro L hnd hm
        have hx := hm x (by simp)
        have hnd2 := List.nodup_cons.1 hnd
        have h2 := ih (L.erase x) hnd2.2 fun y hy => by
          have hne : y ≠ x := fun e => hnd2.1 (e ▸ hy)
          exact (List.mem_erase_of_ne hne).2 (hm y (List.mem_cons_of_mem _ hy))
        have h3 := List.length_erase_of_mem hx
        have h4 : 0 < L.length := List.length_pos_of_mem hx
        rw [List.length_cons]; omega
    have h2 : (G.map (·.row)).Nodup := by
      refine List.Pairwise.imp ?_ hR.1
      intro a b h e
      rw [e, totC_rcmp.refl] at h; omega
    have h3 := h1 (G.map (·.row)) (l.map (·.row)) h2 fun x hx => by
      obtain ⟨f, hf, _, e⟩ := (hR.2 x).1 hx
      exact List.mem_map.2 ⟨f, hf, e⟩
    simp at h3
    omega
  have hfl : ∀ L : List SGroup, (∀ g ∈ L, (levOf (perOf l g.row)).length ≤ 76200) → (L.flatMap fun g => (levOf (perOf l g.row)).map fun p => (⟨g.row, p⟩ : Fct)).length ≤ L.length * 76200 := by
    intro L
    induction L with
    | nil => intro _; simp
    | cons g L ih =>
      intro hL
      have h1 := ih fun x hx => hL x (List.mem_cons_of_mem _ hx)
      have h2 := hL g (by simp)
      rw [List.flatMap_cons, List.length_append, List.length_map, List.length_cons]; omega
  have htot := Nat.le_trans (hfl G hll) (Nat.mul_le_mul_right 76200 hGl)
  refine ⟨?_, by unfold bagOf; rw [List.flatMap_map]; exact htot⟩
  unfold gBagR
  rw [hgr, Option.bind_some]
  rw [loop_app (l := G) (fun g => (levOf (perOf l g.row)).map fun p => (⟨g.row, p⟩ : Fct)) 3518437208883 ?_ ?_ (by unfold fuel; omega) [] (by simp only [List.length_nil]; omega)]
  · rw [Option.bind_some, List.nil_append]
    show some _ = some _
    unfold bagOf
    rw [List.flatMap_map]
  · intro s i x hx hs
    have hi := (List.getElem?_eq_some_iff.1 hx).1
    have hxm := List.mem_of_getElem? hx
    have h2 := hll x hxm
    unfold gBagR_B1
    dsimp only
    rw [lt_dec hx, cond_true, getI_nat hx]
    simp only [Option.bind_some]
    rw [hlev x hxm, Option.bind_some, gDuring_eq x.row _ (by omega), Option.bind_some]
    rw [show decide (s.length + ((levOf (perOf l x.row)).map fun p => (⟨x.row, p⟩ : Fct)).length ≤ 3518437208883) = true from decide_eq_true hs, cond_true, wrapN (by omega)]
  · intro s
    unfold gBagR_B1
    dsimp only
    rw [lt_decF, cond_false]
end Go.Proofs.YtfccopdbgfdcdaaGreatDoor
namespace Go.Proofs.YtfccopdbgfdcdaaGreatDoor
open Go.RowKit Go.MapKept
set_option maxRecDepth 100000
set_option linter.unusedVariables false
set_option linter.unusedSimpArgs false
theorem gIdent_refl (l : List Fct) (hn : l.length ≤ 1000000000) (hr : ∀ f ∈ l, f.row.length ≤ 1000000) : gIdent l l = some true := by
  unfold gIdent
  rw [show decide (((l.length : Nat) : Int) ≠ ((l.length : Nat) : Int)) = false from decide_eq_false fun h => h rfl, cond_false]
  have loop : ∀ (n i : Nat), i ≤ l.length → l.length - i < n → loopM (gIdent_B1 l l) n (i : Int) = some (.inl ((l.length : Nat) : Int)) := by
    intro n
    induction n with
    | zero => intro i _ h; omega
    | succ n ih =>
      intro i hi h
      rw [loopM]
      by_cases hlt : i < l.length
      · obtain ⟨x, hx⟩ := get_of_lt hlt
        have hxr := hr x (List.mem_of_getElem? hx)
        have e : gIdent_B1 l l (i : Int) = some (.next (((i + 1 : Nat) : Nat) : Int)) := by
          unfold gIdent_B1
          dsimp only
          rw [lt_dec hx, cond_true, getI_nat hx]
          simp only [Option.bind_some]
          rw [show sameS [.c (.int .i64 x.valid.lo), .c (.int .i64 x.valid.hi)] [.c (.int .i64 x.valid.lo), .c (.int .i64 x.valid.hi)] = true by simp [sameS], gCmp8_eq x.row x.row (by omega) (by omega)]
          simp only [Bool.not_true, cond_false, Option.bind_some]
          rw [totC_rcmp.refl, show decide ((0 : Int) ≠ 0) = false from rfl, cond_false, wrapN (by omega)]
        rw [e]
        exact ih (i + 1) (by omega) (by omega)
      · have : i = l.length := by omega
        subst this
        have e : gIdent_B1 l l ((l.length : Nat) : Int) = some (.exit ((l.length : Nat) : Int)) := by
          unfold gIdent_B1
          dsimp only
          rw [lt_decF, cond_false]
        rw [e]
  have := loop fuel 0 (Nat.zero_le _) (by unfold fuel; omega)
  rw [show loopM (gIdent_B1 l l) fuel (0 : Int) = _ from this]
  rfl
end Go.Proofs.YtfccopdbgfdcdaaGreatDoor
namespace Go.Proofs.YtfccopdbgfdcdaaGreatDoor
open Go.RowKit Go.MapKept
set_option maxRecDepth 100000
set_option linter.unusedVariables false
set_option linter.unusedSimpArgs false
def vF (v : Val) : Bool := (gValidR v).getD false
theorem gValidR_eq (v : Val) : gValidR v = some (vF v) := by
  obtain ⟨r, hr⟩ := gValidR_ex v
  unfold vF
  rw [hr]; rfl
end Go.Proofs.YtfccopdbgfdcdaaGreatDoor
namespace Go.Proofs.YtfccopdbgfdcdaaGreatDoor
open Go.RowKit Go.MapKept
set_option maxRecDepth 100000
set_option linter.unusedVariables false
set_option linter.unusedSimpArgs false
theorem pval_facts {p : Per} (h : pvalB p = true) : 0 ≤ p.lo ∧ p.lo < p.hi ∧ p.hi ≤ 1099511627776 := by
  unfold pvalB at h
  simp only [Bool.and_eq_true, decide_eq_true_eq] at h
  omega
end Go.Proofs.YtfccopdbgfdcdaaGreatDoor
namespace Go.Proofs.YtfccopdbgfdcdaaGreatDoor
open Go.RowKit Go.MapKept
set_option maxRecDepth 100000
set_option linter.unusedVariables false
set_option linter.unusedSimpArgs false
end Go.Proofs.YtfccopdbgfdcdaaGreatDoor
namespace Go.Proofs.YtfccopdbgfdcdaaGreatDoor
open Go.RowKit Go.MapKept
set_option maxRecDepth 100000
set_option linter.unusedVariables false
set_option linter.unusedSimpArgs false
theorem empty_iff (s : ByteArray) : (s.toList == (⟨#[]⟩ : ByteArray).toList) = true ↔ s = ByteArray.empty := by
  rw [beq_iff_eq, ByteArray.toList_eq, ByteArray.toList_eq]
  constructor
  · intro h
    have : s.data.toList = [] := h
    obtain ⟨d⟩ := s
    obtain ⟨l⟩ := d
    simp at this
    subst this; rfl
  · rintro rfl; rfl
structure VV (v : Val) : Prop where
  kind : 0 ≤ v.kind ∧ v.kind ≤ 3
  int : -1125899906842624 ≤ v.int ∧ v.int ≤ 1125899906842624
  text : v.text.size ≤ 200
theorem vv_of {v : Val} (h : vF v = true) : VV v := by
  have hx := gValidR_eq v
  rw [h] at hx
  unfold gValidR at hx
  have e0 : ∀ s : ByteArray, s = ByteArray.empty → s.size ≤ 200 := by rintro s rfl; decide
  by_cases k0 : v.kind = 0
  · rw [decide_eq_true k0, cond_true] at hx
    by_cases i0 : v.int = 0
    · rw [decide_eq_true i0, cond_true] at hx
      have := (empty_iff _).1 (Option.some.inj hx)
      exact ⟨by omega, by omega, e0 _ this⟩
    · rw [decide_eq_false i0, cond_false] at hx; cases hx
  rw [decide_eq_false k0, cond_false] at hx
  by_cases k1 : v.kind = 1
  · rw [decide_eq_true k1, cond_true] at hx
    by_cases t0 : (v.text.toList == (⟨#[]⟩ : ByteArray).toList) = true
    · rw [t0, cond_true] at hx
      by_cases i1 : (-1125899906842624 : Int) ≤ v.int
      · rw [decide_eq_true i1, cond_true] at hx
        have := of_decide_eq_true (Option.some.inj hx)
        exact ⟨by omega, ⟨i1, this⟩, e0 _ ((empty_iff _).1 t0)⟩
      · rw [decide_eq_false i1, cond_false] at hx; cases hx
    · rw [Bool.not_eq_true] at t0
      rw [t0, cond_false] at hx; cases hx
  rw [decide_eq_false k1, cond_false] at hx
  by_cases k2 : v.kind = 2
  · rw [decide_eq_true k2, cond_true] at hx
    by_cases i0 : v.int = 0
    · rw [decide_eq_true i0, cond_true] at hx
      by_cases t2 : ((v.text.size : Nat) : Int) ≤ 200
      · exact ⟨by omega, by omega, by omega⟩
      · rw [decide_eq_false t2, cond_false] at hx; cases hx
    · rw [decide_eq_false i0, cond_false] at hx; cases hx
  rw [decide_eq_false k2, cond_false] at hx
  by_cases k3 : v.kind = 3
  · rw [decide_eq_true k3, cond_true] at hx
    by_cases t0 : (v.text.toList == (⟨#[]⟩ : ByteArray).toList) = true
    · rw [t0, cond_true] at hx
      by_cases i0 : v.int = 0
      · exact ⟨by omega, by omega, e0 _ ((empty_iff _).1 t0)⟩
      · rw [decide_eq_false i0, cond_false] at hx
        have := of_decide_eq_true (Option.some.inj hx)
        exact ⟨by omega, by omega, e0 _ ((empty_iff _).1 t0)⟩
    · rw [Bool.not_eq_true] at t0
      rw [t0, cond_false] at hx; cases hx
  rw [decide_eq_false k3, cond_false] at hx
  cases hx
theorem VV.vok {v : Val} (h : VV v) : VOK v := ⟨⟨by have := h.kind; omega, by have := h.kind; omega⟩, ⟨by have := h.int; omega, by have := h.int; omega⟩, by have := h.text; omega⟩
end Go.Proofs.YtfccopdbgfdcdaaGreatDoor
namespace Go.Proofs.YtfccopdbgfdcdaaGreatDoor
open Go.RowKit Go.MapKept
set_option maxRecDepth 100000
set_option linter.unusedVariables false
set_option linter.unusedSimpArgs false
end Go.Proofs.YtfccopdbgfdcdaaGreatDoor
