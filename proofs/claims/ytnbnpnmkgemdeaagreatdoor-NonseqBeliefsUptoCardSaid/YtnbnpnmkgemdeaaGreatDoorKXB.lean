/- Parts of the proof, joined. No condition. -/
import Derived.Test.YtnbnpnmkgemdeaaGreatDoorKBO
import Derived.Test.YtnbnpnmkgemdeaaGreatDoorKXA
import Derived.Test.YtnbnpnmkgemdeaaGreatDoorRows
import Derived.Test.YtnbnpnmkgemdeaaGreatDoorTie
import Derived.Test.YtnbnpnmkgemdeaaGreatDoorCards
import Derived.ProofKit
import Derived.Deep.DeepHandedRow
import Derived.LaidMore
import Derived.OpenShut
import Derived.Stop.Joined
import Derived.SevenTiedAt
import Derived.Lib.LaidTab
import Derived.Lib.ItoaNum
set_option linter.unusedSimpArgs false
set_option linter.unusedVariables false
namespace Go.Proofs.YtnbnpnmkgemdeaaGreatDoor
open Go.RowKit Go.MapKept
set_option maxRecDepth 100000
set_option linter.unusedVariables false
set_option linter.unusedSimpArgs false
theorem srows_ne {r : List Val} {R : List (List Val)} (h : SRows (r :: R)) : r ∉ R := by
  intro hr
  have := List.rel_of_pairwise_cons h hr
  rw [totC_rcmp.refl] at this
  omega
theorem perOf_app (s t : List Fct) (r : List Val) : perOf (s ++ t) r = perOf s r ++ perOf t r := by unfold perOf; rw [List.filter_append, List.map_append]
theorem perOf_same (r : List Val) : ∀ ps : List Per, (∀ p ∈ ps, St.pvalid (toP p) = true) → perOf (ps.map fun p => (⟨r, p⟩ : Fct)) r = ps
  | [], _ => rfl
  | p :: ps, h => by
    have ih := perOf_same r ps fun q hq => h q (List.mem_cons_of_mem _ hq)
    have hp : pvalB p = true := h p (List.mem_cons_self ..)
    unfold perOf at ih ⊢
    rw [List.map_cons, List.filter_cons_of_pos (by simp [hp]), List.map_cons, ih]
theorem perOf_other {r x : List Val} (hx : x ≠ r) (ps : List Per) : perOf (ps.map fun p => (⟨x, p⟩ : Fct)) r = [] := by
  unfold perOf
  rw [List.map_eq_nil_iff, List.filter_eq_nil_iff]
  intro f hf h
  obtain ⟨p, _, rfl⟩ := List.mem_map.1 hf
  simp only [Bool.and_eq_true, decide_eq_true_eq] at h
  exact hx h.2
theorem perOf_runs (L : List Val → List Per) (hL : ∀ r, ∀ p ∈ L r, St.pvalid (toP p) = true) : ∀ (R : List (List Val)), SRows R → ∀ r, perOf (R.flatMap fun r => (L r).map fun p => (⟨r, p⟩ : Fct)) r = if r ∈ R then L r else []
  | [], _, r => rfl
  | x :: R, h, r => by
    have ih := perOf_runs L hL R (List.Pairwise.of_cons h) r
    rw [List.flatMap_cons, perOf_app, ih]
    by_cases hx : x = r
    · subst hx
      rw [perOf_same x _ (hL x), if_neg (srows_ne h), if_pos (List.mem_cons_self ..), List.append_nil]
    · rw [perOf_other hx, List.nil_append]
      by_cases hr : r ∈ R
      · rw [if_pos hr, if_pos (List.mem_cons_of_mem _ hr)]
      · rw [if_neg hr, if_neg (by intro h; rcases List.mem_cons.1 h with h | h; exact hx h.symm; exact hr h)]
theorem filter_two {α : Type} (p : α → Bool) : ∀ l : List α, (l.filter p).length + (l.filter fun x => !p x).length = l.length
  | [] => rfl
  | x :: l => by
    have := filter_two p l
    rw [List.filter_cons, List.filter_cons]
    cases h : p x <;> simp <;> omega
theorem perOf_le (l : List Fct) (r : List Val) : (perOf l r).length ≤ (l.filter fun f => decide (f.row = r)).length := by
  unfold perOf
  rw [List.length_map]
  induction l with
  | nil => exact Nat.le_refl _
  | cons f l ih =>
    rw [List.filter_cons, List.filter_cons]
    cases pvalB f.valid <;> cases decide (f.row = r) <;> simp <;> omega
theorem perOf_rest {r x : List Val} (h : x ≠ r) (l : List Fct) : perOf l x = perOf (l.filter fun f => !decide (f.row = r)) x := by
  unfold perOf
  rw [List.filter_filter]
  congr 1
  apply List.filter_congr
  intro f _
  by_cases hx : f.row = x
  · have : f.row ≠ r := fun e => h (hx.symm.trans e)
    simp [hx, h]
  · simp [hx]
theorem perOf_sum : ∀ (R : List (List Val)) (l : List Fct), SRows R → (R.flatMap fun r => perOf l r).length ≤ l.length
  | [], l, _ => Nat.zero_le _
  | r :: R, l, h => by
    rw [List.flatMap_cons, List.length_append]
    have e : (R.flatMap fun x => perOf l x) = R.flatMap fun x => perOf (l.filter fun f => !decide (f.row = r)) x := by
      rw [List.flatMap_def, List.flatMap_def]
      congr 1
      refine List.map_congr_left fun x hx => perOf_rest ?_ l
      rintro rfl
      exact srows_ne h hx
    rw [e]
    have h1 := perOf_sum R (l.filter fun f => !decide (f.row = r)) (List.Pairwise.of_cons h)
    have h2 := perOf_le l r
    have h3 := filter_two (fun f : Fct => decide (f.row = r)) l
    omega
theorem flatMap_len {α β γ : Type} (f : α → List β) (g : α → List γ) : ∀ l : List α, (∀ x ∈ l, (f x).length ≤ (g x).length) → (l.flatMap f).length ≤ (l.flatMap g).length
  | [], _ => Nat.le_refl _
  | x :: l, h => by
    rw [List.flatMap_cons, List.flatMap_cons, List.length_append, List.length_append]
    have := h x (List.mem_cons_self ..)
    have := flatMap_len f g l fun y hy => h y (List.mem_cons_of_mem _ hy)
    omega
theorem perOf_le2 (l : List Fct) (r : List Val) : (perOf l r).length ≤ l.length := by
  unfold perOf; rw [List.length_map]; exact List.length_filter_le _ _
theorem per_out {l : List Fct} {R : List (List Val)} (h : RowsOf l R) {r : List Val} (hr : r ∉ R) : perOf l r = [] := by
  unfold perOf
  rw [List.map_eq_nil_iff, List.filter_eq_nil_iff]
  intro f hf hc
  rw [Bool.and_eq_true] at hc
  exact hr ((h.2 r).2 ⟨f, hf, hc.1, of_decide_eq_true hc.2⟩)
section
variable {l : List Fct} {R : List (List Val)} (h : RowsOf l R) (hn : l.length ≤ 300)
include h hn
theorem bag_len : (bagOf l R).length ≤ l.length := by
  refine Nat.le_trans ?_ (perOf_sum R l h.1)
  refine flatMap_len _ _ _ fun r _ => ?_
  rw [List.length_map]
  exact lev_len _ (Nat.le_trans (perOf_le2 l r) hn)
theorem bag_per (r : List Val) : perOf (bagOf l R) r = if r ∈ R then levOf (perOf l r) else [] :=
  perOf_runs (fun r => levOf (perOf l r)) (fun r p hp => lev_valid _ (Nat.le_trans (perOf_le2 l r) hn) p hp) R h.1 r
theorem bag_rowsOf : RowsOf (bagOf l R) R := by
  refine ⟨h.1, fun x => ⟨fun hx => ?_, ?_⟩⟩
  · obtain ⟨f, hf, hv, rfl⟩ := (h.2 x).1 hx
    have hm : f.valid ∈ perOf l f.row := List.mem_map_of_mem (List.mem_filter.2 ⟨hf, by simp [hv]⟩)
    have hc : contB f.valid f.valid.lo = true := by
      rw [contB_eq]
      have hv' : St.pvalid (toP f.valid) = true := hv
      have hb := hv'
      unfold St.pvalid at hb
      simp only [Bool.and_eq_true, decide_eq_true_eq] at hb
      have : f.valid.lo < f.valid.hi := hb.1.2
      rw [hv']
      simp [this]
    have h1 := lev_cnt (perOf l f.row) (Nat.le_trans (perOf_le2 l _) hn) f.valid.lo
    have h2 : 0 < cntP (perOf l f.row) f.valid.lo := List.length_pos_of_mem (List.mem_filter.2 ⟨hm, hc⟩)
    rw [← h1] at h2
    obtain ⟨p, hp⟩ := List.exists_mem_of_length_pos h2
    have hp := (List.mem_filter.1 hp).1
    exact ⟨⟨f.row, p⟩, List.mem_flatMap.2 ⟨f.row, hx, List.mem_map_of_mem hp⟩, lev_valid _ (Nat.le_trans (perOf_le2 l _) hn) p hp, rfl⟩
  · rintro ⟨f, hf, _, rfl⟩
    obtain ⟨r, hr, hf⟩ := List.mem_flatMap.1 hf
    obtain ⟨p, _, rfl⟩ := List.mem_map.1 hf
    exact hr
theorem bag_bag : bagOf (bagOf l R) R = bagOf l R := by
  show (R.flatMap fun r => (levOf (perOf (bagOf l R) r)).map fun p => (⟨r, p⟩ : Fct)) = R.flatMap fun r => (levOf (perOf l r)).map fun p => (⟨r, p⟩ : Fct)
  rw [List.flatMap_def, List.flatMap_def]
  congr 1
  refine List.map_congr_left fun r hr => ?_
  rw [bag_per h hn r, if_pos hr, lev_lev _ (Nat.le_trans (perOf_le2 l r) hn)]
end
def rowsAt (l : List Fct) (t : Int) : List (List Val) := (l.filter fun f => contB f.valid t).map (·.row)
theorem count_at (t : Int) (r : List Val) : ∀ l : List Fct, (rowsAt l t).count r = cntP (perOf l r) t
  | [] => rfl
  | f :: l => by
    have ih := count_at t r l
    unfold rowsAt at ih ⊢
    have e : perOf (f :: l) r = (if (pvalB f.valid && decide (f.row = r)) = true then [f.valid] else []) ++ perOf l r := by
      unfold perOf
      rw [List.filter_cons]
      split <;> simp
    rw [List.filter_cons, e]
    by_cases hc : contB f.valid t = true
    · have hv : pvalB f.valid = true := by
        have := hc
        rw [contB_eq, Bool.and_eq_true] at this
        exact this.1
      rw [if_pos hc, List.map_cons, List.count_cons, ih]
      by_cases hr : f.row = r
      · simp only [hv, hr, decide_true, Bool.and_self, if_true, List.cons_append, List.nil_append, beq_self_eq_true]
        rw [cntP_cons, if_pos hc]; omega
      · simp [hr]
    · rw [if_neg hc, ih]
      split
      · rw [List.cons_append, List.nil_append, cntP_cons, if_neg hc, Nat.zero_add]
      · rfl
theorem bag_at {l : List Fct} {R : List (List Val)} (h : RowsOf l R) (hn : l.length ≤ 300) (t : Int) : (rowsAt (bagOf l R) t).Perm (rowsAt l t) := by
  rw [List.perm_iff_count]
  intro r
  rw [count_at, count_at, bag_per h hn r]
  split
  · exact lev_cnt _ (Nat.le_trans (perOf_le2 l r) hn) t
  · rename_i hr
    rw [per_out h hr]
end Go.Proofs.YtnbnpnmkgemdeaaGreatDoor
namespace Go.Proofs.YtnbnpnmkgemdeaaGreatDoor
open Go.RowKit Go.MapKept
set_option maxRecDepth 100000
set_option linter.unusedVariables false
set_option linter.unusedSimpArgs false
theorem gContains1_cont (p : Per) (t : Int) : gContains1 p t = some (contB p t) := by
  rw [gContains1_eq, contB_eq]; rfl
theorem gAt22_eq (l : List Fct) (t : Int) (hn : l.length ≤ 63) (hr : ∀ f ∈ l, f.row.length ≤ 1000000) : gAt22 l t = some (sortV (rowsAt l t)) := by
  unfold gAt22
  have e : (l.flatMap fun f => if contB f.valid t = true then [f.row] else []) = rowsAt l t := by
    unfold rowsAt
    induction l with
    | nil => rfl
    | cons f l ih =>
      rw [List.flatMap_cons, ih (by simp at hn; omega) (fun g hg => hr g (List.mem_cons_of_mem _ hg)), List.filter_cons]
      split <;> rfl
  have hl : (rowsAt l t).length ≤ l.length := by unfold rowsAt; rw [List.length_map]; exact List.length_filter_le _ _
  rw [loop_app (l := l) (fun f => if contB f.valid t = true then [f.row] else []) 5864062014805 ?_ ?_ (by unfold fuel; omega) [] (by rw [e]; simp only [List.length_nil]; omega)]
  · rw [Option.bind_some, e, List.nil_append]
    unfold gAt22_K1
    dsimp only
    rw [gSortR_eq _ (by omega) (fun r hrr => by
      unfold rowsAt at hrr
      obtain ⟨f, hf, rfl⟩ := List.mem_map.1 hrr
      exact hr f (List.mem_filter.1 hf).1)]
    rfl
  · intro o i x hx ho
    have hi := (List.getElem?_eq_some_iff.1 hx).1
    unfold gAt22_B1
    dsimp only
    rw [lt_dec hx, cond_true, getI_nat hx]
    simp only [Option.bind_some]
    rw [gContains1_cont, Option.bind_some]
    by_cases hv : contB x.valid t = true
    · rw [if_pos hv] at ho ⊢
      rw [hv, cond_true, show decide (o.length + 1 ≤ 5864062014805) = true from decide_eq_true (by simpa using ho), cond_true, wrapN (by omega)]
    · rw [if_neg hv]
      rw [Bool.not_eq_true] at hv
      rw [hv, cond_false, wrapN (by omega), List.append_nil]
  · intro o
    unfold gAt22_B1
    dsimp only
    rw [lt_decF, cond_false]
theorem selF_as (t : Int) (v : Ver) : selF ⟨1, t, 0⟩ v = contB v.system t := by
  have e : validF v.system = pvalB v.system := by
    unfold validF pvalB; rw [Bool.and_assoc]
  unfold selF holdF inF
  rw [e, contB_eq]
  show (pvalB v.system && (pvalB v.system && _)) = _
  rw [← Bool.and_assoc, Bool.and_self]; rfl
theorem rows_at (l : List Ver) (a t : Int) : (l.flatMap fun v => if (contB v.system a && contB v.valid t) = true then [v.row] else []) = rowsAt ((l.filter (selF ⟨1, a, 0⟩)).map factOf) t := by
  unfold rowsAt
  induction l with
  | nil => rfl
  | cons v l ih =>
    rw [List.flatMap_cons, ih, List.filter_cons, selF_as]
    cases h1 : contB v.system a
    · rfl
    · rw [if_pos rfl, List.map_cons, List.filter_cons]
      rw [show (factOf v).valid = v.valid from rfl]
      cases h2 : contB v.valid t
      · rfl
      · rfl
theorem sortV_same {a b : List (List Val)} (h : a.Perm b) : sortV a = sortV b :=
  asc_unique totC_rcmp (sortV_asc a) (sortV_asc b) ((sortV_perm a).trans (h.trans (sortV_perm b).symm))
theorem gLawBeliefs_true {l : List Ver} {a t : Int} (hl : LOk 88 okVer l) (ht : Light l) : gLawBeliefs l a t = some true := by
  have hl3 : l.length ≤ 3000000000000 := by have := hl.1; unfold reachBytes at this; omega
  unfold gLawBeliefs
  rw [gFew_eq l hl3, Option.bind_some]
  cases hf : fewF (l.map factOf) 16 with
  | false => rfl
  | true =>
    obtain ⟨h16, h60⟩ := few_of hf
    have hr : ∀ v ∈ l, v.row.length ≤ 1000000 := fun v hv => by have := h60 v hv; omega
    have hsel : ∀ d : Cla, ∀ v ∈ l.filter (selF d), v.row.length ≤ 1000000 := fun d v hv => hr v (List.mem_filter.1 hv).1
    have hsl : ∀ d : Cla, (l.filter (selF d)).length ≤ 16 := fun d => Nat.le_trans (List.length_filter_le _ _) h16
    simp only [Bool.not_true, cond_false]
    have hF : ((l.filter (selF ⟨1, a, 0⟩)).map factOf).length ≤ 16 := by rw [List.length_map]; exact hsl _
    have hFr : ∀ f ∈ (l.filter (selF ⟨1, a, 0⟩)).map factOf, f.row.length ≤ 1000000 := fun f hf => by
      obtain ⟨v, hv, rfl⟩ := List.mem_map.1 hf; exact hsel _ v hv
    have hRl : (rowsAt ((l.filter (selF ⟨1, a, 0⟩)).map factOf) t).length ≤ 16 := by
      unfold rowsAt; rw [List.length_map]; exact Nat.le_trans (List.length_filter_le _ _) hF
    rw [loop_app (l := l) (fun v => if (contB v.system a && contB v.valid t) = true then [v.row] else []) 5864062014805 ?_ ?_ (by unfold fuel; omega) [] (by rw [rows_at]; simp only [List.length_nil]; omega)]
    · rw [Option.bind_some, rows_at, List.nil_append]
      unfold gLawBeliefs_K1
      dsimp only
      obtain ⟨r, e1, e2, R, hR, e3, e4⟩ := bags_eq _ (fcts_ok hl h16 h60 ht (selF ⟨1, a, 0⟩))
      have hs : gSlice l a = some r := by
        unfold gSlice
        rw [gSel_eq _ hr (by omega), Option.bind_some, gFacts_eq _ (by have := hsl ⟨1, a, 0⟩; omega) (hsel _), Option.bind_some, e1]; rfl
      have hrl : r.length ≤ 16 := by rw [e3]; exact Nat.le_trans (bag_len hR (by omega)) hF
      have hrr : ∀ f ∈ r, f.row.length ≤ 1000000 := by rw [e3]; exact bag_rows hR hFr
      have hid : gIdent r r = some true := gIdent_refl r (by omega) hrr
      have hb2 : gBagR r = some r := by
        obtain ⟨S, k1, k2, _⟩ := gBagR_eq r (by omega) hrr
        have hRS : S = R := by
          rw [e3] at k1
          exact RowsOf.ext k1 (bag_rowsOf hR (by omega))
        rw [k2, hRS, e3, bag_bag hR (by omega)]
      have hcan : gCanon r = some true := by
        unfold gCanon
        rw [hb2, Option.bind_some, hid]; rfl
      have hat : gAt22 r t = some (sortV (rowsAt ((l.filter (selF ⟨1, a, 0⟩)).map factOf) t)) := by
        rw [gAt22_eq r t (by omega) hrr, e3, sortV_same (bag_at hR (by omega) t)]
      have hrows : ∀ x ∈ rowsAt ((l.filter (selF ⟨1, a, 0⟩)).map factOf) t, x.length ≤ 1000000 := fun x hx => by
        unfold rowsAt at hx
        obtain ⟨f, hf, rfl⟩ := List.mem_map.1 hx
        exact hFr f (List.mem_filter.1 hf).1
      rw [hs, Option.bind_some, hcan, Option.bind_some, cond_true, hat, Option.bind_some, gSortR_eq _ (by omega) hrows, Option.bind_some,
        gSameRows_refl _ (by rw [(sortV_perm _).length_eq]; omega) (fun x hx => hrows x ((sortV_perm _).subset hx)), Option.bind_some, cond_true,
        gSel_eq _ hr (by omega), Option.bind_some, gFacts_eq _ (by have := hsl ⟨1, a, 0⟩; omega) (hsel _), Option.bind_some, e2, Option.bind_some, hid, Option.bind_some, cond_true]
    · intro o i x hx ho
      have hi := (List.getElem?_eq_some_iff.1 hx).1
      unfold gLawBeliefs_B1
      dsimp only
      rw [lt_dec hx, cond_true, getI_nat hx]
      simp only [Option.bind_some]
      rw [gContains1_cont, Option.bind_some]
      cases h1 : contB x.system a
      · rw [Bool.false_and, if_neg (by decide), cond_false, wrapN (by omega), List.append_nil]
      · rw [cond_true, gContains1_cont, Option.bind_some]
        cases h2 : contB x.valid t
        · rw [Bool.and_false, if_neg (by decide), cond_false, wrapN (by omega), List.append_nil]
        · rw [h1, h2] at ho
          rw [Bool.and_self, if_pos rfl, cond_true, show decide (o.length + 1 ≤ 5864062014805) = true from decide_eq_true (by simpa using ho), cond_true, wrapN (by omega)]
    · intro o
      unfold gLawBeliefs_B1
      dsimp only
      rw [lt_decF, cond_false]
theorem nonseqBeliefs_pure {l : List Ver} {a t : Int} (hl : LOk 88 okVer l) (ht : Light l) : Pure Tryz.prog 5 [.one (.lst (l.map cVer)), .one (.int .i64 a), .one (.int .i64 t)] (.val (.one (.bool true))) := gLawBeliefs_ok (gLawBeliefs_true hl ht)
end Go.Proofs.YtnbnpnmkgemdeaaGreatDoor
namespace Go.Proofs.YtnbnpnmkgemdeaaGreatDoor.nonseqBeliefsUpto
open Go.ChangeShapes Go.WideShapes Go.ChangeAt Go.RowKit
set_option linter.unusedVariables false
set_option linter.unusedSimpArgs false
theorem own : ownKnob Tryz.prog.godebug = none := by kernel_rfl
theorem laidOut : laidOutB Tryz.prog = true := by kernel_rfl
abbrev laid3 := Rows.nonseqBeliefsUptoRow.laid
abbrev sp := Rows.OpenSpec.upto Rows.nonseqBeliefsSpec
theorem door_met (os : Os) (args : Array Value) : laidMetH Tryz.prog laid3 ((World.doorLaid Tryz.prog 400 os).forCall (fun _ _ => 0) ⟨#[], args, []⟩).memory :=
  laidMetH_of_parts3 (fuel := 8) (laidMet_of_run' 8 (by kernel_rfl) (by kernel_rfl)) (by kernel_rfl) (by kernel_rfl)
theorem tab_met {W : World} (h : laidMetH Tryz.prog laid3 W) : TabR (fun b o => W.cell? ⟨b, o, none⟩) := by
  have h0 : laidMet Tryz.prog laid3 W := h
  obtain ⟨ps, hl, _⟩ := h0
  obtain ⟨_, _, _, _, _, _, _, _, _, _, hl, _⟩ := hl
  obtain ⟨_, _, _, _, _, _, _, _, _, _, hl, _⟩ := hl
  obtain ⟨g', t', cs, fuel, p, q, hg', ht', hvar, hd, _, _⟩ := hl
  obtain rfl := Option.some.inj ((show Tryz.prog.globalNamed "internal/strconv.uint64pow10" = some 1 by kernel_rfl).symm.trans hg')
  have hty : (Tryz.prog.globals[1]?).map (·.type) = some 299 := by kernel_rfl
  obtain rfl := Option.some.inj (hty.symm.trans ht')
  have e : Rows.laid_internal_strconv_uint64pow10 = (Lib.tabData .u64 Lib.pow10Tab : DataW Unit) := by kernel_rfl
  rw [e] at hd
  have hT : Lib.TabIs Tryz.prog W "internal/strconv.uint64pow10" .u64 Lib.pow10Tab := by
    unfold Lib.TabIs
    rw [hvar, ← Lib.cells_of_tab (P := Tryz.prog) (t := 299) (n := 20) (by kernel_rfl) (e := 238) (by kernel_rfl) (by kernel_rfl) (by kernel_rfl) hd]
  intro o u hu
  unfold tabCell at hu
  split at hu
  · rename_i ho
    have := hT.cell (show Tryz.prog.globalNamed "internal/strconv.uint64pow10" = some 1 by kernel_rfl) o (by rw [Lib.pow10Tab_length]; exact ho)
    rw [Lib.pow10Tab_at o ho] at this
    rw [← hu]
    show W.cell? ⟨1, o, none⟩ = _
    rw [this]; norm_cast
  · cases hu
theorem walk (x0 : (List Ver)) (x1 : Int) (x2 : Int) (q0 : (Up.LOk 88 Up.okVer) x0) (q1 : IOk x1) (q2 : IOk x2) (v0 : Value) (v1 : Value) (v2 : Value) {w : World} (hT : TabR (fun b o => w.cell? ⟨b, o, none⟩)) (r0 : CRd hT [v0] [.lst (x0.map cVer)]) (r1 : CRd hT [v1] [.int .i64 x1]) (r2 : CRd hT [v2] [.int .i64 x2]) :
    Calls Tryz.prog 5 #[v0, v1, v2] w fun e w' => e = .returned (.bool true) ∧ Below w.heap.size w w' := by
  have h := (nonseqBeliefs_pure (Up.lok_ok (fun _ => Up.ver_ok) q0) (fun v hv x hx => Nat.le_trans ((q0.2 v hv).row.2 x hx).text (by decide)) (a := x1) (t := x2)).2 (RW hT) w #[v0, v1, v2] (fun _ _ _ h => h) rfl (by
    intro j u q hu hq
    match j, hu, hq with
    | 0, hu, hq =>
      simp at hu hq; subst hu hq
      exact r0.2 0 _ _ rfl rfl
    | 1, hu, hq =>
      simp at hu hq; subst hu hq
      exact r1.2 0 _ _ rfl rfl
    | 2, hu, hq =>
      simp at hu hq; subst hu hq
      exact r2.2 0 _ _ rfl rfl
    | j + 3, hu, hq => simp at hq)
  refine h.mono ?_
  rintro e w' ⟨u, R', rfl, hx, _, hr⟩
  cases hr
  exact ⟨rfl, ⟨hx.below.os, hx.below.tape, hx.below.output, hx.below.size, hx.below.block⟩⟩
theorem wit_row {H : Type} {enc : TypeId × Value → H} {C : Checked} {os : Os} {f : FuncId} {fn : Func} {s : OpenSpec} {conds : List PathCond} {apart : Bool} {laid : List (String × DataW Unit)} (w0 : World) (args : Array Value) (hos : w0.os = os)
    (hsh : (w0.forCall (fun _ _ => 0) ⟨#[], args, []⟩).Shaped C.prog)
    (hok : Input.okWideB C.prog (w0.forCall (fun _ _ => 0) ⟨#[], args, []⟩) f ⟨#[], args, []⟩ = true)
    (hrow : s.preRow enc C.prog fn conds apart laid (w0.forCall (fun _ _ => 0) ⟨#[], args, []⟩).memory args) :
    ∃ (w : World) (tape : Tape) (i : Input), w.os = os ∧ (w.forCall tape i).Shaped C.prog ∧ i.vars = [] ∧ Input.okWide C.prog (w.forCall tape i) .any w.heap.size f i ∧
      s.preRow enc C.prog fn conds apart laid (w.forCall tape i).memory i.args ∧ ({} : Assume).holds C.prog (lone (Frame.enter C.prog f i.args .normal) [] (w.forCall tape i)) :=
  ⟨w0, fun _ _ => 0, ⟨#[], args, []⟩, hos, hsh, (Input.okWide_of_okWideB (base := 0) hok).1, (Input.okWide_of_okWideB hok).2, hrow, by
    simp only [Assume.holds]
    exact ⟨by simp, by simp, fun _ => Modest.zero, by simp, by simp⟩⟩
noncomputable abbrev w0 (os : Os) : World := World.doorLaid Tryz.prog 400 os
abbrev a0 : Array Value := #[.slice none 0 0, .int .i64 0, .int .i64 0]
theorem reads (os : Os) {H : Type} (enc : TypeId × Value → H) : ∃ places, DataW.whole enc Tryz.prog ((w0 os).forCall (fun _ _ => 0) ⟨#[], a0, []⟩).memory Tryz.f5.params.toList sp.vars false a0.toList 8 = some ([.nil, .lit (.int .i64 0), .lit (.int .i64 0)], [], places) :=
  ⟨[], by kernel_rfl⟩
theorem met (os : Os) (H : Type) (enc : TypeId × Value → H) : sp.preRow enc Tryz.prog Tryz.f5 Rows.nonseqBeliefsUptoRow.domain false laid3 ((w0 os).forCall (fun _ _ => 0) ⟨#[], a0, []⟩).memory a0 := by
  obtain ⟨places, hx⟩ := reads os enc
  exact OpenSpec.preRow_of_cond 8 hx (by kernel_rfl) (fun k hk => by cases hk; kernel_rfl) (by kernel_rfl) (door_met os _)
set_option maxRecDepth 100000 in
theorem lifted (os : Os) (started : os.Started) (H : Type) (enc : TypeId × Value → H) (F : Stop.Interp) :
    ReturnsInHanded {} Tryz.checked os 5 .any (sp.preRow enc Tryz.prog Tryz.f5 Rows.nonseqBeliefsUptoRow.domain false laid3) ((sp.at F).post enc Tryz.prog Tryz.f5 false true false false) := by
  refine returnsInHanded_of_row (C := Tryz.checked) (s := sp) own started (by kernel_rfl) Tryz.func5 (wit_row (enc := enc) (C := Tryz.checked) (os := os) (f := 5) (fn := Tryz.f5) (s := sp) (conds := Rows.nonseqBeliefsUptoRow.domain) (apart := false) (laid := laid3) (w0 os) a0 rfl (World.shaped_of_RefB (by kernel_rfl) (by kernel_rfl)) (by kernel_rfl) (met os H enc)) ?_
  intro W base args ds gs before hval0 hW _ hcond hsz hL _ _
  have hsm : Rows.uptoSmall H (ds ++ gs) = true := hcond _ rfl
  have hval : ∀ (j : Nat) t v, Tryz.f5.params[j]? = some t → args[j]? = some v → Value.okWide Tryz.prog W .any base t v := hval0
  have hT := tab_met hL
  have hW' := hW
  obtain ⟨p, q, hA0, hV, rfl, hfz, hnd⟩ := hW
  have hA : DataW.TrodAll enc Tryz.prog W 0 (fun _ => true) true Tryz.f5.params.toList args.toList ds p := hA0
  rw [Tryz.params5] at hA hval
  obtain ⟨v0, vs0, d0, ds0, p0, q0, hargs, rfl, rfl, h0, t0⟩ := trodAll_cons hA
  obtain ⟨v1, vs1, d1, ds1, p1, q1, rfl, rfl, rfl, h1, t1⟩ := trodAll_cons t0
  obtain ⟨v2, vs2, d2, ds2, p2, q2, rfl, rfl, rfl, h2, t2⟩ := trodAll_cons t1
  obtain ⟨rfl, rfl, rfl⟩ := trodAll_nil t2
  obtain rfl : args = #[v0, v1, v2] := by cases args; simp_all
  obtain ⟨rfl, rfl⟩ := trodVars_none hV
  obtain ⟨a0, len0, cap0, rfl⟩ := okWide_slice Tryz.underlying22 (hval 0 22 v0 rfl rfl)
  obtain ⟨n1, rfl⟩ := okWide_int Tryz.underlying3 (hval 1 3 v1 rfl rfl)
  obtain ⟨n2, rfl⟩ := okWide_int Tryz.underlying3 (hval 2 3 v2 rfl rfl)
  have k0 := h0
  have lt0 : ∀ x ∈ p0, x.block < W.heap.size := by obtain ⟨m, hm⟩ := k0; exact DataW.trod_lt m _ _ _ hm
  have k1 := h1
  have lt1 : ∀ x ∈ p1, x.block < W.heap.size := by obtain ⟨m, hm⟩ := k1; exact DataW.trod_lt m _ _ _ hm
  have k2 := h2
  have lt2 : ∀ x ∈ p2, x.block < W.heap.size := by obtain ⟨m, hm⟩ := k2; exact DataW.trod_lt m _ _ _ hm
  have w0 : Up.WOk 22 d0 := Up.wok hsm (by simp) 22
  obtain ⟨fuel0, hf0⟩ := h0
  obtain ⟨x0, r0, q100⟩ := Up.rd_l22 (hT := hT) (cs := [.slice a0 len0 cap0]) (fuel := fuel0) (by simpa [Value.cells] using hf0) w0
  obtain ⟨fuel1, hf1⟩ := h1
  obtain ⟨x1, r1, q101⟩ := read_int Tryz.underlying3 (hT := hT) (cs := [.int .i64 n1]) (fuel := fuel1) (by simpa [Value.cells] using hf1)
  obtain ⟨fuel2, hf2⟩ := h2
  obtain ⟨x2, r2, q102⟩ := read_int Tryz.underlying3 (hT := hT) (cs := [.int .i64 n2]) (fuel := fuel2) (by simpa [Value.cells] using hf2)
  clear hA0 hval0
  refine (walk x0 x1 x2 q100 q101 q102 _ _ _ hT r0 r1 r2).mono fun e W' ⟨he, bel⟩ => ?_
  subst he
  exact ⟨_, rfl, _, _, _, [], _, [], hW', trodAll_mk1 (shut_bool Tryz.underlying4 _), (trodAll_cons_mk (Below.trod laidOut (by kernel_rfl) (of_decide_eq_true (by kernel_rfl)) k0 bel lt0) (trodAll_cons_mk (Below.trod laidOut (by kernel_rfl) (of_decide_eq_true (by kernel_rfl)) k1 bel lt1) (trodAll_cons_mk (Below.trod laidOut (by kernel_rfl) (of_decide_eq_true (by kernel_rfl)) k2 bel lt2) trodAll_mk0))), rfl, bel.frame _, fun h => by cases h⟩
end Go.Proofs.YtnbnpnmkgemdeaaGreatDoor.nonseqBeliefsUpto
