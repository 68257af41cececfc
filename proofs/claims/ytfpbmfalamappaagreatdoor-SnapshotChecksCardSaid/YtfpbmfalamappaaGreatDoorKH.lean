/- Parts of the proof, joined (V11 V12 V13 V14 V17 V18 V15 V16 V19 V20 V21). No condition. -/
import Derived.Test.YtfpbmfalamappaaGreatDoorKG
import Derived.Test.YtfpbmfalamappaaGreatDoorKF
import Derived.ProofKit
import Derived.OpenShut
import Derived.ChangeOld
import Derived.Deep.Slices
import Derived.Test.YtfpbmfalamappaaGreatDoorKD
set_option linter.unusedSimpArgs false
set_option linter.unusedVariables false
namespace Go.Proofs.YtfpbmfalamappaaGreatDoor
open Go.RowKit Go.MapKept
/-- A fold that may stop or fail. -/
def foldS {α σ ρ : Type} (f : σ → α → Option (Sum σ ρ)) : σ → List α → Option (Sum σ ρ)
  | s, [] => some (.inl s)
  | s, x :: l => match f s x with
    | none => none
    | some (.inl s') => foldS f s' l
    | some (.inr r) => some (.inr r)
section
variable {α σ ρ S : Type} {l : List α} {body : S → Option (Step S ρ)}
def foldR (mk : σ → Int → S) (n : Nat) : Option (Sum σ ρ) → Option (Sum S ρ)
  | none => none
  | some (.inl s') => some (.inl (mk s' n))
  | some (.inr r) => some (.inr r)
def foldN (mk : σ → Int → S) (i : Nat) : Option (Sum σ ρ) → Option (Step S ρ)
  | none => none
  | some (.inl s') => some (.next (mk s' (i : Nat)))
  | some (.inr r) => some (.ret r)
theorem loop_at (mk : σ → Int → S) (f : σ → α → Option (Sum σ ρ)) (h1 : ∀ (s : σ) (i : Nat) x, l[i]? = some x → body (mk s i) = foldN mk (i + 1) (f s x)) (h2 : ∀ s, body (mk s l.length) = some (.exit (mk s l.length))) :
    ∀ (n i : Nat) (s : σ), i ≤ l.length → l.length - i < n → loopM body n (mk s i) = foldR mk l.length (foldS f s (l.drop i))
  | 0, i, s, _, h => by omega
  | n + 1, i, s, hi, hn => by
    rw [loopM]
    by_cases hlt : i < l.length
    · obtain ⟨x, hx⟩ := get_of_lt hlt
      have e1 := (List.getElem?_eq_some_iff.1 hx).2
      rw [h1 s i x hx, List.drop_eq_getElem_cons hlt, e1, foldS]
      cases hf : f s x with
      | none => rfl
      | some st => cases st with
        | inl s' => exact loop_at mk f h1 h2 n (i + 1) s' (by omega) (by omega)
        | inr r => rfl
    · have : i = l.length := by omega
      subst this
      rw [h2, List.drop_length]
      rfl
theorem loop_list (mk : σ → Int → S) (f : σ → α → Option (Sum σ ρ)) (h1 : ∀ (s : σ) (i : Nat) x, l[i]? = some x → body (mk s i) = foldN mk (i + 1) (f s x)) (h2 : ∀ s, body (mk s l.length) = some (.exit (mk s l.length))) (hl : l.length < fuel) (s : σ) :
    loopM body fuel (mk s 0) = foldR mk l.length (foldS f s l) := loop_at mk f h1 h2 fuel 0 s (Nat.zero_le _) (by omega)
end
theorem getI_nat {α : Type} {l : List α} {i : Nat} {x : α} (h : l[i]? = some x) : getI l (i : Int) = some x := by
  unfold getI; rw [if_pos (by omega)]; exact h
theorem lt_dec {α : Type} {l : List α} {i : Nat} {x : α} (h : l[i]? = some x) : decide ((i : Int) < (l.length : Nat)) = true := by
  have := (List.getElem?_eq_some_iff.1 h).1; simp; exact this
theorem lt_decF (n : Nat) : decide ((n : Int) < (n : Nat)) = false := by simp
theorem wrapN {i : Nat} (h : i ≤ 4611686018427387904) : IntKind.i64.wrap ((i : Int) + 1) = ((i + 1 : Nat) : Int) := wrap_eq (by omega) (by omega)

/-! ### Kinds -/
theorem unite_bad {k a : Int} (hk : k ≠ 0) (ha : a ≠ 0) (hak : a ≠ k) : ∀ l : List Int, (bif (uniteF (l ++ [k]) a).2 then decide ((uniteF (l ++ [k]) a).1 = k) else false) = false
  | [] => by simp [uniteF, hk, ha, hak]
  | x :: l => by
    have ih := unite_bad hk ha hak l
    by_cases hx : x = 0
    · simpa [uniteF, hx] using ih
    · by_cases hax : a = x
      · subst hax; simpa [uniteF, ha] using ih
      · simp [uniteF, hx, ha, hax]
theorem all_eqA {k : Int} (hk : k ≠ 0) : ∀ (l : List Int) (a : Int), (a = 0 ∨ a = k) → (bif (uniteF (l ++ [k]) a).2 then decide ((uniteF (l ++ [k]) a).1 = k) else false) = allRF l k
  | [], a, ha => by
    rcases ha with rfl | rfl
    · simp [uniteF, allRF, hk]
    · simp [uniteF, allRF, hk]
  | x :: l, a, ha => by
    have hall : allRF (x :: l) k = (okK k x && allRF l k) := rfl
    rw [hall]
    by_cases hx : x = 0
    · have ih := all_eqA hk l a ha
      have : okK k x = true := by unfold okK; simp [hx]
      rw [this, Bool.true_and, ← ih]
      simp [uniteF, hx]
    · by_cases hxk : x = k
      · subst hxk
        have ih := all_eqA hk l x (.inr rfl)
        have : okK x x = true := by unfold okK; simp
        rw [this, Bool.true_and, ← ih]
        rcases ha with rfl | rfl <;> simp [uniteF, hx]
      · have : okK k x = false := by unfold okK; simp [hx, hxk]
        rw [this, Bool.false_and]
        rcases ha with rfl | rfl
        · have := unite_bad hk hx hxk l
          simpa [uniteF, hx] using this
        · simp [uniteF, hx, hk, Ne.symm hxk]
theorem all_eq {k : Int} (hk : k ≠ 0) (l : List Int) : allF l k = allRF l k := all_eqA hk l 0 (.inl rfl)
theorem res_eq (op : Int) (v : Val) (l : List Int) : resF op v l = resRF op v l := by
  unfold resF resRF
  rw [all_eq (by decide), all_eq (by decide), all_eq (by decide), all_eq (by decide)]
theorem ops_arity {op : Int} (h : op ∈ opsL) {n : Int} (h0 : 0 ≤ n) (h1 : n ≤ 1000000) : (¬ (arity op).1 < 0) ∧ (cntF op n).2 = true ∧ (cntF op n).1 = !(bif decide (n < (arity op).1) then true else decide ((arity op).2 < n)) := by
  simp only [opsL, List.mem_cons, List.not_mem_nil, or_false] at h
  rcases h with rfl | rfl | rfl | rfl | rfl | rfl | rfl | rfl | rfl | rfl | rfl | rfl | rfl | rfl | rfl | rfl | rfl | rfl | rfl | rfl | rfl | rfl | rfl <;>
    (refine ⟨by decide, rfl, ?_⟩; simp only [cntF, arity, inL, Int.reduceEq, decide_false, decide_true, cond_false, cond_true]; rw [Bool.eq_iff_iff]; simp; omega)
theorem ops_not {op : Int} (h : op ∉ opsL) (n : Int) : arity op = (-1, 0) ∧ cntF op n = (false, false) := by
  have q : ∀ l : List Int, (∀ x ∈ l, x ∈ opsL) → inL op l = false := fun l hl => inL_no fun x hx e => h (by rw [e]; exact hl x hx)
  constructor
  · unfold arity
    rw [q [1, 2] (by decide), q [4, 18, 20, 21] (by decide), q [5, 6] (by decide), q [7, 8, 9, 10, 11, 12, 13, 14, 15, 16, 17, 19] (by decide), q [22] (by decide), q [23] (by decide), q [24] (by decide)]
    rfl
  · unfold cntF
    rw [q [1, 2] (by decide), q [4, 18, 20, 21] (by decide), q [5, 6] (by decide), q [7, 8, 9, 10, 11, 12, 13, 14, 15, 16, 17, 19] (by decide), q [22] (by decide), q [23] (by decide), q [24] (by decide)]
    rfl
theorem formed_eq {op int : Int} {v : Val} {nm : ByteArray} {n : Int} (h : op ∈ opsL) (h0 : 0 ≤ n) (h1 : n ≤ 1000000) : formedF op int v nm n = formedRF op int v nm n := by
  obtain ⟨a1, _, a3⟩ := ops_arity h h0 h1
  unfold formedF formedRF
  rw [a3, show decide ((arity op).1 < 0) = false by simp [a1]]
  generalize decide (n < (arity op).1) = b1
  generalize decide ((arity op).2 < n) = b2
  cases b1 <;> cases b2 <;> cases (nm.toList == e0) <;> try rfl
  by_cases o1 : op = 1
  · simp [o1]
  · by_cases o2 : op = 2
    · simp [o2]
    · by_cases o3 : op = 24
      · simp only [o3, Int.reduceEq, decide_false, decide_true, cond_false, cond_true, Bool.not_false, Bool.not_true]
        cases zV v
        · cases (bif decide (int < 0) then true else decide (13 ≤ int)) <;> rfl
        · by_cases c1 : int < 0
          · have : ¬ (0 : Int) ≤ int := by omega
            simp [c1, this]
          · by_cases c2 : 13 ≤ int
            · have : ¬ int < 13 := by omega
              simp [c1, c2, this]
            · have e1 : int < 13 := by omega
              have e2 : (0 : Int) ≤ int := by omega
              simp [c1, c2, e1, e2]
      · simp [o1, o2, o3]
end Go.Proofs.YtfpbmfalamappaaGreatDoor

namespace Go.Proofs.YtfpbmfalamappaaGreatDoor
open Go.RowKit Go.MapKept
theorem formedR_2 {int : Int} {v : Val} {nm : ByteArray} {n : Nat} (h : formedRF 2 int v nm n = true) : n = 0 := by
  unfold formedRF at h
  have ha : arity 2 = (0, 0) := by decide
  rw [ha] at h
  simp only [show decide ((0 : Int) < 0) = false from by decide, cond_false] at h
  by_cases h2 : (0 : Int) < n
  · rw [show decide ((0 : Int) < (n : Nat)) = true from decide_eq_true h2, show decide (((n : Nat) : Int) < 0) = false from decide_eq_false (by omega)] at h
    cases h
  · omega
theorem chks_eq {kinds : List Int} : ∀ (l : List Ex) (acc : List Int), (∀ x ∈ l, chk kinds x = chkR kinds x) → chks kinds l acc = chksR kinds l acc
  | [], acc, _ => by rw [chks, chksR]
  | x :: l, acc, h => by
    rw [chks, chksR, h x (by simp), chks_eq l _ (fun y hy => h y (by simp [hy]))]
theorem chk_eq (kinds : List Int) {e : Ex} (h : e.Sm) : chk kinds e = chkR kinds e := by
  induction h with
  | @mk op int v nm args hal _ _ ih =>
    rw [chk, chkR_mk, chks_eq args [] ih]
    by_cases hm : op ∈ opsL
    · obtain ⟨a1, a2, _⟩ := ops_arity hm (n := (args.length : Nat)) (by omega) (by omega)
      rw [a2, show decide ((arity op).1 < 0) = false by simp [a1], formed_eq hm (by omega) (by omega)]
      simp only [Bool.not_true, cond_false]
      cases hf : formedRF op int v nm (args.length : Nat) with
      | false => rfl
      | true =>
        simp only [Bool.not_true, cond_false]
        by_cases h2 : op = 2
        · subst h2
          have h0 := formedR_2 hf
          have : args = [] := List.length_eq_zero_iff.1 h0
          subst this
          simp only [decide_true, cond_true]
          cases inK kinds int with
          | false => rfl
          | true => simp [chksR, resRK]
        · have q : decide (op = 2) = false := by simp [h2]
          simp only [q, cond_false]
          cases chksR kinds args [] with
          | inl e => rfl
          | inr l => simp only [resRK, q, cond_false, res_eq]
    · obtain ⟨a1, a2⟩ := ops_not hm (args.length : Nat)
      rw [a1, a2]
      rfl
/-! ### Depths -/
theorem fold_mx {α : Type} {f : α → Int} {g : α → Nat} : ∀ (l : List α) (a : Nat), (∀ x ∈ l, f x = g x) → l.foldl (fun n x => mx n (f x)) (a : Int) = ((l.foldl (fun n x => max n (g x)) a : Nat) : Int)
  | [], _, _ => rfl
  | x :: l, a, h => by
    rw [List.foldl_cons, List.foldl_cons, h x (by simp), show mx (a : Int) (g x) = ((max a (g x) : Nat) : Int) by unfold mx; split <;> omega]
    exact fold_mx l _ fun y hy => h y (by simp [hy])
theorem fold_ge {α : Type} {g : α → Nat} : ∀ (l : List α) (a : Nat), a ≤ l.foldl (fun n x => max n (g x)) a ∧ ∀ x ∈ l, g x ≤ l.foldl (fun n x => max n (g x)) a
  | [], _ => ⟨Nat.le_refl _, fun x hx => by cases hx⟩
  | x :: l, a => by
    rw [List.foldl_cons]
    obtain ⟨h1, h2⟩ := fold_ge (g := g) l (max a (g x))
    refine ⟨by omega, fun y hy => ?_⟩
    rcases List.mem_cons.1 hy with rfl | hy
    · omega
    · exact h2 y hy
theorem fold_min {α : Type} {g : α → Nat} (m : Nat) : ∀ (l : List α) (a : Nat), l.foldl (fun n x => max n (min (g x) m)) (min a m) = min (l.foldl (fun n x => max n (g x)) a) m
  | [], _ => rfl
  | x :: l, a => by
    rw [List.foldl_cons, List.foldl_cons, show max (min a m) (min (g x) m) = min (max a (g x)) m by omega]
    exact fold_min m l _
theorem fold_succ {α : Type} {g : α → Nat} : ∀ (l : List α) (a : Nat), l.foldl (fun n x => max n (g x + 1)) (a + 1) = l.foldl (fun n x => max n (g x)) a + 1
  | [], _ => rfl
  | x :: l, a => by
    rw [List.foldl_cons, List.foldl_cons, show max (a + 1) (g x + 1) = max a (g x) + 1 by omega]
    exact fold_succ l _
mutual
def dpt : Ex → Nat
  | .mk _ _ _ _ args => dpts args 0 + 1
def dpts : List Ex → Nat → Nat
  | [], n => n
  | x :: l, n => dpts l (max n (dpt x))
end
theorem dpts_fold : ∀ (l : List Ex) (n : Nat), dpts l n = l.foldl (fun n x => max n (dpt x)) n
  | [], n => by simp [dpts]
  | x :: l, n => by simp [dpts, dpts_fold l]
theorem dpt_mk (op int : Int) (v : Val) (nm : ByteArray) (args : List Ex) : dpt (.mk op int v nm args) = args.foldl (fun n x => max n (dpt x)) 0 + 1 := by rw [dpt, dpts_fold]
theorem depR_eq {e : Ex} (h : e.Sm) : dpt e ≤ 1000000 → depR e = dpt e := by
  induction h with
  | @mk op int v nm args _ _ _ ih =>
    rw [dpt_mk]
    intro hd
    have hg := (fold_ge (g := dpt) args 0).2
    have e2 := fold_mx (f := depR) (g := dpt) args 0 (fun x hx => ih x hx (by have := hg x hx; omega))
    rw [show ((0 : Nat) : Int) = 0 from rfl] at e2
    rw [depR, depRs_fold, e2]
    exact wrap_eq (by omega) (by omega)
theorem dep_eq : ∀ (m : Nat) {e : Ex}, e.Sm → 1 ≤ m → m ≤ 1000 → dep m e = ((min (dpt e) m : Nat) : Int)
  | 0, _, _, h, _ => by omega
  | m + 1, _, @Ex.Sm.mk op int v nm args _ _ ha, _, hm => by
    rw [dep, dpt_mk]
    by_cases h0 : m = 0
    · subst h0; rw [if_pos rfl]; omega
    · rw [if_neg h0]
      have e1 : ∀ x ∈ args, IntKind.i64.wrap (1 + dep m x) = ((min (dpt x + 1) (m + 1) : Nat) : Int) := by
        intro x hx
        rw [dep_eq m (ha x hx) (by omega) (by omega)]
        exact wrap_eq (by omega) (by omega)
      have e2 := fold_mx (f := fun x => IntKind.i64.wrap (1 + dep m x)) (g := fun x => min (dpt x + 1) (m + 1)) args 1 e1
      have e3 := fold_min (g := fun x => dpt x + 1) (m + 1) args 1
      rw [show min 1 (m + 1) = 1 by omega] at e3
      have e4 := fold_succ (g := dpt) args 0
      rw [show (0 : Nat) + 1 = 1 from rfl] at e4
      rw [e4] at e3
      rw [← e3]
      exact e2
theorem chkE_eq (kinds : List Int) {e : Ex} (h : e.Sm) (hd : dpt e ≤ 1000000) : chkE kinds e = chkRE kinds e := by
  unfold chkE chkRE
  rw [chk_eq kinds h, depR_eq h hd, dep_eq 25 h (by omega) (by omega)]
  by_cases h24 : 24 < dpt e
  · rw [show decide ((24 : Int) < (dpt e : Nat)) = true by simp; omega, show decide ((24 : Int) < ((min (dpt e) 25 : Nat) : Int)) = true by simp; omega]
  · rw [show decide ((24 : Int) < (dpt e : Nat)) = false by simp; omega, show decide ((24 : Int) < ((min (dpt e) 25 : Nat) : Int)) = false by simp; omega]
mutual
def dptP : Pl → Nat
  | .mk _ _ _ _ _ _ _ _ inputs => dptPs inputs 0 + 1
def dptPs : List Pl → Nat → Nat
  | [], n => n
  | x :: l, n => dptPs l (max n (dptP x))
end
theorem dptPs_fold : ∀ (l : List Pl) (n : Nat), dptPs l n = l.foldl (fun n x => max n (dptP x)) n
  | [], n => by simp [dptPs]
  | x :: l, n => by simp [dptPs, dptPs_fold l]
theorem dptP_mk (op int : Int) (kinds : List Int) (rows : List (List Val)) (pred : Ex) (exprs : List Ex) (keys : List Int) (aggs : List Ag) (inputs : List Pl) : dptP (.mk op int kinds rows pred exprs keys aggs inputs) = inputs.foldl (fun n x => max n (dptP x)) 0 + 1 := by rw [dptP, dptPs_fold]
theorem depQ_eq {e : Pl} (h : e.Sm) : dptP e ≤ 1000000 → depQ e = dptP e := by
  induction h with
  | @mk op int kinds rows pred exprs keys aggs inputs _ _ _ _ _ _ _ _ _ ih =>
    rw [dptP_mk]
    intro hd
    have hg := (fold_ge (g := dptP) inputs 0).2
    rw [depQ_mk]
    have e2 := fold_mx (f := depQ) (g := dptP) inputs 0 (fun x hx => ih x hx (by have := hg x hx; omega))
    rw [show ((0 : Nat) : Int) = 0 from rfl] at e2
    rw [e2]
    exact wrap_eq (by omega) (by omega)
theorem depP_eq : ∀ (m : Nat) {e : Pl}, e.Sm → m ≤ 1000 → depP m e = ((min (dptP e) (m + 1) : Nat) : Int)
  | 0, .mk _ _ _ _ _ _ _ _ inputs, _, _ => by rw [depP, dptP_mk]; omega
  | m + 1, _, @Pl.Sm.mk op int kinds rows pred exprs keys aggs inputs _ _ _ _ _ _ _ _ hs, hm => by
    rw [depP, dptP_mk]
    have e2 := fold_mx (f := depP m) (g := fun x => min (dptP x) (m + 1)) inputs 0 (fun x hx => depP_eq m (hs x hx) (by omega))
    have e3 := fold_min (g := dptP) (m + 1) inputs 0
    rw [show min 0 (m + 1) = 0 by omega] at e3
    rw [e3, show ((0 : Nat) : Int) = 0 from rfl] at e2
    rw [e2]
    exact wrap_eq (by omega) (by omega)
theorem depth_same {p : Pl} (h : p.Sm) (hd : dptP p ≤ 1000000) : decide (24 < depP 24 p) = decide (24 < depQ p) := by
  rw [depQ_eq h hd, depP_eq 24 h (by omega)]
  by_cases h24 : 24 < dptP p
  · rw [show decide ((24 : Int) < (dptP p : Nat)) = true by simp; omega, show decide ((24 : Int) < ((min (dptP p) 25 : Nat) : Int)) = true by simp; omega]
  · rw [show decide ((24 : Int) < (dptP p : Nat)) = false by simp; omega, show decide ((24 : Int) < ((min (dptP p) 25 : Nat) : Int)) = false by simp; omega]
end Go.Proofs.YtfpbmfalamappaaGreatDoor

namespace Go.Proofs.YtfpbmfalamappaaGreatDoor
open Go.RowKit Go.MapKept
theorem scan_eq {p : Pl} {inn : List (List Int)} (h : ∀ x ∈ inn, x.length ≤ 1000000) : gScan p inn = some (scanF inn p.int) := by
  unfold gScan scanF
  cases hin : inN inn p.int with
  | true =>
    obtain ⟨h0, x, hx⟩ := inN_get hin
    have hlt := (List.getElem?_eq_some_iff.1 hx).1
    have hg : inn.getD p.int.toNat [] = x := by rw [List.getD_eq_getElem?_getD, hx]; rfl
    have hgi : getI inn p.int = some x := by unfold getI; rw [if_pos h0]; exact hx
    rw [show decide (p.int < 0) = false by simp; omega, show decide (((inn.length : Nat) : Int) ≤ p.int) = false by simp; omega, hg, hgi]
    have hk : gKinds x = some (basicF x) := by unfold gKinds; rw [decide_eq_true (h x (List.mem_of_getElem? hx))]; rfl
    simp only [cond_false, cond_true, Option.bind_some, hk]
    cases basicF x <;> rfl
  | false =>
    unfold inN at hin
    by_cases h0 : p.int < 0
    · rw [show decide (p.int < 0) = true by simp; omega]; rfl
    · rw [show decide (p.int < 0) = false by simp; omega] at hin ⊢
      have : decide (((inn.length : Nat) : Int) ≤ p.int) = true := by simpa using hin
      rw [this]; rfl
theorem joined_eq {a b : List Int} (ha : a.length ≤ 1000000) (hb : b.length ≤ 1000000) : gJoined a b = some (a ++ b) := by
  unfold gJoined
  rw [decide_eq_true (by omega), decide_eq_true (by omega)]; rfl
theorem gChk_eq {e : Ex} {kinds : List Int} (hk : kinds.length ≤ 100000) (h : e.Sm) (hd : dpt e ≤ 1000000) : gChk e kinds = some (chkE kinds e) := by
  unfold gChk; rw [decide_eq_true hk, chkE_eq kinds h hd]; rfl
theorem pred_eq {e : Ex} {kinds : List Int} (hk : kinds.length ≤ 100000) (h : e.Sm) (hd : dpt e ≤ 1000000) : gPredR e kinds = some (predF kinds e) := by
  unfold gPredR predF
  rw [gChk_eq hk h hd]
  simp only [Option.bind_some]
  cases decide ((chkE kinds e).2 ≠ 0) <;> cases decide ((chkE kinds e).1 ≠ 3) <;> cases decide ((chkE kinds e).1 ≠ 0) <;> rfl
theorem proj_fold {kinds : List Int} (hk : kinds.length ≤ 100000) (n : Nat) : ∀ (l : List Ex) (acc : List Int), (∀ e ∈ l, e.Sm ∧ dpt e ≤ 1000000) → acc.length + l.length ≤ 1000000 →
    (foldR (fun a i => (a, i)) n (foldS (fun acc x => (gChk x kinds).bind fun r => bif decide (r.2 ≠ 0) then some (.inr ([], r.2)) else bif decide (r.1 = 0) then some (.inr ([], 7)) else bif decide (acc.length + 1 ≤ 549755813888) then some (.inl (acc ++ [r.1])) else none) acc l)).bind gProjR_K1 = some (projF kinds l acc)
  | [], acc, _, _ => rfl
  | x :: l, acc, h, hl => by
    have hx := h x (by simp)
    rw [List.length_cons] at hl
    rw [foldS, gChk_eq hk hx.1 hx.2, projF]
    simp only [Option.bind_some]
    cases decide ((chkE kinds x).2 ≠ 0) with
    | true => rfl
    | false =>
      simp only [cond_false]
      cases decide ((chkE kinds x).1 = 0) with
      | true => rfl
      | false =>
        rw [decide_eq_true (show acc.length + 1 ≤ 549755813888 by omega)]
        exact proj_fold hk n l (acc ++ [(chkE kinds x).1]) (fun e he => h e (by simp [he])) (by simp; omega)
theorem proj_eq {kinds : List Int} (hk : kinds.length ≤ 100000) (l : List Ex) (hl : l.length ≤ 100000) (h : ∀ e ∈ l, e.Sm ∧ dpt e ≤ 1000000) : gProjR kinds l = some (projF kinds l []) := by
  unfold gProjR
  have := loop_list (l := l) (body := gProjR_B1 kinds l) (fun (a : List Int) i => (a, i)) (fun acc x => (gChk x kinds).bind fun r => bif decide (r.2 ≠ 0) then some (.inr ([], r.2)) else bif decide (r.1 = 0) then some (.inr ([], 7)) else bif decide (acc.length + 1 ≤ 549755813888) then some (.inl (acc ++ [r.1])) else none)
    (fun s i x hx => by
      have hlt := (List.getElem?_eq_some_iff.1 hx).1
      unfold gProjR_B1
      dsimp only
      rw [lt_dec hx, cond_true, getI_nat hx, Option.bind_some, wrapN (by omega)]
      cases gChk x kinds with
      | none => rfl
      | some r =>
        simp only [Option.bind_some]
        cases decide (r.2 ≠ 0) <;> cases decide (r.1 = 0) <;> cases decide (s.length + 1 ≤ 549755813888) <;> rfl)
    (fun s => by unfold gProjR_B1; dsimp only; rw [lt_decF]; rfl) (by unfold fuel; omega) []
  rw [this]
  exact proj_fold hk _ l [] h (by simp; omega)
/-! ### Grouping -/
def stK (kinds : List Int) (acc : List Int) (k : Int) : Option (Sum (List Int) (List Int × Int)) := bif inK kinds k then (bif decide (acc.length + 1 ≤ 549755813888) then some (.inl (acc ++ [kinds.getD k.toNat 0])) else none) else some (.inr ([], 6))
def stA (kinds : List Int) (acc : List Int) (a : Ag) : Option (Sum (List Int) (List Int × Int)) := bif decide (agErr kinds a = 0) then (bif decide (acc.length + 1 ≤ 549755813888) then some (.inl (acc ++ [agKind kinds a])) else none) else some (.inr ([], agErr kinds a))
theorem aggs_fold {kinds : List Int} (n : Nat) : ∀ (l : List Ag) (acc : List Int), acc.length + l.length ≤ 1000000 → (foldR (fun a i => (a, i)) n (foldS (stA kinds) acc l)).bind gGroupedR_K2 = some (grpAggs kinds l acc)
  | [], acc, _ => rfl
  | x :: l, acc, hl => by
    rw [List.length_cons] at hl
    rw [foldS, grpAggs]
    unfold stA
    cases decide (agErr kinds x = 0) with
    | false => rfl
    | true =>
      simp only [cond_true]
      rw [decide_eq_true (show acc.length + 1 ≤ 549755813888 by omega)]
      exact aggs_fold n l (acc ++ [agKind kinds x]) (by simp; omega)
theorem getI_in {l : List Int} {k : Int} (h : inK l k = true) : getI l k = some (l.getD k.toNat 0) := by
  obtain ⟨h0, x, hx⟩ := inK_get h
  unfold getI; rw [if_pos h0, hx, getD_of hx]
theorem inK_parts {l : List Int} {k : Int} : inK l k = !(bif decide (k < 0) then true else decide (((l.length : Nat) : Int) ≤ k)) := rfl
theorem aggs_loop {kinds : List Int} (l : List Ag) (hl : l.length ≤ 100000) (acc : List Int) (ha : acc.length ≤ 100000) : (loopM (gGroupedR_B2 kinds l) fuel (acc, (0 : Int))).bind gGroupedR_K2 = some (grpAggs kinds l acc) := by
  have := loop_list (l := l) (body := gGroupedR_B2 kinds l) (fun (a : List Int) i => (a, i)) (stA kinds)
    (fun s i x hx => by
      have hlt := (List.getElem?_eq_some_iff.1 hx).1
      obtain ⟨op, arg⟩ := x
      unfold gGroupedR_B2
      dsimp only
      rw [lt_dec hx, cond_true, getI_nat hx, Option.bind_some, wrapN (by omega)]
      dsimp only
      have hE : agErr kinds (op, arg) = bif (bif decide (op < 1) then true else decide (4 < op)) then 7 else bif (bif decide (arg = -1) then decide (op = 1) else false) then 0 else bif !(inK kinds arg) then 6 else bif (bif decide (op = 2) then decide (kinds.getD arg.toNat 0 ≠ 1) else false) then 7 else 0 := rfl
      have hKd : agKind kinds (op, arg) = bif (bif decide (op = 3) then true else decide (op = 4)) then kinds.getD arg.toNat 0 else 1 := rfl
      unfold stA
      rw [hE, hKd]
      generalize decide (s.length + 1 ≤ 549755813888) = bg
      have hin := @inK_parts kinds arg
      by_cases o1 : op = 1
      · subst o1
        by_cases m : arg = -1
        · subst m; cases bg <;> rfl
        · rw [show decide (arg = -1) = false by simp [m]]
          cases h1 : decide (arg < 0) with
          | true => rw [h1] at hin; rw [hin]; rfl
          | false =>
            cases h2 : decide (((kinds.length : Nat) : Int) ≤ arg) with
            | true => rw [h1, h2] at hin; rw [hin]; rfl
            | false => rw [h1, h2] at hin; rw [hin]; cases bg <;> rfl
      · by_cases o2 : op = 2
        · subst o2
          by_cases m : arg = -1
          · subst m
            have : inK kinds (-1) = false := by rw [hin]; rfl
            rw [this]; rfl
          · rw [show decide (arg = -1) = false by simp [m]]
            cases h1 : decide (arg < 0) with
            | true => rw [h1] at hin; rw [hin]; rfl
            | false =>
              cases h2 : decide (((kinds.length : Nat) : Int) ≤ arg) with
              | true => rw [h1, h2] at hin; rw [hin]; rfl
              | false =>
                rw [h1, h2] at hin
                rw [getI_in hin, hin]
                dsimp only [Option.bind_some]
                generalize kinds.getD arg.toNat 0 = y
                cases hy : decide (y ≠ 1) <;> cases bg <;> rfl
        · by_cases o34 : op = 3 ∨ op = 4
          · by_cases m : arg = -1
            · subst m
              have : inK kinds (-1) = false := by rw [hin]; rfl
              rw [this]
              rcases o34 with rfl | rfl <;> rfl
            · rw [show decide (arg = -1) = false by simp [m]]
              cases h1 : decide (arg < 0) with
              | true => rw [h1] at hin; rw [hin]; rcases o34 with rfl | rfl <;> rfl
              | false =>
                cases h2 : decide (((kinds.length : Nat) : Int) ≤ arg) with
                | true => rw [h1, h2] at hin; rw [hin]; rcases o34 with rfl | rfl <;> rfl
                | false =>
                  rw [h1, h2] at hin
                  rw [getI_in hin, hin]
                  rcases o34 with rfl | rfl <;> cases bg <;> rfl
          · have n1 : decide (op ≠ 1) = true := by simp [o1]
            have n2 : decide (op ≠ 2) = true := by simp [o2]
            have n3 : decide (op ≠ 3) = true := by simp; intro e; exact o34 (.inl e)
            have n4 : decide (op ≠ 4) = true := by simp; intro e; exact o34 (.inr e)
            have hr : (bif decide (op < 1) then true else decide (4 < op)) = true := by
              by_cases c1 : op < 1
              · simp [c1]
              · simp [c1]; omega
            rw [n1, n2, n3, n4, hr]; rfl)
    (fun s => by unfold gGroupedR_B2; dsimp only; rw [lt_decF]; rfl) (by unfold fuel; omega) acc
  rw [this]
  exact aggs_fold _ l acc (by omega)
theorem keys_fold {kinds : List Int} (aggs : List Ag) (hA : aggs.length ≤ 100000) (n : Nat) : ∀ (l : List Int) (acc : List Int), acc.length + l.length ≤ 100000 → (foldR (fun a i => (a, i)) n (foldS (stK kinds) acc l)).bind (gGroupedR_K1 kinds aggs) = some (bif decide ((grpKeys kinds l acc).2 = 0) then grpAggs kinds aggs (grpKeys kinds l acc).1 else ([], (grpKeys kinds l acc).2))
  | [], acc, hl => aggs_loop aggs hA acc (by simpa using hl)
  | x :: l, acc, hl => by
    rw [List.length_cons] at hl
    rw [foldS, grpKeys]
    unfold stK
    cases inK kinds x with
    | false => rfl
    | true =>
      simp only [cond_true]
      rw [decide_eq_true (show acc.length + 1 ≤ 549755813888 by omega)]
      exact keys_fold aggs hA n l _ (by simp; omega)
theorem grouped_eq {kinds keys : List Int} {aggs : List Ag} (hK : keys.length ≤ 100000) (hA : aggs.length ≤ 100000) : gGroupedR kinds keys aggs = some (grpF kinds keys aggs) := by
  unfold gGroupedR
  have := loop_list (l := keys) (body := gGroupedR_B1 kinds keys) (fun (a : List Int) i => (a, i)) (stK kinds)
    (fun s i x hx => by
      have hlt := (List.getElem?_eq_some_iff.1 hx).1
      unfold gGroupedR_B1
      dsimp only
      rw [lt_dec hx, cond_true, getI_nat hx, Option.bind_some, wrapN (by omega)]
      unfold stK
      have hin := @inK_parts kinds x
      generalize decide (s.length + 1 ≤ 549755813888) = bg
      cases h1 : decide (x < 0) with
      | true => rw [h1] at hin; rw [hin]; rfl
      | false =>
        cases h2 : decide (((kinds.length : Nat) : Int) ≤ x) with
        | true => rw [h1, h2] at hin; rw [hin]; rfl
        | false => rw [h1, h2] at hin; rw [getI_in hin, hin]; cases bg <;> rfl)
    (fun s => by unfold gGroupedR_B1; dsimp only; rw [lt_decF]; rfl) (by unfold fuel; omega) []
  rw [this]
  exact keys_fold aggs hA _ keys [] (by simpa using hK)
end Go.Proofs.YtfpbmfalamappaaGreatDoor

namespace Go.Proofs.YtfpbmfalamappaaGreatDoor
open Go.RowKit Go.MapKept
def finF (r : List Int × Int) : List Int × Int := bif decide (r.2 ≠ 0) then ([], r.2) else bif decide (((r.1.length : Nat) : Int) < 1) then ([], 13) else bif decide (48 < ((r.1.length : Nat) : Int)) then ([], 13) else (r.1, 0)
mutual
def nodeF (inn : List (List Int)) : Pl → List Int × Int
  | .mk op int kinds rows pred exprs keys aggs inputs => bif decide (inpF op < 0) then ([], 7) else bif decide (inpF op ≠ (inputs.length : Nat)) then ([], 8) else match nodesF inn inputs [] with
    | .inr e => ([], e)
    | .inl sub => finF (opF inn sub op int kinds rows pred exprs keys aggs)
def nodesF (inn : List (List Int)) : List Pl → List (List Int) → Sum (List (List Int)) Int
  | [], acc => .inl acc
  | x :: l, acc => bif decide ((nodeF inn x).2 ≠ 0) then .inr (nodeF inn x).2 else nodesF inn l (acc ++ [(nodeF inn x).1])
end
theorem finF_len (r : List Int × Int) : (finF r).1.length ≤ 48 := by
  unfold finF
  cases decide (r.2 ≠ 0) with
  | true => exact Nat.zero_le _
  | false =>
    simp only [cond_false]
    cases decide (((r.1.length : Nat) : Int) < 1) with
    | true => exact Nat.zero_le _
    | false =>
      simp only [cond_false]
      cases h : decide (48 < ((r.1.length : Nat) : Int)) with
      | true => exact Nat.zero_le _
      | false =>
        have := of_decide_eq_false h
        simp only [cond_false]; omega
theorem nodeF_len (inn : List (List Int)) (p : Pl) : (nodeF inn p).1.length ≤ 48 := by
  obtain ⟨op, int, kinds, rows, pred, exprs, keys, aggs, inputs⟩ := p
  rw [nodeF]
  cases decide (inpF op < 0) with
  | true => exact Nat.zero_le _
  | false =>
    simp only [cond_false]
    cases decide (inpF op ≠ (inputs.length : Nat)) with
    | true => exact Nat.zero_le _
    | false =>
      simp only [cond_false]
      cases nodesF inn inputs [] with
      | inr e => exact Nat.zero_le _
      | inl sub => exact finF_len _
/-- A plan whose lists are short and whose expressions are not deep. -/
inductive Pl.Bd : Pl → Prop
  | mk {op int : Int} {kinds : List Int} {rows : List (List Val)} {pred : Ex} {exprs : List Ex} {keys : List Int} {aggs : List Ag} {inputs : List Pl} (hS : (Pl.mk op int kinds rows pred exprs keys aggs inputs).Sm) (hd : dpt pred ≤ 1000000) (hde : ∀ e ∈ exprs, dpt e ≤ 1000000) (hs : ∀ x ∈ inputs, Pl.Bd x) : Pl.Bd (.mk op int kinds rows pred exprs keys aggs inputs)
theorem Pl.Bd.sm {p : Pl} (h : p.Bd) : p.Sm := by cases h with | mk hS _ _ _ => exact hS
def stN (rec : Pl → Option (List Int × Int)) (acc : List (List Int)) (x : Pl) : Option (Sum (List (List Int)) (List Int × Int)) :=
  (rec x).bind fun r => bif decide (r.2 ≠ 0) then some (.inr ([], r.2)) else bif decide (acc.length + 1 ≤ 549755813888) then some (.inl (acc ++ [r.1])) else none
def restN (G : List (List Int) → List Int × Int) : Sum (List (List Int)) Int → List Int × Int
  | .inr e => ([], e)
  | .inl sub => G sub
theorem nodes_fold {inn : List (List Int)} {rec : Pl → Option (List Int × Int)} {K : Sum (List (List Int) × Int) (List Int × Int) → Option (List Int × Int)} {G : List (List Int) → List Int × Int} (n N : Nat) (hN : N ≤ 100000) (hK1 : ∀ sub, sub.length = N → (∀ x ∈ sub, x.length ≤ 50000) → K (.inl (sub, (n : Int))) = some (G sub)) (hK2 : ∀ q, K (.inr q) = some q) :
    ∀ (l : List Pl) (acc : List (List Int)), (∀ x ∈ l, rec x = some (nodeF inn x)) → acc.length + l.length = N → (∀ x ∈ acc, x.length ≤ 50000) → (foldR (fun a i => (a, i)) n (foldS (stN rec) acc l)).bind K = some (restN G (nodesF inn l acc))
  | [], acc, _, hl, ha => by rw [nodesF]; exact hK1 acc (by simpa using hl) ha
  | x :: l, acc, h, hl, ha => by
    rw [List.length_cons] at hl
    rw [foldS, nodesF]
    unfold stN
    rw [h x (by simp), Option.bind_some]
    cases decide ((nodeF inn x).2 ≠ 0) with
    | true => exact hK2 _
    | false =>
      simp only [cond_false]
      rw [decide_eq_true (show acc.length + 1 ≤ 549755813888 by omega)]
      refine nodes_fold n N hN hK1 hK2 l (acc ++ [(nodeF inn x).1]) (fun y hy => h y (by simp [hy])) (by simp; omega) ?_
      intro y hy
      rcases List.mem_append.1 hy with hy | hy
      · exact ha y hy
      · simp only [List.mem_cons, List.not_mem_nil, or_false] at hy
        subst hy
        have := nodeF_len inn x
        omega
theorem nodes_step {b : Bool} {α : Type} {x y z : α} {f : Nat} : True := trivial
section
variable {inn : List (List Int)} {op int : Int} {kinds : List Int} {rows : List (List Val)} {pred : Ex} {exprs : List Ex} {keys : List Int} {aggs : List Ag} {inputs : List Pl}
theorem result_eq {k : List (List Int)} (hB : (Pl.mk op int kinds rows pred exprs keys aggs inputs).Bd) (hin : ∀ x ∈ inn, x.length ≤ 1000000) (hk : ∀ x ∈ k, x.length ≤ 50000) (hn : ((k.length : Nat) : Int) = inpF op) :
    ∃ q, gResultR (.mk op int kinds rows pred exprs keys aggs inputs) inn k = some q ∧ q.2 = (opF inn k op int kinds rows pred exprs keys aggs).2 ∧ (q.2 = 0 → q.1 = (opF inn k op int kinds rows pred exprs keys aggs).1) := by
  cases hB with
  | mk hS hd hde _ =>
    cases hS with
    | mk _ _ hp hx hxs hy ha _ _ =>
      have hsc := fun (p : Pl) => @scan_eq p inn hin
      rcases inpF_ops (op := op) (by omega) with rfl | rfl | rfl | rfl | rfl | rfl | rfl | rfl | rfl | rfl | rfl
      · refine ⟨scanF inn int, ?_, rfl, fun _ => rfl⟩
        unfold gResultR
        rw [hsc]
        rfl
      · refine ⟨valRF kinds rows, rfl, ?_, ?_⟩
        · show (valRF kinds rows).2 = valF kinds rows
          unfold valRF
          cases h : decide (valF kinds rows = 0) with
          | true => rw [of_decide_eq_true h]; rfl
          | false => rfl
        · intro h0
          show (valRF kinds rows).1 = kinds
          unfold valRF at h0 ⊢
          cases h : decide (valF kinds rows = 0) with
          | true => rfl
          | false => rw [h] at h0; exact absurd h0 (of_decide_eq_false h)
      · match k, hn, hk with
        | [a], _, hk =>
          refine ⟨(a, predF a pred), ?_, rfl, fun _ => rfl⟩
          have := hk a (by simp)
          show ((gPredR pred a).bind fun r_15 => some (a, r_15)) = _
          rw [pred_eq (by omega) hp hd]; rfl
        | [], h, _ => exact absurd h (by decide)
        | _ :: _ :: _, h, _ => exact absurd h (by rw [show inpF 3 = 1 from by decide]; simp; omega)
      · match k, hn, hk with
        | [a], _, hk =>
          refine ⟨projF a exprs [], ?_, rfl, fun _ => rfl⟩
          have := hk a (by simp)
          show ((gProjR a exprs).bind fun r_7 => some (r_7.1, r_7.2)) = _
          rw [proj_eq (by omega) exprs hx (fun e he => ⟨hxs e he, hde e he⟩)]; rfl
        | [], h, _ => exact absurd h (by decide)
        | _ :: _ :: _, h, _ => exact absurd h (by rw [show inpF 4 = 1 from by decide]; simp; omega)
      all_goals first
        | (match k, hn, hk with
            | [a, b], _, hk =>
              refine ⟨(a ++ b, predF (a ++ b) pred), ?_, rfl, fun _ => rfl⟩
              have h1 := hk a (by simp)
              have h2 := hk b (by simp)
              show ((gJoined a b).bind fun r_19 => (gPredR pred r_19).bind fun r_20 => some (r_19, r_20)) = _
              rw [joined_eq (by omega) (by omega), Option.bind_some, pred_eq (by rw [List.length_append]; omega) hp hd]; rfl
            | [], h, _ => exact absurd h (by decide)
            | [_], h, _ => exact absurd h (by simp [inpF, inL])
            | _ :: _ :: _ :: _, h, _ => exact absurd h (by simp [inpF, inL]; omega))
        | (match k, hn, hk with
            | [a, b], _, hk =>
              have h1 := hk a (by simp)
              have hs : gSameK a b = some (decide (a = b)) := by unfold gSameK; rw [decide_eq_true (show a.length ≤ 1000000 by omega)]; rfl
              have hg : ∀ q, (bif decide (((a.length : Nat) : Int) ≠ ((b.length : Nat) : Int)) then some ([], (13 : Int)) else (gSameK a b).bind fun r_29 => bif (!r_29) then some ([], (7 : Int)) else some (a, (0 : Int))) = some q → (q.2 = eqK a b ∧ (q.2 = 0 → q.1 = a)) := by
                intro q hq
                rw [hs, Option.bind_some] at hq
                unfold eqK
                by_cases hl : a.length = b.length
                · rw [show decide (((a.length : Nat) : Int) ≠ ((b.length : Nat) : Int)) = false by simp [hl], cond_false] at hq
                  rw [show decide (a.length ≠ b.length) = false by simp [hl], cond_false]
                  cases h : decide (a = b) with
                  | true => rw [h] at hq; obtain rfl := Option.some.inj hq; exact ⟨rfl, fun _ => rfl⟩
                  | false => rw [h] at hq; obtain rfl := Option.some.inj hq; exact ⟨rfl, fun e => absurd e (by decide)⟩
                · rw [show decide (((a.length : Nat) : Int) ≠ ((b.length : Nat) : Int)) = true by simp; omega, cond_true] at hq
                  rw [show decide (a.length ≠ b.length) = true by simp [hl], cond_true]
                  obtain rfl := Option.some.inj hq
                  exact ⟨rfl, fun e => absurd e (by decide)⟩
              have hex : ∃ q, (bif decide (((a.length : Nat) : Int) ≠ ((b.length : Nat) : Int)) then some ([], (13 : Int)) else (gSameK a b).bind fun r_29 => bif (!r_29) then some ([], (7 : Int)) else some (a, (0 : Int))) = some q := by
                rw [hs]
                cases decide (((a.length : Nat) : Int) ≠ ((b.length : Nat) : Int)) <;> cases decide (a = b) <;> exact ⟨_, rfl⟩
              obtain ⟨q, hq⟩ := hex
              exact ⟨q, hq, (hg q hq).1, (hg q hq).2⟩
            | [], h, _ => exact absurd h (by decide)
            | [_], h, _ => exact absurd h (by simp [inpF, inL])
            | _ :: _ :: _ :: _, h, _ => exact absurd h (by simp [inpF, inL]; omega))
        | (match k, hn, hk with
            | [a], _, hk => exact ⟨(a, 0), rfl, rfl, fun _ => rfl⟩
            | [], h, _ => exact absurd h (by decide)
            | _ :: _ :: _, h, _ => exact absurd h (by simp [inpF, inL]; omega))
        | (match k, hn, hk with
            | [a], _, hk =>
              refine ⟨grpF a keys aggs, ?_, rfl, fun _ => rfl⟩
              show ((gGroupedR a keys aggs).bind fun r_10 => some (r_10.1, r_10.2)) = _
              rw [grouped_eq hy ha]; rfl
            | [], h, _ => exact absurd h (by decide)
            | _ :: _ :: _, h, _ => exact absurd h (by simp [inpF, inL]; omega))
end
end Go.Proofs.YtfpbmfalamappaaGreatDoor

namespace Go.Proofs.YtfpbmfalamappaaGreatDoor
open Go.RowKit Go.MapKept
inductive Ex.Tx : Ex → Prop
  | mk {op n : Int} {v : Val} {nm : ByteArray} {args : List Ex} (ht : v.text.size ≤ 9223372036854775807) (ha : ∀ x ∈ args, Ex.Tx x) : Ex.Tx (.mk op n v nm args)
inductive Pl.Tx : Pl → Prop
  | mk {op int : Int} {kinds : List Int} {rows : List (List Val)} {pred : Ex} {exprs : List Ex} {keys : List Int} {aggs : List Ag} {inputs : List Pl} (hp : pred.Tx) (hx : ∀ e ∈ exprs, e.Tx) (hs : ∀ x ∈ inputs, Pl.Tx x) : Pl.Tx (.mk op int kinds rows pred exprs keys aggs inputs)
theorem addr_add (b o n : Nat) : (⟨b, o, none⟩ : Addr).add n = ⟨b, o + n, none⟩ := by
  unfold Addr.add
  split <;> simp_all
/-- The cells of a world, as they are. -/
def RW (W : World) : PH := fun b o => W.cell? ⟨b, o, none⟩
/-- Cells that read as trees. -/
def CR (W : World) (cs : List Value) (es : List AC) : Prop := cs.length = es.length ∧ ∀ (j : Nat) u x, cs[j]? = some u → es[j]? = some x → PRep (RW W) u x
theorem CR.app {W : World} {c1 c2 : List Value} {e1 e2 : List AC} (h1 : CR W c1 e1) (h2 : CR W c2 e2) : CR W (c1 ++ c2) (e1 ++ e2) := by
  refine ⟨by rw [List.length_append, List.length_append, h1.1, h2.1], fun j u x hu hx => ?_⟩
  have hl := h1.1
  by_cases hj : j < c1.length
  · rw [List.getElem?_append_left hj] at hu
    rw [List.getElem?_append_left (by omega)] at hx
    exact h1.2 j u x hu hx
  · rw [List.getElem?_append_right (by omega)] at hu
    rw [List.getElem?_append_right (by omega), ← hl] at hx
    exact h2.2 _ u x hu hx
theorem CR.one {W : World} {v : Value} {e : AC} (h : PRep (RW W) v e) : CR W [v] [e] := by
  refine ⟨rfl, fun j u x hu hx => ?_⟩
  match j, hu, hx with
  | 0, hu, hx => simp at hu hx; subst hu hx; exact h
  | j + 1, hu, hx => simp at hu
section
variable {H : Type} {enc : TypeId × Value → H} {W : World} {base : Nat} {spare : Nat → Bool} {held : Bool}
theorem read_int {t : TypeId} (ht : Tryz.prog.underlying t = some (.int .i64)) {cs : List Value} {fuel : Nat} {x : DataW H × List MemPlace} (h : DataW.trod enc Tryz.prog W base spare held fuel t cs = some x) : ∃ n : Int, CR W cs [.int .i64 n] := by
  obtain ⟨n, rfl, _, _⟩ := DataW.trod_int ht h
  exact ⟨n, CR.one (.int _ _)⟩
theorem read_str {t : TypeId} (ht : Tryz.prog.underlying t = some .string) {cs : List Value} {fuel : Nat} {x : DataW H × List MemPlace} (h : DataW.trod enc Tryz.prog W base spare held fuel t cs = some x) : ∃ s : ByteArray, CR W cs [.str s] ∧ s.size ≤ 9223372036854775807 := by
  obtain ⟨s, rfl, _, hs⟩ := DataW.trod_string ht h
  exact ⟨s, CR.one (.str _), hs⟩
theorem read_slice {α : Type} {t e : TypeId} {k : Nat} {f : α → List AC} {Q : α → Prop} (ht : Tryz.prog.underlying t = some (.slice e)) (hk : Tryz.prog.cellsOf e = k) (hk0 : 0 < k) (hf : ∀ x, (f x).length = k) {cs : List Value} {fuel : Nat} {x : DataW H × List MemPlace} (h : DataW.trod enc Tryz.prog W base spare held fuel t cs = some x)
    (hr : ∀ (fuel' : Nat) (cs' : List Value) (x' : DataW H × List MemPlace), fuel' < fuel → DataW.trod enc Tryz.prog W base spare held fuel' e cs' = some x' → ∃ a, CR W cs' (f a) ∧ Q a) : ∃ l : List α, CR W cs [.lst (l.map f)] ∧ ∀ a ∈ l, Q a := by
  rcases DataW.trod_slice ht h with ⟨rfl, _⟩ | ⟨a, len, cap, elems, rest, n, hfu, rfl, _, _, hlc, hm, hel, hx, _, _⟩
  · exact ⟨[], CR.one (prep_nil _ _ _), fun a ha => by cases ha⟩
  · have hi : ∀ i, i < len → ∃ y, (∃ cs', W.cells? base (a.add (i * k)) k = some cs' ∧ CR W cs' (f y)) ∧ Q y := by
      intro i hlt
      have h1 := hx i hlt
      rw [List.getElem?_eq_getElem (by omega), hk] at h1
      cases hc : W.cells? base (a.add (i * k)) k with
      | none => rw [hc] at h1; cases h1
      | some cs' => rw [hc] at h1; obtain ⟨y, h2, h3⟩ := hr n cs' _ (by omega) h1; exact ⟨y, ⟨cs', rfl, h2⟩, h3⟩
    rcases Nat.eq_zero_or_pos len with h0 | h0
    · subst h0; exact ⟨[], CR.one (prep_nil _ _ _), fun a ha => by cases ha⟩
    · obtain ⟨y0, ⟨cs0, hc0, _⟩, _⟩ := hi 0 h0
      let g : Nat → α := fun i => if h : i < len then Classical.choose (hi i h) else y0
      have hg : ∀ i, i < len → (∃ cs', W.cells? base (a.add (i * k)) k = some cs' ∧ CR W cs' (f (g i))) ∧ Q (g i) := by
        intro i hlt
        have : g i = Classical.choose (hi i hlt) := by simp [g, hlt]
        rw [this]
        exact Classical.choose_spec (hi i hlt)
      obtain ⟨b, off, spot⟩ := a
      have hs0 : spot = none := by
        obtain ⟨_, hl, hat⟩ := World.cells?_some hc0
        have h1 := hat 0 hk0
        rw [List.getElem?_eq_getElem (by omega)] at h1
        have := World.cell?_spot h1
        simpa [Addr.add] using this
      subst hs0
      refine ⟨(List.range len).map g, CR.one ?_, ?_⟩
      · have cell : ∀ i, i < len → ∀ j, j < k → ∃ u y, W.cell? ⟨b, off + (i * k + j), none⟩ = some u ∧ (f (g i))[j]? = some y ∧ PRep (RW W) u y := by
          intro i hlt j hj
          obtain ⟨⟨cs', hc, hcr⟩, _⟩ := hg i hlt
          obtain ⟨_, hl, hat⟩ := World.cells?_some hc
          have h1 := hat j hj
          rw [List.getElem?_eq_getElem (by omega)] at h1
          have hfl := hf (g i)
          refine ⟨_, _, ?_, List.getElem?_eq_getElem (by omega), hcr.2 j _ _ (List.getElem?_eq_getElem (by omega)) (List.getElem?_eq_getElem (by omega))⟩
          rw [addr_add, addr_add, Nat.add_assoc] at h1
          exact h1
        refine .lst (some ⟨b, off, none⟩) len cap _ k (fun j => (W.cell? ⟨b, off + j, none⟩).getD (.bool false)) b off (by simp) hlc ?_ (fun _ => rfl) ?_ ?_
        · intro e he
          simp only [List.map_map, List.mem_map] at he
          obtain ⟨i, _, rfl⟩ := he
          exact hf _
        · intro j hj
          have hd : j / k < len := by rw [Nat.div_lt_iff_lt_mul hk0]; exact hj
          obtain ⟨u, y, h1, _, _⟩ := cell (j / k) hd (j % k) (Nat.mod_lt _ hk0)
          have hjj : j / k * k + j % k = j := by rw [Nat.mul_comm]; exact Nat.div_add_mod j k
          rw [hjj] at h1
          show W.cell? _ = _
          rw [h1]; rfl
        · intro i e j x he hxx
          have hlt : i < len := by have := (List.getElem?_eq_some_iff.1 he).1; simpa using this
          have : e = f (g i) := by simp [hlt] at he; exact he.symm
          subst this
          have hj : j < k := by have := (List.getElem?_eq_some_iff.1 hxx).1; rw [hf] at this; exact this
          obtain ⟨u, y, h1, h2, h3⟩ := cell i hlt j hj
          rw [h2] at hxx
          obtain rfl := Option.some.inj hxx
          rw [h1]; exact h3
      · intro a ha
        simp only [List.mem_map, List.mem_range] at ha
        obtain ⟨i, hlt, rfl⟩ := ha
        exact (hg i hlt).2
end
end Go.Proofs.YtfpbmfalamappaaGreatDoor

namespace Go.Proofs.YtfpbmfalamappaaGreatDoor
open Go.RowKit Go.MapKept
set_option maxRecDepth 100000
theorem list2 {α : Type} : ∀ {l : List α}, l.length = 2 → ∃ c0 c1, l = [c0, c1]
  | [c0, c1], _ => ⟨c0, c1, rfl⟩
theorem list3 {α : Type} : ∀ {l : List α}, l.length = 3 → ∃ c0 c1 c2, l = [c0, c1, c2]
  | [c0, c1, c2], _ => ⟨c0, c1, c2, rfl⟩
theorem list7 {α : Type} : ∀ {l : List α}, l.length = 7 → ∃ c0 c1 c2 c3 c4 c5 c6, l = [c0, c1, c2, c3, c4, c5, c6]
  | [c0, c1, c2, c3, c4, c5, c6], _ => ⟨c0, c1, c2, c3, c4, c5, c6, rfl⟩
theorem list15 {α : Type} : ∀ {l : List α}, l.length = 15 → ∃ c0 c1 c2 c3 c4 c5 c6 c7 c8 c9 c10 c11 c12 c13 c14, l = [c0, c1, c2, c3, c4, c5, c6, c7, c8, c9, c10, c11, c12, c13, c14]
  | [c0, c1, c2, c3, c4, c5, c6, c7, c8, c9, c10, c11, c12, c13, c14], _ => ⟨c0, c1, c2, c3, c4, c5, c6, c7, c8, c9, c10, c11, c12, c13, c14, rfl⟩
section
variable {H : Type} {enc : TypeId × Value → H} {W : World} {base : Nat} {spare : Nat → Bool} {held : Bool}
theorem fld {fs : Array Field} {n : Nat} {cs : List Value} {xs : List (DataW H × List MemPlace)} (hl : xs.length = fs.size) (hf : ∀ (i : Nat) (f : Field), fs[i]? = some f → DataW.trod enc Tryz.prog W base spare held n f.type ((cs.drop f.offset).take (Tryz.prog.cellsOf f.type)) = xs[i]?)
    (i : Nat) {f : Field} {t o k : Nat} (hi : fs[i]? = some f) (h1 : f.type = t) (h2 : f.offset = o) (h3 : Tryz.prog.cellsOf t = k) : ∃ y, DataW.trod enc Tryz.prog W base spare held n t ((cs.drop o).take k) = some y := by
  have hlt : i < fs.size := (Array.getElem?_eq_some_iff.1 hi).1
  have := hf i f hi
  rw [h1, h2, h3, List.getElem?_eq_getElem (by omega)] at this
  exact ⟨_, this⟩
theorem cells1 : Tryz.prog.cellsOf 3 = 1 := by kernel_rfl
theorem cellsS : Tryz.prog.cellsOf 9 = 1 := by kernel_rfl
theorem read_val : ∀ (fuel : Nat) {cs : List Value} {x : DataW H × List MemPlace}, DataW.trod enc Tryz.prog W base spare held fuel 25 cs = some x → ∃ a : Val, CR W cs (cV a) ∧ a.text.size ≤ 9223372036854775807 := by
  intro fuel
  intro cs x h
  obtain ⟨xs, n, hfu, _, hlen, hxs, hf⟩ := DataW.trod_struct Tryz.underlying25 h
  rw [show Tryz.prog.cellsOf 25 = 3 by kernel_rfl] at hlen
  obtain ⟨c0, c1, c2, rfl⟩ := list3 hlen
  obtain ⟨y0, h0⟩ := fld hxs hf 0 (t := 3) (o := 0) (k := 1) rfl rfl rfl (by kernel_rfl)
  replace h0 : DataW.trod enc Tryz.prog W base spare held n 3 [c0] = some y0 := h0
  obtain ⟨a, r_a⟩ := read_int Tryz.underlying3 h0
  obtain ⟨y1, h1⟩ := fld hxs hf 1 (t := 3) (o := 1) (k := 1) rfl rfl rfl (by kernel_rfl)
  replace h1 : DataW.trod enc Tryz.prog W base spare held n 3 [c1] = some y1 := h1
  obtain ⟨b, r_b⟩ := read_int Tryz.underlying3 h1
  obtain ⟨y2, h2⟩ := fld hxs hf 2 (t := 9) (o := 2) (k := 1) rfl rfl rfl (by kernel_rfl)
  replace h2 : DataW.trod enc Tryz.prog W base spare held n 9 [c2] = some y2 := h2
  obtain ⟨c, r_c, t_c⟩ := read_str Tryz.underlying9 h2
  exact ⟨⟨a, b, c⟩, ((r_a.app r_b).app r_c), t_c⟩
theorem read_agg : ∀ (fuel : Nat) {cs : List Value} {x : DataW H × List MemPlace}, DataW.trod enc Tryz.prog W base spare held fuel 48 cs = some x → ∃ a : Ag, CR W cs (cA a) := by
  intro fuel
  intro cs x h
  obtain ⟨xs, n, hfu, _, hlen, hxs, hf⟩ := DataW.trod_struct Tryz.underlying48 h
  rw [show Tryz.prog.cellsOf 48 = 2 by kernel_rfl] at hlen
  obtain ⟨c0, c1, rfl⟩ := list2 hlen
  obtain ⟨y0, h0⟩ := fld hxs hf 0 (t := 3) (o := 0) (k := 1) rfl rfl rfl (by kernel_rfl)
  replace h0 : DataW.trod enc Tryz.prog W base spare held n 3 [c0] = some y0 := h0
  obtain ⟨a, r_a⟩ := read_int Tryz.underlying3 h0
  obtain ⟨y1, h1⟩ := fld hxs hf 1 (t := 3) (o := 1) (k := 1) rfl rfl rfl (by kernel_rfl)
  replace h1 : DataW.trod enc Tryz.prog W base spare held n 3 [c1] = some y1 := h1
  obtain ⟨b, r_b⟩ := read_int Tryz.underlying3 h1
  exact ⟨(a, b), (r_a.app r_b)⟩
theorem read_ints {cs : List Value} {fuel : Nat} {x : DataW H × List MemPlace} (h : DataW.trod enc Tryz.prog W base spare held fuel 22 cs = some x) : ∃ l : List Int, CR W cs [.lst (l.map (fun x => [AC.int .i64 x]))] := by
  obtain ⟨l, h1, _⟩ := read_slice (k := 1) (Q := fun _ => True) Tryz.underlying22 (by kernel_rfl) (by decide) (fun _ => rfl) h (fun f c x _ h => by obtain ⟨n, hn⟩ := read_int Tryz.underlying3 h; exact ⟨n, hn, trivial⟩)
  exact ⟨l, h1⟩
theorem read_intss {cs : List Value} {fuel : Nat} {x : DataW H × List MemPlace} (h : DataW.trod enc Tryz.prog W base spare held fuel 33 cs = some x) : ∃ l : List (List Int), CR W cs [.lst (l.map (fun x => [AC.lst (x.map (fun x => [AC.int .i64 x]))]))] := by
  obtain ⟨l, h1, _⟩ := read_slice (k := 1) (Q := fun _ => True) (f := fun x : List Int => [AC.lst (x.map (fun x => [AC.int .i64 x]))]) Tryz.underlying33 (by kernel_rfl) (by decide) (fun _ => rfl) h (fun f c x _ h => by obtain ⟨n, hn⟩ := read_ints h; exact ⟨n, hn, trivial⟩)
  exact ⟨l, h1⟩
theorem read_row {cs : List Value} {fuel : Nat} {x : DataW H × List MemPlace} (h : DataW.trod enc Tryz.prog W base spare held fuel 49 cs = some x) : ∃ l : List Val, CR W cs [.lst (l.map cV)] ∧ ∀ v ∈ l, v.text.size ≤ 9223372036854775807 :=
  read_slice (k := 3) (f := cV) Tryz.underlying49 (by kernel_rfl) (by decide) (fun _ => rfl) h (fun f c x _ h => read_val f h)
theorem read_rows {cs : List Value} {fuel : Nat} {x : DataW H × List MemPlace} (h : DataW.trod enc Tryz.prog W base spare held fuel 23 cs = some x) : ∃ l : List (List Val), CR W cs [.lst (l.map (fun x => [AC.lst (x.map cV)]))] ∧ ∀ r ∈ l, ∀ v ∈ r, v.text.size ≤ 9223372036854775807 :=
  read_slice (k := 1) (f := fun x : List Val => [AC.lst (x.map cV)]) Tryz.underlying23 (by kernel_rfl) (by decide) (fun _ => rfl) h (fun f c x _ h => read_row h)
theorem read_aggs {cs : List Value} {fuel : Nat} {x : DataW H × List MemPlace} (h : DataW.trod enc Tryz.prog W base spare held fuel 29 cs = some x) : ∃ l : List Ag, CR W cs [.lst (l.map cA)] := by
  obtain ⟨l, h1, _⟩ := read_slice (k := 2) (Q := fun _ => True) (f := cA) Tryz.underlying29 (by kernel_rfl) (by decide) (fun _ => rfl) h (fun f c x _ h => by obtain ⟨n, hn⟩ := read_agg f h; exact ⟨n, hn, trivial⟩)
  exact ⟨l, h1⟩
theorem read_ex : ∀ (fuel : Nat) {cs : List Value} {x : DataW H × List MemPlace}, DataW.trod enc Tryz.prog W base spare held fuel 28 cs = some x → ∃ a : Ex, CR W cs (tE a) ∧ a.Tx := by
  intro fuel
  induction fuel using Nat.strongRecOn with
  | ind fuel ih =>
  intro cs x h
  obtain ⟨xs, n, hfu, _, hlen, hxs, hf⟩ := DataW.trod_struct Tryz.underlying28 h
  rw [show Tryz.prog.cellsOf 28 = 7 by kernel_rfl] at hlen
  obtain ⟨c0, c1, c2, c3, c4, c5, c6, rfl⟩ := list7 hlen
  obtain ⟨y0, h0⟩ := fld hxs hf 0 (t := 3) (o := 0) (k := 1) rfl rfl rfl (by kernel_rfl)
  replace h0 : DataW.trod enc Tryz.prog W base spare held n 3 [c0] = some y0 := h0
  obtain ⟨a, r_a⟩ := read_int Tryz.underlying3 h0
  obtain ⟨y1, h1⟩ := fld hxs hf 1 (t := 3) (o := 1) (k := 1) rfl rfl rfl (by kernel_rfl)
  replace h1 : DataW.trod enc Tryz.prog W base spare held n 3 [c1] = some y1 := h1
  obtain ⟨b, r_b⟩ := read_int Tryz.underlying3 h1
  obtain ⟨y2, h2⟩ := fld hxs hf 2 (t := 25) (o := 2) (k := 3) rfl rfl rfl (by kernel_rfl)
  replace h2 : DataW.trod enc Tryz.prog W base spare held n 25 [c2, c3, c4] = some y2 := h2
  obtain ⟨v, r_v, t_v⟩ := read_val n h2
  obtain ⟨y3, h3⟩ := fld hxs hf 3 (t := 9) (o := 5) (k := 1) rfl rfl rfl (by kernel_rfl)
  replace h3 : DataW.trod enc Tryz.prog W base spare held n 9 [c5] = some y3 := h3
  obtain ⟨m, r_m, t_m⟩ := read_str Tryz.underlying9 h3
  obtain ⟨y4, h4⟩ := fld hxs hf 4 (t := 26) (o := 6) (k := 1) rfl rfl rfl (by kernel_rfl)
  replace h4 : DataW.trod enc Tryz.prog W base spare held n 26 [c6] = some y4 := h4
  obtain ⟨l, r_l, q_l⟩ := read_slice (k := 7) (f := tE) (Q := Ex.Tx) Tryz.underlying26 (by kernel_rfl) (by decide) tE_len h4 (fun f c x hlt h => ih f (by omega) h)
  exact ⟨.mk a b v m l, (by rw [tE_mk]; exact ((((r_a.app r_b).app r_v).app r_m).app r_l)), .mk t_v q_l⟩
theorem read_pl : ∀ (fuel : Nat) {cs : List Value} {x : DataW H × List MemPlace}, DataW.trod enc Tryz.prog W base spare held fuel 32 cs = some x → ∃ a : Pl, CR W cs (tP a) ∧ a.Tx := by
  intro fuel
  induction fuel using Nat.strongRecOn with
  | ind fuel ih =>
  intro cs x h
  obtain ⟨xs, n, hfu, _, hlen, hxs, hf⟩ := DataW.trod_struct Tryz.underlying32 h
  rw [show Tryz.prog.cellsOf 32 = 15 by kernel_rfl] at hlen
  obtain ⟨c0, c1, c2, c3, c4, c5, c6, c7, c8, c9, c10, c11, c12, c13, c14, rfl⟩ := list15 hlen
  obtain ⟨y0, h0⟩ := fld hxs hf 0 (t := 3) (o := 0) (k := 1) rfl rfl rfl (by kernel_rfl)
  replace h0 : DataW.trod enc Tryz.prog W base spare held n 3 [c0] = some y0 := h0
  obtain ⟨a, r_a⟩ := read_int Tryz.underlying3 h0
  obtain ⟨y1, h1⟩ := fld hxs hf 1 (t := 3) (o := 1) (k := 1) rfl rfl rfl (by kernel_rfl)
  replace h1 : DataW.trod enc Tryz.prog W base spare held n 3 [c1] = some y1 := h1
  obtain ⟨b, r_b⟩ := read_int Tryz.underlying3 h1
  obtain ⟨y2, h2⟩ := fld hxs hf 2 (t := 22) (o := 2) (k := 1) rfl rfl rfl (by kernel_rfl)
  replace h2 : DataW.trod enc Tryz.prog W base spare held n 22 [c2] = some y2 := h2
  obtain ⟨k, r_k⟩ := read_ints h2
  obtain ⟨y3, h3⟩ := fld hxs hf 3 (t := 23) (o := 3) (k := 1) rfl rfl rfl (by kernel_rfl)
  replace h3 : DataW.trod enc Tryz.prog W base spare held n 23 [c3] = some y3 := h3
  obtain ⟨w, r_w, t_w⟩ := read_rows h3
  obtain ⟨y4, h4⟩ := fld hxs hf 4 (t := 28) (o := 4) (k := 7) rfl rfl rfl (by kernel_rfl)
  replace h4 : DataW.trod enc Tryz.prog W base spare held n 28 [c4, c5, c6, c7, c8, c9, c10] = some y4 := h4
  obtain ⟨p, r_p, t_p⟩ := read_ex n h4
  obtain ⟨y5, h5⟩ := fld hxs hf 5 (t := 26) (o := 11) (k := 1) rfl rfl rfl (by kernel_rfl)
  replace h5 : DataW.trod enc Tryz.prog W base spare held n 26 [c11] = some y5 := h5
  obtain ⟨e, r_e, q_e⟩ := read_slice (k := 7) (f := tE) (Q := Ex.Tx) Tryz.underlying26 (by kernel_rfl) (by decide) tE_len h5 (fun f c x hlt h => read_ex f h)
  obtain ⟨y6, h6⟩ := fld hxs hf 6 (t := 22) (o := 12) (k := 1) rfl rfl rfl (by kernel_rfl)
  replace h6 : DataW.trod enc Tryz.prog W base spare held n 22 [c12] = some y6 := h6
  obtain ⟨y, r_y⟩ := read_ints h6
  obtain ⟨y7, h7⟩ := fld hxs hf 7 (t := 29) (o := 13) (k := 1) rfl rfl rfl (by kernel_rfl)
  replace h7 : DataW.trod enc Tryz.prog W base spare held n 29 [c13] = some y7 := h7
  obtain ⟨g, r_g⟩ := read_aggs h7
  obtain ⟨y8, h8⟩ := fld hxs hf 8 (t := 30) (o := 14) (k := 1) rfl rfl rfl (by kernel_rfl)
  replace h8 : DataW.trod enc Tryz.prog W base spare held n 30 [c14] = some y8 := h8
  obtain ⟨l, r_l, q_l⟩ := read_slice (k := 15) (f := tP) (Q := Pl.Tx) Tryz.underlying30 (by kernel_rfl) (by decide) tP_len h8 (fun f c x hlt h => ih f (by omega) h)
  exact ⟨.mk a b k w p e y g l, (by rw [tP_eq]; rw [tE_eq] at r_p; exact ((((((((r_a.app r_b).app r_k).app r_w).app r_p).app r_e).app r_y).app r_g).app r_l)), .mk t_p q_e q_l⟩
end
end Go.Proofs.YtfpbmfalamappaaGreatDoor

namespace Go.Proofs.YtfpbmfalamappaaGreatDoor
open Go.RowKit Go.MapKept
section
variable {inn : List (List Int)} {op int : Int} {kinds : List Int} {rows : List (List Val)} {pred : Ex} {exprs : List Ex} {keys : List Int} {aggs : List Ag} {inputs : List Pl}
theorem nodeB_eq {rec : Pl → List (List Int) → Option (List Int × Int)} (hB : (Pl.mk op int kinds rows pred exprs keys aggs inputs).Bd) (hin : ∀ x ∈ inn, x.length ≤ 1000000) (hrec : ∀ x ∈ inputs, rec x inn = some (nodeF inn x)) : gNodeB rec (.mk op int kinds rows pred exprs keys aggs inputs) inn = some (nodeF inn (.mk op int kinds rows pred exprs keys aggs inputs)) := by
  have hil : inputs.length ≤ 100000 := by cases hB with | mk hS _ _ _ => cases hS with | mk _ _ _ _ _ _ _ hi _ => exact hi
  unfold gNodeB
  rw [nodeF]
  show (bif decide (inpF op < 0) then some ([], 7) else bif decide (((inputs.length : Nat) : Int) ≠ inpF op) then some ([], 8) else _) = _
  cases decide (inpF op < 0) with
  | true => rfl
  | false =>
    simp only [cond_false]
    by_cases he : inpF op = (inputs.length : Nat)
    · rw [show decide (((inputs.length : Nat) : Int) ≠ inpF op) = false by simp [he], show decide (inpF op ≠ (inputs.length : Nat)) = false by simp [he], cond_false, cond_false]
      have := loop_list (l := inputs) (body := gNodeB_B1 (.mk op int kinds rows pred exprs keys aggs inputs) inn rec) (fun (a : List (List Int)) i => (a, i)) (stN fun x => rec x inn)
        (fun s i x hx => by
          have hlt := (List.getElem?_eq_some_iff.1 hx).1
          unfold gNodeB_B1
          show (bif decide ((i : Int) < inpF op) then (getI inputs (i : Int)).bind _ else _) = _
          rw [he, lt_dec hx, cond_true, getI_nat hx, Option.bind_some, wrapN (by omega)]
          unfold stN
          dsimp only
          cases rec x inn with
          | none => rfl
          | some r => simp only [Option.bind_some]; cases decide (r.2 ≠ 0) <;> cases decide (s.length + 1 ≤ 549755813888) <;> rfl)
        (fun s => by
          unfold gNodeB_B1
          show (bif decide ((inputs.length : Int) < inpF op) then _ else _) = _
          rw [he, lt_decF]; rfl) (by unfold fuel; omega) []
      rw [this]
      refine (nodes_fold (G := fun sub => finF (opF inn sub op int kinds rows pred exprs keys aggs)) inputs.length inputs.length hil ?_ (fun _ => rfl) inputs [] hrec (by simp) (fun x hx => by cases hx)).trans ?_
      · intro sub hs hsl
        obtain ⟨q, hq, h2, h3⟩ := result_eq (inn := inn) (k := sub) hB hin hsl (by rw [hs, he])
        show ((gResultR (.mk op int kinds rows pred exprs keys aggs inputs) inn sub).bind _) = _
        rw [hq, Option.bind_some]
        unfold finF
        rw [← h2]
        by_cases h0 : q.2 = 0
        · rw [← h3 h0, show decide (q.2 ≠ 0) = false by simp [h0], cond_false, cond_false]
          by_cases hl0 : q.1.length = 0
          · rw [show decide (((q.1.length : Nat) : Int) = 0) = true by simp [hl0], show decide (((q.1.length : Nat) : Int) < 1) = true by simp [hl0]]; rfl
          · rw [show decide (((q.1.length : Nat) : Int) = 0) = false from decide_eq_false (by omega), show decide (((q.1.length : Nat) : Int) < 1) = false from decide_eq_false (by omega)]
            cases decide (48 < ((q.1.length : Nat) : Int)) <;> rfl
        · rw [show decide (q.2 ≠ 0) = true by simp [h0]]; rfl
      · cases nodesF inn inputs [] <;> rfl
    · rw [show decide (((inputs.length : Nat) : Int) ≠ inpF op) = true by simp; omega, show decide (inpF op ≠ (inputs.length : Nat)) = true by simp [he]]; rfl
theorem nodeC_eq {rec : Pl → Option (List Int × Int)} (hB : (Pl.mk op int kinds rows pred exprs keys aggs inputs).Bd) (hin : ∀ x ∈ inn, x.length ≤ 1000000) (hrec : ∀ x ∈ inputs, rec x = some (nodeF inn x)) : gNodeC rec inn (.mk op int kinds rows pred exprs keys aggs inputs) = some (nodeF inn (.mk op int kinds rows pred exprs keys aggs inputs)) := by
  have hil : inputs.length ≤ 100000 := by cases hB with | mk hS _ _ _ => cases hS with | mk _ _ _ _ _ _ _ hi _ => exact hi
  unfold gNodeC
  rw [nodeF]
  show (bif decide (inpF op < 0) then some ([], 7) else bif decide (inpF op ≠ ((inputs.length : Nat) : Int)) then some ([], 8) else _) = _
  cases decide (inpF op < 0) with
  | true => rfl
  | false =>
    simp only [cond_false]
    by_cases he : inpF op = (inputs.length : Nat)
    · rw [show decide (inpF op ≠ (inputs.length : Nat)) = false by simp [he], cond_false, cond_false]
      have := loop_list (l := inputs) (body := gNodeC_B1 (.mk op int kinds rows pred exprs keys aggs inputs) rec) (fun (a : List (List Int)) i => (a, i)) (stN rec)
        (fun s i x hx => by
          have hlt := (List.getElem?_eq_some_iff.1 hx).1
          unfold gNodeC_B1
          show (bif decide ((i : Int) < ((inputs.length : Nat) : Int)) then (getI inputs (i : Int)).bind _ else _) = _
          rw [lt_dec hx, cond_true, getI_nat hx, Option.bind_some, wrapN (by omega)]
          unfold stN
          cases rec x with
          | none => rfl
          | some r => simp only [Option.bind_some]; cases decide (r.2 ≠ 0) <;> cases decide (s.length + 1 ≤ 549755813888) <;> rfl)
        (fun s => by
          unfold gNodeC_B1
          show (bif decide ((inputs.length : Int) < ((inputs.length : Nat) : Int)) then _ else _) = _
          rw [lt_decF]; rfl) (by unfold fuel; omega) []
      rw [this]
      refine (nodes_fold (G := fun sub => finF (opF inn sub op int kinds rows pred exprs keys aggs)) inputs.length inputs.length hil ?_ (fun _ => rfl) inputs [] hrec (by simp) (fun x hx => by cases hx)).trans ?_
      · intro sub hs hsl
        have hg : gOper (.mk op int kinds rows pred exprs keys aggs inputs) inn sub = some (opF inn sub op int kinds rows pred exprs keys aggs) := by
          unfold gOper
          have c1 : (inn.all fun x => decide (x.length ≤ 1000000)) = true := by rw [List.all_eq_true]; intro x hx; exact decide_eq_true (hin x hx)
          have c2 : (sub.all fun x => decide (x.length ≤ 50000)) = true := by rw [List.all_eq_true]; intro x hx; exact decide_eq_true (hsl x hx)
          have c3 : decide (((sub.length : Nat) : Int) = inpF op) = true := decide_eq_true (by rw [hs, he])
          rw [c1, c2]
          show (bif decide (((sub.length : Nat) : Int) = inpF op) then _ else _) = _
          rw [c3]; rfl
        show ((gOper (.mk op int kinds rows pred exprs keys aggs inputs) inn sub).bind _) = _
        rw [hg, Option.bind_some]
        unfold finF
        cases decide ((opF inn sub op int kinds rows pred exprs keys aggs).2 ≠ 0) <;> cases decide ((((opF inn sub op int kinds rows pred exprs keys aggs).1.length : Nat) : Int) < 1) <;> cases decide (48 < (((opF inn sub op int kinds rows pred exprs keys aggs).1.length : Nat) : Int)) <;> rfl
      · cases nodesF inn inputs [] <;> rfl
    · rw [show decide (inpF op ≠ (inputs.length : Nat)) = true by simp [he]]; rfl
end
theorem nodeR_eq {inn : List (List Int)} (hin : ∀ x ∈ inn, x.length ≤ 1000000) {p : Pl} (hB : p.Bd) : ∀ n, dptP p ≤ n → gNodeR n p inn = some (nodeF inn p) := by
  induction hB with
  | @mk op int kinds rows pred exprs keys aggs inputs hS hd hde hs ih =>
    intro n hn
    rw [dptP_mk] at hn
    have hg := (fold_ge (g := dptP) inputs 0).2
    match n, hn with
    | n + 1, hn => exact nodeB_eq (.mk hS hd hde hs) hin fun x hx => ih x hx n (by have := hg x hx; omega)
theorem nodeP_eq {inn : List (List Int)} (hin : ∀ x ∈ inn, x.length ≤ 1000000) {p : Pl} (hB : p.Bd) : ∀ n, dptP p ≤ n → gNodeP inn n p = some (nodeF inn p) := by
  induction hB with
  | @mk op int kinds rows pred exprs keys aggs inputs hS hd hde hs ih =>
    intro n hn
    rw [dptP_mk] at hn
    have hg := (fold_ge (g := dptP) inputs 0).2
    match n, hn with
    | n + 1, hn => exact nodeC_eq (.mk hS hd hde hs) hin fun x hx => ih x hx n (by have := hg x hx; omega)
theorem nodeF_err (inn : List (List Int)) (p : Pl) (h : (nodeF inn p).2 ≠ 0) : nodeF inn p = ([], (nodeF inn p).2) := by
  obtain ⟨op, int, kinds, rows, pred, exprs, keys, aggs, inputs⟩ := p
  rw [nodeF] at h ⊢
  revert h
  cases decide (inpF op < 0) with
  | true => intro _; rfl
  | false =>
    simp only [cond_false]
    cases decide (inpF op ≠ (inputs.length : Nat)) with
    | true => intro _; rfl
    | false =>
      simp only [cond_false]
      cases nodesF inn inputs [] with
      | inr e => intro _; rfl
      | inl sub =>
        dsimp only
        unfold finF
        generalize opF inn sub op int kinds rows pred exprs keys aggs = r
        cases decide (r.2 ≠ 0) with
        | true => intro _; rfl
        | false =>
          simp only [cond_false]
          cases decide (((r.1.length : Nat) : Int) < 1) with
          | true => intro _; rfl
          | false =>
            simp only [cond_false]
            cases decide (48 < ((r.1.length : Nat) : Int)) with
            | true => intro _; rfl
            | false => intro h; exact absurd rfl h
def checkF (inn : List (List Int)) (p : Pl) : List Int × Int := bif decide (24 < depQ p) then ([], 26) else nodeF inn p
theorem checkP_eq {inn : List (List Int)} (hin : ∀ x ∈ inn, x.length ≤ 1000000) {p : Pl} (hB : p.Bd) (hd : dptP p ≤ 1000000) : gCheckP fuel p inn = some (checkF inn p) := by
  unfold gCheckP checkF
  rw [depth_same hB.sm hd, nodeP_eq hin hB fuel (by unfold fuel; omega)]
  cases decide (24 < depQ p) with
  | true => rfl
  | false =>
    simp only [cond_false, Option.bind_some]
    by_cases h : (nodeF inn p).2 = 0
    · have := nodeF_len inn p
      rw [show decide ((nodeF inn p).2 ≠ 0) = false by simp [h], decide_eq_true (show (nodeF inn p).1.length ≤ 549755813888 by omega)]
      show some ((nodeF inn p).1, (0 : Int)) = _
      rw [← h]
    · rw [show decide ((nodeF inn p).2 ≠ 0) = true by simp [h]]
      exact congrArg some (nodeF_err inn p h).symm
end Go.Proofs.YtfpbmfalamappaaGreatDoor

namespace Go.Proofs.YtfpbmfalamappaaGreatDoor
open Go.RowKit Go.MapKept
def sumc {α : Type} (c : α → Nat) : List α → Nat
  | [] => 0
  | x :: l => c x + sumc c l
theorem sumc_mem {α : Type} {c : α → Nat} : ∀ {l : List α} {x : α}, x ∈ l → c x ≤ sumc c l
  | y :: l, x, h => by
    rw [sumc]
    rcases List.mem_cons.1 h with rfl | h
    · omega
    · have := sumc_mem (c := c) h; omega
theorem sumc_len {α : Type} {c : α → Nat} (hc : ∀ x, 1 ≤ c x) : ∀ (l : List α), l.length ≤ sumc c l
  | [] => Nat.le_refl _
  | x :: l => by rw [sumc, List.length_cons]; have := hc x; have := sumc_len hc l; omega
theorem cap_loop {α : Type} {l : List α} {m : Int} (hm : m ≤ 1000) {rec : α → Int → Option Int} {c : α → Nat} (bnd : Int → Int) (hb1 : ∀ n w, 1 ≤ n → n < m → w ≤ bnd (m - n) → n + w ≤ bnd m) (hb2 : bnd m ≤ 100000) {body : Int × Int → Option (Step (Int × Int) Int)}
    (hbody : ∀ (n : Int) (i : Nat), body (n, (i : Int)) = bif decide ((i : Int) < (l.length : Nat)) then (bif decide (n < m) then (getI l (i : Int)).bind fun x => (rec x (IntKind.i64.wrap (m - n))).bind fun r => some (.next (IntKind.i64.wrap (n + r), IntKind.i64.wrap ((i : Int) + 1))) else some (.exit (n, (i : Int)))) else some (.exit (n, (i : Int))))
    (hrec : ∀ x ∈ l, ∀ m', m' < m → 1 ≤ m' → ∃ w, rec x m' = some w ∧ 1 ≤ w ∧ w ≤ bnd m' ∧ (w < m' → w = c x)) :
    ∀ (k F i : Nat) (n : Int), (m - n).toNat ≤ k → k < F → i ≤ l.length → (i : Int) ≤ n → 1 ≤ n → n ≤ 1000000 →
      ∃ n' i', loopM body F (n, (i : Int)) = some (.inl (n', i')) ∧ n ≤ n' ∧ (n' ≤ n ∨ n' ≤ bnd m) ∧ (n' < m → n' = n + (sumc c (l.drop i) : Nat)) := by
  intro k
  induction k with
  | zero =>
    intro F i n hk hF hi hin h1 hb
    obtain ⟨F, rfl⟩ : ∃ F', F = F' + 1 := ⟨F - 1, by omega⟩
    rw [loopM, hbody]
    have hnm : ¬ n < m := by omega
    rw [decide_eq_false hnm]
    by_cases hlt : i < l.length
    · rw [decide_eq_true (show (i : Int) < (l.length : Nat) by omega)]
      exact ⟨n, i, rfl, by omega, .inl (by omega), fun h => absurd h hnm⟩
    · rw [decide_eq_false (show ¬ (i : Int) < (l.length : Nat) by omega)]
      exact ⟨n, i, rfl, by omega, .inl (by omega), fun h => absurd h hnm⟩
  | succ k ih =>
    intro F i n hk hF hi hin h1 hb
    obtain ⟨F, rfl⟩ : ∃ F', F = F' + 1 := ⟨F - 1, by omega⟩
    rw [loopM, hbody]
    by_cases hlt : i < l.length
    · rw [decide_eq_true (show (i : Int) < (l.length : Nat) by omega)]
      by_cases hnm : n < m
      · obtain ⟨x, hx⟩ := get_of_lt hlt
        have e1 := (List.getElem?_eq_some_iff.1 hx).2
        obtain ⟨w, hw, hw1, hw2, hw3⟩ := hrec x (List.mem_of_getElem? hx) (m - n) (by omega) (by omega)
        have hb3 := hb1 n w h1 hnm hw2
        rw [decide_eq_true hnm, getI_nat hx]
        simp only [cond_true, Option.bind_some]
        rw [wrap_in (x := m - n) (by omega), hw]
        simp only [Option.bind_some]
        rw [wrap_in (x := n + w) (by omega), wrap_in (x := (i : Int) + 1) (by omega)]
        obtain ⟨n', i', h2, h3, h4, h5⟩ := ih F (i + 1) (n + w) (by omega) (by omega) (by omega) (by omega) (by omega) (by omega)
        refine ⟨n', i', ?_, by omega, by omega, fun h => ?_⟩
        · rw [show ((i + 1 : Nat) : Int) = (i : Int) + 1 by omega] at h2; exact h2
        · have := hw3 (by omega)
          rw [h5 h, List.drop_eq_getElem_cons hlt, e1, sumc]
          omega
      · rw [decide_eq_false hnm]
        exact ⟨n, i, rfl, by omega, .inl (by omega), fun h => absurd h hnm⟩
    · rw [decide_eq_false (show ¬ (i : Int) < (l.length : Nat) by omega)]
      refine ⟨n, i, rfl, by omega, .inl (by omega), fun _ => ?_⟩
      rw [List.drop_of_length_le (by omega), sumc]; omega
mutual
def cE : Ex → Nat
  | .mk _ _ _ _ args => 1 + cEs args
def cEs : List Ex → Nat
  | [] => 0
  | x :: l => cE x + cEs l
end
theorem cEs_sum : ∀ (l : List Ex), cEs l = sumc cE l
  | [] => by rw [cEs, sumc]
  | x :: l => by rw [cEs, sumc, cEs_sum l]
theorem cE_mk (op int : Int) (v : Val) (nm : ByteArray) (args : List Ex) : cE (.mk op int v nm args) = 1 + sumc cE args := by rw [cE, cEs_sum]
theorem cE_pos (e : Ex) : 1 ≤ cE e := by obtain ⟨_, _, _, _, _⟩ := e; rw [cE_mk]; omega
theorem weight_eq : ∀ (n : Nat) (e : Ex) (m : Int), m ≤ n → m ≤ 1000 → 1 ≤ m → ∃ w, gWeight (n + 1) e m = some w ∧ 1 ≤ w ∧ w ≤ m ∧ (w < m → w = cE e) := by
  intro n
  induction n with
  | zero => intro e m h1 _ h2; omega
  | succ n ih =>
    intro e m hn hm h1
    obtain ⟨op, int, v, nm, args⟩ := e
    have hrec : ∀ x ∈ args, ∀ m', m' < m → 1 ≤ m' → ∃ w, gWeight (n + 1) x m' = some w ∧ 1 ≤ w ∧ w ≤ m' ∧ (w < m' → w = cE x) := fun x _ m' h2 h3 => ih x m' (by omega) (by omega) h3
    obtain ⟨n', i', h2, h3, h4, h5⟩ := cap_loop (l := args) (c := cE) (body := gWeightB_B1 (.mk op int v nm args) m (gWeight (n + 1))) hm (fun x => x) (fun n w _ _ h => by have : w ≤ m - n := h; show n + w ≤ m; omega) (by show m ≤ 100000; omega) (fun _ _ => rfl) hrec (m - 1).toNat fuel 0 1 (by omega) (by unfold fuel; omega) (by omega) (by omega) (by omega) (by omega)
    have h4' : n' ≤ 1 ∨ n' ≤ m := h4
    refine ⟨n', ?_, by omega, by omega, fun h => ?_⟩
    · show gWeightB (gWeight (n + 1)) (.mk op int v nm args) m = _
      unfold gWeightB
      rw [show ((0 : Nat) : Int) = 0 from rfl] at h2
      rw [h2]; rfl
    · rw [h5 h, cE_mk, List.drop_zero]; omega
theorem weight_fuel (e : Ex) {m : Int} (hm : m ≤ 1000) (h1 : 1 ≤ m) : ∃ w, gWeight fuel e m = some w ∧ 1 ≤ w ∧ w ≤ m ∧ (w < m → w = cE e) := weight_eq (fuel - 1) e m (by unfold fuel; omega) hm h1
mutual
def cP : Pl → Nat
  | .mk _ _ kinds rows pred exprs keys aggs inputs => 2 + cE pred + sumc cE exprs + rows.length + keys.length + aggs.length + kinds.length + cPs inputs
def cPs : List Pl → Nat
  | [] => 0
  | x :: l => cP x + cPs l
end
theorem cPs_sum : ∀ (l : List Pl), cPs l = sumc cP l
  | [] => by rw [cPs, sumc]
  | x :: l => by rw [cPs, sumc, cPs_sum l]
theorem cP_mk (op int : Int) (kinds : List Int) (rows : List (List Val)) (pred : Ex) (exprs : List Ex) (keys : List Int) (aggs : List Ag) (inputs : List Pl) : cP (.mk op int kinds rows pred exprs keys aggs inputs) = 2 + cE pred + sumc cE exprs + rows.length + keys.length + aggs.length + kinds.length + sumc cP inputs := by rw [cP, cPs_sum]
theorem cP_pos (p : Pl) : 1 ≤ cP p := by obtain ⟨_, _, _, _, _, _, _, _, _⟩ := p; rw [cP_mk]; omega
theorem mnI_le (n : Nat) {m : Int} (h : 1 ≤ m) : 0 ≤ mnI (n : Int) m ∧ mnI (n : Int) m ≤ m ∧ (mnI (n : Int) m < m → mnI (n : Int) m = n) := by unfold mnI; split <;> omega
theorem load_eq : ∀ (n : Nat) (p : Pl) (m : Int), m ≤ n → m ≤ 1000 → 1 ≤ m → ∃ w, gLoad (n + 1) p m = some w ∧ 1 ≤ w ∧ w ≤ 6 * m + 1 ∧ (w < m → w = cP p) := by
  intro n
  induction n with
  | zero => intro e m h1 _ h2; omega
  | succ n ih =>
    intro p m hn hm h1
    obtain ⟨op, int, kinds, rows, pred, exprs, keys, aggs, inputs⟩ := p
    have hrec : ∀ x ∈ inputs, ∀ m', m' < m → 1 ≤ m' → ∃ w, gLoad (n + 1) x m' = some w ∧ 1 ≤ w ∧ w ≤ 6 * m' + 1 ∧ (w < m' → w = cP x) := fun x _ m' h2 h3 => ih x m' (by omega) (by omega) h3
    obtain ⟨r1, a1, a2, a3, a4⟩ := weight_fuel pred hm h1
    obtain ⟨r2, b1, b2, b3, b4⟩ := weight_fuel (Ex.mk 0 0 ⟨0, 0, ByteArray.empty⟩ ByteArray.empty exprs) hm h1
    rw [cE_mk] at b4
    obtain ⟨c1, c2, c3⟩ := mnI_le rows.length h1
    obtain ⟨d1, d2, d3⟩ := mnI_le keys.length h1
    obtain ⟨e1, e2, e3⟩ := mnI_le aggs.length h1
    obtain ⟨f1, f2, f3⟩ := mnI_le kinds.length h1
    have hw1 : IntKind.i64.wrap (1 + r1) = 1 + r1 := wrap_in (by omega)
    have hw2 : IntKind.i64.wrap (1 + r1 + r2) = 1 + r1 + r2 := wrap_in (by omega)
    have hw3 : IntKind.i64.wrap (1 + r1 + r2 + mnI (rows.length : Nat) m) = 1 + r1 + r2 + mnI (rows.length : Nat) m := wrap_in (by omega)
    have hw4 : IntKind.i64.wrap (1 + r1 + r2 + mnI (rows.length : Nat) m + mnI (keys.length : Nat) m) = 1 + r1 + r2 + mnI (rows.length : Nat) m + mnI (keys.length : Nat) m := wrap_in (by omega)
    have hw5 : IntKind.i64.wrap (1 + r1 + r2 + mnI (rows.length : Nat) m + mnI (keys.length : Nat) m + mnI (aggs.length : Nat) m) = 1 + r1 + r2 + mnI (rows.length : Nat) m + mnI (keys.length : Nat) m + mnI (aggs.length : Nat) m := wrap_in (by omega)
    have hw6 : IntKind.i64.wrap (1 + r1 + r2 + mnI (rows.length : Nat) m + mnI (keys.length : Nat) m + mnI (aggs.length : Nat) m + mnI (kinds.length : Nat) m) = 1 + r1 + r2 + mnI (rows.length : Nat) m + mnI (keys.length : Nat) m + mnI (aggs.length : Nat) m + mnI (kinds.length : Nat) m := wrap_in (by omega)
    generalize hq1 : mnI (rows.length : Nat) m = q1 at *
    generalize hq2 : mnI (keys.length : Nat) m = q2 at *
    generalize hq3 : mnI (aggs.length : Nat) m = q3 at *
    generalize hq4 : mnI (kinds.length : Nat) m = q4 at *
    obtain ⟨n', i', h2, h3, h4, h5⟩ := cap_loop (l := inputs) (c := cP) (body := gLoadB_B1 (.mk op int kinds rows pred exprs keys aggs inputs) m (gLoad (n + 1))) hm (fun x => 6 * x + 1) (fun n w _ _ h => by have : w ≤ 6 * (m - n) + 1 := h; show n + w ≤ 6 * m + 1; omega) (by show 6 * m + 1 ≤ 100000; omega) (fun _ _ => rfl) hrec 1000 fuel 0 (1 + r1 + r2 + q1 + q2 + q3 + q4) (by omega) (by unfold fuel; omega) (by omega) (by omega) (by omega) (by omega)
    have h4' : n' ≤ 1 + r1 + r2 + q1 + q2 + q3 + q4 ∨ n' ≤ 6 * m + 1 := h4
    refine ⟨n', ?_, by omega, by omega, fun h => ?_⟩
    · show gLoadB (gLoad (n + 1)) (.mk op int kinds rows pred exprs keys aggs inputs) m = _
      unfold gLoadB
      show ((gWeight fuel pred m).bind fun r_1 => (gWeight fuel (Ex.mk 0 0 ⟨0, 0, ByteArray.empty⟩ ByteArray.empty exprs) m).bind fun r_2 => _) = _
      rw [a1, Option.bind_some, b1, Option.bind_some]
      show ((loopM (gLoadB_B1 (.mk op int kinds rows pred exprs keys aggs inputs) m (gLoad (n + 1))) fuel (IntKind.i64.wrap (IntKind.i64.wrap (IntKind.i64.wrap (IntKind.i64.wrap (IntKind.i64.wrap (IntKind.i64.wrap (1 + r1) + r2) + mnI (rows.length : Nat) m) + mnI (keys.length : Nat) m) + mnI (aggs.length : Nat) m) + mnI (kinds.length : Nat) m), (0 : Int))).bind gLoadB_K1) = _
      rw [hq1, hq2, hq3, hq4, hw1, hw2, hw3, hw4, hw5, hw6]
      rw [show ((0 : Nat) : Int) = 0 from rfl] at h2
      rw [h2]; rfl
    · have g1 := a4 (by omega)
      have g2 := b4 (by omega)
      have g3 := c3 (by omega)
      have g4 := d3 (by omega)
      have g5 := e3 (by omega)
      have g6 := f3 (by omega)
      rw [h5 h, cP_mk, List.drop_zero]; omega
theorem load_fuel (p : Pl) {m : Int} (hm : m ≤ 1000) (h1 : 1 ≤ m) : ∃ w, gLoad fuel p m = some w ∧ 1 ≤ w ∧ w ≤ 6 * m + 1 ∧ (w < m → w = cP p) := load_eq (fuel - 1) p m (by unfold fuel; omega) hm h1
/-! ### Bounds of the parts -/
theorem fold_sum {α : Type} {g c : α → Nat} : ∀ (l : List α) (a : Nat), (∀ x ∈ l, g x ≤ c x) → l.foldl (fun n x => max n (g x)) a ≤ a + sumc c l
  | [], a, _ => by rw [sumc]; exact Nat.le_refl _
  | x :: l, a, h => by
    rw [List.foldl_cons, sumc]
    have := fold_sum (g := g) (c := c) l (max a (g x)) (fun y hy => h y (by simp [hy]))
    have := h x (by simp)
    omega
theorem Ex.Tx.sm {e : Ex} (h : e.Tx) : cE e ≤ 1000 → e.Sm ∧ dpt e ≤ cE e := by
  induction h with
  | @mk op n v nm args ht _ ih =>
    intro hc
    rw [cE_mk] at hc
    have hl := sumc_len cE_pos args
    have hs : ∀ x ∈ args, x.Sm ∧ dpt x ≤ cE x := fun x hx => ih x hx (by have := sumc_mem (c := cE) hx; omega)
    refine ⟨.mk (by omega) ht fun x hx => (hs x hx).1, ?_⟩
    rw [dpt_mk, cE_mk]
    have := fold_sum (g := dpt) (c := cE) args 0 fun x hx => (hs x hx).2
    omega
theorem Pl.Tx.bd {p : Pl} (h : p.Tx) : cP p ≤ 1000 → p.Bd ∧ dptP p ≤ cP p := by
  induction h with
  | @mk op int kinds rows pred exprs keys aggs inputs hp hx _ ih =>
    intro hc
    rw [cP_mk] at hc
    have h1 := sumc_len cE_pos exprs
    have h2 := sumc_len cP_pos inputs
    have hs : ∀ x ∈ inputs, x.Bd ∧ dptP x ≤ cP x := fun x hx => ih x hx (by have := sumc_mem (c := cP) hx; omega)
    have he : ∀ e ∈ exprs, e.Sm ∧ dpt e ≤ cE e := fun e he => (hx e he).sm (by have := sumc_mem (c := cE) he; omega)
    have hpp := hp.sm (by omega)
    refine ⟨.mk (.mk (by omega) (by omega) hpp.1 (by omega) (fun e h => (he e h).1) (by omega) (by omega) (by omega) fun x h => (hs x h).1.sm) (by omega) (fun e h => by have := (he e h).2; have := sumc_mem (c := cE) h; omega) fun x h => (hs x h).1, ?_⟩
    rw [dptP_mk, cP_mk]
    have := fold_sum (g := dptP) (c := cP) inputs 0 fun x hx => (hs x hx).2
    omega
end Go.Proofs.YtfpbmfalamappaaGreatDoor

namespace Go.Proofs.YtfpbmfalamappaaGreatDoor
open Go.RowKit Go.MapKept
set_option maxRecDepth 100000
set_option maxHeartbeats 8000000
set_option linter.unusedVariables false
def it3 (n : Int) : ByteArray := bif decide (n = 0) then ⟨#[48]⟩ else bif decide (n = 1) then ⟨#[49]⟩ else ⟨#[50]⟩
def nV (n : Int) : Val := ⟨1, n, ⟨#[]⟩⟩
def tV (b : UInt8) : Val := ⟨2, 0, ⟨#[b]⟩⟩
def zVv : Val := ⟨0, 0, ⟨#[]⟩⟩
def smp : List (List Val) := [[nV 1, tV 120], [nV 2, tV 121], [nV 2, tV 121], [zVv, tV 120]]
theorem number_pure (n : Int) : Pure Tryz.prog 44 [.one (.int .i64 n)] (.val (.agg [.int .i64 1, .int .i64 n, .str ⟨#[]⟩])) := by
  refine pure_of_aw tab_ok Tryz.func44 rfl rfl Tryz.ntmps44 (by simp) ?_
  simp only [argT, PV.av, List.map_cons, List.map_nil]
  repeat' (first | refine p_ rfl rfl rfl rfl rfl ?_ | refine st_nil ?_ | refine x_ rfl rfl rfl rfl rfl rfl rfl rfl ?_ | refine l_ rfl rfl rfl rfl ?_ | refine s_ rfl rfl rfl ?_ | refine t_ rfl rfl rfl rfl ?_ | refine k_ rfl rfl rfl ?_ | refine k0_ rfl rfl ?_ | refine c_ rfl rfl rfl rfl ?_ | refine pick_t rfl rfl rfl rfl rfl rfl rfl ?_ | refine pick_f rfl rfl rfl rfl rfl rfl rfl ?_ | refine aw_seq ?_ | refine aw_region tab_ok _ rfl ?_ | refine aw_drawn2 tabS_ok _ rfl mixed (by decide +kernel) ?_ | refine aw_condT rfl ?_ | refine aw_condF rfl ?_ | refine aw_block ?_ | refine aw_exit ?_ | refine aw_ret ?_ | refine aw_skip ?_ | rw [List.length_map] | rw [mn_norm] | rw [mx_norm])
  exact end_ret (res_of rfl (by repeat' (first | exact trivial | exact Nat.le_of_ble_eq_true rfl | apply And.intro)) rfl)
theorem text_pure (s : ByteArray) : Pure Tryz.prog 45 [.one (.str s)] (.val (.agg [.int .i64 2, .int .i64 0, .str s])) := by
  refine pure_of_aw tab_ok Tryz.func45 rfl rfl Tryz.ntmps45 (by simp) ?_
  simp only [argT, PV.av, List.map_cons, List.map_nil]
  repeat' (first | refine p_ rfl rfl rfl rfl rfl ?_ | refine st_nil ?_ | refine x_ rfl rfl rfl rfl rfl rfl rfl rfl ?_ | refine l_ rfl rfl rfl rfl ?_ | refine s_ rfl rfl rfl ?_ | refine t_ rfl rfl rfl rfl ?_ | refine k_ rfl rfl rfl ?_ | refine k0_ rfl rfl ?_ | refine c_ rfl rfl rfl rfl ?_ | refine pick_t rfl rfl rfl rfl rfl rfl rfl ?_ | refine pick_f rfl rfl rfl rfl rfl rfl rfl ?_ | refine aw_seq ?_ | refine aw_region tab_ok _ rfl ?_ | refine aw_drawn2 tabS_ok _ rfl mixed (by decide +kernel) ?_ | refine aw_condT rfl ?_ | refine aw_condF rfl ?_ | refine aw_block ?_ | refine aw_exit ?_ | refine aw_ret ?_ | refine aw_skip ?_ | rw [List.length_map] | rw [mn_norm] | rw [mx_norm])
  exact end_ret (res_of rfl (by repeat' (first | exact trivial | exact Nat.le_of_ble_eq_true rfl | apply And.intro)) rfl)
theorem sample_pure : Pure Tryz.prog 43 [] (.val (.agg [tInts [1, 2], tRows smp])) := by
  have n1 := number_pure 1
  have n2 := number_pure 2
  have x1 := text_pure ⟨#[120]⟩
  have x2 := text_pure ⟨#[121]⟩
  refine pure_of_aw tab_ok Tryz.func43 rfl rfl Tryz.ntmps43 (by simp) ?_
  simp only [argT, PV.av, List.map_cons, List.map_nil]
  repeat' (first | refine p_ rfl rfl rfl rfl rfl ?_ | refine st_nil ?_ | refine x_ rfl rfl rfl rfl rfl rfl rfl rfl ?_ | refine l_ rfl rfl rfl rfl ?_ | refine s_ rfl rfl rfl ?_ | refine t_ rfl rfl rfl rfl ?_ | refine k_ rfl rfl rfl ?_ | refine k0_ rfl rfl ?_ | refine c_ rfl rfl rfl rfl ?_ | refine pick_t rfl rfl rfl rfl rfl rfl rfl ?_ | refine pick_f rfl rfl rfl rfl rfl rfl rfl ?_ | refine aw_seq ?_ | refine aw_region tab_ok _ rfl ?_ | refine aw_drawn2 tabS_ok _ rfl mixed (by decide +kernel) ?_ | refine aw_condT rfl ?_ | refine aw_condF rfl ?_ | refine aw_block ?_ | refine aw_exit ?_ | refine aw_ret ?_ | refine aw_skip ?_ | rw [List.length_map] | rw [mn_norm] | rw [mx_norm])
  exact end_ret (res_of rfl (by repeat' (first | exact trivial | exact Nat.le_of_ble_eq_true rfl | apply And.intro)) rfl)
theorem it_ok {n : Int} (h : n = 0 ∨ n = 1 ∨ n = 2) : Pure Tryz.prog 89 [.one (.int .i64 n)] (.val (.one (.str (it3 n)))) ∧ (it3 n).size ≤ 30 ∧ 0 < (it3 n).size := by
  rcases h with rfl | rfl | rfl
  · exact ⟨itoa_0, by decide, by decide⟩
  · exact ⟨itoa_1, by decide, by decide⟩
  · exact ⟨itoa_2, by decide, by decide⟩
theorem val_ok {v : Val} (h1 : v.kind = 0 ∨ v.kind = 1 ∨ v.kind = 2) (h2 : v.int = 0 ∨ v.int = 1 ∨ v.int = 2) (h3 : v.text.size = 0 ∨ v.text.size = 1) : KeyOK it3 v := by
  have h3' : ((v.text.size : Nat) : Int) = 0 ∨ ((v.text.size : Nat) : Int) = 1 ∨ ((v.text.size : Nat) : Int) = 2 := by omega
  exact ⟨(it_ok h1).1, (it_ok h2).1, (it_ok h3').1, (it_ok h1).2, (it_ok h2).2.1, (it_ok h3').2.1, by omega⟩
def vset : List Val := [nV 1, nV 2, tV 120, tV 121, zVv]
theorem vset_ok : ∀ v ∈ vset, KeyOK it3 v := by
  intro v hv
  simp only [vset, List.mem_cons, List.not_mem_nil, or_false] at hv
  rcases hv with rfl | rfl | rfl | rfl | rfl <;> exact val_ok (by decide) (by decide) (by decide)
theorem row_ok {r : List Val} (h1 : r.length ≤ 1000) (h : ∀ v ∈ r, v ∈ vset) : Pure Tryz.prog 54 [.one (tRow r)] (.val (.one (.str (keyS it3 r)))) := key_pure it3 r h1 fun v hv => vset_ok v (h v hv)
def gRows : List (List Val) := [[tV 120, nV 2, nV 1, nV 1], [tV 121, nV 2, nV 2, nV 4]]
theorem group_awake : Pure Tryz.prog 18 [.agg [tInts [1, 2], tRows smp], .one (tInts [1]), .one (tAggs [(1, -1), (1, 0), (2, 0)])] (.val (.agg [tInts [2, 1, 1, 1], tRows gRows])) := by
  have h := group_pure it3 [1, 2] [1] [(1, -1), (1, 0), (2, 0)] smp (by decide) (by decide) (by decide) (by decide) (by decide) (by intro r hr; simp only [smp, List.mem_cons, List.not_mem_nil, or_false] at hr; rcases hr with rfl | rfl | rfl | rfl <;> decide) (by
    intro r hr
    simp only [smp, List.mem_cons, List.not_mem_nil, or_false] at hr
    rcases hr with rfl | rfl | rfl | rfl <;> exact row_ok (by decide) (by intro v hv; simp only [pickV, List.map_cons, List.map_nil, List.mem_cons, List.not_mem_nil, or_false] at hv; subst hv; simp [atV, vset]))
  rw [show sortR ((gfold (fun r => keyS it3 (pickV r [1])) smp).G.map (grpRow [1] [(1, -1), (1, 0), (2, 0)])) = tRows gRows by kernel_rfl, show (grpF [1, 2] [1] [(1, -1), (1, 0), (2, 0)]).1 = [2, 1, 1, 1] by decide] at h
  exact h
def dRows : List (List Val) := [[zVv, tV 120], [nV 1, tV 120], [nV 2, tV 121]]
theorem except_awake : Pure Tryz.prog 25 [.agg [tInts [1, 2], tRows smp], .agg [tInts [1, 2], tRows [[nV 2, tV 121]]]] (.val (.agg [tInts [1, 2], tRows dRows])) := by
  have h := except_pure it3 [1, 2] [1, 2] smp [[nV 2, tV 121]] (by decide) (by decide) (by decide) (by intro r hr; simp only [smp, List.mem_cons, List.not_mem_nil, or_false] at hr; rcases hr with rfl | rfl | rfl | rfl <;> exact ⟨by simp, by decide⟩)
    (by
      intro r hr
      simp only [smp, List.mem_cons, List.not_mem_nil, or_false] at hr
      rcases hr with rfl | rfl | rfl | rfl <;> exact row_ok (by decide) (by intro v hv; simp only [List.mem_cons, List.not_mem_nil, or_false] at hv; rcases hv with rfl | rfl <;> simp [vset]))
    (by
      intro r hr
      simp only [List.mem_cons, List.not_mem_nil, or_false] at hr
      subst hr
      exact row_ok (by decide) (by intro v hv; simp only [List.mem_cons, List.not_mem_nil, or_false] at hv; rcases hv with rfl | rfl <;> simp [vset]))
  rw [show sortR (spl it3 smp [[nV 2, tV 121]]).O = tRows dRows by kernel_rfl] at h
  exact h
def oRows : List (List Val) := [[nV 0, zVv]]
theorem none_awake : Pure Tryz.prog 18 [.agg [tInts [1, 2], tRows []], .one (tInts []), .one (tAggs [(1, -1), (2, 0)])] (.val (.agg [tInts [1, 1], tRows oRows])) := by
  have h := group0_pure [1, 2] [(1, -1), (2, 0)] (by decide) (by decide) (by simp)
  rw [show sortR [[(1, -1), (2, 0)].map fun z : Ag => aggV z.1 z.2 []] = tRows oRows by kernel_rfl, show (grpF [1, 2] [] [(1, -1), (2, 0)]).1 = [1, 1] by decide] at h
  exact h
theorem same_awake (l : List (List Val)) (h1 : l.length ≤ 1000) (h2 : ∀ r ∈ l, r.length ≤ 1000) (h : sameRows l l = true) : Pure Tryz.prog 21 [.one (tRows l), .one (tRows l)] (vBool true) := by
  have := sameRows_pure l l (by omega) (fun r hr => by have := h2 r hr; omega) (fun r hr => by have := h2 r hr; omega)
  rw [h] at this; exact this
end Go.Proofs.YtfpbmfalamappaaGreatDoor

namespace Go.Proofs.YtfpbmfalamappaaGreatDoor
open Go.RowKit Go.MapKept
set_option maxRecDepth 100000
set_option maxHeartbeats 8000000
set_option linter.unusedVariables false
def e0x : Ex := .mk 0 0 ⟨0, 0, ⟨#[]⟩⟩ ⟨#[]⟩ []
def sc0 : Pl := .mk 1 0 [] [] e0x [] [] [] []
def sc1 : Pl := .mk 1 1 [] [] e0x [] [] [] []
def un : Pl := .mk 7 0 [] [] e0x [] [] [] [sc0, sc1]
theorem e0x_tx : e0x.Tx := .mk (by decide) (fun x hx => by cases hx)
theorem un_tx : un.Tx := .mk e0x_tx (fun x hx => by cases hx) (by
  intro x hx
  simp only [List.mem_cons, List.not_mem_nil, or_false] at hx
  rcases hx with rfl | rfl <;> exact .mk e0x_tx (fun x hx => by cases hx) (fun x hx => by cases hx))
theorem un_check : checkF [[1, 2], [1]] un = ([], 13) := by kernel_rfl
theorem check_awake : Pure Tryz.prog 12 [.agg (tP un), .one (.lst ([[1, 2], [1]].map (fun x => [AC.lst (x.map (fun x => [AC.int .i64 x]))])))] (.tup [.one (.lst []), .one (.int .i64 13)]) := by
  have hb := un_tx.bd (by decide +kernel)
  have h := gCheckP_ok hb.1.sm (checkP_eq (inn := [[1, 2], [1]]) (by intro x hx; simp only [List.mem_cons, List.not_mem_nil, or_false] at hx; rcases hx with rfl | rfl <;> decide) hb.1 (Nat.le_trans hb.2 (by decide +kernel)))
  rw [un_check] at h
  exact h
theorem awake_pure : Pure Tryz.prog 11 [] (vBool true) := by
  have n0 := number_pure 0
  have n1 := number_pure 1
  have n2 := number_pure 2
  have n4 := number_pure 4
  have x1 := text_pure ⟨#[120]⟩
  have x2 := text_pure ⟨#[121]⟩
  have hs := sample_pure
  have hg := group_awake
  have he := except_awake
  have hn := none_awake
  have hc := check_awake
  have s1 := same_awake gRows (by decide) (by decide) (by kernel_rfl)
  have s2 := same_awake dRows (by decide) (by decide) (by kernel_rfl)
  have s3 := same_awake oRows (by decide) (by decide) (by kernel_rfl)
  refine pure_of_aw tab_ok Tryz.func11 rfl rfl Tryz.ntmps11 (by simp) ?_
  simp only [argT, PV.av, List.map_cons, List.map_nil]
  repeat' (first | refine p_ rfl rfl rfl rfl rfl ?_ | refine st_nil ?_ | refine x_ rfl rfl rfl rfl rfl rfl rfl rfl ?_ | refine l_ rfl rfl rfl rfl ?_ | refine s_ rfl rfl rfl ?_ | refine t_ rfl rfl rfl rfl ?_ | refine k_ rfl rfl rfl ?_ | refine k0_ rfl rfl ?_ | refine c_ rfl rfl rfl rfl ?_ | refine pick_t rfl rfl rfl rfl rfl rfl rfl ?_ | refine pick_f rfl rfl rfl rfl rfl rfl rfl ?_ | refine aw_seq ?_ | refine aw_region tab_ok _ rfl ?_ | refine aw_drawn2 tabS_ok _ rfl mixed (by decide +kernel) ?_ | refine aw_condT rfl ?_ | refine aw_condF rfl ?_ | refine aw_block ?_ | refine aw_exit ?_ | refine aw_ret ?_ | refine aw_skip ?_ | rw [List.length_map] | rw [mn_norm] | rw [mx_norm])
  exact end_ret (res_of rfl (by repeat' (first | exact trivial | exact Nat.le_of_ble_eq_true rfl | apply And.intro)) rfl)
end Go.Proofs.YtfpbmfalamappaaGreatDoor

namespace Go.Proofs.YtfpbmfalamappaaGreatDoor
open Go.RowKit Go.MapKept
set_option maxRecDepth 100000
set_option maxHeartbeats 8000000
def gCheckR (a_p : Pl) (a_in : (List (List Int))) : Option ((List Int) × Int) := bif (decide ((24 : Int) < (depQ a_p))) then
  some ([], (26 : Int))
else
  (gNodeR fuel a_p a_in).bind fun r_3 => some (r_3.1, r_3.2)
theorem gCheckR_ok {a_p : Pl} {a_in : (List (List Int))} {r : (List Int) × Int} (hS : a_p.Sm) (H : gCheckR a_p a_in = some r) : Pure Tryz.prog 13 [.agg (tP a_p), .one (.lst (a_in.map (fun x => [AC.lst (x.map (fun x => [AC.int .i64 x]))])))] (.tup [.one (.lst (r.1.map (fun x => [AC.int .i64 x]))), .one (.int .i64 r.2)]) := by
  unfold gCheckR at H
  rw [tP_eq]
  refine pure_of_aw tab_ok Tryz.func13 rfl rfl Tryz.ntmps13 (by simp) ?_
  simp only [argT, PV.av, List.map_cons, List.map_nil]
  have hc_1 := depthQ_pure hS
  try simp only [List.map_append, List.map_cons, List.map_nil, List.nil_append, tE_eq, tP_eq] at hc_1
  rcases Bool.eq_false_or_eq_true (decide ((24 : Int) < (depQ a_p))) with q_2 | q_2
  · rw [q_2, cond_true] at H
    obtain rfl := Option.some.inj H
    exact go_
  · rw [q_2, cond_false] at H
    obtain ⟨r_3, c1, H⟩ := bind_some H
    replace c1 := gNodeR_ok fuel hS c1
    try simp only [List.map_append, List.map_cons, List.map_nil, List.nil_append, tE_eq, tP_eq] at c1
    obtain rfl := Option.some.inj H
    exact go_
def gCkP (p : Pl) (inn : List (List Int)) : Option (List Int × Int) := bif decide (cP p ≤ 1000) then gCheckP fuel p inn else none
theorem gCkP_ok {p : Pl} {inn : List (List Int)} {r : List Int × Int} (hT : p.Tx) (H : gCkP p inn = some r) : Pure Tryz.prog 12 [.agg (tP p), .one (.lst (inn.map (fun x => [AC.lst (x.map (fun x => [AC.int .i64 x]))])))] (.tup [.one (.lst (r.1.map (fun x => [AC.int .i64 x]))), .one (.int .i64 r.2)]) := by
  obtain ⟨h1, h2⟩ := grd_some H
  exact gCheckP_ok (hT.bd (of_decide_eq_true h1)).1.sm h2
def gCkR (p : Pl) (inn : List (List Int)) : Option (List Int × Int) := bif decide (cP p ≤ 1000) then gCheckR p inn else none
theorem gCkR_ok {p : Pl} {inn : List (List Int)} {r : List Int × Int} (hT : p.Tx) (H : gCkR p inn = some r) : Pure Tryz.prog 13 [.agg (tP p), .one (.lst (inn.map (fun x => [AC.lst (x.map (fun x => [AC.int .i64 x]))])))] (.tup [.one (.lst (r.1.map (fun x => [AC.int .i64 x]))), .one (.int .i64 r.2)]) := by
  obtain ⟨h1, h2⟩ := grd_some H
  exact gCheckR_ok (hT.bd (of_decide_eq_true h1)).1.sm h2
def gLaw_B1 (a_in : (List (List Int))) : (Int × Int) → Option (Step (Int × Int) (Bool)) := fun s => match s with
  | (n_1, i_2) => bif (decide (i_2 < ((a_in.length : Nat) : Int))) then
    bif (decide (n_1 < (400 : Int))) then
      (getI a_in i_2).bind fun x_5 => some (.next ((IntKind.i64.wrap (n_1 + (mnI ((x_5.length : Nat) : Int) (400 : Int)))), (IntKind.i64.wrap (i_2 + (1 : Int)))))
    else
      some (.exit (n_1, i_2))
  else
    some (.exit (n_1, i_2))
def gLaw_K1 (a_p : Pl) (a_in : (List (List Int))) : Sum (Int × Int) (Bool) → Option ((Bool))
  | .inl (n_1, i_2) => bif (decide ((400 : Int) ≤ n_1)) then
    some (true)
  else
    (gLoad fuel a_p (400 : Int)).bind fun r_8 => bif (decide ((400 : Int) ≤ r_8)) then
      some (true)
    else
      (gCkP a_p a_in).bind fun r_11 => (gCkR a_p a_in).bind fun r_12 => bif (decide (r_11.2 = r_12.2)) then
        (gSameK r_11.1 r_12.1).bind fun r_14 => bif r_14 then
          some (true)
        else
          some false
      else
        some false
  | .inr q => some q
def gLaw (a_p : Pl) (a_in : (List (List Int))) : Option (Bool) := (loopM (gLaw_B1 a_in) fuel (((a_in.length : Nat) : Int), (0 : Int))).bind (gLaw_K1 a_p a_in)
theorem gLaw_ok {a_p : Pl} {a_in : (List (List Int))} {r : Bool} (hT : a_p.Tx) (H : gLaw a_p a_in = some r) : Pure Tryz.prog 3 [.agg (tP a_p), .one (.lst (a_in.map (fun x => [AC.lst (x.map (fun x => [AC.int .i64 x]))])))] (.val (.one (.bool r))) := by
  unfold gLaw at H
  rw [tP_eq]
  refine pure_of_aw tab_ok Tryz.func3 rfl rfl Tryz.ntmps3 (by simp) ?_
  simp only [argT, PV.av, List.map_cons, List.map_nil]
  repeat' (first | refine p_ rfl rfl rfl rfl rfl ?_ | refine st_nil ?_ | refine x_ rfl rfl rfl rfl rfl rfl rfl rfl ?_ | refine l_ rfl rfl rfl rfl ?_ | refine s_ rfl rfl rfl ?_ | refine t_ rfl rfl rfl rfl ?_ | refine k_ rfl rfl rfl ?_ | refine k0_ rfl rfl ?_ | refine c_ rfl rfl rfl rfl ?_ | refine pick_t rfl rfl rfl rfl rfl rfl rfl ?_ | refine pick_f rfl rfl rfl rfl rfl rfl rfl ?_ | refine aw_seq ?_ | refine aw_region tab_ok _ rfl ?_ | refine aw_drawn2 tabS_ok _ rfl mixed (by decide +kernel) ?_ | refine aw_condT rfl ?_ | refine aw_condF rfl ?_ | refine aw_block ?_ | refine aw_exit ?_ | refine aw_ret ?_ | refine aw_skip ?_ | rw [List.length_map] | rw [mn_norm] | rw [mx_norm])
  refine aw_loopM (fun s : Int × Int => match s with | (n_1, i_2) => [(1, .one (.c (.lst (a_in.map (fun x => [AC.lst (x.map (fun x => [AC.int .i64 x]))]))))), (2, .one (.ptr 0 0)), (4, .one (.c (.bool false))), (5, .one (.c (.int .i64 n_1))), (6, .one (.c (.int .i64 i_2)))]) (fun s => match s with | (n_1, i_2) => [.box [.c (.int .i64 a_p.op), .c (.int .i64 a_p.int), .c (.lst (a_p.kinds.map (fun x => [AC.int .i64 x]))), .c (.lst (a_p.rows.map (fun x => [AC.lst (x.map cV)]))), .c (.int .i64 a_p.pred.op), .c (.int .i64 a_p.pred.int), .c (.int .i64 a_p.pred.v.kind), .c (.int .i64 a_p.pred.v.int), .c (.str a_p.pred.v.text), .c (.str a_p.pred.nm), .c (.lst (a_p.pred.args.map tE)), .c (.lst (a_p.exprs.map tE)), .c (.lst (a_p.keys.map (fun x => [AC.int .i64 x]))), .c (.lst (a_p.aggs.map cA)), .c (.lst (a_p.inputs.map tP))]]) H (fun _ => Nat.zero_le _)
    (fits_mk ⟨rfl, rfl, rfl, rfl, rfl, trivial⟩ [] rfl ⟨trivial, by show 0 < 1; omega, trivial, trivial, trivial, trivial⟩ ⟨ob_below (by rfl), trivial⟩) ?_
  rintro ⟨n_1, i_2⟩ st1 hb1 hk1
  unfold gLaw_B1 at hb1
  dsimp only at hb1 ⊢
  rcases Bool.eq_false_or_eq_true (decide (i_2 < ((a_in.length : Nat) : Int))) with q_3 | q_3
  · rw [q_3, cond_true] at hb1
    rcases Bool.eq_false_or_eq_true (decide (n_1 < (400 : Int))) with q_4 | q_4
    · rw [q_4, cond_true] at hb1
      obtain ⟨x_5, i1, hb1⟩ := bind_some hb1
      obtain ⟨i1z, i1⟩ := getI_some i1
      have i1x := idxI (f := (fun x => [AC.lst (x.map (fun x => [AC.int .i64 x]))])) i1
      obtain rfl := Option.some.inj hb1
      repeat' (first | refine p_ rfl rfl rfl rfl rfl ?_ | refine st_nil ?_ | refine x_ rfl rfl rfl rfl rfl rfl rfl rfl ?_ | refine l_ rfl rfl rfl rfl ?_ | refine s_ rfl rfl rfl ?_ | refine t_ rfl rfl rfl rfl ?_ | refine k_ rfl rfl rfl ?_ | refine k0_ rfl rfl ?_ | refine c_ rfl rfl rfl rfl ?_ | refine pick_t rfl rfl rfl rfl rfl rfl rfl ?_ | refine pick_f rfl rfl rfl rfl rfl rfl rfl ?_ | refine aw_seq ?_ | refine aw_region tab_ok _ rfl ?_ | refine aw_drawn2 tabS_ok _ rfl mixed (by decide +kernel) ?_ | refine aw_condT rfl ?_ | refine aw_condF rfl ?_ | refine aw_block ?_ | refine aw_exit ?_ | refine aw_ret ?_ | refine aw_skip ?_ | rw [List.length_map] | rw [mn_norm] | rw [mx_norm])
      exact ⟨_, rfl, fits_mk ⟨rfl, rfl, rfl, rfl, rfl, trivial⟩ [] rfl ⟨trivial, by show 0 < 1; omega, trivial, trivial, trivial, trivial⟩ ⟨ob_below (by rfl), trivial⟩⟩
    · rw [q_4, cond_false] at hb1
      obtain rfl := Option.some.inj hb1
      have hx1 : gLaw_K1 a_p a_in (.inl (n_1, i_2)) = some _ := hk1
      unfold gLaw_K1 at hx1
      dsimp only at hx1
      rcases Bool.eq_false_or_eq_true (decide ((400 : Int) ≤ n_1)) with q_6 | q_6
      · rw [q_6, cond_true] at hx1
        have hc_7 := awake_pure
        try simp only [List.map_append, List.map_cons, List.map_nil, List.nil_append, tE_eq, tP_eq] at hc_7
        obtain rfl := Option.some.inj hx1
        exact go_
      · rw [q_6, cond_false] at hx1
        obtain ⟨r_8, c2, hx1⟩ := bind_some hx1
        replace c2 := gLoad_ok fuel c2
        try simp only [List.map_append, List.map_cons, List.map_nil, List.nil_append, tE_eq, tP_eq] at c2
        rcases Bool.eq_false_or_eq_true (decide ((400 : Int) ≤ r_8)) with q_9 | q_9
        · rw [q_9, cond_true] at hx1
          have hc_10 := awake_pure
          try simp only [List.map_append, List.map_cons, List.map_nil, List.nil_append, tE_eq, tP_eq] at hc_10
          obtain rfl := Option.some.inj hx1
          exact go_
        · rw [q_9, cond_false] at hx1
          obtain ⟨r_11, c3, hx1⟩ := bind_some hx1
          replace c3 := gCkP_ok hT c3
          try simp only [List.map_append, List.map_cons, List.map_nil, List.nil_append, tE_eq, tP_eq] at c3
          obtain ⟨r_12, c4, hx1⟩ := bind_some hx1
          replace c4 := gCkR_ok hT c4
          try simp only [List.map_append, List.map_cons, List.map_nil, List.nil_append, tE_eq, tP_eq] at c4
          rcases Bool.eq_false_or_eq_true (decide (r_11.2 = r_12.2)) with q_13 | q_13
          · rw [q_13, cond_true] at hx1
            obtain ⟨r_14, c5, hx1⟩ := bind_some hx1
            replace c5 := gSameK_ok c5
            try simp only [List.map_append, List.map_cons, List.map_nil, List.nil_append, tE_eq, tP_eq] at c5
            rcases Bool.eq_false_or_eq_true r_14 with q_15 | q_15
            · rw [q_15, cond_true] at hx1
              have hc_16 := awake_pure
              try simp only [List.map_append, List.map_cons, List.map_nil, List.nil_append, tE_eq, tP_eq] at hc_16
              obtain rfl := Option.some.inj hx1
              exact go_
            · rw [q_15, cond_false] at hx1
              obtain rfl := Option.some.inj hx1
              exact go_
          · rw [q_13, cond_false] at hx1
            obtain rfl := Option.some.inj hx1
            exact go_
  · rw [q_3, cond_false] at hb1
    obtain rfl := Option.some.inj hb1
    have hx1 : gLaw_K1 a_p a_in (.inl (n_1, i_2)) = some _ := hk1
    unfold gLaw_K1 at hx1
    dsimp only at hx1
    rcases Bool.eq_false_or_eq_true (decide ((400 : Int) ≤ n_1)) with q_6 | q_6
    · rw [q_6, cond_true] at hx1
      have hc_7 := awake_pure
      try simp only [List.map_append, List.map_cons, List.map_nil, List.nil_append, tE_eq, tP_eq] at hc_7
      obtain rfl := Option.some.inj hx1
      exact go_
    · rw [q_6, cond_false] at hx1
      obtain ⟨r_8, c6, hx1⟩ := bind_some hx1
      replace c6 := gLoad_ok fuel c6
      try simp only [List.map_append, List.map_cons, List.map_nil, List.nil_append, tE_eq, tP_eq] at c6
      rcases Bool.eq_false_or_eq_true (decide ((400 : Int) ≤ r_8)) with q_9 | q_9
      · rw [q_9, cond_true] at hx1
        have hc_10 := awake_pure
        try simp only [List.map_append, List.map_cons, List.map_nil, List.nil_append, tE_eq, tP_eq] at hc_10
        obtain rfl := Option.some.inj hx1
        exact go_
      · rw [q_9, cond_false] at hx1
        obtain ⟨r_11, c7, hx1⟩ := bind_some hx1
        replace c7 := gCkP_ok hT c7
        try simp only [List.map_append, List.map_cons, List.map_nil, List.nil_append, tE_eq, tP_eq] at c7
        obtain ⟨r_12, c8, hx1⟩ := bind_some hx1
        replace c8 := gCkR_ok hT c8
        try simp only [List.map_append, List.map_cons, List.map_nil, List.nil_append, tE_eq, tP_eq] at c8
        rcases Bool.eq_false_or_eq_true (decide (r_11.2 = r_12.2)) with q_13 | q_13
        · rw [q_13, cond_true] at hx1
          obtain ⟨r_14, c9, hx1⟩ := bind_some hx1
          replace c9 := gSameK_ok c9
          try simp only [List.map_append, List.map_cons, List.map_nil, List.nil_append, tE_eq, tP_eq] at c9
          rcases Bool.eq_false_or_eq_true r_14 with q_15 | q_15
          · rw [q_15, cond_true] at hx1
            have hc_16 := awake_pure
            try simp only [List.map_append, List.map_cons, List.map_nil, List.nil_append, tE_eq, tP_eq] at hc_16
            obtain rfl := Option.some.inj hx1
            exact go_
          · rw [q_15, cond_false] at hx1
            obtain rfl := Option.some.inj hx1
            exact go_
        · rw [q_13, cond_false] at hx1
          obtain rfl := Option.some.inj hx1
          exact go_
theorem law_loop {l : List (List Int)} (hl : l.length < 400) : ∀ (k F i : Nat) (n : Int), l.length - i ≤ k → k < F → i ≤ l.length → 0 ≤ n → n ≤ 1000 →
    ∃ n' i', loopM (gLaw_B1 l) F (n, (i : Int)) = some (.inl (n', i')) ∧ n ≤ n' ∧ (n' < 400 → ∀ x ∈ l.drop i, x.length ≤ 400) := by
  intro k
  induction k with
  | zero =>
    intro F i n hk hF hi _ _
    obtain ⟨F, rfl⟩ : ∃ F', F = F' + 1 := ⟨F - 1, by omega⟩
    rw [loopM]
    unfold gLaw_B1
    dsimp only
    rw [decide_eq_false (show ¬ (i : Int) < ((l.length : Nat) : Int) by omega)]
    refine ⟨n, i, rfl, Int.le_refl _, fun _ => ?_⟩
    rw [List.drop_of_length_le (by omega)]
    intro x hx; cases hx
  | succ k ih =>
    intro F i n hk hF hi hn hn2
    obtain ⟨F, rfl⟩ : ∃ F', F = F' + 1 := ⟨F - 1, by omega⟩
    by_cases hlt : i < l.length
    · by_cases h4 : n < 400
      · obtain ⟨x, hx⟩ := get_of_lt hlt
        have e1 := (List.getElem?_eq_some_iff.1 hx).2
        obtain ⟨m1, m2, m3⟩ := mnI_le x.length (m := 400) (by decide)
        obtain ⟨n', i', h1, h2, h3⟩ := ih F (i + 1) (n + mnI ((x.length : Nat) : Int) 400) (by omega) (by omega) (by omega) (by omega) (by omega)
        refine ⟨n', i', ?_, by omega, fun h => ?_⟩
        · rw [loopM]
          have hb : gLaw_B1 l (n, (i : Int)) = some (.next (n + mnI ((x.length : Nat) : Int) 400, ((i + 1 : Nat) : Int))) := by
            unfold gLaw_B1
            dsimp only
            rw [decide_eq_true (show (i : Int) < ((l.length : Nat) : Int) by omega), decide_eq_true h4, getI_nat hx]
            simp only [cond_true, Option.bind_some]
            rw [wrap_in (x := n + mnI ((x.length : Nat) : Int) 400) (by omega), wrapN (by omega)]
          rw [hb]; exact h1
        · rw [List.drop_eq_getElem_cons hlt, e1]
          intro y hy
          rcases List.mem_cons.1 hy with rfl | hy
          · have := m3 (by omega); omega
          · exact h3 h y hy
      · rw [loopM]
        unfold gLaw_B1
        dsimp only
        rw [decide_eq_true (show (i : Int) < ((l.length : Nat) : Int) by omega), decide_eq_false h4]
        exact ⟨n, i, rfl, Int.le_refl _, fun h => absurd h h4⟩
    · rw [loopM]
      unfold gLaw_B1
      dsimp only
      rw [decide_eq_false (show ¬ (i : Int) < ((l.length : Nat) : Int) by omega)]
      refine ⟨n, i, rfl, Int.le_refl _, fun _ => ?_⟩
      rw [List.drop_of_length_le (by omega)]
      intro x hx; cases hx
theorem law_true {p : Pl} (hT : p.Tx) (inn : List (List Int)) : gLaw p inn = some true := by
  unfold gLaw
  by_cases hl : inn.length < 400
  · obtain ⟨n', i', h1, h2, h3⟩ := law_loop hl inn.length fuel 0 (inn.length : Nat) (by omega) (by unfold fuel; omega) (by omega) (by omega) (by omega)
    rw [show ((0 : Nat) : Int) = 0 from rfl] at h1
    rw [h1]
    show (bif decide ((400 : Int) ≤ n') then some true else _) = _
    by_cases h4 : 400 ≤ n'
    · rw [decide_eq_true h4]; rfl
    · rw [decide_eq_false h4]
      obtain ⟨w, a1, _, _, a4⟩ := load_fuel p (m := 400) (by decide) (by decide)
      simp only [cond_false]
      rw [a1, Option.bind_some]
      by_cases h5 : 400 ≤ w
      · rw [decide_eq_true h5]; rfl
      · rw [decide_eq_false h5]
        have hc : cP p ≤ 1000 := by have := a4 (by omega); omega
        obtain ⟨hB, hd⟩ := hT.bd hc
        have hin : ∀ x ∈ inn, x.length ≤ 1000000 := fun x hx => by have := h3 (by omega) x (by rw [List.drop_zero]; exact hx); omega
        have k1 : gCkP p inn = some (checkF inn p) := by unfold gCkP; rw [decide_eq_true hc]; exact checkP_eq hin hB (by omega)
        have k2 : gCkR p inn = some (checkF inn p) := by
          unfold gCkR gCheckR checkF
          rw [decide_eq_true hc, nodeR_eq hin hB fuel (by unfold fuel; omega)]
          cases decide (24 < depQ p) <;> rfl
        have hlen : (checkF inn p).1.length ≤ 48 := by
          unfold checkF
          cases decide (24 < depQ p) with
          | true => exact Nat.zero_le _
          | false => exact nodeF_len inn p
        simp only [cond_false]
        rw [k1, k2]
        simp only [Option.bind_some]
        have k3 : gSameK (checkF inn p).1 (checkF inn p).1 = some true := by
          unfold gSameK
          rw [decide_eq_true (show (checkF inn p).1.length ≤ 1000000 by omega), decide_eq_true rfl]; rfl
        simp only [decide_true, cond_true]
        rw [k3]; rfl
  · have h0 : loopM (gLaw_B1 inn) fuel (((inn.length : Nat) : Int), (0 : Int)) = some (.inl (((inn.length : Nat) : Int), 0)) := by
      rw [show fuel = (fuel - 1) + 1 from rfl, loopM]
      unfold gLaw_B1
      dsimp only
      rw [decide_eq_true (show (0 : Int) < ((inn.length : Nat) : Int) by omega), decide_eq_false (show ¬ ((inn.length : Nat) : Int) < 400 by omega)]
      rfl
    rw [h0]
    show (bif decide ((400 : Int) ≤ ((inn.length : Nat) : Int)) then some true else _) = _
    rw [decide_eq_true (by omega)]; rfl
theorem law_pure {p : Pl} (hT : p.Tx) (inn : List (List Int)) : Pure Tryz.prog 3 [.agg (tP p), .one (.lst (inn.map (fun x => [AC.lst (x.map (fun x => [AC.int .i64 x]))])))] (vBool true) := gLaw_ok hT (law_true hT inn)
end Go.Proofs.YtfpbmfalamappaaGreatDoor
