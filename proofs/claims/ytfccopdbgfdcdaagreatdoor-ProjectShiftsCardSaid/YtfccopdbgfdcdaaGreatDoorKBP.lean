/- Parts of the proof, joined. No condition. -/
import Derived.Test.YtfccopdbgfdcdaaGreatDoorKBI
import Derived.Test.YtfccopdbgfdcdaaGreatDoorKAM
import Derived.Test.YtfccopdbgfdcdaaGreatDoorKBO
import Derived.Test.YtfccopdbgfdcdaaGreatDoorKBL
import Derived.Test.YtfccopdbgfdcdaaGreatDoorKBN
import Derived.Test.YtfccopdbgfdcdaaGreatDoorKBH
import Derived.ProofKit
import Derived.OpenShut
import Derived.ChangeOld
import Derived.Deep.Slices
import Derived.Test.YtfccopdbgfdcdaaGreatDoorKBK
set_option linter.unusedSimpArgs false
set_option linter.unusedVariables false
namespace Go.Proofs.YtfccopdbgfdcdaaGreatDoor
open Go.RowKit Go.MapKept
set_option maxRecDepth 100000
set_option maxHeartbeats 8000000
set_option linter.unusedVariables false
set_option linter.unusedSimpArgs false
end Go.Proofs.YtfccopdbgfdcdaaGreatDoor
namespace Go.Proofs.YtfccopdbgfdcdaaGreatDoor
open Go.RowKit Go.MapKept
set_option maxRecDepth 100000
set_option maxHeartbeats 8000000
set_option linter.unusedVariables false
set_option linter.unusedSimpArgs false
end Go.Proofs.YtfccopdbgfdcdaaGreatDoor
namespace Go.Proofs.YtfccopdbgfdcdaaGreatDoor
open Go.RowKit Go.MapKept
set_option maxRecDepth 100000
set_option maxHeartbeats 8000000
set_option linter.unusedVariables false
set_option linter.unusedSimpArgs false
end Go.Proofs.YtfccopdbgfdcdaaGreatDoor
namespace Go.Proofs.YtfccopdbgfdcdaaGreatDoor
open Go.RowKit Go.MapKept
set_option maxRecDepth 100000
set_option maxHeartbeats 8000000
set_option linter.unusedVariables false
set_option linter.unusedSimpArgs false
end Go.Proofs.YtfccopdbgfdcdaaGreatDoor
namespace Go.Proofs.YtfccopdbgfdcdaaGreatDoor
open Go.RowKit Go.MapKept
set_option maxRecDepth 100000
set_option maxHeartbeats 8000000
set_option linter.unusedVariables false
set_option linter.unusedSimpArgs false
end Go.Proofs.YtfccopdbgfdcdaaGreatDoor
namespace Go.Proofs.YtfccopdbgfdcdaaGreatDoor
open Go.RowKit Go.MapKept
set_option maxRecDepth 100000
set_option maxHeartbeats 8000000
set_option linter.unusedVariables false
set_option linter.unusedSimpArgs false
end Go.Proofs.YtfccopdbgfdcdaaGreatDoor
namespace Go.Proofs.YtfccopdbgfdcdaaGreatDoor
open Go.RowKit Go.MapKept
set_option maxRecDepth 100000
set_option linter.unusedVariables false
set_option linter.unusedSimpArgs false
def posV (B : List (List Val)) (x : List Val) : Nat → Nat
  | 0 => 0
  | j + 1 => match B[j]? with
    | some y => if rcmp x y < 0 then posV B x j else j + 1
    | none => j + 1
def insV (B : List (List Val)) (x : List Val) : List (List Val) := B.take (posV B x B.length) ++ x :: B.drop (posV B x B.length)
def sortV (l : List (List Val)) : List (List Val) := l.foldl insV []
theorem posV_spec (B : List (List Val)) (x : List Val) : ∀ j, j ≤ B.length → posV B x j ≤ j ∧ (∀ i y, posV B x j ≤ i → i < j → B[i]? = some y → rcmp x y < 0) ∧ (∀ q, posV B x j = q + 1 → ∃ y, B[q]? = some y ∧ ¬ rcmp x y < 0)
  | 0, _ => ⟨Nat.le_refl _, fun i y _ h => by omega, fun q h => by simp [posV] at h⟩
  | j + 1, hj => by
    obtain ⟨y, hy⟩ := get_of_lt (show j < B.length by omega)
    have e : posV B x (j + 1) = if rcmp x y < 0 then posV B x j else j + 1 := by rw [posV, hy]
    rw [e]
    by_cases h : rcmp x y < 0
    · rw [if_pos h]
      obtain ⟨h1, h2, h3⟩ := posV_spec B x j (by omega)
      refine ⟨by omega, fun i z hi hij hz => ?_, h3⟩
      by_cases hij' : i < j
      · exact h2 i z hi hij' hz
      · have : i = j := by omega
        subst this
        rw [hy] at hz
        obtain rfl := Option.some.inj hz
        exact h
    · rw [if_neg h]
      refine ⟨Nat.le_refl _, fun i z hi hij => by omega, fun q hq => ?_⟩
      obtain rfl : j = q := by omega
      exact ⟨y, hy, h⟩
theorem insV_perm (B : List (List Val)) (x : List Val) : (insV B x).Perm (x :: B) := by
  unfold insV
  refine List.perm_middle.trans ?_
  rw [List.take_append_drop]
theorem insV_asc {B : List (List Val)} (x : List Val) (h : Asc rcmp B) : Asc rcmp (insV B x) := by
  obtain ⟨h1, h2, h3⟩ := posV_spec B x B.length (Nat.le_refl _)
  unfold insV
  generalize posV B x B.length = p at h1 h2 h3
  have hB : Asc rcmp (B.take p ++ B.drop p) := by rw [List.take_append_drop]; exact h
  obtain ⟨ht, hd, hc⟩ := List.pairwise_append.1 hB
  have hx : ∀ b ∈ B.drop p, rcmp x b ≤ 0 := by
    intro b hb
    obtain ⟨i, hi⟩ := List.getElem?_of_mem hb
    rw [List.getElem?_drop] at hi
    have := h2 (p + i) b (by omega) (List.getElem?_eq_some_iff.1 hi).1 hi
    omega
  have hl : ∀ a ∈ B.take p, rcmp a x ≤ 0 := by
    intro a ha
    cases p with
    | zero => simp at ha
    | succ q =>
      obtain ⟨y, hy, hn⟩ := h3 q rfl
      have hyx : rcmp y x ≤ 0 := by
        have := totC_rcmp.anti x y
        have := totC_rcmp.anti y x
        omega
      have hq : q < B.length := (List.getElem?_eq_some_iff.1 hy).1
      have ey := (List.getElem?_eq_some_iff.1 hy).2
      rw [List.take_succ_eq_append_getElem hq, ey] at ha ht
      rcases List.mem_append.1 ha with ha | ha
      · exact totC_rcmp.le_trans ((List.pairwise_append.1 ht).2.2 a ha y (by simp)) hyx
      · obtain rfl : a = y := by simpa using ha
        exact hyx
  refine List.pairwise_append.2 ⟨ht, List.pairwise_cons.2 ⟨hx, hd⟩, fun a ha b hb => ?_⟩
  rcases List.mem_cons.1 hb with rfl | hb
  · exact hl a ha
  · exact hc a ha b hb
theorem foldl_ins : ∀ (l B : List (List Val)), Asc rcmp B → Asc rcmp (l.foldl insV B) ∧ (l.foldl insV B).Perm (l ++ B)
  | [], B, h => ⟨h, List.Perm.refl _⟩
  | x :: l, B, h => by
    obtain ⟨h1, h2⟩ := foldl_ins l (insV B x) (insV_asc x h)
    refine ⟨h1, h2.trans ?_⟩
    refine ((insV_perm B x).append_left l).trans ?_
    exact List.perm_middle
theorem sortV_asc (l : List (List Val)) : Asc rcmp (sortV l) := (foldl_ins l [] List.Pairwise.nil).1
theorem sortV_perm (l : List (List Val)) : (sortV l).Perm l := by
  have := (foldl_ins l [] List.Pairwise.nil).2
  rwa [List.append_nil] at this
theorem sortV_unique {l r : List (List Val)} (h1 : Asc rcmp r) (h2 : r.Perm l) : sortV l = r := asc_unique totC_rcmp (sortV_asc l) h1 ((sortV_perm l).trans h2.symm)
def push {α β ρ : Type} (g : α → β) (N : Nat) (s : List β) (x : α) : Option (Sum (List β) ρ) := bif decide (s.length + 1 ≤ N) then some (.inl (s ++ [g x])) else none
theorem fold_ex {α σ ρ : Type} {f : σ → α → Option (Sum σ ρ)} : ∀ (l : List α) (s : σ), (∀ s x, x ∈ l → ∃ r, f s x = some r) → ∃ r, foldS f s l = some r
  | [], s, _ => ⟨_, rfl⟩
  | x :: l, s, h => by
    obtain ⟨r, hr⟩ := h s x (List.mem_cons_self ..)
    rw [foldS, hr]
    cases r with
    | inl s' => exact fold_ex l s' fun s y hy => h s y (List.mem_cons_of_mem _ hy)
    | inr r => exact ⟨_, rfl⟩
end Go.Proofs.YtfccopdbgfdcdaaGreatDoor
namespace Go.Proofs.YtfccopdbgfdcdaaGreatDoor
open Go.RowKit Go.MapKept
set_option maxRecDepth 100000
set_option linter.unusedVariables false
set_option linter.unusedSimpArgs false
theorem gBefore_nil (x y : List Val) (hx : x.length ≤ 1000000) (hy : y.length ≤ 1000000) : gBefore x y [] = some (decide (rcmp x y < 0)) := by
  unfold gBefore
  rw [loop_list (l := ([] : List Ord)) (mk := fun (_ : Unit) i => i) (f := fun (_ : Unit) (_ : Ord) => (none : Option (Sum Unit Bool))) ?_ ?_ (by unfold fuel; simp) ()]
  · show gBefore_K1 x y (.inl ((([] : List Ord).length : Nat) : Int)) = _
    unfold gBefore_K1
    rw [gCmp8_eq x y (by omega) (by omega)]; rfl
  · intro s i x hx; simp at hx
  · intro s
    unfold gBefore_B1
    dsimp only
    rw [lt_decF, cond_false]
def leV (x y : List Val) : Bool := !decide (rcmp y x < 0)
theorem leV_iff (x y : List Val) : leV x y = true ↔ rcmp x y ≤ 0 := by
  unfold leV
  have := totC_rcmp.anti x y
  have := totC_rcmp.anti y x
  simp
  omega
theorem gMerged_at {a b : List (List Val)} (ha : a.length ≤ 1000000) (hb : b.length ≤ 1000000) (hra : ∀ r ∈ a, r.length ≤ 1000000) (hrb : ∀ r ∈ b, r.length ≤ 1000000) : ∀ (n i k : Nat) (out : List (List Val)), i ≤ a.length → k ≤ b.length → out.length = i + k → (a.length - i) + (b.length - k) < n → (loopM (gMerged_B1 a b []) n (out, (i : Int), (k : Int))).bind gMerged_K1 = some (out ++ List.merge (a.drop i) (b.drop k) leV)
  | 0, _, _, _, _, _, _, h => by omega
  | n + 1, i, k, out, h1, h2, ho, hn => by
    have hg : decide (out.length + 1 ≤ 5864062014805) = true := decide_eq_true (by omega)
    rw [loopM]
    by_cases hlt : i < a.length
    · obtain ⟨x, hx⟩ := get_of_lt hlt
      have ex := (List.getElem?_eq_some_iff.1 hx).2
      have hne : decide ((i : Int) = ((a.length : Nat) : Int)) = false := decide_eq_false (by omega)
      have ihA := gMerged_at ha hb hra hrb n (i + 1) k (out ++ [x]) (by omega) (by omega) (by simp; omega) (by omega)
      by_cases hlb : k < b.length
      · obtain ⟨y, hy⟩ := get_of_lt hlb
        have ey := (List.getElem?_eq_some_iff.1 hy).2
        have ihB := gMerged_at ha hb hra hrb n i (k + 1) (out ++ [y]) (by omega) (by omega) (by simp; omega) (by omega)
        have eb : gMerged_B1 a b [] (out, (i : Int), (k : Int)) = bif decide (rcmp y x < 0) then some (.next (out ++ [y], (i : Int), ((k + 1 : Nat) : Int))) else some (.next (out ++ [x], ((i + 1 : Nat) : Int), (k : Int))) := by
          unfold gMerged_B1
          dsimp only
          rw [lt_dec hx, cond_true, hne, cond_false, lt_dec hy, cond_true, getI_nat hy, getI_nat hx]
          simp only [Option.bind_some]
          rw [gBefore_nil y x (hrb y (List.mem_of_getElem? hy)) (hra x (List.mem_of_getElem? hx)), wrapN (by omega), wrapN (by omega), hg]
          rfl
        rw [eb, List.drop_eq_getElem_cons hlt, List.drop_eq_getElem_cons hlb, ex, ey, List.cons_merge_cons]
        rw [List.drop_eq_getElem_cons hlb, ey] at ihA
        rw [List.drop_eq_getElem_cons hlt, ex] at ihB
        by_cases hc : rcmp y x < 0
        · rw [show decide (rcmp y x < 0) = true from decide_eq_true hc, cond_true, if_neg (by unfold leV; simp [hc])]
          dsimp only
          rw [ihB]; simp
        · rw [show decide (rcmp y x < 0) = false from decide_eq_false hc, cond_false, if_pos (by unfold leV; simp [hc])]
          dsimp only
          rw [ihA]; simp
      · have hk : k = b.length := by omega
        have eb : gMerged_B1 a b [] (out, (i : Int), (k : Int)) = some (.next (out ++ [x], ((i + 1 : Nat) : Int), (k : Int))) := by
          unfold gMerged_B1
          dsimp only
          rw [lt_dec hx, cond_true, hne, cond_false, hk, lt_decF, cond_false, getI_nat hx]
          simp only [Option.bind_some]
          rw [wrapN (by omega), hg]
          rfl
        rw [eb]
        dsimp only
        rw [ihA, List.drop_eq_getElem_cons hlt, ex, hk, List.drop_length, List.merge_right, List.merge_right]
        simp
    · have hi : i = a.length := by omega
      subst hi
      by_cases hlb : k < b.length
      · obtain ⟨y, hy⟩ := get_of_lt hlb
        have ey := (List.getElem?_eq_some_iff.1 hy).2
        have ihB := gMerged_at ha hb hra hrb n a.length (k + 1) (out ++ [y]) (by omega) (by omega) (by simp; omega) (by omega)
        have eb : gMerged_B1 a b [] (out, ((a.length : Nat) : Int), (k : Int)) = some (.next (out ++ [y], ((a.length : Nat) : Int), ((k + 1 : Nat) : Int))) := by
          unfold gMerged_B1
          dsimp only
          rw [lt_decF, cond_false, lt_dec hy, cond_true, show decide (((a.length : Nat) : Int) = ((a.length : Nat) : Int)) = true from decide_eq_true rfl, cond_true, getI_nat hy]
          simp only [Option.bind_some]
          rw [wrapN (by omega), hg]
          rfl
        rw [eb]
        dsimp only
        rw [ihB, List.drop_eq_getElem_cons hlb, ey, List.drop_length, List.nil_merge, List.nil_merge]
        simp
      · have hk : k = b.length := by omega
        subst hk
        have eb : gMerged_B1 a b [] (out, ((a.length : Nat) : Int), ((b.length : Nat) : Int)) = some (.exit (out, ((a.length : Nat) : Int), ((b.length : Nat) : Int))) := by
          unfold gMerged_B1
          dsimp only
          rw [lt_decF, cond_false, lt_decF, cond_false]
        rw [eb, List.drop_length, List.drop_length, List.nil_merge, List.append_nil]
        rfl
theorem gMerged_eq {a b : List (List Val)} (ha : a.length ≤ 1000000) (hb : b.length ≤ 1000000) (hra : ∀ r ∈ a, r.length ≤ 1000000) (hrb : ∀ r ∈ b, r.length ≤ 1000000) : gMerged a b [] = some (List.merge a b leV) := by
  unfold gMerged
  have := gMerged_at ha hb hra hrb fuel 0 0 [] (Nat.zero_le _) (Nat.zero_le _) rfl (by unfold fuel; omega)
  rw [show (((0 : Nat) : Int)) = 0 from rfl] at this
  rw [this]; simp
theorem merge_asc {a b : List (List Val)} (ha : Asc rcmp a) (hb : Asc rcmp b) : Asc rcmp (List.merge a b leV) := by
  have := List.pairwise_merge (le := leV) (fun x y z h1 h2 => (leV_iff x z).2 (totC_rcmp.le_trans ((leV_iff x y).1 h1) ((leV_iff y z).1 h2))) (fun x y => by
    rw [Bool.or_eq_true, leV_iff, leV_iff]; exact totC_rcmp.total x y) a b (ha.imp fun h => (leV_iff _ _).2 h) (hb.imp fun h => (leV_iff _ _).2 h)
  exact this.imp fun h => (leV_iff _ _).1 h
theorem gOrder_eq : ∀ (n : Nat) (l : List (List Val)), l.length ≤ n → l.length ≤ 1000000 → (∀ r ∈ l, r.length ≤ 1000000) → ∃ r, gOrder (n + 1) l [] = some r ∧ Asc rcmp r ∧ r.Perm l := by
  intro n
  induction n with
  | zero =>
    intro l h _ _
    have : l = [] := by cases l with | nil => rfl | cons _ _ => simp at h
    subst this
    exact ⟨[], rfl, List.Pairwise.nil, List.Perm.refl _⟩
  | succ n ih =>
    intro l h hl hr
    match l, h, hl, hr with
    | [], _, _, _ => exact ⟨[], rfl, List.Pairwise.nil, List.Perm.refl _⟩
    | [x], _, _, hr =>
      have hx := hr x (by simp)
      refine ⟨[x], ?_, by simp [Asc], List.Perm.refl _⟩
      show gOrderB (gOrder (n + 1)) [x] [] = _
      unfold gOrderB
      simp only [List.length_cons, List.length_nil]
      rw [show getI [x] 0 = some x from rfl]
      simp only [Option.bind_some]
      rw [show decide (x.length ≤ 4398046511104) = true from decide_eq_true (by omega)]
      rfl
    | x :: y :: t, h, hl, hr =>
      generalize hL : x :: y :: t = l at h hl hr
      have h2 : 2 ≤ l.length := by rw [← hL]; simp
      have hm : IntKind.i64.wrap (((l.length : Nat) : Int).tdiv (2 : Int)) = ((l.length / 2 : Nat) : Int) := by
        rw [show ((l.length : Nat) : Int).tdiv 2 = ((l.length / 2 : Nat) : Int) from rfl]
        exact wrap_eq (by omega) (by omega)
      have s1 : subI l 0 ((l.length / 2 : Nat) : Int) = some (l.take (l.length / 2)) := by
        unfold subI
        rw [if_pos (by omega), Int.toNat_natCast]; rfl
      have s2 : subI l ((l.length / 2 : Nat) : Int) ((l.length : Nat) : Int) = some (l.drop (l.length / 2)) := by
        unfold subI
        rw [if_pos (by omega), Int.toNat_natCast, Int.toNat_natCast, List.take_length]
      obtain ⟨r1, e1, a1, p1⟩ := ih (l.take (l.length / 2)) (by simp; omega) (by simp; omega) fun r hr' => hr r (List.mem_of_mem_take hr')
      obtain ⟨r2, e2, a2, p2⟩ := ih (l.drop (l.length / 2)) (by simp; omega) (by simp; omega) fun r hr' => hr r (List.mem_of_mem_drop hr')
      refine ⟨List.merge r1 r2 leV, ?_, merge_asc a1 a2, ?_⟩
      · show gOrderB (gOrder (n + 1)) l [] = _
        unfold gOrderB
        rw [show decide (((l.length : Nat) : Int) = 0) = false from decide_eq_false (by omega), cond_false, show decide (((l.length : Nat) : Int) = 1) = false from decide_eq_false (by omega), cond_false, show decide ((2 : Int) ≠ 0) = true from rfl, cond_true, hm, s1, s2]
        simp only [Option.bind_some]
        rw [e1, e2]
        simp only [Option.bind_some]
        rw [gMerged_eq (by rw [p1.length_eq]; simp; omega) (by rw [p2.length_eq]; simp; omega) (fun r hr' => hr r (List.mem_of_mem_take (p1.mem_iff.1 hr'))) (fun r hr' => hr r (List.mem_of_mem_drop (p2.mem_iff.1 hr')))]
        rfl
      · refine (List.merge_perm_append leV).trans ((p1.append p2).trans ?_)
        rw [List.take_append_drop]
theorem gSortR_eq (l : List (List Val)) (hl : l.length ≤ 63) (hr : ∀ r ∈ l, r.length ≤ 1000000) : gSortR l = some (sortV l) := by
  obtain ⟨r, e, a, p⟩ := gOrder_eq 63 l hl (by omega) hr
  unfold gSortR
  rw [e, sortV_unique a p]; rfl
theorem gPrintable_at {s : ByteArray} (hs : s.size ≤ 1000000) : ∀ (n i : Nat), i ≤ s.size → s.size - i < n → ∃ r, (loopM (gPrintable_B1 s) n (i : Int)).bind gPrintable_K1 = some r
  | 0, _, _, h => by omega
  | n + 1, i, h1, hn => by
    rw [loopM]
    unfold gPrintable_B1
    dsimp only
    by_cases hlt : i < s.size
    · rw [show decide ((i : Int) < ((s.size : Nat) : Int)) = true from decide_eq_true (by omega), cond_true]
      obtain ⟨b, hb⟩ : ∃ b, getB s (i : Int) = some b := by
        unfold getB
        rw [if_pos (by omega)]
        exact ⟨s[i], by simp [hlt]⟩
      rw [hb]
      simp only [Option.bind_some]
      cases decide (((b.toNat : Nat) : Int) < 32) with
      | true => exact ⟨_, rfl⟩
      | false =>
        cases decide ((126 : Int) < ((b.toNat : Nat) : Int)) with
        | true => exact ⟨_, rfl⟩
        | false =>
          simp only [cond_false]
          rw [wrapN (by omega)]
          exact gPrintable_at hs n (i + 1) (by omega) (by omega)
    · rw [show decide ((i : Int) < ((s.size : Nat) : Int)) = false from decide_eq_false (by omega), cond_false]
      exact ⟨_, rfl⟩
theorem gPrintable_ex {s : ByteArray} (hs : s.size ≤ 1000000) : ∃ r, gPrintable s = some r := by
  have := gPrintable_at hs fuel 0 (Nat.zero_le _) (by unfold fuel; omega)
  rw [show (((0 : Nat) : Int)) = 0 from rfl] at this
  exact this
theorem gValidR_ex (v : Val) : ∃ r, gValidR v = some r := by
  unfold gValidR
  cases decide (v.kind = 0) with
  | true => cases decide (v.int = 0) <;> exact ⟨_, rfl⟩
  | false =>
    cases decide (v.kind = 1) with
    | true => cases (v.text.toList == (⟨#[]⟩ : ByteArray).toList) <;> cases decide ((-1125899906842624 : Int) ≤ v.int) <;> exact ⟨_, rfl⟩
    | false =>
      cases decide (v.kind = 2) with
      | true =>
        cases decide (v.int = 0) with
        | false => exact ⟨_, rfl⟩
        | true =>
          by_cases h : ((v.text.size : Nat) : Int) ≤ 200
          · obtain ⟨r, hr⟩ := gPrintable_ex (s := v.text) (by omega)
            rw [show decide (((v.text.size : Nat) : Int) ≤ 200) = true from decide_eq_true h, hr]
            exact ⟨_, rfl⟩
          · rw [show decide (((v.text.size : Nat) : Int) ≤ 200) = false from decide_eq_false h]
            exact ⟨_, rfl⟩
      | false =>
        cases decide (v.kind = 3) with
        | true => cases (v.text.toList == (⟨#[]⟩ : ByteArray).toList) <;> cases decide (v.int = 0) <;> exact ⟨_, rfl⟩
        | false => exact ⟨_, rfl⟩
theorem gFits8_ex (row : List Val) (kinds : List Int) (h : row.length ≤ 1000000) : ∃ r, gFits8 row kinds = some r := by
  unfold gFits8
  by_cases he : row.length = kinds.length
  · rw [show decide (((row.length : Nat) : Int) ≠ ((kinds.length : Nat) : Int)) = false from decide_eq_false (by omega), cond_false]
    have hz : (row.zip kinds).length = row.length := by simp; omega
    have k := loop_list (l := row.zip kinds) (body := gFits8_B1 row kinds) (mk := fun (_ : Unit) i => i) (f := fun (_ : Unit) (x : Val × Int) => (gValidR x.1).bind fun r => bif (!r) then some (.inr false) else bif decide (x.1.kind ≠ 0) then bif decide (x.1.kind ≠ x.2) then some (.inr false) else some (.inl ()) else some (.inl ())) ?_ ?_ (by unfold fuel; omega) ()
    · obtain ⟨r, hr⟩ := fold_ex (σ := Unit) (ρ := Bool) (f := fun (_ : Unit) (x : Val × Int) => (gValidR x.1).bind fun r => bif (!r) then some (.inr false) else bif decide (x.1.kind ≠ 0) then bif decide (x.1.kind ≠ x.2) then some (.inr false) else some (.inl ()) else some (.inl ())) (row.zip kinds) () (by
        intro s x _
        obtain ⟨r, hr⟩ := gValidR_ex x.1
        rw [hr]
        cases r <;> cases decide (x.1.kind ≠ 0) <;> cases decide (x.1.kind ≠ x.2) <;> exact ⟨_, rfl⟩)
      rw [k, hr]
      cases r with
      | inl _ => exact ⟨_, rfl⟩
      | inr _ => exact ⟨_, rfl⟩
    · intro s i x hx
      obtain ⟨h1, h2⟩ := List.getElem?_zip_eq_some.1 hx
      have hi : i < row.length := (List.getElem?_eq_some_iff.1 h1).1
      unfold gFits8_B1
      dsimp only
      rw [lt_dec h1, cond_true, getI_nat h1, getI_nat h2]
      simp only [Option.bind_some]
      rw [wrapN (by omega)]
      cases gValidR x.1 with
      | none => rfl
      | some r => cases r <;> cases decide (x.1.kind ≠ 0) <;> cases decide (x.1.kind ≠ x.2) <;> rfl
    · intro s
      unfold gFits8_B1
      dsimp only
      rw [hz, lt_decF, cond_false]
  · rw [show decide (((row.length : Nat) : Int) ≠ ((kinds.length : Nat) : Int)) = true from decide_eq_true (by omega)]
    exact ⟨_, rfl⟩
theorem gKind_ex (k : Int) : ∃ r, gKind k = some r := by
  unfold gKind
  cases decide (k = 1) <;> cases decide (k = 2) <;> exact ⟨_, rfl⟩
theorem gKinds_ex (l : List Int) (h : l.length ≤ 1000000) : ∃ r, gKinds l = some r := by
  unfold gKinds
  have k := loop_list (l := l) (body := gKinds_B1 l) (mk := fun (_ : Unit) i => i) (f := fun (_ : Unit) (x : Int) => (gKind x).bind fun r => bif (!r) then some (.inr false) else some (.inl ())) ?_ ?_ (by unfold fuel; omega) ()
  · obtain ⟨r, hr⟩ := fold_ex (σ := Unit) (ρ := Bool) (f := fun (_ : Unit) (x : Int) => (gKind x).bind fun r => bif (!r) then some (.inr false) else some (.inl ())) l () (by
      intro s x _
      obtain ⟨r, hr⟩ := gKind_ex x
      rw [hr]
      cases r <;> exact ⟨_, rfl⟩)
    rw [k, hr]
    cases r with
    | inl _ => exact ⟨_, rfl⟩
    | inr _ => exact ⟨_, rfl⟩
  · intro s i x hx
    have hi : i < l.length := (List.getElem?_eq_some_iff.1 hx).1
    unfold gKinds_B1
    dsimp only
    rw [lt_dec hx, cond_true, getI_nat hx]
    simp only [Option.bind_some]
    rw [wrapN (by omega)]
    cases gKind x with
    | none => rfl
    | some r => cases r <;> rfl
  · intro s
    unfold gKinds_B1
    dsimp only
    rw [lt_decF, cond_false]
theorem gSameKinds_refl (l : List Int) (h : l.length ≤ 1000000) : gSameKinds l l = some true := by
  unfold gSameKinds
  simp only [ne_eq, not_true_eq_false, decide_false, cond_false]
  rw [loop_list (l := l) (mk := fun (_ : Unit) i => i) (f := fun (_ : Unit) (_ : Int) => (some (.inl ()) : Option (Sum Unit Bool))) ?_ ?_ (by unfold fuel; omega) ()]
  · have : ∀ l : List Int, foldS (fun (_ : Unit) (_ : Int) => (some (.inl ()) : Option (Sum Unit Bool))) () l = some (.inl ()) := by
      intro l
      induction l with
      | nil => rfl
      | cons x l ih => rw [foldS]; exact ih
    rw [this]; rfl
  · intro s i x hx
    have hi : i < l.length := (List.getElem?_eq_some_iff.1 hx).1
    unfold gSameKinds_B1
    dsimp only
    rw [lt_dec hx, cond_true, getI_nat hx]
    simp only [Option.bind_some]
    rw [wrapN (by omega)]
    simp [foldN]
  · intro s
    unfold gSameKinds_B1
    dsimp only
    rw [lt_decF, cond_false]
end Go.Proofs.YtfccopdbgfdcdaaGreatDoor
namespace Go.Proofs.YtfccopdbgfdcdaaGreatDoor
open Go.RowKit Go.MapKept
set_option maxRecDepth 100000
set_option linter.unusedVariables false
set_option linter.unusedSimpArgs false
end Go.Proofs.YtfccopdbgfdcdaaGreatDoor
namespace Go.Proofs.YtfccopdbgfdcdaaGreatDoor
open Go.RowKit Go.MapKept
set_option linter.unusedVariables false
set_option maxRecDepth 100000
theorem list2 {α : Type} : ∀ {l : List α}, l.length = 2 → ∃ c0 c1, l = [c0, c1]
  | [c0, c1], _ => ⟨c0, c1, rfl⟩
theorem list3 {α : Type} : ∀ {l : List α}, l.length = 3 → ∃ c0 c1 c2, l = [c0, c1, c2]
  | [c0, c1, c2], _ => ⟨c0, c1, c2, rfl⟩
theorem addr_add (b o n : Nat) : (⟨b, o, none⟩ : Addr).add n = ⟨b, o + n, none⟩ := by
  unfold Addr.add
  split <;> simp_all
def RW {W : World} (hT : TabR (fun b o => W.cell? ⟨b, o, none⟩)) : PH := ⟨fun b o => W.cell? ⟨b, o, none⟩, hT⟩
def CRd {W : World} (hT : TabR (fun b o => W.cell? ⟨b, o, none⟩)) (cs : List Value) (es : List AC) : Prop := cs.length = es.length ∧ ∀ (j : Nat) u x, cs[j]? = some u → es[j]? = some x → PRep (RW hT) u x
theorem CRd.app {W : World} {hT : TabR (fun b o => W.cell? ⟨b, o, none⟩)} {c1 c2 : List Value} {e1 e2 : List AC} (h1 : CRd hT c1 e1) (h2 : CRd hT c2 e2) : CRd hT (c1 ++ c2) (e1 ++ e2) := by
  refine ⟨by rw [List.length_append, List.length_append, h1.1, h2.1], fun j u x hu hx => ?_⟩
  have hl := h1.1
  by_cases hj : j < c1.length
  · rw [List.getElem?_append_left hj] at hu
    rw [List.getElem?_append_left (by omega)] at hx
    exact h1.2 j u x hu hx
  · rw [List.getElem?_append_right (by omega)] at hu
    rw [List.getElem?_append_right (by omega), ← hl] at hx
    exact h2.2 _ u x hu hx
theorem CRd.one {W : World} {hT : TabR (fun b o => W.cell? ⟨b, o, none⟩)} {v : Value} {e : AC} (h : PRep (RW hT) v e) : CRd hT [v] [e] := by
  refine ⟨rfl, fun j u x hu hx => ?_⟩
  match j, hu, hx with
  | 0, hu, hx => simp at hu hx; subst hu hx; exact h
  | j + 1, hu, hx => simp at hu
def IOk (n : Int) : Prop := -9223372036854775808 ≤ n ∧ n ≤ 9223372036854775807
def SOk (s : ByteArray) : Prop := s.size ≤ 9223372036854775807
def LOk {α : Type} (k : Nat) (Q : α → Prop) (l : List α) : Prop := l.length * k ≤ reachBytes ∧ ∀ a ∈ l, Q a
def WOk {H : Type} (t : TypeId) (d : DataW H) : Prop := ∀ n ∈ DataW.weights Tryz.prog t d, n ≤ reachBytes
theorem wok_all {H : Type} {e : TypeId} : ∀ {l : List (DataW H)} {d : DataW H}, d ∈ l → ∀ n ∈ DataW.weights Tryz.prog e d, n ∈ DataW.weightsAll Tryz.prog e l
  | x :: l, d, h, n, hn => by
    rw [DataW.weightsAll, List.mem_append]
    rcases List.mem_cons.1 h with rfl | h
    · exact .inl hn
    · exact .inr (wok_all h n hn)
theorem wok_each {H : Type} : ∀ {ts : List TypeId} {l : List (DataW H)} {i : Nat} {t : TypeId} {d : DataW H}, ts[i]? = some t → l[i]? = some d → ∀ n ∈ DataW.weights Tryz.prog t d, n ∈ DataW.weightsEach Tryz.prog ts l
  | t0 :: ts, d0 :: l, 0, t, d, h1, h2, n, hn => by
    simp at h1 h2; subst h1 h2
    rw [DataW.weightsEach, List.mem_append]; exact .inl hn
  | t0 :: ts, d0 :: l, i + 1, t, d, h1, h2, n, hn => by
    rw [DataW.weightsEach, List.mem_append]; exact .inr (wok_each (by simpa using h1) (by simpa using h2) n hn)
  | [], _, i, t, d, h1, _, n, hn => by simp at h1
  | _ :: _, [], i, t, d, _, h2, n, hn => by simp at h2
section
variable {H : Type} {enc : TypeId × Value → H} {W : World} {hT : TabR (fun b o => W.cell? ⟨b, o, none⟩)} {base : Nat} {spare : Nat → Bool} {held : Bool}
theorem read_int {t : TypeId} (ht : Tryz.prog.underlying t = some (.int .i64)) {cs : List Value} {fuel : Nat} {x : DataW H × List MemPlace} (h : DataW.trod enc Tryz.prog W base spare held fuel t cs = some x) : ∃ n : Int, CRd hT cs [.int .i64 n] ∧ IOk n := by
  obtain ⟨n, rfl, _, hw⟩ := DataW.trod_int ht h
  rw [Lit.wf, Bool.and_eq_true] at hw
  exact ⟨n, CRd.one (.int _ _), of_decide_eq_true hw.1, of_decide_eq_true hw.2⟩
theorem read_str {t : TypeId} (ht : Tryz.prog.underlying t = some .string) {cs : List Value} {fuel : Nat} {x : DataW H × List MemPlace} (h : DataW.trod enc Tryz.prog W base spare held fuel t cs = some x) : ∃ s : ByteArray, CRd hT cs [.str s] ∧ SOk s := by
  obtain ⟨s, rfl, _, hs⟩ := DataW.trod_string ht h
  exact ⟨s, CRd.one (.str _), hs⟩
theorem read_slice {α : Type} {t e : TypeId} {k : Nat} {f : α → List AC} {Q : α → Prop} (ht : Tryz.prog.underlying t = some (.slice e)) (hk : Tryz.prog.cellsOf e = k) {by_ : Nat} (hby : Tryz.prog.bytesOf e = by_) (hk0 : 0 < k) (hf : ∀ x, (f x).length = k) {cs : List Value} {fuel : Nat} {x : DataW H × List MemPlace} (h : DataW.trod enc Tryz.prog W base spare held fuel t cs = some x) (hw : WOk t x.1)
    (hr : ∀ (fuel' : Nat) (cs' : List Value) (x' : DataW H × List MemPlace), fuel' < fuel → DataW.trod enc Tryz.prog W base spare held fuel' e cs' = some x' → WOk e x'.1 → ∃ a, CRd hT cs' (f a) ∧ Q a) : ∃ l : List α, CRd hT cs [.lst (l.map f)] ∧ LOk by_ Q l := by
  rcases DataW.trod_slice ht h with ⟨rfl, _⟩ | ⟨a, len, cap, elems, rest, n, hfu, rfl, hxe, _, hlc, hm, hel, hx, _, _⟩
  · exact ⟨[], CRd.one (prep_nil _ _ _), by simp, fun a ha => by cases ha⟩
  · have hww : (∀ n ∈ DataW.weightsAll Tryz.prog e (elems.map (·.1)), n ≤ reachBytes) ∧ len * by_ ≤ reachBytes := by
      rw [hxe] at hw
      unfold WOk at hw
      simp only [DataW.weights, ht] at hw
      refine ⟨fun n hn => hw n (List.mem_cons_of_mem _ (List.mem_append_left _ hn)), ?_⟩
      have := hw _ (List.mem_cons_self ..)
      simp only [List.length_map, hel, hby] at this
      exact Nat.le_trans (Nat.mul_le_mul_right _ (Nat.le_add_right _ _)) this
    have hi : ∀ i, i < len → ∃ y, (∃ cs', W.cells? base (a.add (i * k)) k = some cs' ∧ CRd hT cs' (f y)) ∧ Q y := by
      intro i hlt
      have h1 := hx i hlt
      rw [List.getElem?_eq_getElem (by omega), hk] at h1
      cases hc : W.cells? base (a.add (i * k)) k with
      | none => rw [hc] at h1; cases h1
      | some cs' => rw [hc] at h1; obtain ⟨y, h2, h3⟩ := hr n cs' _ (by omega) h1 (fun m hm => hww.1 m (wok_all (List.mem_map_of_mem (f := fun p : DataW H × List MemPlace => p.1) (List.getElem_mem (by omega))) m hm)); exact ⟨y, ⟨cs', rfl, h2⟩, h3⟩
    rcases Nat.eq_zero_or_pos len with h0 | h0
    · subst h0; exact ⟨[], CRd.one (prep_nil _ _ _), by simp, fun a ha => by cases ha⟩
    · obtain ⟨y0, ⟨cs0, hc0, _⟩, _⟩ := hi 0 h0
      let g : Nat → α := fun i => if h : i < len then Classical.choose (hi i h) else y0
      have hg : ∀ i, i < len → (∃ cs', W.cells? base (a.add (i * k)) k = some cs' ∧ CRd hT cs' (f (g i))) ∧ Q (g i) := by
        intro i hlt
        have : g i = Classical.choose (hi i hlt) := by simp [g, hlt]
        rw [this]
        exact Classical.choose_spec (hi i hlt)
      obtain ⟨b, off, spot⟩ := a
      have hs0 : spot = none := by
        obtain ⟨_, hl, hat⟩ := World.cells?_some hc0
        have h1 := hat 0 hk0
        rw [List.getElem?_eq_getElem (by omega)] at h1
        have := World.cell?_spot h1
        simpa [Addr.add] using this
      subst hs0
      refine ⟨(List.range len).map g, CRd.one ?_, (by rw [List.length_map, List.length_range]; exact hww.2), ?_⟩
      · have cell : ∀ i, i < len → ∀ j, j < k → ∃ u y, W.cell? ⟨b, off + (i * k + j), none⟩ = some u ∧ (f (g i))[j]? = some y ∧ PRep (RW hT) u y := by
          intro i hlt j hj
          obtain ⟨⟨cs', hc, hcr⟩, _⟩ := hg i hlt
          obtain ⟨_, hl, hat⟩ := World.cells?_some hc
          have h1 := hat j hj
          rw [List.getElem?_eq_getElem (by omega)] at h1
          have hfl := hf (g i)
          refine ⟨_, _, ?_, List.getElem?_eq_getElem (by omega), hcr.2 j _ _ (List.getElem?_eq_getElem (by omega)) (List.getElem?_eq_getElem (by omega))⟩
          rw [addr_add, addr_add, Nat.add_assoc] at h1
          exact h1
        refine .lst (some ⟨b, off, none⟩) len cap _ k (fun j => (W.cell? ⟨b, off + j, none⟩).getD (.bool false)) b off (by simp) hlc ?_ (fun _ => rfl) ?_ ?_
        · intro e he
          simp only [List.map_map, List.mem_map] at he
          obtain ⟨i, _, rfl⟩ := he
          exact hf _
        · intro j hj
          have hd : j / k < len := by rw [Nat.div_lt_iff_lt_mul hk0]; exact hj
          obtain ⟨u, y, h1, _, _⟩ := cell (j / k) hd (j % k) (Nat.mod_lt _ hk0)
          have hjj : j / k * k + j % k = j := by rw [Nat.mul_comm]; exact Nat.div_add_mod j k
          rw [hjj] at h1
          show W.cell? _ = _
          rw [h1]; rfl
        · intro i e j x he hxx
          have hlt : i < len := by have := (List.getElem?_eq_some_iff.1 he).1; simpa using this
          have : e = f (g i) := by simp [hlt] at he; exact he.symm
          subst this
          have hj : j < k := by have := (List.getElem?_eq_some_iff.1 hxx).1; rw [hf] at this; exact this
          obtain ⟨u, y, h1, h2, h3⟩ := cell i hlt j hj
          rw [h2] at hxx
          obtain rfl := Option.some.inj hxx
          rw [h1]; exact h3
      · intro a ha
        simp only [List.mem_map, List.mem_range] at ha
        obtain ⟨i, hlt, rfl⟩ := ha
        exact (hg i hlt).2
theorem fld {s : TypeId} {x : DataW H × List MemPlace} {fs : Array Field} {n : Nat} {cs : List Value} {xs : List (DataW H × List MemPlace)} (hs : Tryz.prog.underlying s = some (.struct fs)) (hx : x = (.agg (xs.map (·.1)), xs.flatMap (·.2))) (hw : WOk s x.1) (hl : xs.length = fs.size) (hf : ∀ (i : Nat) (f : Field), fs[i]? = some f → DataW.trod enc Tryz.prog W base spare held n f.type ((cs.drop f.offset).take (Tryz.prog.cellsOf f.type)) = xs[i]?)
    (i : Nat) {f : Field} {t o k : Nat} (hi : fs[i]? = some f) (h1 : f.type = t) (h2 : f.offset = o) (h3 : Tryz.prog.cellsOf t = k) : ∃ y, DataW.trod enc Tryz.prog W base spare held n t ((cs.drop o).take k) = some y ∧ WOk t y.1 := by
  have hlt : i < fs.size := (Array.getElem?_eq_some_iff.1 hi).1
  have := hf i f hi
  rw [h1, h2, h3, List.getElem?_eq_getElem (by omega)] at this
  refine ⟨_, this, fun m hm => ?_⟩
  rw [hx] at hw
  unfold WOk at hw
  simp only [DataW.weights, hs] at hw
  refine hw m (wok_each (i := i) ?_ ?_ m hm)
  · rw [List.getElem?_map, Array.getElem?_toList, hi]; simp [h1]
  · rw [List.getElem?_map, List.getElem?_eq_getElem (by omega)]; rfl
end
structure okVal (x : Val) : Prop where
  kind : IOk x.kind
  int : IOk x.int
  text : SOk x.text
section
variable {H : Type} {enc : TypeId × Value → H} {W : World} {hT : TabR (fun b o => W.cell? ⟨b, o, none⟩)} {base : Nat} {spare : Nat → Bool} {held : Bool}
theorem rd_Val : ∀ (fuel : Nat) {cs : List Value} {x : DataW H × List MemPlace}, DataW.trod enc Tryz.prog W base spare held fuel 27 cs = some x → WOk 27 x.1 → ∃ a : Val, CRd hT cs (cV a) ∧ okVal a := by
  intro fuel
  intro cs x h hw
  obtain ⟨xs, n, hfu, hxe, hlen, hxs, hf⟩ := DataW.trod_struct Tryz.underlying27 h
  rw [show Tryz.prog.cellsOf 27 = 3 by kernel_rfl] at hlen
  obtain ⟨c0, c1, c2, rfl⟩ := list3 hlen
  obtain ⟨y0, h0, w0⟩ := fld Tryz.underlying27 hxe hw hxs hf 0 (t := 3) (o := 0) (k := 1) rfl rfl rfl (by kernel_rfl)
  replace h0 : DataW.trod enc Tryz.prog W base spare held n 3 [c0] = some y0 := h0
  obtain ⟨l0, r0, q0⟩ := read_int Tryz.underlying3 h0
  obtain ⟨y1, h1, w1⟩ := fld Tryz.underlying27 hxe hw hxs hf 1 (t := 3) (o := 1) (k := 1) rfl rfl rfl (by kernel_rfl)
  replace h1 : DataW.trod enc Tryz.prog W base spare held n 3 [c1] = some y1 := h1
  obtain ⟨l1, r1, q1⟩ := read_int Tryz.underlying3 h1
  obtain ⟨y2, h2, w2⟩ := fld Tryz.underlying27 hxe hw hxs hf 2 (t := 9) (o := 2) (k := 1) rfl rfl rfl (by kernel_rfl)
  replace h2 : DataW.trod enc Tryz.prog W base spare held n 9 [c2] = some y2 := h2
  obtain ⟨l2, r2, q2⟩ := read_str Tryz.underlying9 h2
  exact ⟨⟨l0, l1, l2⟩, ((r0.app r1).app r2), ⟨q0, q1, q2⟩⟩
end
structure okPer (x : Per) : Prop where
  lo : IOk x.lo
  hi : IOk x.hi
section
variable {H : Type} {enc : TypeId × Value → H} {W : World} {hT : TabR (fun b o => W.cell? ⟨b, o, none⟩)} {base : Nat} {spare : Nat → Bool} {held : Bool}
theorem rd_Per : ∀ (fuel : Nat) {cs : List Value} {x : DataW H × List MemPlace}, DataW.trod enc Tryz.prog W base spare held fuel 43 cs = some x → WOk 43 x.1 → ∃ a : Per, CRd hT cs (cPer a) ∧ okPer a := by
  intro fuel
  intro cs x h hw
  obtain ⟨xs, n, hfu, hxe, hlen, hxs, hf⟩ := DataW.trod_struct Tryz.underlying43 h
  rw [show Tryz.prog.cellsOf 43 = 2 by kernel_rfl] at hlen
  obtain ⟨c0, c1, rfl⟩ := list2 hlen
  obtain ⟨y0, h0, w0⟩ := fld Tryz.underlying43 hxe hw hxs hf 0 (t := 3) (o := 0) (k := 1) rfl rfl rfl (by kernel_rfl)
  replace h0 : DataW.trod enc Tryz.prog W base spare held n 3 [c0] = some y0 := h0
  obtain ⟨l0, r0, q0⟩ := read_int Tryz.underlying3 h0
  obtain ⟨y1, h1, w1⟩ := fld Tryz.underlying43 hxe hw hxs hf 1 (t := 3) (o := 1) (k := 1) rfl rfl rfl (by kernel_rfl)
  replace h1 : DataW.trod enc Tryz.prog W base spare held n 3 [c1] = some y1 := h1
  obtain ⟨l1, r1, q1⟩ := read_int Tryz.underlying3 h1
  exact ⟨⟨l0, l1⟩, (r0.app r1), ⟨q0, q1⟩⟩
theorem rd_l70 {cs : List Value} {fuel : Nat} {x : DataW H × List MemPlace} (h : DataW.trod enc Tryz.prog W base spare held fuel 70 cs = some x) (hw : WOk 70 x.1) : ∃ l : List Val, CRd hT cs [.lst (l.map cV)] ∧ LOk 32 okVal l :=
  read_slice (k := 3) (f := cV) (Q := okVal) Tryz.underlying70 (by kernel_rfl) (by kernel_rfl) (by decide) (fun _ => rfl) h hw (fun f c x _ h hw => rd_Val f h hw)
end
structure okFct (x : Fct) : Prop where
  row : (LOk 32 okVal) x.row
  valid : okPer x.valid
section
variable {H : Type} {enc : TypeId × Value → H} {W : World} {hT : TabR (fun b o => W.cell? ⟨b, o, none⟩)} {base : Nat} {spare : Nat → Bool} {held : Bool}
theorem rd_Fct : ∀ (fuel : Nat) {cs : List Value} {x : DataW H × List MemPlace}, DataW.trod enc Tryz.prog W base spare held fuel 72 cs = some x → WOk 72 x.1 → ∃ a : Fct, CRd hT cs (cFct a) ∧ okFct a := by
  intro fuel
  intro cs x h hw
  obtain ⟨xs, n, hfu, hxe, hlen, hxs, hf⟩ := DataW.trod_struct Tryz.underlying72 h
  rw [show Tryz.prog.cellsOf 72 = 3 by kernel_rfl] at hlen
  obtain ⟨c0, c1, c2, rfl⟩ := list3 hlen
  obtain ⟨y0, h0, w0⟩ := fld Tryz.underlying72 hxe hw hxs hf 0 (t := 70) (o := 0) (k := 1) rfl rfl rfl (by kernel_rfl)
  replace h0 : DataW.trod enc Tryz.prog W base spare held n 70 [c0] = some y0 := h0
  obtain ⟨l0, r0, q0⟩ := rd_l70 h0 w0
  obtain ⟨y1, h1, w1⟩ := fld Tryz.underlying72 hxe hw hxs hf 1 (t := 43) (o := 1) (k := 2) rfl rfl rfl (by kernel_rfl)
  replace h1 : DataW.trod enc Tryz.prog W base spare held n 43 [c1, c2] = some y1 := h1
  obtain ⟨l1, r1, q1⟩ := rd_Per n h1 w1
  exact ⟨⟨l0, l1⟩, (r0.app r1), ⟨q0, q1⟩⟩
theorem rd_l22 {cs : List Value} {fuel : Nat} {x : DataW H × List MemPlace} (h : DataW.trod enc Tryz.prog W base spare held fuel 22 cs = some x) (hw : WOk 22 x.1) : ∃ l : List Int, CRd hT cs [.lst (l.map (fun x => [AC.int .i64 x]))] ∧ LOk 8 IOk l :=
  read_slice (k := 1) (f := (fun x => [AC.int .i64 x])) (Q := IOk) Tryz.underlying22 (by kernel_rfl) (by kernel_rfl) (by decide) (fun _ => rfl) h hw (fun f c x _ h hw => read_int Tryz.underlying3 h)
theorem rd_l23 {cs : List Value} {fuel : Nat} {x : DataW H × List MemPlace} (h : DataW.trod enc Tryz.prog W base spare held fuel 23 cs = some x) (hw : WOk 23 x.1) : ∃ l : List Fct, CRd hT cs [.lst (l.map cFct)] ∧ LOk 40 okFct l :=
  read_slice (k := 3) (f := cFct) (Q := okFct) Tryz.underlying23 (by kernel_rfl) (by kernel_rfl) (by decide) (fun _ => rfl) h hw (fun f c x _ h hw => rd_Fct f h hw)
end
structure okRln (x : Rln) : Prop where
  kinds : (LOk 8 IOk) x.kinds
  facts : (LOk 40 okFct) x.facts
section
variable {H : Type} {enc : TypeId × Value → H} {W : World} {hT : TabR (fun b o => W.cell? ⟨b, o, none⟩)} {base : Nat} {spare : Nat → Bool} {held : Bool}
theorem rd_Rln : ∀ (fuel : Nat) {cs : List Value} {x : DataW H × List MemPlace}, DataW.trod enc Tryz.prog W base spare held fuel 25 cs = some x → WOk 25 x.1 → ∃ a : Rln, CRd hT cs (cRln a) ∧ okRln a := by
  intro fuel
  intro cs x h hw
  obtain ⟨xs, n, hfu, hxe, hlen, hxs, hf⟩ := DataW.trod_struct Tryz.underlying25 h
  rw [show Tryz.prog.cellsOf 25 = 2 by kernel_rfl] at hlen
  obtain ⟨c0, c1, rfl⟩ := list2 hlen
  obtain ⟨y0, h0, w0⟩ := fld Tryz.underlying25 hxe hw hxs hf 0 (t := 22) (o := 0) (k := 1) rfl rfl rfl (by kernel_rfl)
  replace h0 : DataW.trod enc Tryz.prog W base spare held n 22 [c0] = some y0 := h0
  obtain ⟨l0, r0, q0⟩ := rd_l22 h0 w0
  obtain ⟨y1, h1, w1⟩ := fld Tryz.underlying25 hxe hw hxs hf 1 (t := 23) (o := 1) (k := 1) rfl rfl rfl (by kernel_rfl)
  replace h1 : DataW.trod enc Tryz.prog W base spare held n 23 [c1] = some y1 := h1
  obtain ⟨l1, r1, q1⟩ := rd_l23 h1 w1
  exact ⟨⟨l0, l1⟩, (r0.app r1), ⟨q0, q1⟩⟩
end
end Go.Proofs.YtfccopdbgfdcdaaGreatDoor
namespace Go.Proofs.YtfccopdbgfdcdaaGreatDoor
open Go.RowKit Go.MapKept
set_option maxRecDepth 100000
set_option linter.unusedVariables false
set_option linter.unusedSimpArgs false
end Go.Proofs.YtfccopdbgfdcdaaGreatDoor
namespace Go.Proofs.YtfccopdbgfdcdaaGreatDoor
open Go.RowKit Go.MapKept
theorem split32 : ∀ (a b x y : List UInt8), (32 : UInt8) ∉ a → (32 : UInt8) ∉ b → a ++ 32 :: x = b ++ 32 :: y → a = b ∧ x = y
  | [], [], x, y, _, _, h => by simpa using h
  | [], c :: b, x, y, _, hb, h => by
    simp at h
    exact absurd h.1.symm (fun e => hb (by rw [e]; simp))
  | c :: a, [], x, y, ha, _, h => by
    simp at h
    exact absurd h.1 (fun e => ha (by rw [e]; simp))
  | c :: a, d :: b, x, y, ha, hb, h => by
    simp at h
    obtain ⟨h1, h2⟩ := split32 a b x y (fun q => ha (List.mem_cons_of_mem _ q)) (fun q => hb (List.mem_cons_of_mem _ q)) h.2
    exact ⟨by rw [h.1, h1], h2⟩
def isDig (b : UInt8) : Prop := 48 ≤ b.toNat ∧ b.toNat ≤ 57
theorem dig_of {d : Nat} (h : d < 10) : (UInt8.ofNat (48 + d)).toNat = 48 + d := by
  rw [UInt8.toNat_ofNat']; omega
theorem decDigits_dig (u : Nat) : ∀ b ∈ Lib.decDigits u, isDig b := by
  induction u using Nat.strongRecOn with
  | _ u ih =>
    intro b hb
    rw [Lib.decDigits] at hb
    split at hb
    · rename_i h
      rw [List.mem_singleton.1 hb]; unfold isDig; rw [dig_of h]; omega
    · rename_i h
      rcases List.mem_append.1 hb with hb | hb
      · exact ih (u / 10) (by omega) b hb
      · rw [List.mem_singleton.1 hb]; unfold isDig; rw [dig_of (by omega)]; omega
def decVal (l : List UInt8) : Nat := l.foldl (fun a b => a * 10 + (b.toNat - 48)) 0
theorem decVal_snoc (l : List UInt8) (b : UInt8) : decVal (l ++ [b]) = decVal l * 10 + (b.toNat - 48) := by unfold decVal; rw [List.foldl_append]; rfl
theorem decVal_digits (u : Nat) : decVal (Lib.decDigits u) = u := by
  induction u using Nat.strongRecOn with
  | _ u ih =>
    rw [Lib.decDigits]
    split
    · rename_i h
      show 0 * 10 + ((UInt8.ofNat (48 + u)).toNat - 48) = u
      rw [dig_of h]; omega
    · rename_i h
      rw [decVal_snoc, ih (u / 10) (by omega), dig_of (by omega)]; omega
theorem decDigits_inj {u v : Nat} (h : Lib.decDigits u = Lib.decDigits v) : u = v := by rw [← decVal_digits u, h, decVal_digits]
theorem itoa_ne32 (n : Int) : (32 : UInt8) ∉ Lib.itoa n := by
  intro h
  unfold Lib.itoa at h
  split at h
  · rcases List.mem_cons.1 h with h | h
    · exact absurd h (by decide)
    · have := (decDigits_dig _ _ h).1; exact absurd this (by decide)
  · have := (decDigits_dig _ _ h).1; exact absurd this (by decide)
theorem itoa_inj {n m : Int} (h : Lib.itoa n = Lib.itoa m) : n = m := by
  have key : ∀ (a b : Nat), Lib.decDigits a ≠ 45 :: Lib.decDigits b := by
    intro a b e
    have := (decDigits_dig a 45 (by rw [e]; simp)).1
    exact absurd this (by decide)
  unfold Lib.itoa at h
  split at h <;> split at h
  · have := decDigits_inj (List.cons.inj h).2; omega
  · exact absurd h.symm (key _ _)
  · exact absurd h (key _ _)
  · have := decDigits_inj h; omega
def codeL (v : Val) : List UInt8 := Lib.itoa v.kind ++ 32 :: (Lib.itoa v.int ++ 32 :: (Lib.itoa v.text.size ++ 32 :: v.text.data.toList))
def keyL (l : List Val) : List UInt8 := l.flatMap codeL
theorem ba_app (a b : ByteArray) : (a ++ b).data.toList = a.data.toList ++ b.data.toList := by simp
theorem keyC_list (l : List Val) : (keyC l).data.toList = keyL l := by
  have : ∀ (l : List Val) (a : ByteArray), (l.foldl (fun a v => numS a (keyNs v) ++ v.text) a).data.toList = a.data.toList ++ keyL l := by
    intro l
    induction l with
    | nil => intro a; simp [keyL]
    | cons v l ih =>
      intro a
      rw [List.foldl_cons, ih]
      have e : numS a (keyNs v) = a ++ itoaB v.kind ++ c32 ++ itoaB v.int ++ c32 ++ itoaB v.text.size ++ c32 := rfl
      have e1 : ∀ n, (itoaB n).data.toList = Lib.itoa n := fun n => rfl
      have e2 : c32.data.toList = [32] := rfl
      rw [e]
      simp only [ba_app, e1, e2, keyL, List.flatMap_cons, codeL, List.append_assoc, List.cons_append, List.nil_append]
  have := this l ⟨#[]⟩
  simpa [keyC] using this
theorem code_cons {v w : Val} {x y : List UInt8} (h : codeL v ++ x = codeL w ++ y) : v = w ∧ x = y := by
  unfold codeL at h
  simp only [List.append_assoc, List.cons_append] at h
  obtain ⟨h1, h⟩ := split32 _ _ _ _ (itoa_ne32 _) (itoa_ne32 _) h
  obtain ⟨h2, h⟩ := split32 _ _ _ _ (itoa_ne32 _) (itoa_ne32 _) h
  obtain ⟨h3, h⟩ := split32 _ _ _ _ (itoa_ne32 _) (itoa_ne32 _) h
  have h3 := itoa_inj h3
  have hs : v.text.data.toList.length = w.text.data.toList.length := by
    have e : ∀ s : ByteArray, s.data.toList.length = s.size := fun s => rfl
    rw [e, e]; omega
  obtain ⟨h4, h5⟩ := List.append_inj h hs
  refine ⟨?_, h5⟩
  obtain ⟨a, b, ⟨⟨c⟩⟩⟩ := v
  obtain ⟨a', b', ⟨⟨c'⟩⟩⟩ := w
  simp only at h1 h2 h4
  rw [itoa_inj h1, itoa_inj h2, h4]
theorem keyL_inj : ∀ (a b : List Val), keyL a = keyL b → a = b
  | [], [], _ => rfl
  | [], w :: b, h => by
    have := congrArg List.length h
    simp [keyL, codeL] at this
  | v :: a, [], h => by
    have := congrArg List.length h
    simp [keyL, codeL] at this
  | v :: a, w :: b, h => by
    have h' : codeL v ++ keyL a = codeL w ++ keyL b := h
    obtain ⟨h1, h2⟩ := code_cons h'
    rw [h1, keyL_inj a b h2]
theorem key_inj {a b : List Val} (h : keyC a = keyC b) : a = b := keyL_inj a b (by rw [← keyC_list, ← keyC_list, h])
end Go.Proofs.YtfccopdbgfdcdaaGreatDoor
namespace Go.Proofs.YtfccopdbgfdcdaaGreatDoor.St
open Go.RowKit
theorem ofL_perm {A B : List ((Int × Int) × Int)} (h : (chg A).Perm (chg B)) : ofL A = ofL B := by
  have h1 : rsum A = rsum B := by
    funext p
    rw [rsum_eq, rsum_eq, ← csum_chg A p, ← csum_chg B p, csum_perm h]
  have h2 : ofPts A = ofPts B := by
    refine (ofPts_spec A).1.ext (ofPts_spec B).1 fun x => ?_
    rw [(ofPts_spec A).2, (ofPts_spec B).2]
    constructor
    · rintro ⟨h3 | ⟨y, hy⟩, h4⟩
      · exact ⟨.inl h3, h4⟩
      · exact ⟨.inr ⟨y, h.mem_iff.1 hy⟩, h4⟩
    · rintro ⟨h3 | ⟨y, hy⟩, h4⟩
      · exact ⟨.inl h3, h4⟩
      · exact ⟨.inr ⟨y, h.mem_iff.2 hy⟩, h4⟩
  unfold ofL
  rw [h1, h2]
theorem sasc_pairwise {P : List Int} (h : SAsc P) : P.Pairwise (· < ·) := List.pairwise_iff_getElem.2 fun i j hi hj hij => h i j _ _ hij (List.getElem?_eq_getElem hi) (List.getElem?_eq_getElem hj)
theorem asc_of_pairwise {l : List (Int × Int)} (h : l.Pairwise fun x y => x.1 < y.1) : Asc l := by
  intro i j x y hij hx hy
  obtain ⟨hi, rfl⟩ := List.getElem?_eq_some_iff.1 hx
  obtain ⟨hj, rfl⟩ := List.getElem?_eq_some_iff.1 hy
  exact List.pairwise_iff_getElem.1 h i j hi hj hij
theorem comb_fold (f : Int → Int) : ∀ (P : List Int) (acc : List (Int × Int)), P.Pairwise (· < ·) → (acc.Pairwise fun x y => x.1 < y.1) → (∀ s ∈ acc, ∀ x ∈ P, s.1 < x) → (∀ s ∈ acc, s.2 = f s.1) →
    ((P.foldl (fun acc p => putS acc (p, f p)) acc).Pairwise fun x y => x.1 < y.1) ∧ ∀ s ∈ P.foldl (fun acc p => putS acc (p, f p)) acc, (s ∈ acc ∨ s.1 ∈ P) ∧ s.2 = f s.1
  | [], acc, _, h2, _, h4 => ⟨h2, fun s hs => ⟨.inl hs, h4 s hs⟩⟩
  | x :: P, acc, h1, h2, h3, h4 => by
    rw [List.foldl_cons]
    have hp := List.pairwise_cons.1 h1
    have hput : ∀ s ∈ putS acc (x, f x), s ∈ acc ∨ s = (x, f x) := by
      intro s hs
      unfold putS at hs
      split at hs
      · exact .inl hs
      · rcases List.mem_append.1 hs with hs | hs
        · exact .inl hs
        · exact .inr (List.mem_singleton.1 hs)
    have hpw : (putS acc (x, f x)).Pairwise fun x y => x.1 < y.1 := by
      unfold putS
      split
      · exact h2
      · refine List.pairwise_append.2 ⟨h2, List.pairwise_singleton _ _, fun a ha b hb => ?_⟩
        rw [List.mem_singleton.1 hb]
        exact h3 a ha x (by simp)
    obtain ⟨q1, q2⟩ := comb_fold f P (putS acc (x, f x)) hp.2 hpw (fun s hs y hy => by
      rcases hput s hs with h | rfl
      · exact h3 s h y (List.mem_cons_of_mem _ hy)
      · exact hp.1 y hy) (fun s hs => by
      rcases hput s hs with h | rfl
      · exact h4 s h
      · rfl)
    refine ⟨q1, fun s hs => ?_⟩
    obtain ⟨h5, h6⟩ := q2 s hs
    refine ⟨?_, h6⟩
    rcases h5 with h5 | h5
    · rcases hput s h5 with h | rfl
      · exact .inl h
      · exact .inr (by simp)
    · exact .inr (List.mem_cons_of_mem _ h5)
theorem ofL_spec (l : List ((Int × Int) × Int)) : Asc (ofL l) ∧ ∀ s ∈ ofL l, s.1 < 1099511627776 ∧ s.2 = rsum l s.1 := by
  obtain ⟨h1, h2⟩ := comb_fold (rsum l) (ofPts l) [] (sasc_pairwise (ofPts_spec l).1) List.Pairwise.nil (fun s hs => by cases hs) (fun s hs => by cases hs)
  refine ⟨asc_of_pairwise h1, fun s hs => ?_⟩
  obtain ⟨h3, h4⟩ := h2 s hs
  rcases h3 with h3 | h3
  · cases h3
  · exact ⟨((ofPts_spec l).2 s.1).1 h3 |>.2, h4⟩
theorem ofL_len (l : List ((Int × Int) × Int)) : (ofL l).length ≤ 1 + 2 * l.length := by
  have h1 := combS_len (rsum l) (ofPts l)
  have h2 : (ofPts l).length ≤ 1 + 2 * l.length := by
    have ha : ∀ (l : List ((Int × Int) × Int)) (p : List Int), (l.foldl (fun p c => if pvalid c.1 then ins c.1.2 (ins c.1.1 p) else p) p).length ≤ p.length + 2 * l.length := by
      intro l
      induction l with
      | nil => intro p; simp
      | cons c l ih =>
        intro p
        rw [List.foldl_cons, List.length_cons]
        have := ih (if pvalid c.1 then ins c.1.2 (ins c.1.1 p) else p)
        have h3 : (if pvalid c.1 then ins c.1.2 (ins c.1.1 p) else p).length ≤ p.length + 2 := by
          split
          · have q1 := ins_len c.1.2 (ins c.1.1 p); have q2 := ins_len c.1.1 p; omega
          · omega
        omega
    have h4 := ha l [0]
    have h5 : (ofPts l).length ≤ (ofAll l).length := by unfold ofPts; exact takeWhile_len _ _
    have h6 : ofAll l = l.foldl (fun p c => if pvalid c.1 then ins c.1.2 (ins c.1.1 p) else p) [0] := rfl
    rw [h6] at h5
    simp at h4; omega
  show (combS (rsum l) (ofPts l)).length ≤ _
  omega
theorem isum_ones (p : Int) : ∀ l : List ((Int × Int) × Int), (∀ c ∈ l, c.2 = 1) → 0 ≤ isum l p ∧ isum l p ≤ l.length
  | [], _ => by simp [isum]
  | c :: l, h => by
    have ih := isum_ones p l fun x hx => h x (List.mem_cons_of_mem _ hx)
    have hi : isum (c :: l) p = (if pcontains c.1 p then c.2 else 0) + isum l p := by simp [isum]
    have hc := h c (by simp)
    rw [hi, List.length_cons]
    split <;> omega
theorem rsum_ones {l : List ((Int × Int) × Int)} (p : Int) (h : ∀ c ∈ l, c.2 = 1) (hn : l.length ≤ 1000000) : rsum l p = isum l p := by
  have := isum_ones p l h
  rw [rsum_eq]; unfold wrap64; omega
end Go.Proofs.YtfccopdbgfdcdaaGreatDoor.St
namespace Go.Proofs.YtfccopdbgfdcdaaGreatDoor
open Go.RowKit
def ones (ps : List Per) : List Cnt := ps.map fun p => ⟨p, 1⟩
def levOf (ps : List Per) : List Per := levV (ofV (ones ps))
theorem ones_two (ps : List Per) : ∀ c ∈ (ones ps).map toC, c.2 = 1 := by
  intro c hc
  obtain ⟨x, hx, rfl⟩ := List.mem_map.1 hc
  obtain ⟨p, _, rfl⟩ := List.mem_map.1 hx
  rfl
theorem levOK_of (ps : List Per) (hn : ps.length ≤ 300) : LevOK (ofV (ones ps)) := by
  have hl : ((ones ps).map toC).length = ps.length := by simp [ones]
  obtain ⟨h1, h2⟩ := St.ofL_spec ((ones ps).map toC)
  have h3 := St.ofL_len ((ones ps).map toC)
  rw [hl] at h3
  have e : (ofV (ones ps)).map toS = St.ofL ((ones ps).map toC) := by
    unfold ofV
    rw [List.map_map]
    have : (toS ∘ ofS) = id := by funext x; rfl
    rw [this, List.map_id]
  refine ⟨by unfold ofV; rw [List.length_map]; omega, by rw [e]; exact h1, fun s hs => ?_, fun s hs => ?_⟩
  · have : toS s ∈ St.ofL ((ones ps).map toC) := by rw [← e]; exact List.mem_map_of_mem hs
    exact (h2 _ this).1
  · have : toS s ∈ St.ofL ((ones ps).map toC) := by rw [← e]; exact List.mem_map_of_mem hs
    have h4 := (h2 _ this).2
    rw [St.rsum_ones _ (ones_two ps) (by omega)] at h4
    have h5 := (St.isum_ones (toS s).1 _ (ones_two ps)).2
    rw [hl] at h5
    show (toS s).2 ≤ 600
    omega
theorem chg_ones (ps : List Per) : St.chg ((ones ps).map toC) = ps.flatMap fun p => St.chg1 (toP p, 1) := by
  unfold St.chg ones
  rw [List.map_map, List.flatMap_map]; rfl
theorem levOf_perm {ps qs : List Per} (h : (ps.filter fun p => St.pvalid (toP p)).Perm (qs.filter fun p => St.pvalid (toP p))) : levOf ps = levOf qs := by
  have key : ∀ l : List Per, (l.flatMap fun p => St.chg1 (toP p, 1)) = (l.filter fun p => St.pvalid (toP p)).flatMap fun p => St.chg1 (toP p, 1) := by
    intro l
    induction l with
    | nil => rfl
    | cons p l ih =>
      rw [List.flatMap_cons, ih, List.filter_cons]
      by_cases hp : St.pvalid (toP p) = true
      · rw [if_pos hp, List.flatMap_cons]
      · have e : St.chg1 (toP p, 1) = [] := by unfold St.chg1; rw [if_neg hp]
        rw [if_neg hp, e, List.nil_append]
  have : ofV (ones ps) = ofV (ones qs) := by
    unfold ofV
    rw [St.ofL_perm (A := (ones ps).map toC) (B := (ones qs).map toC)]
    rw [chg_ones, chg_ones, key ps, key qs]
    exact h.flatMap_right _
  unfold levOf
  rw [this]
theorem levM_one {x : Int × Int} {l : List (Int × Int)} (h1 : St.atl l 1 = [x]) (h2 : ∀ j : Nat, St.atl l ((j : Int) + 2) = []) : St.levM l = [x] := by
  have : St.levAll l = [x] := by
    unfold St.levAll
    rw [show (600 : Nat) = 599 + 1 from rfl, List.range_succ_eq_map, List.flatMap_cons]
    rw [show St.atl l (((0 : Nat) : Int) + 1) = [x] from h1]
    have : (List.map Nat.succ (List.range 599)).flatMap (fun j : Nat => St.atl l ((j : Int) + 1)) = [] := by
      rw [List.flatMap_eq_nil_iff]
      intro j hj
      obtain ⟨k, _, rfl⟩ := List.mem_map.1 hj
      have := h2 k
      rw [show ((k : Int) + 2) = ((Nat.succ k : Nat) : Int) + 1 by push_cast; omega] at this
      exact this
    rw [this, List.append_nil]
  unfold St.levM
  rw [this]
  simp [St.placeP]
theorem rsum_single (p : Int × Int) (t : Int) : St.rsum [(p, 1)] t = if St.pcontains p t then 1 else 0 := by
  rw [St.rsum_ones t (by simp) (by simp)]
  simp [St.isum]
theorem levOf_one (p : Per) (hp : St.pvalid (toP p) = true) : levOf [p] = [p] := by
  obtain ⟨a, b⟩ := p
  have hv : 0 ≤ a ∧ a < b ∧ b ≤ 1099511627776 := by
    have h : St.pvalid (a, b) = true := hp
    simp [St.pvalid] at h
    omega
  have hpts : St.ofPts [(((a, b) : Int × Int), 1)] = (if a = 0 then [0] else [0, a]) ++ (if b < 1099511627776 then [b] else []) := by
    have e : St.ofAll [(((a, b) : Int × Int), 1)] = St.ins b (St.ins a [0]) := by
      unfold St.ofAll
      simp only [List.foldl_cons, List.foldl_nil]
      rw [if_pos (show St.pvalid (a, b) = true from hp)]
    unfold St.ofPts
    rw [e]
    have hF : (0 : Int) < 1099511627776 := by decide
    by_cases h0 : a = 0
    · subst h0
      rw [show St.ins 0 [0] = [0] by simp [St.ins], show St.ins b [0] = [0, b] by simp only [St.ins]; rw [if_pos (by omega)]]
      by_cases hb : b < 1099511627776
      · simp [List.takeWhile, hb]
      · simp [List.takeWhile, hb]
    · rw [show St.ins a [0] = [0, a] by simp only [St.ins]; rw [if_pos (by omega)], show St.ins b [0, a] = [0, a, b] by simp only [St.ins]; rw [if_pos (by omega), if_pos (by omega)]]
      have ha : a < 1099511627776 := by omega
      by_cases hb : b < 1099511627776
      · simp [List.takeWhile, hb, ha, h0]
      · simp [List.takeWhile, hb, ha, h0]
  have hof : St.ofL [(((a, b) : Int × Int), 1)] = (if a = 0 then [(0, 1)] else [(0, 0), (a, 1)]) ++ (if b < 1099511627776 then [(b, 0)] else []) := by
    unfold St.ofL
    rw [hpts]
    have r0 : St.rsum [(((a, b) : Int × Int), 1)] 0 = if a = 0 then 1 else 0 := by
      rw [rsum_single]
      unfold St.pcontains
      have : St.pvalid (a, b) = true := hp
      rw [this]
      by_cases h0 : a = 0
      · subst h0; simp; omega
      · have : ¬ a ≤ 0 := by omega
        simp [h0, this]
    have ra : St.rsum [(((a, b) : Int × Int), 1)] a = 1 := by
      rw [rsum_single]
      unfold St.pcontains
      have : St.pvalid (a, b) = true := hp
      rw [this]; simp; omega
    have rb : St.rsum [(((a, b) : Int × Int), 1)] b = 0 := by
      rw [rsum_single]
      unfold St.pcontains
      have : St.pvalid (a, b) = true := hp
      rw [this]; simp
    by_cases h0 : a = 0
    · rw [if_pos h0, if_pos h0]
      rw [if_pos h0] at r0
      by_cases hb : b < 1099511627776
      · rw [if_pos hb, if_pos hb]
        simp [St.combS, St.putS, r0, rb]
      · rw [if_neg hb, if_neg hb]
        simp [St.combS, St.putS, r0]
    · rw [if_neg h0, if_neg h0]
      rw [if_neg h0] at r0
      by_cases hb : b < 1099511627776
      · rw [if_pos hb, if_pos hb]
        simp [St.combS, St.putS, r0, ra, rb]
      · rw [if_neg hb, if_neg hb]
        simp [St.combS, St.putS, r0, ra]
  have hl : St.levM (St.ofL [(((a, b) : Int × Int), 1)]) = [(a, b)] := by
    rw [hof]
    refine levM_one ?_ fun j => ?_
    · by_cases h0 : a = 0
      · subst h0
        by_cases hb : b < 1099511627776
        · simp [hb, St.atl, St.segs, St.atStep, St.joinP]
        · have : b = 1099511627776 := by omega
          simp [this, St.atl, St.segs, St.atStep, St.joinP]
      · by_cases hb : b < 1099511627776
        · simp [hb, h0, St.atl, St.segs, St.atStep, St.joinP]
        · have : b = 1099511627776 := by omega
          simp [this, h0, St.atl, St.segs, St.atStep, St.joinP]
    · refine St.atl_nil.2 fun s hs => ?_
      have : s.2 = 0 ∨ s.2 = 1 := by
        rcases List.mem_append.1 hs with hs | hs
        · split at hs
          · rw [List.mem_singleton.1 hs]; exact .inr rfl
          · rcases List.mem_cons.1 hs with rfl | hs
            · exact .inl rfl
            · rw [List.mem_singleton.1 hs]; exact .inr rfl
        · split at hs
          · rw [List.mem_singleton.1 hs]; exact .inl rfl
          · cases hs
      omega
  unfold levOf levV ofV ones
  rw [List.map_map, show (toS ∘ ofS) = id from rfl, List.map_id]
  show ((St.levM (St.ofL [(((a, b) : Int × Int), 1)])).map ofP) = _
  rw [hl]; rfl
end Go.Proofs.YtfccopdbgfdcdaaGreatDoor
