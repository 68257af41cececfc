/- StepsLevels of bitemporallaw04 returns true for every list of steps and every number; the list reads afterwards as before. No condition. -/
import Derived.Test.YtllenmkmompjpaaW21
import Derived.Test.YtllenmkmompjpaaOpen
namespace Go.Proofs.Ytllenmkmompjpaa.stepsLevels
open Go.ChangeShapes Go.WideShapes Go.ChangeAt Go.RowKit
set_option linter.unusedVariables false

theorem gfold_le : ∀ (r : List (Int × Int)) (z : Int), z ≤ r.foldl gfold z ∧ ∀ s ∈ r, s.2 ≤ r.foldl gfold z
  | [], z => ⟨Int.le_refl _, by simp⟩
  | q :: r, z => by
    obtain ⟨h1, h2⟩ := gfold_le r (gfold z q)
    have h3 : z ≤ gfold z q ∧ q.2 ≤ gfold z q := by unfold gfold; split <;> omega
    rw [List.foldl_cons]
    refine ⟨by omega, fun s hs => ?_⟩
    rcases List.mem_cons.1 hs with e | e
    · subst e; omega
    · exact h2 s e
theorem greatest_le {l : List (Int × Int)} : ∀ s ∈ l, s.2 ≤ greatest l := by
  match l with
  | [] => simp
  | p :: r =>
    rw [greatest_cons]
    obtain ⟨h1, h2⟩ := gfold_le r p.2
    intro s hs
    rcases List.mem_cons.1 hs with e | e
    · subst e; exact h1
    · exact h2 s e
theorem decide_selfP (X : List (Int × Int)) : decide (X = X) = true := by simp
theorem levM_len (l : List (Int × Int)) : (levM l).length ≤ 12 * l.length := by
  have h1 := plFold_len (levTo l 12)
  have h2 := levTo_len l 12
  have h3 : levM l = plFold (levTo l 12) := rfl
  rw [h3]; omega

set_option maxRecDepth 100000 in
set_option maxHeartbeats 8000000 in
theorem walk (A : Option Addr) (n ca : Nat) (l : List (Int × Int)) (v : Int) (w : World) (ha : Rd e2 2 w w.heap.size A n l) :
    Calls Try.prog 4 #[.slice A n ca, .int .i64 v] w fun e w' => e = .returned (.bool true) ∧ Gr w w' := by
  have hfa := fine_any A n ca l w ha
  cases hva : fineB n l
  · have HVA := Lib.hid hva
    go_enter Try.func4, Try.ntmps4
    go_wp2_with fail
    refine hfa.mono ?_
    rintro e w1 ⟨rfl, hg1⟩
    rw [HVA.out]
    clear hva hfa
    go_wp2_with fail
    refine (awake_any _).mono ?_
    rintro e wz ⟨rfl, hgz⟩
    go_wp2_with fail
    go_ret
    exact ⟨rfl, hg1.trans hgz⟩
  · obtain ⟨hn, hsa⟩ := fineB_yes hva
    have HVA := Lib.hid hva
    have HSA := Lib.hid hsa
    have hla := Lib.hid ha.1
    go_enter Try.func4, Try.ntmps4
    go_wp2_with fail
    refine hfa.mono ?_
    rintro e w1 ⟨rfl, hg1⟩
    rw [HVA.out]
    clear hva hfa hsa
    have ha := ha.gr hg1
    go_wp2_with fail
    refine (atl_prog A n ca l v _ ha (by omega) (svalid_asc HSA.out).1 (svalid_asc HSA.out).2.1).mono ?_
    rintro e w2 ⟨A2, m2, c2, rfl, hown2, hg2⟩
    have ha := ha.gr hg2
    go_wp2_with fail
    refine (atl_ref A n ca l v _ ha (by omega)).mono ?_
    rintro e w3 ⟨A3, m3, c3, rfl, hown3, hg3⟩
    have ha := ha.gr hg3
    have hb2 : m2 ≤ 1000 := by have h1 := hown2.len; have h2 := atl_len l v; have := hla.out; omega
    have hb3 : m3 ≤ 1000 := by have h1 := hown3.len; have h2 := atl_len l v; have := hla.out; omega
    have hr2 := (hown2.rds e2_len).gr hg3
    have hr3 := hown3.rds e2_len
    clear hown2 hown3
    go_wp2_with fail
    refine (psame_any _ _ m2 m3 c2 c3 _ _ _ hr2 hr3 (by omega) (by omega)).mono ?_
    rintro e w4 ⟨rfl, hg4⟩
    rw [decide_self]
    have ha := ha.gr hg4
    clear hr2 hr3
    go_wp2_with fail
    refine (greatest_ref A n ca l _ ha (by omega)).mono ?_
    rintro e w5 ⟨rfl, hg5⟩
    have ha := ha.gr hg5
    by_cases hG : 12 < greatest l
    · have hGb : decide (12 < greatest l) = true := by simpa using hG
      generalize greatest l = G at hG hGb ⊢
      go_wp2_with fail
      refine (awake_any _).mono ?_
      rintro e wz ⟨rfl, hgz⟩
      go_wp2_with fail
      go_ret
      exact ⟨rfl, ((((hg1.trans hg2).trans hg3).trans hg4).trans hg5).trans hgz⟩
    · have hGb : decide (12 < greatest l) = false := by simpa using hG
      have HM := Lib.hid (show ∀ s ∈ l, s.2 ≤ 12 from fun s hs => by have := greatest_le s hs; omega)
      generalize greatest l = G at hG hGb ⊢
      go_wp2_with fail
      refine (lev_prog A n ca l _ ha (by omega) (svalid_asc HSA.out).1 (svalid_asc HSA.out).2.1 HM.out).mono ?_
      rintro e w6 ⟨A6, m6, c6, rfl, hown6, hg6⟩
      have ha := ha.gr hg6
      go_wp2_with fail
      refine (lev_ref A n ca l _ ha (by omega) HM.out).mono ?_
      rintro e w7 ⟨A7, m7, c7, rfl, hown7, hg7⟩
      have hb6 : m6 ≤ 1000 := by have h1 := hown6.len; have h2 := levM_len l; have := hla.out; omega
      have hb7 : m7 ≤ 1000 := by have h1 := hown7.len; have h2 := levM_len l; have := hla.out; omega
      have hr6 := (hown6.rds e2_len).gr hg7
      have hr7 := hown7.rds e2_len
      clear hown6 hown7
      go_wp2_with fail
      refine (psame_any _ _ m6 m7 c6 c7 _ _ _ hr6 hr7 (by omega) (by omega)).mono ?_
      rintro e w8 ⟨rfl, hg8⟩
      rw [decide_self]
      clear hr6 hr7
      go_wp2_with fail
      refine (awake_any _).mono ?_
      rintro e wz ⟨rfl, hgz⟩
      go_wp2_with fail
      go_ret
      exact ⟨rfl, (((((((hg1.trans hg2).trans hg3).trans hg4).trans hg5).trans hg6).trans hg7).trans hg8).trans hgz⟩

set_option maxRecDepth 100000 in
theorem lifted (os : Os) (started : os.Started) (H : Type) (enc : TypeId × Value → H) :
    ReturnsInHanded {} Try.checked os 4 .any (Rows.stepsLevelsSpec.pre6 enc Try.prog Try.f4 Rows.stepsLevelsRow.domain false) (Rows.stepsLevelsSpec.post enc Try.prog Try.f4 false true false false) := by
  refine returnsInHanded_of_change (C := Try.checked) own started (by kernel_rfl) Try.func4
    (ChangeSpec.witness6 (enc := enc) (C := Try.checked) false ⟨#[], #[.slice none 0 0, .int .i64 0], []⟩ 8 (by kernel_rfl) (by kernel_rfl) (by kernel_rfl) (by kernel_rfl)) ?_
  intro W base args ds gs before hval0 hW hcnd _
  have hval : ∀ (j : Nat) t v, Try.f4.params[j]? = some t → args[j]? = some v → Value.okWide Try.prog W .any base t v := hval0
  have hW' := hW
  obtain ⟨p, q, hA0, hV, rfl, hfz, hnd⟩ := hW
  have hA : DataW.TrodAll enc Try.prog W 0 (fun _ => true) true Try.f4.params.toList args.toList ds p := hA0
  rw [Try.params4] at hA hval
  obtain ⟨v0, vs0, d0, ds0, p0, q0, hargs, rfl, rfl, h0, r0⟩ := trodAll_cons hA
  obtain ⟨v1, vs1, d1, ds1, p1, q1, rfl, rfl, rfl, h1, r1⟩ := trodAll_cons r0
  obtain ⟨rfl, rfl, rfl⟩ := trodAll_nil r1
  obtain rfl : args = #[v0, v1] := by cases args; simp_all
  obtain ⟨rfl, rfl⟩ := trodVars_none hV
  obtain ⟨a0, len0, cap0, rfl⟩ := okWide_slice Try.underlying25 (hval 0 25 v0 rfl rfl)
  have k0 := h0
  have lt0 : ∀ x ∈ p0, x.block < W.heap.size := by obtain ⟨m, hm⟩ := k0; exact DataW.trod_lt m _ _ _ hm
  obtain ⟨fuel0, hf0⟩ := h0
  obtain ⟨l0, rd0⟩ := open_steps (by simpa [Value.cells] using hf0)
  obtain ⟨a1, rfl, rfl, rfl, w1⟩ := open_int Try.underlying3 (hval 1 3 v1 rfl rfl) h1
  clear hA0 hval0
  refine (walk a0 len0 cap0 l0 a1 W rd0).mono fun e W' ⟨he, hgr⟩ => ?_
  have bel := hgr.out
  subst he
  exact ⟨_, rfl, _, _, _, [], _, [], hW', trodAll_mk1 (shut_bool Try.underlying4 _), (trodAll_cons_mk (Below.trod laidOut (by kernel_rfl) (of_decide_eq_true (by kernel_rfl)) k0 bel lt0) (trodAll_cons_mk (shut_int Try.underlying3 w1) trodAll_mk0)), rfl, bel.frame _, fun h => by cases h⟩

theorem proved : Rows.StepsLevelsSaid :=
  OpenClaim.holds_of_wide 4 Try.f4 rfl rfl rfl rfl rfl rfl rfl ⟨rfl, rfl, rfl, rfl, rfl⟩ rfl rfl rfl rfl rfl (by kernel_rfl) Try.func4 (by kernel_rfl)
    (of_decide_eq_true (by kernel_rfl)) (by unfold Func.isWrapper; first | (rw [if_pos (by decide +kernel)]; kernel_rfl) | (rw [if_neg (by decide +kernel)]; exact ⟨rfl, rfl⟩))
    (fun os started H enc _ => lifted os started H enc)

#print axioms proved
end Go.Proofs.Ytllenmkmompjpaa.stepsLevels
