/- StepsCombines of bitemporallaw04 returns true for any two lists of steps, which read afterwards as before. No condition. -/
import Derived.Test.YtllenmkmompjpaaFine
import Derived.Test.YtllenmkmompjpaaOpen
namespace Go.Proofs.Ytllenmkmompjpaa.stepsCombines
open Go.ChangeShapes Go.WideShapes Go.ChangeAt Go.RowKit
set_option linter.unusedVariables false

theorem rat_zero (p : Int) : rat [(0, 0)] p = 0 := by
  unfold rat
  split
  · simp
  · rfl
theorem clip_same {a : List (Int × Int)} (ha : svalid a = true) : combS (fun p => max (rat a p) (rat [(0, 0)] p)) (pts a [(0, 0)]) = combS (fun p => max (rat a p) 0) (pts a []) := by
  have h1 : pts a [(0, 0)] = pts a [] := by
    refine (pts_asc a _).ext (pts_asc a _) fun x => ?_
    rw [mem_pts, mem_pts]
    simp
    intro e
    subst e
    have := svalid_zero ha
    simpa using this
  rw [h1]
  congr 1
  funext p
  rw [rat_zero]

set_option maxRecDepth 100000 in
set_option maxHeartbeats 8000000 in
theorem walk (A : Option Addr) (n ca : Nat) (a : List (Int × Int)) (B : Option Addr) (m cb : Nat) (b : List (Int × Int)) (w : World) (ha : Rd e2 2 w w.heap.size A n a) (hb : Rd e2 2 w w.heap.size B m b) :
    Calls Try.prog 8 #[.slice A n ca, .slice B m cb] w fun e w' => e = .returned (.bool true) ∧ Gr w w' := by
  have hfa := fine_any A n ca a w ha
  cases hva : fineB n a
  · have HVA := Lib.hid hva
    go_enter Try.func8, Try.ntmps8
    go_wp2_with fail
    refine hfa.mono ?_
    rintro e w1 ⟨rfl, hg1⟩
    rw [HVA.out]
    clear hva hfa
    go_wp2_with fail
    refine (awake_any _).mono ?_
    rintro e wz ⟨rfl, hgz⟩
    go_wp2_with fail
    go_ret
    exact ⟨rfl, hg1.trans hgz⟩
  · obtain ⟨hn, hsa⟩ := fineB_yes hva
    have HVA := Lib.hid hva
    cases hvb : fineB m b
    · have HVB := Lib.hid hvb
      go_enter Try.func8, Try.ntmps8
      go_wp2_with fail
      refine hfa.mono ?_
      rintro e w1 ⟨rfl, hg1⟩
      rw [HVA.out]
      clear hva hfa hvb
      go_wp2_with fail
      refine (fine_any B m cb b _ (hb.gr hg1)).mono ?_
      rintro e w2 ⟨rfl, hg2⟩
      rw [HVB.out]
      go_wp2_with fail
      refine (awake_any _).mono ?_
      rintro e wz ⟨rfl, hgz⟩
      go_wp2_with fail
      go_ret
      exact ⟨rfl, (hg1.trans hg2).trans hgz⟩
    · obtain ⟨hm, hsb⟩ := fineB_yes hvb
      have HVB := Lib.hid hvb
      have HSA := Lib.hid hsa
      have HSB := Lib.hid hsb
      go_enter Try.func8, Try.ntmps8
      go_wp2_with fail
      refine hfa.mono ?_
      rintro e w1 ⟨rfl, hg1⟩
      rw [HVA.out]
      clear hva hfa hvb hsa hsb
      have ha := ha.gr hg1
      have hb := hb.gr hg1
      go_wp2_with fail
      refine (fine_any B m cb b _ hb).mono ?_
      rintro e w2 ⟨rfl, hg2⟩
      rw [HVB.out]
      have ha := ha.gr hg2
      have hb := hb.gr hg2
      go_wp2_with fail
      refine (sAdd_prog A B n m ca cb a b _ ha hb (by omega) (by omega) (svalid_asc HSA.out).1 (svalid_asc HSB.out).1 (svalid_asc HSA.out).2.2.1).mono ?_
      rintro e w3 ⟨A3, m3, c3, rfl, hown3, hg3⟩
      have ha := ha.gr hg3
      have hb := hb.gr hg3
      go_wp2_with fail
      refine (sAdd_ref A B n m ca cb a b _ ha hb (by omega) (by omega)).mono ?_
      rintro e w4 ⟨A4, m4, c4, rfl, hown4, hg4⟩
      have ha := ha.gr hg4
      have hb := hb.gr hg4
      have hl3 := hown3.len
      have hl4 := hown4.len
      have hbd3 : m3 ≤ 1000000 := by have := comb_len a b (fun p => wrap64 (rat a p + rat b p)); have h1 := ha.1; have h2 := hb.1; omega
      have hbd4 : m4 ≤ 1000000 := by omega
      have hr3 := (hown3.rds e2_len).gr hg4
      have hr4 := hown4.rds e2_len
      clear hl3 hl4
      go_wp2_with fail
      refine (same_any _ _ m3 m4 c3 c4 _ _ _ hr3 hr4 hbd3 hbd4).mono ?_
      rintro e w5 ⟨rfl, hg5⟩
      rw [decide_self]
      have ha := ha.gr hg5
      have hb := hb.gr hg5
      clear hr3 hr4 hown3 hown4 hbd3 hbd4
      go_wp2_with fail
      refine (sSub_prog A B n m ca cb a b _ ha hb (by omega) (by omega) (svalid_asc HSA.out).1 (svalid_asc HSB.out).1 (svalid_asc HSA.out).2.2.1).mono ?_
      rintro e w6 ⟨A6, m6, c6, rfl, hown6, hg6⟩
      have ha := ha.gr hg6
      have hb := hb.gr hg6
      go_wp2_with fail
      refine (sSub_ref A B n m ca cb a b _ ha hb (by omega) (by omega)).mono ?_
      rintro e w7 ⟨A7, m7, c7, rfl, hown7, hg7⟩
      have ha := ha.gr hg7
      have hb := hb.gr hg7
      have hl6 := hown6.len
      have hl7 := hown7.len
      have hbd6 : m6 ≤ 1000000 := by have := comb_len a b (fun p => wrap64 (rat a p - rat b p)); have h1 := ha.1; have h2 := hb.1; omega
      have hbd7 : m7 ≤ 1000000 := by omega
      have hr6 := (hown6.rds e2_len).gr hg7
      have hr7 := hown7.rds e2_len
      clear hl6 hl7
      go_wp2_with fail
      refine (same_any _ _ m6 m7 c6 c7 _ _ _ hr6 hr7 hbd6 hbd7).mono ?_
      rintro e w8 ⟨rfl, hg8⟩
      rw [decide_self]
      have ha := ha.gr hg8
      have hb := hb.gr hg8
      clear hr6 hr7 hown6 hown7 hbd6 hbd7
      go_wp2_with fail
      refine (sMin_prog A B n m ca cb a b _ ha hb (by omega) (by omega) (svalid_asc HSA.out).1 (svalid_asc HSB.out).1 (svalid_asc HSA.out).2.2.1).mono ?_
      rintro e w9 ⟨A9, m9, c9, rfl, hown9, hg9⟩
      have ha := ha.gr hg9
      have hb := hb.gr hg9
      go_wp2_with fail
      refine (sMin_ref A B n m ca cb a b _ ha hb (by omega) (by omega)).mono ?_
      rintro e w10 ⟨A10, m10, c10, rfl, hown10, hg10⟩
      have ha := ha.gr hg10
      have hb := hb.gr hg10
      have hl9 := hown9.len
      have hl10 := hown10.len
      have hbd9 : m9 ≤ 1000000 := by have := comb_len a b (fun p => min (rat a p) (rat b p)); have h1 := ha.1; have h2 := hb.1; omega
      have hbd10 : m10 ≤ 1000000 := by omega
      have hr9 := (hown9.rds e2_len).gr hg10
      have hr10 := hown10.rds e2_len
      clear hl9 hl10
      go_wp2_with fail
      refine (same_any _ _ m9 m10 c9 c10 _ _ _ hr9 hr10 hbd9 hbd10).mono ?_
      rintro e w11 ⟨rfl, hg11⟩
      rw [decide_self]
      have ha := ha.gr hg11
      have hb := hb.gr hg11
      clear hr9 hr10 hown9 hown10 hbd9 hbd10
      go_wp2_with fail
      refine (sMax_prog A B n m ca cb a b _ ha hb (by omega) (by omega) (svalid_asc HSA.out).1 (svalid_asc HSB.out).1 (svalid_asc HSA.out).2.2.1).mono ?_
      rintro e w12 ⟨A12, m12, c12, rfl, hown12, hg12⟩
      have ha := ha.gr hg12
      have hb := hb.gr hg12
      go_wp2_with fail
      refine (sMax_ref A B n m ca cb a b _ ha hb (by omega) (by omega)).mono ?_
      rintro e w13 ⟨A13, m13, c13, rfl, hown13, hg13⟩
      have ha := ha.gr hg13
      have hb := hb.gr hg13
      have hl12 := hown12.len
      have hl13 := hown13.len
      have hbd12 : m12 ≤ 1000000 := by have := comb_len a b (fun p => max (rat a p) (rat b p)); have h1 := ha.1; have h2 := hb.1; omega
      have hbd13 : m13 ≤ 1000000 := by omega
      have hr12 := (hown12.rds e2_len).gr hg13
      have hr13 := hown13.rds e2_len
      clear hl12 hl13
      go_wp2_with fail
      refine (same_any _ _ m12 m13 c12 c13 _ _ _ hr12 hr13 hbd12 hbd13).mono ?_
      rintro e w14 ⟨rfl, hg14⟩
      rw [decide_self]
      have ha := ha.gr hg14
      have hb := hb.gr hg14
      clear hr12 hr13 hown12 hown13 hbd12 hbd13
      go_wp2_with fail
      refine (sClip_prog A n ca a _ ha (by omega) (svalid_asc HSA.out).1 (svalid_asc HSA.out).2.2.1).mono ?_
      rintro e w15 ⟨A15, m15, c15, rfl, hown15, hg15⟩
      have ha := ha.gr hg15
      go_wp2_with fail
      refine (sClip_ref A n ca a _ ha (by omega)).mono ?_
      rintro e w16 ⟨A16, m16, c16, rfl, hown16, hg16⟩
      rw [clip_same HSA.out] at hown16
      have hl15 := hown15.len
      have hl16 := hown16.len
      have hbd15 : m15 ≤ 1000000 := by have := comb_len a [] (fun p => max (rat a p) 0); have h1 := ha.1; simp at this; omega
      have hbd16 : m16 ≤ 1000000 := by omega
      have hr15 := (hown15.rds e2_len).gr hg16
      have hr16 := hown16.rds e2_len
      clear hl15 hl16
      go_wp2_with fail
      refine (same_any _ _ m15 m16 c15 c16 _ _ _ hr15 hr16 hbd15 hbd16).mono ?_
      rintro e w17 ⟨rfl, hg17⟩
      rw [decide_self]
      clear hr15 hr16 hown15 hown16 hbd15 hbd16
      go_wp2_with fail
      refine (awake_any _).mono ?_
      rintro e wz ⟨rfl, hgz⟩
      go_wp2_with fail
      go_ret
      exact ⟨rfl, (((((((((((((((((hg1).trans hg2).trans hg3).trans hg4).trans hg5).trans hg6).trans hg7).trans hg8).trans hg9).trans hg10).trans hg11).trans hg12).trans hg13).trans hg14).trans hg15).trans hg16).trans hg17).trans hgz⟩

set_option maxRecDepth 100000 in
theorem lifted (os : Os) (started : os.Started) (H : Type) (enc : TypeId × Value → H) :
    ReturnsInHanded {} Try.checked os 8 .any (Rows.stepsCombinesSpec.pre6 enc Try.prog Try.f8 Rows.stepsCombinesRow.domain false) (Rows.stepsCombinesSpec.post enc Try.prog Try.f8 false true false false) := by
  refine returnsInHanded_of_change (C := Try.checked) own started (by kernel_rfl) Try.func8
    (ChangeSpec.witness6 (enc := enc) (C := Try.checked) false ⟨#[], #[.slice none 0 0, .slice none 0 0], []⟩ 8 (by kernel_rfl) (by kernel_rfl) (by kernel_rfl) (by kernel_rfl)) ?_
  intro W base args ds gs before hval0 hW hcnd _
  have hval : ∀ (j : Nat) t v, Try.f8.params[j]? = some t → args[j]? = some v → Value.okWide Try.prog W .any base t v := hval0
  have hW' := hW
  obtain ⟨p, q, hA0, hV, rfl, hfz, hnd⟩ := hW
  have hA : DataW.TrodAll enc Try.prog W 0 (fun _ => true) true Try.f8.params.toList args.toList ds p := hA0
  rw [Try.params8] at hA hval
  obtain ⟨v0, vs0, d0, ds0, p0, q0, hargs, rfl, rfl, h0, r0⟩ := trodAll_cons hA
  obtain ⟨v1, vs1, d1, ds1, p1, q1, rfl, rfl, rfl, h1, r1⟩ := trodAll_cons r0
  obtain ⟨rfl, rfl, rfl⟩ := trodAll_nil r1
  obtain rfl : args = #[v0, v1] := by cases args; simp_all
  obtain ⟨rfl, rfl⟩ := trodVars_none hV
  obtain ⟨a0, len0, cap0, rfl⟩ := okWide_slice Try.underlying25 (hval 0 25 v0 rfl rfl)
  have k0 := h0
  have lt0 : ∀ x ∈ p0, x.block < W.heap.size := by obtain ⟨m, hm⟩ := k0; exact DataW.trod_lt m _ _ _ hm
  obtain ⟨fuel0, hf0⟩ := h0
  obtain ⟨l0, rd0⟩ := open_steps (by simpa [Value.cells] using hf0)
  obtain ⟨a1, len1, cap1, rfl⟩ := okWide_slice Try.underlying25 (hval 1 25 v1 rfl rfl)
  have k1 := h1
  have lt1 : ∀ x ∈ p1, x.block < W.heap.size := by obtain ⟨m, hm⟩ := k1; exact DataW.trod_lt m _ _ _ hm
  obtain ⟨fuel1, hf1⟩ := h1
  obtain ⟨l1, rd1⟩ := open_steps (by simpa [Value.cells] using hf1)
  clear hA0 hval0
  refine (walk a0 len0 cap0 l0 a1 len1 cap1 l1 W rd0 rd1).mono fun e W' ⟨he, hgr⟩ => ?_
  have bel := hgr.out
  subst he
  exact ⟨_, rfl, _, _, _, [], _, [], hW', trodAll_mk1 (shut_bool Try.underlying4 _), (trodAll_cons_mk (Below.trod laidOut (by kernel_rfl) (of_decide_eq_true (by kernel_rfl)) k0 bel lt0) (trodAll_cons_mk (Below.trod laidOut (by kernel_rfl) (of_decide_eq_true (by kernel_rfl)) k1 bel lt1) trodAll_mk0)), rfl, bel.frame _, fun h => by cases h⟩

theorem proved : Rows.StepsCombinesSaid :=
  OpenClaim.holds_of_wide 8 Try.f8 rfl rfl rfl rfl rfl rfl rfl ⟨rfl, rfl, rfl, rfl, rfl⟩ rfl rfl rfl rfl rfl (by kernel_rfl) Try.func8 (by kernel_rfl)
    (of_decide_eq_true (by kernel_rfl)) (by unfold Func.isWrapper; first | (rw [if_pos (by decide +kernel)]; kernel_rfl) | (rw [if_neg (by decide +kernel)]; exact ⟨rfl, rfl⟩))
    (fun os started H enc _ => lifted os started H enc)

#print axioms proved
end Go.Proofs.Ytllenmkmompjpaa.stepsCombines
