/- StepsPoints of bitemporallaw04 returns true for any two lists of steps and any instant; the lists read afterwards as before. No condition. -/
import Derived.Test.YtllenmkmompjpaaFine
import Derived.Test.YtllenmkmompjpaaOpen
namespace Go.Proofs.Ytllenmkmompjpaa.stepsPoints
open Go.ChangeShapes Go.WideShapes Go.ChangeAt Go.RowKit
set_option linter.unusedVariables false

theorem okAdd {a b : List (Int × Int)} (ha : svalid a = true) (hb : svalid b = true) (t : Int) : svalid (combS (fun p => wrap64 (rat a p + rat b p)) (pts a b)) = true ∧ rat (combS (fun p => wrap64 (rat a p + rat b p)) (pts a b)) t = wrap64 (rat a t + rat b t) := by
  obtain ⟨h1, h2⟩ := comb_ok (fun x y => wrap64 (x + y)) ha (.inl hb)
  refine ⟨h1, ?_⟩
  by_cases ht : 0 ≤ t ∧ t < 1099511627776
  · exact h2 t ht.1 ht.2
  · rw [rat_out ht, rat_out ht, rat_out ht]; simp [wrap_0]
theorem okSub {a b : List (Int × Int)} (ha : svalid a = true) (hb : svalid b = true) (t : Int) : svalid (combS (fun p => wrap64 (rat a p - rat b p)) (pts a b)) = true ∧ rat (combS (fun p => wrap64 (rat a p - rat b p)) (pts a b)) t = wrap64 (rat a t - rat b t) := by
  obtain ⟨h1, h2⟩ := comb_ok (fun x y => wrap64 (x - y)) ha (.inl hb)
  refine ⟨h1, ?_⟩
  by_cases ht : 0 ≤ t ∧ t < 1099511627776
  · exact h2 t ht.1 ht.2
  · rw [rat_out ht, rat_out ht, rat_out ht]; simp [wrap_0]
theorem okMin {a b : List (Int × Int)} (ha : svalid a = true) (hb : svalid b = true) (t : Int) : svalid (combS (fun p => min (rat a p) (rat b p)) (pts a b)) = true ∧ rat (combS (fun p => min (rat a p) (rat b p)) (pts a b)) t = min (rat a t) (rat b t) := by
  obtain ⟨h1, h2⟩ := comb_ok (fun x y => min x y) ha (.inl hb)
  refine ⟨h1, ?_⟩
  by_cases ht : 0 ≤ t ∧ t < 1099511627776
  · exact h2 t ht.1 ht.2
  · rw [rat_out ht, rat_out ht, rat_out ht]; simp [wrap_0]
theorem okMax {a b : List (Int × Int)} (ha : svalid a = true) (hb : svalid b = true) (t : Int) : svalid (combS (fun p => max (rat a p) (rat b p)) (pts a b)) = true ∧ rat (combS (fun p => max (rat a p) (rat b p)) (pts a b)) t = max (rat a t) (rat b t) := by
  obtain ⟨h1, h2⟩ := comb_ok (fun x y => max x y) ha (.inl hb)
  refine ⟨h1, ?_⟩
  by_cases ht : 0 ≤ t ∧ t < 1099511627776
  · exact h2 t ht.1 ht.2
  · rw [rat_out ht, rat_out ht, rat_out ht]; simp [wrap_0]
theorem okClip {a : List (Int × Int)} (ha : svalid a = true) (t : Int) : svalid (combS (fun p => max (rat a p) 0) (pts a [])) = true ∧ rat (combS (fun p => max (rat a p) 0) (pts a [])) t = max (rat a t) 0 := by
  obtain ⟨h1, h2⟩ := comb_ok (fun x _ => max x 0) ha (.inr rfl)
  refine ⟨h1, ?_⟩
  by_cases ht : 0 ≤ t ∧ t < 1099511627776
  · exact h2 t ht.1 ht.2
  · rw [rat_out ht, rat_out ht]; simp

set_option maxRecDepth 100000 in
set_option maxHeartbeats 8000000 in
theorem walk (A : Option Addr) (n ca : Nat) (a : List (Int × Int)) (B : Option Addr) (m cb : Nat) (b : List (Int × Int)) (t : Int) (w : World) (ha : Rd e2 2 w w.heap.size A n a) (hb : Rd e2 2 w w.heap.size B m b) :
    Calls Try.prog 9 #[.slice A n ca, .slice B m cb, .int .i64 t] w fun e w' => e = .returned (.bool true) ∧ Gr w w' := by
  have hfa := fine_any A n ca a w ha
  cases hva : fineB n a
  · have HVA := Lib.hid hva
    go_enter Try.func9, Try.ntmps9
    go_wp2_with fail
    refine hfa.mono ?_
    rintro e w1 ⟨rfl, hg1⟩
    rw [HVA.out]
    clear hva hfa
    go_wp2_with fail
    refine (awake_any _).mono ?_
    rintro e wz ⟨rfl, hgz⟩
    go_wp2_with fail
    go_ret
    exact ⟨rfl, hg1.trans hgz⟩
  · obtain ⟨hn, hsa⟩ := fineB_yes hva
    have HVA := Lib.hid hva
    cases hvb : fineB m b
    · have HVB := Lib.hid hvb
      go_enter Try.func9, Try.ntmps9
      go_wp2_with fail
      refine hfa.mono ?_
      rintro e w1 ⟨rfl, hg1⟩
      rw [HVA.out]
      clear hva hfa hvb
      go_wp2_with fail
      refine (fine_any B m cb b _ (hb.gr hg1)).mono ?_
      rintro e w2 ⟨rfl, hg2⟩
      rw [HVB.out]
      go_wp2_with fail
      refine (awake_any _).mono ?_
      rintro e wz ⟨rfl, hgz⟩
      go_wp2_with fail
      go_ret
      exact ⟨rfl, (hg1.trans hg2).trans hgz⟩
    · obtain ⟨hm, hsb⟩ := fineB_yes hvb
      have HVB := Lib.hid hvb
      have HSA := Lib.hid hsa
      have HSB := Lib.hid hsb
      go_enter Try.func9, Try.ntmps9
      go_wp2_with fail
      refine hfa.mono ?_
      rintro e w1 ⟨rfl, hg1⟩
      rw [HVA.out]
      clear hva hfa hvb hsa hsb
      have ha := ha.gr hg1
      have hb := hb.gr hg1
      go_wp2_with fail
      refine (fine_any B m cb b _ hb).mono ?_
      rintro e w2 ⟨rfl, hg2⟩
      rw [HVB.out]
      have ha := ha.gr hg2
      have hb := hb.gr hg2
      go_wp2_with fail
      refine (rat_ref A n ca a t _ ha (by omega)).mono ?_
      rintro e w3 ⟨rfl, hg3⟩
      have ha := ha.gr hg3
      have hb := hb.gr hg3
      go_wp2_with fail
      refine (rat_ref B m cb b t _ hb (by omega)).mono ?_
      rintro e w4 ⟨rfl, hg4⟩
      have ha := ha.gr hg4
      have hb := hb.gr hg4
      go_wp2_with fail
      refine (sAdd_prog A B n m ca cb a b _ ha hb (by omega) (by omega) (svalid_asc HSA.out).1 (svalid_asc HSB.out).1 (svalid_asc HSA.out).2.2.1).mono ?_
      rintro e w5 ⟨A5, m5, c5, rfl, hown5, hg5⟩
      have ha := ha.gr hg5
      have hb := hb.gr hg5
      have hbd5 : m5 ≤ 1000000 := by have h0 := hown5.len; have := comb_len a b (fun p => wrap64 (rat a p + rat b p)); have h1 := ha.1; have h2 := hb.1; omega
      have hr5 := hown5.rds e2_len
      clear hown5
      have HK5 := Lib.hid (okAdd HSA.out HSB.out t)
      generalize combS (fun p => wrap64 (rat a p + rat b p)) (pts a b) = u5 at hr5 HK5
      go_wp2_with fail
      refine (sSub_prog A B n m ca cb a b _ ha hb (by omega) (by omega) (svalid_asc HSA.out).1 (svalid_asc HSB.out).1 (svalid_asc HSA.out).2.2.1).mono ?_
      rintro e w6 ⟨A6, m6, c6, rfl, hown6, hg6⟩
      have ha := ha.gr hg6
      have hb := hb.gr hg6
      have hbd6 : m6 ≤ 1000000 := by have h0 := hown6.len; have := comb_len a b (fun p => wrap64 (rat a p - rat b p)); have h1 := ha.1; have h2 := hb.1; omega
      have hr6 := hown6.rds e2_len
      clear hown6
      have HK6 := Lib.hid (okSub HSA.out HSB.out t)
      generalize combS (fun p => wrap64 (rat a p - rat b p)) (pts a b) = u6 at hr6 HK6
      have hr5 := hr5.gr hg6
      go_wp2_with fail
      refine (sMin_prog A B n m ca cb a b _ ha hb (by omega) (by omega) (svalid_asc HSA.out).1 (svalid_asc HSB.out).1 (svalid_asc HSA.out).2.2.1).mono ?_
      rintro e w7 ⟨A7, m7, c7, rfl, hown7, hg7⟩
      have ha := ha.gr hg7
      have hb := hb.gr hg7
      have hbd7 : m7 ≤ 1000000 := by have h0 := hown7.len; have := comb_len a b (fun p => min (rat a p) (rat b p)); have h1 := ha.1; have h2 := hb.1; omega
      have hr7 := hown7.rds e2_len
      clear hown7
      have HK7 := Lib.hid (okMin HSA.out HSB.out t)
      generalize combS (fun p => min (rat a p) (rat b p)) (pts a b) = u7 at hr7 HK7
      have hr5 := hr5.gr hg7
      have hr6 := hr6.gr hg7
      go_wp2_with fail
      refine (sMax_prog A B n m ca cb a b _ ha hb (by omega) (by omega) (svalid_asc HSA.out).1 (svalid_asc HSB.out).1 (svalid_asc HSA.out).2.2.1).mono ?_
      rintro e w8 ⟨A8, m8, c8, rfl, hown8, hg8⟩
      have ha := ha.gr hg8
      have hb := hb.gr hg8
      have hbd8 : m8 ≤ 1000000 := by have h0 := hown8.len; have := comb_len a b (fun p => max (rat a p) (rat b p)); have h1 := ha.1; have h2 := hb.1; omega
      have hr8 := hown8.rds e2_len
      clear hown8
      have HK8 := Lib.hid (okMax HSA.out HSB.out t)
      generalize combS (fun p => max (rat a p) (rat b p)) (pts a b) = u8 at hr8 HK8
      have hr5 := hr5.gr hg8
      have hr6 := hr6.gr hg8
      have hr7 := hr7.gr hg8
      go_wp2_with fail
      refine (sClip_prog A n ca a _ ha (by omega) (svalid_asc HSA.out).1 (svalid_asc HSA.out).2.2.1).mono ?_
      rintro e w9 ⟨A9, m9, c9, rfl, hown9, hg9⟩
      have hbd9 : m9 ≤ 1000000 := by have h0 := hown9.len; have := comb_len a [] (fun p => max (rat a p) 0); have h1 := ha.1; simp at this; omega
      have hr9 := hown9.rds e2_len
      clear hown9 ha hb
      have HK9 := Lib.hid (okClip HSA.out t)
      generalize combS (fun p => max (rat a p) 0) (pts a []) = u9 at hr9 HK9
      have hr5 := hr5.gr hg9
      have hr6 := hr6.gr hg9
      have hr7 := hr7.gr hg9
      have hr8 := hr8.gr hg9
      generalize rat a t = x at HK5 HK6 HK7 HK8 HK9 ⊢
      generalize rat b t = y at HK5 HK6 HK7 HK8 ⊢
      go_wp2_with fail
      refine (svalid_ref A5 m5 c5 u5 _ hr5 hbd5).mono ?_
      rintro e w10 ⟨rfl, hg10⟩
      rw [HK5.out.1]
      have hr5 := hr5.gr hg10
      have hr6 := hr6.gr hg10
      have hr7 := hr7.gr hg10
      have hr8 := hr8.gr hg10
      have hr9 := hr9.gr hg10
      go_wp2_with fail
      refine (svalid_ref A6 m6 c6 u6 _ hr6 hbd6).mono ?_
      rintro e w11 ⟨rfl, hg11⟩
      rw [HK6.out.1]
      have hr5 := hr5.gr hg11
      have hr6 := hr6.gr hg11
      have hr7 := hr7.gr hg11
      have hr8 := hr8.gr hg11
      have hr9 := hr9.gr hg11
      go_wp2_with fail
      refine (svalid_ref A7 m7 c7 u7 _ hr7 hbd7).mono ?_
      rintro e w12 ⟨rfl, hg12⟩
      rw [HK7.out.1]
      have hr5 := hr5.gr hg12
      have hr6 := hr6.gr hg12
      have hr7 := hr7.gr hg12
      have hr8 := hr8.gr hg12
      have hr9 := hr9.gr hg12
      go_wp2_with fail
      refine (svalid_ref A8 m8 c8 u8 _ hr8 hbd8).mono ?_
      rintro e w13 ⟨rfl, hg13⟩
      rw [HK8.out.1]
      have hr5 := hr5.gr hg13
      have hr6 := hr6.gr hg13
      have hr7 := hr7.gr hg13
      have hr8 := hr8.gr hg13
      have hr9 := hr9.gr hg13
      go_wp2_with fail
      refine (svalid_ref A9 m9 c9 u9 _ hr9 hbd9).mono ?_
      rintro e w14 ⟨rfl, hg14⟩
      rw [HK9.out.1]
      have hr5 := hr5.gr hg14
      have hr6 := hr6.gr hg14
      have hr7 := hr7.gr hg14
      have hr8 := hr8.gr hg14
      have hr9 := hr9.gr hg14
      go_wp2_with fail
      refine (rat_prog A5 m5 c5 u5 t _ hr5 hbd5 (svalid_asc HK5.out.1).1).mono ?_
      rintro e w15 ⟨rfl, hg15⟩
      rw [HK5.out.2]
      have hr6 := hr6.gr hg15
      have hr7 := hr7.gr hg15
      have hr8 := hr8.gr hg15
      have hr9 := hr9.gr hg15
      go_wp2_with fail
      refine (rat_prog A6 m6 c6 u6 t _ hr6 hbd6 (svalid_asc HK6.out.1).1).mono ?_
      rintro e w16 ⟨rfl, hg16⟩
      rw [HK6.out.2]
      have hr7 := hr7.gr hg16
      have hr8 := hr8.gr hg16
      have hr9 := hr9.gr hg16
      go_wp2_with fail
      refine (rat_prog A7 m7 c7 u7 t _ hr7 hbd7 (svalid_asc HK7.out.1).1).mono ?_
      rintro e w17 ⟨rfl, hg17⟩
      rw [HK7.out.2]
      have hr8 := hr8.gr hg17
      have hr9 := hr9.gr hg17
      go_wp2_with fail
      refine (rat_prog A8 m8 c8 u8 t _ hr8 hbd8 (svalid_asc HK8.out.1).1).mono ?_
      rintro e w18 ⟨rfl, hg18⟩
      rw [HK8.out.2]
      have hr9 := hr9.gr hg18
      go_wp2_with fail
      refine (rat_prog A9 m9 c9 u9 t _ hr9 hbd9 (svalid_asc HK9.out.1).1).mono ?_
      rintro e w19 ⟨rfl, hg19⟩
      rw [HK9.out.2]
      go_wp2_with fail
      refine (awake_any _).mono ?_
      rintro e wz ⟨rfl, hgz⟩
      go_wp2_with fail
      go_ret
      exact ⟨rfl, (((((((((((((((((((hg1).trans hg2).trans hg3).trans hg4).trans hg5).trans hg6).trans hg7).trans hg8).trans hg9).trans hg10).trans hg11).trans hg12).trans hg13).trans hg14).trans hg15).trans hg16).trans hg17).trans hg18).trans hg19).trans hgz⟩

set_option maxRecDepth 100000 in
theorem lifted (os : Os) (started : os.Started) (H : Type) (enc : TypeId × Value → H) :
    ReturnsInHanded {} Try.checked os 9 .any (Rows.stepsPointsSpec.pre6 enc Try.prog Try.f9 Rows.stepsPointsRow.domain false) (Rows.stepsPointsSpec.post enc Try.prog Try.f9 false true false false) := by
  refine returnsInHanded_of_change (C := Try.checked) own started (by kernel_rfl) Try.func9
    (ChangeSpec.witness6 (enc := enc) (C := Try.checked) false ⟨#[], #[.slice none 0 0, .slice none 0 0, .int .i64 0], []⟩ 8 (by kernel_rfl) (by kernel_rfl) (by kernel_rfl) (by kernel_rfl)) ?_
  intro W base args ds gs before hval0 hW hcnd _
  have hval : ∀ (j : Nat) t v, Try.f9.params[j]? = some t → args[j]? = some v → Value.okWide Try.prog W .any base t v := hval0
  have hW' := hW
  obtain ⟨p, q, hA0, hV, rfl, hfz, hnd⟩ := hW
  have hA : DataW.TrodAll enc Try.prog W 0 (fun _ => true) true Try.f9.params.toList args.toList ds p := hA0
  rw [Try.params9] at hA hval
  obtain ⟨v0, vs0, d0, ds0, p0, q0, hargs, rfl, rfl, h0, r0⟩ := trodAll_cons hA
  obtain ⟨v1, vs1, d1, ds1, p1, q1, rfl, rfl, rfl, h1, r1⟩ := trodAll_cons r0
  obtain ⟨v2, vs2, d2, ds2, p2, q2, rfl, rfl, rfl, h2, r2⟩ := trodAll_cons r1
  obtain ⟨rfl, rfl, rfl⟩ := trodAll_nil r2
  obtain rfl : args = #[v0, v1, v2] := by cases args; simp_all
  obtain ⟨rfl, rfl⟩ := trodVars_none hV
  obtain ⟨a0, len0, cap0, rfl⟩ := okWide_slice Try.underlying25 (hval 0 25 v0 rfl rfl)
  have k0 := h0
  have lt0 : ∀ x ∈ p0, x.block < W.heap.size := by obtain ⟨m, hm⟩ := k0; exact DataW.trod_lt m _ _ _ hm
  obtain ⟨fuel0, hf0⟩ := h0
  obtain ⟨l0, rd0⟩ := open_steps (by simpa [Value.cells] using hf0)
  obtain ⟨a1, len1, cap1, rfl⟩ := okWide_slice Try.underlying25 (hval 1 25 v1 rfl rfl)
  have k1 := h1
  have lt1 : ∀ x ∈ p1, x.block < W.heap.size := by obtain ⟨m, hm⟩ := k1; exact DataW.trod_lt m _ _ _ hm
  obtain ⟨fuel1, hf1⟩ := h1
  obtain ⟨l1, rd1⟩ := open_steps (by simpa [Value.cells] using hf1)
  obtain ⟨a2, rfl, rfl, rfl, w2⟩ := open_int Try.underlying3 (hval 2 3 v2 rfl rfl) h2
  clear hA0 hval0
  refine (walk a0 len0 cap0 l0 a1 len1 cap1 l1 a2 W rd0 rd1).mono fun e W' ⟨he, hgr⟩ => ?_
  have bel := hgr.out
  subst he
  exact ⟨_, rfl, _, _, _, [], _, [], hW', trodAll_mk1 (shut_bool Try.underlying4 _), (trodAll_cons_mk (Below.trod laidOut (by kernel_rfl) (of_decide_eq_true (by kernel_rfl)) k0 bel lt0) (trodAll_cons_mk (Below.trod laidOut (by kernel_rfl) (of_decide_eq_true (by kernel_rfl)) k1 bel lt1) (trodAll_cons_mk (shut_int Try.underlying3 w2) trodAll_mk0))), rfl, bel.frame _, fun h => by cases h⟩

theorem proved : Rows.StepsPointsSaid :=
  OpenClaim.holds_of_wide 9 Try.f9 rfl rfl rfl rfl rfl rfl rfl ⟨rfl, rfl, rfl, rfl, rfl⟩ rfl rfl rfl rfl rfl (by kernel_rfl) Try.func9 (by kernel_rfl)
    (of_decide_eq_true (by kernel_rfl)) (by unfold Func.isWrapper; first | (rw [if_pos (by decide +kernel)]; kernel_rfl) | (rw [if_neg (by decide +kernel)]; exact ⟨rfl, rfl⟩))
    (fun os started H enc _ => lifted os started H enc)

#print axioms proved
end Go.Proofs.Ytllenmkmompjpaa.stepsPoints
