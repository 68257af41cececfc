/- StepsOf of bitemporallaw04 returns true for every list of counted periods, and the list reads afterwards as before. No condition. -/
import Derived.Test.YtllenmkmompjpaaW20
import Derived.Test.YtllenmkmompjpaaOpen
namespace Go.Proofs.Ytllenmkmompjpaa.stepsOf
open Go.ChangeShapes Go.WideShapes Go.ChangeAt Go.RowKit
set_option linter.unusedVariables false

theorem ofFold_len : ∀ (l : List ((Int × Int) × Int)) (p : List Int), (l.foldl ofStep p).length ≤ p.length + 2 * l.length
  | [], p => by simp
  | c :: l, p => by
    have h1 := ofFold_len l (ofStep p c)
    have h2 := ofStep_len p c
    simp only [List.foldl_cons, List.length_cons]
    omega
theorem takeWhile_len {α : Type} (q : α → Bool) : ∀ l : List α, (l.takeWhile q).length ≤ l.length
  | [] => by simp
  | a :: l => by
    have := takeWhile_len q l
    rw [List.takeWhile_cons]
    split <;> simp <;> omega
theorem ofPts_len (l : List ((Int × Int) × Int)) : (ofPts l).length ≤ 1 + 2 * l.length := by
  have h1 := ofFold_len l [0]
  have h2 := takeWhile_len (fun p => decide (p < (1099511627776 : Int))) (ofAll l)
  rw [← ofAll_eq] at h1
  unfold ofPts
  simp at h1
  omega

set_option maxRecDepth 100000 in
set_option maxHeartbeats 2000000 in
theorem walk (A : Option Addr) (n c : Nat) (l : List ((Int × Int) × Int)) (w : World) (ha : Rd e3 3 w w.heap.size A n l) (hnil : A = none → n = 0 ∧ c = 0) :
    Calls Try.prog 3 #[.slice A n c] w fun e w' => e = .returned (.bool true) ∧ Gr w w' := by
  by_cases hn : 24 < n
  · have hnb : decide (24 < n) = true := by simpa using hn
    go_enter Try.func3, Try.ntmps3
    go_wp2_with fail
    refine (awake_any _).mono ?_
    rintro e w1 ⟨rfl, hg1⟩
    go_wp2_with fail
    go_ret
    exact ⟨rfl, hg1⟩
  · go_enter Try.func3, Try.ntmps3
    go_wp2_with fail
    refine (of_prog A n c l _ ha (by omega)).mono ?_
    rintro e w1 ⟨A1, m1, c1, rfl, hown1, hg1⟩
    have hr1 := hown1.rds e2_len
    go_wp2_with fail
    refine (of_ref A n c l _ (ha.gr hg1) (by omega)).mono ?_
    rintro e w2 ⟨A2, m2, c2, rfl, hown2, hg2⟩
    have hr2 := hown2.rds e2_len
    have hb1 : m1 ≤ 1000000 := by have h1 := hown1.len; have h2 := combS_len (rsum l) (ofPts l); have h3 := ofPts_len l; have h4 := ha.1; omega
    have hb2 : m2 ≤ 1000000 := by have h1 := hown2.len; have h2 := hown1.len; omega
    go_wp2_with fail
    refine (same_any _ _ m1 m2 c1 c2 _ _ _ (hr1.gr hg2) hr2 hb1 hb2).mono ?_
    rintro e w3 ⟨rfl, hg3⟩
    rw [show ∀ X : List (Int × Int), decide (X = X) = true from fun X => by simp]
    clear hown1 hown2 hr1 hr2
    go_wp2_with fail
    refine (awake_any _).mono ?_
    rintro e w4 ⟨rfl, hg4⟩
    go_wp2_with fail
    go_ret
    exact ⟨rfl, ((hg1.trans hg2).trans hg3).trans hg4⟩

set_option maxRecDepth 100000 in
theorem lifted (os : Os) (started : os.Started) (H : Type) (enc : TypeId × Value → H) :
    ReturnsInHanded {} Try.checked os 3 .any (Rows.stepsOfSpec.pre6 enc Try.prog Try.f3 Rows.stepsOfRow.domain false) (Rows.stepsOfSpec.post enc Try.prog Try.f3 false true false false) := by
  refine returnsInHanded_of_change (C := Try.checked) own started (by kernel_rfl) Try.func3
    (ChangeSpec.witness6 (enc := enc) (C := Try.checked) false ⟨#[], #[.slice none 0 0], []⟩ 8 (by kernel_rfl) (by kernel_rfl) (by kernel_rfl) (by kernel_rfl)) ?_
  intro W base args ds gs before hval0 hW hcnd _
  have hval : ∀ (j : Nat) t v, Try.f3.params[j]? = some t → args[j]? = some v → Value.okWide Try.prog W .any base t v := hval0
  have hW' := hW
  obtain ⟨p, q, hA0, hV, rfl, hfz, hnd⟩ := hW
  have hA : DataW.TrodAll enc Try.prog W 0 (fun _ => true) true Try.f3.params.toList args.toList ds p := hA0
  rw [Try.params3] at hA hval
  obtain ⟨v0, vs0, d0, ds0, p0, q0, hargs, rfl, rfl, h0, r0⟩ := trodAll_cons hA
  obtain ⟨rfl, rfl, rfl⟩ := trodAll_nil r0
  obtain rfl : args = #[v0] := by cases args; simp_all
  obtain ⟨rfl, rfl⟩ := trodVars_none hV
  obtain ⟨a0, len0, cap0, rfl⟩ := okWide_slice Try.underlying22 (hval 0 22 v0 rfl rfl)
  have k0 := h0
  have lt0 : ∀ x ∈ p0, x.block < W.heap.size := by obtain ⟨m, hm⟩ := k0; exact DataW.trod_lt m _ _ _ hm
  obtain ⟨fuel0, hf0⟩ := h0
  obtain ⟨l0, rd0, nil0⟩ := open_counted (by simpa [Value.cells] using hf0)
  clear hA0 hval0
  refine (walk a0 len0 cap0 l0 W rd0 nil0).mono fun e W' ⟨he, hgr⟩ => ?_
  have bel := hgr.out
  subst he
  exact ⟨_, rfl, _, _, _, [], _, [], hW', trodAll_mk1 (shut_bool Try.underlying4 _), (trodAll_cons_mk (Below.trod laidOut (by kernel_rfl) (of_decide_eq_true (by kernel_rfl)) k0 bel lt0) trodAll_mk0), rfl, bel.frame _, fun h => by cases h⟩

theorem proved : Rows.StepsOfSaid :=
  OpenClaim.holds_of_wide 3 Try.f3 rfl rfl rfl rfl rfl rfl rfl ⟨rfl, rfl, rfl, rfl, rfl⟩ rfl rfl rfl rfl rfl (by kernel_rfl) Try.func3 (by kernel_rfl)
    (of_decide_eq_true (by kernel_rfl)) (by unfold Func.isWrapper; first | (rw [if_pos (by decide +kernel)]; kernel_rfl) | (rw [if_neg (by decide +kernel)]; exact ⟨rfl, rfl⟩))
    (fun os started H enc _ => lifted os started H enc)

#print axioms proved
end Go.Proofs.Ytllenmkmompjpaa.stepsOf
