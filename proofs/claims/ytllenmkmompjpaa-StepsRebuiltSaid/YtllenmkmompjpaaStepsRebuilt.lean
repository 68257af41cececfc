/- StepsRebuilt of bitemporallaw04 returns true for every list of steps; the list reads afterwards as before. No condition. -/
import Derived.Test.YtllenmkmompjpaaPlainReb
import Derived.Test.YtllenmkmompjpaaStepsLevels
import Derived.Test.YtllenmkmompjpaaStepsCombines
namespace Go.Proofs.Ytllenmkmompjpaa.stepsRebuilt
open Go.ChangeShapes Go.WideShapes Go.ChangeAt Go.RowKit
set_option linter.unusedVariables false

theorem lastV_le {t : Int} : ∀ (l : List (Int × Int)) (z : Int), z ≤ 12 → (∀ s ∈ l, s.2 ≤ 12) → lastV z l t ≤ 12
  | [], z, hz, _ => hz
  | p :: l, z, hz, h => by
    rw [lastV_cons]
    exact lastV_le l _ (by have := h p (by simp); split <;> omega) fun s hs => h s (List.mem_cons_of_mem _ hs)
theorem rat_le {l : List (Int × Int)} (h : ∀ s ∈ l, s.2 ≤ 12) (t : Int) : rat l t ≤ 12 := by
  by_cases ht : 0 ≤ t ∧ t < 1099511627776
  · rw [rat_in ht.1 ht.2]; exact lastV_le l 0 (by omega) h
  · rw [rat_out ht]; omega
theorem rat_ge {l : List (Int × Int)} (hl : svalid l = true) (hc : combS (fun p => max (rat l p) (rat [(0, 0)] p)) (pts l [(0, 0)]) = l) (t : Int) : 0 ≤ rat l t := by
  by_cases ht : 0 ≤ t ∧ t < 1099511627776
  · have h := (comb_ok (fun x y => max x y) hl (.inl (by decide) : svalid [(0, 0)] = true ∨ [((0 : Int), (0 : Int))] = [])).2 t ht.1 ht.2
    rw [hc, stepsCombines.rat_zero] at h
    omega
  · rw [rat_out ht]; omega
theorem lex_cmp {p q : Int × Int} (h : LexLe p q) : pcompare p q ≤ 0 := by
  unfold pcompare
  split
  · omega
  · rename_i hne
    split
    · omega
    · rename_i hn
      exfalso
      unfold LexLe at h
      have : p.1 = q.1 ∧ p.2 = q.2 := by omega
      exact hne (Prod.ext this.1 this.2)

theorem appAtCounted {w : World} {ops : Array Oper} {rest : List Oper} {o : Oper} {a : Act} {Q : Exit → Act → World → Prop} {cs : Array Value} (hgd : o.guard = none) (s x : Operand)
    (ho : o.op = .call { callee := .builtin .append, args := #[s, x], argTypes := #[22, 22] }) (base : Nat) (v : Value) (l : List ((Int × Int) × Int)) (hs : a.eval s = v) (hown : Own e3 3 40 w base v l) (nb m c : Nat) (xs : List ((Int × Int) × Int)) (hm : xs.length = m)
    (hx : a.eval x = .slice (some ⟨nb, 0, none⟩) m c) (hb : w.heap[nb]? = some (.cells cs 40 (0, 0))) (hcs : cs = (xs.flatMap e3).toArray) (hlen : l.length + m ≤ 1000000000) (hbase : base ≤ w.heap.size)
    (h : ∀ A n c w', Own e3 3 40 w' base (.slice A n c) (l ++ xs) → Below base w w' → wpList Try.prog ops Q rest (a.put o.dst (.slice A n c)) w') :
    wpList Try.prog ops Q (o :: rest) a w := by
  obtain ⟨i0, hi, hz0, hz1, hz2⟩ := info_parts infoCounted
  exact wpList_appAt hgd s x 22 ho i0 _ 24 Try.underlying22 hi hz0 hz1 hz2 rfl (by omega) e3_len e3_one v l hs hown nb m c xs hm hx hb hcs (by omega) (by omega) hbase fun A n c w' h1 h2 => h A n c w' h1 (hown.grown hbase h2)

set_option maxRecDepth 100000 in
set_option maxHeartbeats 8000000 in
theorem walk (A : Option Addr) (n ca : Nat) (l : List (Int × Int)) (w : World) (ha : Rd e2 2 w w.heap.size A n l) :
    Calls Try.prog 5 #[.slice A n ca] w fun e w' => e = .returned (.bool true) ∧ Gr w w' := by
  have hfa := fine_any A n ca l w ha
  cases hva : fineB n l
  · have HVA := Lib.hid hva
    go_enter Try.func5, Try.ntmps5
    go_wp2_with fail
    refine hfa.mono ?_
    rintro e w1 ⟨rfl, hg1⟩
    rw [HVA.out]
    clear hva hfa
    go_wp2_with fail
    refine (awake_any _).mono ?_
    rintro e wz ⟨rfl, hgz⟩
    go_wp2_with fail
    go_ret
    exact ⟨rfl, hg1.trans hgz⟩
  · obtain ⟨hn, hsa⟩ := fineB_yes hva
    have HVA := Lib.hid hva
    have HSA := Lib.hid hsa
    have hla := Lib.hid ha.1
    go_enter Try.func5, Try.ntmps5
    go_wp2_with fail
    refine hfa.mono ?_
    rintro e w1 ⟨rfl, hg1⟩
    rw [HVA.out]
    clear hva hfa hsa
    have ha := ha.gr hg1
    go_wp2_with fail
    refine (greatest_ref A n ca l _ ha (by omega)).mono ?_
    rintro e w5 ⟨rfl, hg5⟩
    have ha := ha.gr hg5
    by_cases hG : 12 < greatest l
    · have hGb : decide (12 < greatest l) = true := by simpa using hG
      generalize greatest l = G at hG hGb ⊢
      go_wp2_with fail
      refine (awake_any _).mono ?_
      rintro e wz ⟨rfl, hgz⟩
      go_wp2_with fail
      go_ret
      exact ⟨rfl, (hg1.trans hg5).trans hgz⟩
    · have hGb : decide (12 < greatest l) = false := by simpa using hG
      have HM := Lib.hid (show ∀ s ∈ l, s.2 ≤ 12 from fun s hs => by have := stepsLevels.greatest_le s hs; omega)
      generalize greatest l = G at hG hGb ⊢
      go_wp2_with fail
      refine (sClip_ref A n ca l _ ha (by omega)).mono ?_
      rintro e w6 ⟨A6, m6, c6, rfl, hown6, hg6⟩
      have ha := ha.gr hg6
      have hr6 := hown6.rds e2_len
      have hbd6 : m6 ≤ 1000000 := by have := comb_len l [(0, 0)] (fun p => max (rat l p) (rat [(0, 0)] p)); have h1 := hla.out; have h2 := hown6.len; simp at this; omega
      clear hown6
      go_wp2_with fail
      refine (same_any _ _ m6 n c6 ca _ _ _ hr6 ha hbd6 (by omega)).mono ?_
      rintro e w7 ⟨rfl, hg7⟩
      have ha := ha.gr hg7
      clear hr6
      by_cases hcl : combS (fun p => max (rat l p) (rat [(0, 0)] p)) (pts l [(0, 0)]) = l
      · rw [decide_eq_true hcl]
        have HFIN := Lib.hid (rebuilt HSA.out (rat_ge HSA.out hcl) (rat_le HM.out))
        clear hcl
        go_wp2_with fail
        refine (lev_prog A n ca l _ ha (by omega) (svalid_asc HSA.out).1 (svalid_asc HSA.out).2.1 HM.out).mono ?_
        rintro e w8 ⟨A8, m8, c8, rfl, hown8, hg8⟩
        have ha := ha.gr hg8
        have hr8 := hown8.rds e2_len
        have hm8 : m8 ≤ 1000 := by have h1 := hown8.len; have h2 := stepsLevels.levM_len l; have := hla.out; omega
        have HP := Lib.hid (levM_spec l).1
        obtain ⟨S, hS⟩ : ∃ S, S = levM l := ⟨_, rfl⟩
        rw [← hS] at hr8 HP HFIN
        have hlS := Lib.hid hr8.1
        clear hown8 hS
        go_wp2_with fail
        go_loopw [4, 5] (fun v i wr => ∃ (k : Nat) (A' : Option Addr) (m' c' : Nat), k ≤ m8 ∧ i = .int .i64 k ∧ v = .slice A' m' c' ∧ Own e3 3 40 wr w8.heap.size (.slice A' m' c') (ones (S.take k)) ∧ Gr w8 wr) (fun _ i _ => m8 - (intOf i).toNat)
        case atStart => exact ⟨0, none, 0, 0, Nat.zero_le _, rfl, rfl, Own.nil _ _, Gr.refl _⟩
        case round =>
          obtain ⟨k, A', m', c', hk, rfl, rfl, hown, hg⟩ := hrel
          have hs := hg.size
          have hml := Lib.hid (show (ones (S.take k)).length = k by unfold ones; rw [List.length_map, List.length_take, hlS.out]; omega)
          by_cases hlt : k < m8
          · obtain ⟨b1, o1, x1, y1, hA1, hb1, hx1, d1', d2'⟩ := hr8.at2 hlt
            cases hA1
            have d1 := (hg.cells.1 _ _ hb1).trans d1'
            have d2 := (hg.cells.1 _ _ hb1).trans d2'
            have X1 := Lib.hid hx1
            have hsn := Lib.hid (show ones (S.take k) ++ [((x1, y1), 1)] = ones (S.take (k + 1)) by rw [← take_snoc hx1]; simp [ones])
            have hltb : decide ((k : Int) < (m8 : Int)) = true := by simp; omega
            have hk0 : (0 : Int) ≤ (k : Int) := by omega
            have hk1 : (k : Int) < (m8 : Int) := by omega
            clear hx1 d1' d2'
            by_cases hz : k = 0
            · subst hz
              have d1z : wr.cell? ⟨b1, o1, none⟩ = some (.int .i64 x1) := by simpa using d1
              have d2z : wr.cell? ⟨b1, o1 + 1, none⟩ = some (.int .i64 y1) := by simpa using d2
              go_wp2_with fail
              go_quiet (fail)
              go_wp2_with (at_builtin; refine appAtCounted rfl (.tmp 45) (.tmp 51) rfl w8.heap.size _ (ones (S.take 0)) rfl ((hown.drewN _).alloc _) wr.heap.size 1 1 [((x1, y1), 1)] rfl rfl (heap_at _ _ _ (by simp)) rfl (by have := hml.out; rw [this]; simp) (by simp; omega) ?_; intro A2 m2 c2 w2 hown2 hbel2)
              rw [hsn.out] at hown2
              go_roundw
              case rel => exact ⟨0 + 1, _, _, _, by omega, by go_num, rfl, hown2, ((hg.drewNR _).allocR _).out.trans hbel2⟩
              case measure => simp [intOf]; omega
            · obtain ⟨b0, o0, x0, y0, hA0, hb0, hx0, e1', e2'⟩ := hr8.at2 (show k - 1 < m8 by omega)
              injection hA0 with hA0
              injection hA0 with hA1 hA2
              subst hA1 hA2
              have e1 := (hg.cells.1 _ _ hb1).trans e1'
              have e2 := (hg.cells.1 _ _ hb1).trans e2'
              have hle : pcompare (x0, y0) (x1, y1) ≤ 0 := by
                obtain ⟨i0, p0⟩ := List.getElem?_eq_some_iff.1 hx0
                obtain ⟨i1, p1⟩ := List.getElem?_eq_some_iff.1 X1.out
                have := List.pairwise_iff_getElem.1 HP.out (k - 1) k i0 i1 (by omega)
                rw [p0, p1] at this
                exact lex_cmp this
              clear hx0 e1' e2'
              have hzb : decide ((0 : Int) < (k : Int)) = true := by simp; omega
              have hzn : 0 < k := by omega
              have hzc : decide (0 < k) = true := by simpa using hzn
              have hzi : (0 : Int) < (k : Int) := by omega
              have hj0 : (0 : Int) ≤ (k : Int) - 1 := by omega
              have hj1 : (k : Int) - 1 < (m8 : Int) := by omega
              have hjn : ((k : Int) - 1).toNat = k - 1 := by omega
              have hcp := fun W => pcompare_ref x0 y0 x1 y1 W
              obtain ⟨cv, hcv⟩ : ∃ cv, cv = pcompare (x0, y0) (x1, y1) := ⟨_, rfl⟩
              rw [← hcv] at hcp hle
              have hleb : decide (0 < cv) = false := by simpa using hle
              clear hcv
              have h1i : (1 : Int) ≤ (k : Int) := by omega
              have h1n : 1 ≤ k := by omega
              have h2i : (k : Int) < (m8 : Int) + 1 := by omega
              have h2n : k < m8 + 1 := by omega
              have hwr : IntKind.i64.wrap ((k : Int) - 1) = (k : Int) - 1 := IntWalk.i64_in _ (by omega)
              go_wp2_with fail
              go_region_held3 (fun W => Gr wr W ∧ W.cell? ⟨b1, o1 + k * 2, none⟩ = some (.int .i64 x1) ∧ W.cell? ⟨b1, o1 + k * 2 + 1, none⟩ = some (.int .i64 y1) ∧ W.cell? ⟨b1, o1 + (k - 1) * 2, none⟩ = some (.int .i64 x0) ∧ W.cell? ⟨b1, o1 + (k - 1) * 2 + 1, none⟩ = some (.int .i64 y0))
                (first | (refine ⟨(Gr.refl _).drewR, ?_, ?_, ?_, ?_⟩ <;> assumption) | (go_split_ands; refine ⟨Gr.trans (by assumption) hgN, ?_, ?_, ?_, ?_⟩; all_goals (refine (hgN.cells.1 _ _ ?_).trans (by assumption); exact Nat.lt_of_lt_of_le (Nat.lt_of_lt_of_le hb1 hs) (Gr.size (by assumption)))) | go_keep)
                (first | (go_at_call 23; refine (hcp _).mono ?_; rintro e w5 ⟨rfl, hgN⟩))
              rename_i hH
              clear hwr
              obtain ⟨hgH2, k1, k2, k3, k4⟩ := hH
              have hr := hown.gr hgH2
              have hs2 := (hg.trans hgH2).size
              clear hcp
              go_wp2_with (at_builtin; refine appCounted rfl (.tmp 45) (.tmp 51) rfl w8.heap.size _ (ones (S.take k)) rfl hr [((x1, y1), 1)] 1 rfl rfl (by have := hml.out; rw [this]; simp; omega) hs2 ?_; intro A2 m2 c2 w2 hown2 hbel2)
              rw [hsn.out] at hown2
              go_roundw
              case rel => exact ⟨k + 1, _, _, _, by omega, by go_num, rfl, hown2, (hg.trans hgH2).out.trans hbel2⟩
              case measure => simp [intOf]; omega
          · rw [List.take_of_length_le (by rw [hlS.out]; omega)] at hown
            have hltb : decide ((k : Int) < (m8 : Int)) = false := by simp; omega
            have ha := ha.gr hg
            have hrO := hown.rds e3_len
            have hmO : m' ≤ 1000 := by have h1 := hown.len; have h2 := hlS.out; unfold ones at h1; rw [List.length_map] at h1; omega
            go_wp2_with fail
            refine (of_prog A' m' c' _ _ hrO (by omega)).mono ?_
            rintro e wo ⟨A9, m9, c9, rfl, hown9, hg9⟩
            rw [HFIN.out] at hown9
            have ha := ha.gr hg9
            have hr9 := hown9.rds e2_len
            have hm9 : m9 ≤ 1000 := by have h1 := hown9.len; have := hla.out; omega
            go_wp2_with fail
            refine (same_any _ _ m9 n c9 ca _ _ _ hr9 ha (by omega) (by omega)).mono ?_
            rintro e w10 ⟨rfl, hg10⟩
            rw [decide_self]
            clear hr9 hrO
            go_wp2_with fail
            refine (awake_any _).mono ?_
            rintro e wz ⟨rfl, hgz⟩
            go_wp2_with fail
            go_ret
            exact ⟨rfl, (((((((hg1.trans hg5).trans hg6).trans hg7).trans hg8).trans hg).trans hg9).trans hg10).trans hgz⟩
      · rw [decide_eq_false hcl]
        clear hcl
        go_wp2_with fail
        refine (awake_any _).mono ?_
        rintro e wz ⟨rfl, hgz⟩
        go_wp2_with fail
        go_ret
        exact ⟨rfl, (((hg1.trans hg5).trans hg6).trans hg7).trans hgz⟩

set_option maxRecDepth 100000 in
theorem lifted (os : Os) (started : os.Started) (H : Type) (enc : TypeId × Value → H) :
    ReturnsInHanded {} Try.checked os 5 .any (Rows.stepsRebuiltSpec.pre6 enc Try.prog Try.f5 Rows.stepsRebuiltRow.domain false) (Rows.stepsRebuiltSpec.post enc Try.prog Try.f5 false true false false) := by
  refine returnsInHanded_of_change (C := Try.checked) own started (by kernel_rfl) Try.func5
    (ChangeSpec.witness6 (enc := enc) (C := Try.checked) false ⟨#[], #[.slice none 0 0], []⟩ 8 (by kernel_rfl) (by kernel_rfl) (by kernel_rfl) (by kernel_rfl)) ?_
  intro W base args ds gs before hval0 hW hcnd _
  have hval : ∀ (j : Nat) t v, Try.f5.params[j]? = some t → args[j]? = some v → Value.okWide Try.prog W .any base t v := hval0
  have hW' := hW
  obtain ⟨p, q, hA0, hV, rfl, hfz, hnd⟩ := hW
  have hA : DataW.TrodAll enc Try.prog W 0 (fun _ => true) true Try.f5.params.toList args.toList ds p := hA0
  rw [Try.params5] at hA hval
  obtain ⟨v0, vs0, d0, ds0, p0, q0, hargs, rfl, rfl, h0, r0⟩ := trodAll_cons hA
  obtain ⟨rfl, rfl, rfl⟩ := trodAll_nil r0
  obtain rfl : args = #[v0] := by cases args; simp_all
  obtain ⟨rfl, rfl⟩ := trodVars_none hV
  obtain ⟨a0, len0, cap0, rfl⟩ := okWide_slice Try.underlying25 (hval 0 25 v0 rfl rfl)
  have k0 := h0
  have lt0 : ∀ x ∈ p0, x.block < W.heap.size := by obtain ⟨m, hm⟩ := k0; exact DataW.trod_lt m _ _ _ hm
  obtain ⟨fuel0, hf0⟩ := h0
  obtain ⟨l0, rd0⟩ := open_steps (by simpa [Value.cells] using hf0)
  clear hA0 hval0
  refine (walk a0 len0 cap0 l0 W rd0).mono fun e W' ⟨he, hgr⟩ => ?_
  have bel := hgr.out
  subst he
  exact ⟨_, rfl, _, _, _, [], _, [], hW', trodAll_mk1 (shut_bool Try.underlying4 _), (trodAll_cons_mk (Below.trod laidOut (by kernel_rfl) (of_decide_eq_true (by kernel_rfl)) k0 bel lt0) trodAll_mk0), rfl, bel.frame _, fun h => by cases h⟩

theorem proved : Rows.StepsRebuiltSaid :=
  OpenClaim.holds_of_wide 5 Try.f5 rfl rfl rfl rfl rfl rfl rfl ⟨rfl, rfl, rfl, rfl, rfl⟩ rfl rfl rfl rfl rfl (by kernel_rfl) Try.func5 (by kernel_rfl)
    (of_decide_eq_true (by kernel_rfl)) (by unfold Func.isWrapper; first | (rw [if_pos (by decide +kernel)]; kernel_rfl) | (rw [if_neg (by decide +kernel)]; exact ⟨rfl, rfl⟩))
    (fun os started H enc _ => lifted os started H enc)

#print axioms proved
end Go.Proofs.Ytllenmkmompjpaa.stepsRebuilt
