/- StepsPieces of bitemporallaw04 returns true for any two lists of counted periods, which read afterwards as before. No condition. -/
import Derived.Test.YtllenmkmompjpaaFine
import Derived.Test.YtllenmkmompjpaaOpen
namespace Go.Proofs.Ytllenmkmompjpaa.stepsPieces
open Go.ChangeShapes Go.WideShapes Go.ChangeAt Go.RowKit
set_option linter.unusedVariables false

theorem isum_append (a b : List ((Int × Int) × Int)) (t : Int) : isum (a ++ b) t = isum a t + isum b t := by simp [isum]
theorem isum_perm {a b : List ((Int × Int) × Int)} (h : a.Perm b) (t : Int) : isum a t = isum b t := by
  unfold isum
  induction h with
  | nil => rfl
  | cons x _ ih => simp only [List.map_cons, List.sum_cons, ih]
  | swap x y l => simp only [List.map_cons, List.sum_cons]; omega
  | trans _ _ ih1 ih2 => exact ih1.trans ih2
theorem of_ext {a b : List ((Int × Int) × Int)} (h : ∀ t, isum a t = isum b t) : combS (rsum a) (ofPts a) = combS (rsum b) (ofPts b) := by
  obtain ⟨h1, h2⟩ := of_ok a
  obtain ⟨h3, h4⟩ := of_ok b
  exact svalid_ext h1 h3 fun t t1 t2 => by rw [h2 t t1 t2, h4 t t1 t2, rsum_eq, rsum_eq, h t]
theorem of_add (a b : List ((Int × Int) × Int)) : combS (rsum (a ++ b)) (ofPts (a ++ b)) = combS (fun p => wrap64 (rat (combS (rsum a) (ofPts a)) p + rat (combS (rsum b) (ofPts b)) p)) (pts (combS (rsum a) (ofPts a)) (combS (rsum b) (ofPts b))) := by
  obtain ⟨h1, h2⟩ := of_ok (a ++ b)
  obtain ⟨h3, h4⟩ := of_ok a
  obtain ⟨h5, h6⟩ := of_ok b
  obtain ⟨h7, h8⟩ := comb_ok (fun x y => wrap64 (x + y)) h3 (.inl h5)
  refine svalid_ext h1 h7 fun t t1 t2 => ?_
  rw [h2 t t1 t2, h8 t t1 t2, h4 t t1 t2, h6 t t1 t2, rsum_eq, rsum_eq, rsum_eq, isum_append, wrap_wl, wrap_wr]
theorem of_len (l : List ((Int × Int) × Int)) : (combS (rsum l) (ofPts l)).length ≤ 1 + 2 * l.length := by
  have h1 := combS_len (rsum l) (ofPts l)
  have h2 := ofPts_len l
  omega
theorem appRdCounted {w : World} {B : Nat} {ops : Array Oper} {rest : List Oper} {o : Oper} {a : Act} {Q : Exit → Act → World → Prop} (hgd : o.guard = none) (s x : Operand)
    (ho : o.op = .call { callee := .builtin .append, args := #[s, x], argTypes := #[22, 22] }) (base : Nat) (v : Value) (l : List ((Int × Int) × Int)) (hs : a.eval s = v) (hown : Own e3 3 40 w base v l) (A : Option Addr) (m c : Nat) (xs : List ((Int × Int) × Int))
    (hx : a.eval x = .slice A m c) (hr : Rd e3 3 w B A m xs) (hnil : A = none → m = 0 ∧ c = 0) (hlen : l.length + m ≤ 1000000000) (hbase : base ≤ w.heap.size)
    (h : ∀ A n c w', Own e3 3 40 w' base (.slice A n c) (l ++ xs) → Below base w w' → wpList Try.prog ops Q rest (a.put o.dst (.slice A n c)) w') :
    wpList Try.prog ops Q (o :: rest) a w := by
  obtain ⟨i0, hi, hz0, hz1, hz2⟩ := info_parts infoCounted
  exact wpList_appRd hgd s x 22 ho i0 _ 24 Try.underlying22 hi hz0 hz1 hz2 rfl (by omega) e3_len e3_one v l hs hown A m c xs hx hr hnil (by omega) (by omega) hbase h
theorem rev_snoc {α : Type} {l : List α} {k : Nat} {x : α} (hk : k < l.length) (hx : l[l.length - 1 - k]? = some x) : l.reverse.take k ++ [x] = l.reverse.take (k + 1) := by
  refine take_snoc ?_
  rw [List.getElem?_reverse hk]
  exact hx

set_option maxRecDepth 100000 in
set_option maxHeartbeats 8000000 in
theorem walk (A : Option Addr) (n ca : Nat) (a : List ((Int × Int) × Int)) (B : Option Addr) (m cb : Nat) (b : List ((Int × Int) × Int)) (w : World) (ha : Rd e3 3 w w.heap.size A n a) (hna : A = none → n = 0 ∧ ca = 0) (hb : Rd e3 3 w w.heap.size B m b) (hnb : B = none → m = 0 ∧ cb = 0) :
    Calls Try.prog 7 #[.slice A n ca, .slice B m cb] w fun e w' => e = .returned (.bool true) ∧ Gr w w' := by
  by_cases hn : 24 < n
  · have hnb : decide ((24 : Int) < (n : Int)) = true := by simp; omega
    go_enter Try.func7, Try.ntmps7
    go_wp2_with fail
    refine (awake_any _).mono ?_
    rintro e wz ⟨rfl, hgz⟩
    go_wp2_with fail
    go_ret
    exact ⟨rfl, hgz⟩
  · have hnd : decide ((24 : Int) < (n : Int)) = false := by simp; omega
    by_cases hm : 24 < m
    · have hmd : decide ((24 : Int) < (m : Int)) = true := by simp; omega
      go_enter Try.func7, Try.ntmps7
      go_wp2_with fail
      refine (awake_any _).mono ?_
      rintro e wz ⟨rfl, hgz⟩
      go_wp2_with fail
      go_ret
      exact ⟨rfl, hgz⟩
    · have hmd : decide ((24 : Int) < (m : Int)) = false := by simp; omega
      have HNA := Lib.hid hna
      have HNB := Lib.hid hnb
      have hla := Lib.hid ha.1
      have hlb := Lib.hid hb.1
      clear hna hnb
      go_enter Try.func7, Try.ntmps7
      go_wp2_with (first | (at_builtin; refine appRdCounted rfl (.tmp 18) (.tmp 19) rfl w.heap.size (.slice none 0 0) [] rfl (Own.nil _ _) A n ca a rfl ha HNA.out (by simp; omega) (Nat.le_refl _) ?_; intro A1 m1 c1 w1 hown1 hbel1; rw [List.nil_append] at hown1) | (at_builtin; refine appRdCounted rfl (.tmp 21) (.tmp 22) rfl w.heap.size _ a rfl hown1 B m cb b rfl (hb.below hbel1) HNB.out (by rw [hla.out]; omega) hbel1.size ?_; intro A2 m2 c2 w2 hown2 hbel2; have hq := hown2.len; rw [List.length_append, hla.out, hlb.out] at hq; have hm2c : m2 ≤ 48 := (by omega); clear hq))
      have hg2 : Gr w w2 := hbel1.trans hbel2
      clear hown1 hbel1 hbel2
      obtain ⟨L, hL⟩ : ∃ L, L = a ++ b := ⟨_, rfl⟩
      rw [← hL] at hown2
      have HL := Lib.hid hL
      have hm2 := hown2.len
      have hLl : L.length ≤ 48 := by rw [hL, List.length_append, hla.out, hlb.out]; omega
      have HM2 := Lib.hid hm2
      have hm2b : m2 ≤ 48 := by omega
      have hr2 := hown2.rds e3_len
      have ha := ha.gr hg2
      have hb := hb.gr hg2
      clear hL hm2 hown2
      go_loopw [6, 7] (fun v i wr => ∃ (k : Nat) (A' : Option Addr) (m' c' : Nat), k ≤ m2 ∧ i = .int .i64 ((m2 : Int) - 1 - k) ∧ v = .slice A' m' c' ∧ Own e3 3 40 wr w2.heap.size (.slice A' m' c') (L.reverse.take k) ∧ Gr w2 wr) (fun _ i _ => (intOf i + 1).toNat)
      case atStart => exact ⟨0, none, 0, 0, Nat.zero_le _, by go_num, rfl, Own.nil _ _, Gr.refl _⟩
      case round =>
        obtain ⟨k, A', m', c', hk, rfl, rfl, hown, hg⟩ := hrel
        by_cases hlt : k < m2
        · obtain ⟨b1, o1, x1, y1, z1, hA1, hb1, hx1, d1, d2, d3⟩ := (hr2.gr hg).at3 (i := m2 - 1 - k) (by omega)
          cases hA1
          have hsn := Lib.hid (rev_snoc (k := k) (by rw [HM2.out]; exact hlt) (by rw [HM2.out]; exact hx1))
          clear hx1
          have hs := hg.size
          have hml : (L.reverse.take k).length ≤ 48 := by rw [List.length_take, List.length_reverse]; omega
          have hix : ((m2 : Int) - 1 - k).toNat = m2 - 1 - k := by omega
          go_wp2_with (at_builtin; refine appCounted rfl (.tmp 31) (.tmp 36) rfl w2.heap.size _ (L.reverse.take k) rfl hown [((x1, y1), z1)] 1 rfl rfl (by simp only [List.length_cons, List.length_nil]; omega) hs ?_; intro A4 m4 c4 w4 hown4 hbel4)
          rw [hsn.out] at hown4
          go_roundw
          case rel => exact ⟨k + 1, _, _, _, by omega, by go_num, rfl, hown4, hg.out.trans hbel4⟩
          case measure => simp [intOf]; omega
        · have hkm : ¬ (0 : Int) ≤ (m2 : Int) - 1 - k := by omega
          rw [List.take_of_length_le (by rw [List.length_reverse, HM2.out]; omega)] at hown
          have hm5 : m' ≤ 48 := by have := hown.len; simp at this; omega
          have ht := hown.rds e3_len
          clear hown
          have hr2 := hr2.gr hg
          have ha := ha.gr hg
          have hb := hb.gr hg
          go_wp2_with fail
          refine (of_prog A2 m2 c2 L _ hr2 (by omega)).mono ?_
          rintro e w5 ⟨A5, m5, c5, rfl, hown5, hg5⟩
          have hm5b : m5 ≤ 1000 := by have h1 := hown5.len; have h2 := of_len L; omega
          have hr5 := hown5.rds e2_len
          have ht := ht.gr hg5
          have ha := ha.gr hg5
          have hb := hb.gr hg5
          have HO := Lib.hid (of_ok L)
          clear hown5
          go_wp2_with fail
          refine (svalid_ref A5 m5 c5 _ _ hr5 (by omega)).mono ?_
          rintro e w6 ⟨rfl, hg6⟩
          rw [HO.out.1]
          have hr5 := hr5.gr hg6
          have ht := ht.gr hg6
          have ha := ha.gr hg6
          have hb := hb.gr hg6
          go_wp2_with fail
          refine (of_prog A' m' c' L.reverse _ ht (by omega)).mono ?_
          rintro e w7 ⟨A7, m7, c7, rfl, hown7, hg7⟩
          rw [of_ext (fun t => isum_perm (List.reverse_perm L) t)] at hown7
          have hm7b : m7 ≤ 1000 := by have h1 := hown7.len; have h2 := of_len L; omega
          have hr7 := hown7.rds e2_len
          have hr5 := hr5.gr hg7
          have ha := ha.gr hg7
          have hb := hb.gr hg7
          clear hown7
          go_wp2_with fail
          refine (same_any _ _ m5 m7 c5 c7 _ _ _ hr5 hr7 (by omega) (by omega)).mono ?_
          rintro e w8 ⟨rfl, hg8⟩
          rw [decide_self]
          have hr5 := hr5.gr hg8
          have ha := ha.gr hg8
          have hb := hb.gr hg8
          clear hr7
          go_wp2_with fail
          refine (of_prog A n ca a _ ha (by omega)).mono ?_
          rintro e w9 ⟨A9, m9, c9, rfl, hown9, hg9⟩
          have hm9b : m9 ≤ 1000 := by have h1 := hown9.len; have h2 := of_len a; have := hla.out; omega
          have hr9 := hown9.rds e2_len
          have hr5 := hr5.gr hg9
          have hb := hb.gr hg9
          clear hown9
          go_wp2_with fail
          refine (of_prog B m cb b _ hb (by omega)).mono ?_
          rintro e w10 ⟨A10, m10, c10, rfl, hown10, hg10⟩
          have hm10b : m10 ≤ 1000 := by have h1 := hown10.len; have h2 := of_len b; have := hlb.out; omega
          have hr10 := hown10.rds e2_len
          have hr5 := hr5.gr hg10
          have hr9 := hr9.gr hg10
          clear hown10
          go_wp2_with fail
          refine (sAdd_prog A9 A10 m9 m10 c9 c10 _ _ _ hr9 hr10 (by omega) (by omega) (svalid_asc (of_ok a).1).1 (svalid_asc (of_ok b).1).1 (svalid_asc (of_ok a).1).2.2.1).mono ?_
          rintro e w11 ⟨A11, m11, c11, rfl, hown11, hg11⟩
          rw [← of_add, ← HL.out] at hown11
          have hm11b : m11 ≤ 1000 := by have h1 := hown11.len; have h2 := of_len L; omega
          have hr11 := hown11.rds e2_len
          have hr5 := hr5.gr hg11
          clear hown11
          go_wp2_with fail
          refine (same_any _ _ m5 m11 c5 c11 _ _ _ hr5 hr11 (by omega) (by omega)).mono ?_
          rintro e w12 ⟨rfl, hg12⟩
          rw [decide_self]
          go_wp2_with fail
          refine (awake_any _).mono ?_
          rintro e wz ⟨rfl, hgz⟩
          go_wp2_with fail
          go_ret
          exact ⟨rfl, (((((((((hg2.trans hg).trans hg5).trans hg6).trans hg7).trans hg8).trans hg9).trans hg10).trans hg11).trans hg12).trans hgz⟩

set_option maxRecDepth 100000 in
theorem lifted (os : Os) (started : os.Started) (H : Type) (enc : TypeId × Value → H) :
    ReturnsInHanded {} Try.checked os 7 .any (Rows.stepsPiecesSpec.pre6 enc Try.prog Try.f7 Rows.stepsPiecesRow.domain false) (Rows.stepsPiecesSpec.post enc Try.prog Try.f7 false true false false) := by
  refine returnsInHanded_of_change (C := Try.checked) own started (by kernel_rfl) Try.func7
    (ChangeSpec.witness6 (enc := enc) (C := Try.checked) false ⟨#[], #[.slice none 0 0, .slice none 0 0], []⟩ 8 (by kernel_rfl) (by kernel_rfl) (by kernel_rfl) (by kernel_rfl)) ?_
  intro W base args ds gs before hval0 hW hcnd _
  have hval : ∀ (j : Nat) t v, Try.f7.params[j]? = some t → args[j]? = some v → Value.okWide Try.prog W .any base t v := hval0
  have hW' := hW
  obtain ⟨p, q, hA0, hV, rfl, hfz, hnd⟩ := hW
  have hA : DataW.TrodAll enc Try.prog W 0 (fun _ => true) true Try.f7.params.toList args.toList ds p := hA0
  rw [Try.params7] at hA hval
  obtain ⟨v0, vs0, d0, ds0, p0, q0, hargs, rfl, rfl, h0, r0⟩ := trodAll_cons hA
  obtain ⟨v1, vs1, d1, ds1, p1, q1, rfl, rfl, rfl, h1, r1⟩ := trodAll_cons r0
  obtain ⟨rfl, rfl, rfl⟩ := trodAll_nil r1
  obtain rfl : args = #[v0, v1] := by cases args; simp_all
  obtain ⟨rfl, rfl⟩ := trodVars_none hV
  obtain ⟨a0, len0, cap0, rfl⟩ := okWide_slice Try.underlying22 (hval 0 22 v0 rfl rfl)
  have k0 := h0
  have lt0 : ∀ x ∈ p0, x.block < W.heap.size := by obtain ⟨m, hm⟩ := k0; exact DataW.trod_lt m _ _ _ hm
  obtain ⟨fuel0, hf0⟩ := h0
  obtain ⟨l0, rd0, nil0⟩ := open_counted (by simpa [Value.cells] using hf0)
  obtain ⟨a1, len1, cap1, rfl⟩ := okWide_slice Try.underlying22 (hval 1 22 v1 rfl rfl)
  have k1 := h1
  have lt1 : ∀ x ∈ p1, x.block < W.heap.size := by obtain ⟨m, hm⟩ := k1; exact DataW.trod_lt m _ _ _ hm
  obtain ⟨fuel1, hf1⟩ := h1
  obtain ⟨l1, rd1, nil1⟩ := open_counted (by simpa [Value.cells] using hf1)
  clear hA0 hval0
  refine (walk a0 len0 cap0 l0 a1 len1 cap1 l1 W rd0 nil0 rd1 nil1).mono fun e W' ⟨he, hgr⟩ => ?_
  have bel := hgr.out
  subst he
  exact ⟨_, rfl, _, _, _, [], _, [], hW', trodAll_mk1 (shut_bool Try.underlying4 _), (trodAll_cons_mk (Below.trod laidOut (by kernel_rfl) (of_decide_eq_true (by kernel_rfl)) k0 bel lt0) (trodAll_cons_mk (Below.trod laidOut (by kernel_rfl) (of_decide_eq_true (by kernel_rfl)) k1 bel lt1) trodAll_mk0)), rfl, bel.frame _, fun h => by cases h⟩

theorem proved : Rows.StepsPiecesSaid :=
  OpenClaim.holds_of_wide 7 Try.f7 rfl rfl rfl rfl rfl rfl rfl ⟨rfl, rfl, rfl, rfl, rfl⟩ rfl rfl rfl rfl rfl (by kernel_rfl) Try.func7 (by kernel_rfl)
    (of_decide_eq_true (by kernel_rfl)) (by unfold Func.isWrapper; first | (rw [if_pos (by decide +kernel)]; kernel_rfl) | (rw [if_neg (by decide +kernel)]; exact ⟨rfl, rfl⟩))
    (fun os started H enc _ => lifted os started H enc)

#print axioms proved
end Go.Proofs.Ytllenmkmompjpaa.stepsPieces
