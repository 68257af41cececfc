/- Parts of the proof, joined. No condition. -/
import Derived.Test.YtnbnpnmkgemdeaaGreatDoorKBO
import Derived.Test.YtnbnpnmkgemdeaaGreatDoorRows
import Derived.Test.YtnbnpnmkgemdeaaGreatDoorTie
import Derived.Test.YtnbnpnmkgemdeaaGreatDoorCards
import Derived.ProofKit
import Derived.Deep.DeepHandedRow
import Derived.LaidMore
import Derived.OpenShut
import Derived.Stop.Joined
import Derived.SevenTiedAt
import Derived.Lib.LaidTab
import Derived.Lib.ItoaNum
set_option linter.unusedSimpArgs false
set_option linter.unusedVariables false
namespace Go.Proofs.YtnbnpnmkgemdeaaGreatDoor.nonseqSelectsUpto
open Go.ChangeShapes Go.WideShapes Go.ChangeAt Go.RowKit
set_option linter.unusedVariables false
set_option linter.unusedSimpArgs false
theorem own : ownKnob Tryz.prog.godebug = none := by kernel_rfl
theorem laidOut : laidOutB Tryz.prog = true := by kernel_rfl
abbrev laid3 := Rows.nonseqSelectsUptoRow.laid
abbrev sp := Rows.OpenSpec.upto Rows.nonseqSelectsSpec
theorem door_met (os : Os) (args : Array Value) : laidMetH Tryz.prog laid3 ((World.doorLaid Tryz.prog 400 os).forCall (fun _ _ => 0) ⟨#[], args, []⟩).memory :=
  laidMetH_of_parts3 (fuel := 8) (laidMet_of_run' 8 (by kernel_rfl) (by kernel_rfl)) (by kernel_rfl) (by kernel_rfl)
theorem tab_met {W : World} (h : laidMetH Tryz.prog laid3 W) : TabR (fun b o => W.cell? ⟨b, o, none⟩) := by
  have h0 : laidMet Tryz.prog laid3 W := h
  obtain ⟨ps, hl, _⟩ := h0
  obtain ⟨_, _, _, _, _, _, _, _, _, _, hl, _⟩ := hl
  obtain ⟨_, _, _, _, _, _, _, _, _, _, hl, _⟩ := hl
  obtain ⟨g', t', cs, fuel, p, q, hg', ht', hvar, hd, _, _⟩ := hl
  obtain rfl := Option.some.inj ((show Tryz.prog.globalNamed "internal/strconv.uint64pow10" = some 1 by kernel_rfl).symm.trans hg')
  have hty : (Tryz.prog.globals[1]?).map (·.type) = some 299 := by kernel_rfl
  obtain rfl := Option.some.inj (hty.symm.trans ht')
  have e : Rows.laid_internal_strconv_uint64pow10 = (Lib.tabData .u64 Lib.pow10Tab : DataW Unit) := by kernel_rfl
  rw [e] at hd
  have hT : Lib.TabIs Tryz.prog W "internal/strconv.uint64pow10" .u64 Lib.pow10Tab := by
    unfold Lib.TabIs
    rw [hvar, ← Lib.cells_of_tab (P := Tryz.prog) (t := 299) (n := 20) (by kernel_rfl) (e := 238) (by kernel_rfl) (by kernel_rfl) (by kernel_rfl) hd]
  intro o u hu
  unfold tabCell at hu
  split at hu
  · rename_i ho
    have := hT.cell (show Tryz.prog.globalNamed "internal/strconv.uint64pow10" = some 1 by kernel_rfl) o (by rw [Lib.pow10Tab_length]; exact ho)
    rw [Lib.pow10Tab_at o ho] at this
    rw [← hu]
    show W.cell? ⟨1, o, none⟩ = _
    rw [this]; norm_cast
  · cases hu
theorem walk (x0 : (List Ver)) (x1 : Cla) (x2 : Int) (q0 : (Up.LOk 88 Up.okVer) x0) (q1 : Up.okCla x1) (q2 : IOk x2) (v0 : Value) (c1 : Array Value) (v2 : Value) {w : World} (hT : TabR (fun b o => w.cell? ⟨b, o, none⟩)) (r0 : CRd hT [v0] [.lst (x0.map cVer)]) (r1 : CRd hT c1.toList (cCla x1)) (r2 : CRd hT [v2] [.int .i64 x2]) :
    Calls Tryz.prog 3 #[v0, .agg c1, v2] w fun e w' => e = .returned (.bool true) ∧ Below w.heap.size w w' := by
  have h := (nonseqSelects_pure (Up.lok_ok (fun _ => Up.ver_ok) q0) (fun v hv x hx => Nat.le_trans ((q0.2 v hv).row.2 x hx).text (by decide)) (c := x1) (t := x2)).2 (RW hT) w #[v0, .agg c1, v2] (fun _ _ _ h => h) rfl (by
    intro j u q hu hq
    match j, hu, hq with
    | 0, hu, hq =>
      simp at hu hq; subst hu hq
      exact r0.2 0 _ _ rfl rfl
    | 1, hu, hq =>
      simp at hu hq; subst hu hq
      exact ⟨c1, rfl, by have := r1.1; simpa using this, fun j u x hu hx => r1.2 j u x (by simpa using hu) hx⟩
    | 2, hu, hq =>
      simp at hu hq; subst hu hq
      exact r2.2 0 _ _ rfl rfl
    | j + 3, hu, hq => simp at hq)
  refine h.mono ?_
  rintro e w' ⟨u, R', rfl, hx, _, hr⟩
  cases hr
  exact ⟨rfl, ⟨hx.below.os, hx.below.tape, hx.below.output, hx.below.size, hx.below.block⟩⟩
theorem wit_row {H : Type} {enc : TypeId × Value → H} {C : Checked} {os : Os} {f : FuncId} {fn : Func} {s : OpenSpec} {conds : List PathCond} {apart : Bool} {laid : List (String × DataW Unit)} (w0 : World) (args : Array Value) (hos : w0.os = os)
    (hsh : (w0.forCall (fun _ _ => 0) ⟨#[], args, []⟩).Shaped C.prog)
    (hok : Input.okWideB C.prog (w0.forCall (fun _ _ => 0) ⟨#[], args, []⟩) f ⟨#[], args, []⟩ = true)
    (hrow : s.preRow enc C.prog fn conds apart laid (w0.forCall (fun _ _ => 0) ⟨#[], args, []⟩).memory args) :
    ∃ (w : World) (tape : Tape) (i : Input), w.os = os ∧ (w.forCall tape i).Shaped C.prog ∧ i.vars = [] ∧ Input.okWide C.prog (w.forCall tape i) .any w.heap.size f i ∧
      s.preRow enc C.prog fn conds apart laid (w.forCall tape i).memory i.args ∧ ({} : Assume).holds C.prog (lone (Frame.enter C.prog f i.args .normal) [] (w.forCall tape i)) :=
  ⟨w0, fun _ _ => 0, ⟨#[], args, []⟩, hos, hsh, (Input.okWide_of_okWideB (base := 0) hok).1, (Input.okWide_of_okWideB hok).2, hrow, by
    simp only [Assume.holds]
    exact ⟨by simp, by simp, fun _ => Modest.zero, by simp, by simp⟩⟩
noncomputable abbrev w0 (os : Os) : World := World.doorLaid Tryz.prog 400 os
abbrev a0 : Array Value := #[.slice none 0 0, .agg #[.int .i64 0, .int .i64 0, .int .i64 0], .int .i64 0]
theorem reads (os : Os) {H : Type} (enc : TypeId × Value → H) : ∃ places, DataW.whole enc Tryz.prog ((w0 os).forCall (fun _ _ => 0) ⟨#[], a0, []⟩).memory Tryz.f3.params.toList sp.vars false a0.toList 8 = some ([.nil, .agg [.lit (.int .i64 0), .lit (.int .i64 0), .lit (.int .i64 0)], .lit (.int .i64 0)], [], places) :=
  ⟨[], by kernel_rfl⟩
theorem met (os : Os) (H : Type) (enc : TypeId × Value → H) : sp.preRow enc Tryz.prog Tryz.f3 Rows.nonseqSelectsUptoRow.domain false laid3 ((w0 os).forCall (fun _ _ => 0) ⟨#[], a0, []⟩).memory a0 := by
  obtain ⟨places, hx⟩ := reads os enc
  exact OpenSpec.preRow_of_cond 8 hx (by kernel_rfl) (fun k hk => by cases hk; kernel_rfl) (by kernel_rfl) (door_met os _)
set_option maxRecDepth 100000 in
theorem lifted (os : Os) (started : os.Started) (H : Type) (enc : TypeId × Value → H) (F : Stop.Interp) :
    ReturnsInHanded {} Tryz.checked os 3 .any (sp.preRow enc Tryz.prog Tryz.f3 Rows.nonseqSelectsUptoRow.domain false laid3) ((sp.at F).post enc Tryz.prog Tryz.f3 false true false false) := by
  refine returnsInHanded_of_row (C := Tryz.checked) (s := sp) own started (by kernel_rfl) Tryz.func3 (wit_row (enc := enc) (C := Tryz.checked) (os := os) (f := 3) (fn := Tryz.f3) (s := sp) (conds := Rows.nonseqSelectsUptoRow.domain) (apart := false) (laid := laid3) (w0 os) a0 rfl (World.shaped_of_RefB (by kernel_rfl) (by kernel_rfl)) (by kernel_rfl) (met os H enc)) ?_
  intro W base args ds gs before hval0 hW _ hcond hsz hL _ _
  have hsm : Rows.uptoSmall H (ds ++ gs) = true := hcond _ rfl
  have hval : ∀ (j : Nat) t v, Tryz.f3.params[j]? = some t → args[j]? = some v → Value.okWide Tryz.prog W .any base t v := hval0
  have hT := tab_met hL
  have hW' := hW
  obtain ⟨p, q, hA0, hV, rfl, hfz, hnd⟩ := hW
  have hA : DataW.TrodAll enc Tryz.prog W 0 (fun _ => true) true Tryz.f3.params.toList args.toList ds p := hA0
  rw [Tryz.params3] at hA hval
  obtain ⟨v0, vs0, d0, ds0, p0, q0, hargs, rfl, rfl, h0, t0⟩ := trodAll_cons hA
  obtain ⟨v1, vs1, d1, ds1, p1, q1, rfl, rfl, rfl, h1, t1⟩ := trodAll_cons t0
  obtain ⟨v2, vs2, d2, ds2, p2, q2, rfl, rfl, rfl, h2, t2⟩ := trodAll_cons t1
  obtain ⟨rfl, rfl, rfl⟩ := trodAll_nil t2
  obtain rfl : args = #[v0, v1, v2] := by cases args; simp_all
  obtain ⟨rfl, rfl⟩ := trodVars_none hV
  obtain ⟨a0, len0, cap0, rfl⟩ := okWide_slice Tryz.underlying22 (hval 0 22 v0 rfl rfl)
  obtain ⟨c1, rfl, _⟩ := okWide_struct Tryz.underlying24 (hval 1 24 v1 rfl rfl)
  obtain ⟨n2, rfl⟩ := okWide_int Tryz.underlying3 (hval 2 3 v2 rfl rfl)
  have k0 := h0
  have lt0 : ∀ x ∈ p0, x.block < W.heap.size := by obtain ⟨m, hm⟩ := k0; exact DataW.trod_lt m _ _ _ hm
  have k1 := h1
  have lt1 : ∀ x ∈ p1, x.block < W.heap.size := by obtain ⟨m, hm⟩ := k1; exact DataW.trod_lt m _ _ _ hm
  have k2 := h2
  have lt2 : ∀ x ∈ p2, x.block < W.heap.size := by obtain ⟨m, hm⟩ := k2; exact DataW.trod_lt m _ _ _ hm
  have w0 : Up.WOk 22 d0 := Up.wok hsm (by simp) 22
  have w1 : Up.WOk 24 d1 := Up.wok hsm (by simp) 24
  obtain ⟨fuel0, hf0⟩ := h0
  obtain ⟨x0, r0, q100⟩ := Up.rd_l22 (hT := hT) (cs := [.slice a0 len0 cap0]) (fuel := fuel0) (by simpa [Value.cells] using hf0) w0
  obtain ⟨fuel1, hf1⟩ := h1
  obtain ⟨x1, r1, q101⟩ := Up.rd_Cla fuel1 (hT := hT) (cs := c1.toList) (by simpa [Value.cells] using hf1) w1
  obtain ⟨fuel2, hf2⟩ := h2
  obtain ⟨x2, r2, q102⟩ := read_int Tryz.underlying3 (hT := hT) (cs := [.int .i64 n2]) (fuel := fuel2) (by simpa [Value.cells] using hf2)
  clear hA0 hval0
  refine (walk x0 x1 x2 q100 q101 q102 _ c1 _ hT r0 r1 r2).mono fun e W' ⟨he, bel⟩ => ?_
  subst he
  exact ⟨_, rfl, _, _, _, [], _, [], hW', trodAll_mk1 (shut_bool Tryz.underlying4 _), (trodAll_cons_mk (Below.trod laidOut (by kernel_rfl) (of_decide_eq_true (by kernel_rfl)) k0 bel lt0) (trodAll_cons_mk (Below.trod laidOut (by kernel_rfl) (of_decide_eq_true (by kernel_rfl)) k1 bel lt1) (trodAll_cons_mk (Below.trod laidOut (by kernel_rfl) (of_decide_eq_true (by kernel_rfl)) k2 bel lt2) trodAll_mk0))), rfl, bel.frame _, fun h => by cases h⟩
end Go.Proofs.YtnbnpnmkgemdeaaGreatDoor.nonseqSelectsUpto
