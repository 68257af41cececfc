/- Parts of the proof, joined (N4). No condition. -/
import Derived.Test.YtnbnpnmkgemdeaaGreatDoorKN
import Derived.Test.YtnbnpnmkgemdeaaGreatDoorKD
import Derived.Test.YtnbnpnmkgemdeaaGreatDoorKE
set_option linter.unusedSimpArgs false
set_option linter.unusedVariables false
namespace Go.Proofs.YtnbnpnmkgemdeaaGreatDoor
open Go.RowKit Go.MapKept
set_option maxRecDepth 100000
set_option maxHeartbeats 8000000
set_option linter.unusedVariables false
set_option linter.unusedSimpArgs false
def colE (n : Int) : Ex := .mk 2 n ⟨0, 0, ByteArray.empty⟩ ByteArray.empty []
def relE (rel a b : Int) : Ex := .mk 24 rel ⟨0, 0, ByteArray.empty⟩ ByteArray.empty [colE a, colE (IntKind.i64.wrap (a + 1)), colE b, colE (IntKind.i64.wrap (b + 1))]
theorem related_pure (rel a b : Int) : Pure Tryz.prog 32 [.one (.int .i64 rel), .one (.int .i64 a), .one (.int .i64 b)] (.val (.agg (tE (relE rel a b)))) := by
  have h : tE (relE rel a b) = [.int .i64 24, .int .i64 rel, .int .i64 0, .int .i64 0, .str ⟨#[]⟩, .str ⟨#[]⟩, .lst [[.int .i64 2, .int .i64 a, .int .i64 0, .int .i64 0, .str ⟨#[]⟩, .str ⟨#[]⟩, .lst []], [.int .i64 2, .int .i64 (IntKind.i64.wrap (a + 1)), .int .i64 0, .int .i64 0, .str ⟨#[]⟩, .str ⟨#[]⟩, .lst []], [.int .i64 2, .int .i64 b, .int .i64 0, .int .i64 0, .str ⟨#[]⟩, .str ⟨#[]⟩, .lst []], [.int .i64 2, .int .i64 (IntKind.i64.wrap (b + 1)), .int .i64 0, .int .i64 0, .str ⟨#[]⟩, .str ⟨#[]⟩, .lst []]]] := rfl
  rw [h]
  exact (evF_ok cx_ok 8).1 _ _ _ (by kernel_rfl)
theorem relatedR_pure (rel a b : Int) : Pure Tryz.prog 33 [.one (.int .i64 rel), .one (.int .i64 a), .one (.int .i64 b)] (.val (.agg (tE (relE rel a b)))) := by
  have h : tE (relE rel a b) = [.int .i64 24, .int .i64 rel, .int .i64 0, .int .i64 0, .str ⟨#[]⟩, .str ⟨#[]⟩, .lst [[.int .i64 2, .int .i64 a, .int .i64 0, .int .i64 0, .str ⟨#[]⟩, .str ⟨#[]⟩, .lst []], [.int .i64 2, .int .i64 (IntKind.i64.wrap (a + 1)), .int .i64 0, .int .i64 0, .str ⟨#[]⟩, .str ⟨#[]⟩, .lst []], [.int .i64 2, .int .i64 b, .int .i64 0, .int .i64 0, .str ⟨#[]⟩, .str ⟨#[]⟩, .lst []], [.int .i64 2, .int .i64 (IntKind.i64.wrap (b + 1)), .int .i64 0, .int .i64 0, .str ⟨#[]⟩, .str ⟨#[]⟩, .lst []]]] := rfl
  rw [h]
  exact (evF_ok cx_ok 8).1 _ _ _ (by kernel_rfl)
def gLawRelated (a_rel : Int) (a_a : Int) (a_b : Int) : Option (Bool) := bif (decide (a_a < (0 : Int))) then
  some (true)
else
  bif (decide (a_b < (0 : Int))) then
    some (true)
  else
    bif (decide ((48 : Int) < a_a)) then
      some (true)
    else
      bif (decide ((48 : Int) < a_b)) then
        some (true)
      else
        (gSame 10 (relE a_rel a_a a_b) (relE a_rel a_a a_b)).bind fun r_11 => bif r_11 then
          some (true)
        else
          some false
theorem gLawRelated_ok {a_rel : Int} {a_a : Int} {a_b : Int} {r : Bool} (H : gLawRelated a_rel a_a a_b = some r) : Pure Tryz.prog 7 [.one (.int .i64 a_rel), .one (.int .i64 a_a), .one (.int .i64 a_b)] (.val (.one (.bool r))) := by
  unfold gLawRelated at H
  refine pure_of_aw tab_ok Tryz.func7 rfl rfl Tryz.ntmps7 (by simp) ?_
  simp only [argT, PV.av, List.map_cons, List.map_nil]
  rcases Bool.eq_false_or_eq_true (decide (a_a < (0 : Int))) with q_1 | q_1
  · rw [q_1, cond_true] at H
    have hc_2 := awake_pure
    try simp only [List.map_append, List.map_cons, List.map_nil, List.nil_append, tE_eq, tP_eq] at hc_2
    obtain rfl := Option.some.inj H
    exact go_
  · rw [q_1, cond_false] at H
    rcases Bool.eq_false_or_eq_true (decide (a_b < (0 : Int))) with q_3 | q_3
    · rw [q_3, cond_true] at H
      have hc_4 := awake_pure
      try simp only [List.map_append, List.map_cons, List.map_nil, List.nil_append, tE_eq, tP_eq] at hc_4
      obtain rfl := Option.some.inj H
      exact go_
    · rw [q_3, cond_false] at H
      rcases Bool.eq_false_or_eq_true (decide ((48 : Int) < a_a)) with q_5 | q_5
      · rw [q_5, cond_true] at H
        have hc_6 := awake_pure
        try simp only [List.map_append, List.map_cons, List.map_nil, List.nil_append, tE_eq, tP_eq] at hc_6
        obtain rfl := Option.some.inj H
        exact go_
      · rw [q_5, cond_false] at H
        rcases Bool.eq_false_or_eq_true (decide ((48 : Int) < a_b)) with q_7 | q_7
        · rw [q_7, cond_true] at H
          have hc_8 := awake_pure
          try simp only [List.map_append, List.map_cons, List.map_nil, List.nil_append, tE_eq, tP_eq] at hc_8
          obtain rfl := Option.some.inj H
          exact go_
        · rw [q_7, cond_false] at H
          have hc_9 := related_pure a_rel a_a a_b
          try simp only [List.map_append, List.map_cons, List.map_nil, List.nil_append, tE_eq, tP_eq] at hc_9
          have hc_10 := relatedR_pure a_rel a_a a_b
          try simp only [List.map_append, List.map_cons, List.map_nil, List.nil_append, tE_eq, tP_eq] at hc_10
          obtain ⟨r_11, c1, H⟩ := bind_some H
          replace c1 := gSame_ok 10 c1
          try simp only [List.map_append, List.map_cons, List.map_nil, List.nil_append, tE_eq, tP_eq] at c1
          rcases Bool.eq_false_or_eq_true r_11 with q_12 | q_12
          · rw [q_12, cond_true] at H
            have hc_13 := awake_pure
            try simp only [List.map_append, List.map_cons, List.map_nil, List.nil_append, tE_eq, tP_eq] at hc_13
            obtain rfl := Option.some.inj H
            exact go_
          · rw [q_12, cond_false] at H
            obtain rfl := Option.some.inj H
            exact go_
theorem eqEx_refl {h : Ex → Ex → Option Bool} {l : List Ex} (hl : l.length < fuel) (hh : ∀ x ∈ l, h x x = some true) : gEqEx l l h = some true := by
  unfold gEqEx
  simp only [ne_eq, not_true_eq_false, decide_false, cond_false]
  rw [loop_list (l := l) (mk := fun (_ : Unit) i => i) (f := fun _ x => (h x x).map fun _ => .inl ()) ?_ ?_ hl ()]
  · have : foldS (ρ := Bool) (fun (_ : Unit) x => (h x x).map fun _ => (.inl () : Sum Unit Bool)) () l = some (.inl ()) := by
      clear hl
      induction l with
      | nil => rfl
      | cons x l ih =>
        rw [foldS, hh x (List.mem_cons_self ..)]
        exact ih fun y hy => hh y (List.mem_cons_of_mem _ hy)
    rw [this]; rfl
  · intro s i x hx
    have hi : i < l.length := (List.getElem?_eq_some_iff.1 hx).1
    unfold gEqEx_B1
    dsimp only
    rw [lt_dec hx, cond_true, getI_nat hx]
    simp only [Option.bind_some]
    rw [hh x (List.mem_of_getElem? hx)]
    simp only [Option.bind_some, Bool.not_true, cond_false, Option.map_some, foldN]
    rw [wrapN (by unfold fuel at hl; omega)]
  · intro s
    unfold gEqEx_B1
    dsimp only
    rw [lt_decF, cond_false]
theorem gSame_refl : ∀ (n : Nat) (op int : Int) (v : Val) (nm : ByteArray) (args : List Ex), args.length < fuel → (∀ x ∈ args, gSame n x x = some true) → gSame (n + 1) (.mk op int v nm args) (.mk op int v nm args) = some true := by
  intro n op int v nm args hl h
  show gSameB (gSame n) _ _ = _
  unfold gSameB
  simp only [Ex.op, Ex.int, Ex.v, Ex.nm, Ex.args, decide_true, cond_true, sameS, beq_self_eq_true, Bool.and_self]
  rw [eqEx_refl hl h]; rfl
theorem colE_same (n : Nat) (a : Int) : gSame (n + 1) (colE a) (colE a) = some true := gSame_refl _ _ _ _ _ _ (by decide) (fun x hx => by cases hx)
theorem relE_same (n : Nat) (rel a b : Int) : gSame (n + 2) (relE rel a b) (relE rel a b) = some true := by
  refine gSame_refl _ _ _ _ _ _ (by show (4 : Nat) < fuel; decide) fun x hx => ?_
  simp only [List.mem_cons, List.not_mem_nil, or_false] at hx
  rcases hx with rfl | rfl | rfl | rfl <;> exact colE_same _ _
theorem gLawRelated_true (rel a b : Int) : gLawRelated rel a b = some true := by
  unfold gLawRelated
  rw [relE_same 8 rel a b]
  simp only [Option.bind_some]
  cases decide (a < 0) <;> cases decide (b < 0) <;> cases decide (48 < a) <;> cases decide (48 < b) <;> rfl
theorem nonseqRelated_pure {rel a b : Int} (_ : IOk rel) (_ : IOk a) (_ : IOk b) : Pure Tryz.prog 7 [.one (.int .i64 rel), .one (.int .i64 a), .one (.int .i64 b)] (.val (.one (.bool true))) := gLawRelated_ok (gLawRelated_true rel a b)
end Go.Proofs.YtnbnpnmkgemdeaaGreatDoor
