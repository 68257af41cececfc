/- Parts of the proof, joined. No condition. -/
import Derived.Test.YtnbnpnmkgemdeaaGreatDoorKAL
import Derived.Test.YtnbnpnmkgemdeaaGreatDoorKAK
import Derived.Test.YtnbnpnmkgemdeaaGreatDoorKBM
set_option linter.unusedSimpArgs false
set_option linter.unusedVariables false
namespace Go.Proofs.YtnbnpnmkgemdeaaGreatDoor
open Go.RowKit Go.MapKept
set_option maxRecDepth 100000
set_option maxHeartbeats 8000000
set_option linter.unusedVariables false
set_option linter.unusedSimpArgs false
def gEqEx_B1 (a_s1 : (List Ex)) (a_s2 : (List Ex)) (a_eq : Ex → Ex → Option (Bool)) : (Int) → Option (Step (Int) (Bool)) := fun s => match s with
  | v_2 => bif (decide (v_2 < ((a_s1.length : Nat) : Int))) then
    (getI a_s1 v_2).bind fun x_4 => (getI a_s2 v_2).bind fun x_5 => (a_eq x_4 x_5).bind fun r_6 => bif (!r_6) then
      some (.ret false)
    else
      some (.next (IntKind.i64.wrap (v_2 + (1 : Int))))
  else
    some (.exit v_2)
def gEqEx_K1 : Sum (Int) (Bool) → Option ((Bool))
  | .inl v_2 => some true
  | .inr q => some q
def gEqEx (a_s1 : (List Ex)) (a_s2 : (List Ex)) (a_eq : Ex → Ex → Option (Bool)) : Option (Bool) := bif (decide (((a_s1.length : Nat) : Int) ≠ ((a_s2.length : Nat) : Int))) then
  some false
 else
  (loopM (gEqEx_B1 a_s1 a_s2 a_eq) fuel (0 : Int)).bind (gEqEx_K1)
theorem gEqEx_ok {a_s1 : (List Ex)} {a_s2 : (List Ex)} {a_eq : Ex → Ex → Option (Bool)} {r : Bool} {F_a_eq : FuncId} {caps_a_eq : List AC} (hf_a_eq : ∀ (y0 : Ex) (y1 : Ex) (r : Bool), a_eq y0 y1 = some r → Pure Tryz.prog F_a_eq ([.agg (tE y0), .agg (tE y1)] ++ caps_a_eq.map .one) (.val (.one (.bool r)))) (H : gEqEx a_s1 a_s2 a_eq = some r) : Pure Tryz.prog 59 [.one (.lst (a_s1.map tE)), .one (.lst (a_s2.map tE)), .one (.fn F_a_eq caps_a_eq)] (.val (.one (.bool r))) := by
  unfold gEqEx at H
  refine pure_of_aw tab_ok Tryz.func59 rfl rfl Tryz.ntmps59 (by simp) ?_
  simp only [argT, PV.av, List.map_cons, List.map_nil]
  rcases Bool.eq_false_or_eq_true (decide (((a_s1.length : Nat) : Int) ≠ ((a_s2.length : Nat) : Int))) with q_1 | q_1
  · rw [q_1, cond_true] at H
    obtain rfl := Option.some.inj H
    exact go_
  · rw [q_1, cond_false] at H
    repeat' (first | refine p_ rfl rfl rfl rfl rfl ?_ | refine st_nil ?_ | refine x_ rfl rfl rfl rfl rfl rfl rfl rfl ?_ | refine l_ rfl rfl rfl rfl ?_ | refine s_ rfl rfl rfl ?_ | refine t_ rfl rfl rfl rfl ?_ | refine k_ rfl rfl rfl ?_ | refine k0_ rfl rfl ?_ | refine c_ rfl rfl rfl rfl ?_ | refine pick_t rfl rfl rfl rfl rfl rfl rfl ?_ | refine pick_f rfl rfl rfl rfl rfl rfl rfl ?_ | refine aw_seq ?_ | refine aw_region tab_ok _ rfl ?_ | refine aw_drawn2 tabS_ok _ rfl mixed (by decide +kernel) ?_ | refine aw_condT rfl ?_ | refine aw_condF rfl ?_ | refine aw_block ?_ | refine aw_exit ?_ | refine aw_ret ?_ | refine aw_skip ?_ | rw [List.length_map] | rw [mn_norm] | rw [mx_norm])
    refine aw_loopM (fun s : Int => match s with | v_2 => [(1, .one (.c (.lst (a_s2.map tE)))), (2, .one (.c (.fn F_a_eq caps_a_eq))), (6, .one (.c (.bool false))), (15, .one (.c (.lst (a_s1.map tE)))), (16, .one (.c (.int .i64 ((a_s1.length : Nat) : Int)))), (17, .one (.c (.int .i64 v_2)))]) (fun s => match s with | v_2 => []) H (fun _ => Nat.zero_le _)
      (fits_mk ⟨rfl, rfl, rfl, rfl, rfl, rfl, trivial⟩ [] rfl ⟨trivial, trivial, trivial, trivial, trivial, trivial, trivial⟩ trivial) ?_
    rintro v_2 st1 hb1 hk1
    unfold gEqEx_B1 at hb1
    dsimp only at hb1 ⊢
    rcases Bool.eq_false_or_eq_true (decide (v_2 < ((a_s1.length : Nat) : Int))) with q_3 | q_3
    · rw [q_3, cond_true] at hb1
      obtain ⟨x_4, i1, hb1⟩ := bind_some hb1
      obtain ⟨i1z, i1⟩ := getI_some i1
      have i1x := idxI (f := tE) i1
      simp only [List.map_append, List.map_cons, List.map_nil, List.nil_append, tE_eq] at i1x
      obtain ⟨x_5, i2, hb1⟩ := bind_some hb1
      obtain ⟨i2z, i2⟩ := getI_some i2
      have i2x := idxI (f := tE) i2
      simp only [List.map_append, List.map_cons, List.map_nil, List.nil_append, tE_eq] at i2x
      obtain ⟨r_6, c3, hb1⟩ := bind_some hb1
      replace c3 := hf_a_eq _ _ _ c3
      try simp only [List.map_append, List.map_cons, List.map_nil, List.nil_append, tE_eq, tP_eq] at c3
      rcases Bool.eq_false_or_eq_true (!r_6) with q_7 | q_7
      · rw [q_7, cond_true] at hb1
        obtain rfl := Option.some.inj hb1
        have hx1 : gEqEx_K1 (.inr false) = some _ := hk1
        unfold gEqEx_K1 at hx1
        dsimp only at hx1
        obtain rfl := Option.some.inj hx1
        exact go_
      · rw [q_7, cond_false] at hb1
        obtain rfl := Option.some.inj hb1
        repeat' (first | refine p_ rfl rfl rfl rfl rfl ?_ | refine st_nil ?_ | refine x_ rfl rfl rfl rfl rfl rfl rfl rfl ?_ | refine l_ rfl rfl rfl rfl ?_ | refine s_ rfl rfl rfl ?_ | refine t_ rfl rfl rfl rfl ?_ | refine k_ rfl rfl rfl ?_ | refine k0_ rfl rfl ?_ | refine c_ rfl rfl rfl rfl ?_ | refine pick_t rfl rfl rfl rfl rfl rfl rfl ?_ | refine pick_f rfl rfl rfl rfl rfl rfl rfl ?_ | refine aw_seq ?_ | refine aw_region tab_ok _ rfl ?_ | refine aw_drawn2 tabS_ok _ rfl mixed (by decide +kernel) ?_ | refine aw_condT rfl ?_ | refine aw_condF rfl ?_ | refine aw_block ?_ | refine aw_exit ?_ | refine aw_ret ?_ | refine aw_skip ?_ | rw [List.length_map] | rw [mn_norm] | rw [mx_norm])
        exact ⟨_, rfl, fits_mk ⟨rfl, rfl, rfl, rfl, rfl, rfl, trivial⟩ [_, _] rfl ⟨trivial, trivial, trivial, trivial, trivial, trivial, trivial⟩ trivial⟩
    · rw [q_3, cond_false] at hb1
      obtain rfl := Option.some.inj hb1
      have hx1 : gEqEx_K1 (.inl v_2) = some _ := hk1
      unfold gEqEx_K1 at hx1
      dsimp only at hx1
      obtain rfl := Option.some.inj hx1
      exact go_
def gSameB (rec : Ex → Ex → Option Bool) (a_a : Ex) (a_b : Ex) : Option (Bool) := bif (decide (a_a.op = a_b.op)) then
  bif (decide (a_a.int = a_b.int)) then
    bif (sameS [.c (.int .i64 a_a.v.kind), .c (.int .i64 a_a.v.int), .c (.str a_a.v.text)] [.c (.int .i64 a_b.v.kind), .c (.int .i64 a_b.v.int), .c (.str a_b.v.text)]) then
      bif (a_a.nm.toList == a_b.nm.toList) then
        (gEqEx a_a.args a_b.args (fun x0 x1 => rec x0 x1)).bind fun r_5 => some r_5
      else
        some false
    else
      some false
  else
    some false
 else
  some false
theorem gSameB_ok {rec : Ex → Ex → Option Bool}  (hrec : ∀ {x y : Ex} {r : Bool}, rec x y = some r → Pure Tryz.prog 31 [.agg (tE x), .agg (tE y)] (.val (.one (.bool r)))) {a_a : Ex} {a_b : Ex} {r : Bool} (H : gSameB rec a_a a_b = some r) : Pure Tryz.prog 31 [.agg (tE a_a), .agg (tE a_b)] (.val (.one (.bool r))) := by
  unfold gSameB at H
  rw [tE_eq a_a]
  rw [tE_eq a_b]
  refine pure_of_aw tab_ok Tryz.func31 rfl rfl Tryz.ntmps31 (by simp) ?_
  simp only [argT, PV.av, List.map_cons, List.map_nil]
  rcases Bool.eq_false_or_eq_true (decide (a_a.op = a_b.op)) with q_1 | q_1
  · rw [q_1, cond_true] at H
    rcases Bool.eq_false_or_eq_true (decide (a_a.int = a_b.int)) with q_2 | q_2
    · rw [q_2, cond_true] at H
      rcases Bool.eq_false_or_eq_true (sameS [.c (.int .i64 a_a.v.kind), .c (.int .i64 a_a.v.int), .c (.str a_a.v.text)] [.c (.int .i64 a_b.v.kind), .c (.int .i64 a_b.v.int), .c (.str a_b.v.text)]) with q_3 | q_3
      · rw [q_3, cond_true] at H
        rcases Bool.eq_false_or_eq_true (a_a.nm.toList == a_b.nm.toList) with q_4 | q_4
        · rw [q_4, cond_true] at H
          obtain ⟨r_5, c1, H⟩ := bind_some H
          replace c1 := gEqEx_ok (F_a_eq := 31) (caps_a_eq := []) (fun x0 x1 r h => hrec h) c1
          try simp only [List.map_append, List.map_cons, List.map_nil, List.nil_append, tE_eq, tP_eq] at c1
          obtain rfl := Option.some.inj H
          exact go_
        · rw [q_4, cond_false] at H
          obtain rfl := Option.some.inj H
          exact go_
      · rw [q_3, cond_false] at H
        obtain rfl := Option.some.inj H
        exact go_
    · rw [q_2, cond_false] at H
      obtain rfl := Option.some.inj H
      exact go_
  · rw [q_1, cond_false] at H
    obtain rfl := Option.some.inj H
    exact go_
def gSame : Nat → Ex → Ex → Option Bool
  | 0, _, _ => none
  | n + 1, a, b => gSameB (gSame n) a b
theorem gSame_ok : ∀ (n : Nat) {x y : Ex} {r : Bool}, gSame n x y = some r → Pure Tryz.prog 31 [.agg (tE x), .agg (tE y)] (.val (.one (.bool r)))
  | 0, _, _, _, h => nomatch h
  | n + 1, _, _, _, h => gSameB_ok (gSame_ok n) h
end Go.Proofs.YtnbnpnmkgemdeaaGreatDoor
namespace Go.Proofs.YtnbnpnmkgemdeaaGreatDoor
open Go.RowKit Go.MapKept
set_option maxRecDepth 100000
set_option maxHeartbeats 8000000
set_option linter.unusedVariables false
set_option linter.unusedSimpArgs false
def colE (n : Int) : Ex := .mk 2 n ⟨0, 0, ByteArray.empty⟩ ByteArray.empty []
def relE (rel a b : Int) : Ex := .mk 24 rel ⟨0, 0, ByteArray.empty⟩ ByteArray.empty [colE a, colE (IntKind.i64.wrap (a + 1)), colE b, colE (IntKind.i64.wrap (b + 1))]
theorem related_pure (rel a b : Int) : Pure Tryz.prog 32 [.one (.int .i64 rel), .one (.int .i64 a), .one (.int .i64 b)] (.val (.agg (tE (relE rel a b)))) := by
  have h : tE (relE rel a b) = [.int .i64 24, .int .i64 rel, .int .i64 0, .int .i64 0, .str ⟨#[]⟩, .str ⟨#[]⟩, .lst [[.int .i64 2, .int .i64 a, .int .i64 0, .int .i64 0, .str ⟨#[]⟩, .str ⟨#[]⟩, .lst []], [.int .i64 2, .int .i64 (IntKind.i64.wrap (a + 1)), .int .i64 0, .int .i64 0, .str ⟨#[]⟩, .str ⟨#[]⟩, .lst []], [.int .i64 2, .int .i64 b, .int .i64 0, .int .i64 0, .str ⟨#[]⟩, .str ⟨#[]⟩, .lst []], [.int .i64 2, .int .i64 (IntKind.i64.wrap (b + 1)), .int .i64 0, .int .i64 0, .str ⟨#[]⟩, .str ⟨#[]⟩, .lst []]]] := rfl
  rw [h]
  exact (evF_ok cx_ok 8).1 _ _ _ (by kernel_rfl)
theorem relatedR_pure (rel a b : Int) : Pure Tryz.prog 33 [.one (.int .i64 rel), .one (.int .i64 a), .one (.int .i64 b)] (.val (.agg (tE (relE rel a b)))) := by
  have h : tE (relE rel a b) = [.int .i64 24, .int .i64 rel, .int .i64 0, .int .i64 0, .str ⟨#[]⟩, .str ⟨#[]⟩, .lst [[.int .i64 2, .int .i64 a, .int .i64 0, .int .i64 0, .str ⟨#[]⟩, .str ⟨#[]⟩, .lst []], [.int .i64 2, .int .i64 (IntKind.i64.wrap (a + 1)), .int .i64 0, .int .i64 0, .str ⟨#[]⟩, .str ⟨#[]⟩, .lst []], [.int .i64 2, .int .i64 b, .int .i64 0, .int .i64 0, .str ⟨#[]⟩, .str ⟨#[]⟩, .lst []], [.int .i64 2, .int .i64 (IntKind.i64.wrap (b + 1)), .int .i64 0, .int .i64 0, .str ⟨#[]⟩, .str ⟨#[]⟩, .lst []]]] := rfl
  rw [h]
  exact (evF_ok cx_ok 8).1 _ _ _ (by kernel_rfl)
def gLawRelated (a_rel : Int) (a_a : Int) (a_b : Int) : Option (Bool) := bif (decide (a_a < (0 : Int))) then
  some (true)
 else
  bif (decide (a_b < (0 : Int))) then
    some (true)
  else
    bif (decide ((48 : Int) < a_a)) then
      some (true)
    else
      bif (decide ((48 : Int) < a_b)) then
        some (true)
      else
        (gSame 10 (relE a_rel a_a a_b) (relE a_rel a_a a_b)).bind fun r_11 => bif r_11 then
          some (true)
        else
          some false
theorem gLawRelated_ok {a_rel : Int} {a_a : Int} {a_b : Int} {r : Bool} (H : gLawRelated a_rel a_a a_b = some r) : Pure Tryz.prog 7 [.one (.int .i64 a_rel), .one (.int .i64 a_a), .one (.int .i64 a_b)] (.val (.one (.bool r))) := by
  unfold gLawRelated at H
  refine pure_of_aw tab_ok Tryz.func7 rfl rfl Tryz.ntmps7 (by simp) ?_
  simp only [argT, PV.av, List.map_cons, List.map_nil]
  rcases Bool.eq_false_or_eq_true (decide (a_a < (0 : Int))) with q_1 | q_1
  · rw [q_1, cond_true] at H
    have hc_2 := awake_pure
    try simp only [List.map_append, List.map_cons, List.map_nil, List.nil_append, tE_eq, tP_eq] at hc_2
    obtain rfl := Option.some.inj H
    exact go_
  · rw [q_1, cond_false] at H
    rcases Bool.eq_false_or_eq_true (decide (a_b < (0 : Int))) with q_3 | q_3
    · rw [q_3, cond_true] at H
      have hc_4 := awake_pure
      try simp only [List.map_append, List.map_cons, List.map_nil, List.nil_append, tE_eq, tP_eq] at hc_4
      obtain rfl := Option.some.inj H
      exact go_
    · rw [q_3, cond_false] at H
      rcases Bool.eq_false_or_eq_true (decide ((48 : Int) < a_a)) with q_5 | q_5
      · rw [q_5, cond_true] at H
        have hc_6 := awake_pure
        try simp only [List.map_append, List.map_cons, List.map_nil, List.nil_append, tE_eq, tP_eq] at hc_6
        obtain rfl := Option.some.inj H
        exact go_
      · rw [q_5, cond_false] at H
        rcases Bool.eq_false_or_eq_true (decide ((48 : Int) < a_b)) with q_7 | q_7
        · rw [q_7, cond_true] at H
          have hc_8 := awake_pure
          try simp only [List.map_append, List.map_cons, List.map_nil, List.nil_append, tE_eq, tP_eq] at hc_8
          obtain rfl := Option.some.inj H
          exact go_
        · rw [q_7, cond_false] at H
          have hc_9 := related_pure a_rel a_a a_b
          try simp only [List.map_append, List.map_cons, List.map_nil, List.nil_append, tE_eq, tP_eq] at hc_9
          have hc_10 := relatedR_pure a_rel a_a a_b
          try simp only [List.map_append, List.map_cons, List.map_nil, List.nil_append, tE_eq, tP_eq] at hc_10
          obtain ⟨r_11, c1, H⟩ := bind_some H
          replace c1 := gSame_ok 10 c1
          try simp only [List.map_append, List.map_cons, List.map_nil, List.nil_append, tE_eq, tP_eq] at c1
          rcases Bool.eq_false_or_eq_true r_11 with q_12 | q_12
          · rw [q_12, cond_true] at H
            have hc_13 := awake_pure
            try simp only [List.map_append, List.map_cons, List.map_nil, List.nil_append, tE_eq, tP_eq] at hc_13
            obtain rfl := Option.some.inj H
            exact go_
          · rw [q_12, cond_false] at H
            obtain rfl := Option.some.inj H
            exact go_
theorem eqEx_refl {h : Ex → Ex → Option Bool} {l : List Ex} (hl : l.length < fuel) (hh : ∀ x ∈ l, h x x = some true) : gEqEx l l h = some true := by
  unfold gEqEx
  simp only [ne_eq, not_true_eq_false, decide_false, cond_false]
  rw [loop_list (l := l) (mk := fun (_ : Unit) i => i) (f := fun _ x => (h x x).map fun _ => .inl ()) ?_ ?_ hl ()]
  · have : foldS (ρ := Bool) (fun (_ : Unit) x => (h x x).map fun _ => (.inl () : Sum Unit Bool)) () l = some (.inl ()) := by
      clear hl
      induction l with
      | nil => rfl
      | cons x l ih =>
        rw [foldS, hh x (List.mem_cons_self ..)]
        exact ih fun y hy => hh y (List.mem_cons_of_mem _ hy)
    rw [this]; rfl
  · intro s i x hx
    have hi : i < l.length := (List.getElem?_eq_some_iff.1 hx).1
    unfold gEqEx_B1
    dsimp only
    rw [lt_dec hx, cond_true, getI_nat hx]
    simp only [Option.bind_some]
    rw [hh x (List.mem_of_getElem? hx)]
    simp only [Option.bind_some, Bool.not_true, cond_false, Option.map_some, foldN]
    rw [wrapN (by unfold fuel at hl; omega)]
  · intro s
    unfold gEqEx_B1
    dsimp only
    rw [lt_decF, cond_false]
theorem gSame_refl : ∀ (n : Nat) (op int : Int) (v : Val) (nm : ByteArray) (args : List Ex), args.length < fuel → (∀ x ∈ args, gSame n x x = some true) → gSame (n + 1) (.mk op int v nm args) (.mk op int v nm args) = some true := by
  intro n op int v nm args hl h
  show gSameB (gSame n) _ _ = _
  unfold gSameB
  simp only [Ex.op, Ex.int, Ex.v, Ex.nm, Ex.args, decide_true, cond_true, sameS, beq_self_eq_true, Bool.and_self]
  rw [eqEx_refl hl h]; rfl
theorem colE_same (n : Nat) (a : Int) : gSame (n + 1) (colE a) (colE a) = some true := gSame_refl _ _ _ _ _ _ (by decide) (fun x hx => by cases hx)
theorem relE_same (n : Nat) (rel a b : Int) : gSame (n + 2) (relE rel a b) (relE rel a b) = some true := by
  refine gSame_refl _ _ _ _ _ _ (by show (4 : Nat) < fuel; decide) fun x hx => ?_
  simp only [List.mem_cons, List.not_mem_nil, or_false] at hx
  rcases hx with rfl | rfl | rfl | rfl <;> exact colE_same _ _
theorem gLawRelated_true (rel a b : Int) : gLawRelated rel a b = some true := by
  unfold gLawRelated
  rw [relE_same 8 rel a b]
  simp only [Option.bind_some]
  cases decide (a < 0) <;> cases decide (b < 0) <;> cases decide (48 < a) <;> cases decide (48 < b) <;> rfl
theorem nonseqRelated_pure {rel a b : Int} (_ : IOk rel) (_ : IOk a) (_ : IOk b) : Pure Tryz.prog 7 [.one (.int .i64 rel), .one (.int .i64 a), .one (.int .i64 b)] (.val (.one (.bool true))) := gLawRelated_ok (gLawRelated_true rel a b)
end Go.Proofs.YtnbnpnmkgemdeaaGreatDoor
