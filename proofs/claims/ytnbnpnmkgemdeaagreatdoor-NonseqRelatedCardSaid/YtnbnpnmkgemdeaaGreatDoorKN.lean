/- Parts of the proof, joined (N3 E4). No condition. -/
import Derived.Test.YtnbnpnmkgemdeaaGreatDoorKD
import Derived.Test.YtnbnpnmkgemdeaaGreatDoorKC
import Derived.Test.YtnbnpnmkgemdeaaGreatDoorKT
set_option linter.unusedSimpArgs false
set_option linter.unusedVariables false
namespace Go.Proofs.YtnbnpnmkgemdeaaGreatDoor
open Go.RowKit Go.MapKept
set_option maxRecDepth 100000
set_option maxHeartbeats 8000000
set_option linter.unusedVariables false
set_option linter.unusedSimpArgs false
def gEqEx_B1 (a_s1 : (List Ex)) (a_s2 : (List Ex)) (a_eq : Ex → Ex → Option (Bool)) : (Int) → Option (Step (Int) (Bool)) := fun s => match s with
  | v_2 => bif (decide (v_2 < ((a_s1.length : Nat) : Int))) then
    (getI a_s1 v_2).bind fun x_4 => (getI a_s2 v_2).bind fun x_5 => (a_eq x_4 x_5).bind fun r_6 => bif (!r_6) then
      some (.ret false)
    else
      some (.next (IntKind.i64.wrap (v_2 + (1 : Int))))
  else
    some (.exit v_2)
def gEqEx_K1 : Sum (Int) (Bool) → Option ((Bool))
  | .inl v_2 => some true
  | .inr q => some q
def gEqEx (a_s1 : (List Ex)) (a_s2 : (List Ex)) (a_eq : Ex → Ex → Option (Bool)) : Option (Bool) := bif (decide (((a_s1.length : Nat) : Int) ≠ ((a_s2.length : Nat) : Int))) then
  some false
else
  (loopM (gEqEx_B1 a_s1 a_s2 a_eq) fuel (0 : Int)).bind (gEqEx_K1)
theorem gEqEx_ok {a_s1 : (List Ex)} {a_s2 : (List Ex)} {a_eq : Ex → Ex → Option (Bool)} {r : Bool} {F_a_eq : FuncId} {caps_a_eq : List AC} (hf_a_eq : ∀ (y0 : Ex) (y1 : Ex) (r : Bool), a_eq y0 y1 = some r → Pure Tryz.prog F_a_eq ([.agg (tE y0), .agg (tE y1)] ++ caps_a_eq.map .one) (.val (.one (.bool r)))) (H : gEqEx a_s1 a_s2 a_eq = some r) : Pure Tryz.prog 59 [.one (.lst (a_s1.map tE)), .one (.lst (a_s2.map tE)), .one (.fn F_a_eq caps_a_eq)] (.val (.one (.bool r))) := by
  unfold gEqEx at H
  refine pure_of_aw tab_ok Tryz.func59 rfl rfl Tryz.ntmps59 (by simp) ?_
  simp only [argT, PV.av, List.map_cons, List.map_nil]
  rcases Bool.eq_false_or_eq_true (decide (((a_s1.length : Nat) : Int) ≠ ((a_s2.length : Nat) : Int))) with q_1 | q_1
  · rw [q_1, cond_true] at H
    obtain rfl := Option.some.inj H
    exact go_
  · rw [q_1, cond_false] at H
    repeat' (first | refine p_ rfl rfl rfl rfl rfl ?_ | refine st_nil ?_ | refine x_ rfl rfl rfl rfl rfl rfl rfl rfl ?_ | refine l_ rfl rfl rfl rfl ?_ | refine s_ rfl rfl rfl ?_ | refine t_ rfl rfl rfl rfl ?_ | refine k_ rfl rfl rfl ?_ | refine k0_ rfl rfl ?_ | refine c_ rfl rfl rfl rfl ?_ | refine pick_t rfl rfl rfl rfl rfl rfl rfl ?_ | refine pick_f rfl rfl rfl rfl rfl rfl rfl ?_ | refine aw_seq ?_ | refine aw_region tab_ok _ rfl ?_ | refine aw_drawn2 tabS_ok _ rfl mixed (by decide +kernel) ?_ | refine aw_condT rfl ?_ | refine aw_condF rfl ?_ | refine aw_block ?_ | refine aw_exit ?_ | refine aw_ret ?_ | refine aw_skip ?_ | rw [List.length_map] | rw [mn_norm] | rw [mx_norm])
    refine aw_loopM (fun s : Int => match s with | v_2 => [(1, .one (.c (.lst (a_s2.map tE)))), (2, .one (.c (.fn F_a_eq caps_a_eq))), (6, .one (.c (.bool false))), (15, .one (.c (.lst (a_s1.map tE)))), (16, .one (.c (.int .i64 ((a_s1.length : Nat) : Int)))), (17, .one (.c (.int .i64 v_2)))]) (fun s => match s with | v_2 => []) H (fun _ => Nat.zero_le _)
      (fits_mk ⟨rfl, rfl, rfl, rfl, rfl, rfl, trivial⟩ [] rfl ⟨trivial, trivial, trivial, trivial, trivial, trivial, trivial⟩ trivial) ?_
    rintro v_2 st1 hb1 hk1
    unfold gEqEx_B1 at hb1
    dsimp only at hb1 ⊢
    rcases Bool.eq_false_or_eq_true (decide (v_2 < ((a_s1.length : Nat) : Int))) with q_3 | q_3
    · rw [q_3, cond_true] at hb1
      obtain ⟨x_4, i1, hb1⟩ := bind_some hb1
      obtain ⟨i1z, i1⟩ := getI_some i1
      have i1x := idxI (f := tE) i1
      simp only [List.map_append, List.map_cons, List.map_nil, List.nil_append, tE_eq] at i1x
      obtain ⟨x_5, i2, hb1⟩ := bind_some hb1
      obtain ⟨i2z, i2⟩ := getI_some i2
      have i2x := idxI (f := tE) i2
      simp only [List.map_append, List.map_cons, List.map_nil, List.nil_append, tE_eq] at i2x
      obtain ⟨r_6, c3, hb1⟩ := bind_some hb1
      replace c3 := hf_a_eq _ _ _ c3
      try simp only [List.map_append, List.map_cons, List.map_nil, List.nil_append, tE_eq, tP_eq] at c3
      rcases Bool.eq_false_or_eq_true (!r_6) with q_7 | q_7
      · rw [q_7, cond_true] at hb1
        obtain rfl := Option.some.inj hb1
        have hx1 : gEqEx_K1 (.inr false) = some _ := hk1
        unfold gEqEx_K1 at hx1
        dsimp only at hx1
        obtain rfl := Option.some.inj hx1
        exact go_
      · rw [q_7, cond_false] at hb1
        obtain rfl := Option.some.inj hb1
        repeat' (first | refine p_ rfl rfl rfl rfl rfl ?_ | refine st_nil ?_ | refine x_ rfl rfl rfl rfl rfl rfl rfl rfl ?_ | refine l_ rfl rfl rfl rfl ?_ | refine s_ rfl rfl rfl ?_ | refine t_ rfl rfl rfl rfl ?_ | refine k_ rfl rfl rfl ?_ | refine k0_ rfl rfl ?_ | refine c_ rfl rfl rfl rfl ?_ | refine pick_t rfl rfl rfl rfl rfl rfl rfl ?_ | refine pick_f rfl rfl rfl rfl rfl rfl rfl ?_ | refine aw_seq ?_ | refine aw_region tab_ok _ rfl ?_ | refine aw_drawn2 tabS_ok _ rfl mixed (by decide +kernel) ?_ | refine aw_condT rfl ?_ | refine aw_condF rfl ?_ | refine aw_block ?_ | refine aw_exit ?_ | refine aw_ret ?_ | refine aw_skip ?_ | rw [List.length_map] | rw [mn_norm] | rw [mx_norm])
        exact ⟨_, rfl, fits_mk ⟨rfl, rfl, rfl, rfl, rfl, rfl, trivial⟩ [_, _] rfl ⟨trivial, trivial, trivial, trivial, trivial, trivial, trivial⟩ trivial⟩
    · rw [q_3, cond_false] at hb1
      obtain rfl := Option.some.inj hb1
      have hx1 : gEqEx_K1 (.inl v_2) = some _ := hk1
      unfold gEqEx_K1 at hx1
      dsimp only at hx1
      obtain rfl := Option.some.inj hx1
      exact go_
def gSameB (rec : Ex → Ex → Option Bool) (a_a : Ex) (a_b : Ex) : Option (Bool) := bif (decide (a_a.op = a_b.op)) then
  bif (decide (a_a.int = a_b.int)) then
    bif (sameS [.c (.int .i64 a_a.v.kind), .c (.int .i64 a_a.v.int), .c (.str a_a.v.text)] [.c (.int .i64 a_b.v.kind), .c (.int .i64 a_b.v.int), .c (.str a_b.v.text)]) then
      bif (a_a.nm.toList == a_b.nm.toList) then
        (gEqEx a_a.args a_b.args (fun x0 x1 => rec x0 x1)).bind fun r_5 => some r_5
      else
        some false
    else
      some false
  else
    some false
else
  some false
theorem gSameB_ok {rec : Ex → Ex → Option Bool}  (hrec : ∀ {x y : Ex} {r : Bool}, rec x y = some r → Pure Tryz.prog 31 [.agg (tE x), .agg (tE y)] (.val (.one (.bool r)))) {a_a : Ex} {a_b : Ex} {r : Bool} (H : gSameB rec a_a a_b = some r) : Pure Tryz.prog 31 [.agg (tE a_a), .agg (tE a_b)] (.val (.one (.bool r))) := by
  unfold gSameB at H
  rw [tE_eq a_a]
  rw [tE_eq a_b]
  refine pure_of_aw tab_ok Tryz.func31 rfl rfl Tryz.ntmps31 (by simp) ?_
  simp only [argT, PV.av, List.map_cons, List.map_nil]
  rcases Bool.eq_false_or_eq_true (decide (a_a.op = a_b.op)) with q_1 | q_1
  · rw [q_1, cond_true] at H
    rcases Bool.eq_false_or_eq_true (decide (a_a.int = a_b.int)) with q_2 | q_2
    · rw [q_2, cond_true] at H
      rcases Bool.eq_false_or_eq_true (sameS [.c (.int .i64 a_a.v.kind), .c (.int .i64 a_a.v.int), .c (.str a_a.v.text)] [.c (.int .i64 a_b.v.kind), .c (.int .i64 a_b.v.int), .c (.str a_b.v.text)]) with q_3 | q_3
      · rw [q_3, cond_true] at H
        rcases Bool.eq_false_or_eq_true (a_a.nm.toList == a_b.nm.toList) with q_4 | q_4
        · rw [q_4, cond_true] at H
          obtain ⟨r_5, c1, H⟩ := bind_some H
          replace c1 := gEqEx_ok (F_a_eq := 31) (caps_a_eq := []) (fun x0 x1 r h => hrec h) c1
          try simp only [List.map_append, List.map_cons, List.map_nil, List.nil_append, tE_eq, tP_eq] at c1
          obtain rfl := Option.some.inj H
          exact go_
        · rw [q_4, cond_false] at H
          obtain rfl := Option.some.inj H
          exact go_
      · rw [q_3, cond_false] at H
        obtain rfl := Option.some.inj H
        exact go_
    · rw [q_2, cond_false] at H
      obtain rfl := Option.some.inj H
      exact go_
  · rw [q_1, cond_false] at H
    obtain rfl := Option.some.inj H
    exact go_
def gSame : Nat → Ex → Ex → Option Bool
  | 0, _, _ => none
  | n + 1, a, b => gSameB (gSame n) a b
theorem gSame_ok : ∀ (n : Nat) {x y : Ex} {r : Bool}, gSame n x y = some r → Pure Tryz.prog 31 [.agg (tE x), .agg (tE y)] (.val (.one (.bool r)))
  | 0, _, _, _, h => nomatch h
  | n + 1, _, _, _, h => gSameB_ok (gSame_ok n) h
end Go.Proofs.YtnbnpnmkgemdeaaGreatDoor

namespace Go.Proofs.YtnbnpnmkgemdeaaGreatDoor
open Go.RowKit Go.MapKept
set_option linter.unusedVariables false
def ownL (f : FuncId) : Bool := Nat.beq f 184 || Nat.beq f 186 || Nat.beq f 187 || Nat.beq f 228 || Nat.beq f 274 || Nat.beq f 246 || Nat.beq f 219 || Nat.beq f 165 || Nat.beq f 147 || Nat.beq f 117 || Nat.beq f 106 || Nat.beq f 150 || Nat.beq f 140 || Nat.beq f 188 || Nat.beq f 98 || Nat.beq f 145 || Nat.beq f 234 || Nat.beq f 201 || Nat.beq f 202 || Nat.beq f 245 || Nat.beq f 281 || Nat.beq f 230 || Nat.beq f 231 || Nat.beq f 276 || Nat.beq f 299 || Nat.beq f 142 || Nat.beq f 189 || Nat.beq f 190 || Nat.beq f 191 || Nat.beq f 192 || Nat.beq f 193 || Nat.beq f 194 || Nat.beq f 195 || Nat.beq f 196 || Nat.beq f 232 || Nat.beq f 235 || Nat.beq f 236 || Nat.beq f 199 || Nat.beq f 237 || Nat.beq f 238 || Nat.beq f 239 || Nat.beq f 240 || Nat.beq f 241 || Nat.beq f 242 || Nat.beq f 243 || Nat.beq f 244 || Nat.beq f 278 || Nat.beq f 279 || Nat.beq f 280
def rowL (f : FuncId) (d : Nat) : Bool := Nat.beq f 102 || Nat.beq f 97 || Nat.beq f 80 || Nat.beq f 164 || Nat.beq f 139 || Nat.beq f 184 || Nat.beq f 186 || (Nat.beq f 124 && Nat.beq d 27) || (Nat.beq f 124 && Nat.beq d 28) || (Nat.beq f 124 && Nat.beq d 55) || (Nat.beq f 124 && Nat.beq d 56) || (Nat.beq f 96 && Nat.beq d 41) || (Nat.beq f 96 && Nat.beq d 42)
def frzT (f : FuncId) (id : Nat) : List Nat :=
  if (Nat.beq f 42 && Nat.beq id 5) = true then [1] else
  if (Nat.beq f 42 && Nat.beq id 7) = true then [1] else
  if (Nat.beq f 42 && Nat.beq id 9) = true then [1] else
  if (Nat.beq f 90 && Nat.beq id 4) = true then [3] else
  []
def flgT (f : FuncId) (id : Nat) : Bool × Bool :=
  (false, true)
def badL (f : FuncId) : Bool := Nat.beq f 253
def tabX : TI := { tab with owns := ownL }
theorem tabX_ok : TIok Tryz.prog tabX := ⟨tab_ok.size, tab_ok.agg, tab_ok.elem, tab_ok.field, tab_ok.zero, tab_ok.bytes, tab_ok.kind, tab_ok.struct, tab_ok.zok, tab_ok.eqs⟩
def orcT : FuncId → List PV → Option CV := fun _ _ => none
noncomputable def cx : Cx := { P := Tryz.prog, ti := tabX, xs := ⟨274, 246⟩, row := rowL, frz := frzT, flg := flgT, orc := orcT, bad := badL }
theorem ne_ok : NoEsc Tryz.prog 274 := ⟨_, Tryz.func274, by kernel_rfl, by kernel_rfl, by kernel_rfl, by kernel_rfl⟩
theorem cs_ok : CmpS Tryz.prog 246 := ⟨_, Tryz.func246, by kernel_rfl, by kernel_rfl, by kernel_rfl, by kernel_rfl⟩
theorem names_ok : namesB Tryz.prog.funcs.toList = true := by kernel_rfl
theorem codes_ok : codesB cx Tryz.prog.funcs.toList 0 = true := by kernel_rfl
theorem cx_ok : CxOK cx := CxOK.of tabX_ok ⟨ne_ok, cs_ok⟩ mixed names_ok codes_ok (fun g ps r h => by cases h)
theorem awake_run : (evF cx 64).1 11 [] = some (.val (.one (.bool true))) := by kernel_rfl
theorem awake_pure : Pure Tryz.prog 11 [] (.val (.one (.bool true))) := (evF_ok cx_ok 64).1 _ _ _ awake_run
end Go.Proofs.YtnbnpnmkgemdeaaGreatDoor
