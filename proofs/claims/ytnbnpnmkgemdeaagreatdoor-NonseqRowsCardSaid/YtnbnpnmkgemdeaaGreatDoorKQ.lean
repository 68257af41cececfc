/- Parts of the proof, joined (N8 D2b N9 N9b N10 P2 P3 P4 P5). No condition. -/
import Derived.Test.YtnbnpnmkgemdeaaGreatDoorKO
import Derived.Test.YtnbnpnmkgemdeaaGreatDoorKD
import Derived.Test.YtnbnpnmkgemdeaaGreatDoorKN
import Derived.Lib.Bytealg
set_option linter.unusedSimpArgs false
set_option linter.unusedVariables false
namespace Go.Proofs.YtnbnpnmkgemdeaaGreatDoor
open Go.RowKit Go.MapKept
set_option maxRecDepth 100000
set_option maxHeartbeats 8000000
set_option linter.unusedVariables false
set_option linter.unusedSimpArgs false
def icmp (x y : Int) : Int := if x < y then -1 else if y < x then 1 else 0
def vcmp (v w : Val) : Int := if icmp v.kind w.kind ≠ 0 then icmp v.kind w.kind else if icmp v.int w.int ≠ 0 then icmp v.int w.int else scmp v.text w.text
def rcmp : List Val → List Val → Int
  | [], [] => 0
  | [], _ :: _ => -1
  | _ :: _, [] => 1
  | a :: xs, b :: ys => if vcmp a b ≠ 0 then vcmp a b else rcmp xs ys
def tRow (l : List Val) : AC := .lst (l.map cV)
def tInts (l : List Int) : AC := .lst (l.map fun x => [.int .i64 x])
theorem scmp_pure (a b : ByteArray) : Pure Tryz.prog 151 [.one (.str a), .one (.str b)] (.val (.one (.int .i64 (scmp a b)))) := (evF_ok cx_ok 8).1 _ _ _ (by kernel_rfl)
def gIsNaN (a_x : Int) : Option (Bool) := some (decide (a_x ≠ a_x))
theorem gIsNaN_ok {a_x : Int} {r : Bool} (H : gIsNaN a_x = some r) : Pure Tryz.prog 144 [.one (.int .i64 a_x)] (.val (.one (.bool r))) := by
  unfold gIsNaN at H
  refine pure_of_aw tab_ok Tryz.func144 rfl rfl Tryz.ntmps144 (by simp) ?_
  simp only [argT, PV.av, List.map_cons, List.map_nil]
  obtain rfl := Option.some.inj H
  exact go_
def gICmp (a_x : Int) (a_y : Int) : Option (Int) := (gIsNaN a_x).bind fun r_1 => (gIsNaN a_y).bind fun r_2 => bif r_1 then
  bif r_2 then
    some (0 : Int)
  else
    some (-1 : Int)
else
  bif r_2 then
    some (1 : Int)
  else
    bif (decide (a_x < a_y)) then
      some (-1 : Int)
    else
      bif (decide (a_y < a_x)) then
        some (1 : Int)
      else
        some (0 : Int)
theorem gICmp_ok {a_x : Int} {a_y : Int} {r : Int} (H : gICmp a_x a_y = some r) : Pure Tryz.prog 101 [.one (.int .i64 a_x), .one (.int .i64 a_y)] (.val (.one (.int .i64 r))) := by
  unfold gICmp at H
  refine pure_of_aw tab_ok Tryz.func101 rfl rfl Tryz.ntmps101 (by simp) ?_
  simp only [argT, PV.av, List.map_cons, List.map_nil]
  obtain ⟨r_1, c1, H⟩ := bind_some H
  replace c1 := gIsNaN_ok c1
  try simp only [List.map_append, List.map_cons, List.map_nil, List.nil_append, tE_eq, tP_eq] at c1
  obtain ⟨r_2, c2, H⟩ := bind_some H
  replace c2 := gIsNaN_ok c2
  try simp only [List.map_append, List.map_cons, List.map_nil, List.nil_append, tE_eq, tP_eq] at c2
  rcases Bool.eq_false_or_eq_true r_1 with q_3 | q_3
  · rw [q_3, cond_true] at H
    rcases Bool.eq_false_or_eq_true r_2 with q_4 | q_4
    · rw [q_4, cond_true] at H
      obtain rfl := Option.some.inj H
      exact go_
    · rw [q_4, cond_false] at H
      obtain rfl := Option.some.inj H
      exact go_
  · rw [q_3, cond_false] at H
    rcases Bool.eq_false_or_eq_true r_2 with q_5 | q_5
    · rw [q_5, cond_true] at H
      obtain rfl := Option.some.inj H
      exact go_
    · rw [q_5, cond_false] at H
      rcases Bool.eq_false_or_eq_true (decide (a_x < a_y)) with q_6 | q_6
      · rw [q_6, cond_true] at H
        obtain rfl := Option.some.inj H
        exact go_
      · rw [q_6, cond_false] at H
        rcases Bool.eq_false_or_eq_true (decide (a_y < a_x)) with q_7 | q_7
        · rw [q_7, cond_true] at H
          obtain rfl := Option.some.inj H
          exact go_
        · rw [q_7, cond_false] at H
          obtain rfl := Option.some.inj H
          exact go_
def gOr_B1 (a_vals : (List Int)) : (Int) → Option (Step (Int) (Int)) := fun s => match s with
  | v_1 => bif (decide (v_1 < ((a_vals.length : Nat) : Int))) then
    (getI a_vals v_1).bind fun x_3 => bif (decide (x_3 ≠ (0 : Int))) then
      some (.ret x_3)
    else
      some (.next (IntKind.i64.wrap (v_1 + (1 : Int))))
  else
    some (.exit v_1)
def gOr_K1 : Sum (Int) (Int) → Option ((Int))
  | .inl v_1 => some (0 : Int)
  | .inr q => some q
def gOr (a_vals : (List Int)) : Option (Int) := (loopM (gOr_B1 a_vals) fuel (0 : Int)).bind (gOr_K1)
theorem gOr_ok {a_vals : (List Int)} {r : Int} (H : gOr a_vals = some r) : Pure Tryz.prog 100 [.one (.lst (a_vals.map (fun x => [AC.int .i64 x])))] (.val (.one (.int .i64 r))) := by
  unfold gOr at H
  refine pure_of_aw tab_ok Tryz.func100 rfl rfl Tryz.ntmps100 (by simp) ?_
  simp only [argT, PV.av, List.map_cons, List.map_nil]
  repeat' (first | refine p_ rfl rfl rfl rfl rfl ?_ | refine st_nil ?_ | refine x_ rfl rfl rfl rfl rfl rfl rfl rfl ?_ | refine l_ rfl rfl rfl rfl ?_ | refine s_ rfl rfl rfl ?_ | refine t_ rfl rfl rfl rfl ?_ | refine k_ rfl rfl rfl ?_ | refine k0_ rfl rfl ?_ | refine c_ rfl rfl rfl rfl ?_ | refine pick_t rfl rfl rfl rfl rfl rfl rfl ?_ | refine pick_f rfl rfl rfl rfl rfl rfl rfl ?_ | refine aw_seq ?_ | refine aw_region tab_ok _ rfl ?_ | refine aw_drawn2 tabS_ok _ rfl mixed (by decide +kernel) ?_ | refine aw_condT rfl ?_ | refine aw_condF rfl ?_ | refine aw_block ?_ | refine aw_exit ?_ | refine aw_ret ?_ | refine aw_skip ?_ | rw [List.length_map] | rw [mn_norm] | rw [mx_norm])
  refine aw_loopM (fun s : Int => match s with | v_1 => [(3, .one (.c (.int .i64 (0 : Int)))), (6, .one (.c (.lst (a_vals.map (fun x => [AC.int .i64 x]))))), (7, .one (.c (.int .i64 ((a_vals.length : Nat) : Int)))), (8, .one (.c (.int .i64 v_1)))]) (fun s => match s with | v_1 => []) H (fun _ => Nat.zero_le _)
    (fits_mk ⟨rfl, rfl, rfl, rfl, trivial⟩ [] rfl ⟨trivial, trivial, trivial, trivial, trivial⟩ trivial) ?_
  rintro v_1 st1 hb1 hk1
  unfold gOr_B1 at hb1
  dsimp only at hb1 ⊢
  rcases Bool.eq_false_or_eq_true (decide (v_1 < ((a_vals.length : Nat) : Int))) with q_2 | q_2
  · rw [q_2, cond_true] at hb1
    obtain ⟨x_3, i1, hb1⟩ := bind_some hb1
    obtain ⟨i1z, i1⟩ := getI_some i1
    have i1x := idxI (f := (fun x => [AC.int .i64 x])) i1
    rcases Bool.eq_false_or_eq_true (decide (x_3 ≠ (0 : Int))) with q_4 | q_4
    · rw [q_4, cond_true] at hb1
      obtain rfl := Option.some.inj hb1
      have hx1 : gOr_K1 (.inr x_3) = some _ := hk1
      unfold gOr_K1 at hx1
      dsimp only at hx1
      obtain rfl := Option.some.inj hx1
      exact go_
    · rw [q_4, cond_false] at hb1
      obtain rfl := Option.some.inj hb1
      repeat' (first | refine p_ rfl rfl rfl rfl rfl ?_ | refine st_nil ?_ | refine x_ rfl rfl rfl rfl rfl rfl rfl rfl ?_ | refine l_ rfl rfl rfl rfl ?_ | refine s_ rfl rfl rfl ?_ | refine t_ rfl rfl rfl rfl ?_ | refine k_ rfl rfl rfl ?_ | refine k0_ rfl rfl ?_ | refine c_ rfl rfl rfl rfl ?_ | refine pick_t rfl rfl rfl rfl rfl rfl rfl ?_ | refine pick_f rfl rfl rfl rfl rfl rfl rfl ?_ | refine aw_seq ?_ | refine aw_region tab_ok _ rfl ?_ | refine aw_drawn2 tabS_ok _ rfl mixed (by decide +kernel) ?_ | refine aw_condT rfl ?_ | refine aw_condF rfl ?_ | refine aw_block ?_ | refine aw_exit ?_ | refine aw_ret ?_ | refine aw_skip ?_ | rw [List.length_map] | rw [mn_norm] | rw [mx_norm])
      exact ⟨_, rfl, fits_mk ⟨rfl, rfl, rfl, rfl, trivial⟩ [] rfl ⟨trivial, trivial, trivial, trivial, trivial⟩ trivial⟩
  · rw [q_2, cond_false] at hb1
    obtain rfl := Option.some.inj hb1
    have hx1 : gOr_K1 (.inl v_1) = some _ := hk1
    unfold gOr_K1 at hx1
    dsimp only at hx1
    obtain rfl := Option.some.inj hx1
    exact go_
def gVCmp (a_a : Val) (a_b : Val) : Option (Int) := (gICmp a_a.kind a_b.kind).bind fun r_1 => (gICmp a_a.int a_b.int).bind fun r_2 => (gOr [r_1, r_2, (scmp a_a.text a_b.text)]).bind fun r_4 => some r_4
theorem gVCmp_ok {a_a : Val} {a_b : Val} {r : Int} (H : gVCmp a_a a_b = some r) : Pure Tryz.prog 108 [.agg (cV a_a), .agg (cV a_b)] (.val (.one (.int .i64 r))) := by
  unfold gVCmp at H
  refine pure_of_aw tab_ok Tryz.func108 rfl rfl Tryz.ntmps108 (by simp) ?_
  simp only [argT, PV.av, List.map_cons, List.map_nil]
  obtain ⟨r_1, c1, H⟩ := bind_some H
  replace c1 := gICmp_ok c1
  try simp only [List.map_append, List.map_cons, List.map_nil, List.nil_append, tE_eq, tP_eq] at c1
  obtain ⟨r_2, c2, H⟩ := bind_some H
  replace c2 := gICmp_ok c2
  try simp only [List.map_append, List.map_cons, List.map_nil, List.nil_append, tE_eq, tP_eq] at c2
  have hc_3 := scmp_pure a_a.text a_b.text
  try simp only [List.map_append, List.map_cons, List.map_nil, List.nil_append, tE_eq, tP_eq] at hc_3
  obtain ⟨r_4, c3, H⟩ := bind_some H
  replace c3 := gOr_ok c3
  try simp only [List.map_append, List.map_cons, List.map_nil, List.nil_append, tE_eq, tP_eq] at c3
  obtain rfl := Option.some.inj H
  exact go_
def gCmpFn_B1 (a_s1 : (List Val)) (a_s2 : (List Val)) (a_cmp : Val → Val → Option (Int)) : (Int) → Option (Step (Int) (Int)) := fun s => match s with
  | v_1 => bif (decide (v_1 < ((a_s1.length : Nat) : Int))) then
    (getI a_s1 v_1).bind fun x_3 => bif (decide (((a_s2.length : Nat) : Int) ≤ v_1)) then
      some (.ret (1 : Int))
    else
      (getI a_s2 v_1).bind fun x_5 => (a_cmp x_3 x_5).bind fun r_6 => bif (decide (r_6 ≠ (0 : Int))) then
        some (.ret r_6)
      else
        some (.next (IntKind.i64.wrap (v_1 + (1 : Int))))
  else
    some (.exit v_1)
def gCmpFn_K1 (a_s1 : (List Val)) (a_s2 : (List Val)) : Sum (Int) (Int) → Option ((Int))
  | .inl v_1 => bif (decide (((a_s1.length : Nat) : Int) < ((a_s2.length : Nat) : Int))) then
    some (-1 : Int)
  else
    some (0 : Int)
  | .inr q => some q
def gCmpFn (a_s1 : (List Val)) (a_s2 : (List Val)) (a_cmp : Val → Val → Option (Int)) : Option (Int) := (loopM (gCmpFn_B1 a_s1 a_s2 a_cmp) fuel (0 : Int)).bind (gCmpFn_K1 a_s1 a_s2)
theorem gCmpFn_ok {a_s1 : (List Val)} {a_s2 : (List Val)} {a_cmp : Val → Val → Option (Int)} {r : Int} {F_a_cmp : FuncId} {caps_a_cmp : List AC} (hf_a_cmp : ∀ (y0 : Val) (y1 : Val) (r : Int), a_cmp y0 y1 = some r → Pure Tryz.prog F_a_cmp ([.agg (cV y0), .agg (cV y1)] ++ caps_a_cmp.map .one) (.val (.one (.int .i64 r)))) (H : gCmpFn a_s1 a_s2 a_cmp = some r) : Pure Tryz.prog 107 [.one (.lst (a_s1.map cV)), .one (.lst (a_s2.map cV)), .one (.fn F_a_cmp caps_a_cmp)] (.val (.one (.int .i64 r))) := by
  unfold gCmpFn at H
  refine pure_of_aw tab_ok Tryz.func107 rfl rfl Tryz.ntmps107 (by simp) ?_
  simp only [argT, PV.av, List.map_cons, List.map_nil]
  repeat' (first | refine p_ rfl rfl rfl rfl rfl ?_ | refine st_nil ?_ | refine x_ rfl rfl rfl rfl rfl rfl rfl rfl ?_ | refine l_ rfl rfl rfl rfl ?_ | refine s_ rfl rfl rfl ?_ | refine t_ rfl rfl rfl rfl ?_ | refine k_ rfl rfl rfl ?_ | refine k0_ rfl rfl ?_ | refine c_ rfl rfl rfl rfl ?_ | refine pick_t rfl rfl rfl rfl rfl rfl rfl ?_ | refine pick_f rfl rfl rfl rfl rfl rfl rfl ?_ | refine aw_seq ?_ | refine aw_region tab_ok _ rfl ?_ | refine aw_drawn2 tabS_ok _ rfl mixed (by decide +kernel) ?_ | refine aw_condT rfl ?_ | refine aw_condF rfl ?_ | refine aw_block ?_ | refine aw_exit ?_ | refine aw_ret ?_ | refine aw_skip ?_ | rw [List.length_map] | rw [mn_norm] | rw [mx_norm])
  refine aw_loopM (fun s : Int => match s with | v_1 => [(0, .one (.c (.lst (a_s1.map cV)))), (1, .one (.c (.lst (a_s2.map cV)))), (2, .one (.c (.fn F_a_cmp caps_a_cmp))), (11, .one (.c (.lst (a_s1.map cV)))), (12, .one (.c (.int .i64 ((a_s1.length : Nat) : Int)))), (13, .one (.c (.int .i64 v_1)))]) (fun s => match s with | v_1 => []) H (fun _ => Nat.zero_le _)
    (fits_mk ⟨rfl, rfl, rfl, rfl, rfl, rfl, trivial⟩ [] rfl ⟨trivial, trivial, trivial, trivial, trivial, trivial, trivial⟩ trivial) ?_
  rintro v_1 st1 hb1 hk1
  unfold gCmpFn_B1 at hb1
  dsimp only at hb1 ⊢
  rcases Bool.eq_false_or_eq_true (decide (v_1 < ((a_s1.length : Nat) : Int))) with q_2 | q_2
  · rw [q_2, cond_true] at hb1
    obtain ⟨x_3, i1, hb1⟩ := bind_some hb1
    obtain ⟨i1z, i1⟩ := getI_some i1
    have i1x := idxI (f := cV) i1
    rcases Bool.eq_false_or_eq_true (decide (((a_s2.length : Nat) : Int) ≤ v_1)) with q_4 | q_4
    · rw [q_4, cond_true] at hb1
      obtain rfl := Option.some.inj hb1
      have hx1 : gCmpFn_K1 a_s1 a_s2 (.inr (1 : Int)) = some _ := hk1
      unfold gCmpFn_K1 at hx1
      dsimp only at hx1
      obtain rfl := Option.some.inj hx1
      exact go_
    · rw [q_4, cond_false] at hb1
      obtain ⟨x_5, i2, hb1⟩ := bind_some hb1
      obtain ⟨i2z, i2⟩ := getI_some i2
      have i2x := idxI (f := cV) i2
      obtain ⟨r_6, c3, hb1⟩ := bind_some hb1
      replace c3 := hf_a_cmp _ _ _ c3
      try simp only [List.map_append, List.map_cons, List.map_nil, List.nil_append, tE_eq, tP_eq] at c3
      rcases Bool.eq_false_or_eq_true (decide (r_6 ≠ (0 : Int))) with q_7 | q_7
      · rw [q_7, cond_true] at hb1
        obtain rfl := Option.some.inj hb1
        have hx1 : gCmpFn_K1 a_s1 a_s2 (.inr r_6) = some _ := hk1
        unfold gCmpFn_K1 at hx1
        dsimp only at hx1
        obtain rfl := Option.some.inj hx1
        exact go_
      · rw [q_7, cond_false] at hb1
        obtain rfl := Option.some.inj hb1
        repeat' (first | refine p_ rfl rfl rfl rfl rfl ?_ | refine st_nil ?_ | refine x_ rfl rfl rfl rfl rfl rfl rfl rfl ?_ | refine l_ rfl rfl rfl rfl ?_ | refine s_ rfl rfl rfl ?_ | refine t_ rfl rfl rfl rfl ?_ | refine k_ rfl rfl rfl ?_ | refine k0_ rfl rfl ?_ | refine c_ rfl rfl rfl rfl ?_ | refine pick_t rfl rfl rfl rfl rfl rfl rfl ?_ | refine pick_f rfl rfl rfl rfl rfl rfl rfl ?_ | refine aw_seq ?_ | refine aw_region tab_ok _ rfl ?_ | refine aw_drawn2 tabS_ok _ rfl mixed (by decide +kernel) ?_ | refine aw_condT rfl ?_ | refine aw_condF rfl ?_ | refine aw_block ?_ | refine aw_exit ?_ | refine aw_ret ?_ | refine aw_skip ?_ | rw [List.length_map] | rw [mn_norm] | rw [mx_norm])
        exact ⟨_, rfl, fits_mk ⟨rfl, rfl, rfl, rfl, rfl, rfl, trivial⟩ [_, _] rfl ⟨trivial, trivial, trivial, trivial, trivial, trivial, trivial⟩ trivial⟩
  · rw [q_2, cond_false] at hb1
    obtain rfl := Option.some.inj hb1
    have hx1 : gCmpFn_K1 a_s1 a_s2 (.inl v_1) = some _ := hk1
    unfold gCmpFn_K1 at hx1
    dsimp only at hx1
    rcases Bool.eq_false_or_eq_true (decide (((a_s1.length : Nat) : Int) < ((a_s2.length : Nat) : Int))) with q_8 | q_8
    · rw [q_8, cond_true] at hx1
      obtain rfl := Option.some.inj hx1
      exact go_
    · rw [q_8, cond_false] at hx1
      obtain rfl := Option.some.inj hx1
      exact go_
def gTCmp (a_a : (List Val)) (a_b : (List Val)) : Option (Int) := (gCmpFn a_a a_b (fun x0 x1 => gVCmp x0 x1)).bind fun r_1 => some r_1
theorem gTCmp_ok {a_a : (List Val)} {a_b : (List Val)} {r : Int} (H : gTCmp a_a a_b = some r) : Pure Tryz.prog 81 [.one (.lst (a_a.map cV)), .one (.lst (a_b.map cV))] (.val (.one (.int .i64 r))) := by
  unfold gTCmp at H
  refine pure_of_aw tab_ok Tryz.func81 rfl rfl Tryz.ntmps81 (by simp) ?_
  simp only [argT, PV.av, List.map_cons, List.map_nil]
  obtain ⟨r_1, c1, H⟩ := bind_some H
  replace c1 := gCmpFn_ok (F_a_cmp := 108) (caps_a_cmp := []) (fun x0 x1 r h => gVCmp_ok h) c1
  try simp only [List.map_append, List.map_cons, List.map_nil, List.nil_append, tE_eq, tP_eq] at c1
  obtain rfl := Option.some.inj H
  exact go_
end Go.Proofs.YtnbnpnmkgemdeaaGreatDoor

namespace Go.Proofs.YtnbnpnmkgemdeaaGreatDoor
open Go.RowKit Go.MapKept
set_option linter.unusedVariables false
def getB (s : ByteArray) (i : Int) : Option UInt8 := if 0 ≤ i then s[i.toNat]? else none
theorem getB_some {s : ByteArray} {i : Int} {x : UInt8} (h : getB s i = some x) : 0 ≤ i ∧ s[i.toNat]? = some x := by
  unfold getB at h
  by_cases h0 : 0 ≤ i
  · rw [if_pos h0] at h; exact ⟨h0, h⟩
  · rw [if_neg h0] at h; cases h
section
variable {P : Program} {ti : TI} {N n0 : Nat} {ds : List (Option Tmp)} {K : Tm → List Ob → Prop} {rest : List Oper} {o : Oper} {T : Tm} {L : List Ob}
theorem b_ {t : TypeId} {x ix : Operand} {s : ByteArray} {k0 : IntKind} {i : Int} {b : UInt8} {d : Nat} (hd : o.dst = some d) (hN : Nat.blt d N = true) {g0 : Bool} (hg : gdv ds T o.guard = some g0) (ho : o.op = .index t x ix) (hx : look T x = some (.one (.c (.str s)))) (hi : look T ix = some (.one (.c (.int k0 i))))
    (hk : ti.kind t = some .string) (h : awOps P ti N ds K rest ((d, .one (.c (.int .u8 ((b.toNat : Nat) : Int)))) :: T) L) (hb : s[i.toNat]? = some b := by assumption) (h0 : 0 ≤ i := by assumption) (hg1 : g0 = true := by first | rfl | exact beq_tt (by first | assumption | exact not_t (by assumption)) | exact beq_ff (by first | assumption | exact not_f (by assumption))) : awOps P ti N ds K (o :: rest) T L :=
  st_pop (φ := 0 ≤ i ∧ ti.kind t = some .string) hd hN (hg1 ▸ hg) (by rw [ho]; simp only [pop, hx, hi, popIndex, hb]) ⟨h0, hk⟩ h
theorem t5_ {v : AV} {φ : Prop} {d : Nat} (hd : o.dst = some d) (hN : Nat.blt d N = true) {g0 : Bool} (hg : gdv ds T o.guard = some g0) (hp : litOp ti (look T) o.op = some (v, φ)) (h : awOps P ti N ds K rest ((d, v) :: T) L)
    (hφ : φ := by repeat' (first | exact trivial | rfl | exact Nat.le_of_ble_eq_true rfl | omega | refine List.forall_mem_cons.2 ⟨?_, ?_⟩ | exact fun _ h => nomatch h | apply And.intro)) (hg1 : g0 = true := by first | rfl | exact beq_tt (by first | assumption | exact not_t (by assumption)) | exact beq_ff (by first | assumption | exact not_f (by assumption))) : awOps P ti N ds K (o :: rest) T L := st_lit hd hN (hg1 ▸ hg) hp hφ h
end
end Go.Proofs.YtnbnpnmkgemdeaaGreatDoor

namespace Go.Proofs.YtnbnpnmkgemdeaaGreatDoor
open Go.RowKit Go.MapKept
set_option maxRecDepth 100000
set_option maxHeartbeats 8000000
set_option linter.unusedVariables false
set_option linter.unusedSimpArgs false
def gNullR : Option (Val) := some (⟨(0 : Int), (0 : Int), ByteArray.empty⟩ : Val)
theorem gNullR_ok {r : Val} (H : gNullR = some r) : Pure Tryz.prog 152 [] (.val (.agg (cV r))) := by
  unfold gNullR at H
  refine pure_of_aw tab_ok Tryz.func152 rfl rfl Tryz.ntmps152 (by simp) ?_
  simp only [argT, PV.av, List.map_cons, List.map_nil]
  obtain rfl := Option.some.inj H
  exact go_
def gPrintable_B1 (a_s : ByteArray) : (Int) → Option (Step (Int) (Bool)) := fun s => match s with
  | i_1 => bif (decide (i_1 < ((a_s.size : Nat) : Int))) then
    (getB a_s i_1).bind fun b_3 => bif (decide (((b_3.toNat : Nat) : Int) < (32 : Int))) then
      some (.ret false)
    else
      bif (decide ((126 : Int) < ((b_3.toNat : Nat) : Int))) then
        some (.ret false)
      else
        some (.next (IntKind.i64.wrap (i_1 + (1 : Int))))
  else
    some (.exit i_1)
def gPrintable_K1 : Sum (Int) (Bool) → Option ((Bool))
  | .inl i_1 => some true
  | .inr q => some q
def gPrintable (a_s : ByteArray) : Option (Bool) := (loopM (gPrintable_B1 a_s) fuel (0 : Int)).bind (gPrintable_K1)
theorem gPrintable_ok {a_s : ByteArray} {r : Bool} (H : gPrintable a_s = some r) : Pure Tryz.prog 103 [.one (.str a_s)] (.val (.one (.bool r))) := by
  unfold gPrintable at H
  refine pure_of_aw tab_ok Tryz.func103 rfl rfl Tryz.ntmps103 (by simp) ?_
  simp only [argT, PV.av, List.map_cons, List.map_nil]
  repeat' (first | refine p_ rfl rfl rfl rfl rfl ?_ | refine st_nil ?_ | refine x_ rfl rfl rfl rfl rfl rfl rfl rfl ?_ | refine l_ rfl rfl rfl rfl ?_ | refine s_ rfl rfl rfl ?_ | refine t5_ rfl rfl rfl rfl ?_ | refine k_ rfl rfl rfl ?_ | refine k0_ rfl rfl ?_ | refine c_ rfl rfl rfl rfl ?_ | refine pick_t rfl rfl rfl rfl rfl rfl rfl ?_ | refine pick_f rfl rfl rfl rfl rfl rfl rfl ?_ | refine aw_seq ?_ | refine aw_region tab_ok _ rfl ?_ | refine aw_drawn2 tabS_ok _ rfl mixed (by decide +kernel) ?_ | refine aw_condT rfl ?_ | refine aw_condF rfl ?_ | refine aw_block ?_ | refine aw_exit ?_ | refine aw_ret ?_ | refine aw_skip ?_ | rw [List.length_map] | rw [mn_norm] | rw [mx_norm] | refine b_ rfl rfl rfl rfl rfl rfl rfl ?_)
  refine aw_loopM (fun s : Int => match s with | i_1 => [(0, .one (.c (.str a_s))), (3, .one (.c (.int .i64 i_1)))]) (fun s => match s with | i_1 => []) H (fun _ => Nat.zero_le _)
    (fits_mk ⟨rfl, rfl, trivial⟩ [] rfl ⟨trivial, trivial, trivial⟩ trivial) ?_
  rintro i_1 st1 hb1 hk1
  unfold gPrintable_B1 at hb1
  dsimp only at hb1 ⊢
  rcases Bool.eq_false_or_eq_true (decide (i_1 < ((a_s.size : Nat) : Int))) with q_2 | q_2
  · rw [q_2, cond_true] at hb1
    obtain ⟨b_3, i1, hb1⟩ := bind_some hb1
    obtain ⟨i1z, i1⟩ := getB_some i1
    rcases Bool.eq_false_or_eq_true (decide (((b_3.toNat : Nat) : Int) < (32 : Int))) with q_4 | q_4
    · rw [q_4, cond_true] at hb1
      obtain rfl := Option.some.inj hb1
      have hx1 : gPrintable_K1 (.inr false) = some _ := hk1
      unfold gPrintable_K1 at hx1
      dsimp only at hx1
      obtain rfl := Option.some.inj hx1
      repeat' (first | refine p_ rfl rfl rfl rfl rfl ?_ | refine st_nil ?_ | refine x_ rfl rfl rfl rfl rfl rfl rfl rfl ?_ | refine l_ rfl rfl rfl rfl ?_ | refine s_ rfl rfl rfl ?_ | refine t5_ rfl rfl rfl rfl ?_ | refine k_ rfl rfl rfl ?_ | refine k0_ rfl rfl ?_ | refine c_ rfl rfl rfl rfl ?_ | refine pick_t rfl rfl rfl rfl rfl rfl rfl ?_ | refine pick_f rfl rfl rfl rfl rfl rfl rfl ?_ | refine aw_seq ?_ | refine aw_region tab_ok _ rfl ?_ | refine aw_drawn2 tabS_ok _ rfl mixed (by decide +kernel) ?_ | refine aw_condT rfl ?_ | refine aw_condF rfl ?_ | refine aw_block ?_ | refine aw_exit ?_ | refine aw_ret ?_ | refine aw_skip ?_ | rw [List.length_map] | rw [mn_norm] | rw [mx_norm] | refine b_ rfl rfl rfl rfl rfl rfl rfl ?_)
      refine end_ret (res_of rfl ?_ ?_)
      · repeat' (first | exact trivial | rfl | exact Nat.le_of_ble_eq_true rfl | omega | apply And.intro)
      · first | rfl | (simp only [List.map_append, List.map_cons, List.map_nil, List.nil_append] <;> rfl)
    · rw [q_4, cond_false] at hb1
      rcases Bool.eq_false_or_eq_true (decide ((126 : Int) < ((b_3.toNat : Nat) : Int))) with q_5 | q_5
      · rw [q_5, cond_true] at hb1
        obtain rfl := Option.some.inj hb1
        have hx1 : gPrintable_K1 (.inr false) = some _ := hk1
        unfold gPrintable_K1 at hx1
        dsimp only at hx1
        obtain rfl := Option.some.inj hx1
        repeat' (first | refine p_ rfl rfl rfl rfl rfl ?_ | refine st_nil ?_ | refine x_ rfl rfl rfl rfl rfl rfl rfl rfl ?_ | refine l_ rfl rfl rfl rfl ?_ | refine s_ rfl rfl rfl ?_ | refine t5_ rfl rfl rfl rfl ?_ | refine k_ rfl rfl rfl ?_ | refine k0_ rfl rfl ?_ | refine c_ rfl rfl rfl rfl ?_ | refine pick_t rfl rfl rfl rfl rfl rfl rfl ?_ | refine pick_f rfl rfl rfl rfl rfl rfl rfl ?_ | refine aw_seq ?_ | refine aw_region tab_ok _ rfl ?_ | refine aw_drawn2 tabS_ok _ rfl mixed (by decide +kernel) ?_ | refine aw_condT rfl ?_ | refine aw_condF rfl ?_ | refine aw_block ?_ | refine aw_exit ?_ | refine aw_ret ?_ | refine aw_skip ?_ | rw [List.length_map] | rw [mn_norm] | rw [mx_norm] | refine b_ rfl rfl rfl rfl rfl rfl rfl ?_)
        refine end_ret (res_of rfl ?_ ?_)
        · repeat' (first | exact trivial | rfl | exact Nat.le_of_ble_eq_true rfl | omega | apply And.intro)
        · first | rfl | (simp only [List.map_append, List.map_cons, List.map_nil, List.nil_append] <;> rfl)
      · rw [q_5, cond_false] at hb1
        obtain rfl := Option.some.inj hb1
        repeat' (first | refine p_ rfl rfl rfl rfl rfl ?_ | refine st_nil ?_ | refine x_ rfl rfl rfl rfl rfl rfl rfl rfl ?_ | refine l_ rfl rfl rfl rfl ?_ | refine s_ rfl rfl rfl ?_ | refine t5_ rfl rfl rfl rfl ?_ | refine k_ rfl rfl rfl ?_ | refine k0_ rfl rfl ?_ | refine c_ rfl rfl rfl rfl ?_ | refine pick_t rfl rfl rfl rfl rfl rfl rfl ?_ | refine pick_f rfl rfl rfl rfl rfl rfl rfl ?_ | refine aw_seq ?_ | refine aw_region tab_ok _ rfl ?_ | refine aw_drawn2 tabS_ok _ rfl mixed (by decide +kernel) ?_ | refine aw_condT rfl ?_ | refine aw_condF rfl ?_ | refine aw_block ?_ | refine aw_exit ?_ | refine aw_ret ?_ | refine aw_skip ?_ | rw [List.length_map] | rw [mn_norm] | rw [mx_norm] | refine b_ rfl rfl rfl rfl rfl rfl rfl ?_)
        exact ⟨_, rfl, fits_mk ⟨rfl, rfl, trivial⟩ [] rfl ⟨trivial, trivial, trivial⟩ trivial⟩
  · rw [q_2, cond_false] at hb1
    obtain rfl := Option.some.inj hb1
    have hx1 : gPrintable_K1 (.inl i_1) = some _ := hk1
    unfold gPrintable_K1 at hx1
    dsimp only at hx1
    obtain rfl := Option.some.inj hx1
    exact go_
def gValidR (a_v : Val) : Option (Bool) := bif (decide (a_v.kind = (0 : Int))) then
  bif (decide (a_v.int = (0 : Int))) then
    some (a_v.text.toList == (⟨#[]⟩ : ByteArray).toList)
  else
    some false
else
  bif (decide (a_v.kind = (1 : Int))) then
    bif (a_v.text.toList == (⟨#[]⟩ : ByteArray).toList) then
      bif (decide ((-1125899906842624 : Int) ≤ a_v.int)) then
        some (decide (a_v.int ≤ (1125899906842624 : Int)))
      else
        some false
    else
      some false
  else
    bif (decide (a_v.kind = (2 : Int))) then
      bif (decide (a_v.int = (0 : Int))) then
        bif (decide (((a_v.text.size : Nat) : Int) ≤ (200 : Int))) then
          (gPrintable a_v.text).bind fun r_9 => some r_9
        else
          some false
      else
        some false
    else
      bif (decide (a_v.kind = (3 : Int))) then
        bif (a_v.text.toList == (⟨#[]⟩ : ByteArray).toList) then
          bif (decide (a_v.int = (0 : Int))) then
            some true
          else
            some (decide (a_v.int = (1 : Int)))
        else
          some false
      else
        some false
theorem gValidR_ok {a_v : Val} {r : Bool} (H : gValidR a_v = some r) : Pure Tryz.prog 77 [.agg (cV a_v)] (.val (.one (.bool r))) := by
  unfold gValidR at H
  refine pure_of_aw tab_ok Tryz.func77 rfl rfl Tryz.ntmps77 (by simp) ?_
  simp only [argT, PV.av, List.map_cons, List.map_nil]
  rcases Bool.eq_false_or_eq_true (decide (a_v.kind = (0 : Int))) with q_1 | q_1
  · rw [q_1, cond_true] at H
    rcases Bool.eq_false_or_eq_true (decide (a_v.int = (0 : Int))) with q_2 | q_2
    · rw [q_2, cond_true] at H
      obtain rfl := Option.some.inj H
      exact go_
    · rw [q_2, cond_false] at H
      obtain rfl := Option.some.inj H
      exact go_
  · rw [q_1, cond_false] at H
    rcases Bool.eq_false_or_eq_true (decide (a_v.kind = (1 : Int))) with q_3 | q_3
    · rw [q_3, cond_true] at H
      rcases Bool.eq_false_or_eq_true (a_v.text.toList == (⟨#[]⟩ : ByteArray).toList) with q_4 | q_4
      · rw [q_4, cond_true] at H
        rcases Bool.eq_false_or_eq_true (decide ((-1125899906842624 : Int) ≤ a_v.int)) with q_5 | q_5
        · rw [q_5, cond_true] at H
          obtain rfl := Option.some.inj H
          exact go_
        · rw [q_5, cond_false] at H
          obtain rfl := Option.some.inj H
          exact go_
      · rw [q_4, cond_false] at H
        obtain rfl := Option.some.inj H
        exact go_
    · rw [q_3, cond_false] at H
      rcases Bool.eq_false_or_eq_true (decide (a_v.kind = (2 : Int))) with q_6 | q_6
      · rw [q_6, cond_true] at H
        rcases Bool.eq_false_or_eq_true (decide (a_v.int = (0 : Int))) with q_7 | q_7
        · rw [q_7, cond_true] at H
          rcases Bool.eq_false_or_eq_true (decide (((a_v.text.size : Nat) : Int) ≤ (200 : Int))) with q_8 | q_8
          · rw [q_8, cond_true] at H
            obtain ⟨r_9, c1, H⟩ := bind_some H
            replace c1 := gPrintable_ok c1
            try simp only [List.map_append, List.map_cons, List.map_nil, List.nil_append, tE_eq, tP_eq] at c1
            obtain rfl := Option.some.inj H
            exact go_
          · rw [q_8, cond_false] at H
            obtain rfl := Option.some.inj H
            exact go_
        · rw [q_7, cond_false] at H
          obtain rfl := Option.some.inj H
          exact go_
      · rw [q_6, cond_false] at H
        rcases Bool.eq_false_or_eq_true (decide (a_v.kind = (3 : Int))) with q_10 | q_10
        · rw [q_10, cond_true] at H
          rcases Bool.eq_false_or_eq_true (a_v.text.toList == (⟨#[]⟩ : ByteArray).toList) with q_11 | q_11
          · rw [q_11, cond_true] at H
            rcases Bool.eq_false_or_eq_true (decide (a_v.int = (0 : Int))) with q_12 | q_12
            · rw [q_12, cond_true] at H
              obtain rfl := Option.some.inj H
              exact go_
            · rw [q_12, cond_false] at H
              obtain rfl := Option.some.inj H
              exact go_
          · rw [q_11, cond_false] at H
            obtain rfl := Option.some.inj H
            exact go_
        · rw [q_10, cond_false] at H
          obtain rfl := Option.some.inj H
          exact go_
def gvalidR (a_v : Val) : Option (Val) := (gValidR a_v).bind fun r_1 => bif r_1 then
  some a_v
else
  (gNullR ).bind fun r_3 => some r_3
theorem gvalidR_ok {a_v : Val} {r : Val} (H : gvalidR a_v = some r) : Pure Tryz.prog 109 [.agg (cV a_v)] (.val (.agg (cV r))) := by
  unfold gvalidR at H
  refine pure_of_aw tab_ok Tryz.func109 rfl rfl Tryz.ntmps109 (by simp) ?_
  simp only [argT, PV.av, List.map_cons, List.map_nil]
  obtain ⟨r_1, c1, H⟩ := bind_some H
  replace c1 := gValidR_ok c1
  try simp only [List.map_append, List.map_cons, List.map_nil, List.nil_append, tE_eq, tP_eq] at c1
  rcases Bool.eq_false_or_eq_true r_1 with q_2 | q_2
  · rw [q_2, cond_true] at H
    obtain rfl := Option.some.inj H
    exact go_
  · rw [q_2, cond_false] at H
    obtain ⟨r_3, c2, H⟩ := bind_some H
    replace c2 := gNullR_ok c2
    try simp only [List.map_append, List.map_cons, List.map_nil, List.nil_append, tE_eq, tP_eq] at c2
    obtain rfl := Option.some.inj H
    exact go_
def gIntR (a_n : Int) : Option (Val) := (gvalidR (⟨(1 : Int), a_n, ByteArray.empty⟩ : Val)).bind fun r_1 => some r_1
theorem gIntR_ok {a_n : Int} {r : Val} (H : gIntR a_n = some r) : Pure Tryz.prog 82 [.one (.int .i64 a_n)] (.val (.agg (cV r))) := by
  unfold gIntR at H
  refine pure_of_aw tab_ok Tryz.func82 rfl rfl Tryz.ntmps82 (by simp) ?_
  simp only [argT, PV.av, List.map_cons, List.map_nil]
  obtain ⟨r_1, c1, H⟩ := bind_some H
  replace c1 := gvalidR_ok c1
  try simp only [List.map_append, List.map_cons, List.map_nil, List.nil_append, tE_eq, tP_eq] at c1
  obtain rfl := Option.some.inj H
  exact go_
def gAtR (a_row : (List Val)) (a_i : Int) : Option (Val) := bif (decide (a_i < (0 : Int))) then
  (gNullR ).bind fun r_2 => some r_2
else
  bif (decide (((a_row.length : Nat) : Int) ≤ a_i)) then
    (gNullR ).bind fun r_4 => some r_4
  else
    (getI a_row a_i).bind fun x_5 => some x_5
theorem gAtR_ok {a_row : (List Val)} {a_i : Int} {r : Val} (H : gAtR a_row a_i = some r) : Pure Tryz.prog 153 [.one (.lst (a_row.map cV)), .one (.int .i64 a_i)] (.val (.agg (cV r))) := by
  unfold gAtR at H
  refine pure_of_aw tab_ok Tryz.func153 rfl rfl Tryz.ntmps153 (by simp) ?_
  simp only [argT, PV.av, List.map_cons, List.map_nil]
  rcases Bool.eq_false_or_eq_true (decide (a_i < (0 : Int))) with q_1 | q_1
  · rw [q_1, cond_true] at H
    obtain ⟨r_2, c1, H⟩ := bind_some H
    replace c1 := gNullR_ok c1
    try simp only [List.map_append, List.map_cons, List.map_nil, List.nil_append, tE_eq, tP_eq] at c1
    obtain rfl := Option.some.inj H
    exact go_
  · rw [q_1, cond_false] at H
    rcases Bool.eq_false_or_eq_true (decide (((a_row.length : Nat) : Int) ≤ a_i)) with q_3 | q_3
    · rw [q_3, cond_true] at H
      obtain ⟨r_4, c2, H⟩ := bind_some H
      replace c2 := gNullR_ok c2
      try simp only [List.map_append, List.map_cons, List.map_nil, List.nil_append, tE_eq, tP_eq] at c2
      obtain rfl := Option.some.inj H
      exact go_
    · rw [q_3, cond_false] at H
      obtain ⟨x_5, i3, H⟩ := bind_some H
      obtain ⟨i3z, i3⟩ := getI_some i3
      have i3x := idxI (f := cV) i3
      obtain rfl := Option.some.inj H
      exact go_
def gEqual8 (a_a : (List Val)) (a_b : (List Val)) : Option (Bool) := (gCmp8 a_a a_b).bind fun r_1 => some (decide (r_1 = (0 : Int)))
theorem gEqual8_ok {a_a : (List Val)} {a_b : (List Val)} {r : Bool} (H : gEqual8 a_a a_b = some r) : Pure Tryz.prog 54 [.one (.lst (a_a.map cV)), .one (.lst (a_b.map cV))] (.val (.one (.bool r))) := by
  unfold gEqual8 at H
  refine pure_of_aw tab_ok Tryz.func54 rfl rfl Tryz.ntmps54 (by simp) ?_
  simp only [argT, PV.av, List.map_cons, List.map_nil]
  obtain ⟨r_1, c1, H⟩ := bind_some H
  replace c1 := gCmp8_ok c1
  try simp only [List.map_append, List.map_cons, List.map_nil, List.nil_append, tE_eq, tP_eq] at c1
  obtain rfl := Option.some.inj H
  exact go_
def gBefore_B1 (a_a : (List Val)) (a_b : (List Val)) (a_o : (List Ord)) : (Int) → Option (Step (Int) (Bool)) := fun s => match s with
  | i_1 => bif (decide (i_1 < ((a_o.length : Nat) : Int))) then
    (getI a_o i_1).bind fun x_3 => (gAtR a_a x_3.column).bind fun r_4 => (gAtR a_b x_3.column).bind fun r_5 => (gCmp7 r_4 r_5).bind fun r_6 => bif (decide (r_6 ≠ (0 : Int))) then
      some (.ret (!((decide (r_6 < (0 : Int))) == x_3.desc)))
    else
      some (.next (IntKind.i64.wrap (i_1 + (1 : Int))))
  else
    some (.exit i_1)
def gBefore_K1 (a_a : (List Val)) (a_b : (List Val)) : Sum (Int) (Bool) → Option ((Bool))
  | .inl i_1 => (gCmp8 a_a a_b).bind fun r_8 => some (decide (r_8 < (0 : Int)))
  | .inr q => some q
def gBefore (a_a : (List Val)) (a_b : (List Val)) (a_o : (List Ord)) : Option (Bool) := (loopM (gBefore_B1 a_a a_b a_o) fuel (0 : Int)).bind (gBefore_K1 a_a a_b)
theorem gBefore_ok {a_a : (List Val)} {a_b : (List Val)} {a_o : (List Ord)} {r : Bool} (H : gBefore a_a a_b a_o = some r) : Pure Tryz.prog 110 [.one (.lst (a_a.map cV)), .one (.lst (a_b.map cV)), .one (.lst (a_o.map cOrd))] (.val (.one (.bool r))) := by
  unfold gBefore at H
  refine pure_of_aw tab_ok Tryz.func110 rfl rfl Tryz.ntmps110 (by simp) ?_
  simp only [argT, PV.av, List.map_cons, List.map_nil]
  repeat' (first | refine p_ rfl rfl rfl rfl rfl ?_ | refine st_nil ?_ | refine x_ rfl rfl rfl rfl rfl rfl rfl rfl ?_ | refine l_ rfl rfl rfl rfl ?_ | refine s_ rfl rfl rfl ?_ | refine t_ rfl rfl rfl rfl ?_ | refine k_ rfl rfl rfl ?_ | refine k0_ rfl rfl ?_ | refine c_ rfl rfl rfl rfl ?_ | refine pick_t rfl rfl rfl rfl rfl rfl rfl ?_ | refine pick_f rfl rfl rfl rfl rfl rfl rfl ?_ | refine aw_seq ?_ | refine aw_region tab_ok _ rfl ?_ | refine aw_drawn2 tabS_ok _ rfl mixed (by decide +kernel) ?_ | refine aw_condT rfl ?_ | refine aw_condF rfl ?_ | refine aw_block ?_ | refine aw_exit ?_ | refine aw_ret ?_ | refine aw_skip ?_ | rw [List.length_map] | rw [mn_norm] | rw [mx_norm])
  refine aw_loopM (fun s : Int => match s with | i_1 => [(0, .one (.c (.lst (a_a.map cV)))), (1, .one (.c (.lst (a_b.map cV)))), (2, .one (.c (.lst (a_o.map cOrd)))), (7, .one (.c (.int .i64 i_1)))]) (fun s => match s with | i_1 => []) H (fun _ => Nat.zero_le _)
    (fits_mk ⟨rfl, rfl, rfl, rfl, trivial⟩ [] rfl ⟨trivial, trivial, trivial, trivial, trivial⟩ trivial) ?_
  rintro i_1 st1 hb1 hk1
  unfold gBefore_B1 at hb1
  dsimp only at hb1 ⊢
  rcases Bool.eq_false_or_eq_true (decide (i_1 < ((a_o.length : Nat) : Int))) with q_2 | q_2
  · rw [q_2, cond_true] at hb1
    obtain ⟨x_3, i1, hb1⟩ := bind_some hb1
    obtain ⟨i1z, i1⟩ := getI_some i1
    have i1x := idxI (f := cOrd) i1
    obtain ⟨r_4, c2, hb1⟩ := bind_some hb1
    replace c2 := gAtR_ok c2
    try simp only [List.map_append, List.map_cons, List.map_nil, List.nil_append, tE_eq, tP_eq] at c2
    obtain ⟨r_5, c3, hb1⟩ := bind_some hb1
    replace c3 := gAtR_ok c3
    try simp only [List.map_append, List.map_cons, List.map_nil, List.nil_append, tE_eq, tP_eq] at c3
    obtain ⟨r_6, c4, hb1⟩ := bind_some hb1
    replace c4 := gCmp7_ok c4
    try simp only [List.map_append, List.map_cons, List.map_nil, List.nil_append, tE_eq, tP_eq] at c4
    rcases Bool.eq_false_or_eq_true (decide (r_6 ≠ (0 : Int))) with q_7 | q_7
    · rw [q_7, cond_true] at hb1
      obtain rfl := Option.some.inj hb1
      have hx1 : gBefore_K1 a_a a_b (.inr (!((decide (r_6 < (0 : Int))) == x_3.desc))) = some _ := hk1
      unfold gBefore_K1 at hx1
      dsimp only at hx1
      obtain rfl := Option.some.inj hx1
      exact go_
    · rw [q_7, cond_false] at hb1
      obtain rfl := Option.some.inj hb1
      repeat' (first | refine p_ rfl rfl rfl rfl rfl ?_ | refine st_nil ?_ | refine x_ rfl rfl rfl rfl rfl rfl rfl rfl ?_ | refine l_ rfl rfl rfl rfl ?_ | refine s_ rfl rfl rfl ?_ | refine t_ rfl rfl rfl rfl ?_ | refine k_ rfl rfl rfl ?_ | refine k0_ rfl rfl ?_ | refine c_ rfl rfl rfl rfl ?_ | refine pick_t rfl rfl rfl rfl rfl rfl rfl ?_ | refine pick_f rfl rfl rfl rfl rfl rfl rfl ?_ | refine aw_seq ?_ | refine aw_region tab_ok _ rfl ?_ | refine aw_drawn2 tabS_ok _ rfl mixed (by decide +kernel) ?_ | refine aw_condT rfl ?_ | refine aw_condF rfl ?_ | refine aw_block ?_ | refine aw_exit ?_ | refine aw_ret ?_ | refine aw_skip ?_ | rw [List.length_map] | rw [mn_norm] | rw [mx_norm])
      exact ⟨_, rfl, fits_mk ⟨rfl, rfl, rfl, rfl, trivial⟩ [] rfl ⟨trivial, trivial, trivial, trivial, trivial⟩ trivial⟩
  · rw [q_2, cond_false] at hb1
    obtain rfl := Option.some.inj hb1
    have hx1 : gBefore_K1 a_a a_b (.inl i_1) = some _ := hk1
    unfold gBefore_K1 at hx1
    dsimp only at hx1
    obtain ⟨r_8, c5, hx1⟩ := bind_some hx1
    replace c5 := gCmp8_ok c5
    try simp only [List.map_append, List.map_cons, List.map_nil, List.nil_append, tE_eq, tP_eq] at c5
    obtain rfl := Option.some.inj hx1
    exact go_
def gMerged_B1 (a_a : (List (List Val))) (a_b : (List (List Val))) (a_o : (List Ord)) : ((List (List Val)) × Int × Int) → Option (Step ((List (List Val)) × Int × Int) ((List (List Val)))) := fun s => match s with
  | (out_1, i_2, k_3) => bif (decide (i_2 < ((a_a.length : Nat) : Int))) then
    bif (decide (i_2 = ((a_a.length : Nat) : Int))) then
      (getI a_b k_3).bind fun x_6 => bif (decide (out_1.length + 1 ≤ 5864062014805)) then (some (.next ((out_1 ++ [x_6]), i_2, (IntKind.i64.wrap (k_3 + (1 : Int)))))) else none
    else
      bif (decide (k_3 < ((a_b.length : Nat) : Int))) then
        (getI a_b k_3).bind fun x_8 => (getI a_a i_2).bind fun x_9 => (gBefore x_8 x_9 a_o).bind fun r_10 => bif r_10 then
          bif (decide (out_1.length + 1 ≤ 5864062014805)) then (some (.next ((out_1 ++ [x_8]), i_2, (IntKind.i64.wrap (k_3 + (1 : Int)))))) else none
        else
          bif (decide (out_1.length + 1 ≤ 5864062014805)) then (some (.next ((out_1 ++ [x_9]), (IntKind.i64.wrap (i_2 + (1 : Int))), k_3))) else none
      else
        (getI a_a i_2).bind fun x_12 => bif (decide (out_1.length + 1 ≤ 5864062014805)) then (some (.next ((out_1 ++ [x_12]), (IntKind.i64.wrap (i_2 + (1 : Int))), k_3))) else none
  else
    bif (decide (k_3 < ((a_b.length : Nat) : Int))) then
      bif (decide (i_2 = ((a_a.length : Nat) : Int))) then
        (getI a_b k_3).bind fun x_15 => bif (decide (out_1.length + 1 ≤ 5864062014805)) then (some (.next ((out_1 ++ [x_15]), i_2, (IntKind.i64.wrap (k_3 + (1 : Int)))))) else none
      else
        (getI a_b k_3).bind fun x_16 => (getI a_a i_2).bind fun x_17 => (gBefore x_16 x_17 a_o).bind fun r_18 => bif r_18 then
          bif (decide (out_1.length + 1 ≤ 5864062014805)) then (some (.next ((out_1 ++ [x_16]), i_2, (IntKind.i64.wrap (k_3 + (1 : Int)))))) else none
        else
          bif (decide (out_1.length + 1 ≤ 5864062014805)) then (some (.next ((out_1 ++ [x_17]), (IntKind.i64.wrap (i_2 + (1 : Int))), k_3))) else none
    else
      some (.exit (out_1, i_2, k_3))
def gMerged_K1 : Sum ((List (List Val)) × Int × Int) ((List (List Val))) → Option (((List (List Val))))
  | .inl (out_1, i_2, k_3) => some out_1
  | .inr q => some q
def gMerged (a_a : (List (List Val))) (a_b : (List (List Val))) (a_o : (List Ord)) : Option ((List (List Val))) := (loopM (gMerged_B1 a_a a_b a_o) fuel ([], (0 : Int), (0 : Int))).bind (gMerged_K1)
theorem gMerged_ok {a_a : (List (List Val))} {a_b : (List (List Val))} {a_o : (List Ord)} {r : (List (List Val))} (H : gMerged a_a a_b a_o = some r) : Pure Tryz.prog 83 [.one (.lst (a_a.map (fun x => [AC.lst (x.map cV)]))), .one (.lst (a_b.map (fun x => [AC.lst (x.map cV)]))), .one (.lst (a_o.map cOrd))] (.val (.one (.lst (r.map (fun x => [AC.lst (x.map cV)]))))) := by
  unfold gMerged at H
  refine pure_of_aw tab_ok Tryz.func83 rfl rfl Tryz.ntmps83 (by simp) ?_
  simp only [argT, PV.av, List.map_cons, List.map_nil]
  repeat' (first | refine p_ rfl rfl rfl rfl rfl ?_ | refine st_nil ?_ | refine x_ rfl rfl rfl rfl rfl rfl rfl rfl ?_ | refine l_ rfl rfl rfl rfl ?_ | refine s_ rfl rfl rfl ?_ | refine t_ rfl rfl rfl rfl ?_ | refine k_ rfl rfl rfl ?_ | refine k0_ rfl rfl ?_ | refine c_ rfl rfl rfl rfl ?_ | refine pick_t rfl rfl rfl rfl rfl rfl rfl ?_ | refine pick_f rfl rfl rfl rfl rfl rfl rfl ?_ | refine aw_seq ?_ | refine aw_region tab_ok _ rfl ?_ | refine aw_drawn2 tabS_ok _ rfl mixed (by decide +kernel) ?_ | refine aw_condT rfl ?_ | refine aw_condF rfl ?_ | refine aw_block ?_ | refine aw_exit ?_ | refine aw_ret ?_ | refine aw_skip ?_ | rw [List.length_map] | rw [mn_norm] | rw [mx_norm])
  refine aw_tok 7 1 rfl ?_
  refine aw_loopM (fun s : (List (List Val)) × Int × Int => match s with | (out_1, i_2, k_3) => [(0, .one (.c (.lst (a_a.map (fun x => [AC.lst (x.map cV)]))))), (1, .one (.c (.lst (a_b.map (fun x => [AC.lst (x.map cV)]))))), (2, .one (.c (.lst (a_o.map cOrd)))), (7, .one (.own (out_1.map (fun x => [AC.lst (x.map cV)])) 0)), (8, .one (.c (.int .i64 i_2))), (9, .one (.c (.int .i64 k_3)))]) (fun s => match s with | (out_1, i_2, k_3) => [.spare out_1.length 1]) H (fun _ => Nat.zero_le _)
    (fits_mk ⟨rfl, rfl, rfl, rfl, rfl, rfl, trivial⟩ [] rfl ⟨trivial, trivial, trivial, by show 0 < 1; omega, trivial, trivial, trivial⟩ ⟨trivial, trivial⟩) ?_
  rintro ⟨out_1, i_2, k_3⟩ st1 hb1 hk1
  unfold gMerged_B1 at hb1
  dsimp only at hb1 ⊢
  rcases Bool.eq_false_or_eq_true (decide (i_2 < ((a_a.length : Nat) : Int))) with q_4 | q_4
  · rw [q_4, cond_true] at hb1
    rcases Bool.eq_false_or_eq_true (decide (i_2 = ((a_a.length : Nat) : Int))) with q_5 | q_5
    · rw [q_5, cond_true] at hb1
      obtain ⟨x_6, i1, hb1⟩ := bind_some hb1
      obtain ⟨i1z, i1⟩ := getI_some i1
      have i1x := idxI (f := (fun x => [AC.lst (x.map cV)])) i1
      obtain ⟨g2, hb1⟩ := grd_some hb1
      replace g2 := of_decide_eq_true g2
      obtain rfl := Option.some.inj hb1
      repeat' (first | refine p_ rfl rfl rfl rfl rfl ?_ | refine st_nil ?_ | refine x_ rfl rfl rfl rfl rfl rfl rfl rfl ?_ | refine l_ rfl rfl rfl rfl ?_ | refine s_ rfl rfl rfl ?_ | refine t_ rfl rfl rfl rfl ?_ | refine k_ rfl rfl rfl ?_ | refine k0_ rfl rfl ?_ | refine c_ rfl rfl rfl rfl ?_ | refine pick_t rfl rfl rfl rfl rfl rfl rfl ?_ | refine pick_f rfl rfl rfl rfl rfl rfl rfl ?_ | refine aw_seq ?_ | refine aw_region tab_ok _ rfl ?_ | refine aw_drawn2 tabS_ok _ rfl mixed (by decide +kernel) ?_ | refine aw_condT rfl ?_ | refine aw_condF rfl ?_ | refine aw_block ?_ | refine aw_exit ?_ | refine aw_ret ?_ | refine aw_skip ?_ | rw [List.length_map] | rw [mn_norm] | rw [mx_norm])
      exact ⟨_, rfl, fits_mk ⟨rfl, rfl, rfl, (by simp only [List.map_append, List.map_cons, List.map_nil, List.nil_append] <;> rfl), rfl, rfl, trivial⟩ [] (by simp only [List.length_append, List.length_cons, List.length_nil, Nat.zero_add, List.map_append, List.map_cons, List.map_nil] <;> rfl) ⟨trivial, trivial, trivial, by show 0 < 1; omega, trivial, trivial, trivial⟩ ⟨trivial, trivial⟩⟩
    · rw [q_5, cond_false] at hb1
      rcases Bool.eq_false_or_eq_true (decide (k_3 < ((a_b.length : Nat) : Int))) with q_7 | q_7
      · rw [q_7, cond_true] at hb1
        obtain ⟨x_8, i3, hb1⟩ := bind_some hb1
        obtain ⟨i3z, i3⟩ := getI_some i3
        have i3x := idxI (f := (fun x => [AC.lst (x.map cV)])) i3
        obtain ⟨x_9, i4, hb1⟩ := bind_some hb1
        obtain ⟨i4z, i4⟩ := getI_some i4
        have i4x := idxI (f := (fun x => [AC.lst (x.map cV)])) i4
        obtain ⟨r_10, c5, hb1⟩ := bind_some hb1
        replace c5 := gBefore_ok c5
        try simp only [List.map_append, List.map_cons, List.map_nil, List.nil_append, tE_eq, tP_eq] at c5
        rcases Bool.eq_false_or_eq_true r_10 with q_11 | q_11
        · rw [q_11, cond_true] at hb1
          obtain ⟨g6, hb1⟩ := grd_some hb1
          replace g6 := of_decide_eq_true g6
          obtain rfl := Option.some.inj hb1
          repeat' (first | refine p_ rfl rfl rfl rfl rfl ?_ | refine st_nil ?_ | refine x_ rfl rfl rfl rfl rfl rfl rfl rfl ?_ | refine l_ rfl rfl rfl rfl ?_ | refine s_ rfl rfl rfl ?_ | refine t_ rfl rfl rfl rfl ?_ | refine k_ rfl rfl rfl ?_ | refine k0_ rfl rfl ?_ | refine c_ rfl rfl rfl rfl ?_ | refine pick_t rfl rfl rfl rfl rfl rfl rfl ?_ | refine pick_f rfl rfl rfl rfl rfl rfl rfl ?_ | refine aw_seq ?_ | refine aw_region tab_ok _ rfl ?_ | refine aw_drawn2 tabS_ok _ rfl mixed (by decide +kernel) ?_ | refine aw_condT rfl ?_ | refine aw_condF rfl ?_ | refine aw_block ?_ | refine aw_exit ?_ | refine aw_ret ?_ | refine aw_skip ?_ | rw [List.length_map] | rw [mn_norm] | rw [mx_norm])
          exact ⟨_, rfl, fits_mk ⟨rfl, rfl, rfl, (by simp only [List.map_append, List.map_cons, List.map_nil, List.nil_append] <;> rfl), rfl, rfl, trivial⟩ [] (by simp only [List.length_append, List.length_cons, List.length_nil, Nat.zero_add, List.map_append, List.map_cons, List.map_nil] <;> rfl) ⟨trivial, trivial, trivial, by show 0 < 1; omega, trivial, trivial, trivial⟩ ⟨trivial, trivial⟩⟩
        · rw [q_11, cond_false] at hb1
          obtain ⟨g7, hb1⟩ := grd_some hb1
          replace g7 := of_decide_eq_true g7
          obtain rfl := Option.some.inj hb1
          repeat' (first | refine p_ rfl rfl rfl rfl rfl ?_ | refine st_nil ?_ | refine x_ rfl rfl rfl rfl rfl rfl rfl rfl ?_ | refine l_ rfl rfl rfl rfl ?_ | refine s_ rfl rfl rfl ?_ | refine t_ rfl rfl rfl rfl ?_ | refine k_ rfl rfl rfl ?_ | refine k0_ rfl rfl ?_ | refine c_ rfl rfl rfl rfl ?_ | refine pick_t rfl rfl rfl rfl rfl rfl rfl ?_ | refine pick_f rfl rfl rfl rfl rfl rfl rfl ?_ | refine aw_seq ?_ | refine aw_region tab_ok _ rfl ?_ | refine aw_drawn2 tabS_ok _ rfl mixed (by decide +kernel) ?_ | refine aw_condT rfl ?_ | refine aw_condF rfl ?_ | refine aw_block ?_ | refine aw_exit ?_ | refine aw_ret ?_ | refine aw_skip ?_ | rw [List.length_map] | rw [mn_norm] | rw [mx_norm])
          exact ⟨_, rfl, fits_mk ⟨rfl, rfl, rfl, (by simp only [List.map_append, List.map_cons, List.map_nil, List.nil_append] <;> rfl), rfl, rfl, trivial⟩ [] (by simp only [List.length_append, List.length_cons, List.length_nil, Nat.zero_add, List.map_append, List.map_cons, List.map_nil] <;> rfl) ⟨trivial, trivial, trivial, by show 0 < 1; omega, trivial, trivial, trivial⟩ ⟨trivial, trivial⟩⟩
      · rw [q_7, cond_false] at hb1
        obtain ⟨x_12, i8, hb1⟩ := bind_some hb1
        obtain ⟨i8z, i8⟩ := getI_some i8
        have i8x := idxI (f := (fun x => [AC.lst (x.map cV)])) i8
        obtain ⟨g9, hb1⟩ := grd_some hb1
        replace g9 := of_decide_eq_true g9
        obtain rfl := Option.some.inj hb1
        repeat' (first | refine p_ rfl rfl rfl rfl rfl ?_ | refine st_nil ?_ | refine x_ rfl rfl rfl rfl rfl rfl rfl rfl ?_ | refine l_ rfl rfl rfl rfl ?_ | refine s_ rfl rfl rfl ?_ | refine t_ rfl rfl rfl rfl ?_ | refine k_ rfl rfl rfl ?_ | refine k0_ rfl rfl ?_ | refine c_ rfl rfl rfl rfl ?_ | refine pick_t rfl rfl rfl rfl rfl rfl rfl ?_ | refine pick_f rfl rfl rfl rfl rfl rfl rfl ?_ | refine aw_seq ?_ | refine aw_region tab_ok _ rfl ?_ | refine aw_drawn2 tabS_ok _ rfl mixed (by decide +kernel) ?_ | refine aw_condT rfl ?_ | refine aw_condF rfl ?_ | refine aw_block ?_ | refine aw_exit ?_ | refine aw_ret ?_ | refine aw_skip ?_ | rw [List.length_map] | rw [mn_norm] | rw [mx_norm])
        exact ⟨_, rfl, fits_mk ⟨rfl, rfl, rfl, (by simp only [List.map_append, List.map_cons, List.map_nil, List.nil_append] <;> rfl), rfl, rfl, trivial⟩ [] (by simp only [List.length_append, List.length_cons, List.length_nil, Nat.zero_add, List.map_append, List.map_cons, List.map_nil] <;> rfl) ⟨trivial, trivial, trivial, by show 0 < 1; omega, trivial, trivial, trivial⟩ ⟨trivial, trivial⟩⟩
  · rw [q_4, cond_false] at hb1
    rcases Bool.eq_false_or_eq_true (decide (k_3 < ((a_b.length : Nat) : Int))) with q_13 | q_13
    · rw [q_13, cond_true] at hb1
      rcases Bool.eq_false_or_eq_true (decide (i_2 = ((a_a.length : Nat) : Int))) with q_14 | q_14
      · rw [q_14, cond_true] at hb1
        obtain ⟨x_15, i10, hb1⟩ := bind_some hb1
        obtain ⟨i10z, i10⟩ := getI_some i10
        have i10x := idxI (f := (fun x => [AC.lst (x.map cV)])) i10
        obtain ⟨g11, hb1⟩ := grd_some hb1
        replace g11 := of_decide_eq_true g11
        obtain rfl := Option.some.inj hb1
        repeat' (first | refine p_ rfl rfl rfl rfl rfl ?_ | refine st_nil ?_ | refine x_ rfl rfl rfl rfl rfl rfl rfl rfl ?_ | refine l_ rfl rfl rfl rfl ?_ | refine s_ rfl rfl rfl ?_ | refine t_ rfl rfl rfl rfl ?_ | refine k_ rfl rfl rfl ?_ | refine k0_ rfl rfl ?_ | refine c_ rfl rfl rfl rfl ?_ | refine pick_t rfl rfl rfl rfl rfl rfl rfl ?_ | refine pick_f rfl rfl rfl rfl rfl rfl rfl ?_ | refine aw_seq ?_ | refine aw_region tab_ok _ rfl ?_ | refine aw_drawn2 tabS_ok _ rfl mixed (by decide +kernel) ?_ | refine aw_condT rfl ?_ | refine aw_condF rfl ?_ | refine aw_block ?_ | refine aw_exit ?_ | refine aw_ret ?_ | refine aw_skip ?_ | rw [List.length_map] | rw [mn_norm] | rw [mx_norm])
        exact ⟨_, rfl, fits_mk ⟨rfl, rfl, rfl, (by simp only [List.map_append, List.map_cons, List.map_nil, List.nil_append] <;> rfl), rfl, rfl, trivial⟩ [] (by simp only [List.length_append, List.length_cons, List.length_nil, Nat.zero_add, List.map_append, List.map_cons, List.map_nil] <;> rfl) ⟨trivial, trivial, trivial, by show 0 < 1; omega, trivial, trivial, trivial⟩ ⟨trivial, trivial⟩⟩
      · rw [q_14, cond_false] at hb1
        obtain ⟨x_16, i12, hb1⟩ := bind_some hb1
        obtain ⟨i12z, i12⟩ := getI_some i12
        have i12x := idxI (f := (fun x => [AC.lst (x.map cV)])) i12
        obtain ⟨x_17, i13, hb1⟩ := bind_some hb1
        obtain ⟨i13z, i13⟩ := getI_some i13
        have i13x := idxI (f := (fun x => [AC.lst (x.map cV)])) i13
        obtain ⟨r_18, c14, hb1⟩ := bind_some hb1
        replace c14 := gBefore_ok c14
        try simp only [List.map_append, List.map_cons, List.map_nil, List.nil_append, tE_eq, tP_eq] at c14
        rcases Bool.eq_false_or_eq_true r_18 with q_19 | q_19
        · rw [q_19, cond_true] at hb1
          obtain ⟨g15, hb1⟩ := grd_some hb1
          replace g15 := of_decide_eq_true g15
          obtain rfl := Option.some.inj hb1
          repeat' (first | refine p_ rfl rfl rfl rfl rfl ?_ | refine st_nil ?_ | refine x_ rfl rfl rfl rfl rfl rfl rfl rfl ?_ | refine l_ rfl rfl rfl rfl ?_ | refine s_ rfl rfl rfl ?_ | refine t_ rfl rfl rfl rfl ?_ | refine k_ rfl rfl rfl ?_ | refine k0_ rfl rfl ?_ | refine c_ rfl rfl rfl rfl ?_ | refine pick_t rfl rfl rfl rfl rfl rfl rfl ?_ | refine pick_f rfl rfl rfl rfl rfl rfl rfl ?_ | refine aw_seq ?_ | refine aw_region tab_ok _ rfl ?_ | refine aw_drawn2 tabS_ok _ rfl mixed (by decide +kernel) ?_ | refine aw_condT rfl ?_ | refine aw_condF rfl ?_ | refine aw_block ?_ | refine aw_exit ?_ | refine aw_ret ?_ | refine aw_skip ?_ | rw [List.length_map] | rw [mn_norm] | rw [mx_norm])
          exact ⟨_, rfl, fits_mk ⟨rfl, rfl, rfl, (by simp only [List.map_append, List.map_cons, List.map_nil, List.nil_append] <;> rfl), rfl, rfl, trivial⟩ [] (by simp only [List.length_append, List.length_cons, List.length_nil, Nat.zero_add, List.map_append, List.map_cons, List.map_nil] <;> rfl) ⟨trivial, trivial, trivial, by show 0 < 1; omega, trivial, trivial, trivial⟩ ⟨trivial, trivial⟩⟩
        · rw [q_19, cond_false] at hb1
          obtain ⟨g16, hb1⟩ := grd_some hb1
          replace g16 := of_decide_eq_true g16
          obtain rfl := Option.some.inj hb1
          repeat' (first | refine p_ rfl rfl rfl rfl rfl ?_ | refine st_nil ?_ | refine x_ rfl rfl rfl rfl rfl rfl rfl rfl ?_ | refine l_ rfl rfl rfl rfl ?_ | refine s_ rfl rfl rfl ?_ | refine t_ rfl rfl rfl rfl ?_ | refine k_ rfl rfl rfl ?_ | refine k0_ rfl rfl ?_ | refine c_ rfl rfl rfl rfl ?_ | refine pick_t rfl rfl rfl rfl rfl rfl rfl ?_ | refine pick_f rfl rfl rfl rfl rfl rfl rfl ?_ | refine aw_seq ?_ | refine aw_region tab_ok _ rfl ?_ | refine aw_drawn2 tabS_ok _ rfl mixed (by decide +kernel) ?_ | refine aw_condT rfl ?_ | refine aw_condF rfl ?_ | refine aw_block ?_ | refine aw_exit ?_ | refine aw_ret ?_ | refine aw_skip ?_ | rw [List.length_map] | rw [mn_norm] | rw [mx_norm])
          exact ⟨_, rfl, fits_mk ⟨rfl, rfl, rfl, (by simp only [List.map_append, List.map_cons, List.map_nil, List.nil_append] <;> rfl), rfl, rfl, trivial⟩ [] (by simp only [List.length_append, List.length_cons, List.length_nil, Nat.zero_add, List.map_append, List.map_cons, List.map_nil] <;> rfl) ⟨trivial, trivial, trivial, by show 0 < 1; omega, trivial, trivial, trivial⟩ ⟨trivial, trivial⟩⟩
    · rw [q_13, cond_false] at hb1
      obtain rfl := Option.some.inj hb1
      have hx1 : gMerged_K1 (.inl (out_1, i_2, k_3)) = some _ := hk1
      unfold gMerged_K1 at hx1
      dsimp only at hx1
      obtain rfl := Option.some.inj hx1
      exact go_
def gFits8_B1 (a_row : (List Val)) (a_kinds : (List Int)) : (Int) → Option (Step (Int) (Bool)) := fun s => match s with
  | i_2 => bif (decide (i_2 < ((a_row.length : Nat) : Int))) then
    (getI a_row i_2).bind fun x_4 => (gValidR x_4).bind fun r_5 => bif (!r_5) then
      some (.ret false)
    else
      bif (decide (x_4.kind ≠ (0 : Int))) then
        (getI a_kinds i_2).bind fun x_8 => bif (decide (x_4.kind ≠ x_8)) then
          some (.ret false)
        else
          some (.next (IntKind.i64.wrap (i_2 + (1 : Int))))
      else
        some (.next (IntKind.i64.wrap (i_2 + (1 : Int))))
  else
    some (.exit i_2)
def gFits8_K1 : Sum (Int) (Bool) → Option ((Bool))
  | .inl i_2 => some true
  | .inr q => some q
def gFits8 (a_row : (List Val)) (a_kinds : (List Int)) : Option (Bool) := bif (decide (((a_row.length : Nat) : Int) ≠ ((a_kinds.length : Nat) : Int))) then
  some false
else
  (loopM (gFits8_B1 a_row a_kinds) fuel (0 : Int)).bind (gFits8_K1)
theorem gFits8_ok {a_row : (List Val)} {a_kinds : (List Int)} {r : Bool} (H : gFits8 a_row a_kinds = some r) : Pure Tryz.prog 47 [.one (.lst (a_row.map cV)), .one (.lst (a_kinds.map (fun x => [AC.int .i64 x])))] (.val (.one (.bool r))) := by
  unfold gFits8 at H
  refine pure_of_aw tab_ok Tryz.func47 rfl rfl Tryz.ntmps47 (by simp) ?_
  simp only [argT, PV.av, List.map_cons, List.map_nil]
  rcases Bool.eq_false_or_eq_true (decide (((a_row.length : Nat) : Int) ≠ ((a_kinds.length : Nat) : Int))) with q_1 | q_1
  · rw [q_1, cond_true] at H
    obtain rfl := Option.some.inj H
    exact go_
  · rw [q_1, cond_false] at H
    repeat' (first | refine p_ rfl rfl rfl rfl rfl ?_ | refine st_nil ?_ | refine x_ rfl rfl rfl rfl rfl rfl rfl rfl ?_ | refine l_ rfl rfl rfl rfl ?_ | refine s_ rfl rfl rfl ?_ | refine t_ rfl rfl rfl rfl ?_ | refine k_ rfl rfl rfl ?_ | refine k0_ rfl rfl ?_ | refine c_ rfl rfl rfl rfl ?_ | refine pick_t rfl rfl rfl rfl rfl rfl rfl ?_ | refine pick_f rfl rfl rfl rfl rfl rfl rfl ?_ | refine aw_seq ?_ | refine aw_region tab_ok _ rfl ?_ | refine aw_drawn2 tabS_ok _ rfl mixed (by decide +kernel) ?_ | refine aw_condT rfl ?_ | refine aw_condF rfl ?_ | refine aw_block ?_ | refine aw_exit ?_ | refine aw_ret ?_ | refine aw_skip ?_ | rw [List.length_map] | rw [mn_norm] | rw [mx_norm])
    refine aw_loopM (fun s : Int => match s with | i_2 => [(0, .one (.c (.lst (a_row.map cV)))), (1, .one (.c (.lst (a_kinds.map (fun x => [AC.int .i64 x]))))), (5, .one (.c (.int .i64 i_2)))]) (fun s => match s with | i_2 => []) H (fun _ => Nat.zero_le _)
      (fits_mk ⟨rfl, rfl, rfl, trivial⟩ [] rfl ⟨trivial, trivial, trivial, trivial⟩ trivial) ?_
    rintro i_2 st1 hb1 hk1
    unfold gFits8_B1 at hb1
    dsimp only at hb1 ⊢
    rcases Bool.eq_false_or_eq_true (decide (i_2 < ((a_row.length : Nat) : Int))) with q_3 | q_3
    · rw [q_3, cond_true] at hb1
      obtain ⟨x_4, i1, hb1⟩ := bind_some hb1
      obtain ⟨i1z, i1⟩ := getI_some i1
      have i1x := idxI (f := cV) i1
      obtain ⟨r_5, c2, hb1⟩ := bind_some hb1
      replace c2 := gValidR_ok c2
      try simp only [List.map_append, List.map_cons, List.map_nil, List.nil_append, tE_eq, tP_eq] at c2
      rcases Bool.eq_false_or_eq_true (!r_5) with q_6 | q_6
      · rw [q_6, cond_true] at hb1
        obtain rfl := Option.some.inj hb1
        have hx1 : gFits8_K1 (.inr false) = some _ := hk1
        unfold gFits8_K1 at hx1
        dsimp only at hx1
        obtain rfl := Option.some.inj hx1
        exact go_
      · rw [q_6, cond_false] at hb1
        rcases Bool.eq_false_or_eq_true (decide (x_4.kind ≠ (0 : Int))) with q_7 | q_7
        · rw [q_7, cond_true] at hb1
          obtain ⟨x_8, i3, hb1⟩ := bind_some hb1
          obtain ⟨i3z, i3⟩ := getI_some i3
          have i3x := idxI (f := (fun x => [AC.int .i64 x])) i3
          rcases Bool.eq_false_or_eq_true (decide (x_4.kind ≠ x_8)) with q_9 | q_9
          · rw [q_9, cond_true] at hb1
            obtain rfl := Option.some.inj hb1
            have hx1 : gFits8_K1 (.inr false) = some _ := hk1
            unfold gFits8_K1 at hx1
            dsimp only at hx1
            obtain rfl := Option.some.inj hx1
            exact go_
          · rw [q_9, cond_false] at hb1
            obtain rfl := Option.some.inj hb1
            repeat' (first | refine p_ rfl rfl rfl rfl rfl ?_ | refine st_nil ?_ | refine x_ rfl rfl rfl rfl rfl rfl rfl rfl ?_ | refine l_ rfl rfl rfl rfl ?_ | refine s_ rfl rfl rfl ?_ | refine t_ rfl rfl rfl rfl ?_ | refine k_ rfl rfl rfl ?_ | refine k0_ rfl rfl ?_ | refine c_ rfl rfl rfl rfl ?_ | refine pick_t rfl rfl rfl rfl rfl rfl rfl ?_ | refine pick_f rfl rfl rfl rfl rfl rfl rfl ?_ | refine aw_seq ?_ | refine aw_region tab_ok _ rfl ?_ | refine aw_drawn2 tabS_ok _ rfl mixed (by decide +kernel) ?_ | refine aw_condT rfl ?_ | refine aw_condF rfl ?_ | refine aw_block ?_ | refine aw_exit ?_ | refine aw_ret ?_ | refine aw_skip ?_ | rw [List.length_map] | rw [mn_norm] | rw [mx_norm])
            exact ⟨_, rfl, fits_mk ⟨rfl, rfl, rfl, trivial⟩ [] rfl ⟨trivial, trivial, trivial, trivial⟩ trivial⟩
        · rw [q_7, cond_false] at hb1
          obtain rfl := Option.some.inj hb1
          repeat' (first | refine p_ rfl rfl rfl rfl rfl ?_ | refine st_nil ?_ | refine x_ rfl rfl rfl rfl rfl rfl rfl rfl ?_ | refine l_ rfl rfl rfl rfl ?_ | refine s_ rfl rfl rfl ?_ | refine t_ rfl rfl rfl rfl ?_ | refine k_ rfl rfl rfl ?_ | refine k0_ rfl rfl ?_ | refine c_ rfl rfl rfl rfl ?_ | refine pick_t rfl rfl rfl rfl rfl rfl rfl ?_ | refine pick_f rfl rfl rfl rfl rfl rfl rfl ?_ | refine aw_seq ?_ | refine aw_region tab_ok _ rfl ?_ | refine aw_drawn2 tabS_ok _ rfl mixed (by decide +kernel) ?_ | refine aw_condT rfl ?_ | refine aw_condF rfl ?_ | refine aw_block ?_ | refine aw_exit ?_ | refine aw_ret ?_ | refine aw_skip ?_ | rw [List.length_map] | rw [mn_norm] | rw [mx_norm])
          exact ⟨_, rfl, fits_mk ⟨rfl, rfl, rfl, trivial⟩ [] rfl ⟨trivial, trivial, trivial, trivial⟩ trivial⟩
    · rw [q_3, cond_false] at hb1
      obtain rfl := Option.some.inj hb1
      have hx1 : gFits8_K1 (.inl i_2) = some _ := hk1
      unfold gFits8_K1 at hx1
      dsimp only at hx1
      obtain rfl := Option.some.inj hx1
      exact go_
def gKind (a_k : Int) : Option (Bool) := bif (decide (a_k = (1 : Int))) then
  some true
else
  bif (decide (a_k = (2 : Int))) then
    some true
  else
    some (decide (a_k = (3 : Int)))
theorem gKind_ok {a_k : Int} {r : Bool} (H : gKind a_k = some r) : Pure Tryz.prog 78 [.one (.int .i64 a_k)] (.val (.one (.bool r))) := by
  unfold gKind at H
  refine pure_of_aw tab_ok Tryz.func78 rfl rfl Tryz.ntmps78 (by simp) ?_
  simp only [argT, PV.av, List.map_cons, List.map_nil]
  rcases Bool.eq_false_or_eq_true (decide (a_k = (1 : Int))) with q_1 | q_1
  · rw [q_1, cond_true] at H
    obtain rfl := Option.some.inj H
    exact go_
  · rw [q_1, cond_false] at H
    rcases Bool.eq_false_or_eq_true (decide (a_k = (2 : Int))) with q_2 | q_2
    · rw [q_2, cond_true] at H
      obtain rfl := Option.some.inj H
      exact go_
    · rw [q_2, cond_false] at H
      obtain rfl := Option.some.inj H
      exact go_
def gKinds_B1 (a_l : (List Int)) : (Int) → Option (Step (Int) (Bool)) := fun s => match s with
  | i_1 => bif (decide (i_1 < ((a_l.length : Nat) : Int))) then
    (getI a_l i_1).bind fun x_3 => (gKind x_3).bind fun r_4 => bif (!r_4) then
      some (.ret false)
    else
      some (.next (IntKind.i64.wrap (i_1 + (1 : Int))))
  else
    some (.exit i_1)
def gKinds_K1 : Sum (Int) (Bool) → Option ((Bool))
  | .inl i_1 => some true
  | .inr q => some q
def gKinds (a_l : (List Int)) : Option (Bool) := (loopM (gKinds_B1 a_l) fuel (0 : Int)).bind (gKinds_K1)
theorem gKinds_ok {a_l : (List Int)} {r : Bool} (H : gKinds a_l = some r) : Pure Tryz.prog 48 [.one (.lst (a_l.map (fun x => [AC.int .i64 x])))] (.val (.one (.bool r))) := by
  unfold gKinds at H
  refine pure_of_aw tab_ok Tryz.func48 rfl rfl Tryz.ntmps48 (by simp) ?_
  simp only [argT, PV.av, List.map_cons, List.map_nil]
  repeat' (first | refine p_ rfl rfl rfl rfl rfl ?_ | refine st_nil ?_ | refine x_ rfl rfl rfl rfl rfl rfl rfl rfl ?_ | refine l_ rfl rfl rfl rfl ?_ | refine s_ rfl rfl rfl ?_ | refine t_ rfl rfl rfl rfl ?_ | refine k_ rfl rfl rfl ?_ | refine k0_ rfl rfl ?_ | refine c_ rfl rfl rfl rfl ?_ | refine pick_t rfl rfl rfl rfl rfl rfl rfl ?_ | refine pick_f rfl rfl rfl rfl rfl rfl rfl ?_ | refine aw_seq ?_ | refine aw_region tab_ok _ rfl ?_ | refine aw_drawn2 tabS_ok _ rfl mixed (by decide +kernel) ?_ | refine aw_condT rfl ?_ | refine aw_condF rfl ?_ | refine aw_block ?_ | refine aw_exit ?_ | refine aw_ret ?_ | refine aw_skip ?_ | rw [List.length_map] | rw [mn_norm] | rw [mx_norm])
  refine aw_loopM (fun s : Int => match s with | i_1 => [(0, .one (.c (.lst (a_l.map (fun x => [AC.int .i64 x]))))), (3, .one (.c (.int .i64 i_1)))]) (fun s => match s with | i_1 => []) H (fun _ => Nat.zero_le _)
    (fits_mk ⟨rfl, rfl, trivial⟩ [] rfl ⟨trivial, trivial, trivial⟩ trivial) ?_
  rintro i_1 st1 hb1 hk1
  unfold gKinds_B1 at hb1
  dsimp only at hb1 ⊢
  rcases Bool.eq_false_or_eq_true (decide (i_1 < ((a_l.length : Nat) : Int))) with q_2 | q_2
  · rw [q_2, cond_true] at hb1
    obtain ⟨x_3, i1, hb1⟩ := bind_some hb1
    obtain ⟨i1z, i1⟩ := getI_some i1
    have i1x := idxI (f := (fun x => [AC.int .i64 x])) i1
    obtain ⟨r_4, c2, hb1⟩ := bind_some hb1
    replace c2 := gKind_ok c2
    try simp only [List.map_append, List.map_cons, List.map_nil, List.nil_append, tE_eq, tP_eq] at c2
    rcases Bool.eq_false_or_eq_true (!r_4) with q_5 | q_5
    · rw [q_5, cond_true] at hb1
      obtain rfl := Option.some.inj hb1
      have hx1 : gKinds_K1 (.inr false) = some _ := hk1
      unfold gKinds_K1 at hx1
      dsimp only at hx1
      obtain rfl := Option.some.inj hx1
      exact go_
    · rw [q_5, cond_false] at hb1
      obtain rfl := Option.some.inj hb1
      repeat' (first | refine p_ rfl rfl rfl rfl rfl ?_ | refine st_nil ?_ | refine x_ rfl rfl rfl rfl rfl rfl rfl rfl ?_ | refine l_ rfl rfl rfl rfl ?_ | refine s_ rfl rfl rfl ?_ | refine t_ rfl rfl rfl rfl ?_ | refine k_ rfl rfl rfl ?_ | refine k0_ rfl rfl ?_ | refine c_ rfl rfl rfl rfl ?_ | refine pick_t rfl rfl rfl rfl rfl rfl rfl ?_ | refine pick_f rfl rfl rfl rfl rfl rfl rfl ?_ | refine aw_seq ?_ | refine aw_region tab_ok _ rfl ?_ | refine aw_drawn2 tabS_ok _ rfl mixed (by decide +kernel) ?_ | refine aw_condT rfl ?_ | refine aw_condF rfl ?_ | refine aw_block ?_ | refine aw_exit ?_ | refine aw_ret ?_ | refine aw_skip ?_ | rw [List.length_map] | rw [mn_norm] | rw [mx_norm])
      exact ⟨_, rfl, fits_mk ⟨rfl, rfl, trivial⟩ [] rfl ⟨trivial, trivial, trivial⟩ trivial⟩
  · rw [q_2, cond_false] at hb1
    obtain rfl := Option.some.inj hb1
    have hx1 : gKinds_K1 (.inl i_1) = some _ := hk1
    unfold gKinds_K1 at hx1
    dsimp only at hx1
    obtain rfl := Option.some.inj hx1
    exact go_
def gSameKinds_B1 (a_a : (List Int)) (a_b : (List Int)) : (Int) → Option (Step (Int) (Bool)) := fun s => match s with
  | i_2 => bif (decide (i_2 < ((a_a.length : Nat) : Int))) then
    (getI a_a i_2).bind fun x_4 => (getI a_b i_2).bind fun x_5 => bif (decide (x_4 ≠ x_5)) then
      some (.ret false)
    else
      some (.next (IntKind.i64.wrap (i_2 + (1 : Int))))
  else
    some (.exit i_2)
def gSameKinds_K1 : Sum (Int) (Bool) → Option ((Bool))
  | .inl i_2 => some true
  | .inr q => some q
def gSameKinds (a_a : (List Int)) (a_b : (List Int)) : Option (Bool) := bif (decide (((a_a.length : Nat) : Int) ≠ ((a_b.length : Nat) : Int))) then
  some false
else
  (loopM (gSameKinds_B1 a_a a_b) fuel (0 : Int)).bind (gSameKinds_K1)
theorem gSameKinds_ok {a_a : (List Int)} {a_b : (List Int)} {r : Bool} (H : gSameKinds a_a a_b = some r) : Pure Tryz.prog 49 [.one (.lst (a_a.map (fun x => [AC.int .i64 x]))), .one (.lst (a_b.map (fun x => [AC.int .i64 x])))] (.val (.one (.bool r))) := by
  unfold gSameKinds at H
  refine pure_of_aw tab_ok Tryz.func49 rfl rfl Tryz.ntmps49 (by simp) ?_
  simp only [argT, PV.av, List.map_cons, List.map_nil]
  rcases Bool.eq_false_or_eq_true (decide (((a_a.length : Nat) : Int) ≠ ((a_b.length : Nat) : Int))) with q_1 | q_1
  · rw [q_1, cond_true] at H
    obtain rfl := Option.some.inj H
    exact go_
  · rw [q_1, cond_false] at H
    repeat' (first | refine p_ rfl rfl rfl rfl rfl ?_ | refine st_nil ?_ | refine x_ rfl rfl rfl rfl rfl rfl rfl rfl ?_ | refine l_ rfl rfl rfl rfl ?_ | refine s_ rfl rfl rfl ?_ | refine t_ rfl rfl rfl rfl ?_ | refine k_ rfl rfl rfl ?_ | refine k0_ rfl rfl ?_ | refine c_ rfl rfl rfl rfl ?_ | refine pick_t rfl rfl rfl rfl rfl rfl rfl ?_ | refine pick_f rfl rfl rfl rfl rfl rfl rfl ?_ | refine aw_seq ?_ | refine aw_region tab_ok _ rfl ?_ | refine aw_drawn2 tabS_ok _ rfl mixed (by decide +kernel) ?_ | refine aw_condT rfl ?_ | refine aw_condF rfl ?_ | refine aw_block ?_ | refine aw_exit ?_ | refine aw_ret ?_ | refine aw_skip ?_ | rw [List.length_map] | rw [mn_norm] | rw [mx_norm])
    refine aw_loopM (fun s : Int => match s with | i_2 => [(0, .one (.c (.lst (a_a.map (fun x => [AC.int .i64 x]))))), (1, .one (.c (.lst (a_b.map (fun x => [AC.int .i64 x]))))), (5, .one (.c (.int .i64 i_2)))]) (fun s => match s with | i_2 => []) H (fun _ => Nat.zero_le _)
      (fits_mk ⟨rfl, rfl, rfl, trivial⟩ [] rfl ⟨trivial, trivial, trivial, trivial⟩ trivial) ?_
    rintro i_2 st1 hb1 hk1
    unfold gSameKinds_B1 at hb1
    dsimp only at hb1 ⊢
    rcases Bool.eq_false_or_eq_true (decide (i_2 < ((a_a.length : Nat) : Int))) with q_3 | q_3
    · rw [q_3, cond_true] at hb1
      obtain ⟨x_4, i1, hb1⟩ := bind_some hb1
      obtain ⟨i1z, i1⟩ := getI_some i1
      have i1x := idxI (f := (fun x => [AC.int .i64 x])) i1
      obtain ⟨x_5, i2, hb1⟩ := bind_some hb1
      obtain ⟨i2z, i2⟩ := getI_some i2
      have i2x := idxI (f := (fun x => [AC.int .i64 x])) i2
      rcases Bool.eq_false_or_eq_true (decide (x_4 ≠ x_5)) with q_6 | q_6
      · rw [q_6, cond_true] at hb1
        obtain rfl := Option.some.inj hb1
        have hx1 : gSameKinds_K1 (.inr false) = some _ := hk1
        unfold gSameKinds_K1 at hx1
        dsimp only at hx1
        obtain rfl := Option.some.inj hx1
        exact go_
      · rw [q_6, cond_false] at hb1
        obtain rfl := Option.some.inj hb1
        repeat' (first | refine p_ rfl rfl rfl rfl rfl ?_ | refine st_nil ?_ | refine x_ rfl rfl rfl rfl rfl rfl rfl rfl ?_ | refine l_ rfl rfl rfl rfl ?_ | refine s_ rfl rfl rfl ?_ | refine t_ rfl rfl rfl rfl ?_ | refine k_ rfl rfl rfl ?_ | refine k0_ rfl rfl ?_ | refine c_ rfl rfl rfl rfl ?_ | refine pick_t rfl rfl rfl rfl rfl rfl rfl ?_ | refine pick_f rfl rfl rfl rfl rfl rfl rfl ?_ | refine aw_seq ?_ | refine aw_region tab_ok _ rfl ?_ | refine aw_drawn2 tabS_ok _ rfl mixed (by decide +kernel) ?_ | refine aw_condT rfl ?_ | refine aw_condF rfl ?_ | refine aw_block ?_ | refine aw_exit ?_ | refine aw_ret ?_ | refine aw_skip ?_ | rw [List.length_map] | rw [mn_norm] | rw [mx_norm])
        exact ⟨_, rfl, fits_mk ⟨rfl, rfl, rfl, trivial⟩ [] rfl ⟨trivial, trivial, trivial, trivial⟩ trivial⟩
    · rw [q_3, cond_false] at hb1
      obtain rfl := Option.some.inj hb1
      have hx1 : gSameKinds_K1 (.inl i_2) = some _ := hk1
      unfold gSameKinds_K1 at hx1
      dsimp only at hx1
      obtain rfl := Option.some.inj hx1
      exact go_
def gSameRows_B1 (a_a : (List (List Val))) (a_b : (List (List Val))) : (Int) → Option (Step (Int) (Bool)) := fun s => match s with
  | i_2 => bif (decide (i_2 < ((a_a.length : Nat) : Int))) then
    (getI a_a i_2).bind fun x_4 => (getI a_b i_2).bind fun x_5 => (gEqual8 x_4 x_5).bind fun r_6 => bif (!r_6) then
      some (.ret false)
    else
      some (.next (IntKind.i64.wrap (i_2 + (1 : Int))))
  else
    some (.exit i_2)
def gSameRows_K1 : Sum (Int) (Bool) → Option ((Bool))
  | .inl i_2 => some true
  | .inr q => some q
def gSameRows (a_a : (List (List Val))) (a_b : (List (List Val))) : Option (Bool) := bif (decide (((a_a.length : Nat) : Int) ≠ ((a_b.length : Nat) : Int))) then
  some false
else
  (loopM (gSameRows_B1 a_a a_b) fuel (0 : Int)).bind (gSameRows_K1)
theorem gSameRows_ok {a_a : (List (List Val))} {a_b : (List (List Val))} {r : Bool} (H : gSameRows a_a a_b = some r) : Pure Tryz.prog 26 [.one (.lst (a_a.map (fun x => [AC.lst (x.map cV)]))), .one (.lst (a_b.map (fun x => [AC.lst (x.map cV)])))] (.val (.one (.bool r))) := by
  unfold gSameRows at H
  refine pure_of_aw tab_ok Tryz.func26 rfl rfl Tryz.ntmps26 (by simp) ?_
  simp only [argT, PV.av, List.map_cons, List.map_nil]
  rcases Bool.eq_false_or_eq_true (decide (((a_a.length : Nat) : Int) ≠ ((a_b.length : Nat) : Int))) with q_1 | q_1
  · rw [q_1, cond_true] at H
    obtain rfl := Option.some.inj H
    exact go_
  · rw [q_1, cond_false] at H
    repeat' (first | refine p_ rfl rfl rfl rfl rfl ?_ | refine st_nil ?_ | refine x_ rfl rfl rfl rfl rfl rfl rfl rfl ?_ | refine l_ rfl rfl rfl rfl ?_ | refine s_ rfl rfl rfl ?_ | refine t_ rfl rfl rfl rfl ?_ | refine k_ rfl rfl rfl ?_ | refine k0_ rfl rfl ?_ | refine c_ rfl rfl rfl rfl ?_ | refine pick_t rfl rfl rfl rfl rfl rfl rfl ?_ | refine pick_f rfl rfl rfl rfl rfl rfl rfl ?_ | refine aw_seq ?_ | refine aw_region tab_ok _ rfl ?_ | refine aw_drawn2 tabS_ok _ rfl mixed (by decide +kernel) ?_ | refine aw_condT rfl ?_ | refine aw_condF rfl ?_ | refine aw_block ?_ | refine aw_exit ?_ | refine aw_ret ?_ | refine aw_skip ?_ | rw [List.length_map] | rw [mn_norm] | rw [mx_norm])
    refine aw_loopM (fun s : Int => match s with | i_2 => [(0, .one (.c (.lst (a_a.map (fun x => [AC.lst (x.map cV)]))))), (1, .one (.c (.lst (a_b.map (fun x => [AC.lst (x.map cV)]))))), (5, .one (.c (.int .i64 i_2)))]) (fun s => match s with | i_2 => []) H (fun _ => Nat.zero_le _)
      (fits_mk ⟨rfl, rfl, rfl, trivial⟩ [] rfl ⟨trivial, trivial, trivial, trivial⟩ trivial) ?_
    rintro i_2 st1 hb1 hk1
    unfold gSameRows_B1 at hb1
    dsimp only at hb1 ⊢
    rcases Bool.eq_false_or_eq_true (decide (i_2 < ((a_a.length : Nat) : Int))) with q_3 | q_3
    · rw [q_3, cond_true] at hb1
      obtain ⟨x_4, i1, hb1⟩ := bind_some hb1
      obtain ⟨i1z, i1⟩ := getI_some i1
      have i1x := idxI (f := (fun x => [AC.lst (x.map cV)])) i1
      obtain ⟨x_5, i2, hb1⟩ := bind_some hb1
      obtain ⟨i2z, i2⟩ := getI_some i2
      have i2x := idxI (f := (fun x => [AC.lst (x.map cV)])) i2
      obtain ⟨r_6, c3, hb1⟩ := bind_some hb1
      replace c3 := gEqual8_ok c3
      try simp only [List.map_append, List.map_cons, List.map_nil, List.nil_append, tE_eq, tP_eq] at c3
      rcases Bool.eq_false_or_eq_true (!r_6) with q_7 | q_7
      · rw [q_7, cond_true] at hb1
        obtain rfl := Option.some.inj hb1
        have hx1 : gSameRows_K1 (.inr false) = some _ := hk1
        unfold gSameRows_K1 at hx1
        dsimp only at hx1
        obtain rfl := Option.some.inj hx1
        exact go_
      · rw [q_7, cond_false] at hb1
        obtain rfl := Option.some.inj hb1
        repeat' (first | refine p_ rfl rfl rfl rfl rfl ?_ | refine st_nil ?_ | refine x_ rfl rfl rfl rfl rfl rfl rfl rfl ?_ | refine l_ rfl rfl rfl rfl ?_ | refine s_ rfl rfl rfl ?_ | refine t_ rfl rfl rfl rfl ?_ | refine k_ rfl rfl rfl ?_ | refine k0_ rfl rfl ?_ | refine c_ rfl rfl rfl rfl ?_ | refine pick_t rfl rfl rfl rfl rfl rfl rfl ?_ | refine pick_f rfl rfl rfl rfl rfl rfl rfl ?_ | refine aw_seq ?_ | refine aw_region tab_ok _ rfl ?_ | refine aw_drawn2 tabS_ok _ rfl mixed (by decide +kernel) ?_ | refine aw_condT rfl ?_ | refine aw_condF rfl ?_ | refine aw_block ?_ | refine aw_exit ?_ | refine aw_ret ?_ | refine aw_skip ?_ | rw [List.length_map] | rw [mn_norm] | rw [mx_norm])
        exact ⟨_, rfl, fits_mk ⟨rfl, rfl, rfl, trivial⟩ [] rfl ⟨trivial, trivial, trivial, trivial⟩ trivial⟩
    · rw [q_3, cond_false] at hb1
      obtain rfl := Option.some.inj hb1
      have hx1 : gSameRows_K1 (.inl i_2) = some _ := hk1
      unfold gSameRows_K1 at hx1
      dsimp only at hx1
      obtain rfl := Option.some.inj hx1
      exact go_
def gExactly (a_a : Bag) (a_b : Bag) : Option (Bool) := (gSameKinds a_a.kinds a_b.kinds).bind fun r_1 => bif r_1 then
  (gSameRows a_a.rows a_b.rows).bind fun r_3 => some r_3
else
  some false
theorem gExactly_ok {a_a : Bag} {a_b : Bag} {r : Bool} (H : gExactly a_a a_b = some r) : Pure Tryz.prog 21 [.agg (cBag a_a), .agg (cBag a_b)] (.val (.one (.bool r))) := by
  unfold gExactly at H
  refine pure_of_aw tab_ok Tryz.func21 rfl rfl Tryz.ntmps21 (by simp) ?_
  simp only [argT, PV.av, List.map_cons, List.map_nil]
  obtain ⟨r_1, c1, H⟩ := bind_some H
  replace c1 := gSameKinds_ok c1
  try simp only [List.map_append, List.map_cons, List.map_nil, List.nil_append, tE_eq, tP_eq] at c1
  rcases Bool.eq_false_or_eq_true r_1 with q_2 | q_2
  · rw [q_2, cond_true] at H
    obtain ⟨r_3, c2, H⟩ := bind_some H
    replace c2 := gSameRows_ok c2
    try simp only [List.map_append, List.map_cons, List.map_nil, List.nil_append, tE_eq, tP_eq] at c2
    obtain rfl := Option.some.inj H
    exact go_
  · rw [q_2, cond_false] at H
    obtain rfl := Option.some.inj H
    exact go_
def gFit_B1 (a_l : (List Ver)) (a_kinds : (List Int)) : (Int) → Option (Step (Int) (Bool)) := fun s => match s with
  | i_1 => bif (decide (i_1 < ((a_l.length : Nat) : Int))) then
    (getI a_l i_1).bind fun x_3 => (gFits8 x_3.row a_kinds).bind fun r_4 => bif (!r_4) then
      some (.ret false)
    else
      some (.next (IntKind.i64.wrap (i_1 + (1 : Int))))
  else
    some (.exit i_1)
def gFit_K1 (a_kinds : (List Int)) : Sum (Int) (Bool) → Option ((Bool))
  | .inl i_1 => (gKinds a_kinds).bind fun r_6 => some r_6
  | .inr q => some q
def gFit (a_l : (List Ver)) (a_kinds : (List Int)) : Option (Bool) := (loopM (gFit_B1 a_l a_kinds) fuel (0 : Int)).bind (gFit_K1 a_kinds)
theorem gFit_ok {a_l : (List Ver)} {a_kinds : (List Int)} {r : Bool} (H : gFit a_l a_kinds = some r) : Pure Tryz.prog 20 [.one (.lst (a_l.map cVer)), .one (.lst (a_kinds.map (fun x => [AC.int .i64 x])))] (.val (.one (.bool r))) := by
  unfold gFit at H
  refine pure_of_aw tab_ok Tryz.func20 rfl rfl Tryz.ntmps20 (by simp) ?_
  simp only [argT, PV.av, List.map_cons, List.map_nil]
  repeat' (first | refine p_ rfl rfl rfl rfl rfl ?_ | refine st_nil ?_ | refine x_ rfl rfl rfl rfl rfl rfl rfl rfl ?_ | refine l_ rfl rfl rfl rfl ?_ | refine s_ rfl rfl rfl ?_ | refine t_ rfl rfl rfl rfl ?_ | refine k_ rfl rfl rfl ?_ | refine k0_ rfl rfl ?_ | refine c_ rfl rfl rfl rfl ?_ | refine pick_t rfl rfl rfl rfl rfl rfl rfl ?_ | refine pick_f rfl rfl rfl rfl rfl rfl rfl ?_ | refine aw_seq ?_ | refine aw_region tab_ok _ rfl ?_ | refine aw_drawn2 tabS_ok _ rfl mixed (by decide +kernel) ?_ | refine aw_condT rfl ?_ | refine aw_condF rfl ?_ | refine aw_block ?_ | refine aw_exit ?_ | refine aw_ret ?_ | refine aw_skip ?_ | rw [List.length_map] | rw [mn_norm] | rw [mx_norm])
  refine aw_loopM (fun s : Int => match s with | i_1 => [(0, .one (.c (.lst (a_l.map cVer)))), (1, .one (.c (.lst (a_kinds.map (fun x => [AC.int .i64 x]))))), (5, .one (.c (.int .i64 i_1)))]) (fun s => match s with | i_1 => []) H (fun _ => Nat.zero_le _)
    (fits_mk ⟨rfl, rfl, rfl, trivial⟩ [] rfl ⟨trivial, trivial, trivial, trivial⟩ trivial) ?_
  rintro i_1 st1 hb1 hk1
  unfold gFit_B1 at hb1
  dsimp only at hb1 ⊢
  rcases Bool.eq_false_or_eq_true (decide (i_1 < ((a_l.length : Nat) : Int))) with q_2 | q_2
  · rw [q_2, cond_true] at hb1
    obtain ⟨x_3, i1, hb1⟩ := bind_some hb1
    obtain ⟨i1z, i1⟩ := getI_some i1
    have i1x := idxI (f := cVer) i1
    obtain ⟨r_4, c2, hb1⟩ := bind_some hb1
    replace c2 := gFits8_ok c2
    try simp only [List.map_append, List.map_cons, List.map_nil, List.nil_append, tE_eq, tP_eq] at c2
    rcases Bool.eq_false_or_eq_true (!r_4) with q_5 | q_5
    · rw [q_5, cond_true] at hb1
      obtain rfl := Option.some.inj hb1
      have hx1 : gFit_K1 a_kinds (.inr false) = some _ := hk1
      unfold gFit_K1 at hx1
      dsimp only at hx1
      obtain rfl := Option.some.inj hx1
      exact go_
    · rw [q_5, cond_false] at hb1
      obtain rfl := Option.some.inj hb1
      repeat' (first | refine p_ rfl rfl rfl rfl rfl ?_ | refine st_nil ?_ | refine x_ rfl rfl rfl rfl rfl rfl rfl rfl ?_ | refine l_ rfl rfl rfl rfl ?_ | refine s_ rfl rfl rfl ?_ | refine t_ rfl rfl rfl rfl ?_ | refine k_ rfl rfl rfl ?_ | refine k0_ rfl rfl ?_ | refine c_ rfl rfl rfl rfl ?_ | refine pick_t rfl rfl rfl rfl rfl rfl rfl ?_ | refine pick_f rfl rfl rfl rfl rfl rfl rfl ?_ | refine aw_seq ?_ | refine aw_region tab_ok _ rfl ?_ | refine aw_drawn2 tabS_ok _ rfl mixed (by decide +kernel) ?_ | refine aw_condT rfl ?_ | refine aw_condF rfl ?_ | refine aw_block ?_ | refine aw_exit ?_ | refine aw_ret ?_ | refine aw_skip ?_ | rw [List.length_map] | rw [mn_norm] | rw [mx_norm])
      exact ⟨_, rfl, fits_mk ⟨rfl, rfl, rfl, trivial⟩ [] rfl ⟨trivial, trivial, trivial, trivial⟩ trivial⟩
  · rw [q_2, cond_false] at hb1
    obtain rfl := Option.some.inj hb1
    have hx1 : gFit_K1 a_kinds (.inl i_1) = some _ := hk1
    unfold gFit_K1 at hx1
    dsimp only at hx1
    obtain ⟨r_6, c3, hx1⟩ := bind_some hx1
    replace c3 := gKinds_ok c3
    try simp only [List.map_append, List.map_cons, List.map_nil, List.nil_append, tE_eq, tP_eq] at c3
    obtain rfl := Option.some.inj hx1
    exact go_
end Go.Proofs.YtnbnpnmkgemdeaaGreatDoor

namespace Go.Proofs.YtnbnpnmkgemdeaaGreatDoor
open Go.RowKit Go.MapKept
set_option maxRecDepth 100000
set_option maxHeartbeats 8000000
set_option linter.unusedVariables false
set_option linter.unusedSimpArgs false
def gExtR_B1 (a_v : Ver) : ((List Val) × Int) → Option (Step ((List Val) × Int) ((List Val))) := fun s => match s with
  | (out_1, i_2) => bif (decide (i_2 < ((5 : Nat) : Int))) then
    (getI [a_v.valid.lo, a_v.valid.hi, a_v.system.lo, a_v.system.hi, a_v.by_] i_2).bind fun x_4 => (gIntR x_4).bind fun r_5 => bif (decide (out_1.length + 1 ≤ 4398046511104)) then (some (.next ((out_1 ++ [r_5]), (IntKind.i64.wrap (i_2 + (1 : Int)))))) else none
  else
    some (.exit (out_1, i_2))
def gExtR_K1 : Sum ((List Val) × Int) ((List Val)) → Option (((List Val)))
  | .inl (out_1, i_2) => some out_1
  | .inr q => some q
def gExtR (a_v : Ver) : Option ((List Val)) := bif (decide (a_v.row.length ≤ 4398046511104)) then ((loopM (gExtR_B1 a_v) fuel (a_v.row, (0 : Int))).bind (gExtR_K1)) else none
theorem gExtR_ok {a_v : Ver} {r : (List Val)} (H : gExtR a_v = some r) : Pure Tryz.prog 52 [.agg (cVer a_v)] (.val (.one (.lst (r.map cV)))) := by
  unfold gExtR at H
  refine pure_of_aw tab_ok Tryz.func52 rfl rfl Tryz.ntmps52 (by simp) ?_
  simp only [argT, PV.av, List.map_cons, List.map_nil]
  obtain ⟨g1, H⟩ := grd_some H
  replace g1 := of_decide_eq_true g1
  repeat' (first | refine p_ rfl rfl rfl rfl rfl ?_ | refine st_nil ?_ | refine x_ rfl rfl rfl rfl rfl rfl rfl rfl ?_ | refine l_ rfl rfl rfl rfl ?_ | refine s_ rfl rfl rfl ?_ | refine t5_ rfl rfl rfl rfl ?_ | refine k_ rfl rfl rfl ?_ | refine k0_ rfl rfl ?_ | refine c_ rfl rfl rfl rfl ?_ | refine pick_t rfl rfl rfl rfl rfl rfl rfl ?_ | refine pick_f rfl rfl rfl rfl rfl rfl rfl ?_ | refine aw_seq ?_ | refine aw_region tab_ok _ rfl ?_ | refine aw_drawn2 tabS_ok _ rfl mixed (by decide +kernel) ?_ | refine aw_condT rfl ?_ | refine aw_condF rfl ?_ | refine aw_block ?_ | refine aw_exit ?_ | refine aw_ret ?_ | refine aw_skip ?_ | rw [List.length_map] | rw [mn_norm] | rw [mx_norm] | refine b_ rfl rfl rfl rfl rfl rfl rfl ?_)
  refine aw_loopM (fun s : (List Val) × Int => match s with | (out_1, i_2) => [(3, .one (.c (.lst ([a_v.valid.lo, a_v.valid.hi, a_v.system.lo, a_v.system.hi, a_v.by_].map (fun x => [AC.int .i64 x]))))), (4, .one (.own (out_1.map cV) 1)), (5, .one (.c (.int .i64 i_2)))]) (fun s => match s with | (out_1, i_2) => [.box [.c (.int .i64 a_v.id), .c (.int .i64 a_v.schema), .c (.lst (a_v.row.map cV)), .c (.int .i64 a_v.valid.lo), .c (.int .i64 a_v.valid.hi), .c (.int .i64 a_v.system.lo), .c (.int .i64 a_v.system.hi), .c (.int .i64 a_v.by_), .c (.int .i64 a_v.til)], .spare out_1.length 3]) H (fun _ => Nat.zero_le _)
    (fits_mk ⟨rfl, rfl, rfl, trivial⟩ [] rfl ⟨trivial, by show 1 < 2; omega, trivial, trivial⟩ ⟨ob_below (by rfl), trivial, trivial⟩) ?_
  rintro ⟨out_1, i_2⟩ st1 hb1 hk1
  unfold gExtR_B1 at hb1
  dsimp only at hb1 ⊢
  rcases Bool.eq_false_or_eq_true (decide (i_2 < ((5 : Nat) : Int))) with q_3 | q_3
  · rw [q_3, cond_true] at hb1
    obtain ⟨x_4, i2, hb1⟩ := bind_some hb1
    obtain ⟨i2z, i2⟩ := getI_some i2
    have i2x := idxI (f := (fun x => [AC.int .i64 x])) i2
    obtain ⟨r_5, c3, hb1⟩ := bind_some hb1
    replace c3 := gIntR_ok c3
    try simp only [List.map_append, List.map_cons, List.map_nil, List.nil_append, tE_eq, tP_eq] at c3
    obtain ⟨g4, hb1⟩ := grd_some hb1
    replace g4 := of_decide_eq_true g4
    obtain rfl := Option.some.inj hb1
    repeat' (first | refine p_ rfl rfl rfl rfl rfl ?_ | refine st_nil ?_ | refine x_ rfl rfl rfl rfl rfl rfl rfl rfl ?_ | refine l_ rfl rfl rfl rfl ?_ | refine s_ rfl rfl rfl ?_ | refine t5_ rfl rfl rfl rfl ?_ | refine k_ rfl rfl rfl ?_ | refine k0_ rfl rfl ?_ | refine c_ rfl rfl rfl rfl ?_ | refine pick_t rfl rfl rfl rfl rfl rfl rfl ?_ | refine pick_f rfl rfl rfl rfl rfl rfl rfl ?_ | refine aw_seq ?_ | refine aw_region tab_ok _ rfl ?_ | refine aw_drawn2 tabS_ok _ rfl mixed (by decide +kernel) ?_ | refine aw_condT rfl ?_ | refine aw_condF rfl ?_ | refine aw_block ?_ | refine aw_exit ?_ | refine aw_ret ?_ | refine aw_skip ?_ | rw [List.length_map] | rw [mn_norm] | rw [mx_norm] | refine b_ rfl rfl rfl rfl rfl rfl rfl ?_)
    exact ⟨_, rfl, fits_mk ⟨rfl, (by simp only [List.map_append, List.map_cons, List.map_nil, List.nil_append] <;> rfl), rfl, trivial⟩ [] (by simp only [List.length_append, List.length_cons, List.length_nil, Nat.zero_add, List.map_append, List.map_cons, List.map_nil] <;> rfl) ⟨trivial, by show 1 < 2; omega, trivial, trivial⟩ ⟨ob_below (by rfl), trivial, trivial⟩⟩
  · rw [q_3, cond_false] at hb1
    obtain rfl := Option.some.inj hb1
    have hx1 : gExtR_K1 (.inl (out_1, i_2)) = some _ := hk1
    unfold gExtR_K1 at hx1
    dsimp only at hx1
    obtain rfl := Option.some.inj hx1
    repeat' (first | refine p_ rfl rfl rfl rfl rfl ?_ | refine st_nil ?_ | refine x_ rfl rfl rfl rfl rfl rfl rfl rfl ?_ | refine l_ rfl rfl rfl rfl ?_ | refine s_ rfl rfl rfl ?_ | refine t5_ rfl rfl rfl rfl ?_ | refine k_ rfl rfl rfl ?_ | refine k0_ rfl rfl ?_ | refine c_ rfl rfl rfl rfl ?_ | refine pick_t rfl rfl rfl rfl rfl rfl rfl ?_ | refine pick_f rfl rfl rfl rfl rfl rfl rfl ?_ | refine aw_seq ?_ | refine aw_region tab_ok _ rfl ?_ | refine aw_drawn2 tabS_ok _ rfl mixed (by decide +kernel) ?_ | refine aw_condT rfl ?_ | refine aw_condF rfl ?_ | refine aw_block ?_ | refine aw_exit ?_ | refine aw_ret ?_ | refine aw_skip ?_ | rw [List.length_map] | rw [mn_norm] | rw [mx_norm] | refine b_ rfl rfl rfl rfl rfl rfl rfl ?_)
    refine end_ret (res_of rfl ?_ ?_)
    · repeat' (first | exact trivial | rfl | exact Nat.le_of_ble_eq_true rfl | omega | apply And.intro)
    · first | rfl | (simp only [List.map_append, List.map_cons, List.map_nil, List.nil_append] <;> rfl)
def gOrderB (rec : List (List Val) → List Ord → Option (List (List Val))) (a_l : (List (List Val))) (a_o : (List Ord)) : Option ((List (List Val))) := bif (decide (((a_l.length : Nat) : Int) = (0 : Int))) then
  some []
else
  bif (decide (((a_l.length : Nat) : Int) = (1 : Int))) then
    (getI a_l (0 : Int)).bind fun x_3 => bif (decide (x_3.length ≤ 4398046511104)) then (some [x_3]) else none
  else
    bif (decide ((2 : Int) ≠ 0)) then ((subI a_l (0 : Int) (IntKind.i64.wrap (((a_l.length : Nat) : Int).tdiv (2 : Int)))).bind fun s_4 => (rec s_4 a_o).bind fun r_5 => (subI a_l (IntKind.i64.wrap (((a_l.length : Nat) : Int).tdiv (2 : Int))) ((a_l.length : Nat) : Int)).bind fun s_6 => (rec s_6 a_o).bind fun r_7 => (gMerged r_5 r_7 a_o).bind fun r_8 => some r_8) else none
theorem gOrderB_ok {rec : List (List Val) → List Ord → Option (List (List Val))}  (hrec : ∀ {x : List (List Val)} {y : List Ord} {r : List (List Val)}, rec x y = some r → Pure Tryz.prog 55 [.one (.lst (x.map (fun x => [AC.lst (x.map cV)]))), .one (.lst (y.map cOrd))] (.val (.one (.lst (r.map (fun x => [AC.lst (x.map cV)])))))) {a_l : (List (List Val))} {a_o : (List Ord)} {r : (List (List Val))} (H : gOrderB rec a_l a_o = some r) : Pure Tryz.prog 55 [.one (.lst (a_l.map (fun x => [AC.lst (x.map cV)]))), .one (.lst (a_o.map cOrd))] (.val (.one (.lst (r.map (fun x => [AC.lst (x.map cV)]))))) := by
  unfold gOrderB at H
  refine pure_of_aw tab_ok Tryz.func55 rfl rfl Tryz.ntmps55 (by simp) ?_
  simp only [argT, PV.av, List.map_cons, List.map_nil]
  rcases Bool.eq_false_or_eq_true (decide (((a_l.length : Nat) : Int) = (0 : Int))) with q_1 | q_1
  · rw [q_1, cond_true] at H
    obtain rfl := Option.some.inj H
    exact go_
  · rw [q_1, cond_false] at H
    rcases Bool.eq_false_or_eq_true (decide (((a_l.length : Nat) : Int) = (1 : Int))) with q_2 | q_2
    · rw [q_2, cond_true] at H
      obtain ⟨x_3, i1, H⟩ := bind_some H
      obtain ⟨i1z, i1⟩ := getI_some i1
      have i1x := idxI (f := (fun x => [AC.lst (x.map cV)])) i1
      obtain ⟨g2, H⟩ := grd_some H
      replace g2 := of_decide_eq_true g2
      obtain rfl := Option.some.inj H
      repeat' (first | refine p_ rfl rfl rfl rfl rfl ?_ | refine st_nil ?_ | refine x_ rfl rfl rfl rfl rfl rfl rfl rfl ?_ | refine l_ rfl rfl rfl rfl ?_ | refine s_ rfl rfl rfl ?_ | refine t_ rfl rfl rfl rfl ?_ | refine k_ rfl rfl rfl ?_ | refine k0_ rfl rfl ?_ | refine c_ rfl rfl rfl rfl ?_ | refine pick_t rfl rfl rfl rfl rfl rfl rfl ?_ | refine pick_f rfl rfl rfl rfl rfl rfl rfl ?_ | refine aw_seq ?_ | refine aw_region tab_ok _ rfl ?_ | refine aw_drawn2 tabS_ok _ rfl mixed (by decide +kernel) ?_ | refine aw_condT rfl ?_ | refine aw_condF rfl ?_ | refine aw_block ?_ | refine aw_exit ?_ | refine aw_ret ?_ | refine aw_skip ?_ | rw [List.length_map] | rw [mn_norm] | rw [mx_norm])
      refine end_ret (res_of rfl ?_ ?_)
      · repeat' (first | exact trivial | rfl | exact Nat.le_of_ble_eq_true rfl | omega | apply And.intro)
      · first | rfl | (simp only [List.map_append, List.map_cons, List.map_nil, List.nil_append] <;> rfl)
    · rw [q_2, cond_false] at H
      obtain ⟨g3, H⟩ := grd_some H
      replace g3 := of_decide_eq_true g3
      obtain ⟨s_4, u4, H⟩ := bind_some H
      obtain ⟨⟨u4a, u4b, u4c⟩, u4⟩ := subI_some u4
      have u4x := subE (f := (fun x => [AC.lst (x.map cV)])) u4
      obtain ⟨r_5, c5, H⟩ := bind_some H
      replace c5 := hrec c5
      try simp only [List.map_append, List.map_cons, List.map_nil, List.nil_append, tE_eq, tP_eq] at c5
      obtain ⟨s_6, u6, H⟩ := bind_some H
      obtain ⟨⟨u6a, u6b, u6c⟩, u6⟩ := subI_some u6
      have u6x := subE (f := (fun x => [AC.lst (x.map cV)])) u6
      obtain ⟨r_7, c7, H⟩ := bind_some H
      replace c7 := hrec c7
      try simp only [List.map_append, List.map_cons, List.map_nil, List.nil_append, tE_eq, tP_eq] at c7
      obtain ⟨r_8, c8, H⟩ := bind_some H
      replace c8 := gMerged_ok c8
      try simp only [List.map_append, List.map_cons, List.map_nil, List.nil_append, tE_eq, tP_eq] at c8
      obtain rfl := Option.some.inj H
      repeat' (first | refine p_ rfl rfl rfl rfl rfl ?_ | refine st_nil ?_ | refine x_ rfl rfl rfl rfl rfl rfl rfl rfl ?_ | refine l_ rfl rfl rfl rfl ?_ | refine s_ rfl rfl rfl ?_ | refine t_ rfl rfl rfl rfl ?_ | refine k_ rfl rfl rfl ?_ | refine k0_ rfl rfl ?_ | refine c_ rfl rfl rfl rfl ?_ | refine pick_t rfl rfl rfl rfl rfl rfl rfl ?_ | refine pick_f rfl rfl rfl rfl rfl rfl rfl ?_ | refine aw_seq ?_ | refine aw_region tab_ok _ rfl ?_ | refine aw_drawn2 tabS_ok _ rfl mixed (by decide +kernel) ?_ | refine aw_condT rfl ?_ | refine aw_condF rfl ?_ | refine aw_block ?_ | refine aw_exit ?_ | refine aw_ret ?_ | refine aw_skip ?_ | rw [List.length_map] | rw [mn_norm] | rw [mx_norm] | rw [u4x] | rw [u6x] | rw [show ((0 : Nat) : Int) = 0 from rfl])
      refine end_ret (res_of rfl ?_ ?_)
      · repeat' (first | exact trivial | rfl | exact Nat.le_of_ble_eq_true rfl | omega | apply And.intro)
      · first | rfl | (simp only [List.map_append, List.map_cons, List.map_nil, List.nil_append] <;> rfl)
def gOrder : Nat → List (List Val) → List Ord → Option (List (List Val))
  | 0, _, _ => none
  | n + 1, a, b => gOrderB (gOrder n) a b
theorem gOrder_ok : ∀ (n : Nat) {x : List (List Val)} {y : List Ord} {r : List (List Val)}, gOrder n x y = some r → Pure Tryz.prog 55 [.one (.lst (x.map (fun x => [AC.lst (x.map cV)]))), .one (.lst (y.map cOrd))] (.val (.one (.lst (r.map (fun x => [AC.lst (x.map cV)])))))
  | 0, _, _, _, h => nomatch h
  | n + 1, _, _, _, h => gOrderB_ok (gOrder_ok n) h
def gSortR (a_l : (List (List Val))) : Option ((List (List Val))) := (gOrder 64 a_l ([] : (List Ord))).bind fun r_1 => some r_1
theorem gSortR_ok {a_l : (List (List Val))} {r : (List (List Val))} (H : gSortR a_l = some r) : Pure Tryz.prog 28 [.one (.lst (a_l.map (fun x => [AC.lst (x.map cV)])))] (.val (.one (.lst (r.map (fun x => [AC.lst (x.map cV)]))))) := by
  unfold gSortR at H
  refine pure_of_aw tab_ok Tryz.func28 rfl rfl Tryz.ntmps28 (by simp) ?_
  simp only [argT, PV.av, List.map_cons, List.map_nil]
  obtain ⟨r_1, c1, H⟩ := bind_some H
  replace c1 := gOrder_ok 64 c1
  try simp only [List.map_append, List.map_cons, List.map_nil, List.nil_append, tE_eq, tP_eq] at c1
  obtain rfl := Option.some.inj H
  exact go_
def gRowsR_B2 (a_l : (List Ver)) : ((List (List Val)) × Int) → Option (Step ((List (List Val)) × Int) (Bag)) := fun s => match s with
  | (c_4, i_5) => bif (decide (i_5 < ((a_l.length : Nat) : Int))) then
    (getI a_l i_5).bind fun x_7 => (gExtR x_7).bind fun r_8 => bif (decide (c_4.length + 1 ≤ 5864062014805)) then (some (.next ((c_4 ++ [r_8]), (IntKind.i64.wrap (i_5 + (1 : Int)))))) else none
  else
    some (.exit (c_4, i_5))
def gRowsR_K2 (c_1 : (List Int)) : Sum ((List (List Val)) × Int) (Bag) → Option ((Bag))
  | .inl (c_4, i_5) => (gSortR c_4).bind fun r_9 => some (⟨c_1, r_9⟩ : Bag)
  | .inr q => some q
def gRowsR_B1 : ((List Int) × Int) → Option (Step ((List Int) × Int) (Bag)) := fun s => match s with
  | (c_1, i_2) => bif (decide (i_2 < (5 : Int))) then
    bif (decide (c_1.length + 1 ≤ 17592186044416)) then (some (.next ((c_1 ++ [(1 : Int)]), (IntKind.i64.wrap (i_2 + (1 : Int)))))) else none
  else
    some (.exit (c_1, i_2))
def gRowsR_K1 (a_l : (List Ver)) : Sum ((List Int) × Int) (Bag) → Option ((Bag))
  | .inl (c_1, i_2) => (loopM (gRowsR_B2 a_l) fuel ([], (0 : Int))).bind (gRowsR_K2 c_1)
  | .inr q => some q
def gRowsR (a_kinds : (List Int)) (a_l : (List Ver)) : Option (Bag) := bif (decide (a_kinds.length ≤ 17592186044416)) then ((loopM (gRowsR_B1) fuel (a_kinds, (0 : Int))).bind (gRowsR_K1 a_l)) else none
theorem gRowsR_ok {a_kinds : (List Int)} {a_l : (List Ver)} {r : Bag} (H : gRowsR a_kinds a_l = some r) : Pure Tryz.prog 23 [.one (.lst (a_kinds.map (fun x => [AC.int .i64 x]))), .one (.lst (a_l.map cVer))] (.val (.agg (cBag r))) := by
  unfold gRowsR at H
  refine pure_of_aw tab_ok Tryz.func23 rfl rfl Tryz.ntmps23 (by simp) ?_
  simp only [argT, PV.av, List.map_cons, List.map_nil]
  obtain ⟨g1, H⟩ := grd_some H
  replace g1 := of_decide_eq_true g1
  repeat' (first | refine p_ rfl rfl rfl rfl rfl ?_ | refine st_nil ?_ | refine x_ rfl rfl rfl rfl rfl rfl rfl rfl ?_ | refine l_ rfl rfl rfl rfl ?_ | refine s_ rfl rfl rfl ?_ | refine t_ rfl rfl rfl rfl ?_ | refine k_ rfl rfl rfl ?_ | refine k0_ rfl rfl ?_ | refine c_ rfl rfl rfl rfl ?_ | refine pick_t rfl rfl rfl rfl rfl rfl rfl ?_ | refine pick_f rfl rfl rfl rfl rfl rfl rfl ?_ | refine aw_seq ?_ | refine aw_region tab_ok _ rfl ?_ | refine aw_drawn2 tabS_ok _ rfl mixed (by decide +kernel) ?_ | refine aw_condT rfl ?_ | refine aw_condF rfl ?_ | refine aw_block ?_ | refine aw_exit ?_ | refine aw_ret ?_ | refine aw_skip ?_ | rw [List.length_map] | rw [mn_norm] | rw [mx_norm])
  refine aw_loopM (fun s : (List Int) × Int => match s with | (c_1, i_2) => [(1, .one (.c (.lst (a_l.map cVer)))), (4, .one (.ptr 0 0)), (5, .one (.ptr 1 0)), (6, .one (.c (.int .i64 i_2)))]) (fun s => match s with | (c_1, i_2) => [.box [.emp, .emp], .box [.own (c_1.map (fun x => [AC.int .i64 x])) 2, .emp], .spare c_1.length 1]) H (fun _ => Nat.zero_le _)
    (fits_mk ⟨rfl, rfl, rfl, rfl, trivial⟩ [] rfl ⟨trivial, by show 0 < 3; omega, by show 1 < 3; omega, trivial, trivial⟩ ⟨ob_below (by rfl), ob_below (by rfl), trivial, trivial⟩) ?_
  rintro ⟨c_1, i_2⟩ st1 hb1 hk1
  unfold gRowsR_B1 at hb1
  dsimp only at hb1 ⊢
  rcases Bool.eq_false_or_eq_true (decide (i_2 < (5 : Int))) with q_3 | q_3
  · rw [q_3, cond_true] at hb1
    obtain ⟨g2, hb1⟩ := grd_some hb1
    replace g2 := of_decide_eq_true g2
    obtain rfl := Option.some.inj hb1
    repeat' (first | refine p_ rfl rfl rfl rfl rfl ?_ | refine st_nil ?_ | refine x_ rfl rfl rfl rfl rfl rfl rfl rfl ?_ | refine l_ rfl rfl rfl rfl ?_ | refine s_ rfl rfl rfl ?_ | refine t_ rfl rfl rfl rfl ?_ | refine k_ rfl rfl rfl ?_ | refine k0_ rfl rfl ?_ | refine c_ rfl rfl rfl rfl ?_ | refine pick_t rfl rfl rfl rfl rfl rfl rfl ?_ | refine pick_f rfl rfl rfl rfl rfl rfl rfl ?_ | refine aw_seq ?_ | refine aw_region tab_ok _ rfl ?_ | refine aw_drawn2 tabS_ok _ rfl mixed (by decide +kernel) ?_ | refine aw_condT rfl ?_ | refine aw_condF rfl ?_ | refine aw_block ?_ | refine aw_exit ?_ | refine aw_ret ?_ | refine aw_skip ?_ | rw [List.length_map] | rw [mn_norm] | rw [mx_norm])
    exact ⟨_, rfl, fits_mk ⟨rfl, rfl, rfl, rfl, trivial⟩ [] (by simp only [List.length_append, List.length_cons, List.length_nil, Nat.zero_add, List.map_append, List.map_cons, List.map_nil] <;> rfl) ⟨trivial, by show 0 < 3; omega, by show 1 < 3; omega, trivial, trivial⟩ ⟨ob_below (by rfl), ob_below (by rfl), trivial, trivial⟩⟩
  · rw [q_3, cond_false] at hb1
    obtain rfl := Option.some.inj hb1
    have hx1 : gRowsR_K1 a_l (.inl (c_1, i_2)) = some _ := hk1
    unfold gRowsR_K1 at hx1
    dsimp only at hx1
    repeat' (first | refine p_ rfl rfl rfl rfl rfl ?_ | refine st_nil ?_ | refine x_ rfl rfl rfl rfl rfl rfl rfl rfl ?_ | refine l_ rfl rfl rfl rfl ?_ | refine s_ rfl rfl rfl ?_ | refine t_ rfl rfl rfl rfl ?_ | refine k_ rfl rfl rfl ?_ | refine k0_ rfl rfl ?_ | refine c_ rfl rfl rfl rfl ?_ | refine pick_t rfl rfl rfl rfl rfl rfl rfl ?_ | refine pick_f rfl rfl rfl rfl rfl rfl rfl ?_ | refine aw_seq ?_ | refine aw_region tab_ok _ rfl ?_ | refine aw_drawn2 tabS_ok _ rfl mixed (by decide +kernel) ?_ | refine aw_condT rfl ?_ | refine aw_condF rfl ?_ | refine aw_block ?_ | refine aw_exit ?_ | refine aw_ret ?_ | refine aw_skip ?_ | rw [List.length_map] | rw [mn_norm] | rw [mx_norm])
    refine aw_tokBox 1 1 1 rfl rfl ?_
    refine aw_loopM (fun s : (List (List Val)) × Int => match s with | (c_4, i_5) => [(1, .one (.c (.lst (a_l.map cVer)))), (4, .one (.ptr 0 0)), (5, .one (.ptr 1 0)), (7, .one (.c (.int .i64 i_5)))]) (fun s => match s with | (c_4, i_5) => [.box [.emp, .emp], .box [.own (c_1.map (fun x => [AC.int .i64 x])) 2, .own (c_4.map (fun x => [AC.lst (x.map cV)])) 3], .spare c_1.length 1, .spare c_4.length 1]) hx1 (fun _ => Nat.zero_le _)
      (fits_mk ⟨rfl, rfl, rfl, rfl, trivial⟩ [] rfl ⟨trivial, by show 0 < 4; omega, by show 1 < 4; omega, trivial, trivial⟩ ⟨ob_below (by rfl), ob_below (by rfl), trivial, trivial, trivial⟩) ?_
    rintro ⟨c_4, i_5⟩ st2 hb2 hk2
    unfold gRowsR_B2 at hb2
    dsimp only at hb2 ⊢
    rcases Bool.eq_false_or_eq_true (decide (i_5 < ((a_l.length : Nat) : Int))) with q_6 | q_6
    · rw [q_6, cond_true] at hb2
      obtain ⟨x_7, i3, hb2⟩ := bind_some hb2
      obtain ⟨i3z, i3⟩ := getI_some i3
      have i3x := idxI (f := cVer) i3
      obtain ⟨r_8, c4, hb2⟩ := bind_some hb2
      replace c4 := gExtR_ok c4
      try simp only [List.map_append, List.map_cons, List.map_nil, List.nil_append, tE_eq, tP_eq] at c4
      obtain ⟨g5, hb2⟩ := grd_some hb2
      replace g5 := of_decide_eq_true g5
      obtain rfl := Option.some.inj hb2
      repeat' (first | refine p_ rfl rfl rfl rfl rfl ?_ | refine st_nil ?_ | refine x_ rfl rfl rfl rfl rfl rfl rfl rfl ?_ | refine l_ rfl rfl rfl rfl ?_ | refine s_ rfl rfl rfl ?_ | refine t_ rfl rfl rfl rfl ?_ | refine k_ rfl rfl rfl ?_ | refine k0_ rfl rfl ?_ | refine c_ rfl rfl rfl rfl ?_ | refine pick_t rfl rfl rfl rfl rfl rfl rfl ?_ | refine pick_f rfl rfl rfl rfl rfl rfl rfl ?_ | refine aw_seq ?_ | refine aw_region tab_ok _ rfl ?_ | refine aw_drawn2 tabS_ok _ rfl mixed (by decide +kernel) ?_ | refine aw_condT rfl ?_ | refine aw_condF rfl ?_ | refine aw_block ?_ | refine aw_exit ?_ | refine aw_ret ?_ | refine aw_skip ?_ | rw [List.length_map] | rw [mn_norm] | rw [mx_norm])
      exact ⟨_, rfl, fits_mk ⟨rfl, rfl, rfl, rfl, trivial⟩ [] (by simp only [List.length_append, List.length_cons, List.length_nil, Nat.zero_add, List.map_append, List.map_cons, List.map_nil] <;> rfl) ⟨trivial, by show 0 < 4; omega, by show 1 < 4; omega, trivial, trivial⟩ ⟨ob_below (by rfl), ob_below (by rfl), trivial, trivial, trivial⟩⟩
    · rw [q_6, cond_false] at hb2
      obtain rfl := Option.some.inj hb2
      have hx2 : gRowsR_K2 c_1 (.inl (c_4, i_5)) = some _ := hk2
      unfold gRowsR_K2 at hx2
      dsimp only at hx2
      obtain ⟨r_9, c6, hx2⟩ := bind_some hx2
      replace c6 := gSortR_ok c6
      try simp only [List.map_append, List.map_cons, List.map_nil, List.nil_append, tE_eq, tP_eq] at c6
      obtain rfl := Option.some.inj hx2
      repeat' (first | refine p_ rfl rfl rfl rfl rfl ?_ | refine st_nil ?_ | refine x_ rfl rfl rfl rfl rfl rfl rfl rfl ?_ | refine l_ rfl rfl rfl rfl ?_ | refine s_ rfl rfl rfl ?_ | refine t_ rfl rfl rfl rfl ?_ | refine k_ rfl rfl rfl ?_ | refine k0_ rfl rfl ?_ | refine c_ rfl rfl rfl rfl ?_ | refine pick_t rfl rfl rfl rfl rfl rfl rfl ?_ | refine pick_f rfl rfl rfl rfl rfl rfl rfl ?_ | refine aw_seq ?_ | refine aw_region tab_ok _ rfl ?_ | refine aw_drawn2 tabS_ok _ rfl mixed (by decide +kernel) ?_ | refine aw_condT rfl ?_ | refine aw_condF rfl ?_ | refine aw_block ?_ | refine aw_exit ?_ | refine aw_ret ?_ | refine aw_skip ?_ | rw [List.length_map] | rw [mn_norm] | rw [mx_norm])
      refine end_ret (res_of rfl ?_ ?_)
      · repeat' (first | exact trivial | rfl | exact Nat.le_of_ble_eq_true rfl | omega | apply And.intro)
      · first | rfl | (simp only [List.map_append, List.map_cons, List.map_nil, List.nil_append] <;> rfl)
end Go.Proofs.YtnbnpnmkgemdeaaGreatDoor

namespace Go.Proofs.YtnbnpnmkgemdeaaGreatDoor
open Go.RowKit Go.MapKept
set_option maxRecDepth 100000
set_option maxHeartbeats 8000000
set_option linter.unusedVariables false
set_option linter.unusedSimpArgs false
def gNull : Option (Val) := some (⟨(0 : Int), (0 : Int), ByteArray.empty⟩ : Val)
theorem gNull_ok {r : Val} (H : gNull = some r) : Pure Tryz.prog 149 [] (.val (.agg (cV r))) := by
  unfold gNull at H
  refine pure_of_aw tab_ok Tryz.func149 rfl rfl Tryz.ntmps149 (by simp) ?_
  simp only [argT, PV.av, List.map_cons, List.map_nil]
  obtain rfl := Option.some.inj H
  exact go_
def gPrintableP_B1 (a_s : ByteArray) : (Int) → Option (Step (Int) (Bool)) := fun s => match s with
  | v_1 => bif (decide (v_1 < ((a_s.size : Nat) : Int))) then
    (getB a_s v_1).bind fun b_3 => bif (decide (((b_3.toNat : Nat) : Int) < (32 : Int))) then
      some (.ret false)
    else
      bif (decide ((126 : Int) < ((b_3.toNat : Nat) : Int))) then
        some (.ret false)
      else
        some (.next (IntKind.i64.wrap (v_1 + (1 : Int))))
  else
    some (.exit v_1)
def gPrintableP_K1 : Sum (Int) (Bool) → Option ((Bool))
  | .inl v_1 => some true
  | .inr q => some q
def gPrintableP (a_s : ByteArray) : Option (Bool) := (loopM (gPrintableP_B1 a_s) fuel (0 : Int)).bind (gPrintableP_K1)
theorem gPrintableP_ok {a_s : ByteArray} {r : Bool} (H : gPrintableP a_s = some r) : Pure Tryz.prog 200 [.one (.str a_s)] (.val (.one (.bool r))) := by
  unfold gPrintableP at H
  refine pure_of_aw tab_ok Tryz.func200 rfl rfl Tryz.ntmps200 (by simp) ?_
  simp only [argT, PV.av, List.map_cons, List.map_nil]
  repeat' (first | refine p_ rfl rfl rfl rfl rfl ?_ | refine st_nil ?_ | refine x_ rfl rfl rfl rfl rfl rfl rfl rfl ?_ | refine l_ rfl rfl rfl rfl ?_ | refine s_ rfl rfl rfl ?_ | refine t5_ rfl rfl rfl rfl ?_ | refine k_ rfl rfl rfl ?_ | refine k0_ rfl rfl ?_ | refine c_ rfl rfl rfl rfl ?_ | refine pick_t rfl rfl rfl rfl rfl rfl rfl ?_ | refine pick_f rfl rfl rfl rfl rfl rfl rfl ?_ | refine aw_seq ?_ | refine aw_region tab_ok _ rfl ?_ | refine aw_drawn2 tabS_ok _ rfl mixed (by decide +kernel) ?_ | refine aw_condT rfl ?_ | refine aw_condF rfl ?_ | refine aw_block ?_ | refine aw_exit ?_ | refine aw_ret ?_ | refine aw_skip ?_ | rw [List.length_map] | rw [mn_norm] | rw [mx_norm] | refine b_ rfl rfl rfl rfl rfl rfl rfl ?_)
  refine aw_loopM (fun s : Int => match s with | v_1 => [(0, .one (.c (.str a_s))), (5, .one (.c (.int .i64 ((a_s.size : Nat) : Int)))), (6, .one (.c (.int .i64 v_1)))]) (fun s => match s with | v_1 => []) H (fun _ => Nat.zero_le _)
    (fits_mk ⟨rfl, rfl, rfl, trivial⟩ [] rfl ⟨trivial, trivial, trivial, trivial⟩ trivial) ?_
  rintro v_1 st1 hb1 hk1
  unfold gPrintableP_B1 at hb1
  dsimp only at hb1 ⊢
  rcases Bool.eq_false_or_eq_true (decide (v_1 < ((a_s.size : Nat) : Int))) with q_2 | q_2
  · rw [q_2, cond_true] at hb1
    obtain ⟨b_3, i1, hb1⟩ := bind_some hb1
    obtain ⟨i1z, i1⟩ := getB_some i1
    rcases Bool.eq_false_or_eq_true (decide (((b_3.toNat : Nat) : Int) < (32 : Int))) with q_4 | q_4
    · rw [q_4, cond_true] at hb1
      obtain rfl := Option.some.inj hb1
      have hx1 : gPrintableP_K1 (.inr false) = some _ := hk1
      unfold gPrintableP_K1 at hx1
      dsimp only at hx1
      obtain rfl := Option.some.inj hx1
      repeat' (first | refine p_ rfl rfl rfl rfl rfl ?_ | refine st_nil ?_ | refine x_ rfl rfl rfl rfl rfl rfl rfl rfl ?_ | refine l_ rfl rfl rfl rfl ?_ | refine s_ rfl rfl rfl ?_ | refine t5_ rfl rfl rfl rfl ?_ | refine k_ rfl rfl rfl ?_ | refine k0_ rfl rfl ?_ | refine c_ rfl rfl rfl rfl ?_ | refine pick_t rfl rfl rfl rfl rfl rfl rfl ?_ | refine pick_f rfl rfl rfl rfl rfl rfl rfl ?_ | refine aw_seq ?_ | refine aw_region tab_ok _ rfl ?_ | refine aw_drawn2 tabS_ok _ rfl mixed (by decide +kernel) ?_ | refine aw_condT rfl ?_ | refine aw_condF rfl ?_ | refine aw_block ?_ | refine aw_exit ?_ | refine aw_ret ?_ | refine aw_skip ?_ | rw [List.length_map] | rw [mn_norm] | rw [mx_norm] | refine b_ rfl rfl rfl rfl rfl rfl rfl ?_)
      refine end_ret (res_of rfl ?_ ?_)
      · repeat' (first | exact trivial | rfl | exact Nat.le_of_ble_eq_true rfl | omega | apply And.intro)
      · first | rfl | (simp only [List.map_append, List.map_cons, List.map_nil, List.nil_append] <;> rfl)
    · rw [q_4, cond_false] at hb1
      rcases Bool.eq_false_or_eq_true (decide ((126 : Int) < ((b_3.toNat : Nat) : Int))) with q_5 | q_5
      · rw [q_5, cond_true] at hb1
        obtain rfl := Option.some.inj hb1
        have hx1 : gPrintableP_K1 (.inr false) = some _ := hk1
        unfold gPrintableP_K1 at hx1
        dsimp only at hx1
        obtain rfl := Option.some.inj hx1
        repeat' (first | refine p_ rfl rfl rfl rfl rfl ?_ | refine st_nil ?_ | refine x_ rfl rfl rfl rfl rfl rfl rfl rfl ?_ | refine l_ rfl rfl rfl rfl ?_ | refine s_ rfl rfl rfl ?_ | refine t5_ rfl rfl rfl rfl ?_ | refine k_ rfl rfl rfl ?_ | refine k0_ rfl rfl ?_ | refine c_ rfl rfl rfl rfl ?_ | refine pick_t rfl rfl rfl rfl rfl rfl rfl ?_ | refine pick_f rfl rfl rfl rfl rfl rfl rfl ?_ | refine aw_seq ?_ | refine aw_region tab_ok _ rfl ?_ | refine aw_drawn2 tabS_ok _ rfl mixed (by decide +kernel) ?_ | refine aw_condT rfl ?_ | refine aw_condF rfl ?_ | refine aw_block ?_ | refine aw_exit ?_ | refine aw_ret ?_ | refine aw_skip ?_ | rw [List.length_map] | rw [mn_norm] | rw [mx_norm] | refine b_ rfl rfl rfl rfl rfl rfl rfl ?_)
        refine end_ret (res_of rfl ?_ ?_)
        · repeat' (first | exact trivial | rfl | exact Nat.le_of_ble_eq_true rfl | omega | apply And.intro)
        · first | rfl | (simp only [List.map_append, List.map_cons, List.map_nil, List.nil_append] <;> rfl)
      · rw [q_5, cond_false] at hb1
        obtain rfl := Option.some.inj hb1
        repeat' (first | refine p_ rfl rfl rfl rfl rfl ?_ | refine st_nil ?_ | refine x_ rfl rfl rfl rfl rfl rfl rfl rfl ?_ | refine l_ rfl rfl rfl rfl ?_ | refine s_ rfl rfl rfl ?_ | refine t5_ rfl rfl rfl rfl ?_ | refine k_ rfl rfl rfl ?_ | refine k0_ rfl rfl ?_ | refine c_ rfl rfl rfl rfl ?_ | refine pick_t rfl rfl rfl rfl rfl rfl rfl ?_ | refine pick_f rfl rfl rfl rfl rfl rfl rfl ?_ | refine aw_seq ?_ | refine aw_region tab_ok _ rfl ?_ | refine aw_drawn2 tabS_ok _ rfl mixed (by decide +kernel) ?_ | refine aw_condT rfl ?_ | refine aw_condF rfl ?_ | refine aw_block ?_ | refine aw_exit ?_ | refine aw_ret ?_ | refine aw_skip ?_ | rw [List.length_map] | rw [mn_norm] | rw [mx_norm] | refine b_ rfl rfl rfl rfl rfl rfl rfl ?_)
        exact ⟨_, rfl, fits_mk ⟨rfl, rfl, rfl, trivial⟩ [] rfl ⟨trivial, trivial, trivial, trivial⟩ trivial⟩
  · rw [q_2, cond_false] at hb1
    obtain rfl := Option.some.inj hb1
    have hx1 : gPrintableP_K1 (.inl v_1) = some _ := hk1
    unfold gPrintableP_K1 at hx1
    dsimp only at hx1
    obtain rfl := Option.some.inj hx1
    exact go_
def gValidP (a_v : Val) : Option (Bool) := bif (decide (a_v.kind = (0 : Int))) then
  bif (decide (a_v.int = (0 : Int))) then
    some (a_v.text.toList == (⟨#[]⟩ : ByteArray).toList)
  else
    some false
else
  bif (decide (a_v.kind = (1 : Int))) then
    bif (a_v.text.toList == (⟨#[]⟩ : ByteArray).toList) then
      bif (decide ((-1125899906842624 : Int) ≤ a_v.int)) then
        some (decide (a_v.int ≤ (1125899906842624 : Int)))
      else
        some false
    else
      some false
  else
    bif (decide (a_v.kind = (2 : Int))) then
      bif (decide (a_v.int = (0 : Int))) then
        bif (decide (((a_v.text.size : Nat) : Int) ≤ (200 : Int))) then
          (gPrintableP a_v.text).bind fun r_9 => some r_9
        else
          some false
      else
        some false
    else
      bif (decide (a_v.kind = (3 : Int))) then
        bif (a_v.text.toList == (⟨#[]⟩ : ByteArray).toList) then
          bif (decide (a_v.int = (0 : Int))) then
            some true
          else
            some (decide (a_v.int = (1 : Int)))
        else
          some false
      else
        some false
theorem gValidP_ok {a_v : Val} {r : Bool} (H : gValidP a_v = some r) : Pure Tryz.prog 148 [.agg (cV a_v)] (.val (.one (.bool r))) := by
  unfold gValidP at H
  refine pure_of_aw tab_ok Tryz.func148 rfl rfl Tryz.ntmps148 (by simp) ?_
  simp only [argT, PV.av, List.map_cons, List.map_nil]
  rcases Bool.eq_false_or_eq_true (decide (a_v.kind = (0 : Int))) with q_1 | q_1
  · rw [q_1, cond_true] at H
    rcases Bool.eq_false_or_eq_true (decide (a_v.int = (0 : Int))) with q_2 | q_2
    · rw [q_2, cond_true] at H
      obtain rfl := Option.some.inj H
      exact go_
    · rw [q_2, cond_false] at H
      obtain rfl := Option.some.inj H
      exact go_
  · rw [q_1, cond_false] at H
    rcases Bool.eq_false_or_eq_true (decide (a_v.kind = (1 : Int))) with q_3 | q_3
    · rw [q_3, cond_true] at H
      rcases Bool.eq_false_or_eq_true (a_v.text.toList == (⟨#[]⟩ : ByteArray).toList) with q_4 | q_4
      · rw [q_4, cond_true] at H
        rcases Bool.eq_false_or_eq_true (decide ((-1125899906842624 : Int) ≤ a_v.int)) with q_5 | q_5
        · rw [q_5, cond_true] at H
          obtain rfl := Option.some.inj H
          exact go_
        · rw [q_5, cond_false] at H
          obtain rfl := Option.some.inj H
          exact go_
      · rw [q_4, cond_false] at H
        obtain rfl := Option.some.inj H
        exact go_
    · rw [q_3, cond_false] at H
      rcases Bool.eq_false_or_eq_true (decide (a_v.kind = (2 : Int))) with q_6 | q_6
      · rw [q_6, cond_true] at H
        rcases Bool.eq_false_or_eq_true (decide (a_v.int = (0 : Int))) with q_7 | q_7
        · rw [q_7, cond_true] at H
          rcases Bool.eq_false_or_eq_true (decide (((a_v.text.size : Nat) : Int) ≤ (200 : Int))) with q_8 | q_8
          · rw [q_8, cond_true] at H
            obtain ⟨r_9, c1, H⟩ := bind_some H
            replace c1 := gPrintableP_ok c1
            try simp only [List.map_append, List.map_cons, List.map_nil, List.nil_append, tE_eq, tP_eq] at c1
            obtain rfl := Option.some.inj H
            exact go_
          · rw [q_8, cond_false] at H
            obtain rfl := Option.some.inj H
            exact go_
        · rw [q_7, cond_false] at H
          obtain rfl := Option.some.inj H
          exact go_
      · rw [q_6, cond_false] at H
        rcases Bool.eq_false_or_eq_true (decide (a_v.kind = (3 : Int))) with q_10 | q_10
        · rw [q_10, cond_true] at H
          rcases Bool.eq_false_or_eq_true (a_v.text.toList == (⟨#[]⟩ : ByteArray).toList) with q_11 | q_11
          · rw [q_11, cond_true] at H
            rcases Bool.eq_false_or_eq_true (decide (a_v.int = (0 : Int))) with q_12 | q_12
            · rw [q_12, cond_true] at H
              obtain rfl := Option.some.inj H
              exact go_
            · rw [q_12, cond_false] at H
              obtain rfl := Option.some.inj H
              exact go_
          · rw [q_11, cond_false] at H
            obtain rfl := Option.some.inj H
            exact go_
        · rw [q_10, cond_false] at H
          obtain rfl := Option.some.inj H
          exact go_
def gOrNull (a_v : Val) : Option (Val) := (gValidP a_v).bind fun r_1 => bif (!r_1) then
  (gNull ).bind fun r_3 => some r_3
else
  some a_v
theorem gOrNull_ok {a_v : Val} {r : Val} (H : gOrNull a_v = some r) : Pure Tryz.prog 104 [.agg (cV a_v)] (.val (.agg (cV r))) := by
  unfold gOrNull at H
  refine pure_of_aw tab_ok Tryz.func104 rfl rfl Tryz.ntmps104 (by simp) ?_
  simp only [argT, PV.av, List.map_cons, List.map_nil]
  obtain ⟨r_1, c1, H⟩ := bind_some H
  replace c1 := gValidP_ok c1
  try simp only [List.map_append, List.map_cons, List.map_nil, List.nil_append, tE_eq, tP_eq] at c1
  rcases Bool.eq_false_or_eq_true (!r_1) with q_2 | q_2
  · rw [q_2, cond_true] at H
    obtain ⟨r_3, c2, H⟩ := bind_some H
    replace c2 := gNull_ok c2
    try simp only [List.map_append, List.map_cons, List.map_nil, List.nil_append, tE_eq, tP_eq] at c2
    obtain rfl := Option.some.inj H
    exact go_
  · rw [q_2, cond_false] at H
    obtain rfl := Option.some.inj H
    exact go_
def gIntP (a_n : Int) : Option (Val) := (gOrNull (⟨(1 : Int), a_n, ByteArray.empty⟩ : Val)).bind fun r_1 => some r_1
theorem gIntP_ok {a_n : Int} {r : Val} (H : gIntP a_n = some r) : Pure Tryz.prog 79 [.one (.int .i64 a_n)] (.val (.agg (cV r))) := by
  unfold gIntP at H
  refine pure_of_aw tab_ok Tryz.func79 rfl rfl Tryz.ntmps79 (by simp) ?_
  simp only [argT, PV.av, List.map_cons, List.map_nil]
  obtain ⟨r_1, c1, H⟩ := bind_some H
  replace c1 := gOrNull_ok c1
  try simp only [List.map_append, List.map_cons, List.map_nil, List.nil_append, tE_eq, tP_eq] at c1
  obtain rfl := Option.some.inj H
  exact go_
def gExt_B1 (a_l : (List Int)) : ((List Val) × Int) → Option (Step ((List Val) × Int) ((List Val))) := fun s => match s with
  | (out_1, v_2) => bif (decide (v_2 < ((a_l.length : Nat) : Int))) then
    (getI a_l v_2).bind fun x_4 => (gIntP x_4).bind fun r_5 => bif (decide (out_1.length + 1 ≤ 4398046511104)) then (some (.next ((out_1 ++ [r_5]), (IntKind.i64.wrap (v_2 + (1 : Int)))))) else none
  else
    some (.exit (out_1, v_2))
def gExt_K1 : Sum ((List Val) × Int) ((List Val)) → Option (((List Val)))
  | .inl (out_1, v_2) => some out_1
  | .inr q => some q
def gExt (a_row : (List Val)) (a_l : (List Int)) : Option ((List Val)) := bif (decide (a_row.length ≤ 4398046511104)) then ((loopM (gExt_B1 a_l) fuel (a_row, (0 : Int))).bind (gExt_K1)) else none
theorem gExt_ok {a_row : (List Val)} {a_l : (List Int)} {r : (List Val)} (H : gExt a_row a_l = some r) : Pure Tryz.prog 50 [.one (.lst (a_row.map cV)), .one (.lst (a_l.map (fun x => [AC.int .i64 x])))] (.val (.one (.lst (r.map cV)))) := by
  unfold gExt at H
  refine pure_of_aw tab_ok Tryz.func50 rfl rfl Tryz.ntmps50 (by simp) ?_
  simp only [argT, PV.av, List.map_cons, List.map_nil]
  obtain ⟨g1, H⟩ := grd_some H
  replace g1 := of_decide_eq_true g1
  repeat' (first | refine p_ rfl rfl rfl rfl rfl ?_ | refine st_nil ?_ | refine x_ rfl rfl rfl rfl rfl rfl rfl rfl ?_ | refine l_ rfl rfl rfl rfl ?_ | refine s_ rfl rfl rfl ?_ | refine t_ rfl rfl rfl rfl ?_ | refine k_ rfl rfl rfl ?_ | refine k0_ rfl rfl ?_ | refine c_ rfl rfl rfl rfl ?_ | refine pick_t rfl rfl rfl rfl rfl rfl rfl ?_ | refine pick_f rfl rfl rfl rfl rfl rfl rfl ?_ | refine aw_seq ?_ | refine aw_region tab_ok _ rfl ?_ | refine aw_drawn2 tabS_ok _ rfl mixed (by decide +kernel) ?_ | refine aw_condT rfl ?_ | refine aw_condF rfl ?_ | refine aw_block ?_ | refine aw_exit ?_ | refine aw_ret ?_ | refine aw_skip ?_ | rw [List.length_map] | rw [mn_norm] | rw [mx_norm])
  refine aw_loopM (fun s : (List Val) × Int => match s with | (out_1, v_2) => [(5, .one (.own (out_1.map cV) 0)), (11, .one (.c (.lst (a_l.map (fun x => [AC.int .i64 x]))))), (12, .one (.c (.int .i64 ((a_l.length : Nat) : Int)))), (13, .one (.c (.int .i64 v_2)))]) (fun s => match s with | (out_1, v_2) => [.spare out_1.length 3]) H (fun _ => Nat.zero_le _)
    (fits_mk ⟨rfl, rfl, rfl, rfl, trivial⟩ [] rfl ⟨by show 0 < 1; omega, trivial, trivial, trivial, trivial⟩ ⟨trivial, trivial⟩) ?_
  rintro ⟨out_1, v_2⟩ st1 hb1 hk1
  unfold gExt_B1 at hb1
  dsimp only at hb1 ⊢
  rcases Bool.eq_false_or_eq_true (decide (v_2 < ((a_l.length : Nat) : Int))) with q_3 | q_3
  · rw [q_3, cond_true] at hb1
    obtain ⟨x_4, i2, hb1⟩ := bind_some hb1
    obtain ⟨i2z, i2⟩ := getI_some i2
    have i2x := idxI (f := (fun x => [AC.int .i64 x])) i2
    obtain ⟨r_5, c3, hb1⟩ := bind_some hb1
    replace c3 := gIntP_ok c3
    try simp only [List.map_append, List.map_cons, List.map_nil, List.nil_append, tE_eq, tP_eq] at c3
    obtain ⟨g4, hb1⟩ := grd_some hb1
    replace g4 := of_decide_eq_true g4
    obtain rfl := Option.some.inj hb1
    repeat' (first | refine p_ rfl rfl rfl rfl rfl ?_ | refine st_nil ?_ | refine x_ rfl rfl rfl rfl rfl rfl rfl rfl ?_ | refine l_ rfl rfl rfl rfl ?_ | refine s_ rfl rfl rfl ?_ | refine t_ rfl rfl rfl rfl ?_ | refine k_ rfl rfl rfl ?_ | refine k0_ rfl rfl ?_ | refine c_ rfl rfl rfl rfl ?_ | refine pick_t rfl rfl rfl rfl rfl rfl rfl ?_ | refine pick_f rfl rfl rfl rfl rfl rfl rfl ?_ | refine aw_seq ?_ | refine aw_region tab_ok _ rfl ?_ | refine aw_drawn2 tabS_ok _ rfl mixed (by decide +kernel) ?_ | refine aw_condT rfl ?_ | refine aw_condF rfl ?_ | refine aw_block ?_ | refine aw_exit ?_ | refine aw_ret ?_ | refine aw_skip ?_ | rw [List.length_map] | rw [mn_norm] | rw [mx_norm])
    exact ⟨_, rfl, fits_mk ⟨(by simp only [List.map_append, List.map_cons, List.map_nil, List.nil_append] <;> rfl), rfl, rfl, rfl, trivial⟩ [] (by simp only [List.length_append, List.length_cons, List.length_nil, Nat.zero_add, List.map_append, List.map_cons, List.map_nil] <;> rfl) ⟨by show 0 < 1; omega, trivial, trivial, trivial, trivial⟩ ⟨trivial, trivial⟩⟩
  · rw [q_3, cond_false] at hb1
    obtain rfl := Option.some.inj hb1
    have hx1 : gExt_K1 (.inl (out_1, v_2)) = some _ := hk1
    unfold gExt_K1 at hx1
    dsimp only at hx1
    obtain rfl := Option.some.inj hx1
    repeat' (first | refine p_ rfl rfl rfl rfl rfl ?_ | refine st_nil ?_ | refine x_ rfl rfl rfl rfl rfl rfl rfl rfl ?_ | refine l_ rfl rfl rfl rfl ?_ | refine s_ rfl rfl rfl ?_ | refine t_ rfl rfl rfl rfl ?_ | refine k_ rfl rfl rfl ?_ | refine k0_ rfl rfl ?_ | refine c_ rfl rfl rfl rfl ?_ | refine pick_t rfl rfl rfl rfl rfl rfl rfl ?_ | refine pick_f rfl rfl rfl rfl rfl rfl rfl ?_ | refine aw_seq ?_ | refine aw_region tab_ok _ rfl ?_ | refine aw_drawn2 tabS_ok _ rfl mixed (by decide +kernel) ?_ | refine aw_condT rfl ?_ | refine aw_condF rfl ?_ | refine aw_block ?_ | refine aw_exit ?_ | refine aw_ret ?_ | refine aw_skip ?_ | rw [List.length_map] | rw [mn_norm] | rw [mx_norm])
    refine end_ret (res_of rfl ?_ ?_)
    · repeat' (first | exact trivial | rfl | exact Nat.le_of_ble_eq_true rfl | omega | apply And.intro)
    · first | rfl | (simp only [List.map_append, List.map_cons, List.map_nil, List.nil_append] <;> rfl)
end Go.Proofs.YtnbnpnmkgemdeaaGreatDoor

namespace Go.Proofs.YtnbnpnmkgemdeaaGreatDoor
open Go.RowKit Go.MapKept
set_option linter.unusedVariables false
set_option linter.unusedSimpArgs false
structure TotC {α : Type} (c : α → α → Int) : Prop where
  refl : ∀ a, c a a = 0
  zero : ∀ a b, c a b = 0 → a = b
  anti : ∀ a b, c a b < 0 ↔ 0 < c b a
  trans : ∀ a b d, c a b < 0 → c b d < 0 → c a d < 0
theorem totC_icmp : TotC icmp := by
  refine ⟨fun a => by simp [icmp], fun a b h => ?_, fun a b => ?_, fun a b d h1 h2 => ?_⟩
  · unfold icmp at h; split at h
    · omega
    · split at h <;> omega
  · unfold icmp; split <;> split <;> (try split) <;> omega
  · unfold icmp at *
    split at h1
    · split at h2
      · rw [if_pos (by omega)]; omega
      · split at h2 <;> omega
    · split at h1 <;> omega
/-- Lists, by their first difference. -/
def lexC {α : Type} (c : α → α → Int) : List α → List α → Int
  | [], [] => 0
  | [], _ :: _ => -1
  | _ :: _, [] => 1
  | a :: xs, b :: ys => if c a b ≠ 0 then c a b else lexC c xs ys
theorem totC_lex {α : Type} {c : α → α → Int} (h : TotC c) : TotC (lexC c) := by
  refine ⟨?_, ?_, ?_, ?_⟩
  · intro a
    induction a with
    | nil => rfl
    | cons x a ih => simp [lexC, h.refl x, ih]
  · intro a
    induction a with
    | nil => intro b hb; cases b with
      | nil => rfl
      | cons _ _ => simp [lexC] at hb
    | cons x a ih =>
      intro b hb
      cases b with
      | nil => simp [lexC] at hb
      | cons y b =>
        unfold lexC at hb
        split at hb
        · rename_i h0; exact absurd hb h0
        · rename_i h0
          have := h.zero x y (by simpa using h0)
          subst this
          rw [ih b hb]
  · intro a
    induction a with
    | nil => intro b; cases b with
      | nil => simp [lexC]
      | cons _ _ => simp [lexC]
    | cons x a ih =>
      intro b
      cases b with
      | nil => simp [lexC]
      | cons y b =>
        unfold lexC
        by_cases h0 : c x y = 0
        · have := h.zero x y h0
          subst this
          simp only [h.refl, ne_eq, not_true_eq_false, if_false]
          exact ih b
        · have h1 : c y x ≠ 0 := fun e => h0 (by rw [h.zero y x e]; exact h.refl x)
          rw [if_pos h0, if_pos h1]
          exact h.anti x y
  · intro a
    induction a with
    | nil =>
      intro b d h1 h2
      cases b with
      | nil => simp [lexC] at h1
      | cons y b => cases d with
        | nil => simp [lexC] at h2
        | cons _ _ => simp [lexC]
    | cons x a ih =>
      intro b d h1 h2
      cases b with
      | nil => simp [lexC] at h1
      | cons y b =>
        cases d with
        | nil => simp [lexC] at h2
        | cons z d =>
          unfold lexC at h1 h2 ⊢
          by_cases e1 : c x y = 0
          · have := h.zero x y e1
            subst this
            rw [if_neg (by simpa using e1)] at h1
            by_cases e2 : c x z = 0
            · rw [if_neg (by simpa using e2)] at h2 ⊢
              exact ih b d h1 h2
            · rw [if_pos e2] at h2 ⊢
              exact h2
          · rw [if_pos e1] at h1
            by_cases e2 : c y z = 0
            · have := h.zero y z e2
              subst this
              rw [if_pos e1]; exact h1
            · rw [if_pos e2] at h2
              have := h.trans x y z h1 h2
              rw [if_pos (by omega)]; exact this
theorem rcmp_lex : ∀ a b : List Val, rcmp a b = lexC vcmp a b
  | [], [] => rfl
  | [], _ :: _ => rfl
  | _ :: _, [] => rfl
  | a :: xs, b :: ys => by rw [rcmp, lexC, rcmp_lex xs ys]
def bcmp (x y : UInt8) : Int := if x < y then -1 else if y < x then 1 else 0
theorem totC_bcmp : TotC bcmp := by
  have key : ∀ x y : UInt8, bcmp x y = icmp ((x.toNat : Nat) : Int) ((y.toNat : Nat) : Int) := by
    intro x y
    unfold bcmp icmp
    simp only [UInt8.lt_iff_toNat_lt, Int.ofNat_lt]
  refine ⟨fun a => by rw [key]; exact totC_icmp.refl _, fun a b h => ?_, fun a b => by rw [key, key]; exact totC_icmp.anti _ _, fun a b d h1 h2 => by rw [key] at *; exact totC_icmp.trans _ _ _ h1 h2⟩
  rw [key] at h
  have := totC_icmp.zero _ _ h
  exact UInt8.toNat_inj.1 (by omega)
theorem compare_lex : ∀ a b : List UInt8, Lib.compareBytes a b = lexC bcmp a b
  | [], [] => rfl
  | [], _ :: _ => rfl
  | _ :: _, [] => rfl
  | x :: a, y :: b => by
    have e : lexC bcmp (x :: a) (y :: b) = if bcmp x y ≠ 0 then bcmp x y else lexC bcmp a b := rfl
    rw [e, ← compare_lex a b]
    have e2 : Lib.compareBytes (x :: a) (y :: b) = if x < y then -1 else if y < x then 1 else Lib.compareBytes a b := by rw [Lib.compareBytes]
    rw [e2]
    by_cases h1 : x < y
    · simp [h1, bcmp]
    · by_cases h2 : y < x
      · simp [h1, h2, bcmp]
      · simp [h1, h2, bcmp]
theorem totC_scmp : TotC scmp := by
  have key : ∀ a b : ByteArray, scmp a b = lexC bcmp a.data.toList b.data.toList := by
    intro a b
    unfold scmp
    rw [Lib.cmp_eq, compare_lex]
  have t := totC_lex totC_bcmp
  refine ⟨fun a => by rw [key]; exact t.refl _, fun a b h => ?_, fun a b => by rw [key, key]; exact t.anti _ _, fun a b d h1 h2 => by rw [key] at *; exact t.trans _ _ _ h1 h2⟩
  rw [key] at h
  have := t.zero _ _ h
  obtain ⟨⟨a⟩⟩ := a
  obtain ⟨⟨b⟩⟩ := b
  simp at this
  rw [this]
theorem totC_vcmp : TotC vcmp := by
  refine ⟨?_, ?_, ?_, ?_⟩
  · intro a; simp [vcmp, totC_icmp.refl, totC_scmp.refl]
  · intro a b h
    obtain ⟨k, n, t⟩ := a
    obtain ⟨k', n', t'⟩ := b
    unfold vcmp at h
    dsimp only at h
    split at h
    · rename_i e; exact absurd h e
    · rename_i e1
      split at h
      · rename_i e; exact absurd h e
      · rename_i e2
        have k1 := totC_icmp.zero _ _ (show icmp k k' = 0 by simpa using e1)
        have k2 := totC_icmp.zero _ _ (show icmp n n' = 0 by simpa using e2)
        have k3 := totC_scmp.zero _ _ h
        subst k1 k2 k3; rfl
  · intro a b
    unfold vcmp
    by_cases e1 : icmp a.kind b.kind = 0
    · have k := totC_icmp.zero _ _ e1
      rw [k]
      simp only [totC_icmp.refl, ne_eq, not_true_eq_false, if_false]
      by_cases e2 : icmp a.int b.int = 0
      · have k2 := totC_icmp.zero _ _ e2
        rw [k2]
        simp only [totC_icmp.refl, ne_eq, not_true_eq_false, if_false]
        exact totC_scmp.anti _ _
      · have e2' : icmp b.int a.int ≠ 0 := fun e => e2 (by rw [totC_icmp.zero _ _ e]; exact totC_icmp.refl _)
        rw [if_pos e2, if_pos e2']
        exact totC_icmp.anti _ _
    · have e1' : icmp b.kind a.kind ≠ 0 := fun e => e1 (by rw [totC_icmp.zero _ _ e]; exact totC_icmp.refl _)
      rw [if_pos e1, if_pos e1']
      exact totC_icmp.anti _ _
  · intro a b d h1 h2
    unfold vcmp at *
    by_cases e1 : icmp a.kind b.kind = 0
    · have k := totC_icmp.zero _ _ e1
      rw [k] at h1 ⊢
      simp only [totC_icmp.refl, ne_eq, not_true_eq_false, if_false] at h1
      by_cases f1 : icmp b.kind d.kind = 0
      · rw [if_neg (by simpa using f1)] at h2 ⊢
        by_cases e2 : icmp a.int b.int = 0
        · have k2 := totC_icmp.zero _ _ e2
          rw [k2] at h1 ⊢
          simp only [totC_icmp.refl, ne_eq, not_true_eq_false, if_false] at h1
          by_cases f2 : icmp b.int d.int = 0
          · rw [if_neg (by simpa using f2)] at h2 ⊢
            exact totC_scmp.trans _ _ _ h1 h2
          · rw [if_pos f2] at h2 ⊢; exact h2
        · rw [if_pos e2] at h1
          by_cases f2 : icmp b.int d.int = 0
          · have k2 := totC_icmp.zero _ _ f2
            rw [← k2, if_pos e2]; exact h1
          · rw [if_pos f2] at h2
            have := totC_icmp.trans _ _ _ h1 h2
            rw [if_pos (by omega)]; exact this
      · rw [if_pos f1] at h2 ⊢; exact h2
    · rw [if_pos e1] at h1
      by_cases f1 : icmp b.kind d.kind = 0
      · have k := totC_icmp.zero _ _ f1
        rw [← k, if_pos e1]; exact h1
      · rw [if_pos f1] at h2
        have := totC_icmp.trans _ _ _ h1 h2
        rw [if_pos (by omega)]; exact this
theorem totC_rcmp : TotC rcmp := by
  have t := totC_lex totC_vcmp
  exact ⟨fun a => by rw [rcmp_lex]; exact t.refl _, fun a b h => t.zero _ _ (by rw [← rcmp_lex]; exact h), fun a b => by rw [rcmp_lex, rcmp_lex]; exact t.anti _ _, fun a b d h1 h2 => by rw [rcmp_lex] at *; exact t.trans _ _ _ h1 h2⟩
/-! ### lists in order -/
section
variable {α : Type} {c : α → α → Int}
def Asc (c : α → α → Int) (l : List α) : Prop := l.Pairwise fun a b => c a b ≤ 0
theorem TotC.le_trans (h : TotC c) {a b d : α} (h1 : c a b ≤ 0) (h2 : c b d ≤ 0) : c a d ≤ 0 := by
  by_cases e1 : c a b = 0
  · rw [h.zero a b e1]; exact h2
  · by_cases e2 : c b d = 0
    · rw [← h.zero b d e2]; exact h1
    · have := h.trans a b d (by omega) (by omega); omega
theorem TotC.total (h : TotC c) (a b : α) : c a b ≤ 0 ∨ c b a ≤ 0 := by
  by_cases e : c a b ≤ 0
  · exact .inl e
  · have := (h.anti b a).2 (by omega); exact .inr (by omega)
/-- Two lists in order with the same elements are the same. -/
theorem asc_unique (h : TotC c) : ∀ {l m : List α}, Asc c l → Asc c m → l.Perm m → l = m
  | [], m, _, _, hp => by rw [List.Perm.nil_eq hp]
  | x :: l, [], _, _, hp => by have := hp.length_eq; simp at this
  | x :: l, y :: m, hl, hm, hp => by
    have hx : x ∈ y :: m := hp.mem_iff.1 (List.mem_cons_self ..)
    have hy : y ∈ x :: l := hp.mem_iff.2 (List.mem_cons_self ..)
    rw [Asc, List.pairwise_cons] at hl hm
    have e : x = y := by
      rcases List.mem_cons.1 hx with e | hx
      · exact e
      · rcases List.mem_cons.1 hy with e | hy
        · exact e.symm
        · have h1 := hm.1 x hx
          have h2 := hl.1 y hy
          by_cases e0 : c x y = 0
          · exact h.zero _ _ e0
          · have := (h.anti x y).1 (by omega); omega
    subst e
    rw [asc_unique h hl.2 hm.2 (List.Perm.cons_inv hp)]
end
end Go.Proofs.YtnbnpnmkgemdeaaGreatDoor

namespace Go.Proofs.YtnbnpnmkgemdeaaGreatDoor
open Go.RowKit Go.MapKept
set_option maxRecDepth 100000
set_option linter.unusedVariables false
set_option linter.unusedSimpArgs false
theorem gICmp_eq (x y : Int) : gICmp x y = some (icmp x y) := by
  unfold gICmp gIsNaN icmp
  by_cases h1 : x < y
  · simp [h1]
  · by_cases h2 : y < x
    · simp [h1, h2]
    · simp [h1, h2]
def orS (_ : Unit) (x : Int) : Option (Sum Unit Int) := if x ≠ 0 then some (.inr x) else some (.inl ())
theorem gOr3 (a b c : Int) : gOr [a, b, c] = some (if a ≠ 0 then a else if b ≠ 0 then b else c) := by
  unfold gOr
  rw [loop_list (l := [a, b, c]) (mk := fun (_ : Unit) i => i) (f := orS) ?_ ?_ (by unfold fuel; simp) ()]
  · unfold orS
    by_cases h1 : a = 0
    · by_cases h2 : b = 0
      · by_cases h3 : c = 0
        · simp [foldS, foldR, gOr_K1, h1, h2, h3]
        · simp [foldS, foldR, gOr_K1, h1, h2, h3]
      · simp [foldS, foldR, gOr_K1, h1, h2]
    · simp [foldS, foldR, gOr_K1, h1]
  · intro s i x hx
    have hi : i < 3 := (List.getElem?_eq_some_iff.1 hx).1
    unfold gOr_B1 orS
    dsimp only
    rw [lt_dec hx, cond_true, getI_nat hx]
    simp only [Option.bind_some]
    rw [wrapN (by omega)]
    by_cases h : x = 0
    · simp [h, foldN]
    · simp [h, foldN]
  · intro s
    unfold gOr_B1
    dsimp only
    rw [lt_decF, cond_false]
theorem gVCmp_eq (v w : Val) : gVCmp v w = some (vcmp v w) := by
  unfold gVCmp
  rw [gICmp_eq, gICmp_eq]
  simp only [Option.bind_some]
  rw [gOr3]
  rfl
theorem rcmp_nil : ∀ (b : List Val), rcmp [] b = if b = [] then 0 else -1
  | [] => rfl
  | _ :: _ => rfl
theorem gCmpFn_at {a b : List Val} (ha : a.length ≤ 4000000000000) (hb : b.length ≤ 4000000000000) : ∀ (n i : Nat), i ≤ a.length → i ≤ b.length → a.length - i < n → (loopM (gCmpFn_B1 a b fun x0 x1 => gVCmp x0 x1) n (i : Int)).bind (gCmpFn_K1 a b) = some (rcmp (a.drop i) (b.drop i))
  | 0, _, _, _, h => by omega
  | n + 1, i, h1, h2, hn => by
    rw [loopM]
    by_cases hlt : i < a.length
    · obtain ⟨x, hx⟩ := get_of_lt hlt
      have ex := (List.getElem?_eq_some_iff.1 hx).2
      have eb : gCmpFn_B1 a b (fun x0 x1 => gVCmp x0 x1) (i : Int) = bif (decide (((b.length : Nat) : Int) ≤ (i : Int))) then some (.ret (1 : Int)) else (getI b (i : Int)).bind fun x_5 => (gVCmp x x_5).bind fun r_6 => bif (decide (r_6 ≠ (0 : Int))) then some (.ret r_6) else some (.next (IntKind.i64.wrap ((i : Int) + (1 : Int)))) := by
        unfold gCmpFn_B1
        dsimp only
        rw [lt_dec hx, cond_true, getI_nat hx]
        rfl
      rw [eb, List.drop_eq_getElem_cons hlt, ex]
      by_cases hlb : i < b.length
      · obtain ⟨y, hy⟩ := get_of_lt hlb
        have ey := (List.getElem?_eq_some_iff.1 hy).2
        rw [List.drop_eq_getElem_cons hlb, ey, show decide (((b.length : Nat) : Int) ≤ (i : Int)) = false from decide_eq_false (by omega), cond_false, getI_nat hy, rcmp]
        simp only [Option.bind_some, gVCmp_eq]
        by_cases h : vcmp x y = 0
        · simp only [h, ne_eq, not_true_eq_false, decide_false, cond_false, if_false]
          rw [wrapN (by omega)]
          have k := gCmpFn_at ha hb n (i + 1) (by omega) (by omega) (by omega)
          simp only [gVCmp_eq] at k
          exact k
        · simp [h, gCmpFn_K1]
      · have : i = b.length := by omega
        subst this
        rw [List.drop_length, show decide (((b.length : Nat) : Int) ≤ ((b.length : Nat) : Int)) = true from decide_eq_true (by omega), cond_true]
        rfl
    · have : i = a.length := by omega
      subst this
      have eb : gCmpFn_B1 a b (fun x0 x1 => gVCmp x0 x1) ((a.length : Nat) : Int) = some (.exit ((a.length : Nat) : Int)) := by
        unfold gCmpFn_B1
        dsimp only
        rw [lt_decF, cond_false]
      rw [eb, List.drop_length, rcmp_nil]
      show gCmpFn_K1 a b (.inl ((a.length : Nat) : Int)) = _
      unfold gCmpFn_K1
      by_cases h : a.length < b.length
      · rw [show decide (((a.length : Nat) : Int) < ((b.length : Nat) : Int)) = true from decide_eq_true (by omega), cond_true, if_neg (by rw [List.drop_eq_nil_iff]; omega)]
      · rw [show decide (((a.length : Nat) : Int) < ((b.length : Nat) : Int)) = false from decide_eq_false (by omega), cond_false, if_pos (by rw [List.drop_eq_nil_iff]; omega)]
theorem gTCmp_eq (a b : List Val) (ha : a.length ≤ 4000000000000) (hb : b.length ≤ 4000000000000) : gTCmp a b = some (rcmp a b) := by
  unfold gTCmp gCmpFn
  have := gCmpFn_at ha hb fuel 0 (Nat.zero_le _) (Nat.zero_le _) (by unfold fuel; omega)
  rw [show (((0 : Nat) : Int)) = 0 from rfl] at this
  rw [this]; rfl
theorem bytesLess_eq : ∀ a b : List UInt8, Op.bytesLess a b = decide (Lib.compareBytes a b < 0) ∧ (a == b) = decide (Lib.compareBytes a b = 0)
  | [], [] => ⟨rfl, rfl⟩
  | [], _ :: _ => ⟨rfl, rfl⟩
  | _ :: _, [] => ⟨rfl, rfl⟩
  | x :: a, y :: b => by
    have e2 : Lib.compareBytes (x :: a) (y :: b) = if x < y then -1 else if y < x then 1 else Lib.compareBytes a b := by rw [Lib.compareBytes]
    have e3 : Op.bytesLess (x :: a) (y :: b) = (decide (x < y) || (x == y && Op.bytesLess a b)) := by rw [Op.bytesLess]
    obtain ⟨i1, i2⟩ := bytesLess_eq a b
    rw [e2, e3, List.cons_beq_cons, i1, i2]
    by_cases h1 : x < y
    · have hne : x ≠ y := fun e => by rw [e] at h1; exact absurd h1 (UInt8.lt_irrefl y)
      simp [h1, hne]
    · by_cases h2 : y < x
      · have hne : x ≠ y := fun e => by rw [e] at h2; exact absurd h2 (UInt8.lt_irrefl y)
        simp [h1, h2, hne]
      · have heq : x = y := UInt8.le_antisymm (UInt8.not_lt.1 h2) (UInt8.not_lt.1 h1)
        subst heq
        simp [h1]
theorem less_scmp (a b : ByteArray) : Op.bytesLess a.toList b.toList = decide (scmp a b < 0) := by
  unfold scmp
  rw [Lib.cmp_eq, ByteArray.toList_eq, ByteArray.toList_eq]; exact (bytesLess_eq _ _).1
theorem eq_scmp (a b : ByteArray) : (a.toList == b.toList) = decide (scmp a b = 0) := by
  unfold scmp
  rw [Lib.cmp_eq, ByteArray.toList_eq, ByteArray.toList_eq]; exact (bytesLess_eq _ _).2
theorem compareBytes_range : ∀ a b : List UInt8, Lib.compareBytes a b = -1 ∨ Lib.compareBytes a b = 0 ∨ Lib.compareBytes a b = 1
  | [], [] => .inr (.inl rfl)
  | [], _ :: _ => .inl rfl
  | _ :: _, [] => .inr (.inr rfl)
  | x :: a, y :: b => by
    have e2 : Lib.compareBytes (x :: a) (y :: b) = if x < y then -1 else if y < x then 1 else Lib.compareBytes a b := by rw [Lib.compareBytes]
    rw [e2]
    split
    · exact .inl rfl
    · split
      · exact .inr (.inr rfl)
      · exact compareBytes_range a b
theorem gCmp7_eq (v w : Val) : gCmp7 v w = some (vcmp v w) := by
  unfold gCmp7 vcmp gSign
  rw [less_scmp, eq_scmp]
  have hr : scmp v.text w.text = -1 ∨ scmp v.text w.text = 0 ∨ scmp v.text w.text = 1 := by unfold scmp; rw [Lib.cmp_eq]; exact compareBytes_range _ _
  by_cases h1 : v.kind = w.kind
  · have e1 : icmp v.kind w.kind = 0 := by rw [h1]; exact totC_icmp.refl _
    by_cases h2 : v.int = w.int
    · have e2 : icmp v.int w.int = 0 := by rw [h2]; exact totC_icmp.refl _
      rw [e1, e2]
      simp only [h1, h2, ne_eq, not_true_eq_false, decide_false, cond_false, if_false]
      rcases hr with h | h | h <;> rw [h] <;> rfl
    · have e2 : icmp v.int w.int ≠ 0 := fun e => h2 (totC_icmp.zero _ _ e)
      rw [e1]
      simp only [h1, h2, e2, ne_eq, not_true_eq_false, not_false_eq_true, decide_false, decide_true, cond_false, cond_true, if_false, if_true]
      unfold icmp
      by_cases h3 : v.int < w.int
      · simp [h3]
      · have : w.int < v.int := by omega
        simp [h3, this]
  · have e1 : icmp v.kind w.kind ≠ 0 := fun e => h1 (totC_icmp.zero _ _ e)
    simp only [h1, e1, ne_eq, not_true_eq_false, not_false_eq_true, decide_false, decide_true, cond_false, cond_true, if_false, if_true]
    unfold icmp
    by_cases h3 : v.kind < w.kind
    · simp [h3]
    · have : w.kind < v.kind := by omega
      simp [h3, this]
theorem gCmp8_at {a b : List Val} (ha : a.length ≤ 4000000000000) (hb : b.length ≤ 4000000000000) : ∀ (n i : Nat), i ≤ a.length → i ≤ b.length → a.length - i < n → (loopM (gCmp8_B1 a b) n (i : Int)).bind (gCmp8_K1 a b) = some (rcmp (a.drop i) (b.drop i))
  | 0, _, _, _, h => by omega
  | n + 1, i, h1, h2, hn => by
    rw [loopM]
    by_cases hlt : i < a.length
    · obtain ⟨x, hx⟩ := get_of_lt hlt
      have ex := (List.getElem?_eq_some_iff.1 hx).2
      rw [List.drop_eq_getElem_cons hlt, ex]
      by_cases hlb : i < b.length
      · obtain ⟨y, hy⟩ := get_of_lt hlb
        have ey := (List.getElem?_eq_some_iff.1 hy).2
        have eb : gCmp8_B1 a b (i : Int) = bif (decide (vcmp x y ≠ (0 : Int))) then some (.ret (vcmp x y)) else some (.next (IntKind.i64.wrap ((i : Int) + (1 : Int)))) := by
          unfold gCmp8_B1
          dsimp only
          rw [lt_dec hx, cond_true, lt_dec hy, cond_true, getI_nat hx, getI_nat hy]
          simp only [Option.bind_some, gCmp7_eq]
        rw [eb, List.drop_eq_getElem_cons hlb, ey, rcmp]
        by_cases h : vcmp x y = 0
        · simp only [h, ne_eq, not_true_eq_false, decide_false, cond_false, if_false]
          rw [wrapN (by omega)]
          exact gCmp8_at ha hb n (i + 1) (by omega) (by omega) (by omega)
        · simp [h, gCmp8_K1]
      · have : i = b.length := by omega
        subst this
        have eb : gCmp8_B1 a b ((b.length : Nat) : Int) = some (.exit ((b.length : Nat) : Int)) := by
          unfold gCmp8_B1
          dsimp only
          rw [lt_dec hx, cond_true, lt_decF, cond_false]
        rw [eb, List.drop_length]
        show gCmp8_K1 a b (.inl ((b.length : Nat) : Int)) = _
        unfold gCmp8_K1
        rw [show decide (((a.length : Nat) : Int) < ((b.length : Nat) : Int)) = false from decide_eq_false (by omega), cond_false, show decide (((b.length : Nat) : Int) < ((a.length : Nat) : Int)) = true from decide_eq_true (by omega), cond_true]
        rfl
    · have : i = a.length := by omega
      subst this
      have eb : gCmp8_B1 a b ((a.length : Nat) : Int) = some (.exit ((a.length : Nat) : Int)) := by
        unfold gCmp8_B1
        dsimp only
        rw [lt_decF, cond_false]
      rw [eb, List.drop_length, rcmp_nil]
      show gCmp8_K1 a b (.inl ((a.length : Nat) : Int)) = _
      unfold gCmp8_K1
      by_cases h : a.length < b.length
      · rw [show decide (((a.length : Nat) : Int) < ((b.length : Nat) : Int)) = true from decide_eq_true (by omega), cond_true, if_neg (by rw [List.drop_eq_nil_iff]; omega)]
      · rw [show decide (((a.length : Nat) : Int) < ((b.length : Nat) : Int)) = false from decide_eq_false (by omega), cond_false, show decide (((b.length : Nat) : Int) < ((a.length : Nat) : Int)) = false from decide_eq_false (by omega), cond_false, if_pos (by rw [List.drop_eq_nil_iff]; omega)]
theorem gCmp8_eq (a b : List Val) (ha : a.length ≤ 4000000000000) (hb : b.length ≤ 4000000000000) : gCmp8 a b = some (rcmp a b) := by
  unfold gCmp8
  have := gCmp8_at ha hb fuel 0 (Nat.zero_le _) (Nat.zero_le _) (by unfold fuel; omega)
  rw [show (((0 : Nat) : Int)) = 0 from rfl] at this
  rw [this]; rfl
end Go.Proofs.YtnbnpnmkgemdeaaGreatDoor

namespace Go.Proofs.YtnbnpnmkgemdeaaGreatDoor
open Go.RowKit Go.MapKept
set_option maxRecDepth 100000
set_option linter.unusedVariables false
set_option linter.unusedSimpArgs false
def posV (B : List (List Val)) (x : List Val) : Nat → Nat
  | 0 => 0
  | j + 1 => match B[j]? with
    | some y => if rcmp x y < 0 then posV B x j else j + 1
    | none => j + 1
def insV (B : List (List Val)) (x : List Val) : List (List Val) := B.take (posV B x B.length) ++ x :: B.drop (posV B x B.length)
def sortV (l : List (List Val)) : List (List Val) := l.foldl insV []
theorem posV_spec (B : List (List Val)) (x : List Val) : ∀ j, j ≤ B.length → posV B x j ≤ j ∧ (∀ i y, posV B x j ≤ i → i < j → B[i]? = some y → rcmp x y < 0) ∧ (∀ q, posV B x j = q + 1 → ∃ y, B[q]? = some y ∧ ¬ rcmp x y < 0)
  | 0, _ => ⟨Nat.le_refl _, fun i y _ h => by omega, fun q h => by simp [posV] at h⟩
  | j + 1, hj => by
    obtain ⟨y, hy⟩ := get_of_lt (show j < B.length by omega)
    have e : posV B x (j + 1) = if rcmp x y < 0 then posV B x j else j + 1 := by rw [posV, hy]
    rw [e]
    by_cases h : rcmp x y < 0
    · rw [if_pos h]
      obtain ⟨h1, h2, h3⟩ := posV_spec B x j (by omega)
      refine ⟨by omega, fun i z hi hij hz => ?_, h3⟩
      by_cases hij' : i < j
      · exact h2 i z hi hij' hz
      · have : i = j := by omega
        subst this
        rw [hy] at hz
        obtain rfl := Option.some.inj hz
        exact h
    · rw [if_neg h]
      refine ⟨Nat.le_refl _, fun i z hi hij => by omega, fun q hq => ?_⟩
      obtain rfl : j = q := by omega
      exact ⟨y, hy, h⟩
theorem insV_perm (B : List (List Val)) (x : List Val) : (insV B x).Perm (x :: B) := by
  unfold insV
  refine List.perm_middle.trans ?_
  rw [List.take_append_drop]
theorem insV_asc {B : List (List Val)} (x : List Val) (h : Asc rcmp B) : Asc rcmp (insV B x) := by
  obtain ⟨h1, h2, h3⟩ := posV_spec B x B.length (Nat.le_refl _)
  unfold insV
  generalize posV B x B.length = p at h1 h2 h3
  have hB : Asc rcmp (B.take p ++ B.drop p) := by rw [List.take_append_drop]; exact h
  obtain ⟨ht, hd, hc⟩ := List.pairwise_append.1 hB
  have hx : ∀ b ∈ B.drop p, rcmp x b ≤ 0 := by
    intro b hb
    obtain ⟨i, hi⟩ := List.getElem?_of_mem hb
    rw [List.getElem?_drop] at hi
    have := h2 (p + i) b (by omega) (List.getElem?_eq_some_iff.1 hi).1 hi
    omega
  have hl : ∀ a ∈ B.take p, rcmp a x ≤ 0 := by
    intro a ha
    cases p with
    | zero => simp at ha
    | succ q =>
      obtain ⟨y, hy, hn⟩ := h3 q rfl
      have hyx : rcmp y x ≤ 0 := by
        have := totC_rcmp.anti x y
        have := totC_rcmp.anti y x
        omega
      have hq : q < B.length := (List.getElem?_eq_some_iff.1 hy).1
      have ey := (List.getElem?_eq_some_iff.1 hy).2
      rw [List.take_succ_eq_append_getElem hq, ey] at ha ht
      rcases List.mem_append.1 ha with ha | ha
      · exact totC_rcmp.le_trans ((List.pairwise_append.1 ht).2.2 a ha y (by simp)) hyx
      · obtain rfl : a = y := by simpa using ha
        exact hyx
  refine List.pairwise_append.2 ⟨ht, List.pairwise_cons.2 ⟨hx, hd⟩, fun a ha b hb => ?_⟩
  rcases List.mem_cons.1 hb with rfl | hb
  · exact hl a ha
  · exact hc a ha b hb
theorem foldl_ins : ∀ (l B : List (List Val)), Asc rcmp B → Asc rcmp (l.foldl insV B) ∧ (l.foldl insV B).Perm (l ++ B)
  | [], B, h => ⟨h, List.Perm.refl _⟩
  | x :: l, B, h => by
    obtain ⟨h1, h2⟩ := foldl_ins l (insV B x) (insV_asc x h)
    refine ⟨h1, h2.trans ?_⟩
    refine ((insV_perm B x).append_left l).trans ?_
    exact List.perm_middle
theorem sortV_asc (l : List (List Val)) : Asc rcmp (sortV l) := (foldl_ins l [] List.Pairwise.nil).1
theorem sortV_perm (l : List (List Val)) : (sortV l).Perm l := by
  have := (foldl_ins l [] List.Pairwise.nil).2
  rwa [List.append_nil] at this
theorem sortV_unique {l r : List (List Val)} (h1 : Asc rcmp r) (h2 : r.Perm l) : sortV l = r := asc_unique totC_rcmp (sortV_asc l) h1 ((sortV_perm l).trans h2.symm)
/-! ### folds that push -/
def push {α β ρ : Type} (g : α → β) (N : Nat) (s : List β) (x : α) : Option (Sum (List β) ρ) := bif decide (s.length + 1 ≤ N) then some (.inl (s ++ [g x])) else none
theorem fold_push {α β ρ : Type} (g : α → β) (N : Nat) : ∀ (l : List α) (s : List β), s.length + l.length ≤ N → foldS (ρ := ρ) (push g N) s l = some (.inl (s ++ l.map g))
  | [], s, _ => by simp [foldS]
  | x :: l, s, h => by
    have h' : s.length + (l.length + 1) ≤ N := by simpa using h
    have e : push (ρ := ρ) g N s x = some (.inl (s ++ [g x])) := by unfold push; rw [show decide (s.length + 1 ≤ N) = true from decide_eq_true (by omega)]; rfl
    rw [foldS, e]
    have := fold_push (ρ := ρ) g N l (s ++ [g x]) (by simp; omega)
    simpa using this
/-- A fold that never fails. -/
theorem fold_ex {α σ ρ : Type} {f : σ → α → Option (Sum σ ρ)} : ∀ (l : List α) (s : σ), (∀ s x, x ∈ l → ∃ r, f s x = some r) → ∃ r, foldS f s l = some r
  | [], s, _ => ⟨_, rfl⟩
  | x :: l, s, h => by
    obtain ⟨r, hr⟩ := h s x (List.mem_cons_self ..)
    rw [foldS, hr]
    cases r with
    | inl s' => exact fold_ex l s' fun s y hy => h s y (List.mem_cons_of_mem _ hy)
    | inr r => exact ⟨_, rfl⟩
end Go.Proofs.YtnbnpnmkgemdeaaGreatDoor

namespace Go.Proofs.YtnbnpnmkgemdeaaGreatDoor
open Go.RowKit Go.MapKept
set_option maxRecDepth 100000
set_option linter.unusedVariables false
set_option linter.unusedSimpArgs false
theorem gBefore_nil (x y : List Val) (hx : x.length ≤ 1000000) (hy : y.length ≤ 1000000) : gBefore x y [] = some (decide (rcmp x y < 0)) := by
  unfold gBefore
  rw [loop_list (l := ([] : List Ord)) (mk := fun (_ : Unit) i => i) (f := fun (_ : Unit) (_ : Ord) => (none : Option (Sum Unit Bool))) ?_ ?_ (by unfold fuel; simp) ()]
  · show gBefore_K1 x y (.inl ((([] : List Ord).length : Nat) : Int)) = _
    unfold gBefore_K1
    rw [gCmp8_eq x y (by omega) (by omega)]; rfl
  · intro s i x hx; simp at hx
  · intro s
    unfold gBefore_B1
    dsimp only
    rw [lt_decF, cond_false]
def leV (x y : List Val) : Bool := !decide (rcmp y x < 0)
theorem leV_iff (x y : List Val) : leV x y = true ↔ rcmp x y ≤ 0 := by
  unfold leV
  have := totC_rcmp.anti x y
  have := totC_rcmp.anti y x
  simp
  omega
theorem gMerged_at {a b : List (List Val)} (ha : a.length ≤ 1000000) (hb : b.length ≤ 1000000) (hra : ∀ r ∈ a, r.length ≤ 1000000) (hrb : ∀ r ∈ b, r.length ≤ 1000000) : ∀ (n i k : Nat) (out : List (List Val)), i ≤ a.length → k ≤ b.length → out.length = i + k → (a.length - i) + (b.length - k) < n → (loopM (gMerged_B1 a b []) n (out, (i : Int), (k : Int))).bind gMerged_K1 = some (out ++ List.merge (a.drop i) (b.drop k) leV)
  | 0, _, _, _, _, _, _, h => by omega
  | n + 1, i, k, out, h1, h2, ho, hn => by
    have hg : decide (out.length + 1 ≤ 5864062014805) = true := decide_eq_true (by omega)
    rw [loopM]
    by_cases hlt : i < a.length
    · obtain ⟨x, hx⟩ := get_of_lt hlt
      have ex := (List.getElem?_eq_some_iff.1 hx).2
      have hne : decide ((i : Int) = ((a.length : Nat) : Int)) = false := decide_eq_false (by omega)
      have ihA := gMerged_at ha hb hra hrb n (i + 1) k (out ++ [x]) (by omega) (by omega) (by simp; omega) (by omega)
      by_cases hlb : k < b.length
      · obtain ⟨y, hy⟩ := get_of_lt hlb
        have ey := (List.getElem?_eq_some_iff.1 hy).2
        have ihB := gMerged_at ha hb hra hrb n i (k + 1) (out ++ [y]) (by omega) (by omega) (by simp; omega) (by omega)
        have eb : gMerged_B1 a b [] (out, (i : Int), (k : Int)) = bif decide (rcmp y x < 0) then some (.next (out ++ [y], (i : Int), ((k + 1 : Nat) : Int))) else some (.next (out ++ [x], ((i + 1 : Nat) : Int), (k : Int))) := by
          unfold gMerged_B1
          dsimp only
          rw [lt_dec hx, cond_true, hne, cond_false, lt_dec hy, cond_true, getI_nat hy, getI_nat hx]
          simp only [Option.bind_some]
          rw [gBefore_nil y x (hrb y (List.mem_of_getElem? hy)) (hra x (List.mem_of_getElem? hx)), wrapN (by omega), wrapN (by omega), hg]
          rfl
        rw [eb, List.drop_eq_getElem_cons hlt, List.drop_eq_getElem_cons hlb, ex, ey, List.cons_merge_cons]
        rw [List.drop_eq_getElem_cons hlb, ey] at ihA
        rw [List.drop_eq_getElem_cons hlt, ex] at ihB
        by_cases hc : rcmp y x < 0
        · rw [show decide (rcmp y x < 0) = true from decide_eq_true hc, cond_true, if_neg (by unfold leV; simp [hc])]
          dsimp only
          rw [ihB]; simp
        · rw [show decide (rcmp y x < 0) = false from decide_eq_false hc, cond_false, if_pos (by unfold leV; simp [hc])]
          dsimp only
          rw [ihA]; simp
      · have hk : k = b.length := by omega
        have eb : gMerged_B1 a b [] (out, (i : Int), (k : Int)) = some (.next (out ++ [x], ((i + 1 : Nat) : Int), (k : Int))) := by
          unfold gMerged_B1
          dsimp only
          rw [lt_dec hx, cond_true, hne, cond_false, hk, lt_decF, cond_false, getI_nat hx]
          simp only [Option.bind_some]
          rw [wrapN (by omega), hg]
          rfl
        rw [eb]
        dsimp only
        rw [ihA, List.drop_eq_getElem_cons hlt, ex, hk, List.drop_length, List.merge_right, List.merge_right]
        simp
    · have hi : i = a.length := by omega
      subst hi
      by_cases hlb : k < b.length
      · obtain ⟨y, hy⟩ := get_of_lt hlb
        have ey := (List.getElem?_eq_some_iff.1 hy).2
        have ihB := gMerged_at ha hb hra hrb n a.length (k + 1) (out ++ [y]) (by omega) (by omega) (by simp; omega) (by omega)
        have eb : gMerged_B1 a b [] (out, ((a.length : Nat) : Int), (k : Int)) = some (.next (out ++ [y], ((a.length : Nat) : Int), ((k + 1 : Nat) : Int))) := by
          unfold gMerged_B1
          dsimp only
          rw [lt_decF, cond_false, lt_dec hy, cond_true, show decide (((a.length : Nat) : Int) = ((a.length : Nat) : Int)) = true from decide_eq_true rfl, cond_true, getI_nat hy]
          simp only [Option.bind_some]
          rw [wrapN (by omega), hg]
          rfl
        rw [eb]
        dsimp only
        rw [ihB, List.drop_eq_getElem_cons hlb, ey, List.drop_length, List.nil_merge, List.nil_merge]
        simp
      · have hk : k = b.length := by omega
        subst hk
        have eb : gMerged_B1 a b [] (out, ((a.length : Nat) : Int), ((b.length : Nat) : Int)) = some (.exit (out, ((a.length : Nat) : Int), ((b.length : Nat) : Int))) := by
          unfold gMerged_B1
          dsimp only
          rw [lt_decF, cond_false, lt_decF, cond_false]
        rw [eb, List.drop_length, List.drop_length, List.nil_merge, List.append_nil]
        rfl
theorem gMerged_eq {a b : List (List Val)} (ha : a.length ≤ 1000000) (hb : b.length ≤ 1000000) (hra : ∀ r ∈ a, r.length ≤ 1000000) (hrb : ∀ r ∈ b, r.length ≤ 1000000) : gMerged a b [] = some (List.merge a b leV) := by
  unfold gMerged
  have := gMerged_at ha hb hra hrb fuel 0 0 [] (Nat.zero_le _) (Nat.zero_le _) rfl (by unfold fuel; omega)
  rw [show (((0 : Nat) : Int)) = 0 from rfl] at this
  rw [this]; simp
theorem merge_asc {a b : List (List Val)} (ha : Asc rcmp a) (hb : Asc rcmp b) : Asc rcmp (List.merge a b leV) := by
  have := List.pairwise_merge (le := leV) (fun x y z h1 h2 => (leV_iff x z).2 (totC_rcmp.le_trans ((leV_iff x y).1 h1) ((leV_iff y z).1 h2))) (fun x y => by
    rw [Bool.or_eq_true, leV_iff, leV_iff]; exact totC_rcmp.total x y) a b (ha.imp fun h => (leV_iff _ _).2 h) (hb.imp fun h => (leV_iff _ _).2 h)
  exact this.imp fun h => (leV_iff _ _).1 h
theorem gOrder_eq : ∀ (n : Nat) (l : List (List Val)), l.length ≤ n → l.length ≤ 1000000 → (∀ r ∈ l, r.length ≤ 1000000) → ∃ r, gOrder (n + 1) l [] = some r ∧ Asc rcmp r ∧ r.Perm l := by
  intro n
  induction n with
  | zero =>
    intro l h _ _
    have : l = [] := by cases l with | nil => rfl | cons _ _ => simp at h
    subst this
    exact ⟨[], rfl, List.Pairwise.nil, List.Perm.refl _⟩
  | succ n ih =>
    intro l h hl hr
    match l, h, hl, hr with
    | [], _, _, _ => exact ⟨[], rfl, List.Pairwise.nil, List.Perm.refl _⟩
    | [x], _, _, hr =>
      have hx := hr x (by simp)
      refine ⟨[x], ?_, by simp [Asc], List.Perm.refl _⟩
      show gOrderB (gOrder (n + 1)) [x] [] = _
      unfold gOrderB
      simp only [List.length_cons, List.length_nil]
      rw [show getI [x] 0 = some x from rfl]
      simp only [Option.bind_some]
      rw [show decide (x.length ≤ 4398046511104) = true from decide_eq_true (by omega)]
      rfl
    | x :: y :: t, h, hl, hr =>
      generalize hL : x :: y :: t = l at h hl hr
      have h2 : 2 ≤ l.length := by rw [← hL]; simp
      have hm : IntKind.i64.wrap (((l.length : Nat) : Int).tdiv (2 : Int)) = ((l.length / 2 : Nat) : Int) := by
        rw [show ((l.length : Nat) : Int).tdiv 2 = ((l.length / 2 : Nat) : Int) from rfl]
        exact wrap_eq (by omega) (by omega)
      have s1 : subI l 0 ((l.length / 2 : Nat) : Int) = some (l.take (l.length / 2)) := by
        unfold subI
        rw [if_pos (by omega), Int.toNat_natCast]; rfl
      have s2 : subI l ((l.length / 2 : Nat) : Int) ((l.length : Nat) : Int) = some (l.drop (l.length / 2)) := by
        unfold subI
        rw [if_pos (by omega), Int.toNat_natCast, Int.toNat_natCast, List.take_length]
      obtain ⟨r1, e1, a1, p1⟩ := ih (l.take (l.length / 2)) (by simp; omega) (by simp; omega) fun r hr' => hr r (List.mem_of_mem_take hr')
      obtain ⟨r2, e2, a2, p2⟩ := ih (l.drop (l.length / 2)) (by simp; omega) (by simp; omega) fun r hr' => hr r (List.mem_of_mem_drop hr')
      refine ⟨List.merge r1 r2 leV, ?_, merge_asc a1 a2, ?_⟩
      · show gOrderB (gOrder (n + 1)) l [] = _
        unfold gOrderB
        rw [show decide (((l.length : Nat) : Int) = 0) = false from decide_eq_false (by omega), cond_false, show decide (((l.length : Nat) : Int) = 1) = false from decide_eq_false (by omega), cond_false, show decide ((2 : Int) ≠ 0) = true from rfl, cond_true, hm, s1, s2]
        simp only [Option.bind_some]
        rw [e1, e2]
        simp only [Option.bind_some]
        rw [gMerged_eq (by rw [p1.length_eq]; simp; omega) (by rw [p2.length_eq]; simp; omega) (fun r hr' => hr r (List.mem_of_mem_take (p1.mem_iff.1 hr'))) (fun r hr' => hr r (List.mem_of_mem_drop (p2.mem_iff.1 hr')))]
        rfl
      · refine (List.merge_perm_append leV).trans ((p1.append p2).trans ?_)
        rw [List.take_append_drop]
theorem gSortR_eq (l : List (List Val)) (hl : l.length ≤ 63) (hr : ∀ r ∈ l, r.length ≤ 1000000) : gSortR l = some (sortV l) := by
  obtain ⟨r, e, a, p⟩ := gOrder_eq 63 l hl (by omega) hr
  unfold gSortR
  rw [e, sortV_unique a p]; rfl
def intV (n : Int) : Val := if -1125899906842624 ≤ n ∧ n ≤ 1125899906842624 then ⟨1, n, ByteArray.empty⟩ else ⟨0, 0, ByteArray.empty⟩
theorem gIntR_eq (n : Int) : gIntR n = some (intV n) := by
  unfold gIntR gvalidR gValidR gNullR intV
  have e : (ByteArray.empty.toList == (⟨#[]⟩ : ByteArray).toList) = true := by rw [ByteArray.toList_eq, ByteArray.toList_eq]; rfl
  dsimp only
  rw [e, show decide ((1 : Int) = 0) = false from rfl, show decide ((1 : Int) = 1) = true from rfl]
  by_cases h1 : -1125899906842624 ≤ n
  · by_cases h2 : n ≤ 1125899906842624
    · simp [h1, h2]
    · simp [h1, h2]
  · simp [h1]
def extV (v : Ver) : List Val := v.row ++ [v.valid.lo, v.valid.hi, v.system.lo, v.system.hi, v.by_].map intV
theorem gExtR_eq (v : Ver) (h : v.row.length ≤ 1000000) : gExtR v = some (extV v) := by
  unfold gExtR
  rw [show decide (v.row.length ≤ 4398046511104) = true from decide_eq_true (by omega), cond_true]
  rw [loop_list (l := [v.valid.lo, v.valid.hi, v.system.lo, v.system.hi, v.by_]) (mk := fun out i => (out, i)) (f := push intV 4398046511104) ?_ ?_ (by unfold fuel; simp) v.row]
  · rw [fold_push _ _ _ _ (by simp; omega)]; rfl
  · intro s i x hx
    have hi : i < 5 := (List.getElem?_eq_some_iff.1 hx).1
    unfold gExtR_B1 push
    dsimp only
    rw [show decide ((i : Int) < ((5 : Nat) : Int)) = true from decide_eq_true (by omega), cond_true, getI_nat hx]
    simp only [Option.bind_some]
    rw [gIntR_eq, wrapN (by omega)]
    simp only [Option.bind_some]
    cases decide (s.length + 1 ≤ 4398046511104) <;> rfl
  · intro s
    unfold gExtR_B1
    dsimp only
    rw [show decide ((([v.valid.lo, v.valid.hi, v.system.lo, v.system.hi, v.by_].length : Nat) : Int) < ((5 : Nat) : Int)) = false from rfl, cond_false]
theorem gRowsR_eq (kinds : List Int) (l : List Ver) (hk : kinds.length ≤ 1000000) (hl : l.length ≤ 63) (hr : ∀ v ∈ l, v.row.length ≤ 60) : gRowsR kinds l = some ⟨kinds ++ [1, 1, 1, 1, 1], sortV (l.map extV)⟩ := by
  unfold gRowsR
  rw [show decide (kinds.length ≤ 17592186044416) = true from decide_eq_true (by omega), cond_true]
  rw [loop_list (l := [(), (), (), (), ()]) (mk := fun out i => (out, i)) (f := push (fun _ => (1 : Int)) 17592186044416) ?_ ?_ (by unfold fuel; simp) kinds]
  · rw [fold_push _ _ _ _ (by simp; omega)]
    show gRowsR_K1 l (.inl (kinds ++ [1, 1, 1, 1, 1], ((5 : Nat) : Int))) = _
    unfold gRowsR_K1
    dsimp only
    rw [loop_list (l := l) (mk := fun out i => (out, i)) (f := fun s v => (gExtR v).bind fun r => bif decide (s.length + 1 ≤ 5864062014805) then some (.inl (s ++ [r])) else none) ?_ ?_ (by unfold fuel; omega) []]
    · have : ∀ (l : List Ver) (s : List (List Val)), s.length + l.length ≤ 1000 → (∀ v ∈ l, v.row.length ≤ 60) → foldS (ρ := Bag) (fun s v => (gExtR v).bind fun r => bif decide (s.length + 1 ≤ 5864062014805) then some (.inl (s ++ [r])) else none) s l = some (.inl (s ++ l.map extV)) := by
        intro l
        induction l with
        | nil => intro s _ _; simp [foldS]
        | cons x l ih =>
          intro s h hr
          have h' : s.length + (l.length + 1) ≤ 1000 := by simpa using h
          have hx := hr x (List.mem_cons_self ..)
          rw [foldS, gExtR_eq x (by omega)]
          simp only [Option.bind_some]
          rw [show decide (s.length + 1 ≤ 5864062014805) = true from decide_eq_true (by omega), cond_true]
          have := ih (s ++ [extV x]) (by simp; omega) fun v hv => hr v (List.mem_cons_of_mem _ hv)
          simpa using this
      rw [this l [] (by simp; omega) hr]
      show gRowsR_K2 (kinds ++ [1, 1, 1, 1, 1]) (.inl ([] ++ l.map extV, ((l.length : Nat) : Int))) = _
      unfold gRowsR_K2
      dsimp only
      rw [List.nil_append, gSortR_eq _ (by simp; omega) (by
        intro r hr'
        obtain ⟨v, hv, rfl⟩ := List.mem_map.1 hr'
        have := hr v hv
        unfold extV
        simp; omega)]
      rfl
    · intro s i x hx
      have hi : i < l.length := (List.getElem?_eq_some_iff.1 hx).1
      unfold gRowsR_B2
      dsimp only
      rw [lt_dec hx, cond_true, getI_nat hx]
      simp only [Option.bind_some]
      rw [wrapN (by omega)]
      cases gExtR x with
      | none => rfl
      | some r => simp only [Option.bind_some]; cases decide (s.length + 1 ≤ 5864062014805) <;> rfl
    · intro s
      unfold gRowsR_B2
      dsimp only
      rw [lt_decF, cond_false]
  · intro s i x hx
    have hi : i < 5 := (List.getElem?_eq_some_iff.1 hx).1
    unfold gRowsR_B1 push
    dsimp only
    rw [show decide ((i : Int) < 5) = true from decide_eq_true (by omega), cond_true, wrapN (by omega)]
    cases decide (s.length + 1 ≤ 17592186044416) <;> rfl
  · intro s
    rfl
/-! ### tests that answer -/
theorem gPrintable_at {s : ByteArray} (hs : s.size ≤ 1000000) : ∀ (n i : Nat), i ≤ s.size → s.size - i < n → ∃ r, (loopM (gPrintable_B1 s) n (i : Int)).bind gPrintable_K1 = some r
  | 0, _, _, h => by omega
  | n + 1, i, h1, hn => by
    rw [loopM]
    unfold gPrintable_B1
    dsimp only
    by_cases hlt : i < s.size
    · rw [show decide ((i : Int) < ((s.size : Nat) : Int)) = true from decide_eq_true (by omega), cond_true]
      obtain ⟨b, hb⟩ : ∃ b, getB s (i : Int) = some b := by
        unfold getB
        rw [if_pos (by omega)]
        exact ⟨s[i], by simp [hlt]⟩
      rw [hb]
      simp only [Option.bind_some]
      cases decide (((b.toNat : Nat) : Int) < 32) with
      | true => exact ⟨_, rfl⟩
      | false =>
        cases decide ((126 : Int) < ((b.toNat : Nat) : Int)) with
        | true => exact ⟨_, rfl⟩
        | false =>
          simp only [cond_false]
          rw [wrapN (by omega)]
          exact gPrintable_at hs n (i + 1) (by omega) (by omega)
    · rw [show decide ((i : Int) < ((s.size : Nat) : Int)) = false from decide_eq_false (by omega), cond_false]
      exact ⟨_, rfl⟩
theorem gPrintable_ex {s : ByteArray} (hs : s.size ≤ 1000000) : ∃ r, gPrintable s = some r := by
  have := gPrintable_at hs fuel 0 (Nat.zero_le _) (by unfold fuel; omega)
  rw [show (((0 : Nat) : Int)) = 0 from rfl] at this
  exact this
theorem gValidR_ex (v : Val) : ∃ r, gValidR v = some r := by
  unfold gValidR
  cases decide (v.kind = 0) with
  | true => cases decide (v.int = 0) <;> exact ⟨_, rfl⟩
  | false =>
    cases decide (v.kind = 1) with
    | true => cases (v.text.toList == (⟨#[]⟩ : ByteArray).toList) <;> cases decide ((-1125899906842624 : Int) ≤ v.int) <;> exact ⟨_, rfl⟩
    | false =>
      cases decide (v.kind = 2) with
      | true =>
        cases decide (v.int = 0) with
        | false => exact ⟨_, rfl⟩
        | true =>
          by_cases h : ((v.text.size : Nat) : Int) ≤ 200
          · obtain ⟨r, hr⟩ := gPrintable_ex (s := v.text) (by omega)
            rw [show decide (((v.text.size : Nat) : Int) ≤ 200) = true from decide_eq_true h, hr]
            exact ⟨_, rfl⟩
          · rw [show decide (((v.text.size : Nat) : Int) ≤ 200) = false from decide_eq_false h]
            exact ⟨_, rfl⟩
      | false =>
        cases decide (v.kind = 3) with
        | true => cases (v.text.toList == (⟨#[]⟩ : ByteArray).toList) <;> cases decide (v.int = 0) <;> exact ⟨_, rfl⟩
        | false => exact ⟨_, rfl⟩
theorem gFits8_ex (row : List Val) (kinds : List Int) (h : row.length ≤ 1000000) : ∃ r, gFits8 row kinds = some r := by
  unfold gFits8
  by_cases he : row.length = kinds.length
  · rw [show decide (((row.length : Nat) : Int) ≠ ((kinds.length : Nat) : Int)) = false from decide_eq_false (by omega), cond_false]
    have hz : (row.zip kinds).length = row.length := by simp; omega
    have k := loop_list (l := row.zip kinds) (body := gFits8_B1 row kinds) (mk := fun (_ : Unit) i => i) (f := fun (_ : Unit) (x : Val × Int) => (gValidR x.1).bind fun r => bif (!r) then some (.inr false) else bif decide (x.1.kind ≠ 0) then bif decide (x.1.kind ≠ x.2) then some (.inr false) else some (.inl ()) else some (.inl ())) ?_ ?_ (by unfold fuel; omega) ()
    · obtain ⟨r, hr⟩ := fold_ex (σ := Unit) (ρ := Bool) (f := fun (_ : Unit) (x : Val × Int) => (gValidR x.1).bind fun r => bif (!r) then some (.inr false) else bif decide (x.1.kind ≠ 0) then bif decide (x.1.kind ≠ x.2) then some (.inr false) else some (.inl ()) else some (.inl ())) (row.zip kinds) () (by
        intro s x _
        obtain ⟨r, hr⟩ := gValidR_ex x.1
        rw [hr]
        cases r <;> cases decide (x.1.kind ≠ 0) <;> cases decide (x.1.kind ≠ x.2) <;> exact ⟨_, rfl⟩)
      rw [k, hr]
      cases r with
      | inl _ => exact ⟨_, rfl⟩
      | inr _ => exact ⟨_, rfl⟩
    · intro s i x hx
      obtain ⟨h1, h2⟩ := List.getElem?_zip_eq_some.1 hx
      have hi : i < row.length := (List.getElem?_eq_some_iff.1 h1).1
      unfold gFits8_B1
      dsimp only
      rw [lt_dec h1, cond_true, getI_nat h1, getI_nat h2]
      simp only [Option.bind_some]
      rw [wrapN (by omega)]
      cases gValidR x.1 with
      | none => rfl
      | some r => cases r <;> cases decide (x.1.kind ≠ 0) <;> cases decide (x.1.kind ≠ x.2) <;> rfl
    · intro s
      unfold gFits8_B1
      dsimp only
      rw [hz, lt_decF, cond_false]
  · rw [show decide (((row.length : Nat) : Int) ≠ ((kinds.length : Nat) : Int)) = true from decide_eq_true (by omega)]
    exact ⟨_, rfl⟩
theorem gKind_ex (k : Int) : ∃ r, gKind k = some r := by
  unfold gKind
  cases decide (k = 1) <;> cases decide (k = 2) <;> exact ⟨_, rfl⟩
theorem gKinds_ex (l : List Int) (h : l.length ≤ 1000000) : ∃ r, gKinds l = some r := by
  unfold gKinds
  have k := loop_list (l := l) (body := gKinds_B1 l) (mk := fun (_ : Unit) i => i) (f := fun (_ : Unit) (x : Int) => (gKind x).bind fun r => bif (!r) then some (.inr false) else some (.inl ())) ?_ ?_ (by unfold fuel; omega) ()
  · obtain ⟨r, hr⟩ := fold_ex (σ := Unit) (ρ := Bool) (f := fun (_ : Unit) (x : Int) => (gKind x).bind fun r => bif (!r) then some (.inr false) else some (.inl ())) l () (by
      intro s x _
      obtain ⟨r, hr⟩ := gKind_ex x
      rw [hr]
      cases r <;> exact ⟨_, rfl⟩)
    rw [k, hr]
    cases r with
    | inl _ => exact ⟨_, rfl⟩
    | inr _ => exact ⟨_, rfl⟩
  · intro s i x hx
    have hi : i < l.length := (List.getElem?_eq_some_iff.1 hx).1
    unfold gKinds_B1
    dsimp only
    rw [lt_dec hx, cond_true, getI_nat hx]
    simp only [Option.bind_some]
    rw [wrapN (by omega)]
    cases gKind x with
    | none => rfl
    | some r => cases r <;> rfl
  · intro s
    unfold gKinds_B1
    dsimp only
    rw [lt_decF, cond_false]
theorem gFit_ex (l : List Ver) (kinds : List Int) (h : l.length ≤ 1000000) (hk : kinds.length ≤ 1000000) (hr : ∀ v ∈ l, v.row.length ≤ 1000000) : ∃ r, gFit l kinds = some r := by
  unfold gFit
  have k := loop_list (l := l) (body := gFit_B1 l kinds) (mk := fun (_ : Unit) i => i) (f := fun (_ : Unit) (x : Ver) => (gFits8 x.row kinds).bind fun r => bif (!r) then some (.inr false) else some (.inl ())) ?_ ?_ (by unfold fuel; omega) ()
  · obtain ⟨r, hr⟩ := fold_ex (σ := Unit) (ρ := Bool) (f := fun (_ : Unit) (x : Ver) => (gFits8 x.row kinds).bind fun r => bif (!r) then some (.inr false) else some (.inl ())) l () (by
      intro s x hx
      obtain ⟨r, hr⟩ := gFits8_ex x.row kinds (hr x hx)
      rw [hr]
      cases r <;> exact ⟨_, rfl⟩)
    rw [k, hr]
    cases r with
    | inl _ =>
      obtain ⟨q, hq⟩ := gKinds_ex kinds hk
      refine ⟨q, ?_⟩
      show gFit_K1 kinds (.inl ((l.length : Nat) : Int)) = _
      unfold gFit_K1
      rw [hq]; rfl
    | inr _ => exact ⟨_, rfl⟩
  · intro s i x hx
    have hi : i < l.length := (List.getElem?_eq_some_iff.1 hx).1
    unfold gFit_B1
    dsimp only
    rw [lt_dec hx, cond_true, getI_nat hx]
    simp only [Option.bind_some]
    rw [wrapN (by omega)]
    cases gFits8 x.row kinds with
    | none => rfl
    | some r => cases r <;> rfl
  · intro s
    unfold gFit_B1
    dsimp only
    rw [lt_decF, cond_false]
theorem gSameKinds_refl (l : List Int) (h : l.length ≤ 1000000) : gSameKinds l l = some true := by
  unfold gSameKinds
  simp only [ne_eq, not_true_eq_false, decide_false, cond_false]
  rw [loop_list (l := l) (mk := fun (_ : Unit) i => i) (f := fun (_ : Unit) (_ : Int) => (some (.inl ()) : Option (Sum Unit Bool))) ?_ ?_ (by unfold fuel; omega) ()]
  · have : ∀ l : List Int, foldS (fun (_ : Unit) (_ : Int) => (some (.inl ()) : Option (Sum Unit Bool))) () l = some (.inl ()) := by
      intro l
      induction l with
      | nil => rfl
      | cons x l ih => rw [foldS]; exact ih
    rw [this]; rfl
  · intro s i x hx
    have hi : i < l.length := (List.getElem?_eq_some_iff.1 hx).1
    unfold gSameKinds_B1
    dsimp only
    rw [lt_dec hx, cond_true, getI_nat hx]
    simp only [Option.bind_some]
    rw [wrapN (by omega)]
    simp [foldN]
  · intro s
    unfold gSameKinds_B1
    dsimp only
    rw [lt_decF, cond_false]
theorem gSameRows_refl (l : List (List Val)) (h : l.length ≤ 1000000) (hr : ∀ r ∈ l, r.length ≤ 1000000) : gSameRows l l = some true := by
  unfold gSameRows
  simp only [ne_eq, not_true_eq_false, decide_false, cond_false]
  rw [loop_list (l := l) (mk := fun (_ : Unit) i => i) (f := fun (_ : Unit) (x : List Val) => ((gEqual8 x x).bind fun r => bif (!r) then some (.inr false) else some (.inl ()) : Option (Sum Unit Bool))) ?_ ?_ (by unfold fuel; omega) ()]
  · have : ∀ l : List (List Val), (∀ r ∈ l, r.length ≤ 1000000) → foldS (fun (_ : Unit) (x : List Val) => ((gEqual8 x x).bind fun r => bif (!r) then some (.inr false) else some (.inl ()) : Option (Sum Unit Bool))) () l = some (.inl ()) := by
      intro l
      induction l with
      | nil => intro _; rfl
      | cons x l ih =>
        intro hr
        have hx := hr x (List.mem_cons_self ..)
        have e : gEqual8 x x = some true := by
          unfold gEqual8
          rw [gCmp8_eq x x (by omega) (by omega), totC_rcmp.refl]; rfl
        rw [foldS, e]
        exact ih fun r hr' => hr r (List.mem_cons_of_mem _ hr')
    rw [this l hr]; rfl
  · intro s i x hx
    have hi : i < l.length := (List.getElem?_eq_some_iff.1 hx).1
    unfold gSameRows_B1
    dsimp only
    rw [lt_dec hx, cond_true, getI_nat hx]
    simp only [Option.bind_some]
    rw [wrapN (by omega)]
    cases gEqual8 x x with
    | none => rfl
    | some r => cases r <;> rfl
  · intro s
    unfold gSameRows_B1
    dsimp only
    rw [lt_decF, cond_false]
theorem gExactly_refl (b : Bag) (h1 : b.kinds.length ≤ 1000000) (h2 : b.rows.length ≤ 1000000) (h3 : ∀ r ∈ b.rows, r.length ≤ 1000000) : gExactly b b = some true := by
  unfold gExactly
  rw [gSameKinds_refl _ h1]
  simp only [Option.bind_some, cond_true]
  rw [gSameRows_refl _ h2 h3]; rfl
end Go.Proofs.YtnbnpnmkgemdeaaGreatDoor
