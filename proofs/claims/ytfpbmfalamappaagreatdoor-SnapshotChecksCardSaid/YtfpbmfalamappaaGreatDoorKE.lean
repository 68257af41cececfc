/- Parts of the proof, joined (G17 G18 G19 G20 G21 G22 G23 G24 G25). No condition. -/
import Derived.Test.YtfpbmfalamappaaGreatDoorKD
import Derived.Laws.StructEq
set_option linter.unusedSimpArgs false
set_option linter.unusedVariables false
namespace Go.Proofs.YtfpbmfalamappaaGreatDoor
open Go.RowKit Go.MapKept
set_option maxRecDepth 100000
theorem val_fields : ∃ f0 f1 f2, (Tryz.prog.fieldsOf 25).toList = [f0, f1, f2] ∧ (f0.name ≠ "_" ∧ f0.type = 3 ∧ f0.offset = 0) ∧ (f1.name ≠ "_" ∧ f1.type = 3 ∧ f1.offset = 1) ∧ (f2.name ≠ "_" ∧ f2.type = 9 ∧ f2.offset = 2) := by
  have h : (Tryz.prog.fieldsOf 25).toList.map (fun f => (f.name == "_", f.type, f.offset)) = [(false, 3, 0), (false, 3, 1), (false, 9, 2)] := by kernel_rfl
  generalize (Tryz.prog.fieldsOf 25).toList = l at h
  rcases l with _ | ⟨f0, _ | ⟨f1, _ | ⟨f2, _ | ⟨f3, r⟩⟩⟩⟩
  · simp at h
  · simp at h
  · simp at h
  · simp only [List.map_cons, List.map_nil, List.cons.injEq, Prod.mk.injEq, and_true, beq_eq_false_iff_ne] at h
    exact ⟨f0, f1, f2, rfl, h.1, h.2.1, h.2.2⟩
  · simp at h
theorem fits_int {k : IntKind} {sh : List Sc} (xs : List SV) (h : fitsS (.int k :: sh) xs = true) : ∃ a r, xs = .c (.int k a) :: r ∧ fitsS sh r = true := by
  cases xs with
  | nil => cases h
  | cons x r =>
    cases x with
    | c y =>
      cases y with
      | int k' a => simp only [fitsS, Bool.and_eq_true, decide_eq_true_eq] at h; exact ⟨a, r, by rw [h.1], h.2⟩
      | _ => cases h
    | _ => cases h
theorem fits_str {sh : List Sc} (xs : List SV) (h : fitsS (.str :: sh) xs = true) : ∃ a r, xs = .c (.str a) :: r ∧ fitsS sh r = true := by
  cases xs with
  | nil => cases h
  | cons x r =>
    cases x with
    | c y =>
      cases y with
      | str a => exact ⟨a, r, rfl, h⟩
      | _ => cases h
    | _ => cases h
theorem part_one {P : Program} {w : World} {t : TypeId} {d : TypeDesc} (ht : P.underlying t = some d) (hd : (match d with | .struct _ => true | .array _ _ => true | _ => false) = false) {xs : Array Value} {i : Nat} {v : Value} (hx : xs[i]? = some v) : (part t xs i).run P w = .ok v w := by
  cases d <;> first | (cases hd; done) | simp [part, isAgg, run_underlying ht, hx]
theorem eqRuns_val (xs ys : List SV) (hx : fitsS [.int .i64, .int .i64, .str] xs = true) (hy : fitsS [.int .i64, .int .i64, .str] ys = true) : EqRuns Tryz.prog 25 xs ys := by
  have shape : ∀ xs : List SV, fitsS [.int .i64, .int .i64, .str] xs = true → ∃ a b s, xs = [.c (.int .i64 a), .c (.int .i64 b), .c (.str s)] := by
    intro xs h
    obtain ⟨a, r1, rfl, h1⟩ := fits_int _ h
    obtain ⟨b, r2, rfl, h2⟩ := fits_int _ h1
    obtain ⟨t, r3, rfl, h3⟩ := fits_str _ h2
    cases r3 with
    | nil => exact ⟨a, b, t, rfl⟩
    | cons x r => cases h3
  obtain ⟨a, b, s, rfl⟩ := shape xs hx
  obtain ⟨a', b', s', rfl⟩ := shape ys hy
  intro vs us hv hu w
  simp [scals, scal] at hv hu
  subst hv hu
  obtain ⟨f0, f1, f2, hf, ⟨n0, t0, o0⟩, ⟨n1, t1, o1⟩, n2, t2, o2⟩ := val_fields
  have hu25 : Tryz.prog.underlying 25 = some (.struct (Tryz.prog.fieldsOf 25)) := by kernel_rfl
  have hst : Tryz.prog.stoodInHeld 25 = false := by kernel_rfl
  have hI : Tryz.prog.underlying 3 = some (.int .i64) := by kernel_rfl
  have hS : Tryz.prog.underlying 9 = some .string := by kernel_rfl
  have hm : Op.equal 25 (.agg [Value.int .i64 a, Value.int .i64 b, Value.string s].toArray) (.agg [Value.int .i64 a', Value.int .i64 b', Value.string s'].toArray) = Op.equalIn (9999 + 1) 25 (.agg [Value.int .i64 a, Value.int .i64 b, Value.string s].toArray) (.agg [Value.int .i64 a', Value.int .i64 b', Value.string s'].toArray) := rfl
  rw [hm, run_equalIn_struct w 9999 25 _ _ hu25 hst, hf]
  have p0x := part_one (P := Tryz.prog) (w := w) hI rfl (show ([Value.int .i64 a, Value.int .i64 b, Value.string s].toArray)[0]? = some (.int .i64 a) from rfl)
  have p1x := part_one (P := Tryz.prog) (w := w) hI rfl (show ([Value.int .i64 a, Value.int .i64 b, Value.string s].toArray)[1]? = some (.int .i64 b) from rfl)
  have p2x := part_one (P := Tryz.prog) (w := w) hS rfl (show ([Value.int .i64 a, Value.int .i64 b, Value.string s].toArray)[2]? = some (.string s) from rfl)
  have p0y := part_one (P := Tryz.prog) (w := w) hI rfl (show ([Value.int .i64 a', Value.int .i64 b', Value.string s'].toArray)[0]? = some (.int .i64 a') from rfl)
  have p1y := part_one (P := Tryz.prog) (w := w) hI rfl (show ([Value.int .i64 a', Value.int .i64 b', Value.string s'].toArray)[1]? = some (.int .i64 b') from rfl)
  have p2y := part_one (P := Tryz.prog) (w := w) hS rfl (show ([Value.int .i64 a', Value.int .i64 b', Value.string s'].toArray)[2]? = some (.string s') from rfl)
  have e0 := run_equalIn_int (P := Tryz.prog) w 9998 3 .i64 .i64 a a' hI
  have e1 := run_equalIn_int (P := Tryz.prog) w 9998 3 .i64 .i64 b b' hI
  have e2 := run_equalIn_string (P := Tryz.prog) w 9998 9 s s' hS
  have q : (9998 + 1 : Nat) = 9999 := rfl
  rw [q] at e0 e1 e2
  simp only [Op.eqFields, n0, n1, n2, t0, t1, t2, o0, o1, o2, ne_eq, not_false_eq_true, if_true, Sem.run_bind, p0x, p1x, p2x, p0y, p1y, p2y, Result.andThen_ok, e0, e1, e2, Sem.run_ite, Sem.run_pure]
  cases h0 : (a == a') <;> cases h1 : (b == b') <;> cases h2 : (s.toList == s'.toList) <;> simp_all [sameS]
theorem eqG_val : Tryz.prog.eqGuardType Tryz.prog.depth 25 = false := by kernel_rfl
/-- The table, with comparisons of values. -/
def tabE : TI := { tab with eqs := fun t => if t = 25 then some [.int .i64, .int .i64, .str] else none }
theorem tabE_ok : TIok Tryz.prog tabE := ⟨tab_ok.size, tab_ok.agg, tab_ok.elem, tab_ok.field, tab_ok.zero, tab_ok.bytes, tab_ok.kind, tab_ok.struct, tab_ok.zok, fun t sh h => by
  simp only [tabE] at h
  split at h
  · rename_i e; injection h with h; subst e h
    exact ⟨eqG_val, eqRuns_val⟩
  · cases h⟩
def tabES : TI := { tabE with soft := true }
theorem tabES_ok : TIok Tryz.prog tabES := ⟨tab_ok.size, tab_ok.agg, tab_ok.elem, tab_ok.field, tab_ok.zero, tab_ok.bytes, tab_ok.kind, tab_ok.struct, tab_ok.zok, tabE_ok.eqs⟩
end Go.Proofs.YtfpbmfalamappaaGreatDoor

namespace Go.Proofs.YtfpbmfalamappaaGreatDoor
open Go.RowKit Go.MapKept
set_option maxRecDepth 100000
def inL (op : Int) : List Int → Bool
  | [] => false
  | x :: l => bif decide (op = x) then true else inL op l
def cntF (op n : Int) : Bool × Bool :=
  bif inL op [1, 2] then (decide (n = 0), true) else bif inL op [4, 18, 20, 21] then (decide (n = 1), true) else bif inL op [7, 8, 9, 10, 11, 12, 13, 14, 15, 16, 17, 19] then (decide (n = 2), true)
  else bif inL op [5, 6] then (decide (2 ≤ n), true) else bif inL op [22] then (decide (n = 3), true) else bif inL op [23] then (decide (1 ≤ n), true) else bif inL op [24] then (decide (n = 4), true) else (false, false)
def v2B (p : Bool × Bool) : CV := .tup [.one (.bool p.1), .one (.bool p.2)]
def v2I (p : Int × Int) : CV := .tup [.one (.int .i64 p.1), .one (.int .i64 p.2)]
def arity (op : Int) : Int × Int :=
  bif inL op [1, 2] then (0, 0) else bif inL op [4, 18, 20, 21] then (1, 1) else bif inL op [5, 6] then (2, 1099511627776) else bif inL op [7, 8, 9, 10, 11, 12, 13, 14, 15, 16, 17, 19] then (2, 2)
  else bif inL op [22] then (3, 3) else bif inL op [23] then (1, 1099511627776) else bif inL op [24] then (4, 4) else (-1, 0)
/-- The operators of expressions. -/
def opsL : List Int := [1, 2, 4, 5, 6, 7, 8, 9, 10, 11, 12, 13, 14, 15, 16, 17, 18, 19, 20, 21, 22, 23, 24]
theorem inL_no {op : Int} : ∀ {l : List Int}, (∀ x ∈ l, op ≠ x) → inL op l = false
  | [], _ => rfl
  | x :: l, h => by
    have h1 : decide (op = x) = false := by simp [h x (by simp)]
    simp only [inL, h1, cond_false]
    exact inL_no fun y hy => h y (List.mem_cons_of_mem _ hy)
theorem counts_1 (n : Int) : Pure Tryz.prog 152 [.one (.int .i64 1), .one (.int .i64 n)] (v2B (cntF 1 n)) := by
  refine pure_of_aw tab_ok Tryz.func152 rfl rfl Tryz.ntmps152 (by simp) ?_
  simp only [argT, PV.av, List.map_cons, List.map_nil]
  repeat' (first | refine st_nil ?_ | (refine st_pop rfl rfl rfl rfl ?_ ?_; · exact ok_) | (refine st_lop rfl rfl rfl rfl ?_ ?_; · exact ok_) | (refine st_store rfl rfl rfl ?_ ?_; · exact ok_) | (refine st_lit rfl rfl rfl rfl ?_ ?_; · exact ok_) | refine st_skip rfl rfl rfl ?_ | refine st_skip0 rfl rfl ?_ | (refine st_if rfl (fun hb => ?_) (fun hb => ?_) <;> (first | exact no_ hb | rw [hb])) | refine aw_seq ?_ | refine aw_region tab_ok _ rfl ?_ | refine aw_drawn2 tabS_ok _ rfl mixed (by decide +kernel) ?_ | (refine aw_cond rfl (fun hb => ?_) (fun hb => ?_) <;> (try exact no_ hb)) | refine aw_block ?_ | refine aw_exit ?_ | refine aw_ret ?_ | refine aw_skip ?_)
  all_goals exact end_ret (res_of rfl ⟨trivial, trivial, trivial⟩ rfl)
theorem counts_2 (n : Int) : Pure Tryz.prog 152 [.one (.int .i64 2), .one (.int .i64 n)] (v2B (cntF 2 n)) := by
  refine pure_of_aw tab_ok Tryz.func152 rfl rfl Tryz.ntmps152 (by simp) ?_
  simp only [argT, PV.av, List.map_cons, List.map_nil]
  repeat' (first | refine st_nil ?_ | (refine st_pop rfl rfl rfl rfl ?_ ?_; · exact ok_) | (refine st_lop rfl rfl rfl rfl ?_ ?_; · exact ok_) | (refine st_store rfl rfl rfl ?_ ?_; · exact ok_) | (refine st_lit rfl rfl rfl rfl ?_ ?_; · exact ok_) | refine st_skip rfl rfl rfl ?_ | refine st_skip0 rfl rfl ?_ | (refine st_if rfl (fun hb => ?_) (fun hb => ?_) <;> (first | exact no_ hb | rw [hb])) | refine aw_seq ?_ | refine aw_region tab_ok _ rfl ?_ | refine aw_drawn2 tabS_ok _ rfl mixed (by decide +kernel) ?_ | (refine aw_cond rfl (fun hb => ?_) (fun hb => ?_) <;> (try exact no_ hb)) | refine aw_block ?_ | refine aw_exit ?_ | refine aw_ret ?_ | refine aw_skip ?_)
  all_goals exact end_ret (res_of rfl ⟨trivial, trivial, trivial⟩ rfl)
theorem counts_4 (n : Int) : Pure Tryz.prog 152 [.one (.int .i64 4), .one (.int .i64 n)] (v2B (cntF 4 n)) := by
  refine pure_of_aw tab_ok Tryz.func152 rfl rfl Tryz.ntmps152 (by simp) ?_
  simp only [argT, PV.av, List.map_cons, List.map_nil]
  repeat' (first | refine st_nil ?_ | (refine st_pop rfl rfl rfl rfl ?_ ?_; · exact ok_) | (refine st_lop rfl rfl rfl rfl ?_ ?_; · exact ok_) | (refine st_store rfl rfl rfl ?_ ?_; · exact ok_) | (refine st_lit rfl rfl rfl rfl ?_ ?_; · exact ok_) | refine st_skip rfl rfl rfl ?_ | refine st_skip0 rfl rfl ?_ | (refine st_if rfl (fun hb => ?_) (fun hb => ?_) <;> (first | exact no_ hb | rw [hb])) | refine aw_seq ?_ | refine aw_region tab_ok _ rfl ?_ | refine aw_drawn2 tabS_ok _ rfl mixed (by decide +kernel) ?_ | (refine aw_cond rfl (fun hb => ?_) (fun hb => ?_) <;> (try exact no_ hb)) | refine aw_block ?_ | refine aw_exit ?_ | refine aw_ret ?_ | refine aw_skip ?_)
  all_goals exact end_ret (res_of rfl ⟨trivial, trivial, trivial⟩ rfl)
theorem counts_5 (n : Int) : Pure Tryz.prog 152 [.one (.int .i64 5), .one (.int .i64 n)] (v2B (cntF 5 n)) := by
  refine pure_of_aw tab_ok Tryz.func152 rfl rfl Tryz.ntmps152 (by simp) ?_
  simp only [argT, PV.av, List.map_cons, List.map_nil]
  repeat' (first | refine st_nil ?_ | (refine st_pop rfl rfl rfl rfl ?_ ?_; · exact ok_) | (refine st_lop rfl rfl rfl rfl ?_ ?_; · exact ok_) | (refine st_store rfl rfl rfl ?_ ?_; · exact ok_) | (refine st_lit rfl rfl rfl rfl ?_ ?_; · exact ok_) | refine st_skip rfl rfl rfl ?_ | refine st_skip0 rfl rfl ?_ | (refine st_if rfl (fun hb => ?_) (fun hb => ?_) <;> (first | exact no_ hb | rw [hb])) | refine aw_seq ?_ | refine aw_region tab_ok _ rfl ?_ | refine aw_drawn2 tabS_ok _ rfl mixed (by decide +kernel) ?_ | (refine aw_cond rfl (fun hb => ?_) (fun hb => ?_) <;> (try exact no_ hb)) | refine aw_block ?_ | refine aw_exit ?_ | refine aw_ret ?_ | refine aw_skip ?_)
  all_goals exact end_ret (res_of rfl ⟨trivial, trivial, trivial⟩ rfl)
theorem counts_6 (n : Int) : Pure Tryz.prog 152 [.one (.int .i64 6), .one (.int .i64 n)] (v2B (cntF 6 n)) := by
  refine pure_of_aw tab_ok Tryz.func152 rfl rfl Tryz.ntmps152 (by simp) ?_
  simp only [argT, PV.av, List.map_cons, List.map_nil]
  repeat' (first | refine st_nil ?_ | (refine st_pop rfl rfl rfl rfl ?_ ?_; · exact ok_) | (refine st_lop rfl rfl rfl rfl ?_ ?_; · exact ok_) | (refine st_store rfl rfl rfl ?_ ?_; · exact ok_) | (refine st_lit rfl rfl rfl rfl ?_ ?_; · exact ok_) | refine st_skip rfl rfl rfl ?_ | refine st_skip0 rfl rfl ?_ | (refine st_if rfl (fun hb => ?_) (fun hb => ?_) <;> (first | exact no_ hb | rw [hb])) | refine aw_seq ?_ | refine aw_region tab_ok _ rfl ?_ | refine aw_drawn2 tabS_ok _ rfl mixed (by decide +kernel) ?_ | (refine aw_cond rfl (fun hb => ?_) (fun hb => ?_) <;> (try exact no_ hb)) | refine aw_block ?_ | refine aw_exit ?_ | refine aw_ret ?_ | refine aw_skip ?_)
  all_goals exact end_ret (res_of rfl ⟨trivial, trivial, trivial⟩ rfl)
theorem counts_7 (n : Int) : Pure Tryz.prog 152 [.one (.int .i64 7), .one (.int .i64 n)] (v2B (cntF 7 n)) := by
  refine pure_of_aw tab_ok Tryz.func152 rfl rfl Tryz.ntmps152 (by simp) ?_
  simp only [argT, PV.av, List.map_cons, List.map_nil]
  repeat' (first | refine st_nil ?_ | (refine st_pop rfl rfl rfl rfl ?_ ?_; · exact ok_) | (refine st_lop rfl rfl rfl rfl ?_ ?_; · exact ok_) | (refine st_store rfl rfl rfl ?_ ?_; · exact ok_) | (refine st_lit rfl rfl rfl rfl ?_ ?_; · exact ok_) | refine st_skip rfl rfl rfl ?_ | refine st_skip0 rfl rfl ?_ | (refine st_if rfl (fun hb => ?_) (fun hb => ?_) <;> (first | exact no_ hb | rw [hb])) | refine aw_seq ?_ | refine aw_region tab_ok _ rfl ?_ | refine aw_drawn2 tabS_ok _ rfl mixed (by decide +kernel) ?_ | (refine aw_cond rfl (fun hb => ?_) (fun hb => ?_) <;> (try exact no_ hb)) | refine aw_block ?_ | refine aw_exit ?_ | refine aw_ret ?_ | refine aw_skip ?_)
  all_goals exact end_ret (res_of rfl ⟨trivial, trivial, trivial⟩ rfl)
theorem counts_8 (n : Int) : Pure Tryz.prog 152 [.one (.int .i64 8), .one (.int .i64 n)] (v2B (cntF 8 n)) := by
  refine pure_of_aw tab_ok Tryz.func152 rfl rfl Tryz.ntmps152 (by simp) ?_
  simp only [argT, PV.av, List.map_cons, List.map_nil]
  repeat' (first | refine st_nil ?_ | (refine st_pop rfl rfl rfl rfl ?_ ?_; · exact ok_) | (refine st_lop rfl rfl rfl rfl ?_ ?_; · exact ok_) | (refine st_store rfl rfl rfl ?_ ?_; · exact ok_) | (refine st_lit rfl rfl rfl rfl ?_ ?_; · exact ok_) | refine st_skip rfl rfl rfl ?_ | refine st_skip0 rfl rfl ?_ | (refine st_if rfl (fun hb => ?_) (fun hb => ?_) <;> (first | exact no_ hb | rw [hb])) | refine aw_seq ?_ | refine aw_region tab_ok _ rfl ?_ | refine aw_drawn2 tabS_ok _ rfl mixed (by decide +kernel) ?_ | (refine aw_cond rfl (fun hb => ?_) (fun hb => ?_) <;> (try exact no_ hb)) | refine aw_block ?_ | refine aw_exit ?_ | refine aw_ret ?_ | refine aw_skip ?_)
  all_goals exact end_ret (res_of rfl ⟨trivial, trivial, trivial⟩ rfl)
theorem counts_9 (n : Int) : Pure Tryz.prog 152 [.one (.int .i64 9), .one (.int .i64 n)] (v2B (cntF 9 n)) := by
  refine pure_of_aw tab_ok Tryz.func152 rfl rfl Tryz.ntmps152 (by simp) ?_
  simp only [argT, PV.av, List.map_cons, List.map_nil]
  repeat' (first | refine st_nil ?_ | (refine st_pop rfl rfl rfl rfl ?_ ?_; · exact ok_) | (refine st_lop rfl rfl rfl rfl ?_ ?_; · exact ok_) | (refine st_store rfl rfl rfl ?_ ?_; · exact ok_) | (refine st_lit rfl rfl rfl rfl ?_ ?_; · exact ok_) | refine st_skip rfl rfl rfl ?_ | refine st_skip0 rfl rfl ?_ | (refine st_if rfl (fun hb => ?_) (fun hb => ?_) <;> (first | exact no_ hb | rw [hb])) | refine aw_seq ?_ | refine aw_region tab_ok _ rfl ?_ | refine aw_drawn2 tabS_ok _ rfl mixed (by decide +kernel) ?_ | (refine aw_cond rfl (fun hb => ?_) (fun hb => ?_) <;> (try exact no_ hb)) | refine aw_block ?_ | refine aw_exit ?_ | refine aw_ret ?_ | refine aw_skip ?_)
  all_goals exact end_ret (res_of rfl ⟨trivial, trivial, trivial⟩ rfl)
theorem counts_10 (n : Int) : Pure Tryz.prog 152 [.one (.int .i64 10), .one (.int .i64 n)] (v2B (cntF 10 n)) := by
  refine pure_of_aw tab_ok Tryz.func152 rfl rfl Tryz.ntmps152 (by simp) ?_
  simp only [argT, PV.av, List.map_cons, List.map_nil]
  repeat' (first | refine st_nil ?_ | (refine st_pop rfl rfl rfl rfl ?_ ?_; · exact ok_) | (refine st_lop rfl rfl rfl rfl ?_ ?_; · exact ok_) | (refine st_store rfl rfl rfl ?_ ?_; · exact ok_) | (refine st_lit rfl rfl rfl rfl ?_ ?_; · exact ok_) | refine st_skip rfl rfl rfl ?_ | refine st_skip0 rfl rfl ?_ | (refine st_if rfl (fun hb => ?_) (fun hb => ?_) <;> (first | exact no_ hb | rw [hb])) | refine aw_seq ?_ | refine aw_region tab_ok _ rfl ?_ | refine aw_drawn2 tabS_ok _ rfl mixed (by decide +kernel) ?_ | (refine aw_cond rfl (fun hb => ?_) (fun hb => ?_) <;> (try exact no_ hb)) | refine aw_block ?_ | refine aw_exit ?_ | refine aw_ret ?_ | refine aw_skip ?_)
  all_goals exact end_ret (res_of rfl ⟨trivial, trivial, trivial⟩ rfl)
theorem counts_11 (n : Int) : Pure Tryz.prog 152 [.one (.int .i64 11), .one (.int .i64 n)] (v2B (cntF 11 n)) := by
  refine pure_of_aw tab_ok Tryz.func152 rfl rfl Tryz.ntmps152 (by simp) ?_
  simp only [argT, PV.av, List.map_cons, List.map_nil]
  repeat' (first | refine st_nil ?_ | (refine st_pop rfl rfl rfl rfl ?_ ?_; · exact ok_) | (refine st_lop rfl rfl rfl rfl ?_ ?_; · exact ok_) | (refine st_store rfl rfl rfl ?_ ?_; · exact ok_) | (refine st_lit rfl rfl rfl rfl ?_ ?_; · exact ok_) | refine st_skip rfl rfl rfl ?_ | refine st_skip0 rfl rfl ?_ | (refine st_if rfl (fun hb => ?_) (fun hb => ?_) <;> (first | exact no_ hb | rw [hb])) | refine aw_seq ?_ | refine aw_region tab_ok _ rfl ?_ | refine aw_drawn2 tabS_ok _ rfl mixed (by decide +kernel) ?_ | (refine aw_cond rfl (fun hb => ?_) (fun hb => ?_) <;> (try exact no_ hb)) | refine aw_block ?_ | refine aw_exit ?_ | refine aw_ret ?_ | refine aw_skip ?_)
  all_goals exact end_ret (res_of rfl ⟨trivial, trivial, trivial⟩ rfl)
theorem counts_12 (n : Int) : Pure Tryz.prog 152 [.one (.int .i64 12), .one (.int .i64 n)] (v2B (cntF 12 n)) := by
  refine pure_of_aw tab_ok Tryz.func152 rfl rfl Tryz.ntmps152 (by simp) ?_
  simp only [argT, PV.av, List.map_cons, List.map_nil]
  repeat' (first | refine st_nil ?_ | (refine st_pop rfl rfl rfl rfl ?_ ?_; · exact ok_) | (refine st_lop rfl rfl rfl rfl ?_ ?_; · exact ok_) | (refine st_store rfl rfl rfl ?_ ?_; · exact ok_) | (refine st_lit rfl rfl rfl rfl ?_ ?_; · exact ok_) | refine st_skip rfl rfl rfl ?_ | refine st_skip0 rfl rfl ?_ | (refine st_if rfl (fun hb => ?_) (fun hb => ?_) <;> (first | exact no_ hb | rw [hb])) | refine aw_seq ?_ | refine aw_region tab_ok _ rfl ?_ | refine aw_drawn2 tabS_ok _ rfl mixed (by decide +kernel) ?_ | (refine aw_cond rfl (fun hb => ?_) (fun hb => ?_) <;> (try exact no_ hb)) | refine aw_block ?_ | refine aw_exit ?_ | refine aw_ret ?_ | refine aw_skip ?_)
  all_goals exact end_ret (res_of rfl ⟨trivial, trivial, trivial⟩ rfl)
theorem counts_13 (n : Int) : Pure Tryz.prog 152 [.one (.int .i64 13), .one (.int .i64 n)] (v2B (cntF 13 n)) := by
  refine pure_of_aw tab_ok Tryz.func152 rfl rfl Tryz.ntmps152 (by simp) ?_
  simp only [argT, PV.av, List.map_cons, List.map_nil]
  repeat' (first | refine st_nil ?_ | (refine st_pop rfl rfl rfl rfl ?_ ?_; · exact ok_) | (refine st_lop rfl rfl rfl rfl ?_ ?_; · exact ok_) | (refine st_store rfl rfl rfl ?_ ?_; · exact ok_) | (refine st_lit rfl rfl rfl rfl ?_ ?_; · exact ok_) | refine st_skip rfl rfl rfl ?_ | refine st_skip0 rfl rfl ?_ | (refine st_if rfl (fun hb => ?_) (fun hb => ?_) <;> (first | exact no_ hb | rw [hb])) | refine aw_seq ?_ | refine aw_region tab_ok _ rfl ?_ | refine aw_drawn2 tabS_ok _ rfl mixed (by decide +kernel) ?_ | (refine aw_cond rfl (fun hb => ?_) (fun hb => ?_) <;> (try exact no_ hb)) | refine aw_block ?_ | refine aw_exit ?_ | refine aw_ret ?_ | refine aw_skip ?_)
  all_goals exact end_ret (res_of rfl ⟨trivial, trivial, trivial⟩ rfl)
theorem counts_14 (n : Int) : Pure Tryz.prog 152 [.one (.int .i64 14), .one (.int .i64 n)] (v2B (cntF 14 n)) := by
  refine pure_of_aw tab_ok Tryz.func152 rfl rfl Tryz.ntmps152 (by simp) ?_
  simp only [argT, PV.av, List.map_cons, List.map_nil]
  repeat' (first | refine st_nil ?_ | (refine st_pop rfl rfl rfl rfl ?_ ?_; · exact ok_) | (refine st_lop rfl rfl rfl rfl ?_ ?_; · exact ok_) | (refine st_store rfl rfl rfl ?_ ?_; · exact ok_) | (refine st_lit rfl rfl rfl rfl ?_ ?_; · exact ok_) | refine st_skip rfl rfl rfl ?_ | refine st_skip0 rfl rfl ?_ | (refine st_if rfl (fun hb => ?_) (fun hb => ?_) <;> (first | exact no_ hb | rw [hb])) | refine aw_seq ?_ | refine aw_region tab_ok _ rfl ?_ | refine aw_drawn2 tabS_ok _ rfl mixed (by decide +kernel) ?_ | (refine aw_cond rfl (fun hb => ?_) (fun hb => ?_) <;> (try exact no_ hb)) | refine aw_block ?_ | refine aw_exit ?_ | refine aw_ret ?_ | refine aw_skip ?_)
  all_goals exact end_ret (res_of rfl ⟨trivial, trivial, trivial⟩ rfl)
theorem counts_15 (n : Int) : Pure Tryz.prog 152 [.one (.int .i64 15), .one (.int .i64 n)] (v2B (cntF 15 n)) := by
  refine pure_of_aw tab_ok Tryz.func152 rfl rfl Tryz.ntmps152 (by simp) ?_
  simp only [argT, PV.av, List.map_cons, List.map_nil]
  repeat' (first | refine st_nil ?_ | (refine st_pop rfl rfl rfl rfl ?_ ?_; · exact ok_) | (refine st_lop rfl rfl rfl rfl ?_ ?_; · exact ok_) | (refine st_store rfl rfl rfl ?_ ?_; · exact ok_) | (refine st_lit rfl rfl rfl rfl ?_ ?_; · exact ok_) | refine st_skip rfl rfl rfl ?_ | refine st_skip0 rfl rfl ?_ | (refine st_if rfl (fun hb => ?_) (fun hb => ?_) <;> (first | exact no_ hb | rw [hb])) | refine aw_seq ?_ | refine aw_region tab_ok _ rfl ?_ | refine aw_drawn2 tabS_ok _ rfl mixed (by decide +kernel) ?_ | (refine aw_cond rfl (fun hb => ?_) (fun hb => ?_) <;> (try exact no_ hb)) | refine aw_block ?_ | refine aw_exit ?_ | refine aw_ret ?_ | refine aw_skip ?_)
  all_goals exact end_ret (res_of rfl ⟨trivial, trivial, trivial⟩ rfl)
theorem counts_16 (n : Int) : Pure Tryz.prog 152 [.one (.int .i64 16), .one (.int .i64 n)] (v2B (cntF 16 n)) := by
  refine pure_of_aw tab_ok Tryz.func152 rfl rfl Tryz.ntmps152 (by simp) ?_
  simp only [argT, PV.av, List.map_cons, List.map_nil]
  repeat' (first | refine st_nil ?_ | (refine st_pop rfl rfl rfl rfl ?_ ?_; · exact ok_) | (refine st_lop rfl rfl rfl rfl ?_ ?_; · exact ok_) | (refine st_store rfl rfl rfl ?_ ?_; · exact ok_) | (refine st_lit rfl rfl rfl rfl ?_ ?_; · exact ok_) | refine st_skip rfl rfl rfl ?_ | refine st_skip0 rfl rfl ?_ | (refine st_if rfl (fun hb => ?_) (fun hb => ?_) <;> (first | exact no_ hb | rw [hb])) | refine aw_seq ?_ | refine aw_region tab_ok _ rfl ?_ | refine aw_drawn2 tabS_ok _ rfl mixed (by decide +kernel) ?_ | (refine aw_cond rfl (fun hb => ?_) (fun hb => ?_) <;> (try exact no_ hb)) | refine aw_block ?_ | refine aw_exit ?_ | refine aw_ret ?_ | refine aw_skip ?_)
  all_goals exact end_ret (res_of rfl ⟨trivial, trivial, trivial⟩ rfl)
theorem counts_17 (n : Int) : Pure Tryz.prog 152 [.one (.int .i64 17), .one (.int .i64 n)] (v2B (cntF 17 n)) := by
  refine pure_of_aw tab_ok Tryz.func152 rfl rfl Tryz.ntmps152 (by simp) ?_
  simp only [argT, PV.av, List.map_cons, List.map_nil]
  repeat' (first | refine st_nil ?_ | (refine st_pop rfl rfl rfl rfl ?_ ?_; · exact ok_) | (refine st_lop rfl rfl rfl rfl ?_ ?_; · exact ok_) | (refine st_store rfl rfl rfl ?_ ?_; · exact ok_) | (refine st_lit rfl rfl rfl rfl ?_ ?_; · exact ok_) | refine st_skip rfl rfl rfl ?_ | refine st_skip0 rfl rfl ?_ | (refine st_if rfl (fun hb => ?_) (fun hb => ?_) <;> (first | exact no_ hb | rw [hb])) | refine aw_seq ?_ | refine aw_region tab_ok _ rfl ?_ | refine aw_drawn2 tabS_ok _ rfl mixed (by decide +kernel) ?_ | (refine aw_cond rfl (fun hb => ?_) (fun hb => ?_) <;> (try exact no_ hb)) | refine aw_block ?_ | refine aw_exit ?_ | refine aw_ret ?_ | refine aw_skip ?_)
  all_goals exact end_ret (res_of rfl ⟨trivial, trivial, trivial⟩ rfl)
theorem counts_18 (n : Int) : Pure Tryz.prog 152 [.one (.int .i64 18), .one (.int .i64 n)] (v2B (cntF 18 n)) := by
  refine pure_of_aw tab_ok Tryz.func152 rfl rfl Tryz.ntmps152 (by simp) ?_
  simp only [argT, PV.av, List.map_cons, List.map_nil]
  repeat' (first | refine st_nil ?_ | (refine st_pop rfl rfl rfl rfl ?_ ?_; · exact ok_) | (refine st_lop rfl rfl rfl rfl ?_ ?_; · exact ok_) | (refine st_store rfl rfl rfl ?_ ?_; · exact ok_) | (refine st_lit rfl rfl rfl rfl ?_ ?_; · exact ok_) | refine st_skip rfl rfl rfl ?_ | refine st_skip0 rfl rfl ?_ | (refine st_if rfl (fun hb => ?_) (fun hb => ?_) <;> (first | exact no_ hb | rw [hb])) | refine aw_seq ?_ | refine aw_region tab_ok _ rfl ?_ | refine aw_drawn2 tabS_ok _ rfl mixed (by decide +kernel) ?_ | (refine aw_cond rfl (fun hb => ?_) (fun hb => ?_) <;> (try exact no_ hb)) | refine aw_block ?_ | refine aw_exit ?_ | refine aw_ret ?_ | refine aw_skip ?_)
  all_goals exact end_ret (res_of rfl ⟨trivial, trivial, trivial⟩ rfl)
theorem counts_19 (n : Int) : Pure Tryz.prog 152 [.one (.int .i64 19), .one (.int .i64 n)] (v2B (cntF 19 n)) := by
  refine pure_of_aw tab_ok Tryz.func152 rfl rfl Tryz.ntmps152 (by simp) ?_
  simp only [argT, PV.av, List.map_cons, List.map_nil]
  repeat' (first | refine st_nil ?_ | (refine st_pop rfl rfl rfl rfl ?_ ?_; · exact ok_) | (refine st_lop rfl rfl rfl rfl ?_ ?_; · exact ok_) | (refine st_store rfl rfl rfl ?_ ?_; · exact ok_) | (refine st_lit rfl rfl rfl rfl ?_ ?_; · exact ok_) | refine st_skip rfl rfl rfl ?_ | refine st_skip0 rfl rfl ?_ | (refine st_if rfl (fun hb => ?_) (fun hb => ?_) <;> (first | exact no_ hb | rw [hb])) | refine aw_seq ?_ | refine aw_region tab_ok _ rfl ?_ | refine aw_drawn2 tabS_ok _ rfl mixed (by decide +kernel) ?_ | (refine aw_cond rfl (fun hb => ?_) (fun hb => ?_) <;> (try exact no_ hb)) | refine aw_block ?_ | refine aw_exit ?_ | refine aw_ret ?_ | refine aw_skip ?_)
  all_goals exact end_ret (res_of rfl ⟨trivial, trivial, trivial⟩ rfl)
theorem counts_20 (n : Int) : Pure Tryz.prog 152 [.one (.int .i64 20), .one (.int .i64 n)] (v2B (cntF 20 n)) := by
  refine pure_of_aw tab_ok Tryz.func152 rfl rfl Tryz.ntmps152 (by simp) ?_
  simp only [argT, PV.av, List.map_cons, List.map_nil]
  repeat' (first | refine st_nil ?_ | (refine st_pop rfl rfl rfl rfl ?_ ?_; · exact ok_) | (refine st_lop rfl rfl rfl rfl ?_ ?_; · exact ok_) | (refine st_store rfl rfl rfl ?_ ?_; · exact ok_) | (refine st_lit rfl rfl rfl rfl ?_ ?_; · exact ok_) | refine st_skip rfl rfl rfl ?_ | refine st_skip0 rfl rfl ?_ | (refine st_if rfl (fun hb => ?_) (fun hb => ?_) <;> (first | exact no_ hb | rw [hb])) | refine aw_seq ?_ | refine aw_region tab_ok _ rfl ?_ | refine aw_drawn2 tabS_ok _ rfl mixed (by decide +kernel) ?_ | (refine aw_cond rfl (fun hb => ?_) (fun hb => ?_) <;> (try exact no_ hb)) | refine aw_block ?_ | refine aw_exit ?_ | refine aw_ret ?_ | refine aw_skip ?_)
  all_goals exact end_ret (res_of rfl ⟨trivial, trivial, trivial⟩ rfl)
theorem counts_21 (n : Int) : Pure Tryz.prog 152 [.one (.int .i64 21), .one (.int .i64 n)] (v2B (cntF 21 n)) := by
  refine pure_of_aw tab_ok Tryz.func152 rfl rfl Tryz.ntmps152 (by simp) ?_
  simp only [argT, PV.av, List.map_cons, List.map_nil]
  repeat' (first | refine st_nil ?_ | (refine st_pop rfl rfl rfl rfl ?_ ?_; · exact ok_) | (refine st_lop rfl rfl rfl rfl ?_ ?_; · exact ok_) | (refine st_store rfl rfl rfl ?_ ?_; · exact ok_) | (refine st_lit rfl rfl rfl rfl ?_ ?_; · exact ok_) | refine st_skip rfl rfl rfl ?_ | refine st_skip0 rfl rfl ?_ | (refine st_if rfl (fun hb => ?_) (fun hb => ?_) <;> (first | exact no_ hb | rw [hb])) | refine aw_seq ?_ | refine aw_region tab_ok _ rfl ?_ | refine aw_drawn2 tabS_ok _ rfl mixed (by decide +kernel) ?_ | (refine aw_cond rfl (fun hb => ?_) (fun hb => ?_) <;> (try exact no_ hb)) | refine aw_block ?_ | refine aw_exit ?_ | refine aw_ret ?_ | refine aw_skip ?_)
  all_goals exact end_ret (res_of rfl ⟨trivial, trivial, trivial⟩ rfl)
theorem counts_22 (n : Int) : Pure Tryz.prog 152 [.one (.int .i64 22), .one (.int .i64 n)] (v2B (cntF 22 n)) := by
  refine pure_of_aw tab_ok Tryz.func152 rfl rfl Tryz.ntmps152 (by simp) ?_
  simp only [argT, PV.av, List.map_cons, List.map_nil]
  repeat' (first | refine st_nil ?_ | (refine st_pop rfl rfl rfl rfl ?_ ?_; · exact ok_) | (refine st_lop rfl rfl rfl rfl ?_ ?_; · exact ok_) | (refine st_store rfl rfl rfl ?_ ?_; · exact ok_) | (refine st_lit rfl rfl rfl rfl ?_ ?_; · exact ok_) | refine st_skip rfl rfl rfl ?_ | refine st_skip0 rfl rfl ?_ | (refine st_if rfl (fun hb => ?_) (fun hb => ?_) <;> (first | exact no_ hb | rw [hb])) | refine aw_seq ?_ | refine aw_region tab_ok _ rfl ?_ | refine aw_drawn2 tabS_ok _ rfl mixed (by decide +kernel) ?_ | (refine aw_cond rfl (fun hb => ?_) (fun hb => ?_) <;> (try exact no_ hb)) | refine aw_block ?_ | refine aw_exit ?_ | refine aw_ret ?_ | refine aw_skip ?_)
  all_goals exact end_ret (res_of rfl ⟨trivial, trivial, trivial⟩ rfl)
theorem counts_23 (n : Int) : Pure Tryz.prog 152 [.one (.int .i64 23), .one (.int .i64 n)] (v2B (cntF 23 n)) := by
  refine pure_of_aw tab_ok Tryz.func152 rfl rfl Tryz.ntmps152 (by simp) ?_
  simp only [argT, PV.av, List.map_cons, List.map_nil]
  repeat' (first | refine st_nil ?_ | (refine st_pop rfl rfl rfl rfl ?_ ?_; · exact ok_) | (refine st_lop rfl rfl rfl rfl ?_ ?_; · exact ok_) | (refine st_store rfl rfl rfl ?_ ?_; · exact ok_) | (refine st_lit rfl rfl rfl rfl ?_ ?_; · exact ok_) | refine st_skip rfl rfl rfl ?_ | refine st_skip0 rfl rfl ?_ | (refine st_if rfl (fun hb => ?_) (fun hb => ?_) <;> (first | exact no_ hb | rw [hb])) | refine aw_seq ?_ | refine aw_region tab_ok _ rfl ?_ | refine aw_drawn2 tabS_ok _ rfl mixed (by decide +kernel) ?_ | (refine aw_cond rfl (fun hb => ?_) (fun hb => ?_) <;> (try exact no_ hb)) | refine aw_block ?_ | refine aw_exit ?_ | refine aw_ret ?_ | refine aw_skip ?_)
  all_goals exact end_ret (res_of rfl ⟨trivial, trivial, trivial⟩ rfl)
theorem counts_24 (n : Int) : Pure Tryz.prog 152 [.one (.int .i64 24), .one (.int .i64 n)] (v2B (cntF 24 n)) := by
  refine pure_of_aw tab_ok Tryz.func152 rfl rfl Tryz.ntmps152 (by simp) ?_
  simp only [argT, PV.av, List.map_cons, List.map_nil]
  repeat' (first | refine st_nil ?_ | (refine st_pop rfl rfl rfl rfl ?_ ?_; · exact ok_) | (refine st_lop rfl rfl rfl rfl ?_ ?_; · exact ok_) | (refine st_store rfl rfl rfl ?_ ?_; · exact ok_) | (refine st_lit rfl rfl rfl rfl ?_ ?_; · exact ok_) | refine st_skip rfl rfl rfl ?_ | refine st_skip0 rfl rfl ?_ | (refine st_if rfl (fun hb => ?_) (fun hb => ?_) <;> (first | exact no_ hb | rw [hb])) | refine aw_seq ?_ | refine aw_region tab_ok _ rfl ?_ | refine aw_drawn2 tabS_ok _ rfl mixed (by decide +kernel) ?_ | (refine aw_cond rfl (fun hb => ?_) (fun hb => ?_) <;> (try exact no_ hb)) | refine aw_block ?_ | refine aw_exit ?_ | refine aw_ret ?_ | refine aw_skip ?_)
  all_goals exact end_ret (res_of rfl ⟨trivial, trivial, trivial⟩ rfl)
theorem counts_no (op : Int) (n : Int) (h : ∀ x ∈ opsL, op ≠ x) : Pure Tryz.prog 152 [.one (.int .i64 op), .one (.int .i64 n)] (v2B (cntF op n)) := by
  refine pure_of_aw tab_ok Tryz.func152 rfl rfl Tryz.ntmps152 (by simp) ?_
  simp only [argT, PV.av, List.map_cons, List.map_nil]
  have q1 : decide (op = 1) = false := by simp [h 1 (by simp [opsL])]
  have q2 : decide (op = 2) = false := by simp [h 2 (by simp [opsL])]
  have q4 : decide (op = 4) = false := by simp [h 4 (by simp [opsL])]
  have q5 : decide (op = 5) = false := by simp [h 5 (by simp [opsL])]
  have q6 : decide (op = 6) = false := by simp [h 6 (by simp [opsL])]
  have q7 : decide (op = 7) = false := by simp [h 7 (by simp [opsL])]
  have q8 : decide (op = 8) = false := by simp [h 8 (by simp [opsL])]
  have q9 : decide (op = 9) = false := by simp [h 9 (by simp [opsL])]
  have q10 : decide (op = 10) = false := by simp [h 10 (by simp [opsL])]
  have q11 : decide (op = 11) = false := by simp [h 11 (by simp [opsL])]
  have q12 : decide (op = 12) = false := by simp [h 12 (by simp [opsL])]
  have q13 : decide (op = 13) = false := by simp [h 13 (by simp [opsL])]
  have q14 : decide (op = 14) = false := by simp [h 14 (by simp [opsL])]
  have q15 : decide (op = 15) = false := by simp [h 15 (by simp [opsL])]
  have q16 : decide (op = 16) = false := by simp [h 16 (by simp [opsL])]
  have q17 : decide (op = 17) = false := by simp [h 17 (by simp [opsL])]
  have q18 : decide (op = 18) = false := by simp [h 18 (by simp [opsL])]
  have q19 : decide (op = 19) = false := by simp [h 19 (by simp [opsL])]
  have q20 : decide (op = 20) = false := by simp [h 20 (by simp [opsL])]
  have q21 : decide (op = 21) = false := by simp [h 21 (by simp [opsL])]
  have q22 : decide (op = 22) = false := by simp [h 22 (by simp [opsL])]
  have q23 : decide (op = 23) = false := by simp [h 23 (by simp [opsL])]
  have q24 : decide (op = 24) = false := by simp [h 24 (by simp [opsL])]
  have hres : cntF op n = (false, false) := by unfold cntF; simp only [inL, cond_false, q1, q2, q4, q5, q6, q7, q8, q9, q10, q11, q12, q13, q14, q15, q16, q17, q18, q19, q20, q21, q22, q23, q24]
  rw [hres]
  repeat' (first | refine st_nil ?_ | rw [q1] | rw [q2] | rw [q4] | rw [q5] | rw [q6] | rw [q7] | rw [q8] | rw [q9] | rw [q10] | rw [q11] | rw [q12] | rw [q13] | rw [q14] | rw [q15] | rw [q16] | rw [q17] | rw [q18] | rw [q19] | rw [q20] | rw [q21] | rw [q22] | rw [q23] | rw [q24] | (refine st_pop rfl rfl rfl rfl ?_ ?_; · exact ok_) | (refine st_lop rfl rfl rfl rfl ?_ ?_; · exact ok_) | (refine st_store rfl rfl rfl ?_ ?_; · exact ok_) | (refine st_lit rfl rfl rfl rfl ?_ ?_; · exact ok_) | refine st_skip rfl rfl rfl ?_ | refine st_skip0 rfl rfl ?_ | (refine st_if rfl (fun hb => ?_) (fun hb => ?_) <;> (first | exact no_ hb | rw [hb])) | refine aw_seq ?_ | refine aw_region tab_ok _ rfl ?_ | refine aw_drawn2 tabS_ok _ rfl mixed (by decide +kernel) ?_ | (refine aw_cond rfl (fun hb => ?_) (fun hb => ?_) <;> (try exact no_ hb)) | refine aw_block ?_ | refine aw_exit ?_ | refine aw_ret ?_ | refine aw_skip ?_)
  all_goals exact end_ret (res_of rfl ⟨trivial, trivial, trivial⟩ rfl)
theorem counts_pure (op : Int) (n : Int) : Pure Tryz.prog 152 [.one (.int .i64 op), .one (.int .i64 n)] (v2B (cntF op n)) := by
  by_cases h : ∀ x ∈ opsL, op ≠ x
  · exact counts_no op n h
  · obtain ⟨x, hx⟩ := Classical.not_forall.1 h
    have hx2 : x ∈ opsL ∧ op = x := by
      by_cases hm : x ∈ opsL
      · exact ⟨hm, Classical.byContradiction fun e => hx fun _ => e⟩
      · exact absurd (fun h => absurd h hm) hx
    obtain ⟨hm, rfl⟩ := hx2
    simp only [opsL, List.mem_cons, List.not_mem_nil, or_false] at hm
    rcases hm with rfl | rfl | rfl | rfl | rfl | rfl | rfl | rfl | rfl | rfl | rfl | rfl | rfl | rfl | rfl | rfl | rfl | rfl | rfl | rfl | rfl | rfl | rfl
    · exact counts_1 n
    · exact counts_2 n
    · exact counts_4 n
    · exact counts_5 n
    · exact counts_6 n
    · exact counts_7 n
    · exact counts_8 n
    · exact counts_9 n
    · exact counts_10 n
    · exact counts_11 n
    · exact counts_12 n
    · exact counts_13 n
    · exact counts_14 n
    · exact counts_15 n
    · exact counts_16 n
    · exact counts_17 n
    · exact counts_18 n
    · exact counts_19 n
    · exact counts_20 n
    · exact counts_21 n
    · exact counts_22 n
    · exact counts_23 n
    · exact counts_24 n
theorem arity_1 : Pure Tryz.prog 138 [.one (.int .i64 1)] (v2I (arity 1)) := by
  refine pure_of_aw tab_ok Tryz.func138 rfl rfl Tryz.ntmps138 (by simp) ?_
  simp only [argT, PV.av, List.map_cons, List.map_nil]
  repeat' (first | refine st_nil ?_ | (refine st_pop rfl rfl rfl rfl ?_ ?_; · exact ok_) | (refine st_lop rfl rfl rfl rfl ?_ ?_; · exact ok_) | (refine st_store rfl rfl rfl ?_ ?_; · exact ok_) | (refine st_lit rfl rfl rfl rfl ?_ ?_; · exact ok_) | refine st_skip rfl rfl rfl ?_ | refine st_skip0 rfl rfl ?_ | (refine st_if rfl (fun hb => ?_) (fun hb => ?_) <;> (first | exact no_ hb | rw [hb])) | refine aw_seq ?_ | refine aw_region tab_ok _ rfl ?_ | refine aw_drawn2 tabS_ok _ rfl mixed (by decide +kernel) ?_ | (refine aw_cond rfl (fun hb => ?_) (fun hb => ?_) <;> (try exact no_ hb)) | refine aw_block ?_ | refine aw_exit ?_ | refine aw_ret ?_ | refine aw_skip ?_)
  all_goals exact end_ret (res_of rfl ⟨trivial, trivial, trivial⟩ rfl)
theorem arity_2 : Pure Tryz.prog 138 [.one (.int .i64 2)] (v2I (arity 2)) := by
  refine pure_of_aw tab_ok Tryz.func138 rfl rfl Tryz.ntmps138 (by simp) ?_
  simp only [argT, PV.av, List.map_cons, List.map_nil]
  repeat' (first | refine st_nil ?_ | (refine st_pop rfl rfl rfl rfl ?_ ?_; · exact ok_) | (refine st_lop rfl rfl rfl rfl ?_ ?_; · exact ok_) | (refine st_store rfl rfl rfl ?_ ?_; · exact ok_) | (refine st_lit rfl rfl rfl rfl ?_ ?_; · exact ok_) | refine st_skip rfl rfl rfl ?_ | refine st_skip0 rfl rfl ?_ | (refine st_if rfl (fun hb => ?_) (fun hb => ?_) <;> (first | exact no_ hb | rw [hb])) | refine aw_seq ?_ | refine aw_region tab_ok _ rfl ?_ | refine aw_drawn2 tabS_ok _ rfl mixed (by decide +kernel) ?_ | (refine aw_cond rfl (fun hb => ?_) (fun hb => ?_) <;> (try exact no_ hb)) | refine aw_block ?_ | refine aw_exit ?_ | refine aw_ret ?_ | refine aw_skip ?_)
  all_goals exact end_ret (res_of rfl ⟨trivial, trivial, trivial⟩ rfl)
theorem arity_4 : Pure Tryz.prog 138 [.one (.int .i64 4)] (v2I (arity 4)) := by
  refine pure_of_aw tab_ok Tryz.func138 rfl rfl Tryz.ntmps138 (by simp) ?_
  simp only [argT, PV.av, List.map_cons, List.map_nil]
  repeat' (first | refine st_nil ?_ | (refine st_pop rfl rfl rfl rfl ?_ ?_; · exact ok_) | (refine st_lop rfl rfl rfl rfl ?_ ?_; · exact ok_) | (refine st_store rfl rfl rfl ?_ ?_; · exact ok_) | (refine st_lit rfl rfl rfl rfl ?_ ?_; · exact ok_) | refine st_skip rfl rfl rfl ?_ | refine st_skip0 rfl rfl ?_ | (refine st_if rfl (fun hb => ?_) (fun hb => ?_) <;> (first | exact no_ hb | rw [hb])) | refine aw_seq ?_ | refine aw_region tab_ok _ rfl ?_ | refine aw_drawn2 tabS_ok _ rfl mixed (by decide +kernel) ?_ | (refine aw_cond rfl (fun hb => ?_) (fun hb => ?_) <;> (try exact no_ hb)) | refine aw_block ?_ | refine aw_exit ?_ | refine aw_ret ?_ | refine aw_skip ?_)
  all_goals exact end_ret (res_of rfl ⟨trivial, trivial, trivial⟩ rfl)
theorem arity_5 : Pure Tryz.prog 138 [.one (.int .i64 5)] (v2I (arity 5)) := by
  refine pure_of_aw tab_ok Tryz.func138 rfl rfl Tryz.ntmps138 (by simp) ?_
  simp only [argT, PV.av, List.map_cons, List.map_nil]
  repeat' (first | refine st_nil ?_ | (refine st_pop rfl rfl rfl rfl ?_ ?_; · exact ok_) | (refine st_lop rfl rfl rfl rfl ?_ ?_; · exact ok_) | (refine st_store rfl rfl rfl ?_ ?_; · exact ok_) | (refine st_lit rfl rfl rfl rfl ?_ ?_; · exact ok_) | refine st_skip rfl rfl rfl ?_ | refine st_skip0 rfl rfl ?_ | (refine st_if rfl (fun hb => ?_) (fun hb => ?_) <;> (first | exact no_ hb | rw [hb])) | refine aw_seq ?_ | refine aw_region tab_ok _ rfl ?_ | refine aw_drawn2 tabS_ok _ rfl mixed (by decide +kernel) ?_ | (refine aw_cond rfl (fun hb => ?_) (fun hb => ?_) <;> (try exact no_ hb)) | refine aw_block ?_ | refine aw_exit ?_ | refine aw_ret ?_ | refine aw_skip ?_)
  all_goals exact end_ret (res_of rfl ⟨trivial, trivial, trivial⟩ rfl)
theorem arity_6 : Pure Tryz.prog 138 [.one (.int .i64 6)] (v2I (arity 6)) := by
  refine pure_of_aw tab_ok Tryz.func138 rfl rfl Tryz.ntmps138 (by simp) ?_
  simp only [argT, PV.av, List.map_cons, List.map_nil]
  repeat' (first | refine st_nil ?_ | (refine st_pop rfl rfl rfl rfl ?_ ?_; · exact ok_) | (refine st_lop rfl rfl rfl rfl ?_ ?_; · exact ok_) | (refine st_store rfl rfl rfl ?_ ?_; · exact ok_) | (refine st_lit rfl rfl rfl rfl ?_ ?_; · exact ok_) | refine st_skip rfl rfl rfl ?_ | refine st_skip0 rfl rfl ?_ | (refine st_if rfl (fun hb => ?_) (fun hb => ?_) <;> (first | exact no_ hb | rw [hb])) | refine aw_seq ?_ | refine aw_region tab_ok _ rfl ?_ | refine aw_drawn2 tabS_ok _ rfl mixed (by decide +kernel) ?_ | (refine aw_cond rfl (fun hb => ?_) (fun hb => ?_) <;> (try exact no_ hb)) | refine aw_block ?_ | refine aw_exit ?_ | refine aw_ret ?_ | refine aw_skip ?_)
  all_goals exact end_ret (res_of rfl ⟨trivial, trivial, trivial⟩ rfl)
theorem arity_7 : Pure Tryz.prog 138 [.one (.int .i64 7)] (v2I (arity 7)) := by
  refine pure_of_aw tab_ok Tryz.func138 rfl rfl Tryz.ntmps138 (by simp) ?_
  simp only [argT, PV.av, List.map_cons, List.map_nil]
  repeat' (first | refine st_nil ?_ | (refine st_pop rfl rfl rfl rfl ?_ ?_; · exact ok_) | (refine st_lop rfl rfl rfl rfl ?_ ?_; · exact ok_) | (refine st_store rfl rfl rfl ?_ ?_; · exact ok_) | (refine st_lit rfl rfl rfl rfl ?_ ?_; · exact ok_) | refine st_skip rfl rfl rfl ?_ | refine st_skip0 rfl rfl ?_ | (refine st_if rfl (fun hb => ?_) (fun hb => ?_) <;> (first | exact no_ hb | rw [hb])) | refine aw_seq ?_ | refine aw_region tab_ok _ rfl ?_ | refine aw_drawn2 tabS_ok _ rfl mixed (by decide +kernel) ?_ | (refine aw_cond rfl (fun hb => ?_) (fun hb => ?_) <;> (try exact no_ hb)) | refine aw_block ?_ | refine aw_exit ?_ | refine aw_ret ?_ | refine aw_skip ?_)
  all_goals exact end_ret (res_of rfl ⟨trivial, trivial, trivial⟩ rfl)
theorem arity_8 : Pure Tryz.prog 138 [.one (.int .i64 8)] (v2I (arity 8)) := by
  refine pure_of_aw tab_ok Tryz.func138 rfl rfl Tryz.ntmps138 (by simp) ?_
  simp only [argT, PV.av, List.map_cons, List.map_nil]
  repeat' (first | refine st_nil ?_ | (refine st_pop rfl rfl rfl rfl ?_ ?_; · exact ok_) | (refine st_lop rfl rfl rfl rfl ?_ ?_; · exact ok_) | (refine st_store rfl rfl rfl ?_ ?_; · exact ok_) | (refine st_lit rfl rfl rfl rfl ?_ ?_; · exact ok_) | refine st_skip rfl rfl rfl ?_ | refine st_skip0 rfl rfl ?_ | (refine st_if rfl (fun hb => ?_) (fun hb => ?_) <;> (first | exact no_ hb | rw [hb])) | refine aw_seq ?_ | refine aw_region tab_ok _ rfl ?_ | refine aw_drawn2 tabS_ok _ rfl mixed (by decide +kernel) ?_ | (refine aw_cond rfl (fun hb => ?_) (fun hb => ?_) <;> (try exact no_ hb)) | refine aw_block ?_ | refine aw_exit ?_ | refine aw_ret ?_ | refine aw_skip ?_)
  all_goals exact end_ret (res_of rfl ⟨trivial, trivial, trivial⟩ rfl)
theorem arity_9 : Pure Tryz.prog 138 [.one (.int .i64 9)] (v2I (arity 9)) := by
  refine pure_of_aw tab_ok Tryz.func138 rfl rfl Tryz.ntmps138 (by simp) ?_
  simp only [argT, PV.av, List.map_cons, List.map_nil]
  repeat' (first | refine st_nil ?_ | (refine st_pop rfl rfl rfl rfl ?_ ?_; · exact ok_) | (refine st_lop rfl rfl rfl rfl ?_ ?_; · exact ok_) | (refine st_store rfl rfl rfl ?_ ?_; · exact ok_) | (refine st_lit rfl rfl rfl rfl ?_ ?_; · exact ok_) | refine st_skip rfl rfl rfl ?_ | refine st_skip0 rfl rfl ?_ | (refine st_if rfl (fun hb => ?_) (fun hb => ?_) <;> (first | exact no_ hb | rw [hb])) | refine aw_seq ?_ | refine aw_region tab_ok _ rfl ?_ | refine aw_drawn2 tabS_ok _ rfl mixed (by decide +kernel) ?_ | (refine aw_cond rfl (fun hb => ?_) (fun hb => ?_) <;> (try exact no_ hb)) | refine aw_block ?_ | refine aw_exit ?_ | refine aw_ret ?_ | refine aw_skip ?_)
  all_goals exact end_ret (res_of rfl ⟨trivial, trivial, trivial⟩ rfl)
theorem arity_10 : Pure Tryz.prog 138 [.one (.int .i64 10)] (v2I (arity 10)) := by
  refine pure_of_aw tab_ok Tryz.func138 rfl rfl Tryz.ntmps138 (by simp) ?_
  simp only [argT, PV.av, List.map_cons, List.map_nil]
  repeat' (first | refine st_nil ?_ | (refine st_pop rfl rfl rfl rfl ?_ ?_; · exact ok_) | (refine st_lop rfl rfl rfl rfl ?_ ?_; · exact ok_) | (refine st_store rfl rfl rfl ?_ ?_; · exact ok_) | (refine st_lit rfl rfl rfl rfl ?_ ?_; · exact ok_) | refine st_skip rfl rfl rfl ?_ | refine st_skip0 rfl rfl ?_ | (refine st_if rfl (fun hb => ?_) (fun hb => ?_) <;> (first | exact no_ hb | rw [hb])) | refine aw_seq ?_ | refine aw_region tab_ok _ rfl ?_ | refine aw_drawn2 tabS_ok _ rfl mixed (by decide +kernel) ?_ | (refine aw_cond rfl (fun hb => ?_) (fun hb => ?_) <;> (try exact no_ hb)) | refine aw_block ?_ | refine aw_exit ?_ | refine aw_ret ?_ | refine aw_skip ?_)
  all_goals exact end_ret (res_of rfl ⟨trivial, trivial, trivial⟩ rfl)
theorem arity_11 : Pure Tryz.prog 138 [.one (.int .i64 11)] (v2I (arity 11)) := by
  refine pure_of_aw tab_ok Tryz.func138 rfl rfl Tryz.ntmps138 (by simp) ?_
  simp only [argT, PV.av, List.map_cons, List.map_nil]
  repeat' (first | refine st_nil ?_ | (refine st_pop rfl rfl rfl rfl ?_ ?_; · exact ok_) | (refine st_lop rfl rfl rfl rfl ?_ ?_; · exact ok_) | (refine st_store rfl rfl rfl ?_ ?_; · exact ok_) | (refine st_lit rfl rfl rfl rfl ?_ ?_; · exact ok_) | refine st_skip rfl rfl rfl ?_ | refine st_skip0 rfl rfl ?_ | (refine st_if rfl (fun hb => ?_) (fun hb => ?_) <;> (first | exact no_ hb | rw [hb])) | refine aw_seq ?_ | refine aw_region tab_ok _ rfl ?_ | refine aw_drawn2 tabS_ok _ rfl mixed (by decide +kernel) ?_ | (refine aw_cond rfl (fun hb => ?_) (fun hb => ?_) <;> (try exact no_ hb)) | refine aw_block ?_ | refine aw_exit ?_ | refine aw_ret ?_ | refine aw_skip ?_)
  all_goals exact end_ret (res_of rfl ⟨trivial, trivial, trivial⟩ rfl)
theorem arity_12 : Pure Tryz.prog 138 [.one (.int .i64 12)] (v2I (arity 12)) := by
  refine pure_of_aw tab_ok Tryz.func138 rfl rfl Tryz.ntmps138 (by simp) ?_
  simp only [argT, PV.av, List.map_cons, List.map_nil]
  repeat' (first | refine st_nil ?_ | (refine st_pop rfl rfl rfl rfl ?_ ?_; · exact ok_) | (refine st_lop rfl rfl rfl rfl ?_ ?_; · exact ok_) | (refine st_store rfl rfl rfl ?_ ?_; · exact ok_) | (refine st_lit rfl rfl rfl rfl ?_ ?_; · exact ok_) | refine st_skip rfl rfl rfl ?_ | refine st_skip0 rfl rfl ?_ | (refine st_if rfl (fun hb => ?_) (fun hb => ?_) <;> (first | exact no_ hb | rw [hb])) | refine aw_seq ?_ | refine aw_region tab_ok _ rfl ?_ | refine aw_drawn2 tabS_ok _ rfl mixed (by decide +kernel) ?_ | (refine aw_cond rfl (fun hb => ?_) (fun hb => ?_) <;> (try exact no_ hb)) | refine aw_block ?_ | refine aw_exit ?_ | refine aw_ret ?_ | refine aw_skip ?_)
  all_goals exact end_ret (res_of rfl ⟨trivial, trivial, trivial⟩ rfl)
theorem arity_13 : Pure Tryz.prog 138 [.one (.int .i64 13)] (v2I (arity 13)) := by
  refine pure_of_aw tab_ok Tryz.func138 rfl rfl Tryz.ntmps138 (by simp) ?_
  simp only [argT, PV.av, List.map_cons, List.map_nil]
  repeat' (first | refine st_nil ?_ | (refine st_pop rfl rfl rfl rfl ?_ ?_; · exact ok_) | (refine st_lop rfl rfl rfl rfl ?_ ?_; · exact ok_) | (refine st_store rfl rfl rfl ?_ ?_; · exact ok_) | (refine st_lit rfl rfl rfl rfl ?_ ?_; · exact ok_) | refine st_skip rfl rfl rfl ?_ | refine st_skip0 rfl rfl ?_ | (refine st_if rfl (fun hb => ?_) (fun hb => ?_) <;> (first | exact no_ hb | rw [hb])) | refine aw_seq ?_ | refine aw_region tab_ok _ rfl ?_ | refine aw_drawn2 tabS_ok _ rfl mixed (by decide +kernel) ?_ | (refine aw_cond rfl (fun hb => ?_) (fun hb => ?_) <;> (try exact no_ hb)) | refine aw_block ?_ | refine aw_exit ?_ | refine aw_ret ?_ | refine aw_skip ?_)
  all_goals exact end_ret (res_of rfl ⟨trivial, trivial, trivial⟩ rfl)
theorem arity_14 : Pure Tryz.prog 138 [.one (.int .i64 14)] (v2I (arity 14)) := by
  refine pure_of_aw tab_ok Tryz.func138 rfl rfl Tryz.ntmps138 (by simp) ?_
  simp only [argT, PV.av, List.map_cons, List.map_nil]
  repeat' (first | refine st_nil ?_ | (refine st_pop rfl rfl rfl rfl ?_ ?_; · exact ok_) | (refine st_lop rfl rfl rfl rfl ?_ ?_; · exact ok_) | (refine st_store rfl rfl rfl ?_ ?_; · exact ok_) | (refine st_lit rfl rfl rfl rfl ?_ ?_; · exact ok_) | refine st_skip rfl rfl rfl ?_ | refine st_skip0 rfl rfl ?_ | (refine st_if rfl (fun hb => ?_) (fun hb => ?_) <;> (first | exact no_ hb | rw [hb])) | refine aw_seq ?_ | refine aw_region tab_ok _ rfl ?_ | refine aw_drawn2 tabS_ok _ rfl mixed (by decide +kernel) ?_ | (refine aw_cond rfl (fun hb => ?_) (fun hb => ?_) <;> (try exact no_ hb)) | refine aw_block ?_ | refine aw_exit ?_ | refine aw_ret ?_ | refine aw_skip ?_)
  all_goals exact end_ret (res_of rfl ⟨trivial, trivial, trivial⟩ rfl)
theorem arity_15 : Pure Tryz.prog 138 [.one (.int .i64 15)] (v2I (arity 15)) := by
  refine pure_of_aw tab_ok Tryz.func138 rfl rfl Tryz.ntmps138 (by simp) ?_
  simp only [argT, PV.av, List.map_cons, List.map_nil]
  repeat' (first | refine st_nil ?_ | (refine st_pop rfl rfl rfl rfl ?_ ?_; · exact ok_) | (refine st_lop rfl rfl rfl rfl ?_ ?_; · exact ok_) | (refine st_store rfl rfl rfl ?_ ?_; · exact ok_) | (refine st_lit rfl rfl rfl rfl ?_ ?_; · exact ok_) | refine st_skip rfl rfl rfl ?_ | refine st_skip0 rfl rfl ?_ | (refine st_if rfl (fun hb => ?_) (fun hb => ?_) <;> (first | exact no_ hb | rw [hb])) | refine aw_seq ?_ | refine aw_region tab_ok _ rfl ?_ | refine aw_drawn2 tabS_ok _ rfl mixed (by decide +kernel) ?_ | (refine aw_cond rfl (fun hb => ?_) (fun hb => ?_) <;> (try exact no_ hb)) | refine aw_block ?_ | refine aw_exit ?_ | refine aw_ret ?_ | refine aw_skip ?_)
  all_goals exact end_ret (res_of rfl ⟨trivial, trivial, trivial⟩ rfl)
theorem arity_16 : Pure Tryz.prog 138 [.one (.int .i64 16)] (v2I (arity 16)) := by
  refine pure_of_aw tab_ok Tryz.func138 rfl rfl Tryz.ntmps138 (by simp) ?_
  simp only [argT, PV.av, List.map_cons, List.map_nil]
  repeat' (first | refine st_nil ?_ | (refine st_pop rfl rfl rfl rfl ?_ ?_; · exact ok_) | (refine st_lop rfl rfl rfl rfl ?_ ?_; · exact ok_) | (refine st_store rfl rfl rfl ?_ ?_; · exact ok_) | (refine st_lit rfl rfl rfl rfl ?_ ?_; · exact ok_) | refine st_skip rfl rfl rfl ?_ | refine st_skip0 rfl rfl ?_ | (refine st_if rfl (fun hb => ?_) (fun hb => ?_) <;> (first | exact no_ hb | rw [hb])) | refine aw_seq ?_ | refine aw_region tab_ok _ rfl ?_ | refine aw_drawn2 tabS_ok _ rfl mixed (by decide +kernel) ?_ | (refine aw_cond rfl (fun hb => ?_) (fun hb => ?_) <;> (try exact no_ hb)) | refine aw_block ?_ | refine aw_exit ?_ | refine aw_ret ?_ | refine aw_skip ?_)
  all_goals exact end_ret (res_of rfl ⟨trivial, trivial, trivial⟩ rfl)
theorem arity_17 : Pure Tryz.prog 138 [.one (.int .i64 17)] (v2I (arity 17)) := by
  refine pure_of_aw tab_ok Tryz.func138 rfl rfl Tryz.ntmps138 (by simp) ?_
  simp only [argT, PV.av, List.map_cons, List.map_nil]
  repeat' (first | refine st_nil ?_ | (refine st_pop rfl rfl rfl rfl ?_ ?_; · exact ok_) | (refine st_lop rfl rfl rfl rfl ?_ ?_; · exact ok_) | (refine st_store rfl rfl rfl ?_ ?_; · exact ok_) | (refine st_lit rfl rfl rfl rfl ?_ ?_; · exact ok_) | refine st_skip rfl rfl rfl ?_ | refine st_skip0 rfl rfl ?_ | (refine st_if rfl (fun hb => ?_) (fun hb => ?_) <;> (first | exact no_ hb | rw [hb])) | refine aw_seq ?_ | refine aw_region tab_ok _ rfl ?_ | refine aw_drawn2 tabS_ok _ rfl mixed (by decide +kernel) ?_ | (refine aw_cond rfl (fun hb => ?_) (fun hb => ?_) <;> (try exact no_ hb)) | refine aw_block ?_ | refine aw_exit ?_ | refine aw_ret ?_ | refine aw_skip ?_)
  all_goals exact end_ret (res_of rfl ⟨trivial, trivial, trivial⟩ rfl)
theorem arity_18 : Pure Tryz.prog 138 [.one (.int .i64 18)] (v2I (arity 18)) := by
  refine pure_of_aw tab_ok Tryz.func138 rfl rfl Tryz.ntmps138 (by simp) ?_
  simp only [argT, PV.av, List.map_cons, List.map_nil]
  repeat' (first | refine st_nil ?_ | (refine st_pop rfl rfl rfl rfl ?_ ?_; · exact ok_) | (refine st_lop rfl rfl rfl rfl ?_ ?_; · exact ok_) | (refine st_store rfl rfl rfl ?_ ?_; · exact ok_) | (refine st_lit rfl rfl rfl rfl ?_ ?_; · exact ok_) | refine st_skip rfl rfl rfl ?_ | refine st_skip0 rfl rfl ?_ | (refine st_if rfl (fun hb => ?_) (fun hb => ?_) <;> (first | exact no_ hb | rw [hb])) | refine aw_seq ?_ | refine aw_region tab_ok _ rfl ?_ | refine aw_drawn2 tabS_ok _ rfl mixed (by decide +kernel) ?_ | (refine aw_cond rfl (fun hb => ?_) (fun hb => ?_) <;> (try exact no_ hb)) | refine aw_block ?_ | refine aw_exit ?_ | refine aw_ret ?_ | refine aw_skip ?_)
  all_goals exact end_ret (res_of rfl ⟨trivial, trivial, trivial⟩ rfl)
theorem arity_19 : Pure Tryz.prog 138 [.one (.int .i64 19)] (v2I (arity 19)) := by
  refine pure_of_aw tab_ok Tryz.func138 rfl rfl Tryz.ntmps138 (by simp) ?_
  simp only [argT, PV.av, List.map_cons, List.map_nil]
  repeat' (first | refine st_nil ?_ | (refine st_pop rfl rfl rfl rfl ?_ ?_; · exact ok_) | (refine st_lop rfl rfl rfl rfl ?_ ?_; · exact ok_) | (refine st_store rfl rfl rfl ?_ ?_; · exact ok_) | (refine st_lit rfl rfl rfl rfl ?_ ?_; · exact ok_) | refine st_skip rfl rfl rfl ?_ | refine st_skip0 rfl rfl ?_ | (refine st_if rfl (fun hb => ?_) (fun hb => ?_) <;> (first | exact no_ hb | rw [hb])) | refine aw_seq ?_ | refine aw_region tab_ok _ rfl ?_ | refine aw_drawn2 tabS_ok _ rfl mixed (by decide +kernel) ?_ | (refine aw_cond rfl (fun hb => ?_) (fun hb => ?_) <;> (try exact no_ hb)) | refine aw_block ?_ | refine aw_exit ?_ | refine aw_ret ?_ | refine aw_skip ?_)
  all_goals exact end_ret (res_of rfl ⟨trivial, trivial, trivial⟩ rfl)
theorem arity_20 : Pure Tryz.prog 138 [.one (.int .i64 20)] (v2I (arity 20)) := by
  refine pure_of_aw tab_ok Tryz.func138 rfl rfl Tryz.ntmps138 (by simp) ?_
  simp only [argT, PV.av, List.map_cons, List.map_nil]
  repeat' (first | refine st_nil ?_ | (refine st_pop rfl rfl rfl rfl ?_ ?_; · exact ok_) | (refine st_lop rfl rfl rfl rfl ?_ ?_; · exact ok_) | (refine st_store rfl rfl rfl ?_ ?_; · exact ok_) | (refine st_lit rfl rfl rfl rfl ?_ ?_; · exact ok_) | refine st_skip rfl rfl rfl ?_ | refine st_skip0 rfl rfl ?_ | (refine st_if rfl (fun hb => ?_) (fun hb => ?_) <;> (first | exact no_ hb | rw [hb])) | refine aw_seq ?_ | refine aw_region tab_ok _ rfl ?_ | refine aw_drawn2 tabS_ok _ rfl mixed (by decide +kernel) ?_ | (refine aw_cond rfl (fun hb => ?_) (fun hb => ?_) <;> (try exact no_ hb)) | refine aw_block ?_ | refine aw_exit ?_ | refine aw_ret ?_ | refine aw_skip ?_)
  all_goals exact end_ret (res_of rfl ⟨trivial, trivial, trivial⟩ rfl)
theorem arity_21 : Pure Tryz.prog 138 [.one (.int .i64 21)] (v2I (arity 21)) := by
  refine pure_of_aw tab_ok Tryz.func138 rfl rfl Tryz.ntmps138 (by simp) ?_
  simp only [argT, PV.av, List.map_cons, List.map_nil]
  repeat' (first | refine st_nil ?_ | (refine st_pop rfl rfl rfl rfl ?_ ?_; · exact ok_) | (refine st_lop rfl rfl rfl rfl ?_ ?_; · exact ok_) | (refine st_store rfl rfl rfl ?_ ?_; · exact ok_) | (refine st_lit rfl rfl rfl rfl ?_ ?_; · exact ok_) | refine st_skip rfl rfl rfl ?_ | refine st_skip0 rfl rfl ?_ | (refine st_if rfl (fun hb => ?_) (fun hb => ?_) <;> (first | exact no_ hb | rw [hb])) | refine aw_seq ?_ | refine aw_region tab_ok _ rfl ?_ | refine aw_drawn2 tabS_ok _ rfl mixed (by decide +kernel) ?_ | (refine aw_cond rfl (fun hb => ?_) (fun hb => ?_) <;> (try exact no_ hb)) | refine aw_block ?_ | refine aw_exit ?_ | refine aw_ret ?_ | refine aw_skip ?_)
  all_goals exact end_ret (res_of rfl ⟨trivial, trivial, trivial⟩ rfl)
theorem arity_22 : Pure Tryz.prog 138 [.one (.int .i64 22)] (v2I (arity 22)) := by
  refine pure_of_aw tab_ok Tryz.func138 rfl rfl Tryz.ntmps138 (by simp) ?_
  simp only [argT, PV.av, List.map_cons, List.map_nil]
  repeat' (first | refine st_nil ?_ | (refine st_pop rfl rfl rfl rfl ?_ ?_; · exact ok_) | (refine st_lop rfl rfl rfl rfl ?_ ?_; · exact ok_) | (refine st_store rfl rfl rfl ?_ ?_; · exact ok_) | (refine st_lit rfl rfl rfl rfl ?_ ?_; · exact ok_) | refine st_skip rfl rfl rfl ?_ | refine st_skip0 rfl rfl ?_ | (refine st_if rfl (fun hb => ?_) (fun hb => ?_) <;> (first | exact no_ hb | rw [hb])) | refine aw_seq ?_ | refine aw_region tab_ok _ rfl ?_ | refine aw_drawn2 tabS_ok _ rfl mixed (by decide +kernel) ?_ | (refine aw_cond rfl (fun hb => ?_) (fun hb => ?_) <;> (try exact no_ hb)) | refine aw_block ?_ | refine aw_exit ?_ | refine aw_ret ?_ | refine aw_skip ?_)
  all_goals exact end_ret (res_of rfl ⟨trivial, trivial, trivial⟩ rfl)
theorem arity_23 : Pure Tryz.prog 138 [.one (.int .i64 23)] (v2I (arity 23)) := by
  refine pure_of_aw tab_ok Tryz.func138 rfl rfl Tryz.ntmps138 (by simp) ?_
  simp only [argT, PV.av, List.map_cons, List.map_nil]
  repeat' (first | refine st_nil ?_ | (refine st_pop rfl rfl rfl rfl ?_ ?_; · exact ok_) | (refine st_lop rfl rfl rfl rfl ?_ ?_; · exact ok_) | (refine st_store rfl rfl rfl ?_ ?_; · exact ok_) | (refine st_lit rfl rfl rfl rfl ?_ ?_; · exact ok_) | refine st_skip rfl rfl rfl ?_ | refine st_skip0 rfl rfl ?_ | (refine st_if rfl (fun hb => ?_) (fun hb => ?_) <;> (first | exact no_ hb | rw [hb])) | refine aw_seq ?_ | refine aw_region tab_ok _ rfl ?_ | refine aw_drawn2 tabS_ok _ rfl mixed (by decide +kernel) ?_ | (refine aw_cond rfl (fun hb => ?_) (fun hb => ?_) <;> (try exact no_ hb)) | refine aw_block ?_ | refine aw_exit ?_ | refine aw_ret ?_ | refine aw_skip ?_)
  all_goals exact end_ret (res_of rfl ⟨trivial, trivial, trivial⟩ rfl)
theorem arity_24 : Pure Tryz.prog 138 [.one (.int .i64 24)] (v2I (arity 24)) := by
  refine pure_of_aw tab_ok Tryz.func138 rfl rfl Tryz.ntmps138 (by simp) ?_
  simp only [argT, PV.av, List.map_cons, List.map_nil]
  repeat' (first | refine st_nil ?_ | (refine st_pop rfl rfl rfl rfl ?_ ?_; · exact ok_) | (refine st_lop rfl rfl rfl rfl ?_ ?_; · exact ok_) | (refine st_store rfl rfl rfl ?_ ?_; · exact ok_) | (refine st_lit rfl rfl rfl rfl ?_ ?_; · exact ok_) | refine st_skip rfl rfl rfl ?_ | refine st_skip0 rfl rfl ?_ | (refine st_if rfl (fun hb => ?_) (fun hb => ?_) <;> (first | exact no_ hb | rw [hb])) | refine aw_seq ?_ | refine aw_region tab_ok _ rfl ?_ | refine aw_drawn2 tabS_ok _ rfl mixed (by decide +kernel) ?_ | (refine aw_cond rfl (fun hb => ?_) (fun hb => ?_) <;> (try exact no_ hb)) | refine aw_block ?_ | refine aw_exit ?_ | refine aw_ret ?_ | refine aw_skip ?_)
  all_goals exact end_ret (res_of rfl ⟨trivial, trivial, trivial⟩ rfl)
theorem arity_no (op : Int) (h : ∀ x ∈ opsL, op ≠ x) : Pure Tryz.prog 138 [.one (.int .i64 op)] (v2I (arity op)) := by
  refine pure_of_aw tab_ok Tryz.func138 rfl rfl Tryz.ntmps138 (by simp) ?_
  simp only [argT, PV.av, List.map_cons, List.map_nil]
  have q1 : decide (op = 1) = false := by simp [h 1 (by simp [opsL])]
  have q2 : decide (op = 2) = false := by simp [h 2 (by simp [opsL])]
  have q4 : decide (op = 4) = false := by simp [h 4 (by simp [opsL])]
  have q5 : decide (op = 5) = false := by simp [h 5 (by simp [opsL])]
  have q6 : decide (op = 6) = false := by simp [h 6 (by simp [opsL])]
  have q7 : decide (op = 7) = false := by simp [h 7 (by simp [opsL])]
  have q8 : decide (op = 8) = false := by simp [h 8 (by simp [opsL])]
  have q9 : decide (op = 9) = false := by simp [h 9 (by simp [opsL])]
  have q10 : decide (op = 10) = false := by simp [h 10 (by simp [opsL])]
  have q11 : decide (op = 11) = false := by simp [h 11 (by simp [opsL])]
  have q12 : decide (op = 12) = false := by simp [h 12 (by simp [opsL])]
  have q13 : decide (op = 13) = false := by simp [h 13 (by simp [opsL])]
  have q14 : decide (op = 14) = false := by simp [h 14 (by simp [opsL])]
  have q15 : decide (op = 15) = false := by simp [h 15 (by simp [opsL])]
  have q16 : decide (op = 16) = false := by simp [h 16 (by simp [opsL])]
  have q17 : decide (op = 17) = false := by simp [h 17 (by simp [opsL])]
  have q18 : decide (op = 18) = false := by simp [h 18 (by simp [opsL])]
  have q19 : decide (op = 19) = false := by simp [h 19 (by simp [opsL])]
  have q20 : decide (op = 20) = false := by simp [h 20 (by simp [opsL])]
  have q21 : decide (op = 21) = false := by simp [h 21 (by simp [opsL])]
  have q22 : decide (op = 22) = false := by simp [h 22 (by simp [opsL])]
  have q23 : decide (op = 23) = false := by simp [h 23 (by simp [opsL])]
  have q24 : decide (op = 24) = false := by simp [h 24 (by simp [opsL])]
  have hres : arity op = (-1, 0) := by unfold arity; simp only [inL, cond_false, q1, q2, q4, q5, q6, q7, q8, q9, q10, q11, q12, q13, q14, q15, q16, q17, q18, q19, q20, q21, q22, q23, q24]
  rw [hres]
  repeat' (first | refine st_nil ?_ | rw [q1] | rw [q2] | rw [q4] | rw [q5] | rw [q6] | rw [q7] | rw [q8] | rw [q9] | rw [q10] | rw [q11] | rw [q12] | rw [q13] | rw [q14] | rw [q15] | rw [q16] | rw [q17] | rw [q18] | rw [q19] | rw [q20] | rw [q21] | rw [q22] | rw [q23] | rw [q24] | (refine st_pop rfl rfl rfl rfl ?_ ?_; · exact ok_) | (refine st_lop rfl rfl rfl rfl ?_ ?_; · exact ok_) | (refine st_store rfl rfl rfl ?_ ?_; · exact ok_) | (refine st_lit rfl rfl rfl rfl ?_ ?_; · exact ok_) | refine st_skip rfl rfl rfl ?_ | refine st_skip0 rfl rfl ?_ | (refine st_if rfl (fun hb => ?_) (fun hb => ?_) <;> (first | exact no_ hb | rw [hb])) | refine aw_seq ?_ | refine aw_region tab_ok _ rfl ?_ | refine aw_drawn2 tabS_ok _ rfl mixed (by decide +kernel) ?_ | (refine aw_cond rfl (fun hb => ?_) (fun hb => ?_) <;> (try exact no_ hb)) | refine aw_block ?_ | refine aw_exit ?_ | refine aw_ret ?_ | refine aw_skip ?_)
  all_goals exact end_ret (res_of rfl ⟨trivial, trivial, trivial⟩ rfl)
theorem arity_pure (op : Int) : Pure Tryz.prog 138 [.one (.int .i64 op)] (v2I (arity op)) := by
  by_cases h : ∀ x ∈ opsL, op ≠ x
  · exact arity_no op h
  · obtain ⟨x, hx⟩ := Classical.not_forall.1 h
    have hx2 : x ∈ opsL ∧ op = x := by
      by_cases hm : x ∈ opsL
      · exact ⟨hm, Classical.byContradiction fun e => hx fun _ => e⟩
      · exact absurd (fun h => absurd h hm) hx
    obtain ⟨hm, rfl⟩ := hx2
    simp only [opsL, List.mem_cons, List.not_mem_nil, or_false] at hm
    rcases hm with rfl | rfl | rfl | rfl | rfl | rfl | rfl | rfl | rfl | rfl | rfl | rfl | rfl | rfl | rfl | rfl | rfl | rfl | rfl | rfl | rfl | rfl | rfl
    · exact arity_1
    · exact arity_2
    · exact arity_4
    · exact arity_5
    · exact arity_6
    · exact arity_7
    · exact arity_8
    · exact arity_9
    · exact arity_10
    · exact arity_11
    · exact arity_12
    · exact arity_13
    · exact arity_14
    · exact arity_15
    · exact arity_16
    · exact arity_17
    · exact arity_18
    · exact arity_19
    · exact arity_20
    · exact arity_21
    · exact arity_22
    · exact arity_23
    · exact arity_24
end Go.Proofs.YtfpbmfalamappaaGreatDoor

namespace Go.Proofs.YtfpbmfalamappaaGreatDoor
open Go.RowKit Go.MapKept
set_option maxRecDepth 100000
def kOK (k : Int) : Bool := inL k [1, 2, 3]
def basicF (l : List Int) : Bool := l.all kOK
theorem kOK_iff (k : Int) : kOK k = true ↔ 1 ≤ k ∧ k ≤ 3 := by
  unfold kOK
  constructor
  · intro h
    by_cases h1 : k = 1
    · omega
    · by_cases h2 : k = 2
      · omega
      · by_cases h3 : k = 3
        · omega
        · simp [inL, h1, h2, h3] at h
  · intro h
    have : k = 1 ∨ k = 2 ∨ k = 3 := by omega
    rcases this with rfl | rfl | rfl <;> rfl
theorem all_stop {α : Type} {l : List α} {p : α → Bool} {i : Nat} {x : α} (hx : l[i]? = some x) (h : p x = false) : false = l.all p := by
  symm; rw [Bool.eq_false_iff]; intro hh; have := List.all_eq_true.1 hh x (List.mem_of_getElem? hx); rw [h] at this; cases this
theorem all_next {α : Type} {l : List α} {p : α → Bool} {i : Nat} {x : α} (hx : l[i]? = some x) (h : p x = true) (ha : (l.take i).all p = true) : (l.take (i + 1)).all p = true := by rw [take_succ hx, List.all_append, ha]; simp [h]
theorem kind_pure (k : Int) : Pure Tryz.prog 126 [.one (.int .i64 k)] (vBool (kOK k)) := by
  refine pure_of_aw tab_ok Tryz.func126 rfl rfl Tryz.ntmps126 (by simp) ?_
  simp only [argT, PV.av, List.map_cons, List.map_nil]
  repeat' (first | refine st_nil ?_ | (refine st_pop rfl rfl rfl rfl ?_ ?_; · exact ok_) | (refine st_lop rfl rfl rfl rfl ?_ ?_; · exact ok_) | (refine st_store rfl rfl rfl ?_ ?_; · exact ok_) | (refine st_lit rfl rfl rfl rfl ?_ ?_; · exact ok_) | refine st_skip rfl rfl rfl ?_ | refine st_skip0 rfl rfl ?_ | (refine st_if rfl (fun hb => ?_) (fun hb => ?_) <;> (first | exact no_ hb | rw [hb])) | refine aw_seq ?_ | refine aw_region tab_ok _ rfl ?_ | refine aw_drawn2 tabS_ok _ rfl mixed (by decide +kernel) ?_ | (refine aw_cond rfl (fun hb => ?_) (fun hb => ?_) <;> (try exact no_ hb)) | refine aw_block ?_ | refine aw_exit ?_ | refine aw_ret ?_ | refine aw_skip ?_)
  all_goals (refine end_ret (res_of rfl (by trivial) (vBool_eq ?_)); unfold kOK; simp only [inL, *, cond_true, cond_false]; try (first | rfl | (cases decide (k = 3) <;> rfl)))
theorem basic_pure (l : List Int) (hl : l.length ≤ 1000000) : Pure Tryz.prog 80 [.one (tInts l)] (vBool (basicF l)) := by
  refine pure_of_aw tab_ok Tryz.func80 rfl rfl Tryz.ntmps80 (by simp) ?_
  simp only [argT, PV.av, List.map_cons, List.map_nil]
  obtain ⟨n, hn⟩ : ∃ n, l.length = n := ⟨_, rfl⟩
  have hml : (((l.map fun x => [AC.int .i64 x]).length : Nat) : Int) = n := by simp [hn]
  repeat' (first | refine st_nil ?_ | (refine st_pop rfl rfl rfl rfl ?_ ?_; · exact ok_) | (refine st_lop rfl rfl rfl rfl ?_ ?_; · exact ok_) | (refine st_store rfl rfl rfl ?_ ?_; · exact ok_) | (refine st_lit rfl rfl rfl rfl ?_ ?_; · exact ok_) | refine st_skip rfl rfl rfl ?_ | refine st_skip0 rfl rfl ?_ | (refine st_if rfl (fun hb => ?_) (fun hb => ?_) <;> (first | exact no_ hb | rw [hb])) | refine aw_seq ?_ | refine aw_region tab_ok _ rfl ?_ | refine aw_drawn2 tabS_ok _ rfl mixed (by decide +kernel) ?_ | (refine aw_cond rfl (fun hb => ?_) (fun hb => ?_) <;> (try exact no_ hb)) | refine aw_block ?_ | refine aw_exit ?_ | refine aw_ret ?_ | refine aw_skip ?_)
  refine aw_loop (fun i : Nat => [(5, .one (.c (tInts l))), (6, .one (.c (.int .i64 n))), (7, .one (.c (.int .i64 i)))]) (fun _ => []) (fun i => i ≤ n ∧ (l.take i).all kOK = true) (fun i => n - i) 0 ⟨by omega, by simp⟩ (fun _ _ => Nat.zero_le _)
    (fits_mk ⟨rfl, slot_int hml, rfl, trivial⟩ [] rfl ft_ ft_) ?_
  rintro i ⟨hi, hall⟩
  by_cases hlt : i < n
  · obtain ⟨x, hx⟩ := get_of_lt (show i < l.length by omega)
    have hN : decide ((i : Int) < n) = true := by simp; exact hlt
    have hix : (l.map fun x => [AC.int .i64 x])[((i : Nat) : Int).toNat]? = some [.int .i64 x] := idx_map hx
    cases hk : kOK x with
    | true =>
      have hk2 := (kOK_iff x).1 hk
      have q1 : decide (x < 1) = false := by simp; omega
      have q2 : decide (3 < x) = false := by simp; omega
      repeat' (first | refine st_nil ?_ | rw [hN] | rw [q1] | rw [q2] | (refine st_pop rfl rfl rfl rfl ?_ ?_; · exact ok_) | (refine st_idx rfl rfl rfl rfl rfl rfl rfl rfl hix ?_ ?_; · exact ⟨by omega, rfl⟩) | (refine st_lop rfl rfl rfl rfl ?_ ?_; · exact ok_) | (refine st_store rfl rfl rfl ?_ ?_; · exact ok_) | (refine st_lit rfl rfl rfl rfl ?_ ?_; · exact ok_) | refine st_skip rfl rfl rfl ?_ | refine st_skip0 rfl rfl ?_ | (refine st_if rfl (fun hb => ?_) (fun hb => ?_) <;> (first | exact no_ hb | rw [hb])) | refine aw_seq ?_ | refine aw_region tab_ok _ rfl ?_ | refine aw_drawn2 tabS_ok _ rfl mixed (by decide +kernel) ?_ | (refine aw_cond rfl (fun hb => ?_) (fun hb => ?_) <;> (try exact no_ hb)) | refine aw_block ?_ | refine aw_exit ?_ | refine aw_ret ?_ | refine aw_skip ?_)
      exact ⟨i + 1, ⟨by omega, all_next hx hk hall⟩, by omega, fits_mk ⟨rfl, rfl, slot_int (wrap_eq (by omega) (by omega)), trivial⟩ [] rfl ft_ ft_⟩
    | false =>
      have hk2 : ¬ (1 ≤ x ∧ x ≤ 3) := fun h => by rw [(kOK_iff x).2 h] at hk; cases hk
      by_cases h1 : x < 1
      · have q1 : decide (x < 1) = true := by simp [h1]
        repeat' (first | refine st_nil ?_ | rw [hN] | rw [q1] | (refine st_pop rfl rfl rfl rfl ?_ ?_; · exact ok_) | (refine st_idx rfl rfl rfl rfl rfl rfl rfl rfl hix ?_ ?_; · exact ⟨by omega, rfl⟩) | (refine st_lop rfl rfl rfl rfl ?_ ?_; · exact ok_) | (refine st_store rfl rfl rfl ?_ ?_; · exact ok_) | (refine st_lit rfl rfl rfl rfl ?_ ?_; · exact ok_) | refine st_skip rfl rfl rfl ?_ | refine st_skip0 rfl rfl ?_ | (refine st_if rfl (fun hb => ?_) (fun hb => ?_) <;> (first | exact no_ hb | rw [hb])) | refine aw_seq ?_ | refine aw_region tab_ok _ rfl ?_ | refine aw_drawn2 tabS_ok _ rfl mixed (by decide +kernel) ?_ | (refine aw_cond rfl (fun hb => ?_) (fun hb => ?_) <;> (try exact no_ hb)) | refine aw_block ?_ | refine aw_exit ?_ | refine aw_ret ?_ | refine aw_skip ?_)
        exact end_ret (res_of rfl (by trivial) (vBool_eq (all_stop hx hk)))
      · have q1 : decide (x < 1) = false := by simp [h1]
        have q2 : decide (3 < x) = true := by simp; omega
        repeat' (first | refine st_nil ?_ | rw [hN] | rw [q1] | rw [q2] | (refine st_pop rfl rfl rfl rfl ?_ ?_; · exact ok_) | (refine st_idx rfl rfl rfl rfl rfl rfl rfl rfl hix ?_ ?_; · exact ⟨by omega, rfl⟩) | (refine st_lop rfl rfl rfl rfl ?_ ?_; · exact ok_) | (refine st_store rfl rfl rfl ?_ ?_; · exact ok_) | (refine st_lit rfl rfl rfl rfl ?_ ?_; · exact ok_) | refine st_skip rfl rfl rfl ?_ | refine st_skip0 rfl rfl ?_ | (refine st_if rfl (fun hb => ?_) (fun hb => ?_) <;> (first | exact no_ hb | rw [hb])) | refine aw_seq ?_ | refine aw_region tab_ok _ rfl ?_ | refine aw_drawn2 tabS_ok _ rfl mixed (by decide +kernel) ?_ | (refine aw_cond rfl (fun hb => ?_) (fun hb => ?_) <;> (try exact no_ hb)) | refine aw_block ?_ | refine aw_exit ?_ | refine aw_ret ?_ | refine aw_skip ?_)
        exact end_ret (res_of rfl (by trivial) (vBool_eq (all_stop hx hk)))
  · have hN : decide ((i : Int) < n) = false := by simp; omega
    rw [List.take_of_length_le (by omega)] at hall
    repeat' (first | refine st_nil ?_ | rw [hN] | (refine st_pop rfl rfl rfl rfl ?_ ?_; · exact ok_) | (refine st_lop rfl rfl rfl rfl ?_ ?_; · exact ok_) | (refine st_store rfl rfl rfl ?_ ?_; · exact ok_) | (refine st_lit rfl rfl rfl rfl ?_ ?_; · exact ok_) | refine st_skip rfl rfl rfl ?_ | refine st_skip0 rfl rfl ?_ | (refine st_if rfl (fun hb => ?_) (fun hb => ?_) <;> (first | exact no_ hb | rw [hb])) | refine aw_seq ?_ | refine aw_region tab_ok _ rfl ?_ | refine aw_drawn2 tabS_ok _ rfl mixed (by decide +kernel) ?_ | (refine aw_cond rfl (fun hb => ?_) (fun hb => ?_) <;> (try exact no_ hb)) | refine aw_block ?_ | refine aw_exit ?_ | refine aw_ret ?_ | refine aw_skip ?_)
    exact end_ret (res_of rfl (by trivial) (vBool_eq hall.symm))
theorem kinds_pure (l : List Int) (hl : l.length ≤ 1000000) : Pure Tryz.prog 87 [.one (tInts l)] (vBool (basicF l)) := by
  refine pure_of_aw tab_ok Tryz.func87 rfl rfl Tryz.ntmps87 (by simp) ?_
  simp only [argT, PV.av, List.map_cons, List.map_nil]
  obtain ⟨n, hn⟩ : ∃ n, l.length = n := ⟨_, rfl⟩
  have hml : (((l.map fun x => [AC.int .i64 x]).length : Nat) : Int) = n := by simp [hn]
  repeat' (first | refine st_nil ?_ | (refine st_pop rfl rfl rfl rfl ?_ ?_; · exact ok_) | (refine st_lop rfl rfl rfl rfl ?_ ?_; · exact ok_) | (refine st_store rfl rfl rfl ?_ ?_; · exact ok_) | (refine st_lit rfl rfl rfl rfl ?_ ?_; · exact ok_) | refine st_skip rfl rfl rfl ?_ | refine st_skip0 rfl rfl ?_ | (refine st_if rfl (fun hb => ?_) (fun hb => ?_) <;> (first | exact no_ hb | rw [hb])) | refine aw_seq ?_ | refine aw_region tab_ok _ rfl ?_ | refine aw_drawn2 tabS_ok _ rfl mixed (by decide +kernel) ?_ | (refine aw_cond rfl (fun hb => ?_) (fun hb => ?_) <;> (try exact no_ hb)) | refine aw_block ?_ | refine aw_exit ?_ | refine aw_ret ?_ | refine aw_skip ?_)
  refine aw_loop (fun i : Nat => [(0, .one (.c (tInts l))), (3, .one (.c (.int .i64 i)))]) (fun _ => []) (fun i => i ≤ n ∧ (l.take i).all kOK = true) (fun i => n - i) 0 ⟨by omega, by simp⟩ (fun _ _ => Nat.zero_le _)
    (fits_mk ⟨rfl, rfl, trivial⟩ [] rfl ft_ ft_) ?_
  rintro i ⟨hi, hall⟩
  by_cases hlt : i < n
  · obtain ⟨x, hx⟩ := get_of_lt (show i < l.length by omega)
    have hN : decide ((i : Int) < ((l.map fun x => [AC.int .i64 x]).length : Nat)) = true := by rw [hml]; simp; exact hlt
    have hix : (l.map fun x => [AC.int .i64 x])[((i : Nat) : Int).toNat]? = some [.int .i64 x] := idx_map hx
    have hkp := kind_pure x
    cases hk : kOK x with
    | true =>
      rw [hk] at hkp
      repeat' (first | refine st_nil ?_ | rw [hN] | (refine st_pop rfl rfl rfl rfl ?_ ?_; · exact ok_) | (refine st_idx rfl rfl rfl rfl rfl rfl rfl rfl hix ?_ ?_; · exact ⟨by omega, rfl⟩) | (refine st_lop rfl rfl rfl rfl ?_ ?_; · exact ok_) | (refine st_store rfl rfl rfl ?_ ?_; · exact ok_) | (refine st_lit rfl rfl rfl rfl ?_ ?_; · exact ok_) | refine st_skip rfl rfl rfl ?_ | refine st_skip0 rfl rfl ?_ | refine st_call rfl rfl rfl rfl hkp rfl ?_ | (refine st_if rfl (fun hb => ?_) (fun hb => ?_) <;> (first | exact no_ hb | rw [hb])) | refine aw_seq ?_ | refine aw_region tab_ok _ rfl ?_ | refine aw_drawn2 tabS_ok _ rfl mixed (by decide +kernel) ?_ | (refine aw_cond rfl (fun hb => ?_) (fun hb => ?_) <;> (try exact no_ hb)) | refine aw_block ?_ | refine aw_exit ?_ | refine aw_ret ?_ | refine aw_skip ?_)
      exact ⟨i + 1, ⟨by omega, all_next hx hk hall⟩, by omega, fits_mk ⟨rfl, slot_int (wrap_eq (by omega) (by omega)), trivial⟩ [] rfl ft_ ft_⟩
    | false =>
      rw [hk] at hkp
      repeat' (first | refine st_nil ?_ | rw [hN] | (refine st_pop rfl rfl rfl rfl ?_ ?_; · exact ok_) | (refine st_idx rfl rfl rfl rfl rfl rfl rfl rfl hix ?_ ?_; · exact ⟨by omega, rfl⟩) | (refine st_lop rfl rfl rfl rfl ?_ ?_; · exact ok_) | (refine st_store rfl rfl rfl ?_ ?_; · exact ok_) | (refine st_lit rfl rfl rfl rfl ?_ ?_; · exact ok_) | refine st_skip rfl rfl rfl ?_ | refine st_skip0 rfl rfl ?_ | refine st_call rfl rfl rfl rfl hkp rfl ?_ | (refine st_if rfl (fun hb => ?_) (fun hb => ?_) <;> (first | exact no_ hb | rw [hb])) | refine aw_seq ?_ | refine aw_region tab_ok _ rfl ?_ | refine aw_drawn2 tabS_ok _ rfl mixed (by decide +kernel) ?_ | (refine aw_cond rfl (fun hb => ?_) (fun hb => ?_) <;> (try exact no_ hb)) | refine aw_block ?_ | refine aw_exit ?_ | refine aw_ret ?_ | refine aw_skip ?_)
      exact end_ret (res_of rfl (by trivial) (vBool_eq (all_stop hx hk)))
  · have hN : decide ((i : Int) < ((l.map fun x => [AC.int .i64 x]).length : Nat)) = false := by rw [hml]; simp; omega
    rw [List.take_of_length_le (by omega)] at hall
    repeat' (first | refine st_nil ?_ | rw [hN] | (refine st_pop rfl rfl rfl rfl ?_ ?_; · exact ok_) | (refine st_lop rfl rfl rfl rfl ?_ ?_; · exact ok_) | (refine st_store rfl rfl rfl ?_ ?_; · exact ok_) | (refine st_lit rfl rfl rfl rfl ?_ ?_; · exact ok_) | refine st_skip rfl rfl rfl ?_ | refine st_skip0 rfl rfl ?_ | (refine st_if rfl (fun hb => ?_) (fun hb => ?_) <;> (first | exact no_ hb | rw [hb])) | refine aw_seq ?_ | refine aw_region tab_ok _ rfl ?_ | refine aw_drawn2 tabS_ok _ rfl mixed (by decide +kernel) ?_ | (refine aw_cond rfl (fun hb => ?_) (fun hb => ?_) <;> (try exact no_ hb)) | refine aw_block ?_ | refine aw_exit ?_ | refine aw_ret ?_ | refine aw_skip ?_)
    exact end_ret (res_of rfl (by trivial) (vBool_eq hall.symm))
def inpF (op : Int) : Int := bif inL op [1, 2] then 0 else bif inL op [3, 4, 10, 11] then 1 else bif inL op [5, 6, 7, 8, 9] then 2 else -1
def plansL : List Int := [1, 2, 3, 4, 5, 6, 7, 8, 9, 10, 11]
theorem inputs_1 : Pure Tryz.prog 48 [.one (.int .i64 1)] (vInt (inpF 1)) := by
  refine pure_of_aw tab_ok Tryz.func48 rfl rfl Tryz.ntmps48 (by simp) ?_
  simp only [argT, PV.av, List.map_cons, List.map_nil]
  repeat' (first | refine st_nil ?_ | (refine st_pop rfl rfl rfl rfl ?_ ?_; · exact ok_) | (refine st_lop rfl rfl rfl rfl ?_ ?_; · exact ok_) | (refine st_store rfl rfl rfl ?_ ?_; · exact ok_) | (refine st_lit rfl rfl rfl rfl ?_ ?_; · exact ok_) | refine st_skip rfl rfl rfl ?_ | refine st_skip0 rfl rfl ?_ | (refine st_if rfl (fun hb => ?_) (fun hb => ?_) <;> (first | exact no_ hb | rw [hb])) | refine aw_seq ?_ | refine aw_region tab_ok _ rfl ?_ | refine aw_drawn2 tabS_ok _ rfl mixed (by decide +kernel) ?_ | (refine aw_cond rfl (fun hb => ?_) (fun hb => ?_) <;> (try exact no_ hb)) | refine aw_block ?_ | refine aw_exit ?_ | refine aw_ret ?_ | refine aw_skip ?_)
  all_goals exact end_ret (res_of rfl (by trivial) rfl)
theorem inputs_2 : Pure Tryz.prog 48 [.one (.int .i64 2)] (vInt (inpF 2)) := by
  refine pure_of_aw tab_ok Tryz.func48 rfl rfl Tryz.ntmps48 (by simp) ?_
  simp only [argT, PV.av, List.map_cons, List.map_nil]
  repeat' (first | refine st_nil ?_ | (refine st_pop rfl rfl rfl rfl ?_ ?_; · exact ok_) | (refine st_lop rfl rfl rfl rfl ?_ ?_; · exact ok_) | (refine st_store rfl rfl rfl ?_ ?_; · exact ok_) | (refine st_lit rfl rfl rfl rfl ?_ ?_; · exact ok_) | refine st_skip rfl rfl rfl ?_ | refine st_skip0 rfl rfl ?_ | (refine st_if rfl (fun hb => ?_) (fun hb => ?_) <;> (first | exact no_ hb | rw [hb])) | refine aw_seq ?_ | refine aw_region tab_ok _ rfl ?_ | refine aw_drawn2 tabS_ok _ rfl mixed (by decide +kernel) ?_ | (refine aw_cond rfl (fun hb => ?_) (fun hb => ?_) <;> (try exact no_ hb)) | refine aw_block ?_ | refine aw_exit ?_ | refine aw_ret ?_ | refine aw_skip ?_)
  all_goals exact end_ret (res_of rfl (by trivial) rfl)
theorem inputs_3 : Pure Tryz.prog 48 [.one (.int .i64 3)] (vInt (inpF 3)) := by
  refine pure_of_aw tab_ok Tryz.func48 rfl rfl Tryz.ntmps48 (by simp) ?_
  simp only [argT, PV.av, List.map_cons, List.map_nil]
  repeat' (first | refine st_nil ?_ | (refine st_pop rfl rfl rfl rfl ?_ ?_; · exact ok_) | (refine st_lop rfl rfl rfl rfl ?_ ?_; · exact ok_) | (refine st_store rfl rfl rfl ?_ ?_; · exact ok_) | (refine st_lit rfl rfl rfl rfl ?_ ?_; · exact ok_) | refine st_skip rfl rfl rfl ?_ | refine st_skip0 rfl rfl ?_ | (refine st_if rfl (fun hb => ?_) (fun hb => ?_) <;> (first | exact no_ hb | rw [hb])) | refine aw_seq ?_ | refine aw_region tab_ok _ rfl ?_ | refine aw_drawn2 tabS_ok _ rfl mixed (by decide +kernel) ?_ | (refine aw_cond rfl (fun hb => ?_) (fun hb => ?_) <;> (try exact no_ hb)) | refine aw_block ?_ | refine aw_exit ?_ | refine aw_ret ?_ | refine aw_skip ?_)
  all_goals exact end_ret (res_of rfl (by trivial) rfl)
theorem inputs_4 : Pure Tryz.prog 48 [.one (.int .i64 4)] (vInt (inpF 4)) := by
  refine pure_of_aw tab_ok Tryz.func48 rfl rfl Tryz.ntmps48 (by simp) ?_
  simp only [argT, PV.av, List.map_cons, List.map_nil]
  repeat' (first | refine st_nil ?_ | (refine st_pop rfl rfl rfl rfl ?_ ?_; · exact ok_) | (refine st_lop rfl rfl rfl rfl ?_ ?_; · exact ok_) | (refine st_store rfl rfl rfl ?_ ?_; · exact ok_) | (refine st_lit rfl rfl rfl rfl ?_ ?_; · exact ok_) | refine st_skip rfl rfl rfl ?_ | refine st_skip0 rfl rfl ?_ | (refine st_if rfl (fun hb => ?_) (fun hb => ?_) <;> (first | exact no_ hb | rw [hb])) | refine aw_seq ?_ | refine aw_region tab_ok _ rfl ?_ | refine aw_drawn2 tabS_ok _ rfl mixed (by decide +kernel) ?_ | (refine aw_cond rfl (fun hb => ?_) (fun hb => ?_) <;> (try exact no_ hb)) | refine aw_block ?_ | refine aw_exit ?_ | refine aw_ret ?_ | refine aw_skip ?_)
  all_goals exact end_ret (res_of rfl (by trivial) rfl)
theorem inputs_5 : Pure Tryz.prog 48 [.one (.int .i64 5)] (vInt (inpF 5)) := by
  refine pure_of_aw tab_ok Tryz.func48 rfl rfl Tryz.ntmps48 (by simp) ?_
  simp only [argT, PV.av, List.map_cons, List.map_nil]
  repeat' (first | refine st_nil ?_ | (refine st_pop rfl rfl rfl rfl ?_ ?_; · exact ok_) | (refine st_lop rfl rfl rfl rfl ?_ ?_; · exact ok_) | (refine st_store rfl rfl rfl ?_ ?_; · exact ok_) | (refine st_lit rfl rfl rfl rfl ?_ ?_; · exact ok_) | refine st_skip rfl rfl rfl ?_ | refine st_skip0 rfl rfl ?_ | (refine st_if rfl (fun hb => ?_) (fun hb => ?_) <;> (first | exact no_ hb | rw [hb])) | refine aw_seq ?_ | refine aw_region tab_ok _ rfl ?_ | refine aw_drawn2 tabS_ok _ rfl mixed (by decide +kernel) ?_ | (refine aw_cond rfl (fun hb => ?_) (fun hb => ?_) <;> (try exact no_ hb)) | refine aw_block ?_ | refine aw_exit ?_ | refine aw_ret ?_ | refine aw_skip ?_)
  all_goals exact end_ret (res_of rfl (by trivial) rfl)
theorem inputs_6 : Pure Tryz.prog 48 [.one (.int .i64 6)] (vInt (inpF 6)) := by
  refine pure_of_aw tab_ok Tryz.func48 rfl rfl Tryz.ntmps48 (by simp) ?_
  simp only [argT, PV.av, List.map_cons, List.map_nil]
  repeat' (first | refine st_nil ?_ | (refine st_pop rfl rfl rfl rfl ?_ ?_; · exact ok_) | (refine st_lop rfl rfl rfl rfl ?_ ?_; · exact ok_) | (refine st_store rfl rfl rfl ?_ ?_; · exact ok_) | (refine st_lit rfl rfl rfl rfl ?_ ?_; · exact ok_) | refine st_skip rfl rfl rfl ?_ | refine st_skip0 rfl rfl ?_ | (refine st_if rfl (fun hb => ?_) (fun hb => ?_) <;> (first | exact no_ hb | rw [hb])) | refine aw_seq ?_ | refine aw_region tab_ok _ rfl ?_ | refine aw_drawn2 tabS_ok _ rfl mixed (by decide +kernel) ?_ | (refine aw_cond rfl (fun hb => ?_) (fun hb => ?_) <;> (try exact no_ hb)) | refine aw_block ?_ | refine aw_exit ?_ | refine aw_ret ?_ | refine aw_skip ?_)
  all_goals exact end_ret (res_of rfl (by trivial) rfl)
theorem inputs_7 : Pure Tryz.prog 48 [.one (.int .i64 7)] (vInt (inpF 7)) := by
  refine pure_of_aw tab_ok Tryz.func48 rfl rfl Tryz.ntmps48 (by simp) ?_
  simp only [argT, PV.av, List.map_cons, List.map_nil]
  repeat' (first | refine st_nil ?_ | (refine st_pop rfl rfl rfl rfl ?_ ?_; · exact ok_) | (refine st_lop rfl rfl rfl rfl ?_ ?_; · exact ok_) | (refine st_store rfl rfl rfl ?_ ?_; · exact ok_) | (refine st_lit rfl rfl rfl rfl ?_ ?_; · exact ok_) | refine st_skip rfl rfl rfl ?_ | refine st_skip0 rfl rfl ?_ | (refine st_if rfl (fun hb => ?_) (fun hb => ?_) <;> (first | exact no_ hb | rw [hb])) | refine aw_seq ?_ | refine aw_region tab_ok _ rfl ?_ | refine aw_drawn2 tabS_ok _ rfl mixed (by decide +kernel) ?_ | (refine aw_cond rfl (fun hb => ?_) (fun hb => ?_) <;> (try exact no_ hb)) | refine aw_block ?_ | refine aw_exit ?_ | refine aw_ret ?_ | refine aw_skip ?_)
  all_goals exact end_ret (res_of rfl (by trivial) rfl)
theorem inputs_8 : Pure Tryz.prog 48 [.one (.int .i64 8)] (vInt (inpF 8)) := by
  refine pure_of_aw tab_ok Tryz.func48 rfl rfl Tryz.ntmps48 (by simp) ?_
  simp only [argT, PV.av, List.map_cons, List.map_nil]
  repeat' (first | refine st_nil ?_ | (refine st_pop rfl rfl rfl rfl ?_ ?_; · exact ok_) | (refine st_lop rfl rfl rfl rfl ?_ ?_; · exact ok_) | (refine st_store rfl rfl rfl ?_ ?_; · exact ok_) | (refine st_lit rfl rfl rfl rfl ?_ ?_; · exact ok_) | refine st_skip rfl rfl rfl ?_ | refine st_skip0 rfl rfl ?_ | (refine st_if rfl (fun hb => ?_) (fun hb => ?_) <;> (first | exact no_ hb | rw [hb])) | refine aw_seq ?_ | refine aw_region tab_ok _ rfl ?_ | refine aw_drawn2 tabS_ok _ rfl mixed (by decide +kernel) ?_ | (refine aw_cond rfl (fun hb => ?_) (fun hb => ?_) <;> (try exact no_ hb)) | refine aw_block ?_ | refine aw_exit ?_ | refine aw_ret ?_ | refine aw_skip ?_)
  all_goals exact end_ret (res_of rfl (by trivial) rfl)
theorem inputs_9 : Pure Tryz.prog 48 [.one (.int .i64 9)] (vInt (inpF 9)) := by
  refine pure_of_aw tab_ok Tryz.func48 rfl rfl Tryz.ntmps48 (by simp) ?_
  simp only [argT, PV.av, List.map_cons, List.map_nil]
  repeat' (first | refine st_nil ?_ | (refine st_pop rfl rfl rfl rfl ?_ ?_; · exact ok_) | (refine st_lop rfl rfl rfl rfl ?_ ?_; · exact ok_) | (refine st_store rfl rfl rfl ?_ ?_; · exact ok_) | (refine st_lit rfl rfl rfl rfl ?_ ?_; · exact ok_) | refine st_skip rfl rfl rfl ?_ | refine st_skip0 rfl rfl ?_ | (refine st_if rfl (fun hb => ?_) (fun hb => ?_) <;> (first | exact no_ hb | rw [hb])) | refine aw_seq ?_ | refine aw_region tab_ok _ rfl ?_ | refine aw_drawn2 tabS_ok _ rfl mixed (by decide +kernel) ?_ | (refine aw_cond rfl (fun hb => ?_) (fun hb => ?_) <;> (try exact no_ hb)) | refine aw_block ?_ | refine aw_exit ?_ | refine aw_ret ?_ | refine aw_skip ?_)
  all_goals exact end_ret (res_of rfl (by trivial) rfl)
theorem inputs_10 : Pure Tryz.prog 48 [.one (.int .i64 10)] (vInt (inpF 10)) := by
  refine pure_of_aw tab_ok Tryz.func48 rfl rfl Tryz.ntmps48 (by simp) ?_
  simp only [argT, PV.av, List.map_cons, List.map_nil]
  repeat' (first | refine st_nil ?_ | (refine st_pop rfl rfl rfl rfl ?_ ?_; · exact ok_) | (refine st_lop rfl rfl rfl rfl ?_ ?_; · exact ok_) | (refine st_store rfl rfl rfl ?_ ?_; · exact ok_) | (refine st_lit rfl rfl rfl rfl ?_ ?_; · exact ok_) | refine st_skip rfl rfl rfl ?_ | refine st_skip0 rfl rfl ?_ | (refine st_if rfl (fun hb => ?_) (fun hb => ?_) <;> (first | exact no_ hb | rw [hb])) | refine aw_seq ?_ | refine aw_region tab_ok _ rfl ?_ | refine aw_drawn2 tabS_ok _ rfl mixed (by decide +kernel) ?_ | (refine aw_cond rfl (fun hb => ?_) (fun hb => ?_) <;> (try exact no_ hb)) | refine aw_block ?_ | refine aw_exit ?_ | refine aw_ret ?_ | refine aw_skip ?_)
  all_goals exact end_ret (res_of rfl (by trivial) rfl)
theorem inputs_11 : Pure Tryz.prog 48 [.one (.int .i64 11)] (vInt (inpF 11)) := by
  refine pure_of_aw tab_ok Tryz.func48 rfl rfl Tryz.ntmps48 (by simp) ?_
  simp only [argT, PV.av, List.map_cons, List.map_nil]
  repeat' (first | refine st_nil ?_ | (refine st_pop rfl rfl rfl rfl ?_ ?_; · exact ok_) | (refine st_lop rfl rfl rfl rfl ?_ ?_; · exact ok_) | (refine st_store rfl rfl rfl ?_ ?_; · exact ok_) | (refine st_lit rfl rfl rfl rfl ?_ ?_; · exact ok_) | refine st_skip rfl rfl rfl ?_ | refine st_skip0 rfl rfl ?_ | (refine st_if rfl (fun hb => ?_) (fun hb => ?_) <;> (first | exact no_ hb | rw [hb])) | refine aw_seq ?_ | refine aw_region tab_ok _ rfl ?_ | refine aw_drawn2 tabS_ok _ rfl mixed (by decide +kernel) ?_ | (refine aw_cond rfl (fun hb => ?_) (fun hb => ?_) <;> (try exact no_ hb)) | refine aw_block ?_ | refine aw_exit ?_ | refine aw_ret ?_ | refine aw_skip ?_)
  all_goals exact end_ret (res_of rfl (by trivial) rfl)
theorem inputs_no (op : Int) (h : ∀ x ∈ plansL, op ≠ x) : Pure Tryz.prog 48 [.one (.int .i64 op)] (vInt (inpF op)) := by
  refine pure_of_aw tab_ok Tryz.func48 rfl rfl Tryz.ntmps48 (by simp) ?_
  simp only [argT, PV.av, List.map_cons, List.map_nil]
  have q1 : decide (op = 1) = false := by simp [h 1 (by simp [plansL])]
  have q2 : decide (op = 2) = false := by simp [h 2 (by simp [plansL])]
  have q3 : decide (op = 3) = false := by simp [h 3 (by simp [plansL])]
  have q4 : decide (op = 4) = false := by simp [h 4 (by simp [plansL])]
  have q5 : decide (op = 5) = false := by simp [h 5 (by simp [plansL])]
  have q6 : decide (op = 6) = false := by simp [h 6 (by simp [plansL])]
  have q7 : decide (op = 7) = false := by simp [h 7 (by simp [plansL])]
  have q8 : decide (op = 8) = false := by simp [h 8 (by simp [plansL])]
  have q9 : decide (op = 9) = false := by simp [h 9 (by simp [plansL])]
  have q10 : decide (op = 10) = false := by simp [h 10 (by simp [plansL])]
  have q11 : decide (op = 11) = false := by simp [h 11 (by simp [plansL])]
  have hres : inpF op = -1 := by unfold inpF; simp only [inL, cond_false, q1, q2, q3, q4, q5, q6, q7, q8, q9, q10, q11]
  rw [hres]
  repeat' (first | refine st_nil ?_ | rw [q1] | rw [q2] | rw [q3] | rw [q4] | rw [q5] | rw [q6] | rw [q7] | rw [q8] | rw [q9] | rw [q10] | rw [q11] | (refine st_pop rfl rfl rfl rfl ?_ ?_; · exact ok_) | (refine st_lop rfl rfl rfl rfl ?_ ?_; · exact ok_) | (refine st_store rfl rfl rfl ?_ ?_; · exact ok_) | (refine st_lit rfl rfl rfl rfl ?_ ?_; · exact ok_) | refine st_skip rfl rfl rfl ?_ | refine st_skip0 rfl rfl ?_ | (refine st_if rfl (fun hb => ?_) (fun hb => ?_) <;> (first | exact no_ hb | rw [hb])) | refine aw_seq ?_ | refine aw_region tab_ok _ rfl ?_ | refine aw_drawn2 tabS_ok _ rfl mixed (by decide +kernel) ?_ | (refine aw_cond rfl (fun hb => ?_) (fun hb => ?_) <;> (try exact no_ hb)) | refine aw_block ?_ | refine aw_exit ?_ | refine aw_ret ?_ | refine aw_skip ?_)
  all_goals exact end_ret (res_of rfl (by trivial) rfl)
theorem inputs_pure (op : Int) : Pure Tryz.prog 48 [.one (.int .i64 op)] (vInt (inpF op)) := by
  by_cases h : ∀ x ∈ plansL, op ≠ x
  · exact inputs_no op h
  · obtain ⟨x, hx⟩ := Classical.not_forall.1 h
    have hx2 : x ∈ plansL ∧ op = x := by
      by_cases hm : x ∈ plansL
      · exact ⟨hm, Classical.byContradiction fun e => hx fun _ => e⟩
      · exact absurd (fun h => absurd h hm) hx
    obtain ⟨hm, rfl⟩ := hx2
    simp only [plansL, List.mem_cons, List.not_mem_nil, or_false] at hm
    rcases hm with rfl | rfl | rfl | rfl | rfl | rfl | rfl | rfl | rfl | rfl | rfl
    · exact inputs_1
    · exact inputs_2
    · exact inputs_3
    · exact inputs_4
    · exact inputs_5
    · exact inputs_6
    · exact inputs_7
    · exact inputs_8
    · exact inputs_9
    · exact inputs_10
    · exact inputs_11
theorem inputsR_1 : Pure Tryz.prog 84 [.one (.int .i64 1)] (vInt (inpF 1)) := by
  refine pure_of_aw tab_ok Tryz.func84 rfl rfl Tryz.ntmps84 (by simp) ?_
  simp only [argT, PV.av, List.map_cons, List.map_nil]
  repeat' (first | refine st_nil ?_ | (refine st_pop rfl rfl rfl rfl ?_ ?_; · exact ok_) | (refine st_lop rfl rfl rfl rfl ?_ ?_; · exact ok_) | (refine st_store rfl rfl rfl ?_ ?_; · exact ok_) | (refine st_lit rfl rfl rfl rfl ?_ ?_; · exact ok_) | refine st_skip rfl rfl rfl ?_ | refine st_skip0 rfl rfl ?_ | (refine st_if rfl (fun hb => ?_) (fun hb => ?_) <;> (first | exact no_ hb | rw [hb])) | refine aw_seq ?_ | refine aw_region tab_ok _ rfl ?_ | refine aw_drawn2 tabS_ok _ rfl mixed (by decide +kernel) ?_ | (refine aw_cond rfl (fun hb => ?_) (fun hb => ?_) <;> (try exact no_ hb)) | refine aw_block ?_ | refine aw_exit ?_ | refine aw_ret ?_ | refine aw_skip ?_)
  all_goals exact end_ret (res_of rfl (by trivial) rfl)
theorem inputsR_2 : Pure Tryz.prog 84 [.one (.int .i64 2)] (vInt (inpF 2)) := by
  refine pure_of_aw tab_ok Tryz.func84 rfl rfl Tryz.ntmps84 (by simp) ?_
  simp only [argT, PV.av, List.map_cons, List.map_nil]
  repeat' (first | refine st_nil ?_ | (refine st_pop rfl rfl rfl rfl ?_ ?_; · exact ok_) | (refine st_lop rfl rfl rfl rfl ?_ ?_; · exact ok_) | (refine st_store rfl rfl rfl ?_ ?_; · exact ok_) | (refine st_lit rfl rfl rfl rfl ?_ ?_; · exact ok_) | refine st_skip rfl rfl rfl ?_ | refine st_skip0 rfl rfl ?_ | (refine st_if rfl (fun hb => ?_) (fun hb => ?_) <;> (first | exact no_ hb | rw [hb])) | refine aw_seq ?_ | refine aw_region tab_ok _ rfl ?_ | refine aw_drawn2 tabS_ok _ rfl mixed (by decide +kernel) ?_ | (refine aw_cond rfl (fun hb => ?_) (fun hb => ?_) <;> (try exact no_ hb)) | refine aw_block ?_ | refine aw_exit ?_ | refine aw_ret ?_ | refine aw_skip ?_)
  all_goals exact end_ret (res_of rfl (by trivial) rfl)
theorem inputsR_3 : Pure Tryz.prog 84 [.one (.int .i64 3)] (vInt (inpF 3)) := by
  refine pure_of_aw tab_ok Tryz.func84 rfl rfl Tryz.ntmps84 (by simp) ?_
  simp only [argT, PV.av, List.map_cons, List.map_nil]
  repeat' (first | refine st_nil ?_ | (refine st_pop rfl rfl rfl rfl ?_ ?_; · exact ok_) | (refine st_lop rfl rfl rfl rfl ?_ ?_; · exact ok_) | (refine st_store rfl rfl rfl ?_ ?_; · exact ok_) | (refine st_lit rfl rfl rfl rfl ?_ ?_; · exact ok_) | refine st_skip rfl rfl rfl ?_ | refine st_skip0 rfl rfl ?_ | (refine st_if rfl (fun hb => ?_) (fun hb => ?_) <;> (first | exact no_ hb | rw [hb])) | refine aw_seq ?_ | refine aw_region tab_ok _ rfl ?_ | refine aw_drawn2 tabS_ok _ rfl mixed (by decide +kernel) ?_ | (refine aw_cond rfl (fun hb => ?_) (fun hb => ?_) <;> (try exact no_ hb)) | refine aw_block ?_ | refine aw_exit ?_ | refine aw_ret ?_ | refine aw_skip ?_)
  all_goals exact end_ret (res_of rfl (by trivial) rfl)
theorem inputsR_4 : Pure Tryz.prog 84 [.one (.int .i64 4)] (vInt (inpF 4)) := by
  refine pure_of_aw tab_ok Tryz.func84 rfl rfl Tryz.ntmps84 (by simp) ?_
  simp only [argT, PV.av, List.map_cons, List.map_nil]
  repeat' (first | refine st_nil ?_ | (refine st_pop rfl rfl rfl rfl ?_ ?_; · exact ok_) | (refine st_lop rfl rfl rfl rfl ?_ ?_; · exact ok_) | (refine st_store rfl rfl rfl ?_ ?_; · exact ok_) | (refine st_lit rfl rfl rfl rfl ?_ ?_; · exact ok_) | refine st_skip rfl rfl rfl ?_ | refine st_skip0 rfl rfl ?_ | (refine st_if rfl (fun hb => ?_) (fun hb => ?_) <;> (first | exact no_ hb | rw [hb])) | refine aw_seq ?_ | refine aw_region tab_ok _ rfl ?_ | refine aw_drawn2 tabS_ok _ rfl mixed (by decide +kernel) ?_ | (refine aw_cond rfl (fun hb => ?_) (fun hb => ?_) <;> (try exact no_ hb)) | refine aw_block ?_ | refine aw_exit ?_ | refine aw_ret ?_ | refine aw_skip ?_)
  all_goals exact end_ret (res_of rfl (by trivial) rfl)
theorem inputsR_5 : Pure Tryz.prog 84 [.one (.int .i64 5)] (vInt (inpF 5)) := by
  refine pure_of_aw tab_ok Tryz.func84 rfl rfl Tryz.ntmps84 (by simp) ?_
  simp only [argT, PV.av, List.map_cons, List.map_nil]
  repeat' (first | refine st_nil ?_ | (refine st_pop rfl rfl rfl rfl ?_ ?_; · exact ok_) | (refine st_lop rfl rfl rfl rfl ?_ ?_; · exact ok_) | (refine st_store rfl rfl rfl ?_ ?_; · exact ok_) | (refine st_lit rfl rfl rfl rfl ?_ ?_; · exact ok_) | refine st_skip rfl rfl rfl ?_ | refine st_skip0 rfl rfl ?_ | (refine st_if rfl (fun hb => ?_) (fun hb => ?_) <;> (first | exact no_ hb | rw [hb])) | refine aw_seq ?_ | refine aw_region tab_ok _ rfl ?_ | refine aw_drawn2 tabS_ok _ rfl mixed (by decide +kernel) ?_ | (refine aw_cond rfl (fun hb => ?_) (fun hb => ?_) <;> (try exact no_ hb)) | refine aw_block ?_ | refine aw_exit ?_ | refine aw_ret ?_ | refine aw_skip ?_)
  all_goals exact end_ret (res_of rfl (by trivial) rfl)
theorem inputsR_6 : Pure Tryz.prog 84 [.one (.int .i64 6)] (vInt (inpF 6)) := by
  refine pure_of_aw tab_ok Tryz.func84 rfl rfl Tryz.ntmps84 (by simp) ?_
  simp only [argT, PV.av, List.map_cons, List.map_nil]
  repeat' (first | refine st_nil ?_ | (refine st_pop rfl rfl rfl rfl ?_ ?_; · exact ok_) | (refine st_lop rfl rfl rfl rfl ?_ ?_; · exact ok_) | (refine st_store rfl rfl rfl ?_ ?_; · exact ok_) | (refine st_lit rfl rfl rfl rfl ?_ ?_; · exact ok_) | refine st_skip rfl rfl rfl ?_ | refine st_skip0 rfl rfl ?_ | (refine st_if rfl (fun hb => ?_) (fun hb => ?_) <;> (first | exact no_ hb | rw [hb])) | refine aw_seq ?_ | refine aw_region tab_ok _ rfl ?_ | refine aw_drawn2 tabS_ok _ rfl mixed (by decide +kernel) ?_ | (refine aw_cond rfl (fun hb => ?_) (fun hb => ?_) <;> (try exact no_ hb)) | refine aw_block ?_ | refine aw_exit ?_ | refine aw_ret ?_ | refine aw_skip ?_)
  all_goals exact end_ret (res_of rfl (by trivial) rfl)
theorem inputsR_7 : Pure Tryz.prog 84 [.one (.int .i64 7)] (vInt (inpF 7)) := by
  refine pure_of_aw tab_ok Tryz.func84 rfl rfl Tryz.ntmps84 (by simp) ?_
  simp only [argT, PV.av, List.map_cons, List.map_nil]
  repeat' (first | refine st_nil ?_ | (refine st_pop rfl rfl rfl rfl ?_ ?_; · exact ok_) | (refine st_lop rfl rfl rfl rfl ?_ ?_; · exact ok_) | (refine st_store rfl rfl rfl ?_ ?_; · exact ok_) | (refine st_lit rfl rfl rfl rfl ?_ ?_; · exact ok_) | refine st_skip rfl rfl rfl ?_ | refine st_skip0 rfl rfl ?_ | (refine st_if rfl (fun hb => ?_) (fun hb => ?_) <;> (first | exact no_ hb | rw [hb])) | refine aw_seq ?_ | refine aw_region tab_ok _ rfl ?_ | refine aw_drawn2 tabS_ok _ rfl mixed (by decide +kernel) ?_ | (refine aw_cond rfl (fun hb => ?_) (fun hb => ?_) <;> (try exact no_ hb)) | refine aw_block ?_ | refine aw_exit ?_ | refine aw_ret ?_ | refine aw_skip ?_)
  all_goals exact end_ret (res_of rfl (by trivial) rfl)
theorem inputsR_8 : Pure Tryz.prog 84 [.one (.int .i64 8)] (vInt (inpF 8)) := by
  refine pure_of_aw tab_ok Tryz.func84 rfl rfl Tryz.ntmps84 (by simp) ?_
  simp only [argT, PV.av, List.map_cons, List.map_nil]
  repeat' (first | refine st_nil ?_ | (refine st_pop rfl rfl rfl rfl ?_ ?_; · exact ok_) | (refine st_lop rfl rfl rfl rfl ?_ ?_; · exact ok_) | (refine st_store rfl rfl rfl ?_ ?_; · exact ok_) | (refine st_lit rfl rfl rfl rfl ?_ ?_; · exact ok_) | refine st_skip rfl rfl rfl ?_ | refine st_skip0 rfl rfl ?_ | (refine st_if rfl (fun hb => ?_) (fun hb => ?_) <;> (first | exact no_ hb | rw [hb])) | refine aw_seq ?_ | refine aw_region tab_ok _ rfl ?_ | refine aw_drawn2 tabS_ok _ rfl mixed (by decide +kernel) ?_ | (refine aw_cond rfl (fun hb => ?_) (fun hb => ?_) <;> (try exact no_ hb)) | refine aw_block ?_ | refine aw_exit ?_ | refine aw_ret ?_ | refine aw_skip ?_)
  all_goals exact end_ret (res_of rfl (by trivial) rfl)
theorem inputsR_9 : Pure Tryz.prog 84 [.one (.int .i64 9)] (vInt (inpF 9)) := by
  refine pure_of_aw tab_ok Tryz.func84 rfl rfl Tryz.ntmps84 (by simp) ?_
  simp only [argT, PV.av, List.map_cons, List.map_nil]
  repeat' (first | refine st_nil ?_ | (refine st_pop rfl rfl rfl rfl ?_ ?_; · exact ok_) | (refine st_lop rfl rfl rfl rfl ?_ ?_; · exact ok_) | (refine st_store rfl rfl rfl ?_ ?_; · exact ok_) | (refine st_lit rfl rfl rfl rfl ?_ ?_; · exact ok_) | refine st_skip rfl rfl rfl ?_ | refine st_skip0 rfl rfl ?_ | (refine st_if rfl (fun hb => ?_) (fun hb => ?_) <;> (first | exact no_ hb | rw [hb])) | refine aw_seq ?_ | refine aw_region tab_ok _ rfl ?_ | refine aw_drawn2 tabS_ok _ rfl mixed (by decide +kernel) ?_ | (refine aw_cond rfl (fun hb => ?_) (fun hb => ?_) <;> (try exact no_ hb)) | refine aw_block ?_ | refine aw_exit ?_ | refine aw_ret ?_ | refine aw_skip ?_)
  all_goals exact end_ret (res_of rfl (by trivial) rfl)
theorem inputsR_10 : Pure Tryz.prog 84 [.one (.int .i64 10)] (vInt (inpF 10)) := by
  refine pure_of_aw tab_ok Tryz.func84 rfl rfl Tryz.ntmps84 (by simp) ?_
  simp only [argT, PV.av, List.map_cons, List.map_nil]
  repeat' (first | refine st_nil ?_ | (refine st_pop rfl rfl rfl rfl ?_ ?_; · exact ok_) | (refine st_lop rfl rfl rfl rfl ?_ ?_; · exact ok_) | (refine st_store rfl rfl rfl ?_ ?_; · exact ok_) | (refine st_lit rfl rfl rfl rfl ?_ ?_; · exact ok_) | refine st_skip rfl rfl rfl ?_ | refine st_skip0 rfl rfl ?_ | (refine st_if rfl (fun hb => ?_) (fun hb => ?_) <;> (first | exact no_ hb | rw [hb])) | refine aw_seq ?_ | refine aw_region tab_ok _ rfl ?_ | refine aw_drawn2 tabS_ok _ rfl mixed (by decide +kernel) ?_ | (refine aw_cond rfl (fun hb => ?_) (fun hb => ?_) <;> (try exact no_ hb)) | refine aw_block ?_ | refine aw_exit ?_ | refine aw_ret ?_ | refine aw_skip ?_)
  all_goals exact end_ret (res_of rfl (by trivial) rfl)
theorem inputsR_11 : Pure Tryz.prog 84 [.one (.int .i64 11)] (vInt (inpF 11)) := by
  refine pure_of_aw tab_ok Tryz.func84 rfl rfl Tryz.ntmps84 (by simp) ?_
  simp only [argT, PV.av, List.map_cons, List.map_nil]
  repeat' (first | refine st_nil ?_ | (refine st_pop rfl rfl rfl rfl ?_ ?_; · exact ok_) | (refine st_lop rfl rfl rfl rfl ?_ ?_; · exact ok_) | (refine st_store rfl rfl rfl ?_ ?_; · exact ok_) | (refine st_lit rfl rfl rfl rfl ?_ ?_; · exact ok_) | refine st_skip rfl rfl rfl ?_ | refine st_skip0 rfl rfl ?_ | (refine st_if rfl (fun hb => ?_) (fun hb => ?_) <;> (first | exact no_ hb | rw [hb])) | refine aw_seq ?_ | refine aw_region tab_ok _ rfl ?_ | refine aw_drawn2 tabS_ok _ rfl mixed (by decide +kernel) ?_ | (refine aw_cond rfl (fun hb => ?_) (fun hb => ?_) <;> (try exact no_ hb)) | refine aw_block ?_ | refine aw_exit ?_ | refine aw_ret ?_ | refine aw_skip ?_)
  all_goals exact end_ret (res_of rfl (by trivial) rfl)
theorem inputsR_no (op : Int) (h : ∀ x ∈ plansL, op ≠ x) : Pure Tryz.prog 84 [.one (.int .i64 op)] (vInt (inpF op)) := by
  refine pure_of_aw tab_ok Tryz.func84 rfl rfl Tryz.ntmps84 (by simp) ?_
  simp only [argT, PV.av, List.map_cons, List.map_nil]
  have q1 : decide (op = 1) = false := by simp [h 1 (by simp [plansL])]
  have q2 : decide (op = 2) = false := by simp [h 2 (by simp [plansL])]
  have q3 : decide (op = 3) = false := by simp [h 3 (by simp [plansL])]
  have q4 : decide (op = 4) = false := by simp [h 4 (by simp [plansL])]
  have q5 : decide (op = 5) = false := by simp [h 5 (by simp [plansL])]
  have q6 : decide (op = 6) = false := by simp [h 6 (by simp [plansL])]
  have q7 : decide (op = 7) = false := by simp [h 7 (by simp [plansL])]
  have q8 : decide (op = 8) = false := by simp [h 8 (by simp [plansL])]
  have q9 : decide (op = 9) = false := by simp [h 9 (by simp [plansL])]
  have q10 : decide (op = 10) = false := by simp [h 10 (by simp [plansL])]
  have q11 : decide (op = 11) = false := by simp [h 11 (by simp [plansL])]
  have hres : inpF op = -1 := by unfold inpF; simp only [inL, cond_false, q1, q2, q3, q4, q5, q6, q7, q8, q9, q10, q11]
  rw [hres]
  repeat' (first | refine st_nil ?_ | rw [q1] | rw [q2] | rw [q3] | rw [q4] | rw [q5] | rw [q6] | rw [q7] | rw [q8] | rw [q9] | rw [q10] | rw [q11] | (refine st_pop rfl rfl rfl rfl ?_ ?_; · exact ok_) | (refine st_lop rfl rfl rfl rfl ?_ ?_; · exact ok_) | (refine st_store rfl rfl rfl ?_ ?_; · exact ok_) | (refine st_lit rfl rfl rfl rfl ?_ ?_; · exact ok_) | refine st_skip rfl rfl rfl ?_ | refine st_skip0 rfl rfl ?_ | (refine st_if rfl (fun hb => ?_) (fun hb => ?_) <;> (first | exact no_ hb | rw [hb])) | refine aw_seq ?_ | refine aw_region tab_ok _ rfl ?_ | refine aw_drawn2 tabS_ok _ rfl mixed (by decide +kernel) ?_ | (refine aw_cond rfl (fun hb => ?_) (fun hb => ?_) <;> (try exact no_ hb)) | refine aw_block ?_ | refine aw_exit ?_ | refine aw_ret ?_ | refine aw_skip ?_)
  all_goals exact end_ret (res_of rfl (by trivial) rfl)
theorem inputsR_pure (op : Int) : Pure Tryz.prog 84 [.one (.int .i64 op)] (vInt (inpF op)) := by
  by_cases h : ∀ x ∈ plansL, op ≠ x
  · exact inputsR_no op h
  · obtain ⟨x, hx⟩ := Classical.not_forall.1 h
    have hx2 : x ∈ plansL ∧ op = x := by
      by_cases hm : x ∈ plansL
      · exact ⟨hm, Classical.byContradiction fun e => hx fun _ => e⟩
      · exact absurd (fun h => absurd h hm) hx
    obtain ⟨hm, rfl⟩ := hx2
    simp only [plansL, List.mem_cons, List.not_mem_nil, or_false] at hm
    rcases hm with rfl | rfl | rfl | rfl | rfl | rfl | rfl | rfl | rfl | rfl | rfl
    · exact inputsR_1
    · exact inputsR_2
    · exact inputsR_3
    · exact inputsR_4
    · exact inputsR_5
    · exact inputsR_6
    · exact inputsR_7
    · exact inputsR_8
    · exact inputsR_9
    · exact inputsR_10
    · exact inputsR_11
end Go.Proofs.YtfpbmfalamappaaGreatDoor

namespace Go.Proofs.YtfpbmfalamappaaGreatDoor
open Go.RowKit Go.MapKept
set_option maxRecDepth 100000
/-- An expression. -/
inductive Ex where
  | mk (op int : Int) (val : Val) (name : ByteArray) (args : List Ex)
mutual
def tE : Ex → List AC
  | .mk op n v nm args => [.int .i64 op, .int .i64 n, .int .i64 v.kind, .int .i64 v.int, .str v.text, .str nm, .lst (tEs args)]
def tEs : List Ex → List (List AC)
  | [] => []
  | e :: l => tE e :: tEs l
end
theorem tEs_map : ∀ (l : List Ex), tEs l = l.map tE
  | [] => by simp [tEs]
  | e :: l => by simp [tEs, tEs_map l]
theorem tE_mk (op n : Int) (v : Val) (nm : ByteArray) (args : List Ex) : tE (.mk op n v nm args) = [.int .i64 op, .int .i64 n, .int .i64 v.kind, .int .i64 v.int, .str v.text, .str nm, .lst (args.map tE)] := by rw [tE, tEs_map]
theorem tE_len (e : Ex) : (tE e).length = 7 := by cases e; rw [tE_mk]; rfl
def Ex.args : Ex → List Ex
  | .mk _ _ _ _ args => args
/-- Lists of arguments are not too long, m levels deep. -/
def exOK : Nat → Ex → Prop
  | 0, _ => True
  | m + 1, .mk _ _ _ _ args => args.length ≤ 1000000 ∧ ∀ x ∈ args, exOK m x
def mx (a b : Int) : Int := if a < b then b else a
def dep : Nat → Ex → Int
  | 0, _ => 1
  | m + 1, .mk _ _ _ _ args => if m = 0 then 1 else args.foldl (fun n x => mx n (IntKind.i64.wrap (1 + dep m x))) 1
theorem depth_pure : ∀ (m : Nat) (e : Ex), m ≤ 1000 → exOK m e → Pure Tryz.prog 191 [.agg (tE e), .one (.int .i64 m)] (vInt (dep m e))
  | 0, .mk op n v nm args, _, _ => by
    rw [tE_mk]
    refine pure_of_aw tab_ok Tryz.func191 rfl rfl Tryz.ntmps191 (by simp) ?_
    simp only [argT, PV.av, List.map_cons, List.map_nil]
    repeat' (first | refine st_nil ?_ | (refine st_pop rfl rfl rfl rfl ?_ ?_; · (repeat' (first | exact trivial | rfl | exact Nat.le_of_ble_eq_true rfl | omega | decide | apply And.intro))) | (refine st_lop rfl rfl rfl rfl ?_ ?_; · (repeat' (first | exact trivial | rfl | exact Nat.le_of_ble_eq_true rfl | omega | decide | apply And.intro))) | (refine st_store rfl rfl rfl ?_ ?_; · (repeat' (first | exact trivial | rfl | exact Nat.le_of_ble_eq_true rfl | omega | decide | apply And.intro))) | (refine st_lit rfl rfl rfl rfl ?_ ?_; · (repeat' (first | exact trivial | rfl | exact Nat.le_of_ble_eq_true rfl | omega | decide | apply And.intro))) | refine st_skip rfl rfl rfl ?_ | refine st_skip0 rfl rfl ?_ | (refine st_if rfl (fun hb => ?_) (fun hb => ?_) <;> (first | exact no_ hb | rw [hb])) | refine aw_seq ?_ | refine aw_region tab_ok _ rfl ?_ | refine aw_drawn2 tabS_ok _ rfl mixed (by decide +kernel) ?_ | (refine aw_cond rfl (fun hb => ?_) (fun hb => ?_) <;> (try exact no_ hb)) | refine aw_block ?_ | refine aw_exit ?_ | refine aw_ret ?_ | refine aw_skip ?_)
    exact end_ret (res_of rfl (by trivial) rfl)
  | 1, .mk op n v nm args, _, _ => by
    rw [tE_mk]
    refine pure_of_aw tab_ok Tryz.func191 rfl rfl Tryz.ntmps191 (by simp) ?_
    simp only [argT, PV.av, List.map_cons, List.map_nil]
    repeat' (first | refine st_nil ?_ | (refine st_pop rfl rfl rfl rfl ?_ ?_; · (repeat' (first | exact trivial | rfl | exact Nat.le_of_ble_eq_true rfl | omega | decide | apply And.intro))) | (refine st_lop rfl rfl rfl rfl ?_ ?_; · (repeat' (first | exact trivial | rfl | exact Nat.le_of_ble_eq_true rfl | omega | decide | apply And.intro))) | (refine st_store rfl rfl rfl ?_ ?_; · (repeat' (first | exact trivial | rfl | exact Nat.le_of_ble_eq_true rfl | omega | decide | apply And.intro))) | (refine st_lit rfl rfl rfl rfl ?_ ?_; · (repeat' (first | exact trivial | rfl | exact Nat.le_of_ble_eq_true rfl | omega | decide | apply And.intro))) | refine st_skip rfl rfl rfl ?_ | refine st_skip0 rfl rfl ?_ | (refine st_if rfl (fun hb => ?_) (fun hb => ?_) <;> (first | exact no_ hb | rw [hb])) | refine aw_seq ?_ | refine aw_region tab_ok _ rfl ?_ | refine aw_drawn2 tabS_ok _ rfl mixed (by decide +kernel) ?_ | (refine aw_cond rfl (fun hb => ?_) (fun hb => ?_) <;> (try exact no_ hb)) | refine aw_block ?_ | refine aw_exit ?_ | refine aw_ret ?_ | refine aw_skip ?_)
    exact end_ret (res_of rfl (by trivial) rfl)
  | m + 2, .mk op n v nm args, hm, hok => by
    have ih := fun x hx => depth_pure (m + 1) x (by omega) (hok.2 x hx)
    have hal := hok.1
    rw [tE_mk]
    refine pure_of_aw tab_ok Tryz.func191 rfl rfl Tryz.ntmps191 (by simp) ?_
    simp only [argT, PV.av, List.map_cons, List.map_nil]
    obtain ⟨k, hk⟩ : ∃ k, args.length = k := ⟨_, rfl⟩
    have hml : (((args.map tE).length : Nat) : Int) = k := by simp [hk]
    have hle : decide (((m + 2 : Nat) : Int) ≤ 1) = false := by simp; omega
    repeat' (first | refine st_nil ?_ | rw [hle] | (refine st_pop rfl rfl rfl rfl ?_ ?_; · exact ok_) | (refine st_lop rfl rfl rfl rfl ?_ ?_; · exact ok_) | (refine st_store rfl rfl rfl ?_ ?_; · exact ok_) | (refine st_lit rfl rfl rfl rfl ?_ ?_; · exact ok_) | refine st_skip rfl rfl rfl ?_ | refine st_skip0 rfl rfl ?_ | (refine st_if rfl (fun hb => ?_) (fun hb => ?_) <;> (first | exact no_ hb | rw [hb])) | refine aw_seq ?_ | refine aw_region tab_ok _ rfl ?_ | refine aw_drawn2 tabS_ok _ rfl mixed (by decide +kernel) ?_ | (refine aw_cond rfl (fun hb => ?_) (fun hb => ?_) <;> (try exact no_ hb)) | refine aw_block ?_ | refine aw_exit ?_ | refine aw_ret ?_ | refine aw_skip ?_)
    refine aw_loop (fun i : Nat => [(1, .one (.c (.int .i64 (m + 2 : Nat)))), (5, .one (.c (.int .i64 ((args.take i).foldl (fun n x => mx n (IntKind.i64.wrap (1 + dep (m + 1) x))) 1)))), (11, .one (.c (.lst (args.map tE)))), (12, .one (.c (.int .i64 k))), (13, .one (.c (.int .i64 i)))]) (fun _ => []) (fun i => i ≤ k) (fun i => k - i) 0 (by omega) (fun _ _ => Nat.zero_le _)
      (fits_mk ⟨rfl, rfl, rfl, slot_int hml, rfl, trivial⟩ [_] rfl ft_ ft_) ?_
    intro i hi
    by_cases hlt : i < k
    · obtain ⟨x, hx⟩ := get_of_lt (show i < args.length by omega)
      have hN : decide ((i : Int) < k) = true := by simp; exact hlt
      have hix : (args.map tE)[((i : Nat) : Int).toNat]? = some (tE x) := idx_map hx
      have hnx : (args.take (i + 1)).foldl (fun n x => mx n (IntKind.i64.wrap (1 + dep (m + 1) x))) 1 = mx ((args.take i).foldl (fun n x => mx n (IntKind.i64.wrap (1 + dep (m + 1) x))) 1) (IntKind.i64.wrap (1 + dep (m + 1) x)) := by rw [take_succ hx, List.foldl_append]; rfl
      generalize (args.take i).foldl (fun n x => mx n (IntKind.i64.wrap (1 + dep (m + 1) x))) 1 = acc at hnx
      have hw : IntKind.i64.wrap (((m + 2 : Nat) : Int) - 1) = ((m + 1 : Nat) : Int) := wrap_eq (by omega) (by omega)
      have hc := ih x (List.mem_of_getElem? hx)
      rw [← hw] at hc
      obtain ⟨op', n', v', nm', args'⟩ := x
      rw [tE_mk] at hix hc
      repeat' (first | refine st_nil ?_ | rw [hN] | (refine st_pop rfl rfl rfl rfl ?_ ?_; · exact ok_) | (refine st_idx rfl rfl rfl rfl rfl rfl rfl rfl hix ?_ ?_; · exact ⟨by omega, rfl⟩) | (refine st_lop rfl rfl rfl rfl ?_ ?_; · exact ok_) | (refine st_store rfl rfl rfl ?_ ?_; · exact ok_) | (refine st_lit rfl rfl rfl rfl ?_ ?_; · exact ok_) | refine st_skip rfl rfl rfl ?_ | refine st_skip0 rfl rfl ?_ | refine st_call rfl rfl rfl rfl hc rfl ?_ | (refine st_if rfl (fun hb => ?_) (fun hb => ?_) <;> (first | exact no_ hb | rw [hb])) | refine aw_seq ?_ | refine aw_region tab_ok _ rfl ?_ | refine aw_drawn2 tabS_ok _ rfl mixed (by decide +kernel) ?_ | (refine aw_cond rfl (fun hb => ?_) (fun hb => ?_) <;> (try exact no_ hb)) | refine aw_block ?_ | refine aw_exit ?_ | refine aw_ret ?_ | refine aw_skip ?_)
      exact ⟨i + 1, by omega, by omega, fits_mk ⟨rfl, slot_int (by rw [hnx]; unfold mx; first | rfl | (split <;> rfl)), rfl, rfl, slot_int (wrap_eq (by omega) (by omega)), trivial⟩ [_] rfl ft_ ft_⟩
    · have hN : decide ((i : Int) < k) = false := by simp; omega
      have htk : args.take i = args := List.take_of_length_le (by omega)
      rw [htk]
      repeat' (first | refine st_nil ?_ | rw [hN] | (refine st_pop rfl rfl rfl rfl ?_ ?_; · exact ok_) | (refine st_lop rfl rfl rfl rfl ?_ ?_; · exact ok_) | (refine st_store rfl rfl rfl ?_ ?_; · exact ok_) | (refine st_lit rfl rfl rfl rfl ?_ ?_; · exact ok_) | refine st_skip rfl rfl rfl ?_ | refine st_skip0 rfl rfl ?_ | (refine st_if rfl (fun hb => ?_) (fun hb => ?_) <;> (first | exact no_ hb | rw [hb])) | refine aw_seq ?_ | refine aw_region tab_ok _ rfl ?_ | refine aw_drawn2 tabS_ok _ rfl mixed (by decide +kernel) ?_ | (refine aw_cond rfl (fun hb => ?_) (fun hb => ?_) <;> (try exact no_ hb)) | refine aw_block ?_ | refine aw_exit ?_ | refine aw_ret ?_ | refine aw_skip ?_)
      exact end_ret (res_of rfl (by trivial) (vInt_eq (by simp only [dep]; rw [if_neg (by omega)])))
end Go.Proofs.YtfpbmfalamappaaGreatDoor

namespace Go.Proofs.YtfpbmfalamappaaGreatDoor
open Go.RowKit Go.MapKept
set_option maxRecDepth 100000
theorem boxC_below {n : Nat} : ∀ (l : List AC), ∀ x ∈ l.map SV.c, x.below n
  | [], x, hx => by cases hx
  | a :: l, x, hx => by
    rcases List.mem_cons.1 hx with rfl | hx
    · trivial
    · exact boxC_below l x hx
theorem box7_below {n : Nat} {a b c d e f g : AC} : (Ob.box [.c a, .c b, .c c, .c d, .c e, .c f, .c g]).below n := boxC_below [a, b, c, d, e, f, g]
/-- Lists of arguments are not too long. -/
inductive Ex.Fine : Ex → Prop
  | mk {op n : Int} {v : Val} {nm : ByteArray} {args : List Ex} (h : args.length ≤ 1000000) (ht : v.text.size ≤ 9223372036854775807) (ha : ∀ x ∈ args, Ex.Fine x) : Ex.Fine (.mk op n v nm args)
theorem Ex.Fine.ok {e : Ex} (h : e.Fine) : ∀ m, exOK m e := by
  induction h with
  | mk h _ _ ih =>
    intro m
    cases m with
    | zero => trivial
    | succ m => exact ⟨h, fun x hx => ih x hx m⟩
mutual
def depR : Ex → Int
  | .mk _ _ _ _ args => IntKind.i64.wrap (depRs args 0 + 1)
def depRs : List Ex → Int → Int
  | [], n => n
  | x :: l, n => depRs l (mx n (depR x))
end
theorem depRs_fold : ∀ (l : List Ex) (n : Int), depRs l n = l.foldl (fun n x => mx n (depR x)) n
  | [], n => by simp [depRs]
  | x :: l, n => by simp [depRs, depRs_fold l]
theorem depR_mk (op n : Int) (v : Val) (nm : ByteArray) (args : List Ex) : depR (.mk op n v nm args) = IntKind.i64.wrap (args.foldl (fun n x => mx n (depR x)) 0 + 1) := by rw [depR, depRs_fold]
theorem depthR_pure {e : Ex} (h : e.Fine) : Pure Tryz.prog 106 [.agg (tE e)] (vInt (depR e)) := by
  induction h with
  | @mk op n v nm args hal _ _ ih =>
    rw [tE_mk, depR_mk]
    refine pure_of_aw tab_ok Tryz.func106 rfl rfl Tryz.ntmps106 (by simp) ?_
    simp only [argT, PV.av, List.map_cons, List.map_nil]
    obtain ⟨k, hk⟩ : ∃ k, args.length = k := ⟨_, rfl⟩
    have hml : (((args.map tE).length : Nat) : Int) = k := by simp [hk]
    repeat' (first | refine st_nil ?_ | (refine st_pop rfl rfl rfl rfl ?_ ?_; · exact ok_) | (refine st_lop rfl rfl rfl rfl ?_ ?_; · exact ok_) | (refine st_store rfl rfl rfl ?_ ?_; · exact ok_) | (refine st_lit rfl rfl rfl rfl ?_ ?_; · exact ok_) | refine st_skip rfl rfl rfl ?_ | refine st_skip0 rfl rfl ?_ | (refine st_if rfl (fun hb => ?_) (fun hb => ?_) <;> (first | exact no_ hb | rw [hb])) | refine aw_seq ?_ | refine aw_region tab_ok _ rfl ?_ | refine aw_drawn2 tabS_ok _ rfl mixed (by decide +kernel) ?_ | (refine aw_cond rfl (fun hb => ?_) (fun hb => ?_) <;> (try exact no_ hb)) | refine aw_block ?_ | refine aw_exit ?_ | refine aw_ret ?_ | refine aw_skip ?_)
    refine aw_loop (fun i : Nat => [(1, .one (.ptr 0 0)), (3, .one (.c (.int .i64 ((args.take i).foldl (fun n x => mx n (depR x)) 0)))), (4, .one (.c (.int .i64 i)))]) (fun _ => [.box [.c (.int .i64 op), .c (.int .i64 n), .c (.int .i64 v.kind), .c (.int .i64 v.int), .c (.str v.text), .c (.str nm), .c (.lst (args.map tE))]]) (fun i => i ≤ k) (fun i => k - i) 0 (by omega) (fun _ _ => Nat.zero_le _)
      (fits_mk ⟨rfl, rfl, rfl, trivial⟩ [] rfl ⟨by show 0 < 1; omega, trivial, trivial, trivial⟩ ⟨box7_below, trivial⟩) ?_
    intro i hi
    by_cases hlt : i < k
    · obtain ⟨x, hx⟩ := get_of_lt (show i < args.length by omega)
      have hN : decide ((i : Int) < ((args.map tE).length : Nat)) = true := by rw [hml]; simp; exact hlt
      have hix : (args.map tE)[((i : Nat) : Int).toNat]? = some (tE x) := idx_map hx
      have hnx : (args.take (i + 1)).foldl (fun n x => mx n (depR x)) 0 = mx ((args.take i).foldl (fun n x => mx n (depR x)) 0) (depR x) := by rw [take_succ hx, List.foldl_append]; rfl
      generalize (args.take i).foldl (fun n x => mx n (depR x)) 0 = acc at hnx
      have hc := ih x (List.mem_of_getElem? hx)
      obtain ⟨op', n', v', nm', args'⟩ := x
      rw [tE_mk] at hix hc
      repeat' (first | refine st_nil ?_ | rw [hN] | (refine st_pop rfl rfl rfl rfl ?_ ?_; · exact ok_) | (refine st_idx rfl rfl rfl rfl rfl rfl rfl rfl hix ?_ ?_; · exact ⟨by omega, rfl⟩) | (refine st_lop rfl rfl rfl rfl ?_ ?_; · exact ok_) | (refine st_store rfl rfl rfl ?_ ?_; · exact ok_) | (refine st_lit rfl rfl rfl rfl ?_ ?_; · exact ok_) | refine st_skip rfl rfl rfl ?_ | refine st_skip0 rfl rfl ?_ | refine st_call rfl rfl rfl rfl hc rfl ?_ | (refine st_if rfl (fun hb => ?_) (fun hb => ?_) <;> (first | exact no_ hb | rw [hb])) | refine aw_seq ?_ | refine aw_region tab_ok _ rfl ?_ | refine aw_drawn2 tabS_ok _ rfl mixed (by decide +kernel) ?_ | (refine aw_cond rfl (fun hb => ?_) (fun hb => ?_) <;> (try exact no_ hb)) | refine aw_block ?_ | refine aw_exit ?_ | refine aw_ret ?_ | refine aw_skip ?_)
      exact ⟨i + 1, by omega, by omega, fits_mk ⟨rfl, slot_int (by rw [hnx]; rfl), slot_int (wrap_eq (by omega) (by omega)), trivial⟩ [] rfl ⟨by show 0 < 1; omega, trivial, trivial, trivial⟩ ⟨box7_below, trivial⟩⟩
    · have hN : decide ((i : Int) < ((args.map tE).length : Nat)) = false := by rw [hml]; simp; omega
      have htk : args.take i = args := List.take_of_length_le (by omega)
      rw [htk]
      repeat' (first | refine st_nil ?_ | rw [hN] | (refine st_pop rfl rfl rfl rfl ?_ ?_; · exact ok_) | (refine st_lop rfl rfl rfl rfl ?_ ?_; · exact ok_) | (refine st_store rfl rfl rfl ?_ ?_; · exact ok_) | (refine st_lit rfl rfl rfl rfl ?_ ?_; · exact ok_) | refine st_skip rfl rfl rfl ?_ | refine st_skip0 rfl rfl ?_ | (refine st_if rfl (fun hb => ?_) (fun hb => ?_) <;> (first | exact no_ hb | rw [hb])) | refine aw_seq ?_ | refine aw_region tab_ok _ rfl ?_ | refine aw_drawn2 tabS_ok _ rfl mixed (by decide +kernel) ?_ | (refine aw_cond rfl (fun hb => ?_) (fun hb => ?_) <;> (try exact no_ hb)) | refine aw_block ?_ | refine aw_exit ?_ | refine aw_ret ?_ | refine aw_skip ?_)
      exact end_ret (res_of rfl (by trivial) rfl)
def zV (v : Val) : Bool := sameS [.c (.int .i64 v.kind), .c (.int .i64 v.int), .c (.str v.text)] [.c (.int .i64 0), .c (.int .i64 0), .c (.str ⟨#[]⟩)]
def formedF (op int : Int) (v : Val) (nm : ByteArray) (n : Int) : Bool :=
  bif !(cntF op n).1 then false else bif !(nm.toList == e0) then false else bif decide (op = 1) then (bif decide (int = 0) then vvalid v else false)
  else bif decide (op = 24) then (bif (bif decide (int < 0) then true else decide (13 ≤ int)) then false else zV v) else bif decide (op = 2) then zV v else (bif decide (int = 0) then zV v else false)
set_option maxHeartbeats 1000000 in
theorem formed_pure (op int : Int) (v : Val) (nm : ByteArray) (args : List Ex) (ht : v.text.size ≤ 9223372036854775807) : Pure Tryz.prog 111 [.agg (tE (.mk op int v nm args))] (vBool (formedF op int v nm args.length)) := by
  rw [tE_mk]
  refine pure_of_aw tabE_ok Tryz.func111 rfl rfl Tryz.ntmps111 (by simp) ?_
  simp only [argT, PV.av, List.map_cons, List.map_nil]
  have hml : (((args.map tE).length : Nat) : Int) = args.length := by simp
  have hcn := counts_pure op (args.length : Nat)
  rw [← hml] at hcn
  have hcf : cntF op ((args.map tE).length : Nat) = cntF op (args.length : Nat) := by rw [hml]
  rw [hcf] at hcn
  have hfd : formedF op int v nm args.length = bif !(cntF op (args.length : Nat)).1 then false else bif !(nm.toList == e0) then false else bif decide (op = 1) then (bif decide (int = 0) then vvalid v else false) else bif decide (op = 24) then (bif (bif decide (int < 0) then true else decide (13 ≤ int)) then false else zV v) else bif decide (op = 2) then zV v else (bif decide (int = 0) then zV v else false) := rfl
  generalize cntF op (args.length : Nat) = cc at hcn hfd
  obtain ⟨c1, c2⟩ := cc
  have hcn' : Pure Tryz.prog 152 [.one (.int .i64 op), .one (.int .i64 ((args.map tE).length : Nat))] (.tup [.one (.bool c1), .one (.bool c2)]) := hcn
  repeat' (first | refine st_nil ?_ | (refine st_pop rfl rfl rfl rfl ?_ ?_; · exact ok_) | (refine st_lop rfl rfl rfl rfl ?_ ?_; · exact ok_) | (refine st_store rfl rfl rfl ?_ ?_; · exact ok_) | (refine st_lit rfl rfl rfl rfl ?_ ?_; · exact ok_) | refine st_skip rfl rfl rfl ?_ | refine st_skip0 rfl rfl ?_ | refine st_call rfl rfl rfl rfl hcn' rfl ?_ | refine st_call rfl rfl rfl rfl (valid_any v) rfl ?_ | (refine st_if rfl (fun hb => ?_) (fun hb => ?_) <;> (first | exact no_ hb | rw [hb])) | refine aw_seq ?_ | refine aw_region tabE_ok _ rfl ?_ | refine aw_drawn2 tabES_ok _ rfl mixed (by decide +kernel) ?_ | (refine aw_cond rfl (fun hb => ?_) (fun hb => ?_) <;> (try exact no_ hb)) | refine aw_block ?_ | refine aw_exit ?_ | refine aw_ret ?_ | refine aw_skip ?_)
  all_goals (refine end_ret (res_of rfl (by trivial) (vBool_eq ?_)); rw [hfd]; clear hfd; unfold e0; simp only [*, cond_true, cond_false, Bool.not_true, Bool.not_false]; try rfl)
end Go.Proofs.YtfpbmfalamappaaGreatDoor

namespace Go.Proofs.YtfpbmfalamappaaGreatDoor
open Go.RowKit Go.MapKept
set_option maxRecDepth 100000
def formedRF (op int : Int) (v : Val) (nm : ByteArray) (n : Int) : Bool :=
  bif (bif (bif (bif decide ((arity op).1 < 0) then true else decide (n < (arity op).1)) then true else decide ((arity op).2 < n)) then true else !(nm.toList == e0)) then false
  else bif decide (op = 1) then (bif decide (int = 0) then vvalid v else false) else bif decide (op = 2) then zV v
  else bif decide (op = 24) then (bif (bif zV v then decide (0 ≤ int) else false) then decide (int < 13) else false) else (bif decide (int = 0) then zV v else false)
set_option maxHeartbeats 1000000 in
theorem formedR_pure (op int : Int) (v : Val) (nm : ByteArray) (args : List Ex) (ht : v.text.size ≤ 9223372036854775807) : Pure Tryz.prog 139 [.agg (tE (.mk op int v nm args))] (vBool (formedRF op int v nm args.length)) := by
  rw [tE_mk]
  refine pure_of_aw tabE_ok Tryz.func139 rfl rfl Tryz.ntmps139 (by simp) ?_
  simp only [argT, PV.av, List.map_cons, List.map_nil]
  have hml : (((args.map tE).length : Nat) : Int) = args.length := by simp
  have har := arity_pure op
  have hfd : formedRF op int v nm args.length = bif (bif (bif (bif decide ((arity op).1 < 0) then true else decide ((((args.map tE).length : Nat) : Int) < (arity op).1)) then true else decide ((arity op).2 < ((args.map tE).length : Nat))) then true else !(nm.toList == e0)) then false
    else bif decide (op = 1) then (bif decide (int = 0) then vvalid v else false) else bif decide (op = 2) then zV v
    else bif decide (op = 24) then (bif (bif zV v then decide (0 ≤ int) else false) then decide (int < 13) else false) else (bif decide (int = 0) then zV v else false) := by rw [hml]; rfl
  generalize arity op = cc at har hfd
  obtain ⟨c1, c2⟩ := cc
  have har' : Pure Tryz.prog 138 [.one (.int .i64 op)] (.tup [.one (.int .i64 c1), .one (.int .i64 c2)]) := har
  have hz : sameS [.c (.int .i64 v.kind), .c (.int .i64 v.int), .c (.str v.text)] [.c (.int .i64 0), .c (.int .i64 0), .c (.str ⟨#[]⟩)] = zV v := rfl
  repeat' (first | refine st_nil ?_ | (refine st_pop rfl rfl rfl rfl ?_ ?_; · exact ok_) | (refine st_lop rfl rfl rfl rfl ?_ ?_; · exact ok_) | (refine st_store rfl rfl rfl ?_ ?_; · exact ok_) | (refine st_lit rfl rfl rfl rfl ?_ ?_; · exact ok_) | refine st_skip rfl rfl rfl ?_ | refine st_skip0 rfl rfl ?_ | refine st_call rfl rfl rfl rfl har' rfl ?_ | refine st_call rfl rfl rfl rfl (validR_any v) rfl ?_ | refine st_call rfl rfl rfl rfl nullR_pure rfl ?_ | (refine st_if rfl (fun hb => ?_) (fun hb => ?_) <;> (first | exact no_ hb | rw [hb])) | refine aw_seq ?_ | refine aw_region tabE_ok _ rfl ?_ | refine aw_drawn2 tabES_ok _ rfl mixed (by decide +kernel) ?_ | (refine aw_cond rfl (fun hb => ?_) (fun hb => ?_) <;> (try exact no_ hb)) | refine aw_block ?_ | refine aw_exit ?_ | refine aw_ret ?_ | refine aw_skip ?_)
  all_goals (refine end_ret (res_of rfl (by trivial) (vBool_eq ?_)); rw [hfd]; clear hfd har har' hml hz; unfold e0)
  all_goals first
    | (simp only [*, cond_true, cond_false, Bool.not_true, Bool.not_false]; done)
    | (simp only [*, cond_true, cond_false, Bool.not_true, Bool.not_false]; rfl)
    | (have hz1 : zV v = true := by assumption
       simp only [hz1, *, cond_true, cond_false, Bool.not_true, Bool.not_false]; done)
    | (have hz1 : zV v = false := by assumption
       simp only [hz1, *, cond_true, cond_false, Bool.not_true, Bool.not_false]; done)
def uniteF : List Int → Int → Int × Bool
  | [], k => (k, true)
  | x :: l, k => bif decide (x = 0) then uniteF l k else bif (bif decide (k ≠ 0) then decide (k ≠ x) else false) then (0, false) else uniteF l x
def vIB (p : Int × Bool) : CV := .tup [.one (.int .i64 p.1), .one (.bool p.2)]
theorem unite_drop (l : List Int) (k : Int) {i : Nat} {x : Int} (h : l[i]? = some x) : uniteF (l.drop i) k = bif decide (x = 0) then uniteF (l.drop (i + 1)) k else bif (bif decide (k ≠ 0) then decide (k ≠ x) else false) then (0, false) else uniteF (l.drop (i + 1)) x := by
  obtain ⟨h1, e1⟩ := List.getElem?_eq_some_iff.1 h
  rw [List.drop_eq_getElem_cons h1, e1, uniteF]
theorem unite_pure (l : List Int) (hl : l.length ≤ 1000000) : Pure Tryz.prog 202 [.one (tInts l)] (vIB (uniteF l 0)) := by
  refine pure_of_aw tab_ok Tryz.func202 rfl rfl Tryz.ntmps202 (by simp) ?_
  simp only [argT, PV.av, List.map_cons, List.map_nil]
  obtain ⟨n, hn⟩ : ∃ n, l.length = n := ⟨_, rfl⟩
  have hml : (((l.map fun x => [AC.int .i64 x]).length : Nat) : Int) = n := by simp [hn]
  have fin : ∀ {T : Tm} {L : List Ob} {w : Int × Bool}, w = uniteF l 0 → Res tab Tryz.f202.results.toList T L (vIB w) → Res tab Tryz.f202.results.toList T L (vIB (uniteF l 0)) := fun e h => by rw [← e]; exact h
  repeat' (first | refine st_nil ?_ | (refine st_pop rfl rfl rfl rfl ?_ ?_; · exact ok_) | (refine st_lop rfl rfl rfl rfl ?_ ?_; · exact ok_) | (refine st_store rfl rfl rfl ?_ ?_; · exact ok_) | (refine st_lit rfl rfl rfl rfl ?_ ?_; · exact ok_) | refine st_skip rfl rfl rfl ?_ | refine st_skip0 rfl rfl ?_ | (refine st_if rfl (fun hb => ?_) (fun hb => ?_) <;> (first | exact no_ hb | rw [hb])) | refine aw_seq ?_ | refine aw_region tab_ok _ rfl ?_ | refine aw_drawn2 tabS_ok _ rfl mixed (by decide +kernel) ?_ | (refine aw_cond rfl (fun hb => ?_) (fun hb => ?_) <;> (try exact no_ hb)) | refine aw_block ?_ | refine aw_exit ?_ | refine aw_ret ?_ | refine aw_skip ?_)
  refine aw_loop (fun s : Nat × Int => match s with | (i, k) => [(4, .one (.c (.int .i64 k))), (7, .one (.c (tInts l))), (8, .one (.c (.int .i64 n))), (9, .one (.c (.int .i64 i)))]) (fun _ => []) (fun s => s.1 ≤ n ∧ uniteF l 0 = uniteF (l.drop s.1) s.2) (fun s => n - s.1) (0, 0) ⟨by omega, rfl⟩ (fun _ _ => Nat.zero_le _)
    (fits_mk ⟨rfl, rfl, slot_int hml, rfl, trivial⟩ [] rfl ft_ ft_) ?_
  rintro ⟨i, k⟩ ⟨hi, hr⟩
  dsimp only at hi hr ⊢
  by_cases hlt : i < n
  · obtain ⟨x, hx⟩ := get_of_lt (show i < l.length by omega)
    have hN : decide ((i : Int) < n) = true := by simp; exact hlt
    have hix : (l.map fun x => [AC.int .i64 x])[((i : Nat) : Int).toNat]? = some [.int .i64 x] := idx_map hx
    have hst := unite_drop l k hx
    by_cases h0 : x = 0
    · have q0 : decide (x = 0) = true := by simp [h0]
      rw [q0, cond_true] at hst
      repeat' (first | refine st_nil ?_ | rw [hN] | rw [q0] | (refine st_pop rfl rfl rfl rfl ?_ ?_; · exact ok_) | (refine st_idx rfl rfl rfl rfl rfl rfl rfl rfl hix ?_ ?_; · exact ⟨by omega, rfl⟩) | (refine st_lop rfl rfl rfl rfl ?_ ?_; · exact ok_) | (refine st_store rfl rfl rfl ?_ ?_; · exact ok_) | (refine st_lit rfl rfl rfl rfl ?_ ?_; · exact ok_) | refine st_skip rfl rfl rfl ?_ | refine st_skip0 rfl rfl ?_ | (refine st_if rfl (fun hb => ?_) (fun hb => ?_) <;> (first | exact no_ hb | rw [hb])) | refine aw_seq ?_ | refine aw_region tab_ok _ rfl ?_ | refine aw_drawn2 tabS_ok _ rfl mixed (by decide +kernel) ?_ | (refine aw_cond rfl (fun hb => ?_) (fun hb => ?_) <;> (try exact no_ hb)) | refine aw_block ?_ | refine aw_exit ?_ | refine aw_ret ?_ | refine aw_skip ?_)
      exact ⟨(i + 1, k), ⟨by show i + 1 ≤ n; omega, hr.trans hst⟩, by show n - (i + 1) < n - i; omega, fits_mk ⟨rfl, rfl, rfl, slot_int (wrap_eq (by omega) (by omega)), trivial⟩ [] rfl ft_ ft_⟩
    · have q0 : decide (x = 0) = false := by simp [h0]
      rw [q0, cond_false] at hst
      by_cases h1 : k = 0
      · have q1 : decide (k ≠ 0) = false := by simp [h1]
        rw [q1] at hst
        simp only [cond_false] at hst
        repeat' (first | refine st_nil ?_ | rw [hN] | rw [q0] | rw [q1] | (refine st_pop rfl rfl rfl rfl ?_ ?_; · exact ok_) | (refine st_idx rfl rfl rfl rfl rfl rfl rfl rfl hix ?_ ?_; · exact ⟨by omega, rfl⟩) | (refine st_lop rfl rfl rfl rfl ?_ ?_; · exact ok_) | (refine st_store rfl rfl rfl ?_ ?_; · exact ok_) | (refine st_lit rfl rfl rfl rfl ?_ ?_; · exact ok_) | refine st_skip rfl rfl rfl ?_ | refine st_skip0 rfl rfl ?_ | (refine st_if rfl (fun hb => ?_) (fun hb => ?_) <;> (first | exact no_ hb | rw [hb])) | refine aw_seq ?_ | refine aw_region tab_ok _ rfl ?_ | refine aw_drawn2 tabS_ok _ rfl mixed (by decide +kernel) ?_ | (refine aw_cond rfl (fun hb => ?_) (fun hb => ?_) <;> (try exact no_ hb)) | refine aw_block ?_ | refine aw_exit ?_ | refine aw_ret ?_ | refine aw_skip ?_)
        exact ⟨(i + 1, x), ⟨by show i + 1 ≤ n; omega, hr.trans hst⟩, by show n - (i + 1) < n - i; omega, fits_mk ⟨rfl, rfl, rfl, slot_int (wrap_eq (by omega) (by omega)), trivial⟩ [] rfl ft_ ft_⟩
      · have q1 : decide (k ≠ 0) = true := by simp [h1]
        rw [q1, cond_true] at hst
        by_cases h2 : k = x
        · have q2 : decide (k ≠ x) = false := by simp [h2]
          rw [q2, cond_false] at hst
          repeat' (first | refine st_nil ?_ | rw [hN] | rw [q0] | rw [q1] | rw [q2] | (refine st_pop rfl rfl rfl rfl ?_ ?_; · exact ok_) | (refine st_idx rfl rfl rfl rfl rfl rfl rfl rfl hix ?_ ?_; · exact ⟨by omega, rfl⟩) | (refine st_lop rfl rfl rfl rfl ?_ ?_; · exact ok_) | (refine st_store rfl rfl rfl ?_ ?_; · exact ok_) | (refine st_lit rfl rfl rfl rfl ?_ ?_; · exact ok_) | refine st_skip rfl rfl rfl ?_ | refine st_skip0 rfl rfl ?_ | (refine st_if rfl (fun hb => ?_) (fun hb => ?_) <;> (first | exact no_ hb | rw [hb])) | refine aw_seq ?_ | refine aw_region tab_ok _ rfl ?_ | refine aw_drawn2 tabS_ok _ rfl mixed (by decide +kernel) ?_ | (refine aw_cond rfl (fun hb => ?_) (fun hb => ?_) <;> (try exact no_ hb)) | refine aw_block ?_ | refine aw_exit ?_ | refine aw_ret ?_ | refine aw_skip ?_)
          exact ⟨(i + 1, x), ⟨by show i + 1 ≤ n; omega, hr.trans hst⟩, by show n - (i + 1) < n - i; omega, fits_mk ⟨rfl, rfl, rfl, slot_int (wrap_eq (by omega) (by omega)), trivial⟩ [] rfl ft_ ft_⟩
        · have q2 : decide (k ≠ x) = true := by simp [h2]
          rw [q2, cond_true] at hst
          repeat' (first | refine st_nil ?_ | rw [hN] | rw [q0] | rw [q1] | rw [q2] | (refine st_pop rfl rfl rfl rfl ?_ ?_; · exact ok_) | (refine st_idx rfl rfl rfl rfl rfl rfl rfl rfl hix ?_ ?_; · exact ⟨by omega, rfl⟩) | (refine st_lop rfl rfl rfl rfl ?_ ?_; · exact ok_) | (refine st_store rfl rfl rfl ?_ ?_; · exact ok_) | (refine st_lit rfl rfl rfl rfl ?_ ?_; · exact ok_) | refine st_skip rfl rfl rfl ?_ | refine st_skip0 rfl rfl ?_ | (refine st_if rfl (fun hb => ?_) (fun hb => ?_) <;> (first | exact no_ hb | rw [hb])) | refine aw_seq ?_ | refine aw_region tab_ok _ rfl ?_ | refine aw_drawn2 tabS_ok _ rfl mixed (by decide +kernel) ?_ | (refine aw_cond rfl (fun hb => ?_) (fun hb => ?_) <;> (try exact no_ hb)) | refine aw_block ?_ | refine aw_exit ?_ | refine aw_ret ?_ | refine aw_skip ?_)
          exact end_ret (fin (w := (0, false)) (hr.trans hst).symm (res_of rfl ⟨trivial, trivial, trivial⟩ rfl))
  · have hN : decide ((i : Int) < n) = false := by simp; omega
    rw [List.drop_of_length_le (by omega)] at hr
    repeat' (first | refine st_nil ?_ | rw [hN] | (refine st_pop rfl rfl rfl rfl ?_ ?_; · exact ok_) | (refine st_lop rfl rfl rfl rfl ?_ ?_; · exact ok_) | (refine st_store rfl rfl rfl ?_ ?_; · exact ok_) | (refine st_lit rfl rfl rfl rfl ?_ ?_; · exact ok_) | refine st_skip rfl rfl rfl ?_ | refine st_skip0 rfl rfl ?_ | (refine st_if rfl (fun hb => ?_) (fun hb => ?_) <;> (first | exact no_ hb | rw [hb])) | refine aw_seq ?_ | refine aw_region tab_ok _ rfl ?_ | refine aw_drawn2 tabS_ok _ rfl mixed (by decide +kernel) ?_ | (refine aw_cond rfl (fun hb => ?_) (fun hb => ?_) <;> (try exact no_ hb)) | refine aw_block ?_ | refine aw_exit ?_ | refine aw_ret ?_ | refine aw_skip ?_)
    exact end_ret (fin (w := (k, true)) hr.symm (res_of rfl ⟨trivial, trivial, trivial⟩ rfl))
/-- The table, where Clone of ints hands its row over. -/
def tabF : TI := { tab with owns := fun f => f == 212 || tab.owns f }
theorem tabF_ok : TIok Tryz.prog tabF := ⟨tab_ok.size, tab_ok.agg, tab_ok.elem, tab_ok.field, tab_ok.zero, tab_ok.bytes, tab_ok.kind, tab_ok.struct, tab_ok.zok, tab_ok.eqs⟩
theorem cloneI_run (l : List Int) (h0 : l ≠ []) (hl : l.length ≤ 1000000) : Run Tryz.prog 212 [] [.one (.c (tInts l))] [.spare l.length 1] (.one (.own (l.map fun x => [AC.int .i64 x]) 0)) := by
  refine run_of_aw tab_ok Tryz.func212 rfl rfl Tryz.ntmps212 (by simp) ?_
  simp only [argA]
  obtain ⟨x, r, rfl⟩ : ∃ x r', l = x :: r' := by cases l with | nil => exact absurd rfl h0 | cons x r => exact ⟨x, r, rfl⟩
  have hw := ints_wide (x :: r)
  have hlen : ((x :: r).map fun x => [AC.int .i64 x]).length = r.length + 1 := by simp
  simp only [List.length_cons] at hl
  repeat' (first | refine st_nil ?_ | (refine st_pop rfl rfl rfl rfl ?_ ?_; · (repeat' (first | exact trivial | rfl | exact Nat.le_of_ble_eq_true rfl | omega | exact hw | (rw [hlen]; omega) | apply And.intro))) | (refine st_lop rfl rfl rfl rfl ?_ ?_; · (repeat' (first | exact trivial | rfl | exact Nat.le_of_ble_eq_true rfl | omega | exact hw | (rw [hlen]; omega) | apply And.intro))) | (refine st_store rfl rfl rfl ?_ ?_; · (repeat' (first | exact trivial | rfl | exact Nat.le_of_ble_eq_true rfl | omega | exact hw | (rw [hlen]; omega) | apply And.intro))) | (refine st_lit rfl rfl rfl rfl ?_ ?_; · (repeat' (first | exact trivial | rfl | exact Nat.le_of_ble_eq_true rfl | omega | exact hw | (rw [hlen]; omega) | apply And.intro))) | refine st_skip rfl rfl rfl ?_ | refine st_skip0 rfl rfl ?_ | (refine st_if rfl (fun hb => ?_) (fun hb => ?_) <;> (first | exact no_ hb | rw [hb])) | refine aw_seq ?_ | refine aw_region tab_ok _ rfl ?_ | refine aw_drawn2 tabS_ok _ rfl mixed (by decide +kernel) ?_ | (refine aw_cond rfl (fun hb => ?_) (fun hb => ?_) <;> (try exact no_ hb)) | refine aw_block ?_ | refine aw_exit ?_ | refine aw_ret ?_ | refine aw_skip ?_ | (refine st_sopq rfl rfl rfl rfl rfl (sop_notNil rfl rfl (tab_ok.kind 22 _ rfl)) ?_))
  all_goals exact ⟨.inr rfl, ⟨.inl ⟨2, rfl, rfl⟩, ⟨[], by rw [List.append_nil]; exact congrArg (fun n => [Ob.spare n 1]) (by simp)⟩, Nat.zero_le _, mem_below ⟨trivial, trivial⟩, by show 0 < 1; omega⟩⟩
def allF (l : List Int) (k : Int) : Bool := bif (uniteF (l ++ [k]) 0).2 then decide ((uniteF (l ++ [k]) 0).1 = k) else false
theorem all_pure (l : List Int) (k : Int) (h0 : l ≠ []) (hl : l.length ≤ 100000) : Pure Tryz.prog 201 [.one (tInts l), .one (.int .i64 k)] (vBool (allF l k)) := by
  refine pure_of_aw tabF_ok Tryz.func201 rfl rfl Tryz.ntmps201 (by simp) ?_
  simp only [argT, PV.av, List.map_cons, List.map_nil]
  have hun := unite_pure (l ++ [k]) (by simp; omega)
  have htI : tInts (l ++ [k]) = .lst ((l.map fun x => [AC.int .i64 x]) ++ [[.int .i64 k]]) := by simp [tInts]
  rw [htI] at hun
  have hal : allF l k = bif (uniteF (l ++ [k]) 0).2 then decide ((uniteF (l ++ [k]) 0).1 = k) else false := rfl
  generalize uniteF (l ++ [k]) 0 = uu at hun hal
  obtain ⟨u1, u2⟩ := uu
  have hun' : Pure Tryz.prog 202 [.one (.lst ((l.map fun x => [AC.int .i64 x]) ++ [[.int .i64 k]]))] (.tup [.one (.int .i64 u1), .one (.bool u2)]) := hun
  have hlm : (l.map fun x => [AC.int .i64 x]).length = l.length := by simp
  repeat' (first | refine st_nil ?_ | (refine st_pop rfl rfl rfl rfl ?_ ?_; · (repeat' (first | exact trivial | rfl | exact Nat.le_of_ble_eq_true rfl | omega | (intro e he; simp at he; subst he; rfl) | exact hlm | (show (_ + 1) * 8 ≤ _; omega) | (show _ + 1 ≤ _; omega) | apply And.intro))) | (refine st_lop rfl rfl rfl rfl ?_ ?_; · (repeat' (first | exact trivial | rfl | exact Nat.le_of_ble_eq_true rfl | omega | (intro e he; simp at he; subst he; rfl) | exact hlm | (show (_ + 1) * 8 ≤ _; omega) | (show _ + 1 ≤ _; omega) | apply And.intro))) | (refine st_store rfl rfl rfl ?_ ?_; · (repeat' (first | exact trivial | rfl | exact Nat.le_of_ble_eq_true rfl | omega | (intro e he; simp at he; subst he; rfl) | exact hlm | (show (_ + 1) * 8 ≤ _; omega) | (show _ + 1 ≤ _; omega) | apply And.intro))) | (refine st_lit rfl rfl rfl rfl ?_ ?_; · (repeat' (first | exact trivial | rfl | exact Nat.le_of_ble_eq_true rfl | omega | (intro e he; simp at he; subst he; rfl) | exact hlm | (show (_ + 1) * 8 ≤ _; omega) | (show _ + 1 ≤ _; omega) | apply And.intro))) | refine st_skip rfl rfl rfl ?_ | refine st_skip0 rfl rfl ?_ | refine st_call rfl rfl rfl rfl hun' rfl ?_ | (refine st_run [] (r' := .one (.own (l.map fun x => [AC.int .i64 x]) 0)) (L' := [.spare l.length 1]) rfl rfl rfl rfl (cloneI_run l h0 (by omega)) rfl ⟨rfl, by simp, fun i x hx => by simp at hx, fun x hx => by simp at hx, args_below ⟨trivial, trivial⟩⟩ rfl rfl ?_) | (refine st_if rfl (fun hb => ?_) (fun hb => ?_) <;> (first | exact no_ hb | rw [hb])) | refine aw_seq ?_ | refine aw_region tabF_ok _ rfl ?_ | refine aw_drawn2 tabS_ok _ rfl mixed (by decide +kernel) ?_ | (refine aw_cond rfl (fun hb => ?_) (fun hb => ?_) <;> (try exact no_ hb)) | refine aw_block ?_ | refine aw_exit ?_ | refine aw_ret ?_ | refine aw_skip ?_)
  all_goals (refine end_ret (res_of rfl (by trivial) (vBool_eq ?_)); rw [hal]; simp only [*, cond_true, cond_false])
end Go.Proofs.YtfpbmfalamappaaGreatDoor

namespace Go.Proofs.YtfpbmfalamappaaGreatDoor
open Go.RowKit Go.MapKept
set_option maxRecDepth 100000
/-- The kind of an expression, given those of its arguments. -/
def resF (op : Int) (v : Val) (l : List Int) : Int × Bool :=
  bif inL op [1] then (v.kind, true) else bif inL op [4, 5, 6] then (3, allF l 3) else bif inL op [7, 8, 9, 10, 11, 12] then (3, (uniteF l 0).2) else bif inL op [19] then (2, allF l 2) else bif inL op [20] then (1, allF l 2)
  else bif inL op [21] then (3, true) else bif inL op [22] then ((uniteF (l.drop 1) 0).1, bif (uniteF (l.drop 1) 0).2 then allF (l.take 1) 3 else false) else bif inL op [23] then uniteF l 0 else bif inL op [24] then (3, allF l 1) else (1, allF l 1)
theorem result_1 (int : Int) (v : Val) (nm : ByteArray) (args : List Ex) (l : List Int) (h0 : l ≠ [] ∨ 1 = 1) (hl : l.length ≤ 100000) : Pure Tryz.prog 192 [.agg (tE (.mk 1 int v nm args)), .one (tInts l)] (vIB (resF 1 v l)) := by
  rw [tE_mk]
  refine pure_of_aw tab_ok Tryz.func192 rfl rfl Tryz.ntmps192 (by simp) ?_
  simp only [argT, PV.av, List.map_cons, List.map_nil]
  repeat' (first | refine st_nil ?_ | (refine st_pop rfl rfl rfl rfl ?_ ?_; · exact ok_) | (refine st_lop rfl rfl rfl rfl ?_ ?_; · exact ok_) | (refine st_store rfl rfl rfl ?_ ?_; · exact ok_) | (refine st_lit rfl rfl rfl rfl ?_ ?_; · exact ok_) | refine st_skip rfl rfl rfl ?_ | refine st_skip0 rfl rfl ?_ | (refine st_if rfl (fun hb => ?_) (fun hb => ?_) <;> (first | exact no_ hb | rw [hb])) | refine aw_seq ?_ | refine aw_region tab_ok _ rfl ?_ | refine aw_drawn2 tabS_ok _ rfl mixed (by decide +kernel) ?_ | (refine aw_cond rfl (fun hb => ?_) (fun hb => ?_) <;> (try exact no_ hb)) | refine aw_block ?_ | refine aw_exit ?_ | refine aw_ret ?_ | refine aw_skip ?_)
  all_goals exact end_ret (res_of rfl ⟨trivial, trivial, trivial⟩ rfl)
theorem result_4 (int : Int) (v : Val) (nm : ByteArray) (args : List Ex) (l : List Int) (h0 : l ≠ [] ∨ 4 = 1) (hl : l.length ≤ 100000) : Pure Tryz.prog 192 [.agg (tE (.mk 4 int v nm args)), .one (tInts l)] (vIB (resF 4 v l)) := by
  rw [tE_mk]
  refine pure_of_aw tab_ok Tryz.func192 rfl rfl Tryz.ntmps192 (by simp) ?_
  simp only [argT, PV.av, List.map_cons, List.map_nil]
  have hal := all_pure l 3 (h0.resolve_right (by decide)) hl
  have hr : resF 4 v l = (3, allF l 3) := rfl
  rw [hr]
  generalize allF l 3 = aa at hal
  repeat' (first | refine st_nil ?_ | (refine st_pop rfl rfl rfl rfl ?_ ?_; · exact ok_) | (refine st_lop rfl rfl rfl rfl ?_ ?_; · exact ok_) | (refine st_store rfl rfl rfl ?_ ?_; · exact ok_) | (refine st_lit rfl rfl rfl rfl ?_ ?_; · exact ok_) | refine st_skip rfl rfl rfl ?_ | refine st_skip0 rfl rfl ?_ | refine st_call rfl rfl rfl rfl hal rfl ?_ | (refine st_if rfl (fun hb => ?_) (fun hb => ?_) <;> (first | exact no_ hb | rw [hb])) | refine aw_seq ?_ | refine aw_region tab_ok _ rfl ?_ | refine aw_drawn2 tabS_ok _ rfl mixed (by decide +kernel) ?_ | (refine aw_cond rfl (fun hb => ?_) (fun hb => ?_) <;> (try exact no_ hb)) | refine aw_block ?_ | refine aw_exit ?_ | refine aw_ret ?_ | refine aw_skip ?_)
  all_goals exact end_ret (res_of rfl ⟨trivial, trivial, trivial⟩ rfl)
theorem result_5 (int : Int) (v : Val) (nm : ByteArray) (args : List Ex) (l : List Int) (h0 : l ≠ [] ∨ 5 = 1) (hl : l.length ≤ 100000) : Pure Tryz.prog 192 [.agg (tE (.mk 5 int v nm args)), .one (tInts l)] (vIB (resF 5 v l)) := by
  rw [tE_mk]
  refine pure_of_aw tab_ok Tryz.func192 rfl rfl Tryz.ntmps192 (by simp) ?_
  simp only [argT, PV.av, List.map_cons, List.map_nil]
  have hal := all_pure l 3 (h0.resolve_right (by decide)) hl
  have hr : resF 5 v l = (3, allF l 3) := rfl
  rw [hr]
  generalize allF l 3 = aa at hal
  repeat' (first | refine st_nil ?_ | (refine st_pop rfl rfl rfl rfl ?_ ?_; · exact ok_) | (refine st_lop rfl rfl rfl rfl ?_ ?_; · exact ok_) | (refine st_store rfl rfl rfl ?_ ?_; · exact ok_) | (refine st_lit rfl rfl rfl rfl ?_ ?_; · exact ok_) | refine st_skip rfl rfl rfl ?_ | refine st_skip0 rfl rfl ?_ | refine st_call rfl rfl rfl rfl hal rfl ?_ | (refine st_if rfl (fun hb => ?_) (fun hb => ?_) <;> (first | exact no_ hb | rw [hb])) | refine aw_seq ?_ | refine aw_region tab_ok _ rfl ?_ | refine aw_drawn2 tabS_ok _ rfl mixed (by decide +kernel) ?_ | (refine aw_cond rfl (fun hb => ?_) (fun hb => ?_) <;> (try exact no_ hb)) | refine aw_block ?_ | refine aw_exit ?_ | refine aw_ret ?_ | refine aw_skip ?_)
  all_goals exact end_ret (res_of rfl ⟨trivial, trivial, trivial⟩ rfl)
theorem result_6 (int : Int) (v : Val) (nm : ByteArray) (args : List Ex) (l : List Int) (h0 : l ≠ [] ∨ 6 = 1) (hl : l.length ≤ 100000) : Pure Tryz.prog 192 [.agg (tE (.mk 6 int v nm args)), .one (tInts l)] (vIB (resF 6 v l)) := by
  rw [tE_mk]
  refine pure_of_aw tab_ok Tryz.func192 rfl rfl Tryz.ntmps192 (by simp) ?_
  simp only [argT, PV.av, List.map_cons, List.map_nil]
  have hal := all_pure l 3 (h0.resolve_right (by decide)) hl
  have hr : resF 6 v l = (3, allF l 3) := rfl
  rw [hr]
  generalize allF l 3 = aa at hal
  repeat' (first | refine st_nil ?_ | (refine st_pop rfl rfl rfl rfl ?_ ?_; · exact ok_) | (refine st_lop rfl rfl rfl rfl ?_ ?_; · exact ok_) | (refine st_store rfl rfl rfl ?_ ?_; · exact ok_) | (refine st_lit rfl rfl rfl rfl ?_ ?_; · exact ok_) | refine st_skip rfl rfl rfl ?_ | refine st_skip0 rfl rfl ?_ | refine st_call rfl rfl rfl rfl hal rfl ?_ | (refine st_if rfl (fun hb => ?_) (fun hb => ?_) <;> (first | exact no_ hb | rw [hb])) | refine aw_seq ?_ | refine aw_region tab_ok _ rfl ?_ | refine aw_drawn2 tabS_ok _ rfl mixed (by decide +kernel) ?_ | (refine aw_cond rfl (fun hb => ?_) (fun hb => ?_) <;> (try exact no_ hb)) | refine aw_block ?_ | refine aw_exit ?_ | refine aw_ret ?_ | refine aw_skip ?_)
  all_goals exact end_ret (res_of rfl ⟨trivial, trivial, trivial⟩ rfl)
theorem result_7 (int : Int) (v : Val) (nm : ByteArray) (args : List Ex) (l : List Int) (h0 : l ≠ [] ∨ 7 = 1) (hl : l.length ≤ 100000) : Pure Tryz.prog 192 [.agg (tE (.mk 7 int v nm args)), .one (tInts l)] (vIB (resF 7 v l)) := by
  rw [tE_mk]
  refine pure_of_aw tab_ok Tryz.func192 rfl rfl Tryz.ntmps192 (by simp) ?_
  simp only [argT, PV.av, List.map_cons, List.map_nil]
  have hun := unite_pure l (by omega)
  have hr : resF 7 v l = (3, (uniteF l 0).2) := rfl
  rw [hr]
  generalize uniteF l 0 = uu at hun
  obtain ⟨u1, u2⟩ := uu
  have hun' : Pure Tryz.prog 202 [.one (tInts l)] (.tup [.one (.int .i64 u1), .one (.bool u2)]) := hun
  repeat' (first | refine st_nil ?_ | (refine st_pop rfl rfl rfl rfl ?_ ?_; · exact ok_) | (refine st_lop rfl rfl rfl rfl ?_ ?_; · exact ok_) | (refine st_store rfl rfl rfl ?_ ?_; · exact ok_) | (refine st_lit rfl rfl rfl rfl ?_ ?_; · exact ok_) | refine st_skip rfl rfl rfl ?_ | refine st_skip0 rfl rfl ?_ | refine st_call rfl rfl rfl rfl hun' rfl ?_ | (refine st_if rfl (fun hb => ?_) (fun hb => ?_) <;> (first | exact no_ hb | rw [hb])) | refine aw_seq ?_ | refine aw_region tab_ok _ rfl ?_ | refine aw_drawn2 tabS_ok _ rfl mixed (by decide +kernel) ?_ | (refine aw_cond rfl (fun hb => ?_) (fun hb => ?_) <;> (try exact no_ hb)) | refine aw_block ?_ | refine aw_exit ?_ | refine aw_ret ?_ | refine aw_skip ?_)
  all_goals exact end_ret (res_of rfl ⟨trivial, trivial, trivial⟩ rfl)
theorem result_8 (int : Int) (v : Val) (nm : ByteArray) (args : List Ex) (l : List Int) (h0 : l ≠ [] ∨ 8 = 1) (hl : l.length ≤ 100000) : Pure Tryz.prog 192 [.agg (tE (.mk 8 int v nm args)), .one (tInts l)] (vIB (resF 8 v l)) := by
  rw [tE_mk]
  refine pure_of_aw tab_ok Tryz.func192 rfl rfl Tryz.ntmps192 (by simp) ?_
  simp only [argT, PV.av, List.map_cons, List.map_nil]
  have hun := unite_pure l (by omega)
  have hr : resF 8 v l = (3, (uniteF l 0).2) := rfl
  rw [hr]
  generalize uniteF l 0 = uu at hun
  obtain ⟨u1, u2⟩ := uu
  have hun' : Pure Tryz.prog 202 [.one (tInts l)] (.tup [.one (.int .i64 u1), .one (.bool u2)]) := hun
  repeat' (first | refine st_nil ?_ | (refine st_pop rfl rfl rfl rfl ?_ ?_; · exact ok_) | (refine st_lop rfl rfl rfl rfl ?_ ?_; · exact ok_) | (refine st_store rfl rfl rfl ?_ ?_; · exact ok_) | (refine st_lit rfl rfl rfl rfl ?_ ?_; · exact ok_) | refine st_skip rfl rfl rfl ?_ | refine st_skip0 rfl rfl ?_ | refine st_call rfl rfl rfl rfl hun' rfl ?_ | (refine st_if rfl (fun hb => ?_) (fun hb => ?_) <;> (first | exact no_ hb | rw [hb])) | refine aw_seq ?_ | refine aw_region tab_ok _ rfl ?_ | refine aw_drawn2 tabS_ok _ rfl mixed (by decide +kernel) ?_ | (refine aw_cond rfl (fun hb => ?_) (fun hb => ?_) <;> (try exact no_ hb)) | refine aw_block ?_ | refine aw_exit ?_ | refine aw_ret ?_ | refine aw_skip ?_)
  all_goals exact end_ret (res_of rfl ⟨trivial, trivial, trivial⟩ rfl)
theorem result_9 (int : Int) (v : Val) (nm : ByteArray) (args : List Ex) (l : List Int) (h0 : l ≠ [] ∨ 9 = 1) (hl : l.length ≤ 100000) : Pure Tryz.prog 192 [.agg (tE (.mk 9 int v nm args)), .one (tInts l)] (vIB (resF 9 v l)) := by
  rw [tE_mk]
  refine pure_of_aw tab_ok Tryz.func192 rfl rfl Tryz.ntmps192 (by simp) ?_
  simp only [argT, PV.av, List.map_cons, List.map_nil]
  have hun := unite_pure l (by omega)
  have hr : resF 9 v l = (3, (uniteF l 0).2) := rfl
  rw [hr]
  generalize uniteF l 0 = uu at hun
  obtain ⟨u1, u2⟩ := uu
  have hun' : Pure Tryz.prog 202 [.one (tInts l)] (.tup [.one (.int .i64 u1), .one (.bool u2)]) := hun
  repeat' (first | refine st_nil ?_ | (refine st_pop rfl rfl rfl rfl ?_ ?_; · exact ok_) | (refine st_lop rfl rfl rfl rfl ?_ ?_; · exact ok_) | (refine st_store rfl rfl rfl ?_ ?_; · exact ok_) | (refine st_lit rfl rfl rfl rfl ?_ ?_; · exact ok_) | refine st_skip rfl rfl rfl ?_ | refine st_skip0 rfl rfl ?_ | refine st_call rfl rfl rfl rfl hun' rfl ?_ | (refine st_if rfl (fun hb => ?_) (fun hb => ?_) <;> (first | exact no_ hb | rw [hb])) | refine aw_seq ?_ | refine aw_region tab_ok _ rfl ?_ | refine aw_drawn2 tabS_ok _ rfl mixed (by decide +kernel) ?_ | (refine aw_cond rfl (fun hb => ?_) (fun hb => ?_) <;> (try exact no_ hb)) | refine aw_block ?_ | refine aw_exit ?_ | refine aw_ret ?_ | refine aw_skip ?_)
  all_goals exact end_ret (res_of rfl ⟨trivial, trivial, trivial⟩ rfl)
theorem result_10 (int : Int) (v : Val) (nm : ByteArray) (args : List Ex) (l : List Int) (h0 : l ≠ [] ∨ 10 = 1) (hl : l.length ≤ 100000) : Pure Tryz.prog 192 [.agg (tE (.mk 10 int v nm args)), .one (tInts l)] (vIB (resF 10 v l)) := by
  rw [tE_mk]
  refine pure_of_aw tab_ok Tryz.func192 rfl rfl Tryz.ntmps192 (by simp) ?_
  simp only [argT, PV.av, List.map_cons, List.map_nil]
  have hun := unite_pure l (by omega)
  have hr : resF 10 v l = (3, (uniteF l 0).2) := rfl
  rw [hr]
  generalize uniteF l 0 = uu at hun
  obtain ⟨u1, u2⟩ := uu
  have hun' : Pure Tryz.prog 202 [.one (tInts l)] (.tup [.one (.int .i64 u1), .one (.bool u2)]) := hun
  repeat' (first | refine st_nil ?_ | (refine st_pop rfl rfl rfl rfl ?_ ?_; · exact ok_) | (refine st_lop rfl rfl rfl rfl ?_ ?_; · exact ok_) | (refine st_store rfl rfl rfl ?_ ?_; · exact ok_) | (refine st_lit rfl rfl rfl rfl ?_ ?_; · exact ok_) | refine st_skip rfl rfl rfl ?_ | refine st_skip0 rfl rfl ?_ | refine st_call rfl rfl rfl rfl hun' rfl ?_ | (refine st_if rfl (fun hb => ?_) (fun hb => ?_) <;> (first | exact no_ hb | rw [hb])) | refine aw_seq ?_ | refine aw_region tab_ok _ rfl ?_ | refine aw_drawn2 tabS_ok _ rfl mixed (by decide +kernel) ?_ | (refine aw_cond rfl (fun hb => ?_) (fun hb => ?_) <;> (try exact no_ hb)) | refine aw_block ?_ | refine aw_exit ?_ | refine aw_ret ?_ | refine aw_skip ?_)
  all_goals exact end_ret (res_of rfl ⟨trivial, trivial, trivial⟩ rfl)
theorem result_11 (int : Int) (v : Val) (nm : ByteArray) (args : List Ex) (l : List Int) (h0 : l ≠ [] ∨ 11 = 1) (hl : l.length ≤ 100000) : Pure Tryz.prog 192 [.agg (tE (.mk 11 int v nm args)), .one (tInts l)] (vIB (resF 11 v l)) := by
  rw [tE_mk]
  refine pure_of_aw tab_ok Tryz.func192 rfl rfl Tryz.ntmps192 (by simp) ?_
  simp only [argT, PV.av, List.map_cons, List.map_nil]
  have hun := unite_pure l (by omega)
  have hr : resF 11 v l = (3, (uniteF l 0).2) := rfl
  rw [hr]
  generalize uniteF l 0 = uu at hun
  obtain ⟨u1, u2⟩ := uu
  have hun' : Pure Tryz.prog 202 [.one (tInts l)] (.tup [.one (.int .i64 u1), .one (.bool u2)]) := hun
  repeat' (first | refine st_nil ?_ | (refine st_pop rfl rfl rfl rfl ?_ ?_; · exact ok_) | (refine st_lop rfl rfl rfl rfl ?_ ?_; · exact ok_) | (refine st_store rfl rfl rfl ?_ ?_; · exact ok_) | (refine st_lit rfl rfl rfl rfl ?_ ?_; · exact ok_) | refine st_skip rfl rfl rfl ?_ | refine st_skip0 rfl rfl ?_ | refine st_call rfl rfl rfl rfl hun' rfl ?_ | (refine st_if rfl (fun hb => ?_) (fun hb => ?_) <;> (first | exact no_ hb | rw [hb])) | refine aw_seq ?_ | refine aw_region tab_ok _ rfl ?_ | refine aw_drawn2 tabS_ok _ rfl mixed (by decide +kernel) ?_ | (refine aw_cond rfl (fun hb => ?_) (fun hb => ?_) <;> (try exact no_ hb)) | refine aw_block ?_ | refine aw_exit ?_ | refine aw_ret ?_ | refine aw_skip ?_)
  all_goals exact end_ret (res_of rfl ⟨trivial, trivial, trivial⟩ rfl)
theorem result_12 (int : Int) (v : Val) (nm : ByteArray) (args : List Ex) (l : List Int) (h0 : l ≠ [] ∨ 12 = 1) (hl : l.length ≤ 100000) : Pure Tryz.prog 192 [.agg (tE (.mk 12 int v nm args)), .one (tInts l)] (vIB (resF 12 v l)) := by
  rw [tE_mk]
  refine pure_of_aw tab_ok Tryz.func192 rfl rfl Tryz.ntmps192 (by simp) ?_
  simp only [argT, PV.av, List.map_cons, List.map_nil]
  have hun := unite_pure l (by omega)
  have hr : resF 12 v l = (3, (uniteF l 0).2) := rfl
  rw [hr]
  generalize uniteF l 0 = uu at hun
  obtain ⟨u1, u2⟩ := uu
  have hun' : Pure Tryz.prog 202 [.one (tInts l)] (.tup [.one (.int .i64 u1), .one (.bool u2)]) := hun
  repeat' (first | refine st_nil ?_ | (refine st_pop rfl rfl rfl rfl ?_ ?_; · exact ok_) | (refine st_lop rfl rfl rfl rfl ?_ ?_; · exact ok_) | (refine st_store rfl rfl rfl ?_ ?_; · exact ok_) | (refine st_lit rfl rfl rfl rfl ?_ ?_; · exact ok_) | refine st_skip rfl rfl rfl ?_ | refine st_skip0 rfl rfl ?_ | refine st_call rfl rfl rfl rfl hun' rfl ?_ | (refine st_if rfl (fun hb => ?_) (fun hb => ?_) <;> (first | exact no_ hb | rw [hb])) | refine aw_seq ?_ | refine aw_region tab_ok _ rfl ?_ | refine aw_drawn2 tabS_ok _ rfl mixed (by decide +kernel) ?_ | (refine aw_cond rfl (fun hb => ?_) (fun hb => ?_) <;> (try exact no_ hb)) | refine aw_block ?_ | refine aw_exit ?_ | refine aw_ret ?_ | refine aw_skip ?_)
  all_goals exact end_ret (res_of rfl ⟨trivial, trivial, trivial⟩ rfl)
theorem result_13 (int : Int) (v : Val) (nm : ByteArray) (args : List Ex) (l : List Int) (h0 : l ≠ [] ∨ 13 = 1) (hl : l.length ≤ 100000) : Pure Tryz.prog 192 [.agg (tE (.mk 13 int v nm args)), .one (tInts l)] (vIB (resF 13 v l)) := by
  rw [tE_mk]
  refine pure_of_aw tab_ok Tryz.func192 rfl rfl Tryz.ntmps192 (by simp) ?_
  simp only [argT, PV.av, List.map_cons, List.map_nil]
  have hal := all_pure l 1 (h0.resolve_right (by decide)) hl
  have hr : resF 13 v l = (1, allF l 1) := rfl
  rw [hr]
  generalize allF l 1 = aa at hal
  repeat' (first | refine st_nil ?_ | (refine st_pop rfl rfl rfl rfl ?_ ?_; · exact ok_) | (refine st_lop rfl rfl rfl rfl ?_ ?_; · exact ok_) | (refine st_store rfl rfl rfl ?_ ?_; · exact ok_) | (refine st_lit rfl rfl rfl rfl ?_ ?_; · exact ok_) | refine st_skip rfl rfl rfl ?_ | refine st_skip0 rfl rfl ?_ | refine st_call rfl rfl rfl rfl hal rfl ?_ | (refine st_if rfl (fun hb => ?_) (fun hb => ?_) <;> (first | exact no_ hb | rw [hb])) | refine aw_seq ?_ | refine aw_region tab_ok _ rfl ?_ | refine aw_drawn2 tabS_ok _ rfl mixed (by decide +kernel) ?_ | (refine aw_cond rfl (fun hb => ?_) (fun hb => ?_) <;> (try exact no_ hb)) | refine aw_block ?_ | refine aw_exit ?_ | refine aw_ret ?_ | refine aw_skip ?_)
  all_goals exact end_ret (res_of rfl ⟨trivial, trivial, trivial⟩ rfl)
theorem result_14 (int : Int) (v : Val) (nm : ByteArray) (args : List Ex) (l : List Int) (h0 : l ≠ [] ∨ 14 = 1) (hl : l.length ≤ 100000) : Pure Tryz.prog 192 [.agg (tE (.mk 14 int v nm args)), .one (tInts l)] (vIB (resF 14 v l)) := by
  rw [tE_mk]
  refine pure_of_aw tab_ok Tryz.func192 rfl rfl Tryz.ntmps192 (by simp) ?_
  simp only [argT, PV.av, List.map_cons, List.map_nil]
  have hal := all_pure l 1 (h0.resolve_right (by decide)) hl
  have hr : resF 14 v l = (1, allF l 1) := rfl
  rw [hr]
  generalize allF l 1 = aa at hal
  repeat' (first | refine st_nil ?_ | (refine st_pop rfl rfl rfl rfl ?_ ?_; · exact ok_) | (refine st_lop rfl rfl rfl rfl ?_ ?_; · exact ok_) | (refine st_store rfl rfl rfl ?_ ?_; · exact ok_) | (refine st_lit rfl rfl rfl rfl ?_ ?_; · exact ok_) | refine st_skip rfl rfl rfl ?_ | refine st_skip0 rfl rfl ?_ | refine st_call rfl rfl rfl rfl hal rfl ?_ | (refine st_if rfl (fun hb => ?_) (fun hb => ?_) <;> (first | exact no_ hb | rw [hb])) | refine aw_seq ?_ | refine aw_region tab_ok _ rfl ?_ | refine aw_drawn2 tabS_ok _ rfl mixed (by decide +kernel) ?_ | (refine aw_cond rfl (fun hb => ?_) (fun hb => ?_) <;> (try exact no_ hb)) | refine aw_block ?_ | refine aw_exit ?_ | refine aw_ret ?_ | refine aw_skip ?_)
  all_goals exact end_ret (res_of rfl ⟨trivial, trivial, trivial⟩ rfl)
theorem result_15 (int : Int) (v : Val) (nm : ByteArray) (args : List Ex) (l : List Int) (h0 : l ≠ [] ∨ 15 = 1) (hl : l.length ≤ 100000) : Pure Tryz.prog 192 [.agg (tE (.mk 15 int v nm args)), .one (tInts l)] (vIB (resF 15 v l)) := by
  rw [tE_mk]
  refine pure_of_aw tab_ok Tryz.func192 rfl rfl Tryz.ntmps192 (by simp) ?_
  simp only [argT, PV.av, List.map_cons, List.map_nil]
  have hal := all_pure l 1 (h0.resolve_right (by decide)) hl
  have hr : resF 15 v l = (1, allF l 1) := rfl
  rw [hr]
  generalize allF l 1 = aa at hal
  repeat' (first | refine st_nil ?_ | (refine st_pop rfl rfl rfl rfl ?_ ?_; · exact ok_) | (refine st_lop rfl rfl rfl rfl ?_ ?_; · exact ok_) | (refine st_store rfl rfl rfl ?_ ?_; · exact ok_) | (refine st_lit rfl rfl rfl rfl ?_ ?_; · exact ok_) | refine st_skip rfl rfl rfl ?_ | refine st_skip0 rfl rfl ?_ | refine st_call rfl rfl rfl rfl hal rfl ?_ | (refine st_if rfl (fun hb => ?_) (fun hb => ?_) <;> (first | exact no_ hb | rw [hb])) | refine aw_seq ?_ | refine aw_region tab_ok _ rfl ?_ | refine aw_drawn2 tabS_ok _ rfl mixed (by decide +kernel) ?_ | (refine aw_cond rfl (fun hb => ?_) (fun hb => ?_) <;> (try exact no_ hb)) | refine aw_block ?_ | refine aw_exit ?_ | refine aw_ret ?_ | refine aw_skip ?_)
  all_goals exact end_ret (res_of rfl ⟨trivial, trivial, trivial⟩ rfl)
theorem result_16 (int : Int) (v : Val) (nm : ByteArray) (args : List Ex) (l : List Int) (h0 : l ≠ [] ∨ 16 = 1) (hl : l.length ≤ 100000) : Pure Tryz.prog 192 [.agg (tE (.mk 16 int v nm args)), .one (tInts l)] (vIB (resF 16 v l)) := by
  rw [tE_mk]
  refine pure_of_aw tab_ok Tryz.func192 rfl rfl Tryz.ntmps192 (by simp) ?_
  simp only [argT, PV.av, List.map_cons, List.map_nil]
  have hal := all_pure l 1 (h0.resolve_right (by decide)) hl
  have hr : resF 16 v l = (1, allF l 1) := rfl
  rw [hr]
  generalize allF l 1 = aa at hal
  repeat' (first | refine st_nil ?_ | (refine st_pop rfl rfl rfl rfl ?_ ?_; · exact ok_) | (refine st_lop rfl rfl rfl rfl ?_ ?_; · exact ok_) | (refine st_store rfl rfl rfl ?_ ?_; · exact ok_) | (refine st_lit rfl rfl rfl rfl ?_ ?_; · exact ok_) | refine st_skip rfl rfl rfl ?_ | refine st_skip0 rfl rfl ?_ | refine st_call rfl rfl rfl rfl hal rfl ?_ | (refine st_if rfl (fun hb => ?_) (fun hb => ?_) <;> (first | exact no_ hb | rw [hb])) | refine aw_seq ?_ | refine aw_region tab_ok _ rfl ?_ | refine aw_drawn2 tabS_ok _ rfl mixed (by decide +kernel) ?_ | (refine aw_cond rfl (fun hb => ?_) (fun hb => ?_) <;> (try exact no_ hb)) | refine aw_block ?_ | refine aw_exit ?_ | refine aw_ret ?_ | refine aw_skip ?_)
  all_goals exact end_ret (res_of rfl ⟨trivial, trivial, trivial⟩ rfl)
theorem result_17 (int : Int) (v : Val) (nm : ByteArray) (args : List Ex) (l : List Int) (h0 : l ≠ [] ∨ 17 = 1) (hl : l.length ≤ 100000) : Pure Tryz.prog 192 [.agg (tE (.mk 17 int v nm args)), .one (tInts l)] (vIB (resF 17 v l)) := by
  rw [tE_mk]
  refine pure_of_aw tab_ok Tryz.func192 rfl rfl Tryz.ntmps192 (by simp) ?_
  simp only [argT, PV.av, List.map_cons, List.map_nil]
  have hal := all_pure l 1 (h0.resolve_right (by decide)) hl
  have hr : resF 17 v l = (1, allF l 1) := rfl
  rw [hr]
  generalize allF l 1 = aa at hal
  repeat' (first | refine st_nil ?_ | (refine st_pop rfl rfl rfl rfl ?_ ?_; · exact ok_) | (refine st_lop rfl rfl rfl rfl ?_ ?_; · exact ok_) | (refine st_store rfl rfl rfl ?_ ?_; · exact ok_) | (refine st_lit rfl rfl rfl rfl ?_ ?_; · exact ok_) | refine st_skip rfl rfl rfl ?_ | refine st_skip0 rfl rfl ?_ | refine st_call rfl rfl rfl rfl hal rfl ?_ | (refine st_if rfl (fun hb => ?_) (fun hb => ?_) <;> (first | exact no_ hb | rw [hb])) | refine aw_seq ?_ | refine aw_region tab_ok _ rfl ?_ | refine aw_drawn2 tabS_ok _ rfl mixed (by decide +kernel) ?_ | (refine aw_cond rfl (fun hb => ?_) (fun hb => ?_) <;> (try exact no_ hb)) | refine aw_block ?_ | refine aw_exit ?_ | refine aw_ret ?_ | refine aw_skip ?_)
  all_goals exact end_ret (res_of rfl ⟨trivial, trivial, trivial⟩ rfl)
theorem result_18 (int : Int) (v : Val) (nm : ByteArray) (args : List Ex) (l : List Int) (h0 : l ≠ [] ∨ 18 = 1) (hl : l.length ≤ 100000) : Pure Tryz.prog 192 [.agg (tE (.mk 18 int v nm args)), .one (tInts l)] (vIB (resF 18 v l)) := by
  rw [tE_mk]
  refine pure_of_aw tab_ok Tryz.func192 rfl rfl Tryz.ntmps192 (by simp) ?_
  simp only [argT, PV.av, List.map_cons, List.map_nil]
  have hal := all_pure l 1 (h0.resolve_right (by decide)) hl
  have hr : resF 18 v l = (1, allF l 1) := rfl
  rw [hr]
  generalize allF l 1 = aa at hal
  repeat' (first | refine st_nil ?_ | (refine st_pop rfl rfl rfl rfl ?_ ?_; · exact ok_) | (refine st_lop rfl rfl rfl rfl ?_ ?_; · exact ok_) | (refine st_store rfl rfl rfl ?_ ?_; · exact ok_) | (refine st_lit rfl rfl rfl rfl ?_ ?_; · exact ok_) | refine st_skip rfl rfl rfl ?_ | refine st_skip0 rfl rfl ?_ | refine st_call rfl rfl rfl rfl hal rfl ?_ | (refine st_if rfl (fun hb => ?_) (fun hb => ?_) <;> (first | exact no_ hb | rw [hb])) | refine aw_seq ?_ | refine aw_region tab_ok _ rfl ?_ | refine aw_drawn2 tabS_ok _ rfl mixed (by decide +kernel) ?_ | (refine aw_cond rfl (fun hb => ?_) (fun hb => ?_) <;> (try exact no_ hb)) | refine aw_block ?_ | refine aw_exit ?_ | refine aw_ret ?_ | refine aw_skip ?_)
  all_goals exact end_ret (res_of rfl ⟨trivial, trivial, trivial⟩ rfl)
theorem result_19 (int : Int) (v : Val) (nm : ByteArray) (args : List Ex) (l : List Int) (h0 : l ≠ [] ∨ 19 = 1) (hl : l.length ≤ 100000) : Pure Tryz.prog 192 [.agg (tE (.mk 19 int v nm args)), .one (tInts l)] (vIB (resF 19 v l)) := by
  rw [tE_mk]
  refine pure_of_aw tab_ok Tryz.func192 rfl rfl Tryz.ntmps192 (by simp) ?_
  simp only [argT, PV.av, List.map_cons, List.map_nil]
  have hal := all_pure l 2 (h0.resolve_right (by decide)) hl
  have hr : resF 19 v l = (2, allF l 2) := rfl
  rw [hr]
  generalize allF l 2 = aa at hal
  repeat' (first | refine st_nil ?_ | (refine st_pop rfl rfl rfl rfl ?_ ?_; · exact ok_) | (refine st_lop rfl rfl rfl rfl ?_ ?_; · exact ok_) | (refine st_store rfl rfl rfl ?_ ?_; · exact ok_) | (refine st_lit rfl rfl rfl rfl ?_ ?_; · exact ok_) | refine st_skip rfl rfl rfl ?_ | refine st_skip0 rfl rfl ?_ | refine st_call rfl rfl rfl rfl hal rfl ?_ | (refine st_if rfl (fun hb => ?_) (fun hb => ?_) <;> (first | exact no_ hb | rw [hb])) | refine aw_seq ?_ | refine aw_region tab_ok _ rfl ?_ | refine aw_drawn2 tabS_ok _ rfl mixed (by decide +kernel) ?_ | (refine aw_cond rfl (fun hb => ?_) (fun hb => ?_) <;> (try exact no_ hb)) | refine aw_block ?_ | refine aw_exit ?_ | refine aw_ret ?_ | refine aw_skip ?_)
  all_goals exact end_ret (res_of rfl ⟨trivial, trivial, trivial⟩ rfl)
theorem result_20 (int : Int) (v : Val) (nm : ByteArray) (args : List Ex) (l : List Int) (h0 : l ≠ [] ∨ 20 = 1) (hl : l.length ≤ 100000) : Pure Tryz.prog 192 [.agg (tE (.mk 20 int v nm args)), .one (tInts l)] (vIB (resF 20 v l)) := by
  rw [tE_mk]
  refine pure_of_aw tab_ok Tryz.func192 rfl rfl Tryz.ntmps192 (by simp) ?_
  simp only [argT, PV.av, List.map_cons, List.map_nil]
  have hal := all_pure l 2 (h0.resolve_right (by decide)) hl
  have hr : resF 20 v l = (1, allF l 2) := rfl
  rw [hr]
  generalize allF l 2 = aa at hal
  repeat' (first | refine st_nil ?_ | (refine st_pop rfl rfl rfl rfl ?_ ?_; · exact ok_) | (refine st_lop rfl rfl rfl rfl ?_ ?_; · exact ok_) | (refine st_store rfl rfl rfl ?_ ?_; · exact ok_) | (refine st_lit rfl rfl rfl rfl ?_ ?_; · exact ok_) | refine st_skip rfl rfl rfl ?_ | refine st_skip0 rfl rfl ?_ | refine st_call rfl rfl rfl rfl hal rfl ?_ | (refine st_if rfl (fun hb => ?_) (fun hb => ?_) <;> (first | exact no_ hb | rw [hb])) | refine aw_seq ?_ | refine aw_region tab_ok _ rfl ?_ | refine aw_drawn2 tabS_ok _ rfl mixed (by decide +kernel) ?_ | (refine aw_cond rfl (fun hb => ?_) (fun hb => ?_) <;> (try exact no_ hb)) | refine aw_block ?_ | refine aw_exit ?_ | refine aw_ret ?_ | refine aw_skip ?_)
  all_goals exact end_ret (res_of rfl ⟨trivial, trivial, trivial⟩ rfl)
theorem result_21 (int : Int) (v : Val) (nm : ByteArray) (args : List Ex) (l : List Int) (h0 : l ≠ [] ∨ 21 = 1) (hl : l.length ≤ 100000) : Pure Tryz.prog 192 [.agg (tE (.mk 21 int v nm args)), .one (tInts l)] (vIB (resF 21 v l)) := by
  rw [tE_mk]
  refine pure_of_aw tab_ok Tryz.func192 rfl rfl Tryz.ntmps192 (by simp) ?_
  simp only [argT, PV.av, List.map_cons, List.map_nil]
  repeat' (first | refine st_nil ?_ | (refine st_pop rfl rfl rfl rfl ?_ ?_; · exact ok_) | (refine st_lop rfl rfl rfl rfl ?_ ?_; · exact ok_) | (refine st_store rfl rfl rfl ?_ ?_; · exact ok_) | (refine st_lit rfl rfl rfl rfl ?_ ?_; · exact ok_) | refine st_skip rfl rfl rfl ?_ | refine st_skip0 rfl rfl ?_ | (refine st_if rfl (fun hb => ?_) (fun hb => ?_) <;> (first | exact no_ hb | rw [hb])) | refine aw_seq ?_ | refine aw_region tab_ok _ rfl ?_ | refine aw_drawn2 tabS_ok _ rfl mixed (by decide +kernel) ?_ | (refine aw_cond rfl (fun hb => ?_) (fun hb => ?_) <;> (try exact no_ hb)) | refine aw_block ?_ | refine aw_exit ?_ | refine aw_ret ?_ | refine aw_skip ?_)
  all_goals exact end_ret (res_of rfl ⟨trivial, trivial, trivial⟩ rfl)
theorem result_22 (int : Int) (v : Val) (nm : ByteArray) (args : List Ex) (a b c : Int) : Pure Tryz.prog 192 [.agg (tE (.mk 22 int v nm args)), .one (tInts [a, b, c])] (vIB (resF 22 v [a, b, c])) := by
  rw [tE_mk]
  refine pure_of_aw tab_ok Tryz.func192 rfl rfl Tryz.ntmps192 (by simp) ?_
  simp only [argT, PV.av, List.map_cons, List.map_nil]
  have hun := unite_pure [b, c] (by simp)
  have hal := all_pure [a] 3 (by simp) (by simp)
  have hr : resF 22 v [a, b, c] = ((uniteF [b, c] 0).1, bif (uniteF [b, c] 0).2 then allF [a] 3 else false) := rfl
  rw [hr]
  generalize uniteF [b, c] 0 = uu at hun
  obtain ⟨u1, u2⟩ := uu
  have hun' : Pure Tryz.prog 202 [.one (tInts [b, c])] (.tup [.one (.int .i64 u1), .one (.bool u2)]) := hun
  generalize allF [a] 3 = aa at hal
  cases u2
  · repeat' (first | refine st_nil ?_ | (refine st_pop rfl rfl rfl rfl ?_ ?_; · (repeat' (first | exact trivial | rfl | exact Nat.le_of_ble_eq_true rfl | omega | (intro e he; simp only [List.mem_map, List.mem_cons, List.not_mem_nil, or_false] at he; obtain ⟨x, _, rfl⟩ := he; rfl) | exact Int.le_refl _ | exact (show (1 : Int) ≤ 3 by omega) | exact ints_wide _ | apply And.intro))) | (refine st_lop rfl rfl rfl rfl ?_ ?_; · (repeat' (first | exact trivial | rfl | exact Nat.le_of_ble_eq_true rfl | omega | (intro e he; simp only [List.mem_map, List.mem_cons, List.not_mem_nil, or_false] at he; obtain ⟨x, _, rfl⟩ := he; rfl) | exact Int.le_refl _ | exact (show (1 : Int) ≤ 3 by omega) | exact ints_wide _ | apply And.intro))) | (refine st_store rfl rfl rfl ?_ ?_; · (repeat' (first | exact trivial | rfl | exact Nat.le_of_ble_eq_true rfl | omega | (intro e he; simp only [List.mem_map, List.mem_cons, List.not_mem_nil, or_false] at he; obtain ⟨x, _, rfl⟩ := he; rfl) | exact Int.le_refl _ | exact (show (1 : Int) ≤ 3 by omega) | exact ints_wide _ | apply And.intro))) | (refine st_lit rfl rfl rfl rfl ?_ ?_; · (repeat' (first | exact trivial | rfl | exact Nat.le_of_ble_eq_true rfl | omega | (intro e he; simp only [List.mem_map, List.mem_cons, List.not_mem_nil, or_false] at he; obtain ⟨x, _, rfl⟩ := he; rfl) | exact Int.le_refl _ | exact (show (1 : Int) ≤ 3 by omega) | exact ints_wide _ | apply And.intro))) | refine st_skip rfl rfl rfl ?_ | refine st_skip0 rfl rfl ?_ | refine st_call rfl rfl rfl rfl hun' rfl ?_ | refine st_call rfl rfl rfl rfl hal rfl ?_ | (refine st_if rfl (fun hb => ?_) (fun hb => ?_) <;> (first | exact no_ hb | rw [hb])) | refine aw_seq ?_ | refine aw_region tab_ok _ rfl ?_ | refine aw_drawn2 tabS_ok _ rfl mixed (by decide +kernel) ?_ | (refine aw_cond rfl (fun hb => ?_) (fun hb => ?_) <;> (try exact no_ hb)) | refine aw_block ?_ | refine aw_exit ?_ | refine aw_ret ?_ | refine aw_skip ?_)
    all_goals exact end_ret (res_of rfl ⟨trivial, trivial, trivial⟩ rfl)
  · repeat' (first | refine st_nil ?_ | (refine st_pop rfl rfl rfl rfl ?_ ?_; · (repeat' (first | exact trivial | rfl | exact Nat.le_of_ble_eq_true rfl | omega | (intro e he; simp only [List.mem_map, List.mem_cons, List.not_mem_nil, or_false] at he; obtain ⟨x, _, rfl⟩ := he; rfl) | exact Int.le_refl _ | exact (show (1 : Int) ≤ 3 by omega) | exact ints_wide _ | apply And.intro))) | (refine st_lop rfl rfl rfl rfl ?_ ?_; · (repeat' (first | exact trivial | rfl | exact Nat.le_of_ble_eq_true rfl | omega | (intro e he; simp only [List.mem_map, List.mem_cons, List.not_mem_nil, or_false] at he; obtain ⟨x, _, rfl⟩ := he; rfl) | exact Int.le_refl _ | exact (show (1 : Int) ≤ 3 by omega) | exact ints_wide _ | apply And.intro))) | (refine st_store rfl rfl rfl ?_ ?_; · (repeat' (first | exact trivial | rfl | exact Nat.le_of_ble_eq_true rfl | omega | (intro e he; simp only [List.mem_map, List.mem_cons, List.not_mem_nil, or_false] at he; obtain ⟨x, _, rfl⟩ := he; rfl) | exact Int.le_refl _ | exact (show (1 : Int) ≤ 3 by omega) | exact ints_wide _ | apply And.intro))) | (refine st_lit rfl rfl rfl rfl ?_ ?_; · (repeat' (first | exact trivial | rfl | exact Nat.le_of_ble_eq_true rfl | omega | (intro e he; simp only [List.mem_map, List.mem_cons, List.not_mem_nil, or_false] at he; obtain ⟨x, _, rfl⟩ := he; rfl) | exact Int.le_refl _ | exact (show (1 : Int) ≤ 3 by omega) | exact ints_wide _ | apply And.intro))) | refine st_skip rfl rfl rfl ?_ | refine st_skip0 rfl rfl ?_ | refine st_call rfl rfl rfl rfl hun' rfl ?_ | refine st_call rfl rfl rfl rfl hal rfl ?_ | (refine st_if rfl (fun hb => ?_) (fun hb => ?_) <;> (first | exact no_ hb | rw [hb])) | refine aw_seq ?_ | refine aw_region tab_ok _ rfl ?_ | refine aw_drawn2 tabS_ok _ rfl mixed (by decide +kernel) ?_ | (refine aw_cond rfl (fun hb => ?_) (fun hb => ?_) <;> (try exact no_ hb)) | refine aw_block ?_ | refine aw_exit ?_ | refine aw_ret ?_ | refine aw_skip ?_)
    all_goals exact end_ret (res_of rfl ⟨trivial, trivial, trivial⟩ rfl)
theorem result_23 (int : Int) (v : Val) (nm : ByteArray) (args : List Ex) (l : List Int) (h0 : l ≠ [] ∨ 23 = 1) (hl : l.length ≤ 100000) : Pure Tryz.prog 192 [.agg (tE (.mk 23 int v nm args)), .one (tInts l)] (vIB (resF 23 v l)) := by
  rw [tE_mk]
  refine pure_of_aw tab_ok Tryz.func192 rfl rfl Tryz.ntmps192 (by simp) ?_
  simp only [argT, PV.av, List.map_cons, List.map_nil]
  have hun := unite_pure l (by omega)
  have hr : resF 23 v l = uniteF l 0 := rfl
  rw [hr]
  generalize uniteF l 0 = uu at hun
  obtain ⟨u1, u2⟩ := uu
  have hun' : Pure Tryz.prog 202 [.one (tInts l)] (.tup [.one (.int .i64 u1), .one (.bool u2)]) := hun
  repeat' (first | refine st_nil ?_ | (refine st_pop rfl rfl rfl rfl ?_ ?_; · exact ok_) | (refine st_lop rfl rfl rfl rfl ?_ ?_; · exact ok_) | (refine st_store rfl rfl rfl ?_ ?_; · exact ok_) | (refine st_lit rfl rfl rfl rfl ?_ ?_; · exact ok_) | refine st_skip rfl rfl rfl ?_ | refine st_skip0 rfl rfl ?_ | refine st_call rfl rfl rfl rfl hun' rfl ?_ | (refine st_if rfl (fun hb => ?_) (fun hb => ?_) <;> (first | exact no_ hb | rw [hb])) | refine aw_seq ?_ | refine aw_region tab_ok _ rfl ?_ | refine aw_drawn2 tabS_ok _ rfl mixed (by decide +kernel) ?_ | (refine aw_cond rfl (fun hb => ?_) (fun hb => ?_) <;> (try exact no_ hb)) | refine aw_block ?_ | refine aw_exit ?_ | refine aw_ret ?_ | refine aw_skip ?_)
  all_goals exact end_ret (res_of rfl ⟨trivial, trivial, trivial⟩ rfl)
theorem result_24 (int : Int) (v : Val) (nm : ByteArray) (args : List Ex) (l : List Int) (h0 : l ≠ [] ∨ 24 = 1) (hl : l.length ≤ 100000) : Pure Tryz.prog 192 [.agg (tE (.mk 24 int v nm args)), .one (tInts l)] (vIB (resF 24 v l)) := by
  rw [tE_mk]
  refine pure_of_aw tab_ok Tryz.func192 rfl rfl Tryz.ntmps192 (by simp) ?_
  simp only [argT, PV.av, List.map_cons, List.map_nil]
  have hal := all_pure l 1 (h0.resolve_right (by decide)) hl
  have hr : resF 24 v l = (3, allF l 1) := rfl
  rw [hr]
  generalize allF l 1 = aa at hal
  repeat' (first | refine st_nil ?_ | (refine st_pop rfl rfl rfl rfl ?_ ?_; · exact ok_) | (refine st_lop rfl rfl rfl rfl ?_ ?_; · exact ok_) | (refine st_store rfl rfl rfl ?_ ?_; · exact ok_) | (refine st_lit rfl rfl rfl rfl ?_ ?_; · exact ok_) | refine st_skip rfl rfl rfl ?_ | refine st_skip0 rfl rfl ?_ | refine st_call rfl rfl rfl rfl hal rfl ?_ | (refine st_if rfl (fun hb => ?_) (fun hb => ?_) <;> (first | exact no_ hb | rw [hb])) | refine aw_seq ?_ | refine aw_region tab_ok _ rfl ?_ | refine aw_drawn2 tabS_ok _ rfl mixed (by decide +kernel) ?_ | (refine aw_cond rfl (fun hb => ?_) (fun hb => ?_) <;> (try exact no_ hb)) | refine aw_block ?_ | refine aw_exit ?_ | refine aw_ret ?_ | refine aw_skip ?_)
  all_goals exact end_ret (res_of rfl ⟨trivial, trivial, trivial⟩ rfl)
end Go.Proofs.YtfpbmfalamappaaGreatDoor

namespace Go.Proofs.YtfpbmfalamappaaGreatDoor
open Go.RowKit Go.MapKept
set_option maxRecDepth 100000
theorem cntF_no {op n : Int} (h : ∀ x ∈ opsL, op ≠ x) : cntF op n = (false, false) := by
  have q : ∀ l : List Int, (∀ x ∈ l, x ∈ opsL) → inL op l = false := fun l hl => inL_no fun x hx => h x (hl x hx)
  unfold cntF
  rw [q [1, 2] (by decide), q [4, 18, 20, 21] (by decide), q [7, 8, 9, 10, 11, 12, 13, 14, 15, 16, 17, 19] (by decide), q [5, 6] (by decide), q [22] (by decide), q [23] (by decide), q [24] (by decide)]
  rfl
theorem known_mem {op n : Int} (h : (cntF op n).1 = true) : op ∈ opsL := by
  by_cases hh : op ∈ opsL
  · exact hh
  · rw [cntF_no (fun x hx e => hh (by rw [e]; exact hx))] at h; cases h
theorem result_pure (op int : Int) (v : Val) (nm : ByteArray) (args : List Ex) (l : List Int) (hl : l.length ≤ 100000) (h2 : op ≠ 2) (hc : (cntF op (l.length : Nat)).1 = true) : Pure Tryz.prog 192 [.agg (tE (.mk op int v nm args)), .one (tInts l)] (vIB (resF op v l)) := by
  have hm := known_mem hc
  have hne : op ≠ 1 → l ≠ [] := by
    intro h1 e
    subst e
    simp only [opsL, List.mem_cons, List.not_mem_nil, or_false] at hm
    rcases hm with rfl | rfl | rfl | rfl | rfl | rfl | rfl | rfl | rfl | rfl | rfl | rfl | rfl | rfl | rfl | rfl | rfl | rfl | rfl | rfl | rfl | rfl | rfl <;> first | exact absurd rfl h1 | exact absurd rfl h2 | (exact absurd hc (by decide))
  simp only [opsL, List.mem_cons, List.not_mem_nil, or_false] at hm
  rcases hm with rfl | rfl | rfl | rfl | rfl | rfl | rfl | rfl | rfl | rfl | rfl | rfl | rfl | rfl | rfl | rfl | rfl | rfl | rfl | rfl | rfl | rfl | rfl
  · exact result_1 int v nm args l (.inr rfl) hl
  · exact absurd rfl h2
  · exact result_4 int v nm args l (.inl (hne (by decide))) hl
  · exact result_5 int v nm args l (.inl (hne (by decide))) hl
  · exact result_6 int v nm args l (.inl (hne (by decide))) hl
  · exact result_7 int v nm args l (.inl (hne (by decide))) hl
  · exact result_8 int v nm args l (.inl (hne (by decide))) hl
  · exact result_9 int v nm args l (.inl (hne (by decide))) hl
  · exact result_10 int v nm args l (.inl (hne (by decide))) hl
  · exact result_11 int v nm args l (.inl (hne (by decide))) hl
  · exact result_12 int v nm args l (.inl (hne (by decide))) hl
  · exact result_13 int v nm args l (.inl (hne (by decide))) hl
  · exact result_14 int v nm args l (.inl (hne (by decide))) hl
  · exact result_15 int v nm args l (.inl (hne (by decide))) hl
  · exact result_16 int v nm args l (.inl (hne (by decide))) hl
  · exact result_17 int v nm args l (.inl (hne (by decide))) hl
  · exact result_18 int v nm args l (.inl (hne (by decide))) hl
  · exact result_19 int v nm args l (.inl (hne (by decide))) hl
  · exact result_20 int v nm args l (.inl (hne (by decide))) hl
  · exact result_21 int v nm args l (.inl (hne (by decide))) hl
  · match l, hc with
    | [a, b, c], _ => exact result_22 int v nm args a b c
    | [], hc => exact absurd hc (by decide)
    | [a], hc => exact absurd hc (by show ¬ decide ((1 : Int) = 3) = true; decide)
    | [a, b], hc => exact absurd hc (by show ¬ decide ((2 : Int) = 3) = true; decide)
    | a :: b :: c :: d :: r, hc =>
      exfalso
      have : decide (((a :: b :: c :: d :: r).length : Int) = 3) = true := hc
      simp at this; omega
  · exact result_23 int v nm args l (.inl (hne (by decide))) hl
  · exact result_24 int v nm args l (.inl (hne (by decide))) hl
mutual
def chk (kinds : List Int) : Ex → Int × Int
  | .mk op int v nm args => bif !(cntF op (args.length : Nat)).2 then (0, 7) else bif !(formedF op int v nm (args.length : Nat)) then (0, 8) else bif decide (op = 2) then (bif inK kinds int then (kinds.getD int.toNat 0, 0) else (0, 13))
    else match chks kinds args [] with
      | .inl e => (0, e)
      | .inr l => bif (resF op v l).2 then ((resF op v l).1, 0) else (0, 7)
def chks (kinds : List Int) : List Ex → List Int → Sum Int (List Int)
  | [], acc => .inr acc
  | x :: r, acc => bif decide ((chk kinds x).2 = 0) then chks kinds r (acc ++ [(chk kinds x).1]) else .inl (chk kinds x).2
end
theorem chk_mk (kinds : List Int) (op int : Int) (v : Val) (nm : ByteArray) (args : List Ex) : chk kinds (.mk op int v nm args) = bif !(cntF op (args.length : Nat)).2 then (0, 7) else bif !(formedF op int v nm (args.length : Nat)) then (0, 8) else bif decide (op = 2) then (bif inK kinds int then (kinds.getD int.toNat 0, 0) else (0, 13))
    else match chks kinds args [] with
      | .inl e => (0, e)
      | .inr l => bif (resF op v l).2 then ((resF op v l).1, 0) else (0, 7) := by rw [chk]
theorem chks_drop (kinds : List Int) (l : List Ex) (acc : List Int) {i : Nat} {x : Ex} (h : l[i]? = some x) : chks kinds (l.drop i) acc = bif decide ((chk kinds x).2 = 0) then chks kinds (l.drop (i + 1)) (acc ++ [(chk kinds x).1]) else .inl (chk kinds x).2 := by
  obtain ⟨h1, e1⟩ := List.getElem?_eq_some_iff.1 h
  rw [List.drop_eq_getElem_cons h1, e1, chks]
end Go.Proofs.YtfpbmfalamappaaGreatDoor

namespace Go.Proofs.YtfpbmfalamappaaGreatDoor
open Go.RowKit Go.MapKept
set_option maxRecDepth 100000
/-- Lists of arguments are short. -/
inductive Ex.Sm : Ex → Prop
  | mk {op n : Int} {v : Val} {nm : ByteArray} {args : List Ex} (h : args.length ≤ 100000) (ht : v.text.size ≤ 9223372036854775807) (ha : ∀ x ∈ args, Ex.Sm x) : Ex.Sm (.mk op n v nm args)
theorem Ex.Sm.fine {e : Ex} (h : e.Sm) : e.Fine := by
  induction h with
  | mk h ht _ ih => exact .mk (by omega) ht ih
def v2 (p : Int × Int) : CV := .tup [.one (.int .i64 p.1), .one (.int .i64 p.2)]
set_option maxHeartbeats 2000000 in
theorem check_pure (kinds : List Int) (hkl : kinds.length ≤ 100000) {e : Ex} (h : e.Sm) : Pure Tryz.prog 165 [.agg (tE e), .one (tInts kinds)] (v2 (chk kinds e)) := by
  induction h with
  | @mk op int v nm args hal htx _ ih =>
    have hfo := formed_pure op int v nm args htx
    have hcn := counts_pure op (args.length : Nat)
    have hres := fun (l : List Int) => result_pure op int v nm args l
    have hch := chk_mk kinds op int v nm args
    rw [tE_mk] at hfo ⊢
    have hml : (((args.map tE).length : Nat) : Int) = args.length := by simp
    have hkm : (((kinds.map fun x => [AC.int .i64 x]).length : Nat) : Int) = kinds.length := by simp
    rw [← hml] at hcn
    have hcf : cntF op ((args.map tE).length : Nat) = cntF op (args.length : Nat) := by rw [hml]
    rw [hcf] at hcn
    have hff : formedF op int v nm (args.length : Nat) = true → (cntF op (args.length : Nat)).1 = true := by
      intro hh; unfold formedF at hh
      cases hq : (cntF op (args.length : Nat)).1 with
      | true => rfl
      | false => rw [hq] at hh; cases hh
    have fin : ∀ {T : Tm} {L : List Ob} {w : Int × Int}, w = chk kinds (.mk op int v nm args) → Res tab Tryz.f165.results.toList T L (v2 w) → Res tab Tryz.f165.results.toList T L (v2 (chk kinds (.mk op int v nm args))) := fun e h => by rw [← e]; exact h
    obtain ⟨c1, c2, hcc⟩ : ∃ c1 c2, cntF op (args.length : Nat) = (c1, c2) := ⟨_, _, rfl⟩
    rw [hcc] at hcn hff hch
    have hcn' : Pure Tryz.prog 152 [.one (.int .i64 op), .one (.int .i64 ((args.map tE).length : Nat))] (.tup [.one (.bool c1), .one (.bool c2)]) := hcn
    refine pure_of_aw tab_ok Tryz.func165 rfl rfl Tryz.ntmps165 (by simp) ?_
    simp only [argT, PV.av, List.map_cons, List.map_nil]
    cases c2 with
    | false =>
      repeat' (first | refine st_nil ?_ | (refine st_pop rfl rfl rfl rfl ?_ ?_; · exact ok_) | (refine st_lop rfl rfl rfl rfl ?_ ?_; · exact ok_) | (refine st_store rfl rfl rfl ?_ ?_; · exact ok_) | (refine st_lit rfl rfl rfl rfl ?_ ?_; · exact ok_) | refine st_skip rfl rfl rfl ?_ | refine st_skip0 rfl rfl ?_ | refine st_call rfl rfl rfl rfl hcn' rfl ?_ | refine st_call rfl rfl rfl rfl hfo rfl ?_ | (refine st_if rfl (fun hb => ?_) (fun hb => ?_) <;> (first | exact no_ hb | rw [hb])) | refine aw_seq ?_ | refine aw_region tab_ok _ rfl ?_ | refine aw_drawn2 tabS_ok _ rfl mixed (by decide +kernel) ?_ | (refine aw_cond rfl (fun hb => ?_) (fun hb => ?_) <;> (try exact no_ hb)) | refine aw_block ?_ | refine aw_exit ?_ | refine aw_ret ?_ | refine aw_skip ?_)
      exact end_ret (fin (w := (0, 7)) hch.symm (res_of rfl ⟨trivial, trivial, trivial⟩ rfl))
    | true =>
      generalize formedF op int v nm (args.length : Nat) = ff at hfo hff hch
      cases ff with
      | false =>
        repeat' (first | refine st_nil ?_ | (refine st_pop rfl rfl rfl rfl ?_ ?_; · exact ok_) | (refine st_lop rfl rfl rfl rfl ?_ ?_; · exact ok_) | (refine st_store rfl rfl rfl ?_ ?_; · exact ok_) | (refine st_lit rfl rfl rfl rfl ?_ ?_; · exact ok_) | refine st_skip rfl rfl rfl ?_ | refine st_skip0 rfl rfl ?_ | refine st_call rfl rfl rfl rfl hcn' rfl ?_ | refine st_call rfl rfl rfl rfl hfo rfl ?_ | (refine st_if rfl (fun hb => ?_) (fun hb => ?_) <;> (first | exact no_ hb | rw [hb])) | refine aw_seq ?_ | refine aw_region tab_ok _ rfl ?_ | refine aw_drawn2 tabS_ok _ rfl mixed (by decide +kernel) ?_ | (refine aw_cond rfl (fun hb => ?_) (fun hb => ?_) <;> (try exact no_ hb)) | refine aw_block ?_ | refine aw_exit ?_ | refine aw_ret ?_ | refine aw_skip ?_)
        exact end_ret (fin (w := (0, 8)) hch.symm (res_of rfl ⟨trivial, trivial, trivial⟩ rfl))
      | true =>
        have hc1 := hff rfl
        by_cases h2 : op = 2
        · have q2 : decide (op = 2) = true := by simp [h2]
          rw [q2] at hch
          cases hin : inK kinds int with
          | true =>
            obtain ⟨hk0, y, hy⟩ := inK_get hin
            rw [hin, getD_of hy] at hch
            have q3 : decide (int < 0) = false := by simp; omega
            have q4 : decide ((((kinds.map fun x => [AC.int .i64 x]).length : Nat) : Int) ≤ int) = false := by rw [hkm]; unfold inK at hin; rw [q3] at hin; simpa using hin
            repeat' (first | refine st_nil ?_ | rw [q2] | rw [q3] | rw [q4] | (refine st_pop rfl rfl rfl rfl ?_ ?_; · exact ok_) | (refine st_idx rfl rfl rfl rfl rfl rfl rfl rfl (idx_ints hy) ?_ ?_; · exact ⟨by omega, rfl⟩) | (refine st_lop rfl rfl rfl rfl ?_ ?_; · exact ok_) | (refine st_store rfl rfl rfl ?_ ?_; · exact ok_) | (refine st_lit rfl rfl rfl rfl ?_ ?_; · exact ok_) | refine st_skip rfl rfl rfl ?_ | refine st_skip0 rfl rfl ?_ | refine st_call rfl rfl rfl rfl hcn' rfl ?_ | refine st_call rfl rfl rfl rfl hfo rfl ?_ | (refine st_if rfl (fun hb => ?_) (fun hb => ?_) <;> (first | exact no_ hb | rw [hb])) | refine aw_seq ?_ | refine aw_region tab_ok _ rfl ?_ | refine aw_drawn2 tabS_ok _ rfl mixed (by decide +kernel) ?_ | (refine aw_cond rfl (fun hb => ?_) (fun hb => ?_) <;> (try exact no_ hb)) | refine aw_block ?_ | refine aw_exit ?_ | refine aw_ret ?_ | refine aw_skip ?_)
            exact end_ret (fin (w := (y, 0)) hch.symm (res_of rfl ⟨trivial, trivial, trivial⟩ rfl))
          | false =>
            rw [hin] at hch
            have hD : (bif decide (int < 0) then true else decide ((((kinds.map fun x => [AC.int .i64 x]).length : Nat) : Int) ≤ int)) = true := by rw [hkm]; revert hin; unfold inK; cases (bif decide (int < 0) then true else decide ((kinds.length : Int) ≤ int)) <;> simp
            by_cases h0 : int < 0
            · have q3 : decide (int < 0) = true := by simp [h0]
              repeat' (first | refine st_nil ?_ | rw [q2] | rw [q3] | (refine st_pop rfl rfl rfl rfl ?_ ?_; · exact ok_) | (refine st_lop rfl rfl rfl rfl ?_ ?_; · exact ok_) | (refine st_store rfl rfl rfl ?_ ?_; · exact ok_) | (refine st_lit rfl rfl rfl rfl ?_ ?_; · exact ok_) | refine st_skip rfl rfl rfl ?_ | refine st_skip0 rfl rfl ?_ | refine st_call rfl rfl rfl rfl hcn' rfl ?_ | refine st_call rfl rfl rfl rfl hfo rfl ?_ | (refine st_if rfl (fun hb => ?_) (fun hb => ?_) <;> (first | exact no_ hb | rw [hb])) | refine aw_seq ?_ | refine aw_region tab_ok _ rfl ?_ | refine aw_drawn2 tabS_ok _ rfl mixed (by decide +kernel) ?_ | (refine aw_cond rfl (fun hb => ?_) (fun hb => ?_) <;> (try exact no_ hb)) | refine aw_block ?_ | refine aw_exit ?_ | refine aw_ret ?_ | refine aw_skip ?_)
              exact end_ret (fin (w := (0, 13)) hch.symm (res_of rfl ⟨trivial, trivial, trivial⟩ rfl))
            · have q3 : decide (int < 0) = false := by simp [h0]
              have q4 : decide ((((kinds.map fun x => [AC.int .i64 x]).length : Nat) : Int) ≤ int) = true := by rw [q3] at hD; exact hD
              repeat' (first | refine st_nil ?_ | rw [q2] | rw [q3] | rw [q4] | (refine st_pop rfl rfl rfl rfl ?_ ?_; · exact ok_) | (refine st_lop rfl rfl rfl rfl ?_ ?_; · exact ok_) | (refine st_store rfl rfl rfl ?_ ?_; · exact ok_) | (refine st_lit rfl rfl rfl rfl ?_ ?_; · exact ok_) | refine st_skip rfl rfl rfl ?_ | refine st_skip0 rfl rfl ?_ | refine st_call rfl rfl rfl rfl hcn' rfl ?_ | refine st_call rfl rfl rfl rfl hfo rfl ?_ | (refine st_if rfl (fun hb => ?_) (fun hb => ?_) <;> (first | exact no_ hb | rw [hb])) | refine aw_seq ?_ | refine aw_region tab_ok _ rfl ?_ | refine aw_drawn2 tabS_ok _ rfl mixed (by decide +kernel) ?_ | (refine aw_cond rfl (fun hb => ?_) (fun hb => ?_) <;> (try exact no_ hb)) | refine aw_block ?_ | refine aw_exit ?_ | refine aw_ret ?_ | refine aw_skip ?_)
              exact end_ret (fin (w := (0, 13)) hch.symm (res_of rfl ⟨trivial, trivial, trivial⟩ rfl))
        · have q2 : decide (op = 2) = false := by simp [h2]
          rw [q2] at hch
          simp only [Bool.not_true, cond_false] at hch
          repeat' (first | refine st_nil ?_ | rw [q2] | (refine st_pop rfl rfl rfl rfl ?_ ?_; · exact ok_) | (refine st_lop rfl rfl rfl rfl ?_ ?_; · exact ok_) | (refine st_store rfl rfl rfl ?_ ?_; · exact ok_) | (refine st_lit rfl rfl rfl rfl ?_ ?_; · exact ok_) | refine st_skip rfl rfl rfl ?_ | refine st_skip0 rfl rfl ?_ | refine st_call rfl rfl rfl rfl hcn' rfl ?_ | refine st_call rfl rfl rfl rfl hfo rfl ?_ | (refine st_if rfl (fun hb => ?_) (fun hb => ?_) <;> (first | exact no_ hb | rw [hb])) | refine aw_seq ?_ | refine aw_region tab_ok _ rfl ?_ | refine aw_drawn2 tabS_ok _ rfl mixed (by decide +kernel) ?_ | (refine aw_cond rfl (fun hb => ?_) (fun hb => ?_) <;> (try exact no_ hb)) | refine aw_block ?_ | refine aw_exit ?_ | refine aw_ret ?_ | refine aw_skip ?_)
          refine aw_tok 8 1 rfl ?_
          obtain ⟨k, hk⟩ : ∃ k, args.length = k := ⟨_, rfl⟩
          have hmk : (((args.map tE).length : Nat) : Int) = k := by simp [hk]
          refine aw_loop (fun s : Nat × List Int => match s with | (i, acc) => [(1, .one (.c (tInts kinds))), (2, .one (.ptr 0 0)), (8, .one (.own (acc.map fun x => [AC.int .i64 x]) 1)), (48, .one (.c (.lst (args.map tE)))), (49, .one (.c (.int .i64 k))), (50, .one (.c (.int .i64 i)))]) (fun s => [.box [.c (.int .i64 op), .c (.int .i64 int), .c (.int .i64 v.kind), .c (.int .i64 v.int), .c (.str v.text), .c (.str nm), .c (.lst (args.map tE))], .spare s.2.length 1]) (fun s => s.1 ≤ k ∧ s.2.length = s.1 ∧ chks kinds args [] = chks kinds (args.drop s.1) s.2) (fun s => k - s.1) (0, []) ⟨by omega, rfl, rfl⟩ (fun _ _ => Nat.zero_le _)
            (fits_mk ⟨rfl, rfl, rfl, rfl, slot_int hmk, rfl, trivial⟩ [] rfl ⟨trivial, by show 0 < 2; omega, by show 1 < 2; omega, trivial, trivial, trivial, trivial⟩ ⟨box7_below, trivial, trivial⟩) ?_
          rintro ⟨i, acc⟩ ⟨hi, hacc, hr⟩
          dsimp only at hi hacc hr ⊢
          have ham : (acc.map fun x => [AC.int .i64 x]).length = acc.length := by simp
          by_cases hlt : i < k
          · obtain ⟨x, hx⟩ := get_of_lt (show i < args.length by omega)
            have hN : decide ((i : Int) < k) = true := by simp; exact hlt
            have hix : (args.map tE)[((i : Nat) : Int).toNat]? = some (tE x) := idx_map hx
            have hst := chks_drop kinds args acc hx
            have hc := ih x (List.mem_of_getElem? hx)
            generalize chk kinds x = rr at hst hc
            obtain ⟨r1, r2⟩ := rr
            have hc' : Pure Tryz.prog 165 [.agg (tE x), .one (tInts kinds)] (.tup [.one (.int .i64 r1), .one (.int .i64 r2)]) := hc
            obtain ⟨op', n', v', nm', args'⟩ := x
            rw [tE_mk] at hix hc'
            by_cases hz : r2 = 0
            · have q5 : decide (r2 ≠ 0) = false := by simp [hz]
              have q6 : decide (r2 = 0) = true := by simp [hz]
              dsimp only at hst
              rw [q6, cond_true] at hst
              repeat' (first | refine st_nil ?_ | rw [hN] | rw [q5] | (refine st_pop rfl rfl rfl rfl ?_ ?_; · (repeat' (first | exact trivial | rfl | exact Nat.le_of_ble_eq_true rfl | omega | (intro e he; simp at he; subst he; rfl) | exact ham | (show (_ + 1) * 8 ≤ _; omega) | (show _ + 1 ≤ _; omega) | apply And.intro))) | (refine st_idx rfl rfl rfl rfl rfl rfl rfl rfl hix ?_ ?_; · exact ⟨by omega, rfl⟩) | (refine st_lop rfl rfl rfl rfl ?_ ?_; · (repeat' (first | exact trivial | rfl | exact Nat.le_of_ble_eq_true rfl | omega | (intro e he; simp at he; subst he; rfl) | exact ham | (show (_ + 1) * 8 ≤ _; omega) | (show _ + 1 ≤ _; omega) | apply And.intro))) | (refine st_store rfl rfl rfl ?_ ?_; · (repeat' (first | exact trivial | rfl | exact Nat.le_of_ble_eq_true rfl | omega | (intro e he; simp at he; subst he; rfl) | exact ham | (show (_ + 1) * 8 ≤ _; omega) | (show _ + 1 ≤ _; omega) | apply And.intro))) | (refine st_lit rfl rfl rfl rfl ?_ ?_; · (repeat' (first | exact trivial | rfl | exact Nat.le_of_ble_eq_true rfl | omega | (intro e he; simp at he; subst he; rfl) | exact ham | (show (_ + 1) * 8 ≤ _; omega) | (show _ + 1 ≤ _; omega) | apply And.intro))) | refine st_skip rfl rfl rfl ?_ | refine st_skip0 rfl rfl ?_ | refine st_call rfl rfl rfl rfl hc' rfl ?_ | (refine st_if rfl (fun hb => ?_) (fun hb => ?_) <;> (first | exact no_ hb | rw [hb])) | refine aw_seq ?_ | refine aw_region tab_ok _ rfl ?_ | refine aw_drawn2 tabS_ok _ rfl mixed (by decide +kernel) ?_ | (refine aw_cond rfl (fun hb => ?_) (fun hb => ?_) <;> (try exact no_ hb)) | refine aw_block ?_ | refine aw_exit ?_ | refine aw_ret ?_ | refine aw_skip ?_)
              exact ⟨(i + 1, acc ++ [r1]), ⟨by show i + 1 ≤ k; omega, by simp [hacc], hr.trans hst⟩, by show k - (i + 1) < k - i; omega, fits_mk ⟨rfl, rfl, slot_own (by rw [List.map_append]; rfl), rfl, rfl, slot_int (wrap_eq (by omega) (by omega)), trivial⟩ [_] (by rw [List.length_append]; rfl) ⟨trivial, by show 0 < 2; omega, by show 1 < 2; omega, trivial, trivial, trivial, trivial⟩ ⟨box7_below, trivial, trivial⟩⟩
            · have q5 : decide (r2 ≠ 0) = true := by simp [hz]
              have q6 : decide (r2 = 0) = false := by simp [hz]
              dsimp only at hst
              rw [q6, cond_false] at hst
              rw [hr, hst] at hch
              repeat' (first | refine st_nil ?_ | rw [hN] | rw [q5] | (refine st_pop rfl rfl rfl rfl ?_ ?_; · (repeat' (first | exact trivial | rfl | exact Nat.le_of_ble_eq_true rfl | omega | (intro e he; simp at he; subst he; rfl) | exact ham | (show (_ + 1) * 8 ≤ _; omega) | (show _ + 1 ≤ _; omega) | apply And.intro))) | (refine st_idx rfl rfl rfl rfl rfl rfl rfl rfl hix ?_ ?_; · exact ⟨by omega, rfl⟩) | (refine st_lop rfl rfl rfl rfl ?_ ?_; · (repeat' (first | exact trivial | rfl | exact Nat.le_of_ble_eq_true rfl | omega | (intro e he; simp at he; subst he; rfl) | exact ham | (show (_ + 1) * 8 ≤ _; omega) | (show _ + 1 ≤ _; omega) | apply And.intro))) | (refine st_store rfl rfl rfl ?_ ?_; · (repeat' (first | exact trivial | rfl | exact Nat.le_of_ble_eq_true rfl | omega | (intro e he; simp at he; subst he; rfl) | exact ham | (show (_ + 1) * 8 ≤ _; omega) | (show _ + 1 ≤ _; omega) | apply And.intro))) | (refine st_lit rfl rfl rfl rfl ?_ ?_; · (repeat' (first | exact trivial | rfl | exact Nat.le_of_ble_eq_true rfl | omega | (intro e he; simp at he; subst he; rfl) | exact ham | (show (_ + 1) * 8 ≤ _; omega) | (show _ + 1 ≤ _; omega) | apply And.intro))) | refine st_skip rfl rfl rfl ?_ | refine st_skip0 rfl rfl ?_ | refine st_call rfl rfl rfl rfl hc' rfl ?_ | (refine st_if rfl (fun hb => ?_) (fun hb => ?_) <;> (first | exact no_ hb | rw [hb])) | refine aw_seq ?_ | refine aw_region tab_ok _ rfl ?_ | refine aw_drawn2 tabS_ok _ rfl mixed (by decide +kernel) ?_ | (refine aw_cond rfl (fun hb => ?_) (fun hb => ?_) <;> (try exact no_ hb)) | refine aw_block ?_ | refine aw_exit ?_ | refine aw_ret ?_ | refine aw_skip ?_)
              exact end_ret (fin (w := (0, r2)) hch.symm (res_of rfl ⟨trivial, trivial, trivial⟩ rfl))
          · have hN : decide ((i : Int) < k) = false := by simp; omega
            have hdr : args.drop i = [] := List.drop_of_length_le (by omega)
            rw [hr, hdr] at hch
            have hch2 : chk kinds (.mk op int v nm args) = bif (resF op v acc).2 then ((resF op v acc).1, 0) else (0, 7) := hch
            have hal2 : acc.length = args.length := by omega
            have hre := hres acc (by omega) h2 (by rw [hal2, hcc]; exact hc1)
            rw [tE_mk] at hre
            generalize resF op v acc = rr at hre hch2
            obtain ⟨f1, f2⟩ := rr
            have hre' : Pure Tryz.prog 192 [.agg [.int .i64 op, .int .i64 int, .int .i64 v.kind, .int .i64 v.int, .str v.text, .str nm, .lst (args.map tE)], .one (tInts acc)] (.tup [.one (.int .i64 f1), .one (.bool f2)]) := hre
            cases f2 with
            | true =>
              repeat' (first | refine st_nil ?_ | rw [hN] | (refine st_pop rfl rfl rfl rfl ?_ ?_; · exact ok_) | (refine st_lop rfl rfl rfl rfl ?_ ?_; · exact ok_) | (refine st_store rfl rfl rfl ?_ ?_; · exact ok_) | (refine st_lit rfl rfl rfl rfl ?_ ?_; · exact ok_) | refine st_skip rfl rfl rfl ?_ | refine st_skip0 rfl rfl ?_ | refine st_call rfl rfl rfl rfl hre' rfl ?_ | (refine st_if rfl (fun hb => ?_) (fun hb => ?_) <;> (first | exact no_ hb | rw [hb])) | refine aw_seq ?_ | refine aw_region tab_ok _ rfl ?_ | refine aw_drawn2 tabS_ok _ rfl mixed (by decide +kernel) ?_ | (refine aw_cond rfl (fun hb => ?_) (fun hb => ?_) <;> (try exact no_ hb)) | refine aw_block ?_ | refine aw_exit ?_ | refine aw_ret ?_ | refine aw_skip ?_)
              exact end_ret (fin (w := (f1, 0)) hch2.symm (res_of rfl ⟨trivial, trivial, trivial⟩ rfl))
            | false =>
              repeat' (first | refine st_nil ?_ | rw [hN] | (refine st_pop rfl rfl rfl rfl ?_ ?_; · exact ok_) | (refine st_lop rfl rfl rfl rfl ?_ ?_; · exact ok_) | (refine st_store rfl rfl rfl ?_ ?_; · exact ok_) | (refine st_lit rfl rfl rfl rfl ?_ ?_; · exact ok_) | refine st_skip rfl rfl rfl ?_ | refine st_skip0 rfl rfl ?_ | refine st_call rfl rfl rfl rfl hre' rfl ?_ | (refine st_if rfl (fun hb => ?_) (fun hb => ?_) <;> (first | exact no_ hb | rw [hb])) | refine aw_seq ?_ | refine aw_region tab_ok _ rfl ?_ | refine aw_drawn2 tabS_ok _ rfl mixed (by decide +kernel) ?_ | (refine aw_cond rfl (fun hb => ?_) (fun hb => ?_) <;> (try exact no_ hb)) | refine aw_block ?_ | refine aw_exit ?_ | refine aw_ret ?_ | refine aw_skip ?_)
              exact end_ret (fin (w := (0, 7)) hch2.symm (res_of rfl ⟨trivial, trivial, trivial⟩ rfl))
end Go.Proofs.YtfpbmfalamappaaGreatDoor
