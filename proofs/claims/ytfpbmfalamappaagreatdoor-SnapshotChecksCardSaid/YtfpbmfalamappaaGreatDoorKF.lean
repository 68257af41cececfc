/- Parts of the proof, joined (G26 G27 G28 G29 G30 G31 G32 G33 G34 G35 G36). No condition. -/
import Derived.Test.YtfpbmfalamappaaGreatDoorKE
import Derived.Test.YtfpbmfalamappaaGreatDoorKD
set_option linter.unusedSimpArgs false
set_option linter.unusedVariables false
namespace Go.Proofs.YtfpbmfalamappaaGreatDoor
open Go.RowKit Go.MapKept
set_option maxRecDepth 100000
theorem depthE_pure {e : Ex} (h : e.Sm) : Pure Tryz.prog 164 [.agg (tE e)] (vInt (dep 25 e)) := by
  have hd := depth_pure 25 e (by omega) (h.fine.ok 25)
  obtain ⟨op, int, v, nm, args⟩ := e
  rw [tE_mk] at hd ⊢
  refine pure_of_aw tab_ok Tryz.func164 rfl rfl Tryz.ntmps164 (by simp) ?_
  simp only [argT, PV.av, List.map_cons, List.map_nil]
  repeat' (first | refine st_nil ?_ | (refine st_pop rfl rfl rfl rfl ?_ ?_; · exact ok_) | (refine st_lop rfl rfl rfl rfl ?_ ?_; · exact ok_) | (refine st_store rfl rfl rfl ?_ ?_; · exact ok_) | (refine st_lit rfl rfl rfl rfl ?_ ?_; · exact ok_) | refine st_skip rfl rfl rfl ?_ | refine st_skip0 rfl rfl ?_ | refine st_call rfl rfl rfl rfl hd rfl ?_ | (refine st_if rfl (fun hb => ?_) (fun hb => ?_) <;> (first | exact no_ hb | rw [hb])) | refine aw_seq ?_ | refine aw_region tab_ok _ rfl ?_ | refine aw_drawn2 tabS_ok _ rfl mixed (by decide +kernel) ?_ | (refine aw_cond rfl (fun hb => ?_) (fun hb => ?_) <;> (try exact no_ hb)) | refine aw_block ?_ | refine aw_exit ?_ | refine aw_ret ?_ | refine aw_skip ?_)
  all_goals exact end_ret (res_of rfl (by trivial) rfl)
def chkE (kinds : List Int) (e : Ex) : Int × Int := bif decide (24 < dep 25 e) then (0, 26) else chk kinds e
theorem checkE_pure (kinds : List Int) (hkl : kinds.length ≤ 100000) {e : Ex} (h : e.Sm) : Pure Tryz.prog 120 [.agg (tE e), .one (tInts kinds)] (v2 (chkE kinds e)) := by
  have hd := depthE_pure h
  have hc := check_pure kinds hkl h
  have hE : chkE kinds e = bif decide (24 < dep 25 e) then (0, 26) else chk kinds e := rfl
  rw [hE]
  generalize chk kinds e = rr at hc
  obtain ⟨r1, r2⟩ := rr
  have hc' : Pure Tryz.prog 165 [.agg (tE e), .one (tInts kinds)] (.tup [.one (.int .i64 r1), .one (.int .i64 r2)]) := hc
  generalize dep 25 e = dd at hd
  clear hE
  obtain ⟨op, int, v, nm, args⟩ := e
  rw [tE_mk] at hd hc' ⊢
  refine pure_of_aw tab_ok Tryz.func120 rfl rfl Tryz.ntmps120 (by simp) ?_
  simp only [argT, PV.av, List.map_cons, List.map_nil]
  repeat' (first | refine st_nil ?_ | (refine st_pop rfl rfl rfl rfl ?_ ?_; · exact ok_) | (refine st_lop rfl rfl rfl rfl ?_ ?_; · exact ok_) | (refine st_store rfl rfl rfl ?_ ?_; · exact ok_) | (refine st_lit rfl rfl rfl rfl ?_ ?_; · exact ok_) | refine st_skip rfl rfl rfl ?_ | refine st_skip0 rfl rfl ?_ | refine st_call rfl rfl rfl rfl hd rfl ?_ | refine st_call rfl rfl rfl rfl hc' rfl ?_ | (refine st_if rfl (fun hb => ?_) (fun hb => ?_) <;> (first | exact no_ hb | rw [hb])) | refine aw_seq ?_ | refine aw_region tab_ok _ rfl ?_ | refine aw_drawn2 tabS_ok _ rfl mixed (by decide +kernel) ?_ | (refine aw_cond rfl (fun hb => ?_) (fun hb => ?_) <;> (try exact no_ hb)) | refine aw_block ?_ | refine aw_exit ?_ | refine aw_ret ?_ | refine aw_skip ?_)
  all_goals rw [hb]
  all_goals exact end_ret (res_of rfl ⟨trivial, trivial, trivial⟩ rfl)
/-- The error of a predicate. -/
def predF (kinds : List Int) (e : Ex) : Int := bif decide ((chkE kinds e).2 ≠ 0) then (chkE kinds e).2 else bif (bif decide ((chkE kinds e).1 ≠ 3) then decide ((chkE kinds e).1 ≠ 0) else false) then 7 else 0
theorem predicate_pure (kinds : List Int) (hkl : kinds.length ≤ 100000) {e : Ex} (h : e.Sm) : Pure Tryz.prog 82 [.agg (tE e), .one (tInts kinds)] (vInt (predF kinds e)) := by
  have hc := checkE_pure kinds hkl h
  have hE : predF kinds e = bif decide ((chkE kinds e).2 ≠ 0) then (chkE kinds e).2 else bif (bif decide ((chkE kinds e).1 ≠ 3) then decide ((chkE kinds e).1 ≠ 0) else false) then 7 else 0 := rfl
  rw [hE]
  generalize chkE kinds e = rr at hc
  obtain ⟨r1, r2⟩ := rr
  have hc' : Pure Tryz.prog 120 [.agg (tE e), .one (tInts kinds)] (.tup [.one (.int .i64 r1), .one (.int .i64 r2)]) := hc
  clear hE hc
  obtain ⟨op, int, v, nm, args⟩ := e
  rw [tE_mk] at hc' ⊢
  dsimp only
  refine pure_of_aw tab_ok Tryz.func82 rfl rfl Tryz.ntmps82 (by simp) ?_
  simp only [argT, PV.av, List.map_cons, List.map_nil]
  repeat' (first | refine st_nil ?_ | (refine st_pop rfl rfl rfl rfl ?_ ?_; · exact ok_) | (refine st_lop rfl rfl rfl rfl ?_ ?_; · exact ok_) | (refine st_store rfl rfl rfl ?_ ?_; · exact ok_) | (refine st_lit rfl rfl rfl rfl ?_ ?_; · exact ok_) | refine st_skip rfl rfl rfl ?_ | refine st_skip0 rfl rfl ?_ | refine st_call rfl rfl rfl rfl hc' rfl ?_ | (refine st_if rfl (fun hb => ?_) (fun hb => ?_) <;> (first | exact no_ hb | rw [hb])) | refine aw_seq ?_ | refine aw_region tab_ok _ rfl ?_ | refine aw_drawn2 tabS_ok _ rfl mixed (by decide +kernel) ?_ | (refine aw_cond rfl (fun hb => ?_) (fun hb => ?_) <;> (try exact no_ hb)) | refine aw_block ?_ | refine aw_exit ?_ | refine aw_ret ?_ | refine aw_skip ?_)
  all_goals (refine end_ret (res_of rfl (by trivial) (vInt_eq ?_)); clear hc'; simp only [*, cond_true, cond_false]; try rfl)
end Go.Proofs.YtfpbmfalamappaaGreatDoor

namespace Go.Proofs.YtfpbmfalamappaaGreatDoor
open Go.RowKit Go.MapKept
set_option maxRecDepth 100000
def projF (kinds : List Int) : List Ex → List Int → List Int × Int
  | [], acc => (acc, 0)
  | e :: l, acc => bif decide ((chkE kinds e).2 ≠ 0) then ([], (chkE kinds e).2) else bif decide ((chkE kinds e).1 = 0) then ([], 7) else projF kinds l (acc ++ [(chkE kinds e).1])
theorem projF_drop (kinds : List Int) (l : List Ex) (acc : List Int) {i : Nat} {e : Ex} (h : l[i]? = some e) : projF kinds (l.drop i) acc = bif decide ((chkE kinds e).2 ≠ 0) then ([], (chkE kinds e).2) else bif decide ((chkE kinds e).1 = 0) then ([], 7) else projF kinds (l.drop (i + 1)) (acc ++ [(chkE kinds e).1]) := by
  obtain ⟨h1, e1⟩ := List.getElem?_eq_some_iff.1 h
  rw [List.drop_eq_getElem_cons h1, e1, projF]
theorem projected_pure (kinds : List Int) (hkl : kinds.length ≤ 100000) (l : List Ex) (hl : l.length ≤ 100000) (h : ∀ e ∈ l, e.Sm) : Pure Tryz.prog 73 [.one (.lst (l.map tE)), .one (tInts kinds)] (vKE (projF kinds l [])) := by
  refine pure_of_aw tab_ok Tryz.func73 rfl rfl Tryz.ntmps73 (by simp) ?_
  simp only [argT, PV.av, List.map_cons, List.map_nil]
  obtain ⟨k, hk⟩ : ∃ k, l.length = k := ⟨_, rfl⟩
  have hmk : (((l.map tE).length : Nat) : Int) = k := by simp [hk]
  have fin : ∀ {T : Tm} {L : List Ob} {w : List Int × Int}, w = projF kinds l [] → Res tab Tryz.f73.results.toList T L (vKE w) → Res tab Tryz.f73.results.toList T L (vKE (projF kinds l [])) := fun e h => by rw [← e]; exact h
  repeat' (first | refine st_nil ?_ | (refine st_pop rfl rfl rfl rfl ?_ ?_; · exact ok_) | (refine st_lop rfl rfl rfl rfl ?_ ?_; · exact ok_) | (refine st_store rfl rfl rfl ?_ ?_; · exact ok_) | (refine st_lit rfl rfl rfl rfl ?_ ?_; · exact ok_) | refine st_skip rfl rfl rfl ?_ | refine st_skip0 rfl rfl ?_ | (refine st_if rfl (fun hb => ?_) (fun hb => ?_) <;> (first | exact no_ hb | rw [hb])) | refine aw_seq ?_ | refine aw_region tab_ok _ rfl ?_ | refine aw_drawn2 tabS_ok _ rfl mixed (by decide +kernel) ?_ | (refine aw_cond rfl (fun hb => ?_) (fun hb => ?_) <;> (try exact no_ hb)) | refine aw_block ?_ | refine aw_exit ?_ | refine aw_ret ?_ | refine aw_skip ?_)
  refine aw_tok 6 1 rfl ?_
  refine aw_loop (fun s : Nat × List Int => match s with | (i, acc) => [(0, .one (.c (.lst (l.map tE)))), (1, .one (.c (tInts kinds))), (6, .one (.own (acc.map fun x => [AC.int .i64 x]) 0)), (11, .one (.c (.lst (l.map tE)))), (12, .one (.c (.int .i64 k))), (13, .one (.c (.int .i64 i)))]) (fun s => [.spare s.2.length 1]) (fun s => s.1 ≤ k ∧ s.2.length = s.1 ∧ projF kinds l [] = projF kinds (l.drop s.1) s.2) (fun s => k - s.1) (0, []) ⟨by omega, rfl, rfl⟩ (fun _ _ => Nat.zero_le _)
    (fits_mk ⟨rfl, rfl, rfl, rfl, slot_int hmk, rfl, trivial⟩ [] rfl ⟨trivial, trivial, by show 0 < 1; omega, trivial, trivial, trivial, trivial⟩ ⟨trivial, trivial⟩) ?_
  rintro ⟨i, acc⟩ ⟨hi, hacc, hr⟩
  dsimp only at hi hacc hr ⊢
  have ham : (acc.map fun x => [AC.int .i64 x]).length = acc.length := by simp
  by_cases hlt : i < k
  · obtain ⟨x, hx⟩ := get_of_lt (show i < l.length by omega)
    have hN : decide ((i : Int) < k) = true := by simp; exact hlt
    have hix : (l.map tE)[((i : Nat) : Int).toNat]? = some (tE x) := idx_map hx
    have hst := projF_drop kinds l acc hx
    have hc := checkE_pure kinds hkl (h x (List.mem_of_getElem? hx))
    generalize chkE kinds x = rr at hst hc
    obtain ⟨r1, r2⟩ := rr
    have hc' : Pure Tryz.prog 120 [.agg (tE x), .one (tInts kinds)] (.tup [.one (.int .i64 r1), .one (.int .i64 r2)]) := hc
    obtain ⟨op', n', v', nm', args'⟩ := x
    rw [tE_mk] at hix hc'
    dsimp only at hst
    by_cases hz : r2 = 0
    · have q5 : decide (r2 ≠ 0) = false := by simp [hz]
      rw [q5, cond_false] at hst
      by_cases hz1 : r1 = 0
      · have q6 : decide (r1 = 0) = true := by simp [hz1]
        rw [q6, cond_true] at hst
        repeat' (first | refine st_nil ?_ | rw [hN] | rw [q5] | rw [q6] | (refine st_pop rfl rfl rfl rfl ?_ ?_; · (repeat' (first | exact trivial | rfl | exact Nat.le_of_ble_eq_true rfl | omega | (intro e he; simp at he; subst he; rfl) | exact ham | (show (_ + 1) * 8 ≤ _; omega) | (show _ + 1 ≤ _; omega) | apply And.intro))) | (refine st_idx rfl rfl rfl rfl rfl rfl rfl rfl hix ?_ ?_; · exact ⟨by omega, rfl⟩) | (refine st_lop rfl rfl rfl rfl ?_ ?_; · (repeat' (first | exact trivial | rfl | exact Nat.le_of_ble_eq_true rfl | omega | (intro e he; simp at he; subst he; rfl) | exact ham | (show (_ + 1) * 8 ≤ _; omega) | (show _ + 1 ≤ _; omega) | apply And.intro))) | (refine st_store rfl rfl rfl ?_ ?_; · (repeat' (first | exact trivial | rfl | exact Nat.le_of_ble_eq_true rfl | omega | (intro e he; simp at he; subst he; rfl) | exact ham | (show (_ + 1) * 8 ≤ _; omega) | (show _ + 1 ≤ _; omega) | apply And.intro))) | (refine st_lit rfl rfl rfl rfl ?_ ?_; · (repeat' (first | exact trivial | rfl | exact Nat.le_of_ble_eq_true rfl | omega | (intro e he; simp at he; subst he; rfl) | exact ham | (show (_ + 1) * 8 ≤ _; omega) | (show _ + 1 ≤ _; omega) | apply And.intro))) | refine st_skip rfl rfl rfl ?_ | refine st_skip0 rfl rfl ?_ | refine st_call rfl rfl rfl rfl hc' rfl ?_ | (refine st_if rfl (fun hb => ?_) (fun hb => ?_) <;> (first | exact no_ hb | rw [hb])) | refine aw_seq ?_ | refine aw_region tab_ok _ rfl ?_ | refine aw_drawn2 tabS_ok _ rfl mixed (by decide +kernel) ?_ | (refine aw_cond rfl (fun hb => ?_) (fun hb => ?_) <;> (try exact no_ hb)) | refine aw_block ?_ | refine aw_exit ?_ | refine aw_ret ?_ | refine aw_skip ?_)
        exact end_ret (fin (w := ([], 7)) (hr.trans hst).symm (res_of rfl ⟨trivial, trivial, trivial⟩ rfl))
      · have q6 : decide (r1 = 0) = false := by simp [hz1]
        rw [q6, cond_false] at hst
        repeat' (first | refine st_nil ?_ | rw [hN] | rw [q5] | rw [q6] | (refine st_pop rfl rfl rfl rfl ?_ ?_; · (repeat' (first | exact trivial | rfl | exact Nat.le_of_ble_eq_true rfl | omega | (intro e he; simp at he; subst he; rfl) | exact ham | (show (_ + 1) * 8 ≤ _; omega) | (show _ + 1 ≤ _; omega) | apply And.intro))) | (refine st_idx rfl rfl rfl rfl rfl rfl rfl rfl hix ?_ ?_; · exact ⟨by omega, rfl⟩) | (refine st_lop rfl rfl rfl rfl ?_ ?_; · (repeat' (first | exact trivial | rfl | exact Nat.le_of_ble_eq_true rfl | omega | (intro e he; simp at he; subst he; rfl) | exact ham | (show (_ + 1) * 8 ≤ _; omega) | (show _ + 1 ≤ _; omega) | apply And.intro))) | (refine st_store rfl rfl rfl ?_ ?_; · (repeat' (first | exact trivial | rfl | exact Nat.le_of_ble_eq_true rfl | omega | (intro e he; simp at he; subst he; rfl) | exact ham | (show (_ + 1) * 8 ≤ _; omega) | (show _ + 1 ≤ _; omega) | apply And.intro))) | (refine st_lit rfl rfl rfl rfl ?_ ?_; · (repeat' (first | exact trivial | rfl | exact Nat.le_of_ble_eq_true rfl | omega | (intro e he; simp at he; subst he; rfl) | exact ham | (show (_ + 1) * 8 ≤ _; omega) | (show _ + 1 ≤ _; omega) | apply And.intro))) | refine st_skip rfl rfl rfl ?_ | refine st_skip0 rfl rfl ?_ | refine st_call rfl rfl rfl rfl hc' rfl ?_ | (refine st_if rfl (fun hb => ?_) (fun hb => ?_) <;> (first | exact no_ hb | rw [hb])) | refine aw_seq ?_ | refine aw_region tab_ok _ rfl ?_ | refine aw_drawn2 tabS_ok _ rfl mixed (by decide +kernel) ?_ | (refine aw_cond rfl (fun hb => ?_) (fun hb => ?_) <;> (try exact no_ hb)) | refine aw_block ?_ | refine aw_exit ?_ | refine aw_ret ?_ | refine aw_skip ?_)
        exact ⟨(i + 1, acc ++ [r1]), ⟨by show i + 1 ≤ k; omega, by simp [hacc], hr.trans hst⟩, by show k - (i + 1) < k - i; omega, fits_mk ⟨rfl, rfl, slot_own (by rw [List.map_append]; rfl), rfl, rfl, slot_int (wrap_eq (by omega) (by omega)), trivial⟩ [_] (by rw [List.length_append]; rfl) ⟨trivial, trivial, by show 0 < 1; omega, trivial, trivial, trivial, trivial⟩ ⟨trivial, trivial⟩⟩
    · have q5 : decide (r2 ≠ 0) = true := by simp [hz]
      rw [q5, cond_true] at hst
      repeat' (first | refine st_nil ?_ | rw [hN] | rw [q5] | (refine st_pop rfl rfl rfl rfl ?_ ?_; · (repeat' (first | exact trivial | rfl | exact Nat.le_of_ble_eq_true rfl | omega | (intro e he; simp at he; subst he; rfl) | exact ham | (show (_ + 1) * 8 ≤ _; omega) | (show _ + 1 ≤ _; omega) | apply And.intro))) | (refine st_idx rfl rfl rfl rfl rfl rfl rfl rfl hix ?_ ?_; · exact ⟨by omega, rfl⟩) | (refine st_lop rfl rfl rfl rfl ?_ ?_; · (repeat' (first | exact trivial | rfl | exact Nat.le_of_ble_eq_true rfl | omega | (intro e he; simp at he; subst he; rfl) | exact ham | (show (_ + 1) * 8 ≤ _; omega) | (show _ + 1 ≤ _; omega) | apply And.intro))) | (refine st_store rfl rfl rfl ?_ ?_; · (repeat' (first | exact trivial | rfl | exact Nat.le_of_ble_eq_true rfl | omega | (intro e he; simp at he; subst he; rfl) | exact ham | (show (_ + 1) * 8 ≤ _; omega) | (show _ + 1 ≤ _; omega) | apply And.intro))) | (refine st_lit rfl rfl rfl rfl ?_ ?_; · (repeat' (first | exact trivial | rfl | exact Nat.le_of_ble_eq_true rfl | omega | (intro e he; simp at he; subst he; rfl) | exact ham | (show (_ + 1) * 8 ≤ _; omega) | (show _ + 1 ≤ _; omega) | apply And.intro))) | refine st_skip rfl rfl rfl ?_ | refine st_skip0 rfl rfl ?_ | refine st_call rfl rfl rfl rfl hc' rfl ?_ | (refine st_if rfl (fun hb => ?_) (fun hb => ?_) <;> (first | exact no_ hb | rw [hb])) | refine aw_seq ?_ | refine aw_region tab_ok _ rfl ?_ | refine aw_drawn2 tabS_ok _ rfl mixed (by decide +kernel) ?_ | (refine aw_cond rfl (fun hb => ?_) (fun hb => ?_) <;> (try exact no_ hb)) | refine aw_block ?_ | refine aw_exit ?_ | refine aw_ret ?_ | refine aw_skip ?_)
      exact end_ret (fin (w := ([], r2)) (hr.trans hst).symm (res_of rfl ⟨trivial, trivial, trivial⟩ rfl))
  · have hN : decide ((i : Int) < k) = false := by simp; omega
    rw [List.drop_of_length_le (by omega)] at hr
    repeat' (first | refine st_nil ?_ | rw [hN] | (refine st_pop rfl rfl rfl rfl ?_ ?_; · exact ok_) | (refine st_lop rfl rfl rfl rfl ?_ ?_; · exact ok_) | (refine st_store rfl rfl rfl ?_ ?_; · exact ok_) | (refine st_lit rfl rfl rfl rfl ?_ ?_; · exact ok_) | refine st_skip rfl rfl rfl ?_ | refine st_skip0 rfl rfl ?_ | (refine st_if rfl (fun hb => ?_) (fun hb => ?_) <;> (first | exact no_ hb | rw [hb])) | refine aw_seq ?_ | refine aw_region tab_ok _ rfl ?_ | refine aw_drawn2 tabS_ok _ rfl mixed (by decide +kernel) ?_ | (refine aw_cond rfl (fun hb => ?_) (fun hb => ?_) <;> (try exact no_ hb)) | refine aw_block ?_ | refine aw_exit ?_ | refine aw_ret ?_ | refine aw_skip ?_)
    exact end_ret (fin (w := (acc, 0)) hr.symm (res_of rfl ⟨trivial, trivial, trivial⟩ rfl))
end Go.Proofs.YtfpbmfalamappaaGreatDoor

namespace Go.Proofs.YtfpbmfalamappaaGreatDoor
open Go.RowKit Go.MapKept
set_option maxRecDepth 100000
/-- A plan. -/
inductive Pl where
  | mk (op int : Int) (kinds : List Int) (rows : List (List Val)) (pred : Ex) (exprs : List Ex) (keys : List Int) (aggs : List Ag) (inputs : List Pl)
mutual
def tP : Pl → List AC
  | .mk op int kinds rows pred exprs keys aggs inputs => [.int .i64 op, .int .i64 int, tInts kinds, tRows rows] ++ tE pred ++ [.lst (exprs.map tE), tInts keys, tAggs aggs, .lst (tPs inputs)]
def tPs : List Pl → List (List AC)
  | [] => []
  | e :: l => tP e :: tPs l
end
theorem tPs_map : ∀ (l : List Pl), tPs l = l.map tP
  | [] => by simp [tPs]
  | e :: l => by simp [tPs, tPs_map l]
theorem tP_mk (op int : Int) (kinds : List Int) (rows : List (List Val)) (po pi : Int) (pv : Val) (pn : ByteArray) (pa : List Ex) (exprs : List Ex) (keys : List Int) (aggs : List Ag) (inputs : List Pl) : tP (.mk op int kinds rows (.mk po pi pv pn pa) exprs keys aggs inputs) = [.int .i64 op, .int .i64 int, tInts kinds, tRows rows, .int .i64 po, .int .i64 pi, .int .i64 pv.kind, .int .i64 pv.int, .str pv.text, .str pn, .lst (pa.map tE), .lst (exprs.map tE), tInts keys, tAggs aggs, .lst (inputs.map tP)] := by rw [tP, tPs_map, tE_mk]; rfl
theorem tP_len (e : Pl) : (tP e).length = 15 := by obtain ⟨_, _, _, _, ⟨_, _, _, _, _⟩, _, _, _, _⟩ := e; rw [tP_mk]; rfl
/-- Lists of a plan are short. -/
inductive Pl.Sm : Pl → Prop
  | mk {op int : Int} {kinds : List Int} {rows : List (List Val)} {pred : Ex} {exprs : List Ex} {keys : List Int} {aggs : List Ag} {inputs : List Pl} (hk : kinds.length ≤ 100000) (hr : rows.length ≤ 100000) (hp : pred.Sm) (hx : exprs.length ≤ 100000) (hxs : ∀ e ∈ exprs, e.Sm) (hy : keys.length ≤ 100000) (ha : aggs.length ≤ 100000) (hi : inputs.length ≤ 100000) (hs : ∀ x ∈ inputs, Pl.Sm x) : Pl.Sm (.mk op int kinds rows pred exprs keys aggs inputs)
theorem box15_below {n : Nat} {a b c d e f g h i j k l m o p : AC} : (Ob.box [.c a, .c b, .c c, .c d, .c e, .c f, .c g, .c h, .c i, .c j, .c k, .c l, .c m, .c o, .c p]).below n := boxC_below [a, b, c, d, e, f, g, h, i, j, k, l, m, o, p]
def depP : Nat → Pl → Int
  | 0, _ => 1
  | m + 1, .mk _ _ _ _ _ _ _ _ inputs => IntKind.i64.wrap (inputs.foldl (fun n x => mx n (depP m x)) 0 + 1)
mutual
def depQ : Pl → Int
  | .mk _ _ _ _ _ _ _ _ inputs => IntKind.i64.wrap (depQs inputs 0 + 1)
def depQs : List Pl → Int → Int
  | [], n => n
  | x :: l, n => depQs l (mx n (depQ x))
end
theorem depQs_fold : ∀ (l : List Pl) (n : Int), depQs l n = l.foldl (fun n x => mx n (depQ x)) n
  | [], n => by simp [depQs]
  | x :: l, n => by simp [depQs, depQs_fold l]
theorem depQ_mk (op int : Int) (kinds : List Int) (rows : List (List Val)) (pred : Ex) (exprs : List Ex) (keys : List Int) (aggs : List Ag) (inputs : List Pl) : depQ (.mk op int kinds rows pred exprs keys aggs inputs) = IntKind.i64.wrap (inputs.foldl (fun n x => mx n (depQ x)) 0 + 1) := by rw [depQ, depQs_fold]
theorem depthP_pure : ∀ (m : Nat) (e : Pl), m ≤ 1000 → e.Sm → Pure Tryz.prog 46 [.agg (tP e), .one (.int .i64 m)] (vInt (depP m e))
  | 0, .mk op int kinds rows (.mk po pi pv pn pa) exprs keys aggs inputs, _, _ => by
    rw [tP_mk]
    refine pure_of_aw tab_ok Tryz.func46 rfl rfl Tryz.ntmps46 (by simp) ?_
    simp only [argT, PV.av, List.map_cons, List.map_nil]
    repeat' (first | refine st_nil ?_ | (refine st_pop rfl rfl rfl rfl ?_ ?_; · (repeat' (first | exact trivial | rfl | exact Nat.le_of_ble_eq_true rfl | omega | decide | apply And.intro))) | (refine st_lop rfl rfl rfl rfl ?_ ?_; · (repeat' (first | exact trivial | rfl | exact Nat.le_of_ble_eq_true rfl | omega | decide | apply And.intro))) | (refine st_store rfl rfl rfl ?_ ?_; · (repeat' (first | exact trivial | rfl | exact Nat.le_of_ble_eq_true rfl | omega | decide | apply And.intro))) | (refine st_lit rfl rfl rfl rfl ?_ ?_; · (repeat' (first | exact trivial | rfl | exact Nat.le_of_ble_eq_true rfl | omega | decide | apply And.intro))) | refine st_skip rfl rfl rfl ?_ | refine st_skip0 rfl rfl ?_ | (refine st_if rfl (fun hb => ?_) (fun hb => ?_) <;> (first | exact no_ hb | rw [hb])) | refine aw_seq ?_ | refine aw_region tab_ok _ rfl ?_ | refine aw_drawn2 tabS_ok _ rfl mixed (by decide +kernel) ?_ | (refine aw_cond rfl (fun hb => ?_) (fun hb => ?_) <;> (try exact no_ hb)) | refine aw_block ?_ | refine aw_exit ?_ | refine aw_ret ?_ | refine aw_skip ?_)
    exact end_ret (res_of rfl (by trivial) rfl)
  | m + 1, .mk op int kinds rows (.mk po pi pv pn pa) exprs keys aggs inputs, hm, hok => by
    have ih := fun x (hx : x ∈ inputs) => depthP_pure m x (by omega) (by cases hok with | mk _ _ _ _ _ _ _ _ hs => exact hs x hx)
    have hal : inputs.length ≤ 100000 := by cases hok with | mk _ _ _ _ _ _ _ hi _ => exact hi
    rw [tP_mk]
    refine pure_of_aw tab_ok Tryz.func46 rfl rfl Tryz.ntmps46 (by simp) ?_
    simp only [argT, PV.av, List.map_cons, List.map_nil]
    obtain ⟨k, hk⟩ : ∃ k, inputs.length = k := ⟨_, rfl⟩
    have hml : (((inputs.map tP).length : Nat) : Int) = k := by simp [hk]
    have hle : decide (((m + 1 : Nat) : Int) ≤ 0) = false := by simp
    repeat' (first | refine st_nil ?_ | rw [hle] | (refine st_pop rfl rfl rfl rfl ?_ ?_; · exact ok_) | (refine st_lop rfl rfl rfl rfl ?_ ?_; · exact ok_) | (refine st_store rfl rfl rfl ?_ ?_; · exact ok_) | (refine st_lit rfl rfl rfl rfl ?_ ?_; · exact ok_) | refine st_skip rfl rfl rfl ?_ | refine st_skip0 rfl rfl ?_ | (refine st_if rfl (fun hb => ?_) (fun hb => ?_) <;> (first | exact no_ hb | rw [hb])) | refine aw_seq ?_ | refine aw_region tab_ok _ rfl ?_ | refine aw_drawn2 tabS_ok _ rfl mixed (by decide +kernel) ?_ | (refine aw_cond rfl (fun hb => ?_) (fun hb => ?_) <;> (try exact no_ hb)) | refine aw_block ?_ | refine aw_exit ?_ | refine aw_ret ?_ | refine aw_skip ?_)
    refine aw_loop (fun i : Nat => [(1, .one (.c (.int .i64 (m + 1 : Nat)))), (5, .one (.c (.int .i64 ((inputs.take i).foldl (fun n x => mx n (depP m x)) 0)))), (11, .one (.c (.lst (inputs.map tP)))), (12, .one (.c (.int .i64 k))), (13, .one (.c (.int .i64 i)))]) (fun _ => []) (fun i => i ≤ k) (fun i => k - i) 0 (by omega) (fun _ _ => Nat.zero_le _)
      (fits_mk ⟨rfl, rfl, rfl, slot_int hml, rfl, trivial⟩ [_] rfl ft_ ft_) ?_
    intro i hi
    by_cases hlt : i < k
    · obtain ⟨x, hx⟩ := get_of_lt (show i < inputs.length by omega)
      have hN : decide ((i : Int) < k) = true := by simp; exact hlt
      have hix : (inputs.map tP)[((i : Nat) : Int).toNat]? = some (tP x) := idx_map hx
      have hnx : (inputs.take (i + 1)).foldl (fun n x => mx n (depP m x)) 0 = mx ((inputs.take i).foldl (fun n x => mx n (depP m x)) 0) (depP m x) := by rw [take_succ hx, List.foldl_append]; rfl
      generalize (inputs.take i).foldl (fun n x => mx n (depP m x)) 0 = acc at hnx
      have hw : IntKind.i64.wrap (((m + 1 : Nat) : Int) - 1) = ((m : Nat) : Int) := wrap_eq (by omega) (by omega)
      have hc := ih x (List.mem_of_getElem? hx)
      rw [← hw] at hc
      obtain ⟨op', int', kinds', rows', ⟨po', pi', pv', pn', pa'⟩, exprs', keys', aggs', inputs'⟩ := x
      rw [tP_mk] at hix hc
      repeat' (first | refine st_nil ?_ | rw [hN] | (refine st_pop rfl rfl rfl rfl ?_ ?_; · exact ok_) | (refine st_idx rfl rfl rfl rfl rfl rfl rfl rfl hix ?_ ?_; · exact ⟨by omega, rfl⟩) | (refine st_lop rfl rfl rfl rfl ?_ ?_; · exact ok_) | (refine st_store rfl rfl rfl ?_ ?_; · exact ok_) | (refine st_lit rfl rfl rfl rfl ?_ ?_; · exact ok_) | refine st_skip rfl rfl rfl ?_ | refine st_skip0 rfl rfl ?_ | refine st_call rfl rfl rfl rfl hc rfl ?_ | (refine st_if rfl (fun hb => ?_) (fun hb => ?_) <;> (first | exact no_ hb | rw [hb])) | refine aw_seq ?_ | refine aw_region tab_ok _ rfl ?_ | refine aw_drawn2 tabS_ok _ rfl mixed (by decide +kernel) ?_ | (refine aw_cond rfl (fun hb => ?_) (fun hb => ?_) <;> (try exact no_ hb)) | refine aw_block ?_ | refine aw_exit ?_ | refine aw_ret ?_ | refine aw_skip ?_)
      exact ⟨i + 1, by omega, by omega, fits_mk ⟨rfl, slot_int (by rw [hnx]; unfold mx; first | rfl | (split <;> rfl)), rfl, rfl, slot_int (wrap_eq (by omega) (by omega)), trivial⟩ [_] rfl ft_ ft_⟩
    · have hN : decide ((i : Int) < k) = false := by simp; omega
      have htk : inputs.take i = inputs := List.take_of_length_le (by omega)
      rw [htk]
      repeat' (first | refine st_nil ?_ | rw [hN] | (refine st_pop rfl rfl rfl rfl ?_ ?_; · exact ok_) | (refine st_lop rfl rfl rfl rfl ?_ ?_; · exact ok_) | (refine st_store rfl rfl rfl ?_ ?_; · exact ok_) | (refine st_lit rfl rfl rfl rfl ?_ ?_; · exact ok_) | refine st_skip rfl rfl rfl ?_ | refine st_skip0 rfl rfl ?_ | (refine st_if rfl (fun hb => ?_) (fun hb => ?_) <;> (first | exact no_ hb | rw [hb])) | refine aw_seq ?_ | refine aw_region tab_ok _ rfl ?_ | refine aw_drawn2 tabS_ok _ rfl mixed (by decide +kernel) ?_ | (refine aw_cond rfl (fun hb => ?_) (fun hb => ?_) <;> (try exact no_ hb)) | refine aw_block ?_ | refine aw_exit ?_ | refine aw_ret ?_ | refine aw_skip ?_)
      exact end_ret (res_of rfl (by trivial) rfl)
theorem depthQ_pure {e : Pl} (h : e.Sm) : Pure Tryz.prog 50 [.agg (tP e)] (vInt (depQ e)) := by
  induction h with
  | @mk op int kinds rows pred exprs keys aggs inputs _ _ _ _ _ _ _ hal _ ih =>
    obtain ⟨po, pi, pv, pn, pa⟩ := pred
    rw [tP_mk, depQ_mk]
    refine pure_of_aw tab_ok Tryz.func50 rfl rfl Tryz.ntmps50 (by simp) ?_
    simp only [argT, PV.av, List.map_cons, List.map_nil]
    obtain ⟨k, hk⟩ : ∃ k, inputs.length = k := ⟨_, rfl⟩
    have hml : (((inputs.map tP).length : Nat) : Int) = k := by simp [hk]
    repeat' (first | refine st_nil ?_ | (refine st_pop rfl rfl rfl rfl ?_ ?_; · exact ok_) | (refine st_lop rfl rfl rfl rfl ?_ ?_; · exact ok_) | (refine st_store rfl rfl rfl ?_ ?_; · exact ok_) | (refine st_lit rfl rfl rfl rfl ?_ ?_; · exact ok_) | refine st_skip rfl rfl rfl ?_ | refine st_skip0 rfl rfl ?_ | (refine st_if rfl (fun hb => ?_) (fun hb => ?_) <;> (first | exact no_ hb | rw [hb])) | refine aw_seq ?_ | refine aw_region tab_ok _ rfl ?_ | refine aw_drawn2 tabS_ok _ rfl mixed (by decide +kernel) ?_ | (refine aw_cond rfl (fun hb => ?_) (fun hb => ?_) <;> (try exact no_ hb)) | refine aw_block ?_ | refine aw_exit ?_ | refine aw_ret ?_ | refine aw_skip ?_)
    refine aw_loop (fun i : Nat => [(1, .one (.ptr 0 0)), (3, .one (.c (.int .i64 ((inputs.take i).foldl (fun n x => mx n (depQ x)) 0)))), (4, .one (.c (.int .i64 i)))]) (fun _ => [.box [.c (.int .i64 op), .c (.int .i64 int), .c (tInts kinds), .c (tRows rows), .c (.int .i64 po), .c (.int .i64 pi), .c (.int .i64 pv.kind), .c (.int .i64 pv.int), .c (.str pv.text), .c (.str pn), .c (.lst (pa.map tE)), .c (.lst (exprs.map tE)), .c (tInts keys), .c (tAggs aggs), .c (.lst (inputs.map tP))]]) (fun i => i ≤ k) (fun i => k - i) 0 (by omega) (fun _ _ => Nat.zero_le _)
      (fits_mk ⟨rfl, rfl, rfl, trivial⟩ [] rfl ⟨by show 0 < 1; omega, trivial, trivial, trivial⟩ ⟨box15_below, trivial⟩) ?_
    intro i hi
    by_cases hlt : i < k
    · obtain ⟨x, hx⟩ := get_of_lt (show i < inputs.length by omega)
      have hN : decide ((i : Int) < ((inputs.map tP).length : Nat)) = true := by rw [hml]; simp; exact hlt
      have hix : (inputs.map tP)[((i : Nat) : Int).toNat]? = some (tP x) := idx_map hx
      have hnx : (inputs.take (i + 1)).foldl (fun n x => mx n (depQ x)) 0 = mx ((inputs.take i).foldl (fun n x => mx n (depQ x)) 0) (depQ x) := by rw [take_succ hx, List.foldl_append]; rfl
      generalize (inputs.take i).foldl (fun n x => mx n (depQ x)) 0 = acc at hnx
      have hc := ih x (List.mem_of_getElem? hx)
      obtain ⟨op', int', kinds', rows', ⟨po', pi', pv', pn', pa'⟩, exprs', keys', aggs', inputs'⟩ := x
      rw [tP_mk] at hix hc
      repeat' (first | refine st_nil ?_ | rw [hN] | (refine st_pop rfl rfl rfl rfl ?_ ?_; · exact ok_) | (refine st_idx rfl rfl rfl rfl rfl rfl rfl rfl hix ?_ ?_; · exact ⟨by omega, rfl⟩) | (refine st_lop rfl rfl rfl rfl ?_ ?_; · exact ok_) | (refine st_store rfl rfl rfl ?_ ?_; · exact ok_) | (refine st_lit rfl rfl rfl rfl ?_ ?_; · exact ok_) | refine st_skip rfl rfl rfl ?_ | refine st_skip0 rfl rfl ?_ | refine st_call rfl rfl rfl rfl hc rfl ?_ | (refine st_if rfl (fun hb => ?_) (fun hb => ?_) <;> (first | exact no_ hb | rw [hb])) | refine aw_seq ?_ | refine aw_region tab_ok _ rfl ?_ | refine aw_drawn2 tabS_ok _ rfl mixed (by decide +kernel) ?_ | (refine aw_cond rfl (fun hb => ?_) (fun hb => ?_) <;> (try exact no_ hb)) | refine aw_block ?_ | refine aw_exit ?_ | refine aw_ret ?_ | refine aw_skip ?_)
      exact ⟨i + 1, by omega, by omega, fits_mk ⟨rfl, slot_int (by rw [hnx]; unfold mx; first | rfl | (split <;> rfl)), slot_int (wrap_eq (by omega) (by omega)), trivial⟩ [] rfl ⟨by show 0 < 1; omega, trivial, trivial, trivial⟩ ⟨box15_below, trivial⟩⟩
    · have hN : decide ((i : Int) < ((inputs.map tP).length : Nat)) = false := by rw [hml]; simp; omega
      have htk : inputs.take i = inputs := List.take_of_length_le (by omega)
      rw [htk]
      repeat' (first | refine st_nil ?_ | rw [hN] | (refine st_pop rfl rfl rfl rfl ?_ ?_; · exact ok_) | (refine st_lop rfl rfl rfl rfl ?_ ?_; · exact ok_) | (refine st_store rfl rfl rfl ?_ ?_; · exact ok_) | (refine st_lit rfl rfl rfl rfl ?_ ?_; · exact ok_) | refine st_skip rfl rfl rfl ?_ | refine st_skip0 rfl rfl ?_ | (refine st_if rfl (fun hb => ?_) (fun hb => ?_) <;> (first | exact no_ hb | rw [hb])) | refine aw_seq ?_ | refine aw_region tab_ok _ rfl ?_ | refine aw_drawn2 tabS_ok _ rfl mixed (by decide +kernel) ?_ | (refine aw_cond rfl (fun hb => ?_) (fun hb => ?_) <;> (try exact no_ hb)) | refine aw_block ?_ | refine aw_exit ?_ | refine aw_ret ?_ | refine aw_skip ?_)
      exact end_ret (res_of rfl (by trivial) rfl)
end Go.Proofs.YtfpbmfalamappaaGreatDoor

namespace Go.Proofs.YtfpbmfalamappaaGreatDoor
open Go.RowKit Go.MapKept
set_option maxRecDepth 100000
def eqK (a b : List Int) : Int := bif decide (a.length ≠ b.length) then 13 else bif decide (a = b) then 0 else 7
theorem take_eq_ext {a b : List Int} {i : Nat} {x : Int} (hx : a[i]? = some x) (hy : b[i]? = some x) (h : a.take i = b.take i) : a.take (i + 1) = b.take (i + 1) := by rw [take_succ hx, take_succ hy, h]
theorem ne_of_get {a b : List Int} {i : Nat} {x y : Int} (hx : a[i]? = some x) (hy : b[i]? = some y) (h : x ≠ y) : a ≠ b := by
  intro e; subst e; rw [hx] at hy; exact h (Option.some.inj hy)
theorem equal_pure (a b : List Int) (hl : a.length ≤ 1000000) : Pure Tryz.prog 83 [.one (tInts a), .one (tInts b)] (vInt (eqK a b)) := by
  refine pure_of_aw tab_ok Tryz.func83 rfl rfl Tryz.ntmps83 (by simp) ?_
  simp only [argT, PV.av, List.map_cons, List.map_nil]
  obtain ⟨n, hn⟩ : ∃ n, a.length = n := ⟨_, rfl⟩
  have hml : (((a.map fun x => [AC.int .i64 x]).length : Nat) : Int) = n := by simp [hn]
  have hmb : (((b.map fun x => [AC.int .i64 x]).length : Nat) : Int) = b.length := by simp
  by_cases hle : a.length = b.length
  · have q1 : decide ((((a.map fun x => [AC.int .i64 x]).length : Nat) : Int) ≠ ((b.map fun x => [AC.int .i64 x]).length : Nat)) = false := by rw [hml, hmb]; simp; omega
    repeat' (first | refine st_nil ?_ | rw [q1] | (refine st_pop rfl rfl rfl rfl ?_ ?_; · exact ok_) | (refine st_lop rfl rfl rfl rfl ?_ ?_; · exact ok_) | (refine st_store rfl rfl rfl ?_ ?_; · exact ok_) | (refine st_lit rfl rfl rfl rfl ?_ ?_; · exact ok_) | refine st_skip rfl rfl rfl ?_ | refine st_skip0 rfl rfl ?_ | (refine st_if rfl (fun hb => ?_) (fun hb => ?_) <;> (first | exact no_ hb | rw [hb])) | refine aw_seq ?_ | refine aw_region tab_ok _ rfl ?_ | refine aw_drawn2 tabS_ok _ rfl mixed (by decide +kernel) ?_ | (refine aw_cond rfl (fun hb => ?_) (fun hb => ?_) <;> (try exact no_ hb)) | refine aw_block ?_ | refine aw_exit ?_ | refine aw_ret ?_ | refine aw_skip ?_)
    refine aw_loop (fun i : Nat => [(0, .one (.c (tInts a))), (1, .one (.c (tInts b))), (12, .one (.c (.int .i64 n))), (13, .one (.c (.int .i64 i)))]) (fun _ => []) (fun i => i ≤ n ∧ a.take i = b.take i) (fun i => n - i) 0 ⟨by omega, by simp⟩ (fun _ _ => Nat.zero_le _)
      (fits_mk ⟨rfl, rfl, slot_int hml, rfl, trivial⟩ [] rfl ft_ ft_) ?_
    rintro i ⟨hi, hall⟩
    by_cases hlt : i < n
    · obtain ⟨x, hx⟩ := get_of_lt (show i < a.length by omega)
      obtain ⟨y, hy⟩ := get_of_lt (show i < b.length by omega)
      have hN : decide ((i : Int) < n) = true := by simp; exact hlt
      have hix : (a.map fun x => [AC.int .i64 x])[((i : Nat) : Int).toNat]? = some [.int .i64 x] := idx_map hx
      have hiy : (b.map fun x => [AC.int .i64 x])[((i : Nat) : Int).toNat]? = some [.int .i64 y] := idx_map hy
      by_cases hxy : x = y
      · have q2 : decide (x ≠ y) = false := by simp [hxy]
        repeat' (first | refine st_nil ?_ | rw [hN] | rw [q2] | (refine st_pop rfl rfl rfl rfl ?_ ?_; · exact ok_) | (refine st_idx rfl rfl rfl rfl rfl rfl rfl rfl hix ?_ ?_; · exact ⟨by omega, rfl⟩) | (refine st_idx rfl rfl rfl rfl rfl rfl rfl rfl hiy ?_ ?_; · exact ⟨by omega, rfl⟩) | (refine st_lop rfl rfl rfl rfl ?_ ?_; · exact ok_) | (refine st_store rfl rfl rfl ?_ ?_; · exact ok_) | (refine st_lit rfl rfl rfl rfl ?_ ?_; · exact ok_) | refine st_skip rfl rfl rfl ?_ | refine st_skip0 rfl rfl ?_ | (refine st_if rfl (fun hb => ?_) (fun hb => ?_) <;> (first | exact no_ hb | rw [hb])) | refine aw_seq ?_ | refine aw_region tab_ok _ rfl ?_ | refine aw_drawn2 tabS_ok _ rfl mixed (by decide +kernel) ?_ | (refine aw_cond rfl (fun hb => ?_) (fun hb => ?_) <;> (try exact no_ hb)) | refine aw_block ?_ | refine aw_exit ?_ | refine aw_ret ?_ | refine aw_skip ?_)
        exact ⟨i + 1, ⟨by omega, take_eq_ext hx (hxy ▸ hy) hall⟩, by omega, fits_mk ⟨rfl, rfl, rfl, slot_int (wrap_eq (by omega) (by omega)), trivial⟩ [] rfl ft_ ft_⟩
      · have q2 : decide (x ≠ y) = true := by simp [hxy]
        repeat' (first | refine st_nil ?_ | rw [hN] | rw [q2] | (refine st_pop rfl rfl rfl rfl ?_ ?_; · exact ok_) | (refine st_idx rfl rfl rfl rfl rfl rfl rfl rfl hix ?_ ?_; · exact ⟨by omega, rfl⟩) | (refine st_idx rfl rfl rfl rfl rfl rfl rfl rfl hiy ?_ ?_; · exact ⟨by omega, rfl⟩) | (refine st_lop rfl rfl rfl rfl ?_ ?_; · exact ok_) | (refine st_store rfl rfl rfl ?_ ?_; · exact ok_) | (refine st_lit rfl rfl rfl rfl ?_ ?_; · exact ok_) | refine st_skip rfl rfl rfl ?_ | refine st_skip0 rfl rfl ?_ | (refine st_if rfl (fun hb => ?_) (fun hb => ?_) <;> (first | exact no_ hb | rw [hb])) | refine aw_seq ?_ | refine aw_region tab_ok _ rfl ?_ | refine aw_drawn2 tabS_ok _ rfl mixed (by decide +kernel) ?_ | (refine aw_cond rfl (fun hb => ?_) (fun hb => ?_) <;> (try exact no_ hb)) | refine aw_block ?_ | refine aw_exit ?_ | refine aw_ret ?_ | refine aw_skip ?_)
        exact end_ret (res_of rfl (by trivial) (vInt_eq (by unfold eqK; simp [hle, ne_of_get hx hy hxy])))
    · have hN : decide ((i : Int) < n) = false := by simp; omega
      rw [List.take_of_length_le (by omega), List.take_of_length_le (by omega)] at hall
      repeat' (first | refine st_nil ?_ | rw [hN] | (refine st_pop rfl rfl rfl rfl ?_ ?_; · exact ok_) | (refine st_lop rfl rfl rfl rfl ?_ ?_; · exact ok_) | (refine st_store rfl rfl rfl ?_ ?_; · exact ok_) | (refine st_lit rfl rfl rfl rfl ?_ ?_; · exact ok_) | refine st_skip rfl rfl rfl ?_ | refine st_skip0 rfl rfl ?_ | (refine st_if rfl (fun hb => ?_) (fun hb => ?_) <;> (first | exact no_ hb | rw [hb])) | refine aw_seq ?_ | refine aw_region tab_ok _ rfl ?_ | refine aw_drawn2 tabS_ok _ rfl mixed (by decide +kernel) ?_ | (refine aw_cond rfl (fun hb => ?_) (fun hb => ?_) <;> (try exact no_ hb)) | refine aw_block ?_ | refine aw_exit ?_ | refine aw_ret ?_ | refine aw_skip ?_)
      exact end_ret (res_of rfl (by trivial) (vInt_eq (by unfold eqK; simp [hall])))
  · have q1 : decide ((((a.map fun x => [AC.int .i64 x]).length : Nat) : Int) ≠ ((b.map fun x => [AC.int .i64 x]).length : Nat)) = true := by rw [hml, hmb]; simp; omega
    repeat' (first | refine st_nil ?_ | rw [q1] | (refine st_pop rfl rfl rfl rfl ?_ ?_; · exact ok_) | (refine st_lop rfl rfl rfl rfl ?_ ?_; · exact ok_) | (refine st_store rfl rfl rfl ?_ ?_; · exact ok_) | (refine st_lit rfl rfl rfl rfl ?_ ?_; · exact ok_) | refine st_skip rfl rfl rfl ?_ | refine st_skip0 rfl rfl ?_ | (refine st_if rfl (fun hb => ?_) (fun hb => ?_) <;> (first | exact no_ hb | rw [hb])) | refine aw_seq ?_ | refine aw_region tab_ok _ rfl ?_ | refine aw_drawn2 tabS_ok _ rfl mixed (by decide +kernel) ?_ | (refine aw_cond rfl (fun hb => ?_) (fun hb => ?_) <;> (try exact no_ hb)) | refine aw_block ?_ | refine aw_exit ?_ | refine aw_ret ?_ | refine aw_skip ?_)
    exact end_ret (res_of rfl (by trivial) (vInt_eq (by unfold eqK; simp [hle])))
theorem sameKinds_pure (a b : List Int) (hl : a.length ≤ 1000000) : Pure Tryz.prog 14 [.one (tInts a), .one (tInts b)] (vBool (decide (a = b))) := by
  refine pure_of_aw tab_ok Tryz.func14 rfl rfl Tryz.ntmps14 (by simp) ?_
  simp only [argT, PV.av, List.map_cons, List.map_nil]
  obtain ⟨n, hn⟩ : ∃ n, a.length = n := ⟨_, rfl⟩
  have hml : (((a.map fun x => [AC.int .i64 x]).length : Nat) : Int) = n := by simp [hn]
  have hmb : (((b.map fun x => [AC.int .i64 x]).length : Nat) : Int) = b.length := by simp
  by_cases hle : a.length = b.length
  · have q1 : decide ((((a.map fun x => [AC.int .i64 x]).length : Nat) : Int) ≠ ((b.map fun x => [AC.int .i64 x]).length : Nat)) = false := by rw [hml, hmb]; simp; omega
    repeat' (first | refine st_nil ?_ | rw [q1] | (refine st_pop rfl rfl rfl rfl ?_ ?_; · exact ok_) | (refine st_lop rfl rfl rfl rfl ?_ ?_; · exact ok_) | (refine st_store rfl rfl rfl ?_ ?_; · exact ok_) | (refine st_lit rfl rfl rfl rfl ?_ ?_; · exact ok_) | refine st_skip rfl rfl rfl ?_ | refine st_skip0 rfl rfl ?_ | (refine st_if rfl (fun hb => ?_) (fun hb => ?_) <;> (first | exact no_ hb | rw [hb])) | refine aw_seq ?_ | refine aw_region tab_ok _ rfl ?_ | refine aw_drawn2 tabS_ok _ rfl mixed (by decide +kernel) ?_ | (refine aw_cond rfl (fun hb => ?_) (fun hb => ?_) <;> (try exact no_ hb)) | refine aw_block ?_ | refine aw_exit ?_ | refine aw_ret ?_ | refine aw_skip ?_)
    refine aw_loop (fun i : Nat => [(0, .one (.c (tInts a))), (1, .one (.c (tInts b))), (5, .one (.c (.int .i64 i)))]) (fun _ => []) (fun i => i ≤ n ∧ a.take i = b.take i) (fun i => n - i) 0 ⟨by omega, by simp⟩ (fun _ _ => Nat.zero_le _)
      (fits_mk ⟨rfl, rfl, rfl, trivial⟩ [] rfl ft_ ft_) ?_
    rintro i ⟨hi, hall⟩
    by_cases hlt : i < n
    · obtain ⟨x, hx⟩ := get_of_lt (show i < a.length by omega)
      obtain ⟨y, hy⟩ := get_of_lt (show i < b.length by omega)
      have hN : decide ((i : Int) < ((a.map fun x => [AC.int .i64 x]).length : Nat)) = true := by rw [hml]; simp; exact hlt
      have hix : (a.map fun x => [AC.int .i64 x])[((i : Nat) : Int).toNat]? = some [.int .i64 x] := idx_map hx
      have hiy : (b.map fun x => [AC.int .i64 x])[((i : Nat) : Int).toNat]? = some [.int .i64 y] := idx_map hy
      by_cases hxy : x = y
      · have q2 : decide (x ≠ y) = false := by simp [hxy]
        repeat' (first | refine st_nil ?_ | rw [hN] | rw [q2] | (refine st_pop rfl rfl rfl rfl ?_ ?_; · exact ok_) | (refine st_idx rfl rfl rfl rfl rfl rfl rfl rfl hix ?_ ?_; · exact ⟨by omega, rfl⟩) | (refine st_idx rfl rfl rfl rfl rfl rfl rfl rfl hiy ?_ ?_; · exact ⟨by omega, rfl⟩) | (refine st_lop rfl rfl rfl rfl ?_ ?_; · exact ok_) | (refine st_store rfl rfl rfl ?_ ?_; · exact ok_) | (refine st_lit rfl rfl rfl rfl ?_ ?_; · exact ok_) | refine st_skip rfl rfl rfl ?_ | refine st_skip0 rfl rfl ?_ | (refine st_if rfl (fun hb => ?_) (fun hb => ?_) <;> (first | exact no_ hb | rw [hb])) | refine aw_seq ?_ | refine aw_region tab_ok _ rfl ?_ | refine aw_drawn2 tabS_ok _ rfl mixed (by decide +kernel) ?_ | (refine aw_cond rfl (fun hb => ?_) (fun hb => ?_) <;> (try exact no_ hb)) | refine aw_block ?_ | refine aw_exit ?_ | refine aw_ret ?_ | refine aw_skip ?_)
        exact ⟨i + 1, ⟨by omega, take_eq_ext hx (hxy ▸ hy) hall⟩, by omega, fits_mk ⟨rfl, rfl, slot_int (wrap_eq (by omega) (by omega)), trivial⟩ [] rfl ft_ ft_⟩
      · have q2 : decide (x ≠ y) = true := by simp [hxy]
        repeat' (first | refine st_nil ?_ | rw [hN] | rw [q2] | (refine st_pop rfl rfl rfl rfl ?_ ?_; · exact ok_) | (refine st_idx rfl rfl rfl rfl rfl rfl rfl rfl hix ?_ ?_; · exact ⟨by omega, rfl⟩) | (refine st_idx rfl rfl rfl rfl rfl rfl rfl rfl hiy ?_ ?_; · exact ⟨by omega, rfl⟩) | (refine st_lop rfl rfl rfl rfl ?_ ?_; · exact ok_) | (refine st_store rfl rfl rfl ?_ ?_; · exact ok_) | (refine st_lit rfl rfl rfl rfl ?_ ?_; · exact ok_) | refine st_skip rfl rfl rfl ?_ | refine st_skip0 rfl rfl ?_ | (refine st_if rfl (fun hb => ?_) (fun hb => ?_) <;> (first | exact no_ hb | rw [hb])) | refine aw_seq ?_ | refine aw_region tab_ok _ rfl ?_ | refine aw_drawn2 tabS_ok _ rfl mixed (by decide +kernel) ?_ | (refine aw_cond rfl (fun hb => ?_) (fun hb => ?_) <;> (try exact no_ hb)) | refine aw_block ?_ | refine aw_exit ?_ | refine aw_ret ?_ | refine aw_skip ?_)
        exact end_ret (res_of rfl (by trivial) (vBool_eq (by simp [ne_of_get hx hy hxy])))
    · have hN : decide ((i : Int) < ((a.map fun x => [AC.int .i64 x]).length : Nat)) = false := by rw [hml]; simp; omega
      rw [List.take_of_length_le (by omega), List.take_of_length_le (by omega)] at hall
      repeat' (first | refine st_nil ?_ | rw [hN] | (refine st_pop rfl rfl rfl rfl ?_ ?_; · exact ok_) | (refine st_lop rfl rfl rfl rfl ?_ ?_; · exact ok_) | (refine st_store rfl rfl rfl ?_ ?_; · exact ok_) | (refine st_lit rfl rfl rfl rfl ?_ ?_; · exact ok_) | refine st_skip rfl rfl rfl ?_ | refine st_skip0 rfl rfl ?_ | (refine st_if rfl (fun hb => ?_) (fun hb => ?_) <;> (first | exact no_ hb | rw [hb])) | refine aw_seq ?_ | refine aw_region tab_ok _ rfl ?_ | refine aw_drawn2 tabS_ok _ rfl mixed (by decide +kernel) ?_ | (refine aw_cond rfl (fun hb => ?_) (fun hb => ?_) <;> (try exact no_ hb)) | refine aw_block ?_ | refine aw_exit ?_ | refine aw_ret ?_ | refine aw_skip ?_)
      exact end_ret (res_of rfl (by trivial) (vBool_eq (by simp [hall])))
  · have q1 : decide ((((a.map fun x => [AC.int .i64 x]).length : Nat) : Int) ≠ ((b.map fun x => [AC.int .i64 x]).length : Nat)) = true := by rw [hml, hmb]; simp; omega
    repeat' (first | refine st_nil ?_ | rw [q1] | (refine st_pop rfl rfl rfl rfl ?_ ?_; · exact ok_) | (refine st_lop rfl rfl rfl rfl ?_ ?_; · exact ok_) | (refine st_store rfl rfl rfl ?_ ?_; · exact ok_) | (refine st_lit rfl rfl rfl rfl ?_ ?_; · exact ok_) | refine st_skip rfl rfl rfl ?_ | refine st_skip0 rfl rfl ?_ | (refine st_if rfl (fun hb => ?_) (fun hb => ?_) <;> (first | exact no_ hb | rw [hb])) | refine aw_seq ?_ | refine aw_region tab_ok _ rfl ?_ | refine aw_drawn2 tabS_ok _ rfl mixed (by decide +kernel) ?_ | (refine aw_cond rfl (fun hb => ?_) (fun hb => ?_) <;> (try exact no_ hb)) | refine aw_block ?_ | refine aw_exit ?_ | refine aw_ret ?_ | refine aw_skip ?_)
    exact end_ret (res_of rfl (by trivial) (vBool_eq (by simp; intro e; exact hle (by rw [e]))))
end Go.Proofs.YtfpbmfalamappaaGreatDoor

namespace Go.Proofs.YtfpbmfalamappaaGreatDoor
open Go.RowKit Go.MapKept
set_option maxRecDepth 100000
def okV (v : Val) (k : Int) : Bool := bif vvalid v then (bif decide (v.kind = k) then true else decide (v.kind = 0)) else false
def fitsL : List Val → List Int → Bool
  | v :: r, k :: ks => bif okV v k then fitsL r ks else false
  | _, _ => true
def fitsF (row : List Val) (kinds : List Int) : Bool := bif decide (row.length ≠ kinds.length) then false else fitsL row kinds
theorem fitsL_drop {row : List Val} {kinds : List Int} {i : Nat} {v : Val} {k : Int} (hx : row[i]? = some v) (hy : kinds[i]? = some k) : fitsL (row.drop i) (kinds.drop i) = bif okV v k then fitsL (row.drop (i + 1)) (kinds.drop (i + 1)) else false := by
  obtain ⟨h1, e1⟩ := List.getElem?_eq_some_iff.1 hx
  obtain ⟨h2, e2⟩ := List.getElem?_eq_some_iff.1 hy
  rw [List.drop_eq_getElem_cons h1, e1, List.drop_eq_getElem_cons h2, e2, fitsL]
theorem fits_pure (row : List Val) (kinds : List Int) (hl : kinds.length ≤ 1000000) : Pure Tryz.prog 122 [.one (tRow row), .one (tInts kinds)] (vBool (fitsF row kinds)) := by
  refine pure_of_aw tab_ok Tryz.func122 rfl rfl Tryz.ntmps122 (by simp) ?_
  simp only [argT, PV.av, List.map_cons, List.map_nil]
  have hml : (((row.map cV).length : Nat) : Int) = row.length := by simp
  have hmb : (((kinds.map fun x => [AC.int .i64 x]).length : Nat) : Int) = kinds.length := by simp
  by_cases hle : row.length = kinds.length
  · have q1 : decide ((((row.map cV).length : Nat) : Int) ≠ ((kinds.map fun x => [AC.int .i64 x]).length : Nat)) = false := by rw [hml, hmb]; simp; omega
    have hF : fitsF row kinds = fitsL row kinds := by unfold fitsF; simp [hle]
    rw [hF]
    obtain ⟨n, hn⟩ : ∃ n, row.length = n := ⟨_, rfl⟩
    rw [hn] at hml
    repeat' (first | refine st_nil ?_ | rw [q1] | (refine st_pop rfl rfl rfl rfl ?_ ?_; · exact ok_) | (refine st_lop rfl rfl rfl rfl ?_ ?_; · exact ok_) | (refine st_store rfl rfl rfl ?_ ?_; · exact ok_) | (refine st_lit rfl rfl rfl rfl ?_ ?_; · exact ok_) | refine st_skip rfl rfl rfl ?_ | refine st_skip0 rfl rfl ?_ | (refine st_if rfl (fun hb => ?_) (fun hb => ?_) <;> (first | exact no_ hb | rw [hb])) | refine aw_seq ?_ | refine aw_region tab_ok _ rfl ?_ | refine aw_drawn2 tabS_ok _ rfl mixed (by decide +kernel) ?_ | (refine aw_cond rfl (fun hb => ?_) (fun hb => ?_) <;> (try exact no_ hb)) | refine aw_block ?_ | refine aw_exit ?_ | refine aw_ret ?_ | refine aw_skip ?_)
    refine aw_loop (fun i : Nat => [(1, .one (.c (tInts kinds))), (12, .one (.c (tRow row))), (13, .one (.c (.int .i64 n))), (14, .one (.c (.int .i64 i)))]) (fun _ => []) (fun i => i ≤ n ∧ fitsL row kinds = fitsL (row.drop i) (kinds.drop i)) (fun i => n - i) 0 ⟨by omega, by simp⟩ (fun _ _ => Nat.zero_le _)
      (fits_mk ⟨rfl, rfl, slot_int hml, rfl, trivial⟩ [] rfl ft_ ft_) ?_
    rintro i ⟨hi, hall⟩
    by_cases hlt : i < n
    · obtain ⟨x, hx⟩ := get_of_lt (show i < row.length by omega)
      obtain ⟨y, hy⟩ := get_of_lt (show i < kinds.length by omega)
      have hN : decide ((i : Int) < n) = true := by simp; exact hlt
      have hix : (row.map cV)[((i : Nat) : Int).toNat]? = some [.int .i64 x.kind, .int .i64 x.int, .str x.text] := idx_map hx
      have hiy : (kinds.map fun x => [AC.int .i64 x])[((i : Nat) : Int).toNat]? = some [.int .i64 y] := idx_map hy
      have hv := valid_any x
      have hst := fitsL_drop hx hy
      unfold okV at hst
      generalize vvalid x = vx at hv hst
      cases vx with
      | false =>
        repeat' (first | refine st_nil ?_ | rw [hN] | rw [q2] | rw [q3] | (refine st_pop rfl rfl rfl rfl ?_ ?_; · exact ok_) | (refine st_idx rfl rfl rfl rfl rfl rfl rfl rfl hix ?_ ?_; · exact ⟨by omega, rfl⟩) | (refine st_idx rfl rfl rfl rfl rfl rfl rfl rfl hiy ?_ ?_; · exact ⟨by omega, rfl⟩) | (refine st_lop rfl rfl rfl rfl ?_ ?_; · exact ok_) | (refine st_store rfl rfl rfl ?_ ?_; · exact ok_) | (refine st_lit rfl rfl rfl rfl ?_ ?_; · exact ok_) | refine st_skip rfl rfl rfl ?_ | refine st_skip0 rfl rfl ?_ | refine st_call rfl rfl rfl rfl hv rfl ?_ | (refine st_if rfl (fun hb => ?_) (fun hb => ?_) <;> (first | exact no_ hb | rw [hb])) | refine aw_seq ?_ | refine aw_region tab_ok _ rfl ?_ | refine aw_drawn2 tabS_ok _ rfl mixed (by decide +kernel) ?_ | (refine aw_cond rfl (fun hb => ?_) (fun hb => ?_) <;> (try exact no_ hb)) | refine aw_block ?_ | refine aw_exit ?_ | refine aw_ret ?_ | refine aw_skip ?_)
        exact end_ret (res_of rfl (by trivial) (vBool_eq (hall.trans hst).symm))
      | true =>
        by_cases hxy : x.kind = y
        · have q2 : decide (x.kind ≠ y) = false := by simp [hxy]
          have q4 : decide (x.kind = y) = true := by simp [hxy]
          rw [q4] at hst
          by_cases h0 : x.kind = 0
          · have q3 : decide (x.kind ≠ 0) = false := by simp [h0]
            repeat' (first | refine st_nil ?_ | rw [hN] | rw [q2] | rw [q3] | (refine st_pop rfl rfl rfl rfl ?_ ?_; · exact ok_) | (refine st_idx rfl rfl rfl rfl rfl rfl rfl rfl hix ?_ ?_; · exact ⟨by omega, rfl⟩) | (refine st_idx rfl rfl rfl rfl rfl rfl rfl rfl hiy ?_ ?_; · exact ⟨by omega, rfl⟩) | (refine st_lop rfl rfl rfl rfl ?_ ?_; · exact ok_) | (refine st_store rfl rfl rfl ?_ ?_; · exact ok_) | (refine st_lit rfl rfl rfl rfl ?_ ?_; · exact ok_) | refine st_skip rfl rfl rfl ?_ | refine st_skip0 rfl rfl ?_ | refine st_call rfl rfl rfl rfl hv rfl ?_ | (refine st_if rfl (fun hb => ?_) (fun hb => ?_) <;> (first | exact no_ hb | rw [hb])) | refine aw_seq ?_ | refine aw_region tab_ok _ rfl ?_ | refine aw_drawn2 tabS_ok _ rfl mixed (by decide +kernel) ?_ | (refine aw_cond rfl (fun hb => ?_) (fun hb => ?_) <;> (try exact no_ hb)) | refine aw_block ?_ | refine aw_exit ?_ | refine aw_ret ?_ | refine aw_skip ?_)
            exact ⟨i + 1, ⟨by omega, hall.trans hst⟩, by omega, fits_mk ⟨rfl, rfl, rfl, slot_int (wrap_eq (by omega) (by omega)), trivial⟩ [_] rfl ft_ ft_⟩
          · have q3 : decide (x.kind ≠ 0) = true := by simp [h0]
            repeat' (first | refine st_nil ?_ | rw [hN] | rw [q2] | rw [q3] | (refine st_pop rfl rfl rfl rfl ?_ ?_; · exact ok_) | (refine st_idx rfl rfl rfl rfl rfl rfl rfl rfl hix ?_ ?_; · exact ⟨by omega, rfl⟩) | (refine st_idx rfl rfl rfl rfl rfl rfl rfl rfl hiy ?_ ?_; · exact ⟨by omega, rfl⟩) | (refine st_lop rfl rfl rfl rfl ?_ ?_; · exact ok_) | (refine st_store rfl rfl rfl ?_ ?_; · exact ok_) | (refine st_lit rfl rfl rfl rfl ?_ ?_; · exact ok_) | refine st_skip rfl rfl rfl ?_ | refine st_skip0 rfl rfl ?_ | refine st_call rfl rfl rfl rfl hv rfl ?_ | (refine st_if rfl (fun hb => ?_) (fun hb => ?_) <;> (first | exact no_ hb | rw [hb])) | refine aw_seq ?_ | refine aw_region tab_ok _ rfl ?_ | refine aw_drawn2 tabS_ok _ rfl mixed (by decide +kernel) ?_ | (refine aw_cond rfl (fun hb => ?_) (fun hb => ?_) <;> (try exact no_ hb)) | refine aw_block ?_ | refine aw_exit ?_ | refine aw_ret ?_ | refine aw_skip ?_)
            exact ⟨i + 1, ⟨by omega, hall.trans hst⟩, by omega, fits_mk ⟨rfl, rfl, rfl, slot_int (wrap_eq (by omega) (by omega)), trivial⟩ [_] rfl ft_ ft_⟩
        · have q2 : decide (x.kind ≠ y) = true := by simp [hxy]
          have q4 : decide (x.kind = y) = false := by simp [hxy]
          rw [q4] at hst
          by_cases h0 : x.kind = 0
          · have q3 : decide (x.kind ≠ 0) = false := by simp [h0]
            have q5 : decide (x.kind = 0) = true := by simp [h0]
            rw [q5] at hst
            repeat' (first | refine st_nil ?_ | rw [hN] | rw [q2] | rw [q3] | (refine st_pop rfl rfl rfl rfl ?_ ?_; · exact ok_) | (refine st_idx rfl rfl rfl rfl rfl rfl rfl rfl hix ?_ ?_; · exact ⟨by omega, rfl⟩) | (refine st_idx rfl rfl rfl rfl rfl rfl rfl rfl hiy ?_ ?_; · exact ⟨by omega, rfl⟩) | (refine st_lop rfl rfl rfl rfl ?_ ?_; · exact ok_) | (refine st_store rfl rfl rfl ?_ ?_; · exact ok_) | (refine st_lit rfl rfl rfl rfl ?_ ?_; · exact ok_) | refine st_skip rfl rfl rfl ?_ | refine st_skip0 rfl rfl ?_ | refine st_call rfl rfl rfl rfl hv rfl ?_ | (refine st_if rfl (fun hb => ?_) (fun hb => ?_) <;> (first | exact no_ hb | rw [hb])) | refine aw_seq ?_ | refine aw_region tab_ok _ rfl ?_ | refine aw_drawn2 tabS_ok _ rfl mixed (by decide +kernel) ?_ | (refine aw_cond rfl (fun hb => ?_) (fun hb => ?_) <;> (try exact no_ hb)) | refine aw_block ?_ | refine aw_exit ?_ | refine aw_ret ?_ | refine aw_skip ?_)
            exact ⟨i + 1, ⟨by omega, hall.trans hst⟩, by omega, fits_mk ⟨rfl, rfl, rfl, slot_int (wrap_eq (by omega) (by omega)), trivial⟩ [_] rfl ft_ ft_⟩
          · have q3 : decide (x.kind ≠ 0) = true := by simp [h0]
            have q5 : decide (x.kind = 0) = false := by simp [h0]
            rw [q5] at hst
            repeat' (first | refine st_nil ?_ | rw [hN] | rw [q2] | rw [q3] | (refine st_pop rfl rfl rfl rfl ?_ ?_; · exact ok_) | (refine st_idx rfl rfl rfl rfl rfl rfl rfl rfl hix ?_ ?_; · exact ⟨by omega, rfl⟩) | (refine st_idx rfl rfl rfl rfl rfl rfl rfl rfl hiy ?_ ?_; · exact ⟨by omega, rfl⟩) | (refine st_lop rfl rfl rfl rfl ?_ ?_; · exact ok_) | (refine st_store rfl rfl rfl ?_ ?_; · exact ok_) | (refine st_lit rfl rfl rfl rfl ?_ ?_; · exact ok_) | refine st_skip rfl rfl rfl ?_ | refine st_skip0 rfl rfl ?_ | refine st_call rfl rfl rfl rfl hv rfl ?_ | (refine st_if rfl (fun hb => ?_) (fun hb => ?_) <;> (first | exact no_ hb | rw [hb])) | refine aw_seq ?_ | refine aw_region tab_ok _ rfl ?_ | refine aw_drawn2 tabS_ok _ rfl mixed (by decide +kernel) ?_ | (refine aw_cond rfl (fun hb => ?_) (fun hb => ?_) <;> (try exact no_ hb)) | refine aw_block ?_ | refine aw_exit ?_ | refine aw_ret ?_ | refine aw_skip ?_)
            exact end_ret (res_of rfl (by trivial) (vBool_eq (hall.trans hst).symm))
    · have hN : decide ((i : Int) < n) = false := by simp; omega
      rw [List.drop_of_length_le (by omega), List.drop_of_length_le (by omega)] at hall
      repeat' (first | refine st_nil ?_ | rw [hN] | (refine st_pop rfl rfl rfl rfl ?_ ?_; · exact ok_) | (refine st_lop rfl rfl rfl rfl ?_ ?_; · exact ok_) | (refine st_store rfl rfl rfl ?_ ?_; · exact ok_) | (refine st_lit rfl rfl rfl rfl ?_ ?_; · exact ok_) | refine st_skip rfl rfl rfl ?_ | refine st_skip0 rfl rfl ?_ | (refine st_if rfl (fun hb => ?_) (fun hb => ?_) <;> (first | exact no_ hb | rw [hb])) | refine aw_seq ?_ | refine aw_region tab_ok _ rfl ?_ | refine aw_drawn2 tabS_ok _ rfl mixed (by decide +kernel) ?_ | (refine aw_cond rfl (fun hb => ?_) (fun hb => ?_) <;> (try exact no_ hb)) | refine aw_block ?_ | refine aw_exit ?_ | refine aw_ret ?_ | refine aw_skip ?_)
      exact end_ret (res_of rfl (by trivial) (vBool_eq hall.symm))
  · have q1 : decide ((((row.map cV).length : Nat) : Int) ≠ ((kinds.map fun x => [AC.int .i64 x]).length : Nat)) = true := by rw [hml, hmb]; simp; omega
    have hF : fitsF row kinds = false := by unfold fitsF; simp [hle]
    rw [hF]
    repeat' (first | refine st_nil ?_ | rw [q1] | (refine st_pop rfl rfl rfl rfl ?_ ?_; · exact ok_) | (refine st_lop rfl rfl rfl rfl ?_ ?_; · exact ok_) | (refine st_store rfl rfl rfl ?_ ?_; · exact ok_) | (refine st_lit rfl rfl rfl rfl ?_ ?_; · exact ok_) | refine st_skip rfl rfl rfl ?_ | refine st_skip0 rfl rfl ?_ | (refine st_if rfl (fun hb => ?_) (fun hb => ?_) <;> (first | exact no_ hb | rw [hb])) | refine aw_seq ?_ | refine aw_region tab_ok _ rfl ?_ | refine aw_drawn2 tabS_ok _ rfl mixed (by decide +kernel) ?_ | (refine aw_cond rfl (fun hb => ?_) (fun hb => ?_) <;> (try exact no_ hb)) | refine aw_block ?_ | refine aw_exit ?_ | refine aw_ret ?_ | refine aw_skip ?_)
    exact end_ret (res_of rfl (by trivial) rfl)
theorem fitsR_pure (row : List Val) (kinds : List Int) (hl : kinds.length ≤ 1000000) : Pure Tryz.prog 86 [.one (tRow row), .one (tInts kinds)] (vBool (fitsF row kinds)) := by
  refine pure_of_aw tab_ok Tryz.func86 rfl rfl Tryz.ntmps86 (by simp) ?_
  simp only [argT, PV.av, List.map_cons, List.map_nil]
  have hml : (((row.map cV).length : Nat) : Int) = row.length := by simp
  have hmb : (((kinds.map fun x => [AC.int .i64 x]).length : Nat) : Int) = kinds.length := by simp
  by_cases hle : row.length = kinds.length
  · have q1 : decide ((((row.map cV).length : Nat) : Int) ≠ ((kinds.map fun x => [AC.int .i64 x]).length : Nat)) = false := by rw [hml, hmb]; simp; omega
    have hF : fitsF row kinds = fitsL row kinds := by unfold fitsF; simp [hle]
    rw [hF]
    obtain ⟨n, hn⟩ : ∃ n, row.length = n := ⟨_, rfl⟩
    rw [hn] at hml
    repeat' (first | refine st_nil ?_ | rw [q1] | (refine st_pop rfl rfl rfl rfl ?_ ?_; · exact ok_) | (refine st_lop rfl rfl rfl rfl ?_ ?_; · exact ok_) | (refine st_store rfl rfl rfl ?_ ?_; · exact ok_) | (refine st_lit rfl rfl rfl rfl ?_ ?_; · exact ok_) | refine st_skip rfl rfl rfl ?_ | refine st_skip0 rfl rfl ?_ | (refine st_if rfl (fun hb => ?_) (fun hb => ?_) <;> (first | exact no_ hb | rw [hb])) | refine aw_seq ?_ | refine aw_region tab_ok _ rfl ?_ | refine aw_drawn2 tabS_ok _ rfl mixed (by decide +kernel) ?_ | (refine aw_cond rfl (fun hb => ?_) (fun hb => ?_) <;> (try exact no_ hb)) | refine aw_block ?_ | refine aw_exit ?_ | refine aw_ret ?_ | refine aw_skip ?_)
    refine aw_loop (fun i : Nat => [(0, .one (.c (tRow row))), (1, .one (.c (tInts kinds))), (5, .one (.c (.int .i64 i)))]) (fun _ => []) (fun i => i ≤ n ∧ fitsL row kinds = fitsL (row.drop i) (kinds.drop i)) (fun i => n - i) 0 ⟨by omega, by simp⟩ (fun _ _ => Nat.zero_le _)
      (fits_mk ⟨rfl, rfl, rfl, trivial⟩ [] rfl ft_ ft_) ?_
    rintro i ⟨hi, hall⟩
    by_cases hlt : i < n
    · obtain ⟨x, hx⟩ := get_of_lt (show i < row.length by omega)
      obtain ⟨y, hy⟩ := get_of_lt (show i < kinds.length by omega)
      have hN : decide ((i : Int) < ((row.map cV).length : Nat)) = true := by rw [hml]; simp; exact hlt
      have hix : (row.map cV)[((i : Nat) : Int).toNat]? = some [.int .i64 x.kind, .int .i64 x.int, .str x.text] := idx_map hx
      have hiy : (kinds.map fun x => [AC.int .i64 x])[((i : Nat) : Int).toNat]? = some [.int .i64 y] := idx_map hy
      have hv := validR_any x
      have hst := fitsL_drop hx hy
      unfold okV at hst
      generalize vvalid x = vx at hv hst
      cases vx with
      | false =>
        repeat' (first | refine st_nil ?_ | rw [hN] | rw [q2] | rw [q3] | (refine st_pop rfl rfl rfl rfl ?_ ?_; · exact ok_) | (refine st_idx rfl rfl rfl rfl rfl rfl rfl rfl hix ?_ ?_; · exact ⟨by omega, rfl⟩) | (refine st_idx rfl rfl rfl rfl rfl rfl rfl rfl hiy ?_ ?_; · exact ⟨by omega, rfl⟩) | (refine st_lop rfl rfl rfl rfl ?_ ?_; · exact ok_) | (refine st_store rfl rfl rfl ?_ ?_; · exact ok_) | (refine st_lit rfl rfl rfl rfl ?_ ?_; · exact ok_) | refine st_skip rfl rfl rfl ?_ | refine st_skip0 rfl rfl ?_ | refine st_call rfl rfl rfl rfl hv rfl ?_ | (refine st_if rfl (fun hb => ?_) (fun hb => ?_) <;> (first | exact no_ hb | rw [hb])) | refine aw_seq ?_ | refine aw_region tab_ok _ rfl ?_ | refine aw_drawn2 tabS_ok _ rfl mixed (by decide +kernel) ?_ | (refine aw_cond rfl (fun hb => ?_) (fun hb => ?_) <;> (try exact no_ hb)) | refine aw_block ?_ | refine aw_exit ?_ | refine aw_ret ?_ | refine aw_skip ?_)
        exact end_ret (res_of rfl (by trivial) (vBool_eq (hall.trans hst).symm))
      | true =>
        by_cases hxy : x.kind = y
        · have q2 : decide (x.kind ≠ y) = false := by simp [hxy]
          have q4 : decide (x.kind = y) = true := by simp [hxy]
          rw [q4] at hst
          by_cases h0 : x.kind = 0
          · have q3 : decide (x.kind ≠ 0) = false := by simp [h0]
            repeat' (first | refine st_nil ?_ | rw [hN] | rw [q2] | rw [q3] | (refine st_pop rfl rfl rfl rfl ?_ ?_; · exact ok_) | (refine st_idx rfl rfl rfl rfl rfl rfl rfl rfl hix ?_ ?_; · exact ⟨by omega, rfl⟩) | (refine st_idx rfl rfl rfl rfl rfl rfl rfl rfl hiy ?_ ?_; · exact ⟨by omega, rfl⟩) | (refine st_lop rfl rfl rfl rfl ?_ ?_; · exact ok_) | (refine st_store rfl rfl rfl ?_ ?_; · exact ok_) | (refine st_lit rfl rfl rfl rfl ?_ ?_; · exact ok_) | refine st_skip rfl rfl rfl ?_ | refine st_skip0 rfl rfl ?_ | refine st_call rfl rfl rfl rfl hv rfl ?_ | (refine st_if rfl (fun hb => ?_) (fun hb => ?_) <;> (first | exact no_ hb | rw [hb])) | refine aw_seq ?_ | refine aw_region tab_ok _ rfl ?_ | refine aw_drawn2 tabS_ok _ rfl mixed (by decide +kernel) ?_ | (refine aw_cond rfl (fun hb => ?_) (fun hb => ?_) <;> (try exact no_ hb)) | refine aw_block ?_ | refine aw_exit ?_ | refine aw_ret ?_ | refine aw_skip ?_)
            exact ⟨i + 1, ⟨by omega, hall.trans hst⟩, by omega, fits_mk ⟨rfl, rfl, slot_int (wrap_eq (by omega) (by omega)), trivial⟩ [] rfl ft_ ft_⟩
          · have q3 : decide (x.kind ≠ 0) = true := by simp [h0]
            repeat' (first | refine st_nil ?_ | rw [hN] | rw [q2] | rw [q3] | (refine st_pop rfl rfl rfl rfl ?_ ?_; · exact ok_) | (refine st_idx rfl rfl rfl rfl rfl rfl rfl rfl hix ?_ ?_; · exact ⟨by omega, rfl⟩) | (refine st_idx rfl rfl rfl rfl rfl rfl rfl rfl hiy ?_ ?_; · exact ⟨by omega, rfl⟩) | (refine st_lop rfl rfl rfl rfl ?_ ?_; · exact ok_) | (refine st_store rfl rfl rfl ?_ ?_; · exact ok_) | (refine st_lit rfl rfl rfl rfl ?_ ?_; · exact ok_) | refine st_skip rfl rfl rfl ?_ | refine st_skip0 rfl rfl ?_ | refine st_call rfl rfl rfl rfl hv rfl ?_ | (refine st_if rfl (fun hb => ?_) (fun hb => ?_) <;> (first | exact no_ hb | rw [hb])) | refine aw_seq ?_ | refine aw_region tab_ok _ rfl ?_ | refine aw_drawn2 tabS_ok _ rfl mixed (by decide +kernel) ?_ | (refine aw_cond rfl (fun hb => ?_) (fun hb => ?_) <;> (try exact no_ hb)) | refine aw_block ?_ | refine aw_exit ?_ | refine aw_ret ?_ | refine aw_skip ?_)
            exact ⟨i + 1, ⟨by omega, hall.trans hst⟩, by omega, fits_mk ⟨rfl, rfl, slot_int (wrap_eq (by omega) (by omega)), trivial⟩ [] rfl ft_ ft_⟩
        · have q2 : decide (x.kind ≠ y) = true := by simp [hxy]
          have q4 : decide (x.kind = y) = false := by simp [hxy]
          rw [q4] at hst
          by_cases h0 : x.kind = 0
          · have q3 : decide (x.kind ≠ 0) = false := by simp [h0]
            have q5 : decide (x.kind = 0) = true := by simp [h0]
            rw [q5] at hst
            repeat' (first | refine st_nil ?_ | rw [hN] | rw [q2] | rw [q3] | (refine st_pop rfl rfl rfl rfl ?_ ?_; · exact ok_) | (refine st_idx rfl rfl rfl rfl rfl rfl rfl rfl hix ?_ ?_; · exact ⟨by omega, rfl⟩) | (refine st_idx rfl rfl rfl rfl rfl rfl rfl rfl hiy ?_ ?_; · exact ⟨by omega, rfl⟩) | (refine st_lop rfl rfl rfl rfl ?_ ?_; · exact ok_) | (refine st_store rfl rfl rfl ?_ ?_; · exact ok_) | (refine st_lit rfl rfl rfl rfl ?_ ?_; · exact ok_) | refine st_skip rfl rfl rfl ?_ | refine st_skip0 rfl rfl ?_ | refine st_call rfl rfl rfl rfl hv rfl ?_ | (refine st_if rfl (fun hb => ?_) (fun hb => ?_) <;> (first | exact no_ hb | rw [hb])) | refine aw_seq ?_ | refine aw_region tab_ok _ rfl ?_ | refine aw_drawn2 tabS_ok _ rfl mixed (by decide +kernel) ?_ | (refine aw_cond rfl (fun hb => ?_) (fun hb => ?_) <;> (try exact no_ hb)) | refine aw_block ?_ | refine aw_exit ?_ | refine aw_ret ?_ | refine aw_skip ?_)
            exact ⟨i + 1, ⟨by omega, hall.trans hst⟩, by omega, fits_mk ⟨rfl, rfl, slot_int (wrap_eq (by omega) (by omega)), trivial⟩ [] rfl ft_ ft_⟩
          · have q3 : decide (x.kind ≠ 0) = true := by simp [h0]
            have q5 : decide (x.kind = 0) = false := by simp [h0]
            rw [q5] at hst
            repeat' (first | refine st_nil ?_ | rw [hN] | rw [q2] | rw [q3] | (refine st_pop rfl rfl rfl rfl ?_ ?_; · exact ok_) | (refine st_idx rfl rfl rfl rfl rfl rfl rfl rfl hix ?_ ?_; · exact ⟨by omega, rfl⟩) | (refine st_idx rfl rfl rfl rfl rfl rfl rfl rfl hiy ?_ ?_; · exact ⟨by omega, rfl⟩) | (refine st_lop rfl rfl rfl rfl ?_ ?_; · exact ok_) | (refine st_store rfl rfl rfl ?_ ?_; · exact ok_) | (refine st_lit rfl rfl rfl rfl ?_ ?_; · exact ok_) | refine st_skip rfl rfl rfl ?_ | refine st_skip0 rfl rfl ?_ | refine st_call rfl rfl rfl rfl hv rfl ?_ | (refine st_if rfl (fun hb => ?_) (fun hb => ?_) <;> (first | exact no_ hb | rw [hb])) | refine aw_seq ?_ | refine aw_region tab_ok _ rfl ?_ | refine aw_drawn2 tabS_ok _ rfl mixed (by decide +kernel) ?_ | (refine aw_cond rfl (fun hb => ?_) (fun hb => ?_) <;> (try exact no_ hb)) | refine aw_block ?_ | refine aw_exit ?_ | refine aw_ret ?_ | refine aw_skip ?_)
            exact end_ret (res_of rfl (by trivial) (vBool_eq (hall.trans hst).symm))
    · have hN : decide ((i : Int) < ((row.map cV).length : Nat)) = false := by rw [hml]; simp; omega
      rw [List.drop_of_length_le (by omega), List.drop_of_length_le (by omega)] at hall
      repeat' (first | refine st_nil ?_ | rw [hN] | (refine st_pop rfl rfl rfl rfl ?_ ?_; · exact ok_) | (refine st_lop rfl rfl rfl rfl ?_ ?_; · exact ok_) | (refine st_store rfl rfl rfl ?_ ?_; · exact ok_) | (refine st_lit rfl rfl rfl rfl ?_ ?_; · exact ok_) | refine st_skip rfl rfl rfl ?_ | refine st_skip0 rfl rfl ?_ | (refine st_if rfl (fun hb => ?_) (fun hb => ?_) <;> (first | exact no_ hb | rw [hb])) | refine aw_seq ?_ | refine aw_region tab_ok _ rfl ?_ | refine aw_drawn2 tabS_ok _ rfl mixed (by decide +kernel) ?_ | (refine aw_cond rfl (fun hb => ?_) (fun hb => ?_) <;> (try exact no_ hb)) | refine aw_block ?_ | refine aw_exit ?_ | refine aw_ret ?_ | refine aw_skip ?_)
      exact end_ret (res_of rfl (by trivial) (vBool_eq hall.symm))
  · have q1 : decide ((((row.map cV).length : Nat) : Int) ≠ ((kinds.map fun x => [AC.int .i64 x]).length : Nat)) = true := by rw [hml, hmb]; simp; omega
    have hF : fitsF row kinds = false := by unfold fitsF; simp [hle]
    rw [hF]
    repeat' (first | refine st_nil ?_ | rw [q1] | (refine st_pop rfl rfl rfl rfl ?_ ?_; · exact ok_) | (refine st_lop rfl rfl rfl rfl ?_ ?_; · exact ok_) | (refine st_store rfl rfl rfl ?_ ?_; · exact ok_) | (refine st_lit rfl rfl rfl rfl ?_ ?_; · exact ok_) | refine st_skip rfl rfl rfl ?_ | refine st_skip0 rfl rfl ?_ | (refine st_if rfl (fun hb => ?_) (fun hb => ?_) <;> (first | exact no_ hb | rw [hb])) | refine aw_seq ?_ | refine aw_region tab_ok _ rfl ?_ | refine aw_drawn2 tabS_ok _ rfl mixed (by decide +kernel) ?_ | (refine aw_cond rfl (fun hb => ?_) (fun hb => ?_) <;> (try exact no_ hb)) | refine aw_block ?_ | refine aw_exit ?_ | refine aw_ret ?_ | refine aw_skip ?_)
    exact end_ret (res_of rfl (by trivial) rfl)
end Go.Proofs.YtfpbmfalamappaaGreatDoor

namespace Go.Proofs.YtfpbmfalamappaaGreatDoor
open Go.RowKit Go.MapKept
set_option maxRecDepth 100000
def valF (kinds : List Int) (rows : List (List Val)) : Int := bif decide ((4096 : Int) < (rows.length : Nat)) then 5 else bif !(basicF kinds) then 7 else bif rows.all (fun r => fitsF r kinds) then 0 else 8
def valRF (kinds : List Int) (rows : List (List Val)) : List Int × Int := bif decide (valF kinds rows = 0) then (kinds, 0) else ([], valF kinds rows)
theorem values_pure (op int : Int) (kinds : List Int) (rows : List (List Val)) (po pi : Int) (pv : Val) (pn : ByteArray) (pa : List Ex) (exprs : List Ex) (keys : List Int) (aggs : List Ag) (inputs : List Pl) (hk : kinds.length ≤ 100000) (hr : rows.length ≤ 100000) : Pure Tryz.prog 81 [.agg (tP (.mk op int kinds rows (.mk po pi pv pn pa) exprs keys aggs inputs))] (vInt (valF kinds rows)) := by
  rw [tP_mk]
  refine pure_of_aw tab_ok Tryz.func81 rfl rfl Tryz.ntmps81 (by simp) ?_
  simp only [argT, PV.av, List.map_cons, List.map_nil]
  have hml : (((rows.map fun r => [tRow r]).length : Nat) : Int) = rows.length := by simp
  have hbas := basic_pure kinds (by omega)
  have hF : valF kinds rows = bif decide ((4096 : Int) < (rows.length : Nat)) then 5 else bif !(basicF kinds) then 7 else bif rows.all (fun r => fitsF r kinds) then 0 else 8 := rfl
  by_cases h4 : (4096 : Int) < (rows.length : Nat)
  · have q1 : decide ((4096 : Int) < ((rows.map fun r => [tRow r]).length : Nat)) = true := by rw [hml]; simpa using h4
    have q1' : decide ((4096 : Int) < (rows.length : Nat)) = true := by simpa using h4
    rw [q1', cond_true] at hF
    repeat' (first | refine st_nil ?_ | rw [q1] | (refine st_pop rfl rfl rfl rfl ?_ ?_; · exact ok_) | (refine st_lop rfl rfl rfl rfl ?_ ?_; · exact ok_) | (refine st_store rfl rfl rfl ?_ ?_; · exact ok_) | (refine st_lit rfl rfl rfl rfl ?_ ?_; · exact ok_) | refine st_skip rfl rfl rfl ?_ | refine st_skip0 rfl rfl ?_ | (refine st_if rfl (fun hb => ?_) (fun hb => ?_) <;> (first | exact no_ hb | rw [hb])) | refine aw_seq ?_ | refine aw_region tab_ok _ rfl ?_ | refine aw_drawn2 tabS_ok _ rfl mixed (by decide +kernel) ?_ | (refine aw_cond rfl (fun hb => ?_) (fun hb => ?_) <;> (try exact no_ hb)) | refine aw_block ?_ | refine aw_exit ?_ | refine aw_ret ?_ | refine aw_skip ?_)
    exact end_ret (res_of rfl (by trivial) (vInt_eq hF.symm))
  · have q1 : decide ((4096 : Int) < ((rows.map fun r => [tRow r]).length : Nat)) = false := by rw [hml]; simpa using h4
    have q1' : decide ((4096 : Int) < (rows.length : Nat)) = false := by simpa using h4
    rw [q1', cond_false] at hF
    generalize basicF kinds = bb at hF hbas
    cases bb with
    | false =>
      repeat' (first | refine st_nil ?_ | rw [q1] | (refine st_pop rfl rfl rfl rfl ?_ ?_; · exact ok_) | (refine st_lop rfl rfl rfl rfl ?_ ?_; · exact ok_) | (refine st_store rfl rfl rfl ?_ ?_; · exact ok_) | (refine st_lit rfl rfl rfl rfl ?_ ?_; · exact ok_) | refine st_skip rfl rfl rfl ?_ | refine st_skip0 rfl rfl ?_ | refine st_call rfl rfl rfl rfl hbas rfl ?_ | (refine st_if rfl (fun hb => ?_) (fun hb => ?_) <;> (first | exact no_ hb | rw [hb])) | refine aw_seq ?_ | refine aw_region tab_ok _ rfl ?_ | refine aw_drawn2 tabS_ok _ rfl mixed (by decide +kernel) ?_ | (refine aw_cond rfl (fun hb => ?_) (fun hb => ?_) <;> (try exact no_ hb)) | refine aw_block ?_ | refine aw_exit ?_ | refine aw_ret ?_ | refine aw_skip ?_)
      exact end_ret (res_of rfl (by trivial) (vInt_eq hF.symm))
    | true =>
      obtain ⟨n, hn⟩ : ∃ n, rows.length = n := ⟨_, rfl⟩
      rw [hn] at hml
      repeat' (first | refine st_nil ?_ | rw [q1] | (refine st_pop rfl rfl rfl rfl ?_ ?_; · exact ok_) | (refine st_lop rfl rfl rfl rfl ?_ ?_; · exact ok_) | (refine st_store rfl rfl rfl ?_ ?_; · exact ok_) | (refine st_lit rfl rfl rfl rfl ?_ ?_; · exact ok_) | refine st_skip rfl rfl rfl ?_ | refine st_skip0 rfl rfl ?_ | refine st_call rfl rfl rfl rfl hbas rfl ?_ | (refine st_if rfl (fun hb => ?_) (fun hb => ?_) <;> (first | exact no_ hb | rw [hb])) | refine aw_seq ?_ | refine aw_region tab_ok _ rfl ?_ | refine aw_drawn2 tabS_ok _ rfl mixed (by decide +kernel) ?_ | (refine aw_cond rfl (fun hb => ?_) (fun hb => ?_) <;> (try exact no_ hb)) | refine aw_block ?_ | refine aw_exit ?_ | refine aw_ret ?_ | refine aw_skip ?_)
      refine aw_loop (fun i : Nat => [(1, .one (.ptr 0 0)), (14, .one (.c (tRows rows))), (15, .one (.c (.int .i64 n))), (16, .one (.c (.int .i64 i)))]) (fun _ => [.box [.c (.int .i64 op), .c (.int .i64 int), .c (tInts kinds), .c (tRows rows), .c (.int .i64 po), .c (.int .i64 pi), .c (.int .i64 pv.kind), .c (.int .i64 pv.int), .c (.str pv.text), .c (.str pn), .c (.lst (pa.map tE)), .c (.lst (exprs.map tE)), .c (tInts keys), .c (tAggs aggs), .c (.lst (inputs.map tP))]]) (fun i => i ≤ n ∧ (rows.take i).all (fun r => fitsF r kinds) = true) (fun i => n - i) 0 ⟨by omega, by simp⟩ (fun _ _ => Nat.zero_le _)
        (fits_mk ⟨rfl, rfl, slot_int hml, rfl, trivial⟩ [] rfl ⟨by show 0 < 1; omega, trivial, trivial, trivial, trivial⟩ ⟨box15_below, trivial⟩) ?_
      rintro i ⟨hi, hall⟩
      by_cases hlt : i < n
      · obtain ⟨x, hx⟩ := get_of_lt (show i < rows.length by omega)
        have hN : decide ((i : Int) < n) = true := by simp; exact hlt
        have hix : (rows.map fun r => [tRow r])[((i : Nat) : Int).toNat]? = some [tRow x] := idx_map hx
        have hf := fits_pure x kinds (by omega)
        have hs := @all_stop _ rows (fun r => fitsF r kinds) i x hx
        have hs2 := @all_next _ rows (fun r => fitsF r kinds) i x hx
        generalize fitsF x kinds = fx at hf hs hs2
        cases fx with
        | false =>
          rw [← hs rfl] at hF
          repeat' (first | refine st_nil ?_ | rw [hN] | (refine st_pop rfl rfl rfl rfl ?_ ?_; · exact ok_) | (refine st_idx rfl rfl rfl rfl rfl rfl rfl rfl hix ?_ ?_; · exact ⟨by omega, rfl⟩) | (refine st_lop rfl rfl rfl rfl ?_ ?_; · exact ok_) | (refine st_store rfl rfl rfl ?_ ?_; · exact ok_) | (refine st_lit rfl rfl rfl rfl ?_ ?_; · exact ok_) | refine st_skip rfl rfl rfl ?_ | refine st_skip0 rfl rfl ?_ | refine st_call rfl rfl rfl rfl hf rfl ?_ | (refine st_if rfl (fun hb => ?_) (fun hb => ?_) <;> (first | exact no_ hb | rw [hb])) | refine aw_seq ?_ | refine aw_region tab_ok _ rfl ?_ | refine aw_drawn2 tabS_ok _ rfl mixed (by decide +kernel) ?_ | (refine aw_cond rfl (fun hb => ?_) (fun hb => ?_) <;> (try exact no_ hb)) | refine aw_block ?_ | refine aw_exit ?_ | refine aw_ret ?_ | refine aw_skip ?_)
          exact end_ret (res_of rfl (by trivial) (vInt_eq hF.symm))
        | true =>
          repeat' (first | refine st_nil ?_ | rw [hN] | (refine st_pop rfl rfl rfl rfl ?_ ?_; · exact ok_) | (refine st_idx rfl rfl rfl rfl rfl rfl rfl rfl hix ?_ ?_; · exact ⟨by omega, rfl⟩) | (refine st_lop rfl rfl rfl rfl ?_ ?_; · exact ok_) | (refine st_store rfl rfl rfl ?_ ?_; · exact ok_) | (refine st_lit rfl rfl rfl rfl ?_ ?_; · exact ok_) | refine st_skip rfl rfl rfl ?_ | refine st_skip0 rfl rfl ?_ | refine st_call rfl rfl rfl rfl hf rfl ?_ | (refine st_if rfl (fun hb => ?_) (fun hb => ?_) <;> (first | exact no_ hb | rw [hb])) | refine aw_seq ?_ | refine aw_region tab_ok _ rfl ?_ | refine aw_drawn2 tabS_ok _ rfl mixed (by decide +kernel) ?_ | (refine aw_cond rfl (fun hb => ?_) (fun hb => ?_) <;> (try exact no_ hb)) | refine aw_block ?_ | refine aw_exit ?_ | refine aw_ret ?_ | refine aw_skip ?_)
          exact ⟨i + 1, ⟨by omega, hs2 rfl hall⟩, by omega, fits_mk ⟨rfl, rfl, rfl, slot_int (wrap_eq (by omega) (by omega)), trivial⟩ [] rfl ⟨by show 0 < 1; omega, trivial, trivial, trivial, trivial⟩ ⟨box15_below, trivial⟩⟩
      · have hN : decide ((i : Int) < n) = false := by simp; omega
        rw [List.take_of_length_le (by omega)] at hall
        rw [hall] at hF
        repeat' (first | refine st_nil ?_ | rw [hN] | (refine st_pop rfl rfl rfl rfl ?_ ?_; · exact ok_) | (refine st_lop rfl rfl rfl rfl ?_ ?_; · exact ok_) | (refine st_store rfl rfl rfl ?_ ?_; · exact ok_) | (refine st_lit rfl rfl rfl rfl ?_ ?_; · exact ok_) | refine st_skip rfl rfl rfl ?_ | refine st_skip0 rfl rfl ?_ | (refine st_if rfl (fun hb => ?_) (fun hb => ?_) <;> (first | exact no_ hb | rw [hb])) | refine aw_seq ?_ | refine aw_region tab_ok _ rfl ?_ | refine aw_drawn2 tabS_ok _ rfl mixed (by decide +kernel) ?_ | (refine aw_cond rfl (fun hb => ?_) (fun hb => ?_) <;> (try exact no_ hb)) | refine aw_block ?_ | refine aw_exit ?_ | refine aw_ret ?_ | refine aw_skip ?_)
        exact end_ret (res_of rfl (by trivial) (vInt_eq hF.symm))
theorem valuesR_pure (op int : Int) (kinds : List Int) (rows : List (List Val)) (po pi : Int) (pv : Val) (pn : ByteArray) (pa : List Ex) (exprs : List Ex) (keys : List Int) (aggs : List Ag) (inputs : List Pl) (hk : kinds.length ≤ 100000) (hr : rows.length ≤ 100000) : Pure Tryz.prog 124 [.agg (tP (.mk op int kinds rows (.mk po pi pv pn pa) exprs keys aggs inputs))] (vKE (valRF kinds rows)) := by
  rw [tP_mk]
  refine pure_of_aw tab_ok Tryz.func124 rfl rfl Tryz.ntmps124 (by simp) ?_
  simp only [argT, PV.av, List.map_cons, List.map_nil]
  have hml : (((rows.map fun r => [tRow r]).length : Nat) : Int) = rows.length := by simp
  have hbas := kinds_pure kinds (by omega)
  have hF : valF kinds rows = bif decide ((4096 : Int) < (rows.length : Nat)) then 5 else bif !(basicF kinds) then 7 else bif rows.all (fun r => fitsF r kinds) then 0 else 8 := rfl
  by_cases h4 : (4096 : Int) < (rows.length : Nat)
  · have q1 : decide ((4096 : Int) < ((rows.map fun r => [tRow r]).length : Nat)) = true := by rw [hml]; simpa using h4
    have q1' : decide ((4096 : Int) < (rows.length : Nat)) = true := by simpa using h4
    rw [q1', cond_true] at hF
    repeat' (first | refine st_nil ?_ | rw [q1] | (refine st_pop rfl rfl rfl rfl ?_ ?_; · exact ok_) | (refine st_lop rfl rfl rfl rfl ?_ ?_; · exact ok_) | (refine st_store rfl rfl rfl ?_ ?_; · exact ok_) | (refine st_lit rfl rfl rfl rfl ?_ ?_; · exact ok_) | refine st_skip rfl rfl rfl ?_ | refine st_skip0 rfl rfl ?_ | (refine st_if rfl (fun hb => ?_) (fun hb => ?_) <;> (first | exact no_ hb | rw [hb])) | refine aw_seq ?_ | refine aw_region tab_ok _ rfl ?_ | refine aw_drawn2 tabS_ok _ rfl mixed (by decide +kernel) ?_ | (refine aw_cond rfl (fun hb => ?_) (fun hb => ?_) <;> (try exact no_ hb)) | refine aw_block ?_ | refine aw_exit ?_ | refine aw_ret ?_ | refine aw_skip ?_)
    exact end_ret (res_of rfl ⟨trivial, trivial, trivial⟩ (by unfold valRF; rw [hF]; rfl))
  · have q1 : decide ((4096 : Int) < ((rows.map fun r => [tRow r]).length : Nat)) = false := by rw [hml]; simpa using h4
    have q1' : decide ((4096 : Int) < (rows.length : Nat)) = false := by simpa using h4
    rw [q1', cond_false] at hF
    generalize basicF kinds = bb at hF hbas
    cases bb with
    | false =>
      repeat' (first | refine st_nil ?_ | rw [q1] | (refine st_pop rfl rfl rfl rfl ?_ ?_; · exact ok_) | (refine st_lop rfl rfl rfl rfl ?_ ?_; · exact ok_) | (refine st_store rfl rfl rfl ?_ ?_; · exact ok_) | (refine st_lit rfl rfl rfl rfl ?_ ?_; · exact ok_) | refine st_skip rfl rfl rfl ?_ | refine st_skip0 rfl rfl ?_ | refine st_call rfl rfl rfl rfl hbas rfl ?_ | (refine st_if rfl (fun hb => ?_) (fun hb => ?_) <;> (first | exact no_ hb | rw [hb])) | refine aw_seq ?_ | refine aw_region tab_ok _ rfl ?_ | refine aw_drawn2 tabS_ok _ rfl mixed (by decide +kernel) ?_ | (refine aw_cond rfl (fun hb => ?_) (fun hb => ?_) <;> (try exact no_ hb)) | refine aw_block ?_ | refine aw_exit ?_ | refine aw_ret ?_ | refine aw_skip ?_)
      exact end_ret (res_of rfl ⟨trivial, trivial, trivial⟩ (by unfold valRF; rw [hF]; rfl))
    | true =>
      obtain ⟨n, hn⟩ : ∃ n, rows.length = n := ⟨_, rfl⟩
      rw [hn] at hml
      repeat' (first | refine st_nil ?_ | rw [q1] | (refine st_pop rfl rfl rfl rfl ?_ ?_; · exact ok_) | (refine st_lop rfl rfl rfl rfl ?_ ?_; · exact ok_) | (refine st_store rfl rfl rfl ?_ ?_; · exact ok_) | (refine st_lit rfl rfl rfl rfl ?_ ?_; · exact ok_) | refine st_skip rfl rfl rfl ?_ | refine st_skip0 rfl rfl ?_ | refine st_call rfl rfl rfl rfl hbas rfl ?_ | (refine st_if rfl (fun hb => ?_) (fun hb => ?_) <;> (first | exact no_ hb | rw [hb])) | refine aw_seq ?_ | refine aw_region tab_ok _ rfl ?_ | refine aw_drawn2 tabS_ok _ rfl mixed (by decide +kernel) ?_ | (refine aw_cond rfl (fun hb => ?_) (fun hb => ?_) <;> (try exact no_ hb)) | refine aw_block ?_ | refine aw_exit ?_ | refine aw_ret ?_ | refine aw_skip ?_)
      refine aw_loop (fun i : Nat => [(1, .one (.ptr 0 0)), (4, .one (.c (.int .i64 i)))]) (fun _ => [.box [.c (.int .i64 op), .c (.int .i64 int), .c (tInts kinds), .c (tRows rows), .c (.int .i64 po), .c (.int .i64 pi), .c (.int .i64 pv.kind), .c (.int .i64 pv.int), .c (.str pv.text), .c (.str pn), .c (.lst (pa.map tE)), .c (.lst (exprs.map tE)), .c (tInts keys), .c (tAggs aggs), .c (.lst (inputs.map tP))]]) (fun i => i ≤ n ∧ (rows.take i).all (fun r => fitsF r kinds) = true) (fun i => n - i) 0 ⟨by omega, by simp⟩ (fun _ _ => Nat.zero_le _)
        (fits_mk ⟨rfl, rfl, trivial⟩ [] rfl ⟨by show 0 < 1; omega, trivial, trivial⟩ ⟨box15_below, trivial⟩) ?_
      rintro i ⟨hi, hall⟩
      by_cases hlt : i < n
      · obtain ⟨x, hx⟩ := get_of_lt (show i < rows.length by omega)
        have hN : decide ((i : Int) < ((rows.map fun r => [tRow r]).length : Nat)) = true := by rw [hml]; simp; exact hlt
        have hix : (rows.map fun r => [tRow r])[((i : Nat) : Int).toNat]? = some [tRow x] := idx_map hx
        have hf := fitsR_pure x kinds (by omega)
        have hs := @all_stop _ rows (fun r => fitsF r kinds) i x hx
        have hs2 := @all_next _ rows (fun r => fitsF r kinds) i x hx
        generalize fitsF x kinds = fx at hf hs hs2
        cases fx with
        | false =>
          rw [← hs rfl] at hF
          repeat' (first | refine st_nil ?_ | rw [hN] | (refine st_pop rfl rfl rfl rfl ?_ ?_; · exact ok_) | (refine st_idx rfl rfl rfl rfl rfl rfl rfl rfl hix ?_ ?_; · exact ⟨by omega, rfl⟩) | (refine st_lop rfl rfl rfl rfl ?_ ?_; · exact ok_) | (refine st_store rfl rfl rfl ?_ ?_; · exact ok_) | (refine st_lit rfl rfl rfl rfl ?_ ?_; · exact ok_) | refine st_skip rfl rfl rfl ?_ | refine st_skip0 rfl rfl ?_ | refine st_call rfl rfl rfl rfl hf rfl ?_ | (refine st_if rfl (fun hb => ?_) (fun hb => ?_) <;> (first | exact no_ hb | rw [hb])) | refine aw_seq ?_ | refine aw_region tab_ok _ rfl ?_ | refine aw_drawn2 tabS_ok _ rfl mixed (by decide +kernel) ?_ | (refine aw_cond rfl (fun hb => ?_) (fun hb => ?_) <;> (try exact no_ hb)) | refine aw_block ?_ | refine aw_exit ?_ | refine aw_ret ?_ | refine aw_skip ?_)
          exact end_ret (res_of rfl ⟨trivial, trivial, trivial⟩ (by unfold valRF; rw [hF]; rfl))
        | true =>
          repeat' (first | refine st_nil ?_ | rw [hN] | (refine st_pop rfl rfl rfl rfl ?_ ?_; · exact ok_) | (refine st_idx rfl rfl rfl rfl rfl rfl rfl rfl hix ?_ ?_; · exact ⟨by omega, rfl⟩) | (refine st_lop rfl rfl rfl rfl ?_ ?_; · exact ok_) | (refine st_store rfl rfl rfl ?_ ?_; · exact ok_) | (refine st_lit rfl rfl rfl rfl ?_ ?_; · exact ok_) | refine st_skip rfl rfl rfl ?_ | refine st_skip0 rfl rfl ?_ | refine st_call rfl rfl rfl rfl hf rfl ?_ | (refine st_if rfl (fun hb => ?_) (fun hb => ?_) <;> (first | exact no_ hb | rw [hb])) | refine aw_seq ?_ | refine aw_region tab_ok _ rfl ?_ | refine aw_drawn2 tabS_ok _ rfl mixed (by decide +kernel) ?_ | (refine aw_cond rfl (fun hb => ?_) (fun hb => ?_) <;> (try exact no_ hb)) | refine aw_block ?_ | refine aw_exit ?_ | refine aw_ret ?_ | refine aw_skip ?_)
          exact ⟨i + 1, ⟨by omega, hs2 rfl hall⟩, by omega, fits_mk ⟨rfl, slot_int (wrap_eq (by omega) (by omega)), trivial⟩ [] rfl ⟨by show 0 < 1; omega, trivial, trivial⟩ ⟨box15_below, trivial⟩⟩
      · have hN : decide ((i : Int) < ((rows.map fun r => [tRow r]).length : Nat)) = false := by rw [hml]; simp; omega
        rw [List.take_of_length_le (by omega)] at hall
        rw [hall] at hF
        repeat' (first | refine st_nil ?_ | rw [hN] | (refine st_pop rfl rfl rfl rfl ?_ ?_; · exact ok_) | (refine st_lop rfl rfl rfl rfl ?_ ?_; · exact ok_) | (refine st_store rfl rfl rfl ?_ ?_; · exact ok_) | (refine st_lit rfl rfl rfl rfl ?_ ?_; · exact ok_) | refine st_skip rfl rfl rfl ?_ | refine st_skip0 rfl rfl ?_ | (refine st_if rfl (fun hb => ?_) (fun hb => ?_) <;> (first | exact no_ hb | rw [hb])) | refine aw_seq ?_ | refine aw_region tab_ok _ rfl ?_ | refine aw_drawn2 tabS_ok _ rfl mixed (by decide +kernel) ?_ | (refine aw_cond rfl (fun hb => ?_) (fun hb => ?_) <;> (try exact no_ hb)) | refine aw_block ?_ | refine aw_exit ?_ | refine aw_ret ?_ | refine aw_skip ?_)
        exact end_ret (res_of rfl ⟨trivial, trivial, trivial⟩ (by unfold valRF; rw [hF]; rfl))
end Go.Proofs.YtfpbmfalamappaaGreatDoor

namespace Go.Proofs.YtfpbmfalamappaaGreatDoor
open Go.RowKit Go.MapKept
set_option maxRecDepth 100000
def tInss (l : List (List Int)) : AC := .lst (l.map fun x => [tInts x])
def inN (inn : List (List Int)) (k : Int) : Bool := !(bif decide (k < 0) then true else decide ((inn.length : Int) ≤ k))
theorem inN_get {inn : List (List Int)} {k : Int} (h : inN inn k = true) : 0 ≤ k ∧ ∃ x, inn[k.toNat]? = some x := by
  unfold inN at h
  by_cases h0 : k < 0
  · simp [h0] at h
  · simp [h0] at h
    refine ⟨by omega, inn[k.toNat]'(by omega), List.getElem?_eq_getElem _⟩
def scanF (inn : List (List Int)) (int : Int) : List Int × Int := bif inN inn int then (bif basicF (inn.getD int.toNat []) then (inn.getD int.toNat [], 0) else ([], 7)) else ([], 6)
def opF (inn sub : List (List Int)) (op int : Int) (kinds : List Int) (rows : List (List Val)) (pred : Ex) (exprs : List Ex) (keys : List Int) (aggs : List Ag) : List Int × Int :=
  bif decide (op = 1) then scanF inn int else bif decide (op = 2) then (kinds, valF kinds rows) else bif decide (op = 3) then (sub.getD 0 [], predF (sub.getD 0 []) pred) else bif decide (op = 4) then projF (sub.getD 0 []) exprs []
  else bif decide (op = 11) then grpF (sub.getD 0 []) keys aggs else bif inL op [5, 6] then (sub.getD 0 [] ++ sub.getD 1 [], predF (sub.getD 0 [] ++ sub.getD 1 []) pred) else bif inL op [7, 8, 9] then (sub.getD 0 [], eqK (sub.getD 0 []) (sub.getD 1 [])) else (sub.getD 0 [], 0)
theorem operator_1 (inn : List (List Int)) (int : Int) (kinds : List Int) (rows : List (List Val)) (po pi : Int) (pv : Val) (pn : ByteArray) (pa : List Ex) (exprs : List Ex) (keys : List Int) (aggs : List Ag) (inputs : List Pl) (hxl : ∀ x ∈ inn, x.length ≤ 1000000) : Pure Tryz.prog 49 [.agg (tP (.mk 1 int kinds rows (.mk po pi pv pn pa) exprs keys aggs inputs)), .one (tInss inn), .one (tInss [])] (vKE (opF inn [] 1 int kinds rows (.mk po pi pv pn pa) exprs keys aggs)) := by
  rw [tP_mk]
  refine pure_of_aw tab_ok Tryz.func49 rfl rfl Tryz.ntmps49 (by simp) ?_
  simp only [argT, PV.av, List.map_cons, List.map_nil]
  have hml : (((inn.map fun x => [tInts x]).length : Nat) : Int) = inn.length := by simp
  cases hin : inN inn int with
  | true =>
    obtain ⟨h0, x, hx⟩ := inN_get hin
    have hF : scanF inn int = bif basicF x then (x, 0) else ([], 7) := by
      have hg : inn.getD int.toNat [] = x := by rw [List.getD_eq_getElem?_getD, hx]; rfl
      unfold scanF; rw [hin, hg]; rfl
    have q1 : decide (int < 0) = false := by simp; omega
    have q2 : decide ((((inn.map fun x => [tInts x]).length : Nat) : Int) ≤ int) = false := by rw [hml]; unfold inN at hin; rw [q1] at hin; simpa using hin
    have hix : (inn.map fun x => [tInts x])[int.toNat]? = some [tInts x] := by rw [List.getElem?_map, hx]; rfl
    have hb0 := basic_pure x (hxl x (List.mem_of_getElem? hx))
    generalize basicF x = bb at hF hb0
    cases bb with
    | true =>
      repeat' (first | refine st_nil ?_ | rw [q1] | rw [q2] | (refine st_pop rfl rfl rfl rfl ?_ ?_; · exact ok_) | (refine st_idx rfl rfl rfl rfl rfl rfl rfl rfl hix ?_ ?_; · exact ⟨by omega, rfl⟩) | (refine st_lop rfl rfl rfl rfl ?_ ?_; · exact ok_) | (refine st_store rfl rfl rfl ?_ ?_; · exact ok_) | (refine st_lit rfl rfl rfl rfl ?_ ?_; · exact ok_) | refine st_skip rfl rfl rfl ?_ | refine st_skip0 rfl rfl ?_ | refine st_call rfl rfl rfl rfl hb0 rfl ?_ | (refine st_if rfl (fun hb => ?_) (fun hb => ?_) <;> (first | exact no_ hb | rw [hb])) | refine aw_seq ?_ | refine aw_region tab_ok _ rfl ?_ | refine aw_drawn2 tabS_ok _ rfl mixed (by decide +kernel) ?_ | (refine aw_cond rfl (fun hb => ?_) (fun hb => ?_) <;> (try exact no_ hb)) | refine aw_block ?_ | refine aw_exit ?_ | refine aw_ret ?_ | refine aw_skip ?_)
      exact end_ret (res_of rfl ⟨trivial, trivial, trivial⟩ (vKE_eq (hF.symm)))
    | false =>
      repeat' (first | refine st_nil ?_ | rw [q1] | rw [q2] | (refine st_pop rfl rfl rfl rfl ?_ ?_; · exact ok_) | (refine st_idx rfl rfl rfl rfl rfl rfl rfl rfl hix ?_ ?_; · exact ⟨by omega, rfl⟩) | (refine st_lop rfl rfl rfl rfl ?_ ?_; · exact ok_) | (refine st_store rfl rfl rfl ?_ ?_; · exact ok_) | (refine st_lit rfl rfl rfl rfl ?_ ?_; · exact ok_) | refine st_skip rfl rfl rfl ?_ | refine st_skip0 rfl rfl ?_ | refine st_call rfl rfl rfl rfl hb0 rfl ?_ | (refine st_if rfl (fun hb => ?_) (fun hb => ?_) <;> (first | exact no_ hb | rw [hb])) | refine aw_seq ?_ | refine aw_region tab_ok _ rfl ?_ | refine aw_drawn2 tabS_ok _ rfl mixed (by decide +kernel) ?_ | (refine aw_cond rfl (fun hb => ?_) (fun hb => ?_) <;> (try exact no_ hb)) | refine aw_block ?_ | refine aw_exit ?_ | refine aw_ret ?_ | refine aw_skip ?_)
      exact end_ret (res_of rfl ⟨trivial, trivial, trivial⟩ (vKE_eq (hF.symm)))
  | false =>
    have hF : scanF inn int = ([], 6) := by unfold scanF; rw [hin]; rfl
    by_cases h0 : int < 0
    · have q1 : decide (int < 0) = true := by simp [h0]
      repeat' (first | refine st_nil ?_ | rw [q1] | rw [q2] | (refine st_pop rfl rfl rfl rfl ?_ ?_; · exact ok_) | (refine st_lop rfl rfl rfl rfl ?_ ?_; · exact ok_) | (refine st_store rfl rfl rfl ?_ ?_; · exact ok_) | (refine st_lit rfl rfl rfl rfl ?_ ?_; · exact ok_) | refine st_skip rfl rfl rfl ?_ | refine st_skip0 rfl rfl ?_ | (refine st_if rfl (fun hb => ?_) (fun hb => ?_) <;> (first | exact no_ hb | rw [hb])) | refine aw_seq ?_ | refine aw_region tab_ok _ rfl ?_ | refine aw_drawn2 tabS_ok _ rfl mixed (by decide +kernel) ?_ | (refine aw_cond rfl (fun hb => ?_) (fun hb => ?_) <;> (try exact no_ hb)) | refine aw_block ?_ | refine aw_exit ?_ | refine aw_ret ?_ | refine aw_skip ?_)
      exact end_ret (res_of rfl ⟨trivial, trivial, trivial⟩ (vKE_eq (hF.symm)))
    · have q1 : decide (int < 0) = false := by simp [h0]
      have q2 : decide ((((inn.map fun x => [tInts x]).length : Nat) : Int) ≤ int) = true := by rw [hml]; unfold inN at hin; rw [q1] at hin; simpa using hin
      repeat' (first | refine st_nil ?_ | rw [q1] | rw [q2] | (refine st_pop rfl rfl rfl rfl ?_ ?_; · exact ok_) | (refine st_lop rfl rfl rfl rfl ?_ ?_; · exact ok_) | (refine st_store rfl rfl rfl ?_ ?_; · exact ok_) | (refine st_lit rfl rfl rfl rfl ?_ ?_; · exact ok_) | refine st_skip rfl rfl rfl ?_ | refine st_skip0 rfl rfl ?_ | (refine st_if rfl (fun hb => ?_) (fun hb => ?_) <;> (first | exact no_ hb | rw [hb])) | refine aw_seq ?_ | refine aw_region tab_ok _ rfl ?_ | refine aw_drawn2 tabS_ok _ rfl mixed (by decide +kernel) ?_ | (refine aw_cond rfl (fun hb => ?_) (fun hb => ?_) <;> (try exact no_ hb)) | refine aw_block ?_ | refine aw_exit ?_ | refine aw_ret ?_ | refine aw_skip ?_)
      exact end_ret (res_of rfl ⟨trivial, trivial, trivial⟩ (vKE_eq (hF.symm)))
theorem operator_2 (inn : List (List Int)) (int : Int) (kinds : List Int) (rows : List (List Val)) (po pi : Int) (pv : Val) (pn : ByteArray) (pa : List Ex) (exprs : List Ex) (keys : List Int) (aggs : List Ag) (inputs : List Pl) (hk : kinds.length ≤ 100000) (hr : rows.length ≤ 100000) : Pure Tryz.prog 49 [.agg (tP (.mk 2 int kinds rows (.mk po pi pv pn pa) exprs keys aggs inputs)), .one (tInss inn), .one (tInss [])] (vKE (opF inn [] 2 int kinds rows (.mk po pi pv pn pa) exprs keys aggs)) := by
  rw [tP_mk]
  refine pure_of_aw tab_ok Tryz.func49 rfl rfl Tryz.ntmps49 (by simp) ?_
  simp only [argT, PV.av, List.map_cons, List.map_nil]
  have hv := values_pure 2 int kinds rows po pi pv pn pa exprs keys aggs inputs hk hr
  rw [tP_mk] at hv
  repeat' (first | refine st_nil ?_ | (refine st_pop rfl rfl rfl rfl ?_ ?_; · exact ok_) | (refine st_lop rfl rfl rfl rfl ?_ ?_; · exact ok_) | (refine st_store rfl rfl rfl ?_ ?_; · exact ok_) | (refine st_lit rfl rfl rfl rfl ?_ ?_; · exact ok_) | refine st_skip rfl rfl rfl ?_ | refine st_skip0 rfl rfl ?_ | refine st_call rfl rfl rfl rfl hv rfl ?_ | (refine st_if rfl (fun hb => ?_) (fun hb => ?_) <;> (first | exact no_ hb | rw [hb])) | refine aw_seq ?_ | refine aw_region tab_ok _ rfl ?_ | refine aw_drawn2 tabS_ok _ rfl mixed (by decide +kernel) ?_ | (refine aw_cond rfl (fun hb => ?_) (fun hb => ?_) <;> (try exact no_ hb)) | refine aw_block ?_ | refine aw_exit ?_ | refine aw_ret ?_ | refine aw_skip ?_)
  exact end_ret (res_of rfl ⟨trivial, trivial, trivial⟩ rfl)
theorem operator_3 (inn : List (List Int)) (int : Int) (kinds : List Int) (rows : List (List Val)) (po pi : Int) (pv : Val) (pn : ByteArray) (pa : List Ex) (exprs : List Ex) (keys : List Int) (aggs : List Ag) (inputs : List Pl) (a : List Int) (ha : a.length ≤ 100000) (hp : (Ex.mk po pi pv pn pa).Sm) : Pure Tryz.prog 49 [.agg (tP (.mk 3 int kinds rows (.mk po pi pv pn pa) exprs keys aggs inputs)), .one (tInss inn), .one (tInss [a])] (vKE (opF inn [a] 3 int kinds rows (.mk po pi pv pn pa) exprs keys aggs)) := by
  rw [tP_mk]
  refine pure_of_aw tab_ok Tryz.func49 rfl rfl Tryz.ntmps49 (by simp) ?_
  simp only [argT, PV.av, List.map_cons, List.map_nil]
  have hv := predicate_pure a ha hp
  rw [tE_mk] at hv
  repeat' (first | refine st_nil ?_ | (refine st_pop rfl rfl rfl rfl ?_ ?_; · exact ok_) | (refine st_lop rfl rfl rfl rfl ?_ ?_; · exact ok_) | (refine st_store rfl rfl rfl ?_ ?_; · exact ok_) | (refine st_lit rfl rfl rfl rfl ?_ ?_; · exact ok_) | refine st_skip rfl rfl rfl ?_ | refine st_skip0 rfl rfl ?_ | refine st_call rfl rfl rfl rfl hv rfl ?_ | (refine st_if rfl (fun hb => ?_) (fun hb => ?_) <;> (first | exact no_ hb | rw [hb])) | refine aw_seq ?_ | refine aw_region tab_ok _ rfl ?_ | refine aw_drawn2 tabS_ok _ rfl mixed (by decide +kernel) ?_ | (refine aw_cond rfl (fun hb => ?_) (fun hb => ?_) <;> (try exact no_ hb)) | refine aw_block ?_ | refine aw_exit ?_ | refine aw_ret ?_ | refine aw_skip ?_)
  exact end_ret (res_of rfl ⟨trivial, trivial, trivial⟩ rfl)
theorem operator_4 (inn : List (List Int)) (int : Int) (kinds : List Int) (rows : List (List Val)) (po pi : Int) (pv : Val) (pn : ByteArray) (pa : List Ex) (exprs : List Ex) (keys : List Int) (aggs : List Ag) (inputs : List Pl) (a : List Int) (ha : a.length ≤ 100000) (hx : exprs.length ≤ 100000) (hxs : ∀ e ∈ exprs, e.Sm) : Pure Tryz.prog 49 [.agg (tP (.mk 4 int kinds rows (.mk po pi pv pn pa) exprs keys aggs inputs)), .one (tInss inn), .one (tInss [a])] (vKE (opF inn [a] 4 int kinds rows (.mk po pi pv pn pa) exprs keys aggs)) := by
  rw [tP_mk]
  refine pure_of_aw tab_ok Tryz.func49 rfl rfl Tryz.ntmps49 (by simp) ?_
  simp only [argT, PV.av, List.map_cons, List.map_nil]
  have hv := projected_pure a ha exprs hx hxs
  have hF : opF inn [a] 4 int kinds rows (.mk po pi pv pn pa) exprs keys aggs = projF a exprs [] := rfl
  rw [hF]
  generalize projF a exprs [] = rr at hv
  obtain ⟨r1, r2⟩ := rr
  have hv' : Pure Tryz.prog 73 [.one (.lst (exprs.map tE)), .one (tInts a)] (.tup [.one (tInts r1), .one (.int .i64 r2)]) := hv
  repeat' (first | refine st_nil ?_ | (refine st_pop rfl rfl rfl rfl ?_ ?_; · exact ok_) | (refine st_lop rfl rfl rfl rfl ?_ ?_; · exact ok_) | (refine st_store rfl rfl rfl ?_ ?_; · exact ok_) | (refine st_lit rfl rfl rfl rfl ?_ ?_; · exact ok_) | refine st_skip rfl rfl rfl ?_ | refine st_skip0 rfl rfl ?_ | refine st_call rfl rfl rfl rfl hv' rfl ?_ | (refine st_if rfl (fun hb => ?_) (fun hb => ?_) <;> (first | exact no_ hb | rw [hb])) | refine aw_seq ?_ | refine aw_region tab_ok _ rfl ?_ | refine aw_drawn2 tabS_ok _ rfl mixed (by decide +kernel) ?_ | (refine aw_cond rfl (fun hb => ?_) (fun hb => ?_) <;> (try exact no_ hb)) | refine aw_block ?_ | refine aw_exit ?_ | refine aw_ret ?_ | refine aw_skip ?_)
  exact end_ret (res_of rfl ⟨trivial, trivial, trivial⟩ rfl)
theorem operator_11 (inn : List (List Int)) (int : Int) (kinds : List Int) (rows : List (List Val)) (po pi : Int) (pv : Val) (pn : ByteArray) (pa : List Ex) (exprs : List Ex) (keys : List Int) (aggs : List Ag) (inputs : List Pl) (a : List Int) (ha : a.length ≤ 100000) (hy : keys.length ≤ 100000) (hg : aggs.length ≤ 100000) : Pure Tryz.prog 49 [.agg (tP (.mk 11 int kinds rows (.mk po pi pv pn pa) exprs keys aggs inputs)), .one (tInss inn), .one (tInss [a])] (vKE (opF inn [a] 11 int kinds rows (.mk po pi pv pn pa) exprs keys aggs)) := by
  rw [tP_mk]
  refine pure_of_aw tab_ok Tryz.func49 rfl rfl Tryz.ntmps49 (by simp) ?_
  simp only [argT, PV.av, List.map_cons, List.map_nil]
  have hv := grouped_pure a keys aggs ha hy hg
  have hF : opF inn [a] 11 int kinds rows (.mk po pi pv pn pa) exprs keys aggs = grpF a keys aggs := rfl
  rw [hF]
  generalize grpF a keys aggs = rr at hv
  obtain ⟨r1, r2⟩ := rr
  have hv' : Pure Tryz.prog 57 [.one (tInts keys), .one (tAggs aggs), .one (tInts a)] (.tup [.one (tInts r1), .one (.int .i64 r2)]) := hv
  repeat' (first | refine st_nil ?_ | (refine st_pop rfl rfl rfl rfl ?_ ?_; · exact ok_) | (refine st_lop rfl rfl rfl rfl ?_ ?_; · exact ok_) | (refine st_store rfl rfl rfl ?_ ?_; · exact ok_) | (refine st_lit rfl rfl rfl rfl ?_ ?_; · exact ok_) | refine st_skip rfl rfl rfl ?_ | refine st_skip0 rfl rfl ?_ | refine st_call rfl rfl rfl rfl hv' rfl ?_ | (refine st_if rfl (fun hb => ?_) (fun hb => ?_) <;> (first | exact no_ hb | rw [hb])) | refine aw_seq ?_ | refine aw_region tab_ok _ rfl ?_ | refine aw_drawn2 tabS_ok _ rfl mixed (by decide +kernel) ?_ | (refine aw_cond rfl (fun hb => ?_) (fun hb => ?_) <;> (try exact no_ hb)) | refine aw_block ?_ | refine aw_exit ?_ | refine aw_ret ?_ | refine aw_skip ?_)
  exact end_ret (res_of rfl ⟨trivial, trivial, trivial⟩ rfl)
theorem operator_5 (inn : List (List Int)) (int : Int) (kinds : List Int) (rows : List (List Val)) (po pi : Int) (pv : Val) (pn : ByteArray) (pa : List Ex) (exprs : List Ex) (keys : List Int) (aggs : List Ag) (inputs : List Pl) (a b : List Int) (ha : a.length ≤ 50000) (hb0 : b.length ≤ 50000) (hp : (Ex.mk po pi pv pn pa).Sm) : Pure Tryz.prog 49 [.agg (tP (.mk 5 int kinds rows (.mk po pi pv pn pa) exprs keys aggs inputs)), .one (tInss inn), .one (tInss [a, b])] (vKE (opF inn [a, b] 5 int kinds rows (.mk po pi pv pn pa) exprs keys aggs)) := by
  rw [tP_mk]
  refine pure_of_aw tab_ok Tryz.func49 rfl rfl Tryz.ntmps49 (by simp) ?_
  simp only [argT, PV.av, List.map_cons, List.map_nil]
  have hv := predicate_pure (a ++ b) (by rw [List.length_append]; omega) hp
  rw [tE_mk, tInts, List.map_append] at hv
  have hF : opF inn [a, b] 5 int kinds rows (.mk po pi pv pn pa) exprs keys aggs = (a ++ b, predF (a ++ b) (.mk po pi pv pn pa)) := rfl
  rw [hF]
  repeat' (first | refine st_nil ?_ | (refine st_pop rfl rfl rfl rfl ?_ ?_; · (repeat' (first | exact trivial | rfl | exact Nat.le_of_ble_eq_true rfl | omega | exact ints_wide _ | (simp only [List.length_map]; omega) | (show (_ + _) * 8 ≤ _; simp only [List.length_map, List.length_append]; omega) | (show _ + _ ≤ _; simp only [List.length_map, List.length_append]; omega) | (simp only [List.length_map, List.length_append]; omega) | apply And.intro))) | (refine st_lop rfl rfl rfl rfl ?_ ?_; · (repeat' (first | exact trivial | rfl | exact Nat.le_of_ble_eq_true rfl | omega | exact ints_wide _ | (simp only [List.length_map]; omega) | (show (_ + _) * 8 ≤ _; simp only [List.length_map, List.length_append]; omega) | (show _ + _ ≤ _; simp only [List.length_map, List.length_append]; omega) | (simp only [List.length_map, List.length_append]; omega) | apply And.intro))) | (refine st_store rfl rfl rfl ?_ ?_; · (repeat' (first | exact trivial | rfl | exact Nat.le_of_ble_eq_true rfl | omega | exact ints_wide _ | (simp only [List.length_map]; omega) | (show (_ + _) * 8 ≤ _; simp only [List.length_map, List.length_append]; omega) | (show _ + _ ≤ _; simp only [List.length_map, List.length_append]; omega) | (simp only [List.length_map, List.length_append]; omega) | apply And.intro))) | (refine st_lit rfl rfl rfl rfl ?_ ?_; · (repeat' (first | exact trivial | rfl | exact Nat.le_of_ble_eq_true rfl | omega | exact ints_wide _ | (simp only [List.length_map]; omega) | (show (_ + _) * 8 ≤ _; simp only [List.length_map, List.length_append]; omega) | (show _ + _ ≤ _; simp only [List.length_map, List.length_append]; omega) | (simp only [List.length_map, List.length_append]; omega) | apply And.intro))) | refine st_skip rfl rfl rfl ?_ | refine st_skip0 rfl rfl ?_ | refine st_call rfl rfl rfl rfl hv rfl ?_ | (refine st_if rfl (fun hb => ?_) (fun hb => ?_) <;> (first | exact no_ hb | rw [hb])) | refine aw_seq ?_ | refine aw_region tab_ok _ rfl ?_ | refine aw_drawn2 tabS_ok _ rfl mixed (by decide +kernel) ?_ | (refine aw_cond rfl (fun hb => ?_) (fun hb => ?_) <;> (try exact no_ hb)) | refine aw_block ?_ | refine aw_exit ?_ | refine aw_ret ?_ | refine aw_skip ?_)
  exact end_ret (res_of rfl ⟨trivial, trivial, trivial⟩ (by simp only [vKE, tInts, List.map_append]; rfl))
theorem operator_6 (inn : List (List Int)) (int : Int) (kinds : List Int) (rows : List (List Val)) (po pi : Int) (pv : Val) (pn : ByteArray) (pa : List Ex) (exprs : List Ex) (keys : List Int) (aggs : List Ag) (inputs : List Pl) (a b : List Int) (ha : a.length ≤ 50000) (hb0 : b.length ≤ 50000) (hp : (Ex.mk po pi pv pn pa).Sm) : Pure Tryz.prog 49 [.agg (tP (.mk 6 int kinds rows (.mk po pi pv pn pa) exprs keys aggs inputs)), .one (tInss inn), .one (tInss [a, b])] (vKE (opF inn [a, b] 6 int kinds rows (.mk po pi pv pn pa) exprs keys aggs)) := by
  rw [tP_mk]
  refine pure_of_aw tab_ok Tryz.func49 rfl rfl Tryz.ntmps49 (by simp) ?_
  simp only [argT, PV.av, List.map_cons, List.map_nil]
  have hv := predicate_pure (a ++ b) (by rw [List.length_append]; omega) hp
  rw [tE_mk, tInts, List.map_append] at hv
  have hF : opF inn [a, b] 6 int kinds rows (.mk po pi pv pn pa) exprs keys aggs = (a ++ b, predF (a ++ b) (.mk po pi pv pn pa)) := rfl
  rw [hF]
  repeat' (first | refine st_nil ?_ | (refine st_pop rfl rfl rfl rfl ?_ ?_; · (repeat' (first | exact trivial | rfl | exact Nat.le_of_ble_eq_true rfl | omega | exact ints_wide _ | (simp only [List.length_map]; omega) | (show (_ + _) * 8 ≤ _; simp only [List.length_map, List.length_append]; omega) | (show _ + _ ≤ _; simp only [List.length_map, List.length_append]; omega) | (simp only [List.length_map, List.length_append]; omega) | apply And.intro))) | (refine st_lop rfl rfl rfl rfl ?_ ?_; · (repeat' (first | exact trivial | rfl | exact Nat.le_of_ble_eq_true rfl | omega | exact ints_wide _ | (simp only [List.length_map]; omega) | (show (_ + _) * 8 ≤ _; simp only [List.length_map, List.length_append]; omega) | (show _ + _ ≤ _; simp only [List.length_map, List.length_append]; omega) | (simp only [List.length_map, List.length_append]; omega) | apply And.intro))) | (refine st_store rfl rfl rfl ?_ ?_; · (repeat' (first | exact trivial | rfl | exact Nat.le_of_ble_eq_true rfl | omega | exact ints_wide _ | (simp only [List.length_map]; omega) | (show (_ + _) * 8 ≤ _; simp only [List.length_map, List.length_append]; omega) | (show _ + _ ≤ _; simp only [List.length_map, List.length_append]; omega) | (simp only [List.length_map, List.length_append]; omega) | apply And.intro))) | (refine st_lit rfl rfl rfl rfl ?_ ?_; · (repeat' (first | exact trivial | rfl | exact Nat.le_of_ble_eq_true rfl | omega | exact ints_wide _ | (simp only [List.length_map]; omega) | (show (_ + _) * 8 ≤ _; simp only [List.length_map, List.length_append]; omega) | (show _ + _ ≤ _; simp only [List.length_map, List.length_append]; omega) | (simp only [List.length_map, List.length_append]; omega) | apply And.intro))) | refine st_skip rfl rfl rfl ?_ | refine st_skip0 rfl rfl ?_ | refine st_call rfl rfl rfl rfl hv rfl ?_ | (refine st_if rfl (fun hb => ?_) (fun hb => ?_) <;> (first | exact no_ hb | rw [hb])) | refine aw_seq ?_ | refine aw_region tab_ok _ rfl ?_ | refine aw_drawn2 tabS_ok _ rfl mixed (by decide +kernel) ?_ | (refine aw_cond rfl (fun hb => ?_) (fun hb => ?_) <;> (try exact no_ hb)) | refine aw_block ?_ | refine aw_exit ?_ | refine aw_ret ?_ | refine aw_skip ?_)
  exact end_ret (res_of rfl ⟨trivial, trivial, trivial⟩ (by simp only [vKE, tInts, List.map_append]; rfl))
theorem operator_7 (inn : List (List Int)) (int : Int) (kinds : List Int) (rows : List (List Val)) (po pi : Int) (pv : Val) (pn : ByteArray) (pa : List Ex) (exprs : List Ex) (keys : List Int) (aggs : List Ag) (inputs : List Pl) (a b : List Int) (ha : a.length ≤ 100000) : Pure Tryz.prog 49 [.agg (tP (.mk 7 int kinds rows (.mk po pi pv pn pa) exprs keys aggs inputs)), .one (tInss inn), .one (tInss [a, b])] (vKE (opF inn [a, b] 7 int kinds rows (.mk po pi pv pn pa) exprs keys aggs)) := by
  rw [tP_mk]
  refine pure_of_aw tab_ok Tryz.func49 rfl rfl Tryz.ntmps49 (by simp) ?_
  simp only [argT, PV.av, List.map_cons, List.map_nil]
  have hv := equal_pure a b (by omega)
  repeat' (first | refine st_nil ?_ | (refine st_pop rfl rfl rfl rfl ?_ ?_; · exact ok_) | (refine st_lop rfl rfl rfl rfl ?_ ?_; · exact ok_) | (refine st_store rfl rfl rfl ?_ ?_; · exact ok_) | (refine st_lit rfl rfl rfl rfl ?_ ?_; · exact ok_) | refine st_skip rfl rfl rfl ?_ | refine st_skip0 rfl rfl ?_ | refine st_call rfl rfl rfl rfl hv rfl ?_ | (refine st_if rfl (fun hb => ?_) (fun hb => ?_) <;> (first | exact no_ hb | rw [hb])) | refine aw_seq ?_ | refine aw_region tab_ok _ rfl ?_ | refine aw_drawn2 tabS_ok _ rfl mixed (by decide +kernel) ?_ | (refine aw_cond rfl (fun hb => ?_) (fun hb => ?_) <;> (try exact no_ hb)) | refine aw_block ?_ | refine aw_exit ?_ | refine aw_ret ?_ | refine aw_skip ?_)
  exact end_ret (res_of rfl ⟨trivial, trivial, trivial⟩ rfl)
theorem operator_8 (inn : List (List Int)) (int : Int) (kinds : List Int) (rows : List (List Val)) (po pi : Int) (pv : Val) (pn : ByteArray) (pa : List Ex) (exprs : List Ex) (keys : List Int) (aggs : List Ag) (inputs : List Pl) (a b : List Int) (ha : a.length ≤ 100000) : Pure Tryz.prog 49 [.agg (tP (.mk 8 int kinds rows (.mk po pi pv pn pa) exprs keys aggs inputs)), .one (tInss inn), .one (tInss [a, b])] (vKE (opF inn [a, b] 8 int kinds rows (.mk po pi pv pn pa) exprs keys aggs)) := by
  rw [tP_mk]
  refine pure_of_aw tab_ok Tryz.func49 rfl rfl Tryz.ntmps49 (by simp) ?_
  simp only [argT, PV.av, List.map_cons, List.map_nil]
  have hv := equal_pure a b (by omega)
  repeat' (first | refine st_nil ?_ | (refine st_pop rfl rfl rfl rfl ?_ ?_; · exact ok_) | (refine st_lop rfl rfl rfl rfl ?_ ?_; · exact ok_) | (refine st_store rfl rfl rfl ?_ ?_; · exact ok_) | (refine st_lit rfl rfl rfl rfl ?_ ?_; · exact ok_) | refine st_skip rfl rfl rfl ?_ | refine st_skip0 rfl rfl ?_ | refine st_call rfl rfl rfl rfl hv rfl ?_ | (refine st_if rfl (fun hb => ?_) (fun hb => ?_) <;> (first | exact no_ hb | rw [hb])) | refine aw_seq ?_ | refine aw_region tab_ok _ rfl ?_ | refine aw_drawn2 tabS_ok _ rfl mixed (by decide +kernel) ?_ | (refine aw_cond rfl (fun hb => ?_) (fun hb => ?_) <;> (try exact no_ hb)) | refine aw_block ?_ | refine aw_exit ?_ | refine aw_ret ?_ | refine aw_skip ?_)
  exact end_ret (res_of rfl ⟨trivial, trivial, trivial⟩ rfl)
theorem operator_9 (inn : List (List Int)) (int : Int) (kinds : List Int) (rows : List (List Val)) (po pi : Int) (pv : Val) (pn : ByteArray) (pa : List Ex) (exprs : List Ex) (keys : List Int) (aggs : List Ag) (inputs : List Pl) (a b : List Int) (ha : a.length ≤ 100000) : Pure Tryz.prog 49 [.agg (tP (.mk 9 int kinds rows (.mk po pi pv pn pa) exprs keys aggs inputs)), .one (tInss inn), .one (tInss [a, b])] (vKE (opF inn [a, b] 9 int kinds rows (.mk po pi pv pn pa) exprs keys aggs)) := by
  rw [tP_mk]
  refine pure_of_aw tab_ok Tryz.func49 rfl rfl Tryz.ntmps49 (by simp) ?_
  simp only [argT, PV.av, List.map_cons, List.map_nil]
  have hv := equal_pure a b (by omega)
  repeat' (first | refine st_nil ?_ | (refine st_pop rfl rfl rfl rfl ?_ ?_; · exact ok_) | (refine st_lop rfl rfl rfl rfl ?_ ?_; · exact ok_) | (refine st_store rfl rfl rfl ?_ ?_; · exact ok_) | (refine st_lit rfl rfl rfl rfl ?_ ?_; · exact ok_) | refine st_skip rfl rfl rfl ?_ | refine st_skip0 rfl rfl ?_ | refine st_call rfl rfl rfl rfl hv rfl ?_ | (refine st_if rfl (fun hb => ?_) (fun hb => ?_) <;> (first | exact no_ hb | rw [hb])) | refine aw_seq ?_ | refine aw_region tab_ok _ rfl ?_ | refine aw_drawn2 tabS_ok _ rfl mixed (by decide +kernel) ?_ | (refine aw_cond rfl (fun hb => ?_) (fun hb => ?_) <;> (try exact no_ hb)) | refine aw_block ?_ | refine aw_exit ?_ | refine aw_ret ?_ | refine aw_skip ?_)
  exact end_ret (res_of rfl ⟨trivial, trivial, trivial⟩ rfl)
theorem operator_10 (inn : List (List Int)) (int : Int) (kinds : List Int) (rows : List (List Val)) (po pi : Int) (pv : Val) (pn : ByteArray) (pa : List Ex) (exprs : List Ex) (keys : List Int) (aggs : List Ag) (inputs : List Pl) (a : List Int) : Pure Tryz.prog 49 [.agg (tP (.mk 10 int kinds rows (.mk po pi pv pn pa) exprs keys aggs inputs)), .one (tInss inn), .one (tInss [a])] (vKE (opF inn [a] 10 int kinds rows (.mk po pi pv pn pa) exprs keys aggs)) := by
  rw [tP_mk]
  refine pure_of_aw tab_ok Tryz.func49 rfl rfl Tryz.ntmps49 (by simp) ?_
  simp only [argT, PV.av, List.map_cons, List.map_nil]
  repeat' (first | refine st_nil ?_ | (refine st_pop rfl rfl rfl rfl ?_ ?_; · exact ok_) | (refine st_lop rfl rfl rfl rfl ?_ ?_; · exact ok_) | (refine st_store rfl rfl rfl ?_ ?_; · exact ok_) | (refine st_lit rfl rfl rfl rfl ?_ ?_; · exact ok_) | refine st_skip rfl rfl rfl ?_ | refine st_skip0 rfl rfl ?_ | (refine st_if rfl (fun hb => ?_) (fun hb => ?_) <;> (first | exact no_ hb | rw [hb])) | refine aw_seq ?_ | refine aw_region tab_ok _ rfl ?_ | refine aw_drawn2 tabS_ok _ rfl mixed (by decide +kernel) ?_ | (refine aw_cond rfl (fun hb => ?_) (fun hb => ?_) <;> (try exact no_ hb)) | refine aw_block ?_ | refine aw_exit ?_ | refine aw_ret ?_ | refine aw_skip ?_)
  exact end_ret (res_of rfl ⟨trivial, trivial, trivial⟩ rfl)
end Go.Proofs.YtfpbmfalamappaaGreatDoor

namespace Go.Proofs.YtfpbmfalamappaaGreatDoor
open Go.RowKit Go.MapKept
set_option maxRecDepth 100000
def okK (k x : Int) : Bool := !(bif decide (x ≠ k) then decide (x ≠ 0) else false)
def allRF (l : List Int) (k : Int) : Bool := l.all (okK k)
theorem allR_pure (l : List Int) (k : Int) (hl : l.length ≤ 1000000) : Pure Tryz.prog 178 [.one (tInts l), .one (.int .i64 k)] (vBool (allRF l k)) := by
  refine pure_of_aw tab_ok Tryz.func178 rfl rfl Tryz.ntmps178 (by simp) ?_
  simp only [argT, PV.av, List.map_cons, List.map_nil]
  obtain ⟨n, hn⟩ : ∃ n, l.length = n := ⟨_, rfl⟩
  have hml : (((l.map fun x => [AC.int .i64 x]).length : Nat) : Int) = n := by simp [hn]
  have fin : ∀ {T : Tm} {L : List Ob} {w : Bool}, w = allRF l k → Res tab Tryz.f178.results.toList T L (vBool w) → Res tab Tryz.f178.results.toList T L (vBool (allRF l k)) := fun e h => by rw [← e]; exact h
  repeat' (first | refine st_nil ?_ | (refine st_pop rfl rfl rfl rfl ?_ ?_; · exact ok_) | (refine st_lop rfl rfl rfl rfl ?_ ?_; · exact ok_) | (refine st_store rfl rfl rfl ?_ ?_; · exact ok_) | (refine st_lit rfl rfl rfl rfl ?_ ?_; · exact ok_) | refine st_skip rfl rfl rfl ?_ | refine st_skip0 rfl rfl ?_ | (refine st_if rfl (fun hb => ?_) (fun hb => ?_) <;> (first | exact no_ hb | rw [hb])) | refine aw_seq ?_ | refine aw_region tab_ok _ rfl ?_ | refine aw_drawn2 tabS_ok _ rfl mixed (by decide +kernel) ?_ | (refine aw_cond rfl (fun hb => ?_) (fun hb => ?_) <;> (try exact no_ hb)) | refine aw_block ?_ | refine aw_exit ?_ | refine aw_ret ?_ | refine aw_skip ?_)
  refine aw_loop (fun i : Nat => [(0, .one (.c (tInts l))), (1, .one (.c (.int .i64 k))), (5, .one (.c (.int .i64 i)))]) (fun _ => []) (fun i => i ≤ n ∧ (l.take i).all (okK k) = true) (fun i => n - i) 0 ⟨by omega, rfl⟩ (fun _ _ => Nat.zero_le _)
    (fits_mk ⟨rfl, rfl, rfl, trivial⟩ [] rfl ft_ ft_) ?_
  rintro i ⟨hi, hr⟩
  by_cases hlt : i < n
  · obtain ⟨x, hx⟩ := get_of_lt (show i < l.length by omega)
    have hN : decide ((i : Int) < ((l.map fun x => [AC.int .i64 x]).length : Nat)) = true := by rw [hml]; simp; exact hlt
    have hix : (l.map fun x => [AC.int .i64 x])[((i : Nat) : Int).toNat]? = some [.int .i64 x] := idx_map hx
    by_cases h0 : x = k
    · have q0 : decide (x ≠ k) = false := by simp [h0]
      have hok : okK k x = true := by unfold okK; rw [q0]; rfl
      repeat' (first | refine st_nil ?_ | rw [hN] | rw [q0] | (refine st_pop rfl rfl rfl rfl ?_ ?_; · exact ok_) | (refine st_idx rfl rfl rfl rfl rfl rfl rfl rfl hix ?_ ?_; · exact ⟨by omega, rfl⟩) | (refine st_lop rfl rfl rfl rfl ?_ ?_; · exact ok_) | (refine st_store rfl rfl rfl ?_ ?_; · exact ok_) | (refine st_lit rfl rfl rfl rfl ?_ ?_; · exact ok_) | refine st_skip rfl rfl rfl ?_ | refine st_skip0 rfl rfl ?_ | (refine st_if rfl (fun hb => ?_) (fun hb => ?_) <;> (first | exact no_ hb | rw [hb])) | refine aw_seq ?_ | refine aw_region tab_ok _ rfl ?_ | refine aw_drawn2 tabS_ok _ rfl mixed (by decide +kernel) ?_ | (refine aw_cond rfl (fun hb => ?_) (fun hb => ?_) <;> (try exact no_ hb)) | refine aw_block ?_ | refine aw_exit ?_ | refine aw_ret ?_ | refine aw_skip ?_)
      exact ⟨i + 1, ⟨by show i + 1 ≤ n; omega, all_next hx hok hr⟩, by show n - (i + 1) < n - i; omega, fits_mk ⟨rfl, rfl, slot_int (wrap_eq (by omega) (by omega)), trivial⟩ [] rfl ft_ ft_⟩
    · have q0 : decide (x ≠ k) = true := by simp [h0]
      by_cases h1 : x = 0
      · have q1 : decide (x ≠ 0) = false := by simp [h1]
        have hok : okK k x = true := by unfold okK; rw [q0, q1]; rfl
        repeat' (first | refine st_nil ?_ | rw [hN] | rw [q0] | rw [q1] | (refine st_pop rfl rfl rfl rfl ?_ ?_; · exact ok_) | (refine st_idx rfl rfl rfl rfl rfl rfl rfl rfl hix ?_ ?_; · exact ⟨by omega, rfl⟩) | (refine st_lop rfl rfl rfl rfl ?_ ?_; · exact ok_) | (refine st_store rfl rfl rfl ?_ ?_; · exact ok_) | (refine st_lit rfl rfl rfl rfl ?_ ?_; · exact ok_) | refine st_skip rfl rfl rfl ?_ | refine st_skip0 rfl rfl ?_ | (refine st_if rfl (fun hb => ?_) (fun hb => ?_) <;> (first | exact no_ hb | rw [hb])) | refine aw_seq ?_ | refine aw_region tab_ok _ rfl ?_ | refine aw_drawn2 tabS_ok _ rfl mixed (by decide +kernel) ?_ | (refine aw_cond rfl (fun hb => ?_) (fun hb => ?_) <;> (try exact no_ hb)) | refine aw_block ?_ | refine aw_exit ?_ | refine aw_ret ?_ | refine aw_skip ?_)
        exact ⟨i + 1, ⟨by show i + 1 ≤ n; omega, all_next hx hok hr⟩, by show n - (i + 1) < n - i; omega, fits_mk ⟨rfl, rfl, slot_int (wrap_eq (by omega) (by omega)), trivial⟩ [] rfl ft_ ft_⟩
      · have q1 : decide (x ≠ 0) = true := by simp [h1]
        have hok : okK k x = false := by unfold okK; rw [q0, q1]; rfl
        repeat' (first | refine st_nil ?_ | rw [hN] | rw [q0] | rw [q1] | (refine st_pop rfl rfl rfl rfl ?_ ?_; · exact ok_) | (refine st_idx rfl rfl rfl rfl rfl rfl rfl rfl hix ?_ ?_; · exact ⟨by omega, rfl⟩) | (refine st_lop rfl rfl rfl rfl ?_ ?_; · exact ok_) | (refine st_store rfl rfl rfl ?_ ?_; · exact ok_) | (refine st_lit rfl rfl rfl rfl ?_ ?_; · exact ok_) | refine st_skip rfl rfl rfl ?_ | refine st_skip0 rfl rfl ?_ | (refine st_if rfl (fun hb => ?_) (fun hb => ?_) <;> (first | exact no_ hb | rw [hb])) | refine aw_seq ?_ | refine aw_region tab_ok _ rfl ?_ | refine aw_drawn2 tabS_ok _ rfl mixed (by decide +kernel) ?_ | (refine aw_cond rfl (fun hb => ?_) (fun hb => ?_) <;> (try exact no_ hb)) | refine aw_block ?_ | refine aw_exit ?_ | refine aw_ret ?_ | refine aw_skip ?_)
        exact end_ret (fin (w := false) (all_stop hx hok) (res_of rfl (by trivial) rfl))
  · have hN : decide ((i : Int) < ((l.map fun x => [AC.int .i64 x]).length : Nat)) = false := by rw [hml]; simp; omega
    rw [List.take_of_length_le (by omega)] at hr
    repeat' (first | refine st_nil ?_ | rw [hN] | (refine st_pop rfl rfl rfl rfl ?_ ?_; · exact ok_) | (refine st_lop rfl rfl rfl rfl ?_ ?_; · exact ok_) | (refine st_store rfl rfl rfl ?_ ?_; · exact ok_) | (refine st_lit rfl rfl rfl rfl ?_ ?_; · exact ok_) | refine st_skip rfl rfl rfl ?_ | refine st_skip0 rfl rfl ?_ | (refine st_if rfl (fun hb => ?_) (fun hb => ?_) <;> (first | exact no_ hb | rw [hb])) | refine aw_seq ?_ | refine aw_region tab_ok _ rfl ?_ | refine aw_drawn2 tabS_ok _ rfl mixed (by decide +kernel) ?_ | (refine aw_cond rfl (fun hb => ?_) (fun hb => ?_) <;> (try exact no_ hb)) | refine aw_block ?_ | refine aw_exit ?_ | refine aw_ret ?_ | refine aw_skip ?_)
    exact end_ret (fin (w := true) hr.symm (res_of rfl (by trivial) rfl))
theorem joinR_pure (l : List Int) (hl : l.length ≤ 1000000) : Pure Tryz.prog 179 [.one (tInts l)] (vIB (uniteF l 0)) := by
  refine pure_of_aw tab_ok Tryz.func179 rfl rfl Tryz.ntmps179 (by simp) ?_
  simp only [argT, PV.av, List.map_cons, List.map_nil]
  obtain ⟨n, hn⟩ : ∃ n, l.length = n := ⟨_, rfl⟩
  have hml : (((l.map fun x => [AC.int .i64 x]).length : Nat) : Int) = n := by simp [hn]
  have fin : ∀ {T : Tm} {L : List Ob} {w : Int × Bool}, w = uniteF l 0 → Res tab Tryz.f179.results.toList T L (vIB w) → Res tab Tryz.f179.results.toList T L (vIB (uniteF l 0)) := fun e h => by rw [← e]; exact h
  repeat' (first | refine st_nil ?_ | (refine st_pop rfl rfl rfl rfl ?_ ?_; · exact ok_) | (refine st_lop rfl rfl rfl rfl ?_ ?_; · exact ok_) | (refine st_store rfl rfl rfl ?_ ?_; · exact ok_) | (refine st_lit rfl rfl rfl rfl ?_ ?_; · exact ok_) | refine st_skip rfl rfl rfl ?_ | refine st_skip0 rfl rfl ?_ | (refine st_if rfl (fun hb => ?_) (fun hb => ?_) <;> (first | exact no_ hb | rw [hb])) | refine aw_seq ?_ | refine aw_region tab_ok _ rfl ?_ | refine aw_drawn2 tabS_ok _ rfl mixed (by decide +kernel) ?_ | (refine aw_cond rfl (fun hb => ?_) (fun hb => ?_) <;> (try exact no_ hb)) | refine aw_block ?_ | refine aw_exit ?_ | refine aw_ret ?_ | refine aw_skip ?_)
  refine aw_loop (fun s : Nat × Int => match s with | (i, k) => [(0, .one (.c (tInts l))), (4, .one (.c (.int .i64 k))), (5, .one (.c (.int .i64 i)))]) (fun _ => []) (fun s => s.1 ≤ n ∧ uniteF l 0 = uniteF (l.drop s.1) s.2) (fun s => n - s.1) (0, 0) ⟨by omega, rfl⟩ (fun _ _ => Nat.zero_le _)
    (fits_mk ⟨rfl, rfl, rfl, trivial⟩ [] rfl ft_ ft_) ?_
  rintro ⟨i, k⟩ ⟨hi, hr⟩
  dsimp only at hi hr ⊢
  by_cases hlt : i < n
  · obtain ⟨x, hx⟩ := get_of_lt (show i < l.length by omega)
    have hN : decide ((i : Int) < ((l.map fun x => [AC.int .i64 x]).length : Nat)) = true := by rw [hml]; simp; exact hlt
    have hix : (l.map fun x => [AC.int .i64 x])[((i : Nat) : Int).toNat]? = some [.int .i64 x] := idx_map hx
    have hst := unite_drop l k hx
    by_cases h0 : x = 0
    · have q0 : decide (x = 0) = true := by simp [h0]
      rw [q0, cond_true] at hst
      repeat' (first | refine st_nil ?_ | rw [hN] | rw [q0] | (refine st_pop rfl rfl rfl rfl ?_ ?_; · exact ok_) | (refine st_idx rfl rfl rfl rfl rfl rfl rfl rfl hix ?_ ?_; · exact ⟨by omega, rfl⟩) | (refine st_lop rfl rfl rfl rfl ?_ ?_; · exact ok_) | (refine st_store rfl rfl rfl ?_ ?_; · exact ok_) | (refine st_lit rfl rfl rfl rfl ?_ ?_; · exact ok_) | refine st_skip rfl rfl rfl ?_ | refine st_skip0 rfl rfl ?_ | (refine st_if rfl (fun hb => ?_) (fun hb => ?_) <;> (first | exact no_ hb | rw [hb])) | refine aw_seq ?_ | refine aw_region tab_ok _ rfl ?_ | refine aw_drawn2 tabS_ok _ rfl mixed (by decide +kernel) ?_ | (refine aw_cond rfl (fun hb => ?_) (fun hb => ?_) <;> (try exact no_ hb)) | refine aw_block ?_ | refine aw_exit ?_ | refine aw_ret ?_ | refine aw_skip ?_)
      exact ⟨(i + 1, k), ⟨by show i + 1 ≤ n; omega, hr.trans hst⟩, by show n - (i + 1) < n - i; omega, fits_mk ⟨rfl, rfl, slot_int (wrap_eq (by omega) (by omega)), trivial⟩ [] rfl ft_ ft_⟩
    · have q0 : decide (x = 0) = false := by simp [h0]
      rw [q0, cond_false] at hst
      by_cases h1 : k = 0
      · have q1 : decide (k ≠ 0) = false := by simp [h1]
        rw [q1] at hst
        simp only [cond_false] at hst
        repeat' (first | refine st_nil ?_ | rw [hN] | rw [q0] | rw [q1] | (refine st_pop rfl rfl rfl rfl ?_ ?_; · exact ok_) | (refine st_idx rfl rfl rfl rfl rfl rfl rfl rfl hix ?_ ?_; · exact ⟨by omega, rfl⟩) | (refine st_lop rfl rfl rfl rfl ?_ ?_; · exact ok_) | (refine st_store rfl rfl rfl ?_ ?_; · exact ok_) | (refine st_lit rfl rfl rfl rfl ?_ ?_; · exact ok_) | refine st_skip rfl rfl rfl ?_ | refine st_skip0 rfl rfl ?_ | (refine st_if rfl (fun hb => ?_) (fun hb => ?_) <;> (first | exact no_ hb | rw [hb])) | refine aw_seq ?_ | refine aw_region tab_ok _ rfl ?_ | refine aw_drawn2 tabS_ok _ rfl mixed (by decide +kernel) ?_ | (refine aw_cond rfl (fun hb => ?_) (fun hb => ?_) <;> (try exact no_ hb)) | refine aw_block ?_ | refine aw_exit ?_ | refine aw_ret ?_ | refine aw_skip ?_)
        exact ⟨(i + 1, x), ⟨by show i + 1 ≤ n; omega, hr.trans hst⟩, by show n - (i + 1) < n - i; omega, fits_mk ⟨rfl, rfl, slot_int (wrap_eq (by omega) (by omega)), trivial⟩ [] rfl ft_ ft_⟩
      · have q1 : decide (k ≠ 0) = true := by simp [h1]
        rw [q1, cond_true] at hst
        by_cases h2 : k = x
        · have q2 : decide (k ≠ x) = false := by simp [h2]
          rw [q2, cond_false] at hst
          repeat' (first | refine st_nil ?_ | rw [hN] | rw [q0] | rw [q1] | rw [q2] | (refine st_pop rfl rfl rfl rfl ?_ ?_; · exact ok_) | (refine st_idx rfl rfl rfl rfl rfl rfl rfl rfl hix ?_ ?_; · exact ⟨by omega, rfl⟩) | (refine st_lop rfl rfl rfl rfl ?_ ?_; · exact ok_) | (refine st_store rfl rfl rfl ?_ ?_; · exact ok_) | (refine st_lit rfl rfl rfl rfl ?_ ?_; · exact ok_) | refine st_skip rfl rfl rfl ?_ | refine st_skip0 rfl rfl ?_ | (refine st_if rfl (fun hb => ?_) (fun hb => ?_) <;> (first | exact no_ hb | rw [hb])) | refine aw_seq ?_ | refine aw_region tab_ok _ rfl ?_ | refine aw_drawn2 tabS_ok _ rfl mixed (by decide +kernel) ?_ | (refine aw_cond rfl (fun hb => ?_) (fun hb => ?_) <;> (try exact no_ hb)) | refine aw_block ?_ | refine aw_exit ?_ | refine aw_ret ?_ | refine aw_skip ?_)
          exact ⟨(i + 1, x), ⟨by show i + 1 ≤ n; omega, hr.trans hst⟩, by show n - (i + 1) < n - i; omega, fits_mk ⟨rfl, rfl, slot_int (wrap_eq (by omega) (by omega)), trivial⟩ [] rfl ft_ ft_⟩
        · have q2 : decide (k ≠ x) = true := by simp [h2]
          rw [q2, cond_true] at hst
          repeat' (first | refine st_nil ?_ | rw [hN] | rw [q0] | rw [q1] | rw [q2] | (refine st_pop rfl rfl rfl rfl ?_ ?_; · exact ok_) | (refine st_idx rfl rfl rfl rfl rfl rfl rfl rfl hix ?_ ?_; · exact ⟨by omega, rfl⟩) | (refine st_lop rfl rfl rfl rfl ?_ ?_; · exact ok_) | (refine st_store rfl rfl rfl ?_ ?_; · exact ok_) | (refine st_lit rfl rfl rfl rfl ?_ ?_; · exact ok_) | refine st_skip rfl rfl rfl ?_ | refine st_skip0 rfl rfl ?_ | (refine st_if rfl (fun hb => ?_) (fun hb => ?_) <;> (first | exact no_ hb | rw [hb])) | refine aw_seq ?_ | refine aw_region tab_ok _ rfl ?_ | refine aw_drawn2 tabS_ok _ rfl mixed (by decide +kernel) ?_ | (refine aw_cond rfl (fun hb => ?_) (fun hb => ?_) <;> (try exact no_ hb)) | refine aw_block ?_ | refine aw_exit ?_ | refine aw_ret ?_ | refine aw_skip ?_)
          exact end_ret (fin (w := (0, false)) (hr.trans hst).symm (res_of rfl ⟨trivial, trivial, trivial⟩ rfl))
  · have hN : decide ((i : Int) < ((l.map fun x => [AC.int .i64 x]).length : Nat)) = false := by rw [hml]; simp; omega
    rw [List.drop_of_length_le (by omega)] at hr
    repeat' (first | refine st_nil ?_ | rw [hN] | (refine st_pop rfl rfl rfl rfl ?_ ?_; · exact ok_) | (refine st_lop rfl rfl rfl rfl ?_ ?_; · exact ok_) | (refine st_store rfl rfl rfl ?_ ?_; · exact ok_) | (refine st_lit rfl rfl rfl rfl ?_ ?_; · exact ok_) | refine st_skip rfl rfl rfl ?_ | refine st_skip0 rfl rfl ?_ | (refine st_if rfl (fun hb => ?_) (fun hb => ?_) <;> (first | exact no_ hb | rw [hb])) | refine aw_seq ?_ | refine aw_region tab_ok _ rfl ?_ | refine aw_drawn2 tabS_ok _ rfl mixed (by decide +kernel) ?_ | (refine aw_cond rfl (fun hb => ?_) (fun hb => ?_) <;> (try exact no_ hb)) | refine aw_block ?_ | refine aw_exit ?_ | refine aw_ret ?_ | refine aw_skip ?_)
    exact end_ret (fin (w := (k, true)) hr.symm (res_of rfl ⟨trivial, trivial, trivial⟩ rfl))
/-- The kind of an expression that is no column, of the reference. -/
def resRF (op : Int) (v : Val) (l : List Int) : Int × Bool :=
  bif inL op [1] then (v.kind, true) else bif inL op [4, 5, 6] then (3, allRF l 3) else bif inL op [7, 8, 9, 10, 11, 12] then (3, (uniteF l 0).2) else bif inL op [19] then (2, allRF l 2) else bif inL op [20] then (1, allRF l 2)
  else bif inL op [21] then (3, true) else bif inL op [22] then ((uniteF (l.drop 1) 0).1, bif (uniteF (l.drop 1) 0).2 then allRF (l.take 1) 3 else false) else bif inL op [23] then uniteF l 0 else bif inL op [24] then (3, allRF l 1) else (1, allRF l 1)
end Go.Proofs.YtfpbmfalamappaaGreatDoor

namespace Go.Proofs.YtfpbmfalamappaaGreatDoor
open Go.RowKit Go.MapKept
set_option maxRecDepth 100000
theorem resultR_2 (int : Int) (v : Val) (nm : ByteArray) (args : List Ex) (l kinds : List Int) (y : Int) (h0 : 0 ≤ int) (hy : kinds[int.toNat]? = some y) : Pure Tryz.prog 140 [.agg (tE (.mk 2 int v nm args)), .one (tInts l), .one (tInts kinds)] (vIB (y, true)) := by
  rw [tE_mk]
  refine pure_of_aw tab_ok Tryz.func140 rfl rfl Tryz.ntmps140 (by simp) ?_
  simp only [argT, PV.av, List.map_cons, List.map_nil]
  repeat' (first | refine st_nil ?_ | (refine st_pop rfl rfl rfl rfl ?_ ?_; · exact ok_) | (refine st_idx rfl rfl rfl rfl rfl rfl rfl rfl (idx_ints hy) ?_ ?_; · exact ⟨by omega, rfl⟩) | (refine st_lop rfl rfl rfl rfl ?_ ?_; · exact ok_) | (refine st_store rfl rfl rfl ?_ ?_; · exact ok_) | (refine st_lit rfl rfl rfl rfl ?_ ?_; · exact ok_) | refine st_skip rfl rfl rfl ?_ | refine st_skip0 rfl rfl ?_ | (refine st_if rfl (fun hb => ?_) (fun hb => ?_) <;> (first | exact no_ hb | rw [hb])) | refine aw_seq ?_ | refine aw_region tab_ok _ rfl ?_ | refine aw_drawn2 tabS_ok _ rfl mixed (by decide +kernel) ?_ | (refine aw_cond rfl (fun hb => ?_) (fun hb => ?_) <;> (try exact no_ hb)) | refine aw_block ?_ | refine aw_exit ?_ | refine aw_ret ?_ | refine aw_skip ?_)
  all_goals exact end_ret (res_of rfl ⟨trivial, trivial, trivial⟩ rfl)
theorem resultR_1 (int : Int) (v : Val) (nm : ByteArray) (args : List Ex) (l kinds : List Int) (hl : l.length ≤ 100000) : Pure Tryz.prog 140 [.agg (tE (.mk 1 int v nm args)), .one (tInts l), .one (tInts kinds)] (vIB (resRF 1 v l)) := by
  rw [tE_mk]
  refine pure_of_aw tab_ok Tryz.func140 rfl rfl Tryz.ntmps140 (by simp) ?_
  simp only [argT, PV.av, List.map_cons, List.map_nil]
  repeat' (first | refine st_nil ?_ | (refine st_pop rfl rfl rfl rfl ?_ ?_; · exact ok_) | (refine st_lop rfl rfl rfl rfl ?_ ?_; · exact ok_) | (refine st_store rfl rfl rfl ?_ ?_; · exact ok_) | (refine st_lit rfl rfl rfl rfl ?_ ?_; · exact ok_) | refine st_skip rfl rfl rfl ?_ | refine st_skip0 rfl rfl ?_ | (refine st_if rfl (fun hb => ?_) (fun hb => ?_) <;> (first | exact no_ hb | rw [hb])) | refine aw_seq ?_ | refine aw_region tab_ok _ rfl ?_ | refine aw_drawn2 tabS_ok _ rfl mixed (by decide +kernel) ?_ | (refine aw_cond rfl (fun hb => ?_) (fun hb => ?_) <;> (try exact no_ hb)) | refine aw_block ?_ | refine aw_exit ?_ | refine aw_ret ?_ | refine aw_skip ?_)
  all_goals exact end_ret (res_of rfl ⟨trivial, trivial, trivial⟩ rfl)
theorem resultR_4 (int : Int) (v : Val) (nm : ByteArray) (args : List Ex) (l kinds : List Int) (hl : l.length ≤ 100000) : Pure Tryz.prog 140 [.agg (tE (.mk 4 int v nm args)), .one (tInts l), .one (tInts kinds)] (vIB (resRF 4 v l)) := by
  rw [tE_mk]
  refine pure_of_aw tab_ok Tryz.func140 rfl rfl Tryz.ntmps140 (by simp) ?_
  simp only [argT, PV.av, List.map_cons, List.map_nil]
  have hal := allR_pure l 3 (by omega)
  have hr : resRF 4 v l = (3, allRF l 3) := rfl
  rw [hr]
  generalize allRF l 3 = aa at hal
  repeat' (first | refine st_nil ?_ | (refine st_pop rfl rfl rfl rfl ?_ ?_; · exact ok_) | (refine st_lop rfl rfl rfl rfl ?_ ?_; · exact ok_) | (refine st_store rfl rfl rfl ?_ ?_; · exact ok_) | (refine st_lit rfl rfl rfl rfl ?_ ?_; · exact ok_) | refine st_skip rfl rfl rfl ?_ | refine st_skip0 rfl rfl ?_ | refine st_call rfl rfl rfl rfl hal rfl ?_ | (refine st_if rfl (fun hb => ?_) (fun hb => ?_) <;> (first | exact no_ hb | rw [hb])) | refine aw_seq ?_ | refine aw_region tab_ok _ rfl ?_ | refine aw_drawn2 tabS_ok _ rfl mixed (by decide +kernel) ?_ | (refine aw_cond rfl (fun hb => ?_) (fun hb => ?_) <;> (try exact no_ hb)) | refine aw_block ?_ | refine aw_exit ?_ | refine aw_ret ?_ | refine aw_skip ?_)
  all_goals exact end_ret (res_of rfl ⟨trivial, trivial, trivial⟩ rfl)
theorem resultR_5 (int : Int) (v : Val) (nm : ByteArray) (args : List Ex) (l kinds : List Int) (hl : l.length ≤ 100000) : Pure Tryz.prog 140 [.agg (tE (.mk 5 int v nm args)), .one (tInts l), .one (tInts kinds)] (vIB (resRF 5 v l)) := by
  rw [tE_mk]
  refine pure_of_aw tab_ok Tryz.func140 rfl rfl Tryz.ntmps140 (by simp) ?_
  simp only [argT, PV.av, List.map_cons, List.map_nil]
  have hal := allR_pure l 3 (by omega)
  have hr : resRF 5 v l = (3, allRF l 3) := rfl
  rw [hr]
  generalize allRF l 3 = aa at hal
  repeat' (first | refine st_nil ?_ | (refine st_pop rfl rfl rfl rfl ?_ ?_; · exact ok_) | (refine st_lop rfl rfl rfl rfl ?_ ?_; · exact ok_) | (refine st_store rfl rfl rfl ?_ ?_; · exact ok_) | (refine st_lit rfl rfl rfl rfl ?_ ?_; · exact ok_) | refine st_skip rfl rfl rfl ?_ | refine st_skip0 rfl rfl ?_ | refine st_call rfl rfl rfl rfl hal rfl ?_ | (refine st_if rfl (fun hb => ?_) (fun hb => ?_) <;> (first | exact no_ hb | rw [hb])) | refine aw_seq ?_ | refine aw_region tab_ok _ rfl ?_ | refine aw_drawn2 tabS_ok _ rfl mixed (by decide +kernel) ?_ | (refine aw_cond rfl (fun hb => ?_) (fun hb => ?_) <;> (try exact no_ hb)) | refine aw_block ?_ | refine aw_exit ?_ | refine aw_ret ?_ | refine aw_skip ?_)
  all_goals exact end_ret (res_of rfl ⟨trivial, trivial, trivial⟩ rfl)
theorem resultR_6 (int : Int) (v : Val) (nm : ByteArray) (args : List Ex) (l kinds : List Int) (hl : l.length ≤ 100000) : Pure Tryz.prog 140 [.agg (tE (.mk 6 int v nm args)), .one (tInts l), .one (tInts kinds)] (vIB (resRF 6 v l)) := by
  rw [tE_mk]
  refine pure_of_aw tab_ok Tryz.func140 rfl rfl Tryz.ntmps140 (by simp) ?_
  simp only [argT, PV.av, List.map_cons, List.map_nil]
  have hal := allR_pure l 3 (by omega)
  have hr : resRF 6 v l = (3, allRF l 3) := rfl
  rw [hr]
  generalize allRF l 3 = aa at hal
  repeat' (first | refine st_nil ?_ | (refine st_pop rfl rfl rfl rfl ?_ ?_; · exact ok_) | (refine st_lop rfl rfl rfl rfl ?_ ?_; · exact ok_) | (refine st_store rfl rfl rfl ?_ ?_; · exact ok_) | (refine st_lit rfl rfl rfl rfl ?_ ?_; · exact ok_) | refine st_skip rfl rfl rfl ?_ | refine st_skip0 rfl rfl ?_ | refine st_call rfl rfl rfl rfl hal rfl ?_ | (refine st_if rfl (fun hb => ?_) (fun hb => ?_) <;> (first | exact no_ hb | rw [hb])) | refine aw_seq ?_ | refine aw_region tab_ok _ rfl ?_ | refine aw_drawn2 tabS_ok _ rfl mixed (by decide +kernel) ?_ | (refine aw_cond rfl (fun hb => ?_) (fun hb => ?_) <;> (try exact no_ hb)) | refine aw_block ?_ | refine aw_exit ?_ | refine aw_ret ?_ | refine aw_skip ?_)
  all_goals exact end_ret (res_of rfl ⟨trivial, trivial, trivial⟩ rfl)
theorem resultR_7 (int : Int) (v : Val) (nm : ByteArray) (args : List Ex) (l kinds : List Int) (hl : l.length ≤ 100000) : Pure Tryz.prog 140 [.agg (tE (.mk 7 int v nm args)), .one (tInts l), .one (tInts kinds)] (vIB (resRF 7 v l)) := by
  rw [tE_mk]
  refine pure_of_aw tab_ok Tryz.func140 rfl rfl Tryz.ntmps140 (by simp) ?_
  simp only [argT, PV.av, List.map_cons, List.map_nil]
  have hun := joinR_pure l (by omega)
  have hr : resRF 7 v l = (3, (uniteF l 0).2) := rfl
  rw [hr]
  generalize uniteF l 0 = uu at hun
  obtain ⟨u1, u2⟩ := uu
  have hun' : Pure Tryz.prog 179 [.one (tInts l)] (.tup [.one (.int .i64 u1), .one (.bool u2)]) := hun
  repeat' (first | refine st_nil ?_ | (refine st_pop rfl rfl rfl rfl ?_ ?_; · exact ok_) | (refine st_lop rfl rfl rfl rfl ?_ ?_; · exact ok_) | (refine st_store rfl rfl rfl ?_ ?_; · exact ok_) | (refine st_lit rfl rfl rfl rfl ?_ ?_; · exact ok_) | refine st_skip rfl rfl rfl ?_ | refine st_skip0 rfl rfl ?_ | refine st_call rfl rfl rfl rfl hun' rfl ?_ | (refine st_if rfl (fun hb => ?_) (fun hb => ?_) <;> (first | exact no_ hb | rw [hb])) | refine aw_seq ?_ | refine aw_region tab_ok _ rfl ?_ | refine aw_drawn2 tabS_ok _ rfl mixed (by decide +kernel) ?_ | (refine aw_cond rfl (fun hb => ?_) (fun hb => ?_) <;> (try exact no_ hb)) | refine aw_block ?_ | refine aw_exit ?_ | refine aw_ret ?_ | refine aw_skip ?_)
  all_goals exact end_ret (res_of rfl ⟨trivial, trivial, trivial⟩ rfl)
theorem resultR_8 (int : Int) (v : Val) (nm : ByteArray) (args : List Ex) (l kinds : List Int) (hl : l.length ≤ 100000) : Pure Tryz.prog 140 [.agg (tE (.mk 8 int v nm args)), .one (tInts l), .one (tInts kinds)] (vIB (resRF 8 v l)) := by
  rw [tE_mk]
  refine pure_of_aw tab_ok Tryz.func140 rfl rfl Tryz.ntmps140 (by simp) ?_
  simp only [argT, PV.av, List.map_cons, List.map_nil]
  have hun := joinR_pure l (by omega)
  have hr : resRF 8 v l = (3, (uniteF l 0).2) := rfl
  rw [hr]
  generalize uniteF l 0 = uu at hun
  obtain ⟨u1, u2⟩ := uu
  have hun' : Pure Tryz.prog 179 [.one (tInts l)] (.tup [.one (.int .i64 u1), .one (.bool u2)]) := hun
  repeat' (first | refine st_nil ?_ | (refine st_pop rfl rfl rfl rfl ?_ ?_; · exact ok_) | (refine st_lop rfl rfl rfl rfl ?_ ?_; · exact ok_) | (refine st_store rfl rfl rfl ?_ ?_; · exact ok_) | (refine st_lit rfl rfl rfl rfl ?_ ?_; · exact ok_) | refine st_skip rfl rfl rfl ?_ | refine st_skip0 rfl rfl ?_ | refine st_call rfl rfl rfl rfl hun' rfl ?_ | (refine st_if rfl (fun hb => ?_) (fun hb => ?_) <;> (first | exact no_ hb | rw [hb])) | refine aw_seq ?_ | refine aw_region tab_ok _ rfl ?_ | refine aw_drawn2 tabS_ok _ rfl mixed (by decide +kernel) ?_ | (refine aw_cond rfl (fun hb => ?_) (fun hb => ?_) <;> (try exact no_ hb)) | refine aw_block ?_ | refine aw_exit ?_ | refine aw_ret ?_ | refine aw_skip ?_)
  all_goals exact end_ret (res_of rfl ⟨trivial, trivial, trivial⟩ rfl)
theorem resultR_9 (int : Int) (v : Val) (nm : ByteArray) (args : List Ex) (l kinds : List Int) (hl : l.length ≤ 100000) : Pure Tryz.prog 140 [.agg (tE (.mk 9 int v nm args)), .one (tInts l), .one (tInts kinds)] (vIB (resRF 9 v l)) := by
  rw [tE_mk]
  refine pure_of_aw tab_ok Tryz.func140 rfl rfl Tryz.ntmps140 (by simp) ?_
  simp only [argT, PV.av, List.map_cons, List.map_nil]
  have hun := joinR_pure l (by omega)
  have hr : resRF 9 v l = (3, (uniteF l 0).2) := rfl
  rw [hr]
  generalize uniteF l 0 = uu at hun
  obtain ⟨u1, u2⟩ := uu
  have hun' : Pure Tryz.prog 179 [.one (tInts l)] (.tup [.one (.int .i64 u1), .one (.bool u2)]) := hun
  repeat' (first | refine st_nil ?_ | (refine st_pop rfl rfl rfl rfl ?_ ?_; · exact ok_) | (refine st_lop rfl rfl rfl rfl ?_ ?_; · exact ok_) | (refine st_store rfl rfl rfl ?_ ?_; · exact ok_) | (refine st_lit rfl rfl rfl rfl ?_ ?_; · exact ok_) | refine st_skip rfl rfl rfl ?_ | refine st_skip0 rfl rfl ?_ | refine st_call rfl rfl rfl rfl hun' rfl ?_ | (refine st_if rfl (fun hb => ?_) (fun hb => ?_) <;> (first | exact no_ hb | rw [hb])) | refine aw_seq ?_ | refine aw_region tab_ok _ rfl ?_ | refine aw_drawn2 tabS_ok _ rfl mixed (by decide +kernel) ?_ | (refine aw_cond rfl (fun hb => ?_) (fun hb => ?_) <;> (try exact no_ hb)) | refine aw_block ?_ | refine aw_exit ?_ | refine aw_ret ?_ | refine aw_skip ?_)
  all_goals exact end_ret (res_of rfl ⟨trivial, trivial, trivial⟩ rfl)
theorem resultR_10 (int : Int) (v : Val) (nm : ByteArray) (args : List Ex) (l kinds : List Int) (hl : l.length ≤ 100000) : Pure Tryz.prog 140 [.agg (tE (.mk 10 int v nm args)), .one (tInts l), .one (tInts kinds)] (vIB (resRF 10 v l)) := by
  rw [tE_mk]
  refine pure_of_aw tab_ok Tryz.func140 rfl rfl Tryz.ntmps140 (by simp) ?_
  simp only [argT, PV.av, List.map_cons, List.map_nil]
  have hun := joinR_pure l (by omega)
  have hr : resRF 10 v l = (3, (uniteF l 0).2) := rfl
  rw [hr]
  generalize uniteF l 0 = uu at hun
  obtain ⟨u1, u2⟩ := uu
  have hun' : Pure Tryz.prog 179 [.one (tInts l)] (.tup [.one (.int .i64 u1), .one (.bool u2)]) := hun
  repeat' (first | refine st_nil ?_ | (refine st_pop rfl rfl rfl rfl ?_ ?_; · exact ok_) | (refine st_lop rfl rfl rfl rfl ?_ ?_; · exact ok_) | (refine st_store rfl rfl rfl ?_ ?_; · exact ok_) | (refine st_lit rfl rfl rfl rfl ?_ ?_; · exact ok_) | refine st_skip rfl rfl rfl ?_ | refine st_skip0 rfl rfl ?_ | refine st_call rfl rfl rfl rfl hun' rfl ?_ | (refine st_if rfl (fun hb => ?_) (fun hb => ?_) <;> (first | exact no_ hb | rw [hb])) | refine aw_seq ?_ | refine aw_region tab_ok _ rfl ?_ | refine aw_drawn2 tabS_ok _ rfl mixed (by decide +kernel) ?_ | (refine aw_cond rfl (fun hb => ?_) (fun hb => ?_) <;> (try exact no_ hb)) | refine aw_block ?_ | refine aw_exit ?_ | refine aw_ret ?_ | refine aw_skip ?_)
  all_goals exact end_ret (res_of rfl ⟨trivial, trivial, trivial⟩ rfl)
theorem resultR_11 (int : Int) (v : Val) (nm : ByteArray) (args : List Ex) (l kinds : List Int) (hl : l.length ≤ 100000) : Pure Tryz.prog 140 [.agg (tE (.mk 11 int v nm args)), .one (tInts l), .one (tInts kinds)] (vIB (resRF 11 v l)) := by
  rw [tE_mk]
  refine pure_of_aw tab_ok Tryz.func140 rfl rfl Tryz.ntmps140 (by simp) ?_
  simp only [argT, PV.av, List.map_cons, List.map_nil]
  have hun := joinR_pure l (by omega)
  have hr : resRF 11 v l = (3, (uniteF l 0).2) := rfl
  rw [hr]
  generalize uniteF l 0 = uu at hun
  obtain ⟨u1, u2⟩ := uu
  have hun' : Pure Tryz.prog 179 [.one (tInts l)] (.tup [.one (.int .i64 u1), .one (.bool u2)]) := hun
  repeat' (first | refine st_nil ?_ | (refine st_pop rfl rfl rfl rfl ?_ ?_; · exact ok_) | (refine st_lop rfl rfl rfl rfl ?_ ?_; · exact ok_) | (refine st_store rfl rfl rfl ?_ ?_; · exact ok_) | (refine st_lit rfl rfl rfl rfl ?_ ?_; · exact ok_) | refine st_skip rfl rfl rfl ?_ | refine st_skip0 rfl rfl ?_ | refine st_call rfl rfl rfl rfl hun' rfl ?_ | (refine st_if rfl (fun hb => ?_) (fun hb => ?_) <;> (first | exact no_ hb | rw [hb])) | refine aw_seq ?_ | refine aw_region tab_ok _ rfl ?_ | refine aw_drawn2 tabS_ok _ rfl mixed (by decide +kernel) ?_ | (refine aw_cond rfl (fun hb => ?_) (fun hb => ?_) <;> (try exact no_ hb)) | refine aw_block ?_ | refine aw_exit ?_ | refine aw_ret ?_ | refine aw_skip ?_)
  all_goals exact end_ret (res_of rfl ⟨trivial, trivial, trivial⟩ rfl)
theorem resultR_12 (int : Int) (v : Val) (nm : ByteArray) (args : List Ex) (l kinds : List Int) (hl : l.length ≤ 100000) : Pure Tryz.prog 140 [.agg (tE (.mk 12 int v nm args)), .one (tInts l), .one (tInts kinds)] (vIB (resRF 12 v l)) := by
  rw [tE_mk]
  refine pure_of_aw tab_ok Tryz.func140 rfl rfl Tryz.ntmps140 (by simp) ?_
  simp only [argT, PV.av, List.map_cons, List.map_nil]
  have hun := joinR_pure l (by omega)
  have hr : resRF 12 v l = (3, (uniteF l 0).2) := rfl
  rw [hr]
  generalize uniteF l 0 = uu at hun
  obtain ⟨u1, u2⟩ := uu
  have hun' : Pure Tryz.prog 179 [.one (tInts l)] (.tup [.one (.int .i64 u1), .one (.bool u2)]) := hun
  repeat' (first | refine st_nil ?_ | (refine st_pop rfl rfl rfl rfl ?_ ?_; · exact ok_) | (refine st_lop rfl rfl rfl rfl ?_ ?_; · exact ok_) | (refine st_store rfl rfl rfl ?_ ?_; · exact ok_) | (refine st_lit rfl rfl rfl rfl ?_ ?_; · exact ok_) | refine st_skip rfl rfl rfl ?_ | refine st_skip0 rfl rfl ?_ | refine st_call rfl rfl rfl rfl hun' rfl ?_ | (refine st_if rfl (fun hb => ?_) (fun hb => ?_) <;> (first | exact no_ hb | rw [hb])) | refine aw_seq ?_ | refine aw_region tab_ok _ rfl ?_ | refine aw_drawn2 tabS_ok _ rfl mixed (by decide +kernel) ?_ | (refine aw_cond rfl (fun hb => ?_) (fun hb => ?_) <;> (try exact no_ hb)) | refine aw_block ?_ | refine aw_exit ?_ | refine aw_ret ?_ | refine aw_skip ?_)
  all_goals exact end_ret (res_of rfl ⟨trivial, trivial, trivial⟩ rfl)
theorem resultR_13 (int : Int) (v : Val) (nm : ByteArray) (args : List Ex) (l kinds : List Int) (hl : l.length ≤ 100000) : Pure Tryz.prog 140 [.agg (tE (.mk 13 int v nm args)), .one (tInts l), .one (tInts kinds)] (vIB (resRF 13 v l)) := by
  rw [tE_mk]
  refine pure_of_aw tab_ok Tryz.func140 rfl rfl Tryz.ntmps140 (by simp) ?_
  simp only [argT, PV.av, List.map_cons, List.map_nil]
  have hal := allR_pure l 1 (by omega)
  have hr : resRF 13 v l = (1, allRF l 1) := rfl
  rw [hr]
  generalize allRF l 1 = aa at hal
  repeat' (first | refine st_nil ?_ | (refine st_pop rfl rfl rfl rfl ?_ ?_; · exact ok_) | (refine st_lop rfl rfl rfl rfl ?_ ?_; · exact ok_) | (refine st_store rfl rfl rfl ?_ ?_; · exact ok_) | (refine st_lit rfl rfl rfl rfl ?_ ?_; · exact ok_) | refine st_skip rfl rfl rfl ?_ | refine st_skip0 rfl rfl ?_ | refine st_call rfl rfl rfl rfl hal rfl ?_ | (refine st_if rfl (fun hb => ?_) (fun hb => ?_) <;> (first | exact no_ hb | rw [hb])) | refine aw_seq ?_ | refine aw_region tab_ok _ rfl ?_ | refine aw_drawn2 tabS_ok _ rfl mixed (by decide +kernel) ?_ | (refine aw_cond rfl (fun hb => ?_) (fun hb => ?_) <;> (try exact no_ hb)) | refine aw_block ?_ | refine aw_exit ?_ | refine aw_ret ?_ | refine aw_skip ?_)
  all_goals exact end_ret (res_of rfl ⟨trivial, trivial, trivial⟩ rfl)
theorem resultR_14 (int : Int) (v : Val) (nm : ByteArray) (args : List Ex) (l kinds : List Int) (hl : l.length ≤ 100000) : Pure Tryz.prog 140 [.agg (tE (.mk 14 int v nm args)), .one (tInts l), .one (tInts kinds)] (vIB (resRF 14 v l)) := by
  rw [tE_mk]
  refine pure_of_aw tab_ok Tryz.func140 rfl rfl Tryz.ntmps140 (by simp) ?_
  simp only [argT, PV.av, List.map_cons, List.map_nil]
  have hal := allR_pure l 1 (by omega)
  have hr : resRF 14 v l = (1, allRF l 1) := rfl
  rw [hr]
  generalize allRF l 1 = aa at hal
  repeat' (first | refine st_nil ?_ | (refine st_pop rfl rfl rfl rfl ?_ ?_; · exact ok_) | (refine st_lop rfl rfl rfl rfl ?_ ?_; · exact ok_) | (refine st_store rfl rfl rfl ?_ ?_; · exact ok_) | (refine st_lit rfl rfl rfl rfl ?_ ?_; · exact ok_) | refine st_skip rfl rfl rfl ?_ | refine st_skip0 rfl rfl ?_ | refine st_call rfl rfl rfl rfl hal rfl ?_ | (refine st_if rfl (fun hb => ?_) (fun hb => ?_) <;> (first | exact no_ hb | rw [hb])) | refine aw_seq ?_ | refine aw_region tab_ok _ rfl ?_ | refine aw_drawn2 tabS_ok _ rfl mixed (by decide +kernel) ?_ | (refine aw_cond rfl (fun hb => ?_) (fun hb => ?_) <;> (try exact no_ hb)) | refine aw_block ?_ | refine aw_exit ?_ | refine aw_ret ?_ | refine aw_skip ?_)
  all_goals exact end_ret (res_of rfl ⟨trivial, trivial, trivial⟩ rfl)
theorem resultR_15 (int : Int) (v : Val) (nm : ByteArray) (args : List Ex) (l kinds : List Int) (hl : l.length ≤ 100000) : Pure Tryz.prog 140 [.agg (tE (.mk 15 int v nm args)), .one (tInts l), .one (tInts kinds)] (vIB (resRF 15 v l)) := by
  rw [tE_mk]
  refine pure_of_aw tab_ok Tryz.func140 rfl rfl Tryz.ntmps140 (by simp) ?_
  simp only [argT, PV.av, List.map_cons, List.map_nil]
  have hal := allR_pure l 1 (by omega)
  have hr : resRF 15 v l = (1, allRF l 1) := rfl
  rw [hr]
  generalize allRF l 1 = aa at hal
  repeat' (first | refine st_nil ?_ | (refine st_pop rfl rfl rfl rfl ?_ ?_; · exact ok_) | (refine st_lop rfl rfl rfl rfl ?_ ?_; · exact ok_) | (refine st_store rfl rfl rfl ?_ ?_; · exact ok_) | (refine st_lit rfl rfl rfl rfl ?_ ?_; · exact ok_) | refine st_skip rfl rfl rfl ?_ | refine st_skip0 rfl rfl ?_ | refine st_call rfl rfl rfl rfl hal rfl ?_ | (refine st_if rfl (fun hb => ?_) (fun hb => ?_) <;> (first | exact no_ hb | rw [hb])) | refine aw_seq ?_ | refine aw_region tab_ok _ rfl ?_ | refine aw_drawn2 tabS_ok _ rfl mixed (by decide +kernel) ?_ | (refine aw_cond rfl (fun hb => ?_) (fun hb => ?_) <;> (try exact no_ hb)) | refine aw_block ?_ | refine aw_exit ?_ | refine aw_ret ?_ | refine aw_skip ?_)
  all_goals exact end_ret (res_of rfl ⟨trivial, trivial, trivial⟩ rfl)
theorem resultR_16 (int : Int) (v : Val) (nm : ByteArray) (args : List Ex) (l kinds : List Int) (hl : l.length ≤ 100000) : Pure Tryz.prog 140 [.agg (tE (.mk 16 int v nm args)), .one (tInts l), .one (tInts kinds)] (vIB (resRF 16 v l)) := by
  rw [tE_mk]
  refine pure_of_aw tab_ok Tryz.func140 rfl rfl Tryz.ntmps140 (by simp) ?_
  simp only [argT, PV.av, List.map_cons, List.map_nil]
  have hal := allR_pure l 1 (by omega)
  have hr : resRF 16 v l = (1, allRF l 1) := rfl
  rw [hr]
  generalize allRF l 1 = aa at hal
  repeat' (first | refine st_nil ?_ | (refine st_pop rfl rfl rfl rfl ?_ ?_; · exact ok_) | (refine st_lop rfl rfl rfl rfl ?_ ?_; · exact ok_) | (refine st_store rfl rfl rfl ?_ ?_; · exact ok_) | (refine st_lit rfl rfl rfl rfl ?_ ?_; · exact ok_) | refine st_skip rfl rfl rfl ?_ | refine st_skip0 rfl rfl ?_ | refine st_call rfl rfl rfl rfl hal rfl ?_ | (refine st_if rfl (fun hb => ?_) (fun hb => ?_) <;> (first | exact no_ hb | rw [hb])) | refine aw_seq ?_ | refine aw_region tab_ok _ rfl ?_ | refine aw_drawn2 tabS_ok _ rfl mixed (by decide +kernel) ?_ | (refine aw_cond rfl (fun hb => ?_) (fun hb => ?_) <;> (try exact no_ hb)) | refine aw_block ?_ | refine aw_exit ?_ | refine aw_ret ?_ | refine aw_skip ?_)
  all_goals exact end_ret (res_of rfl ⟨trivial, trivial, trivial⟩ rfl)
theorem resultR_17 (int : Int) (v : Val) (nm : ByteArray) (args : List Ex) (l kinds : List Int) (hl : l.length ≤ 100000) : Pure Tryz.prog 140 [.agg (tE (.mk 17 int v nm args)), .one (tInts l), .one (tInts kinds)] (vIB (resRF 17 v l)) := by
  rw [tE_mk]
  refine pure_of_aw tab_ok Tryz.func140 rfl rfl Tryz.ntmps140 (by simp) ?_
  simp only [argT, PV.av, List.map_cons, List.map_nil]
  have hal := allR_pure l 1 (by omega)
  have hr : resRF 17 v l = (1, allRF l 1) := rfl
  rw [hr]
  generalize allRF l 1 = aa at hal
  repeat' (first | refine st_nil ?_ | (refine st_pop rfl rfl rfl rfl ?_ ?_; · exact ok_) | (refine st_lop rfl rfl rfl rfl ?_ ?_; · exact ok_) | (refine st_store rfl rfl rfl ?_ ?_; · exact ok_) | (refine st_lit rfl rfl rfl rfl ?_ ?_; · exact ok_) | refine st_skip rfl rfl rfl ?_ | refine st_skip0 rfl rfl ?_ | refine st_call rfl rfl rfl rfl hal rfl ?_ | (refine st_if rfl (fun hb => ?_) (fun hb => ?_) <;> (first | exact no_ hb | rw [hb])) | refine aw_seq ?_ | refine aw_region tab_ok _ rfl ?_ | refine aw_drawn2 tabS_ok _ rfl mixed (by decide +kernel) ?_ | (refine aw_cond rfl (fun hb => ?_) (fun hb => ?_) <;> (try exact no_ hb)) | refine aw_block ?_ | refine aw_exit ?_ | refine aw_ret ?_ | refine aw_skip ?_)
  all_goals exact end_ret (res_of rfl ⟨trivial, trivial, trivial⟩ rfl)
theorem resultR_18 (int : Int) (v : Val) (nm : ByteArray) (args : List Ex) (l kinds : List Int) (hl : l.length ≤ 100000) : Pure Tryz.prog 140 [.agg (tE (.mk 18 int v nm args)), .one (tInts l), .one (tInts kinds)] (vIB (resRF 18 v l)) := by
  rw [tE_mk]
  refine pure_of_aw tab_ok Tryz.func140 rfl rfl Tryz.ntmps140 (by simp) ?_
  simp only [argT, PV.av, List.map_cons, List.map_nil]
  have hal := allR_pure l 1 (by omega)
  have hr : resRF 18 v l = (1, allRF l 1) := rfl
  rw [hr]
  generalize allRF l 1 = aa at hal
  repeat' (first | refine st_nil ?_ | (refine st_pop rfl rfl rfl rfl ?_ ?_; · exact ok_) | (refine st_lop rfl rfl rfl rfl ?_ ?_; · exact ok_) | (refine st_store rfl rfl rfl ?_ ?_; · exact ok_) | (refine st_lit rfl rfl rfl rfl ?_ ?_; · exact ok_) | refine st_skip rfl rfl rfl ?_ | refine st_skip0 rfl rfl ?_ | refine st_call rfl rfl rfl rfl hal rfl ?_ | (refine st_if rfl (fun hb => ?_) (fun hb => ?_) <;> (first | exact no_ hb | rw [hb])) | refine aw_seq ?_ | refine aw_region tab_ok _ rfl ?_ | refine aw_drawn2 tabS_ok _ rfl mixed (by decide +kernel) ?_ | (refine aw_cond rfl (fun hb => ?_) (fun hb => ?_) <;> (try exact no_ hb)) | refine aw_block ?_ | refine aw_exit ?_ | refine aw_ret ?_ | refine aw_skip ?_)
  all_goals exact end_ret (res_of rfl ⟨trivial, trivial, trivial⟩ rfl)
theorem resultR_19 (int : Int) (v : Val) (nm : ByteArray) (args : List Ex) (l kinds : List Int) (hl : l.length ≤ 100000) : Pure Tryz.prog 140 [.agg (tE (.mk 19 int v nm args)), .one (tInts l), .one (tInts kinds)] (vIB (resRF 19 v l)) := by
  rw [tE_mk]
  refine pure_of_aw tab_ok Tryz.func140 rfl rfl Tryz.ntmps140 (by simp) ?_
  simp only [argT, PV.av, List.map_cons, List.map_nil]
  have hal := allR_pure l 2 (by omega)
  have hr : resRF 19 v l = (2, allRF l 2) := rfl
  rw [hr]
  generalize allRF l 2 = aa at hal
  repeat' (first | refine st_nil ?_ | (refine st_pop rfl rfl rfl rfl ?_ ?_; · exact ok_) | (refine st_lop rfl rfl rfl rfl ?_ ?_; · exact ok_) | (refine st_store rfl rfl rfl ?_ ?_; · exact ok_) | (refine st_lit rfl rfl rfl rfl ?_ ?_; · exact ok_) | refine st_skip rfl rfl rfl ?_ | refine st_skip0 rfl rfl ?_ | refine st_call rfl rfl rfl rfl hal rfl ?_ | (refine st_if rfl (fun hb => ?_) (fun hb => ?_) <;> (first | exact no_ hb | rw [hb])) | refine aw_seq ?_ | refine aw_region tab_ok _ rfl ?_ | refine aw_drawn2 tabS_ok _ rfl mixed (by decide +kernel) ?_ | (refine aw_cond rfl (fun hb => ?_) (fun hb => ?_) <;> (try exact no_ hb)) | refine aw_block ?_ | refine aw_exit ?_ | refine aw_ret ?_ | refine aw_skip ?_)
  all_goals exact end_ret (res_of rfl ⟨trivial, trivial, trivial⟩ rfl)
theorem resultR_20 (int : Int) (v : Val) (nm : ByteArray) (args : List Ex) (l kinds : List Int) (hl : l.length ≤ 100000) : Pure Tryz.prog 140 [.agg (tE (.mk 20 int v nm args)), .one (tInts l), .one (tInts kinds)] (vIB (resRF 20 v l)) := by
  rw [tE_mk]
  refine pure_of_aw tab_ok Tryz.func140 rfl rfl Tryz.ntmps140 (by simp) ?_
  simp only [argT, PV.av, List.map_cons, List.map_nil]
  have hal := allR_pure l 2 (by omega)
  have hr : resRF 20 v l = (1, allRF l 2) := rfl
  rw [hr]
  generalize allRF l 2 = aa at hal
  repeat' (first | refine st_nil ?_ | (refine st_pop rfl rfl rfl rfl ?_ ?_; · exact ok_) | (refine st_lop rfl rfl rfl rfl ?_ ?_; · exact ok_) | (refine st_store rfl rfl rfl ?_ ?_; · exact ok_) | (refine st_lit rfl rfl rfl rfl ?_ ?_; · exact ok_) | refine st_skip rfl rfl rfl ?_ | refine st_skip0 rfl rfl ?_ | refine st_call rfl rfl rfl rfl hal rfl ?_ | (refine st_if rfl (fun hb => ?_) (fun hb => ?_) <;> (first | exact no_ hb | rw [hb])) | refine aw_seq ?_ | refine aw_region tab_ok _ rfl ?_ | refine aw_drawn2 tabS_ok _ rfl mixed (by decide +kernel) ?_ | (refine aw_cond rfl (fun hb => ?_) (fun hb => ?_) <;> (try exact no_ hb)) | refine aw_block ?_ | refine aw_exit ?_ | refine aw_ret ?_ | refine aw_skip ?_)
  all_goals exact end_ret (res_of rfl ⟨trivial, trivial, trivial⟩ rfl)
theorem resultR_21 (int : Int) (v : Val) (nm : ByteArray) (args : List Ex) (l kinds : List Int) (hl : l.length ≤ 100000) : Pure Tryz.prog 140 [.agg (tE (.mk 21 int v nm args)), .one (tInts l), .one (tInts kinds)] (vIB (resRF 21 v l)) := by
  rw [tE_mk]
  refine pure_of_aw tab_ok Tryz.func140 rfl rfl Tryz.ntmps140 (by simp) ?_
  simp only [argT, PV.av, List.map_cons, List.map_nil]
  repeat' (first | refine st_nil ?_ | (refine st_pop rfl rfl rfl rfl ?_ ?_; · exact ok_) | (refine st_lop rfl rfl rfl rfl ?_ ?_; · exact ok_) | (refine st_store rfl rfl rfl ?_ ?_; · exact ok_) | (refine st_lit rfl rfl rfl rfl ?_ ?_; · exact ok_) | refine st_skip rfl rfl rfl ?_ | refine st_skip0 rfl rfl ?_ | (refine st_if rfl (fun hb => ?_) (fun hb => ?_) <;> (first | exact no_ hb | rw [hb])) | refine aw_seq ?_ | refine aw_region tab_ok _ rfl ?_ | refine aw_drawn2 tabS_ok _ rfl mixed (by decide +kernel) ?_ | (refine aw_cond rfl (fun hb => ?_) (fun hb => ?_) <;> (try exact no_ hb)) | refine aw_block ?_ | refine aw_exit ?_ | refine aw_ret ?_ | refine aw_skip ?_)
  all_goals exact end_ret (res_of rfl ⟨trivial, trivial, trivial⟩ rfl)
theorem resultR_22 (int : Int) (v : Val) (nm : ByteArray) (args : List Ex) (a b c : Int) (kinds : List Int) : Pure Tryz.prog 140 [.agg (tE (.mk 22 int v nm args)), .one (tInts [a, b, c]), .one (tInts kinds)] (vIB (resRF 22 v [a, b, c])) := by
  rw [tE_mk]
  refine pure_of_aw tab_ok Tryz.func140 rfl rfl Tryz.ntmps140 (by simp) ?_
  simp only [argT, PV.av, List.map_cons, List.map_nil]
  have hun := joinR_pure [b, c] (by simp)
  have hal := allR_pure [a] 3 (by simp)
  have hr : resRF 22 v [a, b, c] = ((uniteF [b, c] 0).1, bif (uniteF [b, c] 0).2 then allRF [a] 3 else false) := rfl
  rw [hr]
  generalize uniteF [b, c] 0 = uu at hun
  obtain ⟨u1, u2⟩ := uu
  have hun' : Pure Tryz.prog 179 [.one (tInts [b, c])] (.tup [.one (.int .i64 u1), .one (.bool u2)]) := hun
  generalize allRF [a] 3 = aa at hal
  cases u2
  · repeat' (first | refine st_nil ?_ | (refine st_pop rfl rfl rfl rfl ?_ ?_; · (repeat' (first | exact trivial | rfl | exact Nat.le_of_ble_eq_true rfl | omega | (intro e he; simp only [List.mem_map, List.mem_cons, List.not_mem_nil, or_false] at he; obtain ⟨x, _, rfl⟩ := he; rfl) | exact Int.le_refl _ | exact (show (1 : Int) ≤ 3 by omega) | exact ints_wide _ | apply And.intro))) | (refine st_lop rfl rfl rfl rfl ?_ ?_; · (repeat' (first | exact trivial | rfl | exact Nat.le_of_ble_eq_true rfl | omega | (intro e he; simp only [List.mem_map, List.mem_cons, List.not_mem_nil, or_false] at he; obtain ⟨x, _, rfl⟩ := he; rfl) | exact Int.le_refl _ | exact (show (1 : Int) ≤ 3 by omega) | exact ints_wide _ | apply And.intro))) | (refine st_store rfl rfl rfl ?_ ?_; · (repeat' (first | exact trivial | rfl | exact Nat.le_of_ble_eq_true rfl | omega | (intro e he; simp only [List.mem_map, List.mem_cons, List.not_mem_nil, or_false] at he; obtain ⟨x, _, rfl⟩ := he; rfl) | exact Int.le_refl _ | exact (show (1 : Int) ≤ 3 by omega) | exact ints_wide _ | apply And.intro))) | (refine st_lit rfl rfl rfl rfl ?_ ?_; · (repeat' (first | exact trivial | rfl | exact Nat.le_of_ble_eq_true rfl | omega | (intro e he; simp only [List.mem_map, List.mem_cons, List.not_mem_nil, or_false] at he; obtain ⟨x, _, rfl⟩ := he; rfl) | exact Int.le_refl _ | exact (show (1 : Int) ≤ 3 by omega) | exact ints_wide _ | apply And.intro))) | refine st_skip rfl rfl rfl ?_ | refine st_skip0 rfl rfl ?_ | refine st_call rfl rfl rfl rfl hun' rfl ?_ | refine st_call rfl rfl rfl rfl hal rfl ?_ | (refine st_if rfl (fun hb => ?_) (fun hb => ?_) <;> (first | exact no_ hb | rw [hb])) | refine aw_seq ?_ | refine aw_region tab_ok _ rfl ?_ | refine aw_drawn2 tabS_ok _ rfl mixed (by decide +kernel) ?_ | (refine aw_cond rfl (fun hb => ?_) (fun hb => ?_) <;> (try exact no_ hb)) | refine aw_block ?_ | refine aw_exit ?_ | refine aw_ret ?_ | refine aw_skip ?_)
    all_goals exact end_ret (res_of rfl ⟨trivial, trivial, trivial⟩ rfl)
  · repeat' (first | refine st_nil ?_ | (refine st_pop rfl rfl rfl rfl ?_ ?_; · (repeat' (first | exact trivial | rfl | exact Nat.le_of_ble_eq_true rfl | omega | (intro e he; simp only [List.mem_map, List.mem_cons, List.not_mem_nil, or_false] at he; obtain ⟨x, _, rfl⟩ := he; rfl) | exact Int.le_refl _ | exact (show (1 : Int) ≤ 3 by omega) | exact ints_wide _ | apply And.intro))) | (refine st_lop rfl rfl rfl rfl ?_ ?_; · (repeat' (first | exact trivial | rfl | exact Nat.le_of_ble_eq_true rfl | omega | (intro e he; simp only [List.mem_map, List.mem_cons, List.not_mem_nil, or_false] at he; obtain ⟨x, _, rfl⟩ := he; rfl) | exact Int.le_refl _ | exact (show (1 : Int) ≤ 3 by omega) | exact ints_wide _ | apply And.intro))) | (refine st_store rfl rfl rfl ?_ ?_; · (repeat' (first | exact trivial | rfl | exact Nat.le_of_ble_eq_true rfl | omega | (intro e he; simp only [List.mem_map, List.mem_cons, List.not_mem_nil, or_false] at he; obtain ⟨x, _, rfl⟩ := he; rfl) | exact Int.le_refl _ | exact (show (1 : Int) ≤ 3 by omega) | exact ints_wide _ | apply And.intro))) | (refine st_lit rfl rfl rfl rfl ?_ ?_; · (repeat' (first | exact trivial | rfl | exact Nat.le_of_ble_eq_true rfl | omega | (intro e he; simp only [List.mem_map, List.mem_cons, List.not_mem_nil, or_false] at he; obtain ⟨x, _, rfl⟩ := he; rfl) | exact Int.le_refl _ | exact (show (1 : Int) ≤ 3 by omega) | exact ints_wide _ | apply And.intro))) | refine st_skip rfl rfl rfl ?_ | refine st_skip0 rfl rfl ?_ | refine st_call rfl rfl rfl rfl hun' rfl ?_ | refine st_call rfl rfl rfl rfl hal rfl ?_ | (refine st_if rfl (fun hb => ?_) (fun hb => ?_) <;> (first | exact no_ hb | rw [hb])) | refine aw_seq ?_ | refine aw_region tab_ok _ rfl ?_ | refine aw_drawn2 tabS_ok _ rfl mixed (by decide +kernel) ?_ | (refine aw_cond rfl (fun hb => ?_) (fun hb => ?_) <;> (try exact no_ hb)) | refine aw_block ?_ | refine aw_exit ?_ | refine aw_ret ?_ | refine aw_skip ?_)
    all_goals exact end_ret (res_of rfl ⟨trivial, trivial, trivial⟩ rfl)
theorem resultR_23 (int : Int) (v : Val) (nm : ByteArray) (args : List Ex) (l kinds : List Int) (hl : l.length ≤ 100000) : Pure Tryz.prog 140 [.agg (tE (.mk 23 int v nm args)), .one (tInts l), .one (tInts kinds)] (vIB (resRF 23 v l)) := by
  rw [tE_mk]
  refine pure_of_aw tab_ok Tryz.func140 rfl rfl Tryz.ntmps140 (by simp) ?_
  simp only [argT, PV.av, List.map_cons, List.map_nil]
  have hun := joinR_pure l (by omega)
  have hr : resRF 23 v l = uniteF l 0 := rfl
  rw [hr]
  generalize uniteF l 0 = uu at hun
  obtain ⟨u1, u2⟩ := uu
  have hun' : Pure Tryz.prog 179 [.one (tInts l)] (.tup [.one (.int .i64 u1), .one (.bool u2)]) := hun
  repeat' (first | refine st_nil ?_ | (refine st_pop rfl rfl rfl rfl ?_ ?_; · exact ok_) | (refine st_lop rfl rfl rfl rfl ?_ ?_; · exact ok_) | (refine st_store rfl rfl rfl ?_ ?_; · exact ok_) | (refine st_lit rfl rfl rfl rfl ?_ ?_; · exact ok_) | refine st_skip rfl rfl rfl ?_ | refine st_skip0 rfl rfl ?_ | refine st_call rfl rfl rfl rfl hun' rfl ?_ | (refine st_if rfl (fun hb => ?_) (fun hb => ?_) <;> (first | exact no_ hb | rw [hb])) | refine aw_seq ?_ | refine aw_region tab_ok _ rfl ?_ | refine aw_drawn2 tabS_ok _ rfl mixed (by decide +kernel) ?_ | (refine aw_cond rfl (fun hb => ?_) (fun hb => ?_) <;> (try exact no_ hb)) | refine aw_block ?_ | refine aw_exit ?_ | refine aw_ret ?_ | refine aw_skip ?_)
  all_goals exact end_ret (res_of rfl ⟨trivial, trivial, trivial⟩ rfl)
theorem resultR_24 (int : Int) (v : Val) (nm : ByteArray) (args : List Ex) (l kinds : List Int) (hl : l.length ≤ 100000) : Pure Tryz.prog 140 [.agg (tE (.mk 24 int v nm args)), .one (tInts l), .one (tInts kinds)] (vIB (resRF 24 v l)) := by
  rw [tE_mk]
  refine pure_of_aw tab_ok Tryz.func140 rfl rfl Tryz.ntmps140 (by simp) ?_
  simp only [argT, PV.av, List.map_cons, List.map_nil]
  have hal := allR_pure l 1 (by omega)
  have hr : resRF 24 v l = (3, allRF l 1) := rfl
  rw [hr]
  generalize allRF l 1 = aa at hal
  repeat' (first | refine st_nil ?_ | (refine st_pop rfl rfl rfl rfl ?_ ?_; · exact ok_) | (refine st_lop rfl rfl rfl rfl ?_ ?_; · exact ok_) | (refine st_store rfl rfl rfl ?_ ?_; · exact ok_) | (refine st_lit rfl rfl rfl rfl ?_ ?_; · exact ok_) | refine st_skip rfl rfl rfl ?_ | refine st_skip0 rfl rfl ?_ | refine st_call rfl rfl rfl rfl hal rfl ?_ | (refine st_if rfl (fun hb => ?_) (fun hb => ?_) <;> (first | exact no_ hb | rw [hb])) | refine aw_seq ?_ | refine aw_region tab_ok _ rfl ?_ | refine aw_drawn2 tabS_ok _ rfl mixed (by decide +kernel) ?_ | (refine aw_cond rfl (fun hb => ?_) (fun hb => ?_) <;> (try exact no_ hb)) | refine aw_block ?_ | refine aw_exit ?_ | refine aw_ret ?_ | refine aw_skip ?_)
  all_goals exact end_ret (res_of rfl ⟨trivial, trivial, trivial⟩ rfl)
end Go.Proofs.YtfpbmfalamappaaGreatDoor

namespace Go.Proofs.YtfpbmfalamappaaGreatDoor
open Go.RowKit Go.MapKept
set_option maxRecDepth 100000
def resRK (kinds : List Int) (op int : Int) (v : Val) (l : List Int) : Int × Bool := bif decide (op = 2) then (kinds.getD int.toNat 0, true) else resRF op v l
theorem arity_neg {op : Int} (h : ∀ x ∈ opsL, op ≠ x) : (arity op).1 = -1 := by
  have q : ∀ l : List Int, (∀ x ∈ l, x ∈ opsL) → inL op l = false := fun l hl => inL_no fun x hx => h x (hl x hx)
  unfold arity
  rw [q [1, 2] (by decide), q [4, 18, 20, 21] (by decide), q [5, 6] (by decide), q [7, 8, 9, 10, 11, 12, 13, 14, 15, 16, 17, 19] (by decide), q [22] (by decide), q [23] (by decide), q [24] (by decide)]
  rfl
theorem arity_mem {op : Int} (h : ¬ (arity op).1 < 0) : op ∈ opsL := by
  by_cases hh : op ∈ opsL
  · exact hh
  · rw [arity_neg (fun x hx e => hh (by rw [e]; exact hx))] at h; exact absurd (by decide) h
theorem resultR_pure (op int : Int) (v : Val) (nm : ByteArray) (args : List Ex) (l kinds : List Int) (hl : l.length ≤ 100000) (hm : op ∈ opsL) (h22 : op = 22 → l.length = 3) (h2 : op = 2 → inK kinds int = true) : Pure Tryz.prog 140 [.agg (tE (.mk op int v nm args)), .one (tInts l), .one (tInts kinds)] (vIB (resRK kinds op int v l)) := by
  simp only [opsL, List.mem_cons, List.not_mem_nil, or_false] at hm
  rcases hm with rfl | rfl | rfl | rfl | rfl | rfl | rfl | rfl | rfl | rfl | rfl | rfl | rfl | rfl | rfl | rfl | rfl | rfl | rfl | rfl | rfl | rfl | rfl
  · exact resultR_1 int v nm args l kinds hl
  · obtain ⟨hk0, y, hy⟩ := inK_get (h2 rfl)
    have hh : resRK kinds 2 int v l = (y, true) := by show (kinds.getD int.toNat 0, true) = _; rw [getD_of hy]
    rw [hh]; exact resultR_2 int v nm args l kinds y hk0 hy
  · exact resultR_4 int v nm args l kinds hl
  · exact resultR_5 int v nm args l kinds hl
  · exact resultR_6 int v nm args l kinds hl
  · exact resultR_7 int v nm args l kinds hl
  · exact resultR_8 int v nm args l kinds hl
  · exact resultR_9 int v nm args l kinds hl
  · exact resultR_10 int v nm args l kinds hl
  · exact resultR_11 int v nm args l kinds hl
  · exact resultR_12 int v nm args l kinds hl
  · exact resultR_13 int v nm args l kinds hl
  · exact resultR_14 int v nm args l kinds hl
  · exact resultR_15 int v nm args l kinds hl
  · exact resultR_16 int v nm args l kinds hl
  · exact resultR_17 int v nm args l kinds hl
  · exact resultR_18 int v nm args l kinds hl
  · exact resultR_19 int v nm args l kinds hl
  · exact resultR_20 int v nm args l kinds hl
  · exact resultR_21 int v nm args l kinds hl
  · have h3 := h22 rfl
    match l, h3 with
    | [a, b, c], _ => exact resultR_22 int v nm args a b c kinds
  · exact resultR_23 int v nm args l kinds hl
  · exact resultR_24 int v nm args l kinds hl
mutual
def chkR (kinds : List Int) : Ex → Int × Int
  | .mk op int v nm args => bif decide ((arity op).1 < 0) then (0, 7) else bif !(formedRF op int v nm (args.length : Nat)) then (0, 8) else bif (bif decide (op = 2) then !(inK kinds int) else false) then (0, 13)
    else match chksR kinds args [] with
      | .inl e => (0, e)
      | .inr l => bif (resRK kinds op int v l).2 then ((resRK kinds op int v l).1, 0) else (0, 7)
def chksR (kinds : List Int) : List Ex → List Int → Sum Int (List Int)
  | [], acc => .inr acc
  | x :: r, acc => bif decide ((chkR kinds x).2 = 0) then chksR kinds r (acc ++ [(chkR kinds x).1]) else .inl (chkR kinds x).2
end
theorem chkR_mk (kinds : List Int) (op int : Int) (v : Val) (nm : ByteArray) (args : List Ex) : chkR kinds (.mk op int v nm args) = bif decide ((arity op).1 < 0) then (0, 7) else bif !(formedRF op int v nm (args.length : Nat)) then (0, 8) else bif (bif decide (op = 2) then !(inK kinds int) else false) then (0, 13)
    else match chksR kinds args [] with
      | .inl e => (0, e)
      | .inr l => bif (resRK kinds op int v l).2 then ((resRK kinds op int v l).1, 0) else (0, 7) := by rw [chkR]
theorem chksR_drop (kinds : List Int) (l : List Ex) (acc : List Int) {i : Nat} {x : Ex} (h : l[i]? = some x) : chksR kinds (l.drop i) acc = bif decide ((chkR kinds x).2 = 0) then chksR kinds (l.drop (i + 1)) (acc ++ [(chkR kinds x).1]) else .inl (chkR kinds x).2 := by
  obtain ⟨h1, e1⟩ := List.getElem?_eq_some_iff.1 h
  rw [List.drop_eq_getElem_cons h1, e1, chksR]
theorem formedR_22 {op int : Int} {v : Val} {nm : ByteArray} {n : Nat} (h : formedRF op int v nm n = true) (e : op = 22) : n = 3 := by
  subst e
  unfold formedRF at h
  have ha : arity 22 = (3, 3) := by decide
  rw [ha] at h
  simp only [show decide ((3 : Int) < 0) = false from by decide, cond_false] at h
  by_cases h1 : (n : Int) < 3
  · simp [h1] at h
  · by_cases h2 : (3 : Int) < n
    · simp [h2] at h
    · omega
end Go.Proofs.YtfpbmfalamappaaGreatDoor

namespace Go.Proofs.YtfpbmfalamappaaGreatDoor
open Go.RowKit Go.MapKept
set_option maxRecDepth 100000
set_option maxHeartbeats 2000000 in
theorem checkR_pure (kinds : List Int) (hkl : kinds.length ≤ 100000) {e : Ex} (h : e.Sm) : Pure Tryz.prog 107 [.agg (tE e), .one (tInts kinds)] (v2 (chkR kinds e)) := by
  induction h with
  | @mk op int v nm args hal htx _ ih =>
    have hfo := formedR_pure op int v nm args htx
    have har := arity_pure op
    have hres := fun (l : List Int) => resultR_pure op int v nm args l kinds
    have hch := chkR_mk kinds op int v nm args
    have h22 := @formedR_22 op int v nm args.length
    have ham := @arity_mem op
    rw [tE_mk] at hfo ⊢
    have hml : (((args.map tE).length : Nat) : Int) = args.length := by simp
    have hkm : (((kinds.map fun x => [AC.int .i64 x]).length : Nat) : Int) = kinds.length := by simp
    have fin : ∀ {T : Tm} {L : List Ob} {w : Int × Int}, w = chkR kinds (.mk op int v nm args) → Res tab Tryz.f107.results.toList T L (v2 w) → Res tab Tryz.f107.results.toList T L (v2 (chkR kinds (.mk op int v nm args))) := fun e h => by rw [← e]; exact h
    generalize arity op = cc at har hch ham
    obtain ⟨c1, c2⟩ := cc
    have har' : Pure Tryz.prog 138 [.one (.int .i64 op)] (.tup [.one (.int .i64 c1), .one (.int .i64 c2)]) := har
    dsimp only at hch ham
    refine pure_of_aw tab_ok Tryz.func107 rfl rfl Tryz.ntmps107 (by simp) ?_
    simp only [argT, PV.av, List.map_cons, List.map_nil]
    by_cases hc1 : c1 < 0
    · have q1 : decide (c1 < 0) = true := by simp [hc1]
      rw [q1, cond_true] at hch
      repeat' (first | refine st_nil ?_ | rw [q1] | (refine st_pop rfl rfl rfl rfl ?_ ?_; · exact ok_) | (refine st_lop rfl rfl rfl rfl ?_ ?_; · exact ok_) | (refine st_store rfl rfl rfl ?_ ?_; · exact ok_) | (refine st_lit rfl rfl rfl rfl ?_ ?_; · exact ok_) | refine st_skip rfl rfl rfl ?_ | refine st_skip0 rfl rfl ?_ | refine st_call rfl rfl rfl rfl har' rfl ?_ | refine st_call rfl rfl rfl rfl hfo rfl ?_ | (refine st_if rfl (fun hb => ?_) (fun hb => ?_) <;> (first | exact no_ hb | rw [hb])) | refine aw_seq ?_ | refine aw_region tab_ok _ rfl ?_ | refine aw_drawn2 tabS_ok _ rfl mixed (by decide +kernel) ?_ | (refine aw_cond rfl (fun hb => ?_) (fun hb => ?_) <;> (try exact no_ hb)) | refine aw_block ?_ | refine aw_exit ?_ | refine aw_ret ?_ | refine aw_skip ?_)
      exact end_ret (fin (w := (0, 7)) hch.symm (res_of rfl ⟨trivial, trivial, trivial⟩ rfl))
    · have q1 : decide (c1 < 0) = false := by simp [hc1]
      rw [q1, cond_false] at hch
      have hmem := ham hc1
      generalize formedRF op int v nm (args.length : Nat) = ff at hfo hch h22
      cases ff with
      | false =>
        repeat' (first | refine st_nil ?_ | rw [q1] | (refine st_pop rfl rfl rfl rfl ?_ ?_; · exact ok_) | (refine st_lop rfl rfl rfl rfl ?_ ?_; · exact ok_) | (refine st_store rfl rfl rfl ?_ ?_; · exact ok_) | (refine st_lit rfl rfl rfl rfl ?_ ?_; · exact ok_) | refine st_skip rfl rfl rfl ?_ | refine st_skip0 rfl rfl ?_ | refine st_call rfl rfl rfl rfl har' rfl ?_ | refine st_call rfl rfl rfl rfl hfo rfl ?_ | (refine st_if rfl (fun hb => ?_) (fun hb => ?_) <;> (first | exact no_ hb | rw [hb])) | refine aw_seq ?_ | refine aw_region tab_ok _ rfl ?_ | refine aw_drawn2 tabS_ok _ rfl mixed (by decide +kernel) ?_ | (refine aw_cond rfl (fun hb => ?_) (fun hb => ?_) <;> (try exact no_ hb)) | refine aw_block ?_ | refine aw_exit ?_ | refine aw_ret ?_ | refine aw_skip ?_)
        exact end_ret (fin (w := (0, 8)) hch.symm (res_of rfl ⟨trivial, trivial, trivial⟩ rfl))
      | true =>
        have h22' := h22 rfl
        simp only [Bool.not_true, cond_false] at hch
        by_cases hbad : (bif decide (op = 2) then !(inK kinds int) else false) = true
        · rw [hbad, cond_true] at hch
          by_cases h2 : op = 2
          · have q2 : decide (op = 2) = true := by simp [h2]
            rw [q2, cond_true] at hbad
            have hin : inK kinds int = false := by cases hq : inK kinds int <;> simp [hq] at hbad; rfl
            by_cases h0 : int < 0
            · have q3 : decide (int < 0) = true := by simp [h0]
              repeat' (first | refine st_nil ?_ | rw [q1] | rw [q2] | rw [q3] | (refine st_pop rfl rfl rfl rfl ?_ ?_; · exact ok_) | (refine st_lop rfl rfl rfl rfl ?_ ?_; · exact ok_) | (refine st_store rfl rfl rfl ?_ ?_; · exact ok_) | (refine st_lit rfl rfl rfl rfl ?_ ?_; · exact ok_) | refine st_skip rfl rfl rfl ?_ | refine st_skip0 rfl rfl ?_ | refine st_call rfl rfl rfl rfl har' rfl ?_ | refine st_call rfl rfl rfl rfl hfo rfl ?_ | (refine st_if rfl (fun hb => ?_) (fun hb => ?_) <;> (first | exact no_ hb | rw [hb])) | refine aw_seq ?_ | refine aw_region tab_ok _ rfl ?_ | refine aw_drawn2 tabS_ok _ rfl mixed (by decide +kernel) ?_ | (refine aw_cond rfl (fun hb => ?_) (fun hb => ?_) <;> (try exact no_ hb)) | refine aw_block ?_ | refine aw_exit ?_ | refine aw_ret ?_ | refine aw_skip ?_)
              exact end_ret (fin (w := (0, 13)) hch.symm (res_of rfl ⟨trivial, trivial, trivial⟩ rfl))
            · have q3 : decide (int < 0) = false := by simp [h0]
              have q4 : decide ((((kinds.map fun x => [AC.int .i64 x]).length : Nat) : Int) ≤ int) = true := by rw [hkm]; unfold inK at hin; rw [q3] at hin; simpa using hin
              repeat' (first | refine st_nil ?_ | rw [q1] | rw [q2] | rw [q3] | rw [q4] | (refine st_pop rfl rfl rfl rfl ?_ ?_; · exact ok_) | (refine st_lop rfl rfl rfl rfl ?_ ?_; · exact ok_) | (refine st_store rfl rfl rfl ?_ ?_; · exact ok_) | (refine st_lit rfl rfl rfl rfl ?_ ?_; · exact ok_) | refine st_skip rfl rfl rfl ?_ | refine st_skip0 rfl rfl ?_ | refine st_call rfl rfl rfl rfl har' rfl ?_ | refine st_call rfl rfl rfl rfl hfo rfl ?_ | (refine st_if rfl (fun hb => ?_) (fun hb => ?_) <;> (first | exact no_ hb | rw [hb])) | refine aw_seq ?_ | refine aw_region tab_ok _ rfl ?_ | refine aw_drawn2 tabS_ok _ rfl mixed (by decide +kernel) ?_ | (refine aw_cond rfl (fun hb => ?_) (fun hb => ?_) <;> (try exact no_ hb)) | refine aw_block ?_ | refine aw_exit ?_ | refine aw_ret ?_ | refine aw_skip ?_)
              exact end_ret (fin (w := (0, 13)) hch.symm (res_of rfl ⟨trivial, trivial, trivial⟩ rfl))
          · simp [h2] at hbad
        · have hbad' : (bif decide (op = 2) then !(inK kinds int) else false) = false := by simpa using hbad
          rw [hbad', cond_false] at hch
          have hin2 : op = 2 → inK kinds int = true := by intro h2; rw [decide_eq_true h2, cond_true] at hbad'; simpa using hbad'
          by_cases h2 : op = 2
          · have q2 : decide (op = 2) = true := by simp [h2]
            have hin := hin2 h2
            obtain ⟨hk0, y, hy⟩ := inK_get hin
            have q3 : decide (int < 0) = false := by simp; omega
            have q4 : decide ((((kinds.map fun x => [AC.int .i64 x]).length : Nat) : Int) ≤ int) = false := by rw [hkm]; unfold inK at hin; rw [q3] at hin; simpa using hin
            repeat' (first | refine st_nil ?_ | rw [q1] | rw [q2] | rw [q3] | rw [q4] | (refine st_pop rfl rfl rfl rfl ?_ ?_; · exact ok_) | (refine st_lop rfl rfl rfl rfl ?_ ?_; · exact ok_) | (refine st_store rfl rfl rfl ?_ ?_; · exact ok_) | (refine st_lit rfl rfl rfl rfl ?_ ?_; · exact ok_) | refine st_skip rfl rfl rfl ?_ | refine st_skip0 rfl rfl ?_ | refine st_call rfl rfl rfl rfl har' rfl ?_ | refine st_call rfl rfl rfl rfl hfo rfl ?_ | (refine st_if rfl (fun hb => ?_) (fun hb => ?_) <;> (first | exact no_ hb | rw [hb])) | refine aw_seq ?_ | refine aw_region tab_ok _ rfl ?_ | refine aw_drawn2 tabS_ok _ rfl mixed (by decide +kernel) ?_ | (refine aw_cond rfl (fun hb => ?_) (fun hb => ?_) <;> (try exact no_ hb)) | refine aw_block ?_ | refine aw_exit ?_ | refine aw_ret ?_ | refine aw_skip ?_)
            refine aw_tok 8 1 rfl ?_
            obtain ⟨k, hk⟩ : ∃ k, args.length = k := ⟨_, rfl⟩
            have hmk : (((args.map tE).length : Nat) : Int) = k := by simp [hk]
            refine aw_loop (fun s : Nat × List Int => match s with | (i, acc) => [(1, .one (.c (tInts kinds))), (2, .one (.ptr 0 0)), (8, .one (.own (acc.map fun x => [AC.int .i64 x]) 1)), (9, .one (.c (.int .i64 i)))]) (fun s => [.box [.c (.int .i64 op), .c (.int .i64 int), .c (.int .i64 v.kind), .c (.int .i64 v.int), .c (.str v.text), .c (.str nm), .c (.lst (args.map tE))], .spare s.2.length 1]) (fun s => s.1 ≤ k ∧ s.2.length = s.1 ∧ chksR kinds args [] = chksR kinds (args.drop s.1) s.2) (fun s => k - s.1) (0, []) ⟨by omega, rfl, rfl⟩ (fun _ _ => Nat.zero_le _)
              (fits_mk ⟨rfl, rfl, rfl, rfl, trivial⟩ [] rfl ⟨trivial, by show 0 < 2; omega, by show 1 < 2; omega, trivial, trivial⟩ ⟨box7_below, trivial, trivial⟩) ?_
            rintro ⟨i, acc⟩ ⟨hi, hacc, hr⟩
            dsimp only at hi hacc hr ⊢
            have ham : (acc.map fun x => [AC.int .i64 x]).length = acc.length := by simp
            by_cases hlt : i < k
            · obtain ⟨x, hx⟩ := get_of_lt (show i < args.length by omega)
              have hN : decide ((i : Int) < ((args.map tE).length : Nat)) = true := by rw [hmk]; simp; exact hlt
              have hix : (args.map tE)[((i : Nat) : Int).toNat]? = some (tE x) := idx_map hx
              have hst := chksR_drop kinds args acc hx
              have hc := ih x (List.mem_of_getElem? hx)
              generalize chkR kinds x = rr at hst hc
              obtain ⟨r1, r2⟩ := rr
              have hc' : Pure Tryz.prog 107 [.agg (tE x), .one (tInts kinds)] (.tup [.one (.int .i64 r1), .one (.int .i64 r2)]) := hc
              obtain ⟨op', n', v', nm', args'⟩ := x
              rw [tE_mk] at hix hc'
              by_cases hz : r2 = 0
              · have q5 : decide (r2 ≠ 0) = false := by simp [hz]
                have q6 : decide (r2 = 0) = true := by simp [hz]
                dsimp only at hst
                rw [q6, cond_true] at hst
                repeat' (first | refine st_nil ?_ | rw [hN] | rw [q5] | (refine st_pop rfl rfl rfl rfl ?_ ?_; · (repeat' (first | exact trivial | rfl | exact Nat.le_of_ble_eq_true rfl | omega | (intro e he; simp at he; subst he; rfl) | exact ham | (show (_ + 1) * 8 ≤ _; omega) | (show _ + 1 ≤ _; omega) | apply And.intro))) | (refine st_idx rfl rfl rfl rfl rfl rfl rfl rfl hix ?_ ?_; · exact ⟨by omega, rfl⟩) | (refine st_lop rfl rfl rfl rfl ?_ ?_; · (repeat' (first | exact trivial | rfl | exact Nat.le_of_ble_eq_true rfl | omega | (intro e he; simp at he; subst he; rfl) | exact ham | (show (_ + 1) * 8 ≤ _; omega) | (show _ + 1 ≤ _; omega) | apply And.intro))) | (refine st_store rfl rfl rfl ?_ ?_; · (repeat' (first | exact trivial | rfl | exact Nat.le_of_ble_eq_true rfl | omega | (intro e he; simp at he; subst he; rfl) | exact ham | (show (_ + 1) * 8 ≤ _; omega) | (show _ + 1 ≤ _; omega) | apply And.intro))) | (refine st_lit rfl rfl rfl rfl ?_ ?_; · (repeat' (first | exact trivial | rfl | exact Nat.le_of_ble_eq_true rfl | omega | (intro e he; simp at he; subst he; rfl) | exact ham | (show (_ + 1) * 8 ≤ _; omega) | (show _ + 1 ≤ _; omega) | apply And.intro))) | refine st_skip rfl rfl rfl ?_ | refine st_skip0 rfl rfl ?_ | refine st_call rfl rfl rfl rfl hc' rfl ?_ | (refine st_if rfl (fun hb => ?_) (fun hb => ?_) <;> (first | exact no_ hb | rw [hb])) | refine aw_seq ?_ | refine aw_region tab_ok _ rfl ?_ | refine aw_drawn2 tabS_ok _ rfl mixed (by decide +kernel) ?_ | (refine aw_cond rfl (fun hb => ?_) (fun hb => ?_) <;> (try exact no_ hb)) | refine aw_block ?_ | refine aw_exit ?_ | refine aw_ret ?_ | refine aw_skip ?_)
                exact ⟨(i + 1, acc ++ [r1]), ⟨by show i + 1 ≤ k; omega, by simp [hacc], hr.trans hst⟩, by show k - (i + 1) < k - i; omega, fits_mk ⟨rfl, rfl, slot_own (by rw [List.map_append]; rfl), slot_int (wrap_eq (by omega) (by omega)), trivial⟩ [] (by rw [List.length_append]; rfl) ⟨trivial, by show 0 < 2; omega, by show 1 < 2; omega, trivial, trivial⟩ ⟨box7_below, trivial, trivial⟩⟩
              · have q5 : decide (r2 ≠ 0) = true := by simp [hz]
                have q6 : decide (r2 = 0) = false := by simp [hz]
                dsimp only at hst
                rw [q6, cond_false] at hst
                rw [hr, hst] at hch
                repeat' (first | refine st_nil ?_ | rw [hN] | rw [q5] | (refine st_pop rfl rfl rfl rfl ?_ ?_; · (repeat' (first | exact trivial | rfl | exact Nat.le_of_ble_eq_true rfl | omega | (intro e he; simp at he; subst he; rfl) | exact ham | (show (_ + 1) * 8 ≤ _; omega) | (show _ + 1 ≤ _; omega) | apply And.intro))) | (refine st_idx rfl rfl rfl rfl rfl rfl rfl rfl hix ?_ ?_; · exact ⟨by omega, rfl⟩) | (refine st_lop rfl rfl rfl rfl ?_ ?_; · (repeat' (first | exact trivial | rfl | exact Nat.le_of_ble_eq_true rfl | omega | (intro e he; simp at he; subst he; rfl) | exact ham | (show (_ + 1) * 8 ≤ _; omega) | (show _ + 1 ≤ _; omega) | apply And.intro))) | (refine st_store rfl rfl rfl ?_ ?_; · (repeat' (first | exact trivial | rfl | exact Nat.le_of_ble_eq_true rfl | omega | (intro e he; simp at he; subst he; rfl) | exact ham | (show (_ + 1) * 8 ≤ _; omega) | (show _ + 1 ≤ _; omega) | apply And.intro))) | (refine st_lit rfl rfl rfl rfl ?_ ?_; · (repeat' (first | exact trivial | rfl | exact Nat.le_of_ble_eq_true rfl | omega | (intro e he; simp at he; subst he; rfl) | exact ham | (show (_ + 1) * 8 ≤ _; omega) | (show _ + 1 ≤ _; omega) | apply And.intro))) | refine st_skip rfl rfl rfl ?_ | refine st_skip0 rfl rfl ?_ | refine st_call rfl rfl rfl rfl hc' rfl ?_ | (refine st_if rfl (fun hb => ?_) (fun hb => ?_) <;> (first | exact no_ hb | rw [hb])) | refine aw_seq ?_ | refine aw_region tab_ok _ rfl ?_ | refine aw_drawn2 tabS_ok _ rfl mixed (by decide +kernel) ?_ | (refine aw_cond rfl (fun hb => ?_) (fun hb => ?_) <;> (try exact no_ hb)) | refine aw_block ?_ | refine aw_exit ?_ | refine aw_ret ?_ | refine aw_skip ?_)
                exact end_ret (fin (w := (0, r2)) hch.symm (res_of rfl ⟨trivial, trivial, trivial⟩ rfl))
            · have hN : decide ((i : Int) < ((args.map tE).length : Nat)) = false := by rw [hmk]; simp; omega
              have hdr : args.drop i = [] := List.drop_of_length_le (by omega)
              rw [hr, hdr] at hch
              have hch2 : chkR kinds (.mk op int v nm args) = bif (resRK kinds op int v acc).2 then ((resRK kinds op int v acc).1, 0) else (0, 7) := hch
              have hal2 : acc.length = args.length := by omega
              have hre := hres acc (by omega) hmem (fun e => by rw [hal2]; exact h22' e) hin2
              rw [tE_mk] at hre
              generalize resRK kinds op int v acc = rr at hre hch2
              obtain ⟨f1, f2⟩ := rr
              have hre' : Pure Tryz.prog 140 [.agg [.int .i64 op, .int .i64 int, .int .i64 v.kind, .int .i64 v.int, .str v.text, .str nm, .lst (args.map tE)], .one (tInts acc), .one (tInts kinds)] (.tup [.one (.int .i64 f1), .one (.bool f2)]) := hre
              cases f2 with
              | true =>
                repeat' (first | refine st_nil ?_ | rw [hN] | (refine st_pop rfl rfl rfl rfl ?_ ?_; · exact ok_) | (refine st_lop rfl rfl rfl rfl ?_ ?_; · exact ok_) | (refine st_store rfl rfl rfl ?_ ?_; · exact ok_) | (refine st_lit rfl rfl rfl rfl ?_ ?_; · exact ok_) | refine st_skip rfl rfl rfl ?_ | refine st_skip0 rfl rfl ?_ | refine st_call rfl rfl rfl rfl hre' rfl ?_ | (refine st_if rfl (fun hb => ?_) (fun hb => ?_) <;> (first | exact no_ hb | rw [hb])) | refine aw_seq ?_ | refine aw_region tab_ok _ rfl ?_ | refine aw_drawn2 tabS_ok _ rfl mixed (by decide +kernel) ?_ | (refine aw_cond rfl (fun hb => ?_) (fun hb => ?_) <;> (try exact no_ hb)) | refine aw_block ?_ | refine aw_exit ?_ | refine aw_ret ?_ | refine aw_skip ?_)
                exact end_ret (fin (w := (f1, 0)) hch2.symm (res_of rfl ⟨trivial, trivial, trivial⟩ rfl))
              | false =>
                repeat' (first | refine st_nil ?_ | rw [hN] | (refine st_pop rfl rfl rfl rfl ?_ ?_; · exact ok_) | (refine st_lop rfl rfl rfl rfl ?_ ?_; · exact ok_) | (refine st_store rfl rfl rfl ?_ ?_; · exact ok_) | (refine st_lit rfl rfl rfl rfl ?_ ?_; · exact ok_) | refine st_skip rfl rfl rfl ?_ | refine st_skip0 rfl rfl ?_ | refine st_call rfl rfl rfl rfl hre' rfl ?_ | (refine st_if rfl (fun hb => ?_) (fun hb => ?_) <;> (first | exact no_ hb | rw [hb])) | refine aw_seq ?_ | refine aw_region tab_ok _ rfl ?_ | refine aw_drawn2 tabS_ok _ rfl mixed (by decide +kernel) ?_ | (refine aw_cond rfl (fun hb => ?_) (fun hb => ?_) <;> (try exact no_ hb)) | refine aw_block ?_ | refine aw_exit ?_ | refine aw_ret ?_ | refine aw_skip ?_)
                exact end_ret (fin (w := (0, 7)) hch2.symm (res_of rfl ⟨trivial, trivial, trivial⟩ rfl))
          · have q2 : decide (op = 2) = false := by simp [h2]
            repeat' (first | refine st_nil ?_ | rw [q1] | rw [q2] | (refine st_pop rfl rfl rfl rfl ?_ ?_; · exact ok_) | (refine st_lop rfl rfl rfl rfl ?_ ?_; · exact ok_) | (refine st_store rfl rfl rfl ?_ ?_; · exact ok_) | (refine st_lit rfl rfl rfl rfl ?_ ?_; · exact ok_) | refine st_skip rfl rfl rfl ?_ | refine st_skip0 rfl rfl ?_ | refine st_call rfl rfl rfl rfl har' rfl ?_ | refine st_call rfl rfl rfl rfl hfo rfl ?_ | (refine st_if rfl (fun hb => ?_) (fun hb => ?_) <;> (first | exact no_ hb | rw [hb])) | refine aw_seq ?_ | refine aw_region tab_ok _ rfl ?_ | refine aw_drawn2 tabS_ok _ rfl mixed (by decide +kernel) ?_ | (refine aw_cond rfl (fun hb => ?_) (fun hb => ?_) <;> (try exact no_ hb)) | refine aw_block ?_ | refine aw_exit ?_ | refine aw_ret ?_ | refine aw_skip ?_)
            refine aw_tok 8 1 rfl ?_
            obtain ⟨k, hk⟩ : ∃ k, args.length = k := ⟨_, rfl⟩
            have hmk : (((args.map tE).length : Nat) : Int) = k := by simp [hk]
            refine aw_loop (fun s : Nat × List Int => match s with | (i, acc) => [(1, .one (.c (tInts kinds))), (2, .one (.ptr 0 0)), (8, .one (.own (acc.map fun x => [AC.int .i64 x]) 1)), (9, .one (.c (.int .i64 i)))]) (fun s => [.box [.c (.int .i64 op), .c (.int .i64 int), .c (.int .i64 v.kind), .c (.int .i64 v.int), .c (.str v.text), .c (.str nm), .c (.lst (args.map tE))], .spare s.2.length 1]) (fun s => s.1 ≤ k ∧ s.2.length = s.1 ∧ chksR kinds args [] = chksR kinds (args.drop s.1) s.2) (fun s => k - s.1) (0, []) ⟨by omega, rfl, rfl⟩ (fun _ _ => Nat.zero_le _)
              (fits_mk ⟨rfl, rfl, rfl, rfl, trivial⟩ [] rfl ⟨trivial, by show 0 < 2; omega, by show 1 < 2; omega, trivial, trivial⟩ ⟨box7_below, trivial, trivial⟩) ?_
            rintro ⟨i, acc⟩ ⟨hi, hacc, hr⟩
            dsimp only at hi hacc hr ⊢
            have ham : (acc.map fun x => [AC.int .i64 x]).length = acc.length := by simp
            by_cases hlt : i < k
            · obtain ⟨x, hx⟩ := get_of_lt (show i < args.length by omega)
              have hN : decide ((i : Int) < ((args.map tE).length : Nat)) = true := by rw [hmk]; simp; exact hlt
              have hix : (args.map tE)[((i : Nat) : Int).toNat]? = some (tE x) := idx_map hx
              have hst := chksR_drop kinds args acc hx
              have hc := ih x (List.mem_of_getElem? hx)
              generalize chkR kinds x = rr at hst hc
              obtain ⟨r1, r2⟩ := rr
              have hc' : Pure Tryz.prog 107 [.agg (tE x), .one (tInts kinds)] (.tup [.one (.int .i64 r1), .one (.int .i64 r2)]) := hc
              obtain ⟨op', n', v', nm', args'⟩ := x
              rw [tE_mk] at hix hc'
              by_cases hz : r2 = 0
              · have q5 : decide (r2 ≠ 0) = false := by simp [hz]
                have q6 : decide (r2 = 0) = true := by simp [hz]
                dsimp only at hst
                rw [q6, cond_true] at hst
                repeat' (first | refine st_nil ?_ | rw [hN] | rw [q5] | (refine st_pop rfl rfl rfl rfl ?_ ?_; · (repeat' (first | exact trivial | rfl | exact Nat.le_of_ble_eq_true rfl | omega | (intro e he; simp at he; subst he; rfl) | exact ham | (show (_ + 1) * 8 ≤ _; omega) | (show _ + 1 ≤ _; omega) | apply And.intro))) | (refine st_idx rfl rfl rfl rfl rfl rfl rfl rfl hix ?_ ?_; · exact ⟨by omega, rfl⟩) | (refine st_lop rfl rfl rfl rfl ?_ ?_; · (repeat' (first | exact trivial | rfl | exact Nat.le_of_ble_eq_true rfl | omega | (intro e he; simp at he; subst he; rfl) | exact ham | (show (_ + 1) * 8 ≤ _; omega) | (show _ + 1 ≤ _; omega) | apply And.intro))) | (refine st_store rfl rfl rfl ?_ ?_; · (repeat' (first | exact trivial | rfl | exact Nat.le_of_ble_eq_true rfl | omega | (intro e he; simp at he; subst he; rfl) | exact ham | (show (_ + 1) * 8 ≤ _; omega) | (show _ + 1 ≤ _; omega) | apply And.intro))) | (refine st_lit rfl rfl rfl rfl ?_ ?_; · (repeat' (first | exact trivial | rfl | exact Nat.le_of_ble_eq_true rfl | omega | (intro e he; simp at he; subst he; rfl) | exact ham | (show (_ + 1) * 8 ≤ _; omega) | (show _ + 1 ≤ _; omega) | apply And.intro))) | refine st_skip rfl rfl rfl ?_ | refine st_skip0 rfl rfl ?_ | refine st_call rfl rfl rfl rfl hc' rfl ?_ | (refine st_if rfl (fun hb => ?_) (fun hb => ?_) <;> (first | exact no_ hb | rw [hb])) | refine aw_seq ?_ | refine aw_region tab_ok _ rfl ?_ | refine aw_drawn2 tabS_ok _ rfl mixed (by decide +kernel) ?_ | (refine aw_cond rfl (fun hb => ?_) (fun hb => ?_) <;> (try exact no_ hb)) | refine aw_block ?_ | refine aw_exit ?_ | refine aw_ret ?_ | refine aw_skip ?_)
                exact ⟨(i + 1, acc ++ [r1]), ⟨by show i + 1 ≤ k; omega, by simp [hacc], hr.trans hst⟩, by show k - (i + 1) < k - i; omega, fits_mk ⟨rfl, rfl, slot_own (by rw [List.map_append]; rfl), slot_int (wrap_eq (by omega) (by omega)), trivial⟩ [] (by rw [List.length_append]; rfl) ⟨trivial, by show 0 < 2; omega, by show 1 < 2; omega, trivial, trivial⟩ ⟨box7_below, trivial, trivial⟩⟩
              · have q5 : decide (r2 ≠ 0) = true := by simp [hz]
                have q6 : decide (r2 = 0) = false := by simp [hz]
                dsimp only at hst
                rw [q6, cond_false] at hst
                rw [hr, hst] at hch
                repeat' (first | refine st_nil ?_ | rw [hN] | rw [q5] | (refine st_pop rfl rfl rfl rfl ?_ ?_; · (repeat' (first | exact trivial | rfl | exact Nat.le_of_ble_eq_true rfl | omega | (intro e he; simp at he; subst he; rfl) | exact ham | (show (_ + 1) * 8 ≤ _; omega) | (show _ + 1 ≤ _; omega) | apply And.intro))) | (refine st_idx rfl rfl rfl rfl rfl rfl rfl rfl hix ?_ ?_; · exact ⟨by omega, rfl⟩) | (refine st_lop rfl rfl rfl rfl ?_ ?_; · (repeat' (first | exact trivial | rfl | exact Nat.le_of_ble_eq_true rfl | omega | (intro e he; simp at he; subst he; rfl) | exact ham | (show (_ + 1) * 8 ≤ _; omega) | (show _ + 1 ≤ _; omega) | apply And.intro))) | (refine st_store rfl rfl rfl ?_ ?_; · (repeat' (first | exact trivial | rfl | exact Nat.le_of_ble_eq_true rfl | omega | (intro e he; simp at he; subst he; rfl) | exact ham | (show (_ + 1) * 8 ≤ _; omega) | (show _ + 1 ≤ _; omega) | apply And.intro))) | (refine st_lit rfl rfl rfl rfl ?_ ?_; · (repeat' (first | exact trivial | rfl | exact Nat.le_of_ble_eq_true rfl | omega | (intro e he; simp at he; subst he; rfl) | exact ham | (show (_ + 1) * 8 ≤ _; omega) | (show _ + 1 ≤ _; omega) | apply And.intro))) | refine st_skip rfl rfl rfl ?_ | refine st_skip0 rfl rfl ?_ | refine st_call rfl rfl rfl rfl hc' rfl ?_ | (refine st_if rfl (fun hb => ?_) (fun hb => ?_) <;> (first | exact no_ hb | rw [hb])) | refine aw_seq ?_ | refine aw_region tab_ok _ rfl ?_ | refine aw_drawn2 tabS_ok _ rfl mixed (by decide +kernel) ?_ | (refine aw_cond rfl (fun hb => ?_) (fun hb => ?_) <;> (try exact no_ hb)) | refine aw_block ?_ | refine aw_exit ?_ | refine aw_ret ?_ | refine aw_skip ?_)
                exact end_ret (fin (w := (0, r2)) hch.symm (res_of rfl ⟨trivial, trivial, trivial⟩ rfl))
            · have hN : decide ((i : Int) < ((args.map tE).length : Nat)) = false := by rw [hmk]; simp; omega
              have hdr : args.drop i = [] := List.drop_of_length_le (by omega)
              rw [hr, hdr] at hch
              have hch2 : chkR kinds (.mk op int v nm args) = bif (resRK kinds op int v acc).2 then ((resRK kinds op int v acc).1, 0) else (0, 7) := hch
              have hal2 : acc.length = args.length := by omega
              have hre := hres acc (by omega) hmem (fun e => by rw [hal2]; exact h22' e) hin2
              rw [tE_mk] at hre
              generalize resRK kinds op int v acc = rr at hre hch2
              obtain ⟨f1, f2⟩ := rr
              have hre' : Pure Tryz.prog 140 [.agg [.int .i64 op, .int .i64 int, .int .i64 v.kind, .int .i64 v.int, .str v.text, .str nm, .lst (args.map tE)], .one (tInts acc), .one (tInts kinds)] (.tup [.one (.int .i64 f1), .one (.bool f2)]) := hre
              cases f2 with
              | true =>
                repeat' (first | refine st_nil ?_ | rw [hN] | (refine st_pop rfl rfl rfl rfl ?_ ?_; · exact ok_) | (refine st_lop rfl rfl rfl rfl ?_ ?_; · exact ok_) | (refine st_store rfl rfl rfl ?_ ?_; · exact ok_) | (refine st_lit rfl rfl rfl rfl ?_ ?_; · exact ok_) | refine st_skip rfl rfl rfl ?_ | refine st_skip0 rfl rfl ?_ | refine st_call rfl rfl rfl rfl hre' rfl ?_ | (refine st_if rfl (fun hb => ?_) (fun hb => ?_) <;> (first | exact no_ hb | rw [hb])) | refine aw_seq ?_ | refine aw_region tab_ok _ rfl ?_ | refine aw_drawn2 tabS_ok _ rfl mixed (by decide +kernel) ?_ | (refine aw_cond rfl (fun hb => ?_) (fun hb => ?_) <;> (try exact no_ hb)) | refine aw_block ?_ | refine aw_exit ?_ | refine aw_ret ?_ | refine aw_skip ?_)
                exact end_ret (fin (w := (f1, 0)) hch2.symm (res_of rfl ⟨trivial, trivial, trivial⟩ rfl))
              | false =>
                repeat' (first | refine st_nil ?_ | rw [hN] | (refine st_pop rfl rfl rfl rfl ?_ ?_; · exact ok_) | (refine st_lop rfl rfl rfl rfl ?_ ?_; · exact ok_) | (refine st_store rfl rfl rfl ?_ ?_; · exact ok_) | (refine st_lit rfl rfl rfl rfl ?_ ?_; · exact ok_) | refine st_skip rfl rfl rfl ?_ | refine st_skip0 rfl rfl ?_ | refine st_call rfl rfl rfl rfl hre' rfl ?_ | (refine st_if rfl (fun hb => ?_) (fun hb => ?_) <;> (first | exact no_ hb | rw [hb])) | refine aw_seq ?_ | refine aw_region tab_ok _ rfl ?_ | refine aw_drawn2 tabS_ok _ rfl mixed (by decide +kernel) ?_ | (refine aw_cond rfl (fun hb => ?_) (fun hb => ?_) <;> (try exact no_ hb)) | refine aw_block ?_ | refine aw_exit ?_ | refine aw_ret ?_ | refine aw_skip ?_)
                exact end_ret (fin (w := (0, 7)) hch2.symm (res_of rfl ⟨trivial, trivial, trivial⟩ rfl))
end Go.Proofs.YtfpbmfalamappaaGreatDoor
