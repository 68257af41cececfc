/- Parts of the proof, joined. No condition. -/
import Derived.Test.YtnbnpnmkgemdeaaGreatDoorKAN
import Derived.Test.YtnbnpnmkgemdeaaGreatDoorKAP
import Derived.Test.YtnbnpnmkgemdeaaGreatDoorKAL
import Derived.Test.YtnbnpnmkgemdeaaGreatDoorKBL
import Derived.Test.YtnbnpnmkgemdeaaGreatDoorKAK
import Derived.ProofKit
import Derived.OpenShut
import Derived.ChangeOld
import Derived.Deep.Slices
set_option linter.unusedSimpArgs false
set_option linter.unusedVariables false
namespace Go.Proofs.YtnbnpnmkgemdeaaGreatDoor
open Go.RowKit Go.MapKept
set_option maxRecDepth 100000
set_option linter.unusedVariables false
set_option linter.unusedSimpArgs false
def validF (p : Per) : Bool := decide (0 ≤ p.lo) && (decide (p.lo < p.hi) && decide (p.hi ≤ 1099511627776))
theorem gPVn_eq (p : Per) : gPV p = some (validF p) := by
  unfold gPV validF
  cases decide (0 ≤ p.lo) <;> cases decide (p.lo < p.hi) <;> rfl
def inF (p : Per) (t : Int) : Bool := validF p && (decide (p.lo ≤ t) && decide (t < p.hi))
theorem gPC_eq (p : Per) (t : Int) : gPC p t = some (inF p t) := by
  unfold gPC inF
  rw [gPVn_eq]
  simp only [Option.bind_some]
  cases validF p <;> cases decide (p.lo ≤ t) <;> rfl
def holdF (c : Cla) (p : Per) : Bool := if c.kind = 0 then decide (p.hi = 1099511627776) else if c.kind = 1 then inF p c.lo else if c.kind = 2 then decide (c.lo < c.hi) && (decide (p.lo < c.hi) && decide (c.lo < p.hi)) else if c.kind = 3 then decide (c.lo ≤ c.hi) && (decide (p.lo ≤ c.hi) && decide (c.lo < p.hi)) else decide (c.kind = 4)
theorem gOf2_eq (p : Per) (c : Cla) : gOf2 p c = some (inF p c.lo) := by
  unfold gOf2; rw [gPC_eq]; rfl
theorem gOf3_eq (p : Per) (c : Cla) : gOf3 p c = some (decide (c.lo < c.hi) && (decide (p.lo < c.hi) && decide (c.lo < p.hi))) := by
  unfold gOf3
  cases decide (c.lo < c.hi) <;> cases decide (p.lo < c.hi) <;> rfl
theorem gOf4_eq (p : Per) (c : Cla) : gOf4 p c = some (decide (c.lo ≤ c.hi) && (decide (p.lo ≤ c.hi) && decide (c.lo < p.hi))) := by
  unfold gOf4
  cases decide (c.lo ≤ c.hi) <;> cases decide (p.lo ≤ c.hi) <;> rfl
def selF (c : Cla) (v : Ver) : Bool := validF v.system && holdF c v.system
def selS (h : Per → Bool) (s : List Ver) (x : Ver) : Option (Sum (List Ver) (List Ver)) :=
  bif validF x.system then bif h x.system then bif decide (x.row.length ≤ 4398046511104) then bif decide (s.length + 1 ≤ 1599289640401) then some (.inl (s ++ [x])) else none else none else some (.inl s) else some (.inl s)
theorem fold_sel (h : Per → Bool) : ∀ (l s : List Ver), (∀ v ∈ l, v.row.length ≤ 1000000) → s.length + l.length ≤ 1000000 → foldS (selS h) s l = some (.inl (s ++ l.filter fun v => validF v.system && h v.system))
  | [], s, _, _ => by simp [foldS]
  | x :: l, s, hr, hl => by
    have hx := hr x (List.mem_cons_self ..)
    have hl' : s.length + (l.length + 1) ≤ 1000000 := by simpa using hl
    have h1 : decide (x.row.length ≤ 4398046511104) = true := decide_eq_true (by omega)
    have h2 : decide (s.length + 1 ≤ 1599289640401) = true := decide_eq_true (by omega)
    rw [foldS]
    unfold selS
    rw [h1, h2]
    have ih0 := fold_sel h l s (fun v hv => hr v (List.mem_cons_of_mem _ hv)) (by omega)
    have ih1 := fold_sel h l (s ++ [x]) (fun v hv => hr v (List.mem_cons_of_mem _ hv)) (by simp; omega)
    rw [List.filter_cons]
    cases ha : validF x.system <;> cases hb : h x.system <;> simp only [cond_true, cond_false, Bool.true_and, Bool.false_and, if_true, Bool.false_eq_true, if_false]
    · exact ih0
    · exact ih0
    · exact ih0
    · rw [show (fun s x => bif validF x.system then bif h x.system then bif decide (x.row.length ≤ 4398046511104) then bif decide (s.length + 1 ≤ 1599289640401) then some (.inl (s ++ [x])) else none else none else some (.inl s) else some (.inl s)) = selS h from rfl] at *
      rw [ih1]; simp
theorem gSelect_eq {sel : Per → Option Bool} {h : Per → Bool} (hs : ∀ p, sel p = some (h p)) (l : List Ver) (c : Cla) (hr : ∀ v ∈ l, v.row.length ≤ 1000000) (hl : l.length ≤ 1000000) : gSelect sel l c = some (l.filter fun v => validF v.system && h v.system) := by
  unfold gSelect
  rw [loop_list (l := l) (mk := fun out i => (out, i)) (f := selS h) ?_ ?_ (by unfold fuel; omega) []]
  · rw [fold_sel h l [] hr (by simpa using hl)]; rfl
  · intro s i x hx
    have hi : i < l.length := (List.getElem?_eq_some_iff.1 hx).1
    unfold gSelect_B1 selS
    dsimp only
    rw [lt_dec hx, cond_true, getI_nat hx]
    simp only [Option.bind_some, gPVn_eq, hs]
    rw [wrapN (by omega)]
    cases validF x.system <;> cases h x.system <;> cases decide (x.row.length ≤ 4398046511104) <;> cases decide (s.length + 1 ≤ 1599289640401) <;> rfl
  · intro s
    unfold gSelect_B1
    dsimp only
    rw [lt_decF, cond_false]
theorem select_pure (l : List Ver) (c : Cla) (hr : ∀ v ∈ l, v.row.length ≤ 1000000) (hl : l.length ≤ 1000000) : Pure Tryz.prog 13 [.one (.lst (l.map cVer)), .agg (cCla c)] (.val (.one (.lst ((l.filter (selF c)).map cVer)))) := by
  by_cases h0 : c.kind = 0
  · exact gSelect_ok (caps_sel := []) (fun y r h => gOf1_ok h) (gOf_ok (by simp [gOf, h0])) ((gSelect_eq (h := holdF c) (fun p => by simp [gOf1, holdF, h0]) l c hr hl))
  by_cases h1 : c.kind = 1
  · exact gSelect_ok (caps_sel := [.ref [.int .i64 c.kind, .int .i64 c.lo, .int .i64 c.hi]]) (fun y r h => gOf2_ok h) (gOf_ok (by simp [gOf, h1])) ((gSelect_eq (h := holdF c) (fun p => by simp [gOf2_eq, holdF, h1]) l c hr hl))
  by_cases h2 : c.kind = 2
  · exact gSelect_ok (caps_sel := [.ref [.int .i64 c.kind, .int .i64 c.lo, .int .i64 c.hi]]) (fun y r h => gOf3_ok h) (gOf_ok (by simp [gOf, h2])) ((gSelect_eq (h := holdF c) (fun p => by simp [gOf3_eq, holdF, h2]) l c hr hl))
  by_cases h3 : c.kind = 3
  · exact gSelect_ok (caps_sel := [.ref [.int .i64 c.kind, .int .i64 c.lo, .int .i64 c.hi]]) (fun y r h => gOf4_ok h) (gOf_ok (by simp [gOf, h3])) ((gSelect_eq (h := holdF c) (fun p => by simp [gOf4_eq, holdF, h3]) l c hr hl))
  by_cases h4 : c.kind = 4
  · exact gSelect_ok (caps_sel := []) (fun y r h => gOf5_ok h) (gOf_ok (by simp [gOf, h4])) ((gSelect_eq (h := holdF c) (fun p => by simp [gOf5, holdF, h4]) l c hr hl))
  · exact gSelect_ok (caps_sel := []) (fun y r h => gOf6_ok h) (gOf_ok (by simp [gOf, h0, h1, h2, h3, h4])) ((gSelect_eq (h := holdF c) (fun p => by simp [gOf6, holdF, h0, h1, h2, h3, h4]) l c hr hl))
def gSel (l : List Ver) (c : Cla) : Option (List Ver) := bif decide (l.length ≤ 1000000) && l.all (fun v => decide (v.row.length ≤ 1000000)) then some (l.filter (selF c)) else none
theorem gSel_ok {l : List Ver} {c : Cla} {r : List Ver} (h : gSel l c = some r) : Pure Tryz.prog 13 [.one (.lst (l.map cVer)), .agg (cCla c)] (.val (.one (.lst (r.map cVer)))) := by
  obtain ⟨h1, h2⟩ := grd_some h
  obtain rfl := Option.some.inj h2
  rw [Bool.and_eq_true, List.all_eq_true] at h1
  exact select_pure l c (fun v hv => of_decide_eq_true (h1.2 v hv)) (of_decide_eq_true h1.1)
theorem gSel_eq {l : List Ver} (c : Cla) (hr : ∀ v ∈ l, v.row.length ≤ 1000000) (hl : l.length ≤ 1000000) : gSel l c = some (l.filter (selF c)) := by
  unfold gSel
  rw [show (decide (l.length ≤ 1000000) && l.all (fun v => decide (v.row.length ≤ 1000000))) = true by rw [Bool.and_eq_true, List.all_eq_true]; exact ⟨decide_eq_true hl, fun v hv => decide_eq_true (hr v hv)⟩]
  rfl
theorem less_irr : ∀ l : List UInt8, Op.bytesLess l l = false
  | [] => rfl
  | x :: l => by
    unfold Op.bytesLess
    simp [less_irr l]
theorem gCmp7_refl (v : Val) : gCmp7 v v = some 0 := by
  unfold gCmp7 gSign
  simp [less_irr]
theorem gCmp8_refl (l : List Val) (hl : l.length ≤ 1000000) : gCmp8 l l = some 0 := by
  unfold gCmp8
  rw [loop_list (l := l) (mk := fun (_ : Unit) i => i) (f := fun (_ : Unit) (_ : Val) => (some (.inl ()) : Option (Sum Unit Int))) ?_ ?_ (by unfold fuel; omega) ()]
  · have : ∀ l : List Val, foldS (fun (_ : Unit) (_ : Val) => (some (.inl ()) : Option (Sum Unit Int))) () l = some (.inl ()) := by
      intro l
      induction l with
      | nil => rfl
      | cons x l ih => rw [foldS]; exact ih
    rw [this]
    show gCmp8_K1 l l (.inl ((l.length : Nat) : Int)) = _
    unfold gCmp8_K1
    simp
  · intro s i x hx
    have hi : i < l.length := (List.getElem?_eq_some_iff.1 hx).1
    unfold gCmp8_B1
    dsimp only
    rw [lt_dec hx, cond_true, cond_true, getI_nat hx]
    simp only [Option.bind_some, gCmp7_refl]
    rw [wrapN (by omega)]
    rfl
  · intro s
    unfold gCmp8_B1
    dsimp only
    rw [lt_decF, cond_false]
theorem gSameV_refl (v : Ver) (h : v.row.length ≤ 1000000) : gSameV v v = some true := by
  unfold gSameV
  rw [gCmp8_refl _ h]
  simp [sameS]
theorem gSameVs_refl (l : List Ver) (hr : ∀ v ∈ l, v.row.length ≤ 1000000) (hl : l.length ≤ 1000000) : gSameVs l l = some true := by
  unfold gSameVs
  simp only [ne_eq, not_true_eq_false, decide_false, cond_false]
  rw [loop_list (l := l) (mk := fun (_ : Unit) i => i) (f := fun (_ : Unit) (v : Ver) => (gSameV v v).map fun _ => (.inl () : Sum Unit Bool)) ?_ ?_ (by unfold fuel; omega) ()]
  · have : ∀ l : List Ver, (∀ v ∈ l, v.row.length ≤ 1000000) → foldS (fun (_ : Unit) (v : Ver) => (gSameV v v).map fun _ => (.inl () : Sum Unit Bool)) () l = some (.inl ()) := by
      intro l
      induction l with
      | nil => intro _; rfl
      | cons x l ih => intro h; rw [foldS, gSameV_refl x (h x (List.mem_cons_self ..))]; exact ih fun v hv => h v (List.mem_cons_of_mem _ hv)
    rw [this l hr]; rfl
  · intro s i x hx
    have hi : i < l.length := (List.getElem?_eq_some_iff.1 hx).1
    unfold gSameVs_B1
    dsimp only
    rw [lt_dec hx, cond_true, getI_nat hx]
    simp only [Option.bind_some, gSameV_refl x (hr x (List.mem_of_getElem? hx))]
    rw [wrapN (by omega)]
    rfl
  · intro s
    unfold gSameVs_B1
    dsimp only
    rw [lt_decF, cond_false]
end Go.Proofs.YtnbnpnmkgemdeaaGreatDoor
namespace Go.Proofs.YtnbnpnmkgemdeaaGreatDoor
open Go.RowKit Go.MapKept
set_option maxRecDepth 100000
set_option maxHeartbeats 8000000
set_option linter.unusedVariables false
set_option linter.unusedSimpArgs false
noncomputable section
def gFacts_B1 (a_l : (List Ver)) : ((List Fct) × Int) → Option (Step ((List Fct) × Int) ((List Fct))) := fun s => match s with
  | (out_1, v_2) => bif (decide (v_2 < ((a_l.length : Nat) : Int))) then
    (getI a_l v_2).bind fun x_4 => bif (decide (x_4.row.length ≤ 4398046511104)) then (bif (decide (out_1.length + 1 ≤ 3518437208883)) then (some (.next ((out_1 ++ [(⟨x_4.row, x_4.valid⟩ : Fct)]), (IntKind.i64.wrap (v_2 + (1 : Int)))))) else none) else none
  else
    some (.exit (out_1, v_2))
def gFacts_K1 : Sum ((List Fct) × Int) ((List Fct)) → Option (((List Fct)))
  | .inl (out_1, v_2) => some out_1
  | .inr q => some q
def gFacts (a_l : (List Ver)) : Option ((List Fct)) := (loopM (gFacts_B1 a_l) fuel ([], (0 : Int))).bind (gFacts_K1)
theorem gFacts_ok {a_l : (List Ver)} {r : (List Fct)} (H : gFacts a_l = some r) : Pure Tryz.prog 16 [.one (.lst (a_l.map cVer))] (.val (.one (.lst (r.map cFct)))) := by
  unfold gFacts at H
  refine pure_of_aw tab_ok Tryz.func16 rfl rfl Tryz.ntmps16 (by simp) ?_
  simp only [argT, PV.av, List.map_cons, List.map_nil]
  repeat' (first | refine p_ rfl rfl rfl rfl rfl ?_ | refine st_nil ?_ | refine x_ rfl rfl rfl rfl rfl rfl rfl rfl ?_ | refine l_ rfl rfl rfl rfl ?_ | refine s_ rfl rfl rfl ?_ | refine t_ rfl rfl rfl rfl ?_ | refine k_ rfl rfl rfl ?_ | refine k0_ rfl rfl ?_ | refine c_ rfl rfl rfl rfl ?_ | refine pick_t rfl rfl rfl rfl rfl rfl rfl ?_ | refine pick_f rfl rfl rfl rfl rfl rfl rfl ?_ | refine aw_seq ?_ | refine aw_region tab_ok _ rfl ?_ | refine aw_drawn2 tabS_ok _ rfl mixed (by decide +kernel) ?_ | refine aw_condT rfl ?_ | refine aw_condF rfl ?_ | refine aw_block ?_ | refine aw_exit ?_ | refine aw_ret ?_ | refine aw_skip ?_ | rw [List.length_map] | rw [mn_norm] | rw [mx_norm])
  refine aw_tok 3 3 rfl ?_
  refine aw_loopM (fun s : (List Fct) × Int => match s with | (out_1, v_2) => [(3, .one (.own (out_1.map cFct) 0)), (6, .one (.c (.lst (a_l.map cVer)))), (7, .one (.c (.int .i64 ((a_l.length : Nat) : Int)))), (8, .one (.c (.int .i64 v_2)))]) (fun s => match s with | (out_1, v_2) => [.spare out_1.length 3]) H (fun _ => Nat.zero_le _)
    (fits_mk ⟨rfl, rfl, rfl, rfl, trivial⟩ [] rfl ⟨by show 0 < 1; omega, trivial, trivial, trivial, trivial⟩ ⟨trivial, trivial⟩) ?_
  rintro ⟨out_1, v_2⟩ st1 hb1 hk1
  unfold gFacts_B1 at hb1
  dsimp only at hb1 ⊢
  rcases Bool.eq_false_or_eq_true (decide (v_2 < ((a_l.length : Nat) : Int))) with q_3 | q_3
  · rw [q_3, cond_true] at hb1
    obtain ⟨x_4, i1, hb1⟩ := bind_some hb1
    obtain ⟨i1z, i1⟩ := getI_some i1
    have i1x := idxI (f := cVer) i1
    obtain ⟨g2, hb1⟩ := grd_some hb1
    replace g2 := of_decide_eq_true g2
    obtain ⟨g3, hb1⟩ := grd_some hb1
    replace g3 := of_decide_eq_true g3
    obtain rfl := Option.some.inj hb1
    repeat' (first | refine p_ rfl rfl rfl rfl rfl ?_ | refine st_nil ?_ | refine x_ rfl rfl rfl rfl rfl rfl rfl rfl ?_ | refine l_ rfl rfl rfl rfl ?_ | refine s_ rfl rfl rfl ?_ | refine t_ rfl rfl rfl rfl ?_ | refine k_ rfl rfl rfl ?_ | refine k0_ rfl rfl ?_ | refine c_ rfl rfl rfl rfl ?_ | refine pick_t rfl rfl rfl rfl rfl rfl rfl ?_ | refine pick_f rfl rfl rfl rfl rfl rfl rfl ?_ | refine aw_seq ?_ | refine aw_region tab_ok _ rfl ?_ | refine aw_drawn2 tabS_ok _ rfl mixed (by decide +kernel) ?_ | refine aw_condT rfl ?_ | refine aw_condF rfl ?_ | refine aw_block ?_ | refine aw_exit ?_ | refine aw_ret ?_ | refine aw_skip ?_ | rw [List.length_map] | rw [mn_norm] | rw [mx_norm])
    exact ⟨_, rfl, fits_mk ⟨(by simp only [List.map_append, List.map_cons, List.map_nil, List.nil_append] <;> rfl), rfl, rfl, rfl, trivial⟩ [_, _] (by simp only [List.length_append, List.length_cons, List.length_nil, Nat.zero_add, List.map_append, List.map_cons, List.map_nil] <;> rfl) ⟨by show 0 < 1; omega, trivial, trivial, trivial, trivial⟩ ⟨trivial, trivial⟩⟩
  · rw [q_3, cond_false] at hb1
    obtain rfl := Option.some.inj hb1
    have hx1 : gFacts_K1 (.inl (out_1, v_2)) = some _ := hk1
    unfold gFacts_K1 at hx1
    dsimp only at hx1
    obtain rfl := Option.some.inj hx1
    exact go_
def gSlice (a_l : (List Ver)) (a_at : Int) : Option ((List Fct)) := (gSel a_l (⟨(1 : Int), a_at, (0 : Int)⟩ : Cla)).bind fun r_1 => (gFacts r_1).bind fun r_2 => (gBag r_2).bind fun r_3 => some r_3
theorem gSlice_ok {a_l : (List Ver)} {a_at : Int} {r : (List Fct)} (H : gSlice a_l a_at = some r) : Pure Tryz.prog 18 [.one (.lst (a_l.map cVer)), .one (.int .i64 a_at)] (.val (.one (.lst (r.map cFct)))) := by
  unfold gSlice at H
  refine pure_of_aw tab_ok Tryz.func18 rfl rfl Tryz.ntmps18 (by simp) ?_
  simp only [argT, PV.av, List.map_cons, List.map_nil]
  obtain ⟨r_1, c1, H⟩ := bind_some H
  replace c1 := gSel_ok c1
  try simp only [List.map_append, List.map_cons, List.map_nil, List.nil_append, tE_eq, tP_eq] at c1
  obtain ⟨r_2, c2, H⟩ := bind_some H
  replace c2 := gFacts_ok c2
  try simp only [List.map_append, List.map_cons, List.map_nil, List.nil_append, tE_eq, tP_eq] at c2
  obtain ⟨r_3, c3, H⟩ := bind_some H
  replace c3 := gBag_ok c3
  try simp only [List.map_append, List.map_cons, List.map_nil, List.nil_append, tE_eq, tP_eq] at c3
  obtain rfl := Option.some.inj H
  exact go_
def gSelectsR (a_c : Cla) (a_v : Ver) : Option (Bool) := (gValid1 a_v.system).bind fun r_1 => bif (!r_1) then
  some false
 else
  bif (decide (a_c.kind = (0 : Int))) then
    some (decide (a_v.system.hi = (1099511627776 : Int)))
  else
    bif (decide (a_c.kind = (1 : Int))) then
      (gContains1 a_v.system a_c.lo).bind fun r_5 => some r_5
    else
      bif (decide (a_c.kind = (2 : Int))) then
        bif (decide (a_c.lo < a_c.hi)) then
          bif (decide (a_c.lo < a_v.system.hi)) then
            some (decide (a_v.system.lo < a_c.hi))
          else
            some false
        else
          some false
      else
        bif (decide (a_c.kind = (3 : Int))) then
          bif (decide (a_c.lo ≤ a_c.hi)) then
            bif (decide (a_c.lo < a_v.system.hi)) then
              some (decide (a_v.system.lo ≤ a_c.hi))
            else
              some false
          else
            some false
        else
          some (decide (a_c.kind = (4 : Int)))
theorem gSelectsR_ok {a_c : Cla} {a_v : Ver} {r : Bool} (H : gSelectsR a_c a_v = some r) : Pure Tryz.prog 44 [.agg (cCla a_c), .agg (cVer a_v)] (.val (.one (.bool r))) := by
  unfold gSelectsR at H
  refine pure_of_aw tab_ok Tryz.func44 rfl rfl Tryz.ntmps44 (by simp) ?_
  simp only [argT, PV.av, List.map_cons, List.map_nil]
  obtain ⟨r_1, c1, H⟩ := bind_some H
  replace c1 := gValid1_ok c1
  try simp only [List.map_append, List.map_cons, List.map_nil, List.nil_append, tE_eq, tP_eq] at c1
  rcases Bool.eq_false_or_eq_true (!r_1) with q_2 | q_2
  · rw [q_2, cond_true] at H
    obtain rfl := Option.some.inj H
    exact go_
  · rw [q_2, cond_false] at H
    rcases Bool.eq_false_or_eq_true (decide (a_c.kind = (0 : Int))) with q_3 | q_3
    · rw [q_3, cond_true] at H
      obtain rfl := Option.some.inj H
      exact go_
    · rw [q_3, cond_false] at H
      rcases Bool.eq_false_or_eq_true (decide (a_c.kind = (1 : Int))) with q_4 | q_4
      · rw [q_4, cond_true] at H
        obtain ⟨r_5, c2, H⟩ := bind_some H
        replace c2 := gContains1_ok c2
        try simp only [List.map_append, List.map_cons, List.map_nil, List.nil_append, tE_eq, tP_eq] at c2
        obtain rfl := Option.some.inj H
        exact go_
      · rw [q_4, cond_false] at H
        rcases Bool.eq_false_or_eq_true (decide (a_c.kind = (2 : Int))) with q_6 | q_6
        · rw [q_6, cond_true] at H
          rcases Bool.eq_false_or_eq_true (decide (a_c.lo < a_c.hi)) with q_7 | q_7
          · rw [q_7, cond_true] at H
            rcases Bool.eq_false_or_eq_true (decide (a_c.lo < a_v.system.hi)) with q_8 | q_8
            · rw [q_8, cond_true] at H
              obtain rfl := Option.some.inj H
              exact go_
            · rw [q_8, cond_false] at H
              obtain rfl := Option.some.inj H
              exact go_
          · rw [q_7, cond_false] at H
            obtain rfl := Option.some.inj H
            exact go_
        · rw [q_6, cond_false] at H
          rcases Bool.eq_false_or_eq_true (decide (a_c.kind = (3 : Int))) with q_9 | q_9
          · rw [q_9, cond_true] at H
            rcases Bool.eq_false_or_eq_true (decide (a_c.lo ≤ a_c.hi)) with q_10 | q_10
            · rw [q_10, cond_true] at H
              rcases Bool.eq_false_or_eq_true (decide (a_c.lo < a_v.system.hi)) with q_11 | q_11
              · rw [q_11, cond_true] at H
                obtain rfl := Option.some.inj H
                exact go_
              · rw [q_11, cond_false] at H
                obtain rfl := Option.some.inj H
                exact go_
            · rw [q_10, cond_false] at H
              obtain rfl := Option.some.inj H
              exact go_
          · rw [q_9, cond_false] at H
            obtain rfl := Option.some.inj H
            exact go_
def gSelR_B1 (a_l : (List Ver)) (a_c : Cla) : ((List Ver) × Int) → Option (Step ((List Ver) × Int) ((List Ver))) := fun s => match s with
  | (out_1, i_2) => bif (decide (i_2 < ((a_l.length : Nat) : Int))) then
    (getI a_l i_2).bind fun x_4 => (gSelectsR a_c x_4).bind fun r_5 => bif r_5 then
      bif (decide (out_1.length + 1 ≤ 1599289640401)) then (some (.next ((out_1 ++ [x_4]), (IntKind.i64.wrap (i_2 + (1 : Int)))))) else none
    else
      some (.next (out_1, (IntKind.i64.wrap (i_2 + (1 : Int)))))
  else
    some (.exit (out_1, i_2))
def gSelR_K1 : Sum ((List Ver) × Int) ((List Ver)) → Option (((List Ver)))
  | .inl (out_1, i_2) => some out_1
  | .inr q => some q
def gSelR (a_l : (List Ver)) (a_c : Cla) : Option ((List Ver)) := (loopM (gSelR_B1 a_l a_c) fuel ([], (0 : Int))).bind (gSelR_K1)
theorem gSelR_ok {a_l : (List Ver)} {a_c : Cla} {r : (List Ver)} (H : gSelR a_l a_c = some r) : Pure Tryz.prog 14 [.one (.lst (a_l.map cVer)), .agg (cCla a_c)] (.val (.one (.lst (r.map cVer)))) := by
  unfold gSelR at H
  refine pure_of_aw tab_ok Tryz.func14 rfl rfl Tryz.ntmps14 (by simp) ?_
  simp only [argT, PV.av, List.map_cons, List.map_nil]
  repeat' (first | refine p_ rfl rfl rfl rfl rfl ?_ | refine st_nil ?_ | refine x_ rfl rfl rfl rfl rfl rfl rfl rfl ?_ | refine l_ rfl rfl rfl rfl ?_ | refine s_ rfl rfl rfl ?_ | refine t_ rfl rfl rfl rfl ?_ | refine k_ rfl rfl rfl ?_ | refine k0_ rfl rfl ?_ | refine c_ rfl rfl rfl rfl ?_ | refine pick_t rfl rfl rfl rfl rfl rfl rfl ?_ | refine pick_f rfl rfl rfl rfl rfl rfl rfl ?_ | refine aw_seq ?_ | refine aw_region tab_ok _ rfl ?_ | refine aw_drawn2 tabS_ok _ rfl mixed (by decide +kernel) ?_ | refine aw_condT rfl ?_ | refine aw_condF rfl ?_ | refine aw_block ?_ | refine aw_exit ?_ | refine aw_ret ?_ | refine aw_skip ?_ | rw [List.length_map] | rw [mn_norm] | rw [mx_norm])
  refine aw_tok 5 9 rfl ?_
  refine aw_loopM (fun s : (List Ver) × Int => match s with | (out_1, i_2) => [(0, .one (.c (.lst (a_l.map cVer)))), (3, .one (.ptr 0 0)), (5, .one (.own (out_1.map cVer) 1)), (6, .one (.c (.int .i64 i_2)))]) (fun s => match s with | (out_1, i_2) => [.box [.c (.int .i64 a_c.kind), .c (.int .i64 a_c.lo), .c (.int .i64 a_c.hi)], .spare out_1.length 9]) H (fun _ => Nat.zero_le _)
    (fits_mk ⟨rfl, rfl, rfl, rfl, trivial⟩ [] rfl ⟨trivial, by show 0 < 2; omega, by show 1 < 2; omega, trivial, trivial⟩ ⟨ob_below (by rfl), trivial, trivial⟩) ?_
  rintro ⟨out_1, i_2⟩ st1 hb1 hk1
  unfold gSelR_B1 at hb1
  dsimp only at hb1 ⊢
  rcases Bool.eq_false_or_eq_true (decide (i_2 < ((a_l.length : Nat) : Int))) with q_3 | q_3
  · rw [q_3, cond_true] at hb1
    obtain ⟨x_4, i1, hb1⟩ := bind_some hb1
    obtain ⟨i1z, i1⟩ := getI_some i1
    have i1x := idxI (f := cVer) i1
    obtain ⟨r_5, c2, hb1⟩ := bind_some hb1
    replace c2 := gSelectsR_ok c2
    try simp only [List.map_append, List.map_cons, List.map_nil, List.nil_append, tE_eq, tP_eq] at c2
    rcases Bool.eq_false_or_eq_true r_5 with q_6 | q_6
    · rw [q_6, cond_true] at hb1
      obtain ⟨g3, hb1⟩ := grd_some hb1
      replace g3 := of_decide_eq_true g3
      obtain rfl := Option.some.inj hb1
      repeat' (first | refine p_ rfl rfl rfl rfl rfl ?_ | refine st_nil ?_ | refine x_ rfl rfl rfl rfl rfl rfl rfl rfl ?_ | refine l_ rfl rfl rfl rfl ?_ | refine s_ rfl rfl rfl ?_ | refine t_ rfl rfl rfl rfl ?_ | refine k_ rfl rfl rfl ?_ | refine k0_ rfl rfl ?_ | refine c_ rfl rfl rfl rfl ?_ | refine pick_t rfl rfl rfl rfl rfl rfl rfl ?_ | refine pick_f rfl rfl rfl rfl rfl rfl rfl ?_ | refine aw_seq ?_ | refine aw_region tab_ok _ rfl ?_ | refine aw_drawn2 tabS_ok _ rfl mixed (by decide +kernel) ?_ | refine aw_condT rfl ?_ | refine aw_condF rfl ?_ | refine aw_block ?_ | refine aw_exit ?_ | refine aw_ret ?_ | refine aw_skip ?_ | rw [List.length_map] | rw [mn_norm] | rw [mx_norm])
      exact ⟨_, rfl, fits_mk ⟨rfl, rfl, (by simp only [List.map_append, List.map_cons, List.map_nil, List.nil_append] <;> rfl), rfl, trivial⟩ [] (by simp only [List.length_append, List.length_cons, List.length_nil, Nat.zero_add, List.map_append, List.map_cons, List.map_nil] <;> rfl) ⟨trivial, by show 0 < 2; omega, by show 1 < 2; omega, trivial, trivial⟩ ⟨ob_below (by rfl), trivial, trivial⟩⟩
    · rw [q_6, cond_false] at hb1
      obtain rfl := Option.some.inj hb1
      repeat' (first | refine p_ rfl rfl rfl rfl rfl ?_ | refine st_nil ?_ | refine x_ rfl rfl rfl rfl rfl rfl rfl rfl ?_ | refine l_ rfl rfl rfl rfl ?_ | refine s_ rfl rfl rfl ?_ | refine t_ rfl rfl rfl rfl ?_ | refine k_ rfl rfl rfl ?_ | refine k0_ rfl rfl ?_ | refine c_ rfl rfl rfl rfl ?_ | refine pick_t rfl rfl rfl rfl rfl rfl rfl ?_ | refine pick_f rfl rfl rfl rfl rfl rfl rfl ?_ | refine aw_seq ?_ | refine aw_region tab_ok _ rfl ?_ | refine aw_drawn2 tabS_ok _ rfl mixed (by decide +kernel) ?_ | refine aw_condT rfl ?_ | refine aw_condF rfl ?_ | refine aw_block ?_ | refine aw_exit ?_ | refine aw_ret ?_ | refine aw_skip ?_ | rw [List.length_map] | rw [mn_norm] | rw [mx_norm])
      exact ⟨_, rfl, fits_mk ⟨rfl, rfl, (by simp only [List.map_append, List.map_cons, List.map_nil, List.nil_append] <;> rfl), rfl, trivial⟩ [] (by simp only [List.length_append, List.length_cons, List.length_nil, Nat.zero_add, List.map_append, List.map_cons, List.map_nil] <;> rfl) ⟨trivial, by show 0 < 2; omega, by show 1 < 2; omega, trivial, trivial⟩ ⟨ob_below (by rfl), trivial, trivial⟩⟩
  · rw [q_3, cond_false] at hb1
    obtain rfl := Option.some.inj hb1
    have hx1 : gSelR_K1 (.inl (out_1, i_2)) = some _ := hk1
    unfold gSelR_K1 at hx1
    dsimp only at hx1
    obtain rfl := Option.some.inj hx1
    exact go_
def gSliceR (a_l : (List Ver)) (a_at : Int) : Option ((List Fct)) := (gSelR a_l (⟨(1 : Int), a_at, (0 : Int)⟩ : Cla)).bind fun r_1 => (gFactsR r_1).bind fun r_2 => (gBagR r_2).bind fun r_3 => some r_3
theorem gSliceR_ok {a_l : (List Ver)} {a_at : Int} {r : (List Fct)} (H : gSliceR a_l a_at = some r) : Pure Tryz.prog 19 [.one (.lst (a_l.map cVer)), .one (.int .i64 a_at)] (.val (.one (.lst (r.map cFct)))) := by
  unfold gSliceR at H
  refine pure_of_aw tab_ok Tryz.func19 rfl rfl Tryz.ntmps19 (by simp) ?_
  simp only [argT, PV.av, List.map_cons, List.map_nil]
  obtain ⟨r_1, c1, H⟩ := bind_some H
  replace c1 := gSelR_ok c1
  try simp only [List.map_append, List.map_cons, List.map_nil, List.nil_append, tE_eq, tP_eq] at c1
  obtain ⟨r_2, c2, H⟩ := bind_some H
  replace c2 := gFactsR_ok c2
  try simp only [List.map_append, List.map_cons, List.map_nil, List.nil_append, tE_eq, tP_eq] at c2
  obtain ⟨r_3, c3, H⟩ := bind_some H
  replace c3 := gBagR_ok c3
  try simp only [List.map_append, List.map_cons, List.map_nil, List.nil_append, tE_eq, tP_eq] at c3
  obtain rfl := Option.some.inj H
  exact go_
def gLawSelects (a_l : (List Ver)) (a_c : Cla) (a_at : Int) : Option (Bool) := (gFew a_l).bind fun r_1 => bif (!r_1) then
  some (true)
 else
  (gSel a_l a_c).bind fun r_4 => (gSelR a_l a_c).bind fun r_5 => (gSameVs r_4 r_5).bind fun r_6 => bif r_6 then
    (gFacts a_l).bind fun r_8 => (gFactsR a_l).bind fun r_9 => (gIdent r_8 r_9).bind fun r_10 => bif r_10 then
      (gSlice a_l a_at).bind fun r_12 => (gSliceR a_l a_at).bind fun r_13 => (gIdent r_12 r_13).bind fun r_14 => bif r_14 then
        some (true)
      else
        some false
    else
      some false
  else
    some false
theorem gLawSelects_ok {a_l : (List Ver)} {a_c : Cla} {a_at : Int} {r : Bool} (H : gLawSelects a_l a_c a_at = some r) : Pure Tryz.prog 3 [.one (.lst (a_l.map cVer)), .agg (cCla a_c), .one (.int .i64 a_at)] (.val (.one (.bool r))) := by
  unfold gLawSelects at H
  refine pure_of_aw tab_ok Tryz.func3 rfl rfl Tryz.ntmps3 (by simp) ?_
  simp only [argT, PV.av, List.map_cons, List.map_nil]
  obtain ⟨r_1, c1, H⟩ := bind_some H
  replace c1 := gFew_ok c1
  try simp only [List.map_append, List.map_cons, List.map_nil, List.nil_append, tE_eq, tP_eq] at c1
  rcases Bool.eq_false_or_eq_true (!r_1) with q_2 | q_2
  · rw [q_2, cond_true] at H
    have hc_3 := awake_pure
    try simp only [List.map_append, List.map_cons, List.map_nil, List.nil_append, tE_eq, tP_eq] at hc_3
    obtain rfl := Option.some.inj H
    exact go_
  · rw [q_2, cond_false] at H
    obtain ⟨r_4, c2, H⟩ := bind_some H
    replace c2 := gSel_ok c2
    try simp only [List.map_append, List.map_cons, List.map_nil, List.nil_append, tE_eq, tP_eq] at c2
    obtain ⟨r_5, c3, H⟩ := bind_some H
    replace c3 := gSelR_ok c3
    try simp only [List.map_append, List.map_cons, List.map_nil, List.nil_append, tE_eq, tP_eq] at c3
    obtain ⟨r_6, c4, H⟩ := bind_some H
    replace c4 := gSameVs_ok c4
    try simp only [List.map_append, List.map_cons, List.map_nil, List.nil_append, tE_eq, tP_eq] at c4
    rcases Bool.eq_false_or_eq_true r_6 with q_7 | q_7
    · rw [q_7, cond_true] at H
      obtain ⟨r_8, c5, H⟩ := bind_some H
      replace c5 := gFacts_ok c5
      try simp only [List.map_append, List.map_cons, List.map_nil, List.nil_append, tE_eq, tP_eq] at c5
      obtain ⟨r_9, c6, H⟩ := bind_some H
      replace c6 := gFactsR_ok c6
      try simp only [List.map_append, List.map_cons, List.map_nil, List.nil_append, tE_eq, tP_eq] at c6
      obtain ⟨r_10, c7, H⟩ := bind_some H
      replace c7 := gIdent_ok c7
      try simp only [List.map_append, List.map_cons, List.map_nil, List.nil_append, tE_eq, tP_eq] at c7
      rcases Bool.eq_false_or_eq_true r_10 with q_11 | q_11
      · rw [q_11, cond_true] at H
        obtain ⟨r_12, c8, H⟩ := bind_some H
        replace c8 := gSlice_ok c8
        try simp only [List.map_append, List.map_cons, List.map_nil, List.nil_append, tE_eq, tP_eq] at c8
        obtain ⟨r_13, c9, H⟩ := bind_some H
        replace c9 := gSliceR_ok c9
        try simp only [List.map_append, List.map_cons, List.map_nil, List.nil_append, tE_eq, tP_eq] at c9
        obtain ⟨r_14, c10, H⟩ := bind_some H
        replace c10 := gIdent_ok c10
        try simp only [List.map_append, List.map_cons, List.map_nil, List.nil_append, tE_eq, tP_eq] at c10
        rcases Bool.eq_false_or_eq_true r_14 with q_15 | q_15
        · rw [q_15, cond_true] at H
          have hc_16 := awake_pure
          try simp only [List.map_append, List.map_cons, List.map_nil, List.nil_append, tE_eq, tP_eq] at hc_16
          obtain rfl := Option.some.inj H
          exact go_
        · rw [q_15, cond_false] at H
          obtain rfl := Option.some.inj H
          exact go_
      · rw [q_11, cond_false] at H
        obtain rfl := Option.some.inj H
        exact go_
    · rw [q_7, cond_false] at H
      obtain rfl := Option.some.inj H
      exact go_
end
end Go.Proofs.YtnbnpnmkgemdeaaGreatDoor
namespace Go.Proofs.YtnbnpnmkgemdeaaGreatDoor
open Go.RowKit Go.MapKept
set_option maxRecDepth 100000
set_option maxHeartbeats 8000000
set_option linter.unusedVariables false
set_option linter.unusedSimpArgs false
end Go.Proofs.YtnbnpnmkgemdeaaGreatDoor
namespace Go.Proofs.YtnbnpnmkgemdeaaGreatDoor
open Go.RowKit Go.MapKept
set_option linter.unusedVariables false
set_option maxRecDepth 100000
theorem list2 {α : Type} : ∀ {l : List α}, l.length = 2 → ∃ c0 c1, l = [c0, c1]
  | [c0, c1], _ => ⟨c0, c1, rfl⟩
theorem list3 {α : Type} : ∀ {l : List α}, l.length = 3 → ∃ c0 c1 c2, l = [c0, c1, c2]
  | [c0, c1, c2], _ => ⟨c0, c1, c2, rfl⟩
theorem list9 {α : Type} : ∀ {l : List α}, l.length = 9 → ∃ c0 c1 c2 c3 c4 c5 c6 c7 c8, l = [c0, c1, c2, c3, c4, c5, c6, c7, c8]
  | [c0, c1, c2, c3, c4, c5, c6, c7, c8], _ => ⟨c0, c1, c2, c3, c4, c5, c6, c7, c8, rfl⟩
theorem addr_add (b o n : Nat) : (⟨b, o, none⟩ : Addr).add n = ⟨b, o + n, none⟩ := by
  unfold Addr.add
  split <;> simp_all
def RW {W : World} (hT : TabR (fun b o => W.cell? ⟨b, o, none⟩)) : PH := ⟨fun b o => W.cell? ⟨b, o, none⟩, hT⟩
def CRd {W : World} (hT : TabR (fun b o => W.cell? ⟨b, o, none⟩)) (cs : List Value) (es : List AC) : Prop := cs.length = es.length ∧ ∀ (j : Nat) u x, cs[j]? = some u → es[j]? = some x → PRep (RW hT) u x
theorem CRd.app {W : World} {hT : TabR (fun b o => W.cell? ⟨b, o, none⟩)} {c1 c2 : List Value} {e1 e2 : List AC} (h1 : CRd hT c1 e1) (h2 : CRd hT c2 e2) : CRd hT (c1 ++ c2) (e1 ++ e2) := by
  refine ⟨by rw [List.length_append, List.length_append, h1.1, h2.1], fun j u x hu hx => ?_⟩
  have hl := h1.1
  by_cases hj : j < c1.length
  · rw [List.getElem?_append_left hj] at hu
    rw [List.getElem?_append_left (by omega)] at hx
    exact h1.2 j u x hu hx
  · rw [List.getElem?_append_right (by omega)] at hu
    rw [List.getElem?_append_right (by omega), ← hl] at hx
    exact h2.2 _ u x hu hx
theorem CRd.one {W : World} {hT : TabR (fun b o => W.cell? ⟨b, o, none⟩)} {v : Value} {e : AC} (h : PRep (RW hT) v e) : CRd hT [v] [e] := by
  refine ⟨rfl, fun j u x hu hx => ?_⟩
  match j, hu, hx with
  | 0, hu, hx => simp at hu hx; subst hu hx; exact h
  | j + 1, hu, hx => simp at hu
def IOk (n : Int) : Prop := -9223372036854775808 ≤ n ∧ n ≤ 9223372036854775807
def SOk (s : ByteArray) : Prop := s.size ≤ 9223372036854775807
def LOk {α : Type} (k : Nat) (Q : α → Prop) (l : List α) : Prop := l.length * k ≤ reachBytes ∧ ∀ a ∈ l, Q a
def WOk {H : Type} (t : TypeId) (d : DataW H) : Prop := ∀ n ∈ DataW.weights Tryz.prog t d, n ≤ reachBytes
theorem wok_all {H : Type} {e : TypeId} : ∀ {l : List (DataW H)} {d : DataW H}, d ∈ l → ∀ n ∈ DataW.weights Tryz.prog e d, n ∈ DataW.weightsAll Tryz.prog e l
  | x :: l, d, h, n, hn => by
    rw [DataW.weightsAll, List.mem_append]
    rcases List.mem_cons.1 h with rfl | h
    · exact .inl hn
    · exact .inr (wok_all h n hn)
theorem wok_each {H : Type} : ∀ {ts : List TypeId} {l : List (DataW H)} {i : Nat} {t : TypeId} {d : DataW H}, ts[i]? = some t → l[i]? = some d → ∀ n ∈ DataW.weights Tryz.prog t d, n ∈ DataW.weightsEach Tryz.prog ts l
  | t0 :: ts, d0 :: l, 0, t, d, h1, h2, n, hn => by
    simp at h1 h2; subst h1 h2
    rw [DataW.weightsEach, List.mem_append]; exact .inl hn
  | t0 :: ts, d0 :: l, i + 1, t, d, h1, h2, n, hn => by
    rw [DataW.weightsEach, List.mem_append]; exact .inr (wok_each (by simpa using h1) (by simpa using h2) n hn)
  | [], _, i, t, d, h1, _, n, hn => by simp at h1
  | _ :: _, [], i, t, d, _, h2, n, hn => by simp at h2
section
variable {H : Type} {enc : TypeId × Value → H} {W : World} {hT : TabR (fun b o => W.cell? ⟨b, o, none⟩)} {base : Nat} {spare : Nat → Bool} {held : Bool}
theorem read_int {t : TypeId} (ht : Tryz.prog.underlying t = some (.int .i64)) {cs : List Value} {fuel : Nat} {x : DataW H × List MemPlace} (h : DataW.trod enc Tryz.prog W base spare held fuel t cs = some x) : ∃ n : Int, CRd hT cs [.int .i64 n] ∧ IOk n := by
  obtain ⟨n, rfl, _, hw⟩ := DataW.trod_int ht h
  rw [Lit.wf, Bool.and_eq_true] at hw
  exact ⟨n, CRd.one (.int _ _), of_decide_eq_true hw.1, of_decide_eq_true hw.2⟩
theorem read_str {t : TypeId} (ht : Tryz.prog.underlying t = some .string) {cs : List Value} {fuel : Nat} {x : DataW H × List MemPlace} (h : DataW.trod enc Tryz.prog W base spare held fuel t cs = some x) : ∃ s : ByteArray, CRd hT cs [.str s] ∧ SOk s := by
  obtain ⟨s, rfl, _, hs⟩ := DataW.trod_string ht h
  exact ⟨s, CRd.one (.str _), hs⟩
theorem read_slice {α : Type} {t e : TypeId} {k : Nat} {f : α → List AC} {Q : α → Prop} (ht : Tryz.prog.underlying t = some (.slice e)) (hk : Tryz.prog.cellsOf e = k) {by_ : Nat} (hby : Tryz.prog.bytesOf e = by_) (hk0 : 0 < k) (hf : ∀ x, (f x).length = k) {cs : List Value} {fuel : Nat} {x : DataW H × List MemPlace} (h : DataW.trod enc Tryz.prog W base spare held fuel t cs = some x) (hw : WOk t x.1)
    (hr : ∀ (fuel' : Nat) (cs' : List Value) (x' : DataW H × List MemPlace), fuel' < fuel → DataW.trod enc Tryz.prog W base spare held fuel' e cs' = some x' → WOk e x'.1 → ∃ a, CRd hT cs' (f a) ∧ Q a) : ∃ l : List α, CRd hT cs [.lst (l.map f)] ∧ LOk by_ Q l := by
  rcases DataW.trod_slice ht h with ⟨rfl, _⟩ | ⟨a, len, cap, elems, rest, n, hfu, rfl, hxe, _, hlc, hm, hel, hx, _, _⟩
  · exact ⟨[], CRd.one (prep_nil _ _ _), by simp, fun a ha => by cases ha⟩
  · have hww : (∀ n ∈ DataW.weightsAll Tryz.prog e (elems.map (·.1)), n ≤ reachBytes) ∧ len * by_ ≤ reachBytes := by
      rw [hxe] at hw
      unfold WOk at hw
      simp only [DataW.weights, ht] at hw
      refine ⟨fun n hn => hw n (List.mem_cons_of_mem _ (List.mem_append_left _ hn)), ?_⟩
      have := hw _ (List.mem_cons_self ..)
      simp only [List.length_map, hel, hby] at this
      exact Nat.le_trans (Nat.mul_le_mul_right _ (Nat.le_add_right _ _)) this
    have hi : ∀ i, i < len → ∃ y, (∃ cs', W.cells? base (a.add (i * k)) k = some cs' ∧ CRd hT cs' (f y)) ∧ Q y := by
      intro i hlt
      have h1 := hx i hlt
      rw [List.getElem?_eq_getElem (by omega), hk] at h1
      cases hc : W.cells? base (a.add (i * k)) k with
      | none => rw [hc] at h1; cases h1
      | some cs' => rw [hc] at h1; obtain ⟨y, h2, h3⟩ := hr n cs' _ (by omega) h1 (fun m hm => hww.1 m (wok_all (List.mem_map_of_mem (f := fun p : DataW H × List MemPlace => p.1) (List.getElem_mem (by omega))) m hm)); exact ⟨y, ⟨cs', rfl, h2⟩, h3⟩
    rcases Nat.eq_zero_or_pos len with h0 | h0
    · subst h0; exact ⟨[], CRd.one (prep_nil _ _ _), by simp, fun a ha => by cases ha⟩
    · obtain ⟨y0, ⟨cs0, hc0, _⟩, _⟩ := hi 0 h0
      let g : Nat → α := fun i => if h : i < len then Classical.choose (hi i h) else y0
      have hg : ∀ i, i < len → (∃ cs', W.cells? base (a.add (i * k)) k = some cs' ∧ CRd hT cs' (f (g i))) ∧ Q (g i) := by
        intro i hlt
        have : g i = Classical.choose (hi i hlt) := by simp [g, hlt]
        rw [this]
        exact Classical.choose_spec (hi i hlt)
      obtain ⟨b, off, spot⟩ := a
      have hs0 : spot = none := by
        obtain ⟨_, hl, hat⟩ := World.cells?_some hc0
        have h1 := hat 0 hk0
        rw [List.getElem?_eq_getElem (by omega)] at h1
        have := World.cell?_spot h1
        simpa [Addr.add] using this
      subst hs0
      refine ⟨(List.range len).map g, CRd.one ?_, (by rw [List.length_map, List.length_range]; exact hww.2), ?_⟩
      · have cell : ∀ i, i < len → ∀ j, j < k → ∃ u y, W.cell? ⟨b, off + (i * k + j), none⟩ = some u ∧ (f (g i))[j]? = some y ∧ PRep (RW hT) u y := by
          intro i hlt j hj
          obtain ⟨⟨cs', hc, hcr⟩, _⟩ := hg i hlt
          obtain ⟨_, hl, hat⟩ := World.cells?_some hc
          have h1 := hat j hj
          rw [List.getElem?_eq_getElem (by omega)] at h1
          have hfl := hf (g i)
          refine ⟨_, _, ?_, List.getElem?_eq_getElem (by omega), hcr.2 j _ _ (List.getElem?_eq_getElem (by omega)) (List.getElem?_eq_getElem (by omega))⟩
          rw [addr_add, addr_add, Nat.add_assoc] at h1
          exact h1
        refine .lst (some ⟨b, off, none⟩) len cap _ k (fun j => (W.cell? ⟨b, off + j, none⟩).getD (.bool false)) b off (by simp) hlc ?_ (fun _ => rfl) ?_ ?_
        · intro e he
          simp only [List.map_map, List.mem_map] at he
          obtain ⟨i, _, rfl⟩ := he
          exact hf _
        · intro j hj
          have hd : j / k < len := by rw [Nat.div_lt_iff_lt_mul hk0]; exact hj
          obtain ⟨u, y, h1, _, _⟩ := cell (j / k) hd (j % k) (Nat.mod_lt _ hk0)
          have hjj : j / k * k + j % k = j := by rw [Nat.mul_comm]; exact Nat.div_add_mod j k
          rw [hjj] at h1
          show W.cell? _ = _
          rw [h1]; rfl
        · intro i e j x he hxx
          have hlt : i < len := by have := (List.getElem?_eq_some_iff.1 he).1; simpa using this
          have : e = f (g i) := by simp [hlt] at he; exact he.symm
          subst this
          have hj : j < k := by have := (List.getElem?_eq_some_iff.1 hxx).1; rw [hf] at this; exact this
          obtain ⟨u, y, h1, h2, h3⟩ := cell i hlt j hj
          rw [h2] at hxx
          obtain rfl := Option.some.inj hxx
          rw [h1]; exact h3
      · intro a ha
        simp only [List.mem_map, List.mem_range] at ha
        obtain ⟨i, hlt, rfl⟩ := ha
        exact (hg i hlt).2
theorem fld {s : TypeId} {x : DataW H × List MemPlace} {fs : Array Field} {n : Nat} {cs : List Value} {xs : List (DataW H × List MemPlace)} (hs : Tryz.prog.underlying s = some (.struct fs)) (hx : x = (.agg (xs.map (·.1)), xs.flatMap (·.2))) (hw : WOk s x.1) (hl : xs.length = fs.size) (hf : ∀ (i : Nat) (f : Field), fs[i]? = some f → DataW.trod enc Tryz.prog W base spare held n f.type ((cs.drop f.offset).take (Tryz.prog.cellsOf f.type)) = xs[i]?)
    (i : Nat) {f : Field} {t o k : Nat} (hi : fs[i]? = some f) (h1 : f.type = t) (h2 : f.offset = o) (h3 : Tryz.prog.cellsOf t = k) : ∃ y, DataW.trod enc Tryz.prog W base spare held n t ((cs.drop o).take k) = some y ∧ WOk t y.1 := by
  have hlt : i < fs.size := (Array.getElem?_eq_some_iff.1 hi).1
  have := hf i f hi
  rw [h1, h2, h3, List.getElem?_eq_getElem (by omega)] at this
  refine ⟨_, this, fun m hm => ?_⟩
  rw [hx] at hw
  unfold WOk at hw
  simp only [DataW.weights, hs] at hw
  refine hw m (wok_each (i := i) ?_ ?_ m hm)
  · rw [List.getElem?_map, Array.getElem?_toList, hi]; simp [h1]
  · rw [List.getElem?_map, List.getElem?_eq_getElem (by omega)]; rfl
end
structure okCla (x : Cla) : Prop where
  kind : IOk x.kind
  lo : IOk x.lo
  hi : IOk x.hi
section
variable {H : Type} {enc : TypeId × Value → H} {W : World} {hT : TabR (fun b o => W.cell? ⟨b, o, none⟩)} {base : Nat} {spare : Nat → Bool} {held : Bool}
theorem rd_Cla : ∀ (fuel : Nat) {cs : List Value} {x : DataW H × List MemPlace}, DataW.trod enc Tryz.prog W base spare held fuel 24 cs = some x → WOk 24 x.1 → ∃ a : Cla, CRd hT cs (cCla a) ∧ okCla a := by
  intro fuel
  intro cs x h hw
  obtain ⟨xs, n, hfu, hxe, hlen, hxs, hf⟩ := DataW.trod_struct Tryz.underlying24 h
  rw [show Tryz.prog.cellsOf 24 = 3 by kernel_rfl] at hlen
  obtain ⟨c0, c1, c2, rfl⟩ := list3 hlen
  obtain ⟨y0, h0, w0⟩ := fld Tryz.underlying24 hxe hw hxs hf 0 (t := 3) (o := 0) (k := 1) rfl rfl rfl (by kernel_rfl)
  replace h0 : DataW.trod enc Tryz.prog W base spare held n 3 [c0] = some y0 := h0
  obtain ⟨l0, r0, q0⟩ := read_int Tryz.underlying3 h0
  obtain ⟨y1, h1, w1⟩ := fld Tryz.underlying24 hxe hw hxs hf 1 (t := 3) (o := 1) (k := 1) rfl rfl rfl (by kernel_rfl)
  replace h1 : DataW.trod enc Tryz.prog W base spare held n 3 [c1] = some y1 := h1
  obtain ⟨l1, r1, q1⟩ := read_int Tryz.underlying3 h1
  obtain ⟨y2, h2, w2⟩ := fld Tryz.underlying24 hxe hw hxs hf 2 (t := 3) (o := 2) (k := 1) rfl rfl rfl (by kernel_rfl)
  replace h2 : DataW.trod enc Tryz.prog W base spare held n 3 [c2] = some y2 := h2
  obtain ⟨l2, r2, q2⟩ := read_int Tryz.underlying3 h2
  exact ⟨⟨l0, l1, l2⟩, ((r0.app r1).app r2), ⟨q0, q1, q2⟩⟩
end
structure okVal (x : Val) : Prop where
  kind : IOk x.kind
  int : IOk x.int
  text : SOk x.text
section
variable {H : Type} {enc : TypeId × Value → H} {W : World} {hT : TabR (fun b o => W.cell? ⟨b, o, none⟩)} {base : Nat} {spare : Nat → Bool} {held : Bool}
theorem rd_Val : ∀ (fuel : Nat) {cs : List Value} {x : DataW H × List MemPlace}, DataW.trod enc Tryz.prog W base spare held fuel 57 cs = some x → WOk 57 x.1 → ∃ a : Val, CRd hT cs (cV a) ∧ okVal a := by
  intro fuel
  intro cs x h hw
  obtain ⟨xs, n, hfu, hxe, hlen, hxs, hf⟩ := DataW.trod_struct Tryz.underlying57 h
  rw [show Tryz.prog.cellsOf 57 = 3 by kernel_rfl] at hlen
  obtain ⟨c0, c1, c2, rfl⟩ := list3 hlen
  obtain ⟨y0, h0, w0⟩ := fld Tryz.underlying57 hxe hw hxs hf 0 (t := 3) (o := 0) (k := 1) rfl rfl rfl (by kernel_rfl)
  replace h0 : DataW.trod enc Tryz.prog W base spare held n 3 [c0] = some y0 := h0
  obtain ⟨l0, r0, q0⟩ := read_int Tryz.underlying3 h0
  obtain ⟨y1, h1, w1⟩ := fld Tryz.underlying57 hxe hw hxs hf 1 (t := 3) (o := 1) (k := 1) rfl rfl rfl (by kernel_rfl)
  replace h1 : DataW.trod enc Tryz.prog W base spare held n 3 [c1] = some y1 := h1
  obtain ⟨l1, r1, q1⟩ := read_int Tryz.underlying3 h1
  obtain ⟨y2, h2, w2⟩ := fld Tryz.underlying57 hxe hw hxs hf 2 (t := 9) (o := 2) (k := 1) rfl rfl rfl (by kernel_rfl)
  replace h2 : DataW.trod enc Tryz.prog W base spare held n 9 [c2] = some y2 := h2
  obtain ⟨l2, r2, q2⟩ := read_str Tryz.underlying9 h2
  exact ⟨⟨l0, l1, l2⟩, ((r0.app r1).app r2), ⟨q0, q1, q2⟩⟩
theorem rd_l43 {cs : List Value} {fuel : Nat} {x : DataW H × List MemPlace} (h : DataW.trod enc Tryz.prog W base spare held fuel 43 cs = some x) (hw : WOk 43 x.1) : ∃ l : List Val, CRd hT cs [.lst (l.map cV)] ∧ LOk 32 okVal l :=
  read_slice (k := 3) (f := cV) (Q := okVal) Tryz.underlying43 (by kernel_rfl) (by kernel_rfl) (by decide) (fun _ => rfl) h hw (fun f c x _ h hw => rd_Val f h hw)
end
structure okPer (x : Per) : Prop where
  lo : IOk x.lo
  hi : IOk x.hi
section
variable {H : Type} {enc : TypeId × Value → H} {W : World} {hT : TabR (fun b o => W.cell? ⟨b, o, none⟩)} {base : Nat} {spare : Nat → Bool} {held : Bool}
theorem rd_Per : ∀ (fuel : Nat) {cs : List Value} {x : DataW H × List MemPlace}, DataW.trod enc Tryz.prog W base spare held fuel 45 cs = some x → WOk 45 x.1 → ∃ a : Per, CRd hT cs (cPer a) ∧ okPer a := by
  intro fuel
  intro cs x h hw
  obtain ⟨xs, n, hfu, hxe, hlen, hxs, hf⟩ := DataW.trod_struct Tryz.underlying45 h
  rw [show Tryz.prog.cellsOf 45 = 2 by kernel_rfl] at hlen
  obtain ⟨c0, c1, rfl⟩ := list2 hlen
  obtain ⟨y0, h0, w0⟩ := fld Tryz.underlying45 hxe hw hxs hf 0 (t := 3) (o := 0) (k := 1) rfl rfl rfl (by kernel_rfl)
  replace h0 : DataW.trod enc Tryz.prog W base spare held n 3 [c0] = some y0 := h0
  obtain ⟨l0, r0, q0⟩ := read_int Tryz.underlying3 h0
  obtain ⟨y1, h1, w1⟩ := fld Tryz.underlying45 hxe hw hxs hf 1 (t := 3) (o := 1) (k := 1) rfl rfl rfl (by kernel_rfl)
  replace h1 : DataW.trod enc Tryz.prog W base spare held n 3 [c1] = some y1 := h1
  obtain ⟨l1, r1, q1⟩ := read_int Tryz.underlying3 h1
  exact ⟨⟨l0, l1⟩, (r0.app r1), ⟨q0, q1⟩⟩
end
structure okVer (x : Ver) : Prop where
  id : IOk x.id
  schema : IOk x.schema
  row : (LOk 32 okVal) x.row
  valid : okPer x.valid
  system : okPer x.system
  by_ : IOk x.by_
  til : IOk x.til
section
variable {H : Type} {enc : TypeId × Value → H} {W : World} {hT : TabR (fun b o => W.cell? ⟨b, o, none⟩)} {base : Nat} {spare : Nat → Bool} {held : Bool}
theorem rd_Ver : ∀ (fuel : Nat) {cs : List Value} {x : DataW H × List MemPlace}, DataW.trod enc Tryz.prog W base spare held fuel 47 cs = some x → WOk 47 x.1 → ∃ a : Ver, CRd hT cs (cVer a) ∧ okVer a := by
  intro fuel
  intro cs x h hw
  obtain ⟨xs, n, hfu, hxe, hlen, hxs, hf⟩ := DataW.trod_struct Tryz.underlying47 h
  rw [show Tryz.prog.cellsOf 47 = 9 by kernel_rfl] at hlen
  obtain ⟨c0, c1, c2, c3, c4, c5, c6, c7, c8, rfl⟩ := list9 hlen
  obtain ⟨y0, h0, w0⟩ := fld Tryz.underlying47 hxe hw hxs hf 0 (t := 3) (o := 0) (k := 1) rfl rfl rfl (by kernel_rfl)
  replace h0 : DataW.trod enc Tryz.prog W base spare held n 3 [c0] = some y0 := h0
  obtain ⟨l0, r0, q0⟩ := read_int Tryz.underlying3 h0
  obtain ⟨y1, h1, w1⟩ := fld Tryz.underlying47 hxe hw hxs hf 1 (t := 3) (o := 1) (k := 1) rfl rfl rfl (by kernel_rfl)
  replace h1 : DataW.trod enc Tryz.prog W base spare held n 3 [c1] = some y1 := h1
  obtain ⟨l1, r1, q1⟩ := read_int Tryz.underlying3 h1
  obtain ⟨y2, h2, w2⟩ := fld Tryz.underlying47 hxe hw hxs hf 2 (t := 43) (o := 2) (k := 1) rfl rfl rfl (by kernel_rfl)
  replace h2 : DataW.trod enc Tryz.prog W base spare held n 43 [c2] = some y2 := h2
  obtain ⟨l2, r2, q2⟩ := rd_l43 h2 w2
  obtain ⟨y3, h3, w3⟩ := fld Tryz.underlying47 hxe hw hxs hf 3 (t := 45) (o := 3) (k := 2) rfl rfl rfl (by kernel_rfl)
  replace h3 : DataW.trod enc Tryz.prog W base spare held n 45 [c3, c4] = some y3 := h3
  obtain ⟨l3, r3, q3⟩ := rd_Per n h3 w3
  obtain ⟨y4, h4, w4⟩ := fld Tryz.underlying47 hxe hw hxs hf 4 (t := 45) (o := 5) (k := 2) rfl rfl rfl (by kernel_rfl)
  replace h4 : DataW.trod enc Tryz.prog W base spare held n 45 [c5, c6] = some y4 := h4
  obtain ⟨l4, r4, q4⟩ := rd_Per n h4 w4
  obtain ⟨y5, h5, w5⟩ := fld Tryz.underlying47 hxe hw hxs hf 5 (t := 3) (o := 7) (k := 1) rfl rfl rfl (by kernel_rfl)
  replace h5 : DataW.trod enc Tryz.prog W base spare held n 3 [c7] = some y5 := h5
  obtain ⟨l5, r5, q5⟩ := read_int Tryz.underlying3 h5
  obtain ⟨y6, h6, w6⟩ := fld Tryz.underlying47 hxe hw hxs hf 6 (t := 3) (o := 8) (k := 1) rfl rfl rfl (by kernel_rfl)
  replace h6 : DataW.trod enc Tryz.prog W base spare held n 3 [c8] = some y6 := h6
  obtain ⟨l6, r6, q6⟩ := read_int Tryz.underlying3 h6
  exact ⟨⟨l0, l1, l2, l3, l4, l5, l6⟩, ((((((r0.app r1).app r2).app r3).app r4).app r5).app r6), ⟨q0, q1, q2, q3, q4, q5, q6⟩⟩
end
section
variable {H : Type} {enc : TypeId × Value → H} {W : World} {hT : TabR (fun b o => W.cell? ⟨b, o, none⟩)} {base : Nat} {spare : Nat → Bool} {held : Bool}
theorem rd_l22 {cs : List Value} {fuel : Nat} {x : DataW H × List MemPlace} (h : DataW.trod enc Tryz.prog W base spare held fuel 22 cs = some x) (hw : WOk 22 x.1) : ∃ l : List Ver, CRd hT cs [.lst (l.map cVer)] ∧ LOk 88 okVer l :=
  read_slice (k := 9) (f := cVer) (Q := okVer) Tryz.underlying22 (by kernel_rfl) (by kernel_rfl) (by decide) (fun _ => rfl) h hw (fun f c x _ h hw => rd_Ver f h hw)
end
end Go.Proofs.YtnbnpnmkgemdeaaGreatDoor
namespace Go.Proofs.YtnbnpnmkgemdeaaGreatDoor
open Go.RowKit Go.MapKept
set_option maxRecDepth 100000
set_option linter.unusedVariables false
set_option linter.unusedSimpArgs false
def factOf (v : Ver) : Fct := ⟨v.row, v.valid⟩
theorem gFactsR_eq (l : List Ver) (hl : l.length ≤ 3000000000000) : gFactsR l = some (l.map factOf) := by
  unfold gFactsR
  rw [loop_list (l := l) (mk := fun out i => (out, i)) (f := fun (s : List Fct) (v : Ver) => (bif decide (s.length + 1 ≤ 3518437208883) then some (.inl (s ++ [factOf v])) else none : Option (Sum (List Fct) (List Fct)))) ?_ ?_ (by unfold fuel; omega) []]
  · have : ∀ (l : List Ver) (s : List Fct), s.length + l.length ≤ 3000000000000 → foldS (fun (s : List Fct) (v : Ver) => (bif decide (s.length + 1 ≤ 3518437208883) then some (.inl (s ++ [factOf v])) else none : Option (Sum (List Fct) (List Fct)))) s l = some (.inl (s ++ l.map factOf)) := by
      intro l
      induction l with
      | nil => intro s _; simp [foldS]
      | cons x l ih =>
        intro s h
        have h' : s.length + (l.length + 1) ≤ 3000000000000 := by simpa using h
        rw [foldS, show decide (s.length + 1 ≤ 3518437208883) = true from decide_eq_true (by omega), cond_true]
        have := ih (s ++ [factOf x]) (by simp; omega)
        simpa using this
    rw [this l [] (by simpa using hl)]; rfl
  · intro s i x hx
    have hi : i < l.length := (List.getElem?_eq_some_iff.1 hx).1
    unfold gFactsR_B1
    dsimp only
    rw [lt_dec hx, cond_true, getI_nat hx]
    simp only [Option.bind_some]
    rw [wrapN (by omega)]
    unfold factOf
    cases decide (s.length + 1 ≤ 3518437208883) <;> rfl
  · intro s
    unfold gFactsR_B1
    dsimp only
    rw [lt_decF, cond_false]
def fewF (l : List Fct) (n : Int) : Bool := decide ((l.length : Nat) ≤ n) && l.all fun f => decide (f.row.length ≤ 60)
theorem gFewR_eq (l : List Fct) (n : Int) (hn : n ≤ 1000000) : gFewR l n = some (fewF l n) := by
  unfold gFewR fewF
  by_cases h : n < ((l.length : Nat) : Int)
  · rw [show decide (n < ((l.length : Nat) : Int)) = true from decide_eq_true h, show decide (((l.length : Nat) : Int) ≤ n) = false from decide_eq_false (by omega)]; rfl
  · rw [show decide (n < ((l.length : Nat) : Int)) = false from decide_eq_false h, show decide (((l.length : Nat) : Int) ≤ n) = true from decide_eq_true (by omega), cond_false, Bool.true_and]
    rw [loop_list (l := l) (mk := fun (_ : Unit) i => i) (f := fun (_ : Unit) (f : Fct) => (bif decide (f.row.length ≤ 60) then some (.inl ()) else some (.inr false) : Option (Sum Unit Bool))) ?_ ?_ (by unfold fuel; omega) ()]
    · have : ∀ l : List Fct, foldS (fun (_ : Unit) (f : Fct) => (bif decide (f.row.length ≤ 60) then some (.inl ()) else some (.inr false) : Option (Sum Unit Bool))) () l = bif l.all (fun f => decide (f.row.length ≤ 60)) then some (.inl ()) else some (.inr false) := by
        intro l
        induction l with
        | nil => rfl
        | cons x l ih =>
          rw [foldS, List.all_cons]
          cases decide (x.row.length ≤ 60)
          · rfl
          · simp only [cond_true, Bool.true_and]; exact ih
      rw [this]
      cases l.all (fun f => decide (f.row.length ≤ 60)) <;> rfl
    · intro s i x hx
      have hi : i < l.length := (List.getElem?_eq_some_iff.1 hx).1
      unfold gFewR_B1
      dsimp only
      rw [lt_dec hx, cond_true, getI_nat hx]
      simp only [Option.bind_some]
      rw [wrapN (by omega)]
      by_cases hr : x.row.length ≤ 60
      · rw [show decide ((60 : Int) < ((x.row.length : Nat) : Int)) = false from decide_eq_false (by omega), show decide (x.row.length ≤ 60) = true from decide_eq_true hr]; rfl
      · rw [show decide ((60 : Int) < ((x.row.length : Nat) : Int)) = true from decide_eq_true (by omega), show decide (x.row.length ≤ 60) = false from decide_eq_false hr]; rfl
    · intro s
      unfold gFewR_B1
      dsimp only
      rw [lt_decF, cond_false]
theorem gFew_eq (l : List Ver) (hl : l.length ≤ 3000000000000) : gFew l = some (fewF (l.map factOf) 16) := by
  unfold gFew
  rw [gFactsR_eq l hl]
  simp only [Option.bind_some]
  rw [gFewR_eq _ 16 (by decide)]; rfl
theorem few_of {l : List Ver} (h : fewF (l.map factOf) 16 = true) : l.length ≤ 16 ∧ ∀ v ∈ l, v.row.length ≤ 60 := by
  unfold fewF at h
  rw [Bool.and_eq_true, List.all_eq_true] at h
  refine ⟨?_, fun v hv => of_decide_eq_true (h.2 (factOf v) (List.mem_map_of_mem hv))⟩
  have := of_decide_eq_true h.1
  rw [List.length_map] at this
  omega
end Go.Proofs.YtnbnpnmkgemdeaaGreatDoor
namespace Go.Proofs.YtnbnpnmkgemdeaaGreatDoor
open Go.RowKit Go.MapKept
set_option maxRecDepth 100000
set_option linter.unusedVariables false
set_option linter.unusedSimpArgs false
def posV (B : List (List Val)) (x : List Val) : Nat → Nat
  | 0 => 0
  | j + 1 => match B[j]? with
    | some y => if rcmp x y < 0 then posV B x j else j + 1
    | none => j + 1
def insV (B : List (List Val)) (x : List Val) : List (List Val) := B.take (posV B x B.length) ++ x :: B.drop (posV B x B.length)
def sortV (l : List (List Val)) : List (List Val) := l.foldl insV []
theorem posV_spec (B : List (List Val)) (x : List Val) : ∀ j, j ≤ B.length → posV B x j ≤ j ∧ (∀ i y, posV B x j ≤ i → i < j → B[i]? = some y → rcmp x y < 0) ∧ (∀ q, posV B x j = q + 1 → ∃ y, B[q]? = some y ∧ ¬ rcmp x y < 0)
  | 0, _ => ⟨Nat.le_refl _, fun i y _ h => by omega, fun q h => by simp [posV] at h⟩
  | j + 1, hj => by
    obtain ⟨y, hy⟩ := get_of_lt (show j < B.length by omega)
    have e : posV B x (j + 1) = if rcmp x y < 0 then posV B x j else j + 1 := by rw [posV, hy]
    rw [e]
    by_cases h : rcmp x y < 0
    · rw [if_pos h]
      obtain ⟨h1, h2, h3⟩ := posV_spec B x j (by omega)
      refine ⟨by omega, fun i z hi hij hz => ?_, h3⟩
      by_cases hij' : i < j
      · exact h2 i z hi hij' hz
      · have : i = j := by omega
        subst this
        rw [hy] at hz
        obtain rfl := Option.some.inj hz
        exact h
    · rw [if_neg h]
      refine ⟨Nat.le_refl _, fun i z hi hij => by omega, fun q hq => ?_⟩
      obtain rfl : j = q := by omega
      exact ⟨y, hy, h⟩
theorem insV_perm (B : List (List Val)) (x : List Val) : (insV B x).Perm (x :: B) := by
  unfold insV
  refine List.perm_middle.trans ?_
  rw [List.take_append_drop]
theorem insV_asc {B : List (List Val)} (x : List Val) (h : Asc rcmp B) : Asc rcmp (insV B x) := by
  obtain ⟨h1, h2, h3⟩ := posV_spec B x B.length (Nat.le_refl _)
  unfold insV
  generalize posV B x B.length = p at h1 h2 h3
  have hB : Asc rcmp (B.take p ++ B.drop p) := by rw [List.take_append_drop]; exact h
  obtain ⟨ht, hd, hc⟩ := List.pairwise_append.1 hB
  have hx : ∀ b ∈ B.drop p, rcmp x b ≤ 0 := by
    intro b hb
    obtain ⟨i, hi⟩ := List.getElem?_of_mem hb
    rw [List.getElem?_drop] at hi
    have := h2 (p + i) b (by omega) (List.getElem?_eq_some_iff.1 hi).1 hi
    omega
  have hl : ∀ a ∈ B.take p, rcmp a x ≤ 0 := by
    intro a ha
    cases p with
    | zero => simp at ha
    | succ q =>
      obtain ⟨y, hy, hn⟩ := h3 q rfl
      have hyx : rcmp y x ≤ 0 := by
        have := totC_rcmp.anti x y
        have := totC_rcmp.anti y x
        omega
      have hq : q < B.length := (List.getElem?_eq_some_iff.1 hy).1
      have ey := (List.getElem?_eq_some_iff.1 hy).2
      rw [List.take_succ_eq_append_getElem hq, ey] at ha ht
      rcases List.mem_append.1 ha with ha | ha
      · exact totC_rcmp.le_trans ((List.pairwise_append.1 ht).2.2 a ha y (by simp)) hyx
      · obtain rfl : a = y := by simpa using ha
        exact hyx
  refine List.pairwise_append.2 ⟨ht, List.pairwise_cons.2 ⟨hx, hd⟩, fun a ha b hb => ?_⟩
  rcases List.mem_cons.1 hb with rfl | hb
  · exact hl a ha
  · exact hc a ha b hb
theorem foldl_ins : ∀ (l B : List (List Val)), Asc rcmp B → Asc rcmp (l.foldl insV B) ∧ (l.foldl insV B).Perm (l ++ B)
  | [], B, h => ⟨h, List.Perm.refl _⟩
  | x :: l, B, h => by
    obtain ⟨h1, h2⟩ := foldl_ins l (insV B x) (insV_asc x h)
    refine ⟨h1, h2.trans ?_⟩
    refine ((insV_perm B x).append_left l).trans ?_
    exact List.perm_middle
theorem sortV_asc (l : List (List Val)) : Asc rcmp (sortV l) := (foldl_ins l [] List.Pairwise.nil).1
theorem sortV_perm (l : List (List Val)) : (sortV l).Perm l := by
  have := (foldl_ins l [] List.Pairwise.nil).2
  rwa [List.append_nil] at this
theorem sortV_unique {l r : List (List Val)} (h1 : Asc rcmp r) (h2 : r.Perm l) : sortV l = r := asc_unique totC_rcmp (sortV_asc l) h1 ((sortV_perm l).trans h2.symm)
def push {α β ρ : Type} (g : α → β) (N : Nat) (s : List β) (x : α) : Option (Sum (List β) ρ) := bif decide (s.length + 1 ≤ N) then some (.inl (s ++ [g x])) else none
end Go.Proofs.YtnbnpnmkgemdeaaGreatDoor
