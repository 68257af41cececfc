/- Parts of the proof, joined. No condition. -/
import Derived.Test.YtnbnpnmkgemdeaaGreatDoorKBH
import Derived.Test.YtnbnpnmkgemdeaaGreatDoorKBJ
import Derived.Test.YtnbnpnmkgemdeaaGreatDoorKAI
import Derived.Test.YtnbnpnmkgemdeaaGreatDoorKAL
import Derived.Test.YtnbnpnmkgemdeaaGreatDoorKAQ
import Derived.Test.YtnbnpnmkgemdeaaGreatDoorKAP
set_option linter.unusedSimpArgs false
set_option linter.unusedVariables false
namespace Go.Proofs.YtnbnpnmkgemdeaaGreatDoor.St
open Go.RowKit
def cP (p : Int × Int) : List AC := [.int .i64 p.1, .int .i64 p.2]
def cC (p : (Int × Int) × Int) : List AC := [.int .i64 p.1.1, .int .i64 p.1.2, .int .i64 p.2]
section
variable {P : Program} {R : PH} {w : World}
theorem rd_gen {α : Type} {enc : α → List Value} {ec : α → List AC} {k : Nat} (hk : ∀ x, (ec x).length = k) (hkv : ∀ x, (enc x).length = k) (hk0 : 0 < k) (hrep : ∀ x (j : Nat) u y v, (enc x)[j]? = some u → (ec x)[j]? = some y → PRep R v y → v = u)
    (hR : ∀ b o u, R b o = some u → w.cell? ⟨b, o, none⟩ = some u) {v : Value} {l : List α} (h : PRep R v (.lst (l.map ec))) : ∃ A c, v = .slice A l.length c ∧ Rd enc k w w.heap.size A l.length l := by
  obtain ⟨a, c, news, rfl, hc, hcells, hreg⟩ := lst_cells (k := k) h (by intro e he; simp only [List.mem_map] at he; obtain ⟨x, _, rfl⟩ := he; exact hk x)
  refine ⟨a, c, by simp, rfl, fun hp => ?_⟩
  obtain ⟨b, o, rfl, hb⟩ := hreg (by simpa using hp)
  have key : ∀ (i : Nat) x, l[i]? = some x → ∀ (j : Nat) u, (enc x)[j]? = some u → w.cell? ⟨b, o + (i * k + j), none⟩ = some u := by
    intro i x hx j u hu
    have he : (l.map ec)[i]? = some (ec x) := by rw [List.getElem?_map, hx]; rfl
    have hj : j < (ec x).length := by rw [hk, ← hkv x]; exact (List.getElem?_eq_some_iff.1 hu).1
    obtain ⟨u0, h0, p0⟩ := hcells.get i _ j _ he (List.getElem?_eq_getElem hj)
    rw [hrep x j u _ u0 hu (List.getElem?_eq_getElem hj) p0] at h0
    exact hR _ _ _ (hb _ _ h0)
  refine ⟨b, o, rfl, ?_, fun i x hx j u hu => ?_⟩
  · obtain ⟨x, hx⟩ := get_of_lt hp
    obtain ⟨u, hu⟩ := get_of_lt (show 0 < (enc x).length by rw [hkv]; exact hk0)
    exact lt_of_cell (key 0 x hx 0 u hu)
  · rw [Nat.add_assoc]; exact key i x hx j u hu
def newRf (R : PH) (w w' : World) : PHf := fun b o => if b < w.heap.size then R b o else w'.cell? ⟨b, o, none⟩
theorem newRf_sub (hR : ∀ b o u, R b o = some u → w.cell? ⟨b, o, none⟩ = some u) (w' : World) : ∀ b o u, R b o = some u → newRf R w w' b o = some u := fun b o u h => by
  have := lt_of_cell (hR b o u h)
  unfold newRf; rw [if_pos this]; exact h
def newR (R : PH) (w w' : World) (hR : ∀ b o u, R b o = some u → w.cell? ⟨b, o, none⟩ = some u) : PH := R.put (newRf R w w') (newRf_sub hR w')
theorem newR_ext (hR : ∀ b o u, R b o = some u → w.cell? ⟨b, o, none⟩ = some u) {w' : World} (hg : Gr w w') : Ext (· < w.heap.size) R (newR R w w' hR) w w' ∧ ∀ b o u, newR R w w' hR b o = some u → w'.cell? ⟨b, o, none⟩ = some u := by
  refine ⟨⟨Kept.of hg.out, newRf_sub hR w', fun b o hb => ?_⟩, fun b o u h => ?_⟩
  · show newRf R w w' b o = _
    unfold newRf; rw [if_pos hb]
  · have h : newRf R w w' b o = some u := h
    unfold newRf at h
    split at h
    · rename_i hb; rw [hg.cells.1 b o hb]; exact hR _ _ _ h
    · exact h
theorem own_prep (hR : ∀ b o u, R b o = some u → w.cell? ⟨b, o, none⟩ = some u) {w' : World} {E : TypeId} {v : Value} {l : List (Int × Int)} (ho : Own e2 2 E w' w.heap.size v l) : PRep (newR R w w' hR) v (.lst (l.map cP)) := by
  obtain ⟨A, c, rfl⟩ := ho.form
  have hrd := ho.rds e2_len
  have hlt := World.ownsRow.lt ho
  have hc : l.length ≤ c := by
    rcases ho.2 with ⟨hv, hn⟩ | ⟨g, cap, cur, hv, _, _, hle, _⟩
    · omega
    · injection hv with _ _ h3; omega
  by_cases hz : l.length = 0
  · have : l = [] := List.eq_nil_of_length_eq_zero hz
    subst this
    exact prep_nil _ _ _
  · obtain ⟨b, o, rfl, hb, hcell⟩ := hrd.2 (by omega)
    have hge : w.heap.size ≤ b := (hlt b rfl).1
    have key : ∀ (i : Nat) x, l[i]? = some x → newR R w w' hR b (o + (i * 2 + 0)) = some (.int .i64 x.1) ∧ newR R w w' hR b (o + (i * 2 + 1)) = some (.int .i64 x.2) := by
      intro i x hx
      show newRf R w w' b _ = _ ∧ newRf R w w' b _ = _
      unfold newRf
      rw [if_neg (by omega), if_neg (by omega), ← Nat.add_assoc, ← Nat.add_assoc]
      exact ⟨hcell i x hx 0 _ rfl, hcell i x hx 1 _ rfl⟩
    refine .lst _ _ _ _ 2 (fun j => (newR R w w' hR b (o + j)).getD Go.undef) b o (by simp) hc (by intro e he; simp only [List.mem_map] at he; obtain ⟨x, _, rfl⟩ := he; rfl) (fun _ => rfl) (fun j hj => ?_) (fun i e j y he hy => ?_)
    · have hi : j / 2 < l.length := by omega
      have hx : l[j / 2]? = some l[j / 2] := List.getElem?_eq_getElem hi
      have := key _ _ hx
      have hm : j = j / 2 * 2 + j % 2 := by omega
      rcases Nat.mod_two_eq_zero_or_one j with h0 | h0
      · rw [h0] at hm; rw [hm, this.1]; rfl
      · rw [h0] at hm; rw [hm, this.2]; rfl
    · rw [List.getElem?_map] at he
      cases hx : l[i]? with
      | none => simp [hx] at he
      | some x =>
        rw [hx] at he; simp only [Option.map_some, Option.some.injEq] at he; subst he
        have := key i x hx
        match j, hy with
        | 0, hy => simp [cP] at hy; subst hy; rw [this.1]; exact .int _ _
        | 1, hy => simp [cP] at hy; subst hy; rw [this.2]; exact .int _ _
        | j + 2, hy => simp [cP] at hy
theorem rep_int {v : Value} {k : IntKind} {n : Int} (h : PRep R v (.int k n)) : v = .int k n := by cases h; rfl
theorem rd_of (hR : ∀ b o u, R b o = some u → w.cell? ⟨b, o, none⟩ = some u) {v : Value} {l : List (Int × Int)} (h : PRep R v (.lst (l.map cP))) : ∃ A c, v = .slice A l.length c ∧ Rd e2 2 w w.heap.size A l.length l :=
  rd_gen (k := 2) (fun _ => rfl) e2_len (by decide) (fun x j u y v hu hy hv => by
    match j, hu, hy with
    | 0, hu, hy => simp [e2] at hu; simp [cP] at hy; subst hu hy; exact rep_int hv
    | 1, hu, hy => simp [e2] at hu; simp [cP] at hy; subst hu hy; exact rep_int hv
    | j + 2, hu, hy => simp [cP] at hy) hR h
theorem rd_of3 (hR : ∀ b o u, R b o = some u → w.cell? ⟨b, o, none⟩ = some u) {v : Value} {l : List ((Int × Int) × Int)} (h : PRep R v (.lst (l.map cC))) : ∃ A c, v = .slice A l.length c ∧ Rd e3 3 w w.heap.size A l.length l :=
  rd_gen (k := 3) (fun _ => rfl) e3_len (by decide) (fun x j u y v hu hy hv => by
    match j, hu, hy with
    | 0, hu, hy => simp [e3] at hu; simp [cC] at hy; subst hu hy; exact rep_int hv
    | 1, hu, hy => simp [e3] at hu; simp [cC] at hy; subst hu hy; exact rep_int hv
    | 2, hu, hy => simp [e3] at hu; simp [cC] at hy; subst hu hy; exact rep_int hv
    | j + 3, hu, hy => simp [cC] at hy) hR h
end
theorem one_arg {vs : Array Value} {p : PV} (h : vs.size = [p].length) : ∃ v, vs = #[v] := by
  obtain ⟨l⟩ := vs
  match l, h with
  | [a], _ => exact ⟨a, rfl⟩
abbrev ofL (l : List ((Int × Int) × Int)) : List (Int × Int) := combS (rsum l) (ofPts l)
theorem of_tree (l : List ((Int × Int) × Int)) (hn : l.length ≤ 100000) : Pure Tryz.prog 102 [.one (.lst (l.map cC))] (.val (.one (.lst ((ofL l).map cP)))) := by
  refine ⟨⟨_, Tryz.func102, by kernel_rfl, by kernel_rfl⟩, fun R w vs hR hs hv => ?_⟩
  obtain ⟨v, rfl⟩ := one_arg hs
  obtain ⟨A, c, rfl, ha⟩ := rd_of3 hR (hv 0 v _ rfl rfl)
  refine (of_prog A _ c l w ha hn).mono ?_
  rintro e w' ⟨A', m', c', rfl, ho, hg⟩
  exact ⟨_, _, rfl, (newR_ext hR hg).1, (newR_ext hR hg).2, own_prep hR ho⟩
theorem ofR_tree (l : List ((Int × Int) × Int)) (hn : l.length ≤ 100000) : Pure Tryz.prog 113 [.one (.lst (l.map cC))] (.val (.one (.lst ((ofL l).map cP)))) := by
  refine ⟨⟨_, Tryz.func113, by kernel_rfl, by kernel_rfl⟩, fun R w vs hR hs hv => ?_⟩
  obtain ⟨v, rfl⟩ := one_arg hs
  obtain ⟨A, c, rfl, ha⟩ := rd_of3 hR (hv 0 v _ rfl rfl)
  refine (of_ref A _ c l w ha hn).mono ?_
  rintro e w' ⟨A', m', c', rfl, ho, hg⟩
  exact ⟨_, _, rfl, (newR_ext hR hg).1, (newR_ext hR hg).2, own_prep hR ho⟩
theorem lev_tree (l : List (Int × Int)) (hn : l.length ≤ 1000) (hasc : Asc l) (hF : ∀ s ∈ l, s.1 < 1099511627776) (hM : ∀ s ∈ l, s.2 ≤ 600) : Pure Tryz.prog 75 [.one (.lst (l.map cP))] (.val (.one (.lst ((levM l).map cP)))) := by
  refine ⟨⟨_, Tryz.func75, by kernel_rfl, by kernel_rfl⟩, fun R w vs hR hs hv => ?_⟩
  obtain ⟨v, rfl⟩ := one_arg hs
  obtain ⟨A, c, rfl, ha⟩ := rd_of hR (hv 0 v _ rfl rfl)
  refine (lev_prog A _ c l w ha hn hasc hF hM).mono ?_
  rintro e w' ⟨A', m', c', rfl, ho, hg⟩
  exact ⟨_, _, rfl, (newR_ext hR hg).1, (newR_ext hR hg).2, own_prep hR ho⟩
theorem levR_tree (l : List (Int × Int)) (hn : l.length ≤ 1000) (hM : ∀ s ∈ l, s.2 ≤ 600) : Pure Tryz.prog 58 [.one (.lst (l.map cP))] (.val (.one (.lst ((levM l).map cP)))) := by
  refine ⟨⟨_, Tryz.func58, by kernel_rfl, by kernel_rfl⟩, fun R w vs hR hs hv => ?_⟩
  obtain ⟨v, rfl⟩ := one_arg hs
  obtain ⟨A, c, rfl, ha⟩ := rd_of hR (hv 0 v _ rfl rfl)
  refine (lev_ref A _ c l w ha hn hM).mono ?_
  rintro e w' ⟨A', m', c', rfl, ho, hg⟩
  exact ⟨_, _, rfl, (newR_ext hR hg).1, (newR_ext hR hg).2, own_prep hR ho⟩
end Go.Proofs.YtnbnpnmkgemdeaaGreatDoor.St
namespace Go.Proofs.YtnbnpnmkgemdeaaGreatDoor
def toP (p : Per) : Int × Int := (p.lo, p.hi)
def ofP (x : Int × Int) : Per := ⟨x.1, x.2⟩
def toS (s : Stp) : Int × Int := (s.lo, s.n)
def ofS (x : Int × Int) : Stp := ⟨x.1, x.2⟩
def toC (c : Cnt) : (Int × Int) × Int := (toP c.period, c.n)
def ofV (l : List Cnt) : List Stp := (St.ofL (l.map toC)).map ofS
def levV (l : List Stp) : List Per := (St.levM (l.map toS)).map ofP
theorem map_toC (l : List Cnt) : (l.map toC).map St.cC = l.map cCnt := by rw [List.map_map]; rfl
theorem map_ofS (l : List (Int × Int)) : (l.map ofS).map cStp = l.map St.cP := by rw [List.map_map]; rfl
theorem map_toS (l : List Stp) : (l.map toS).map St.cP = l.map cStp := by rw [List.map_map]; rfl
theorem map_ofP (l : List (Int × Int)) : (l.map ofP).map cPer = l.map St.cP := by rw [List.map_map]; rfl
theorem of_pure (l : List Cnt) (hn : l.length ≤ 100000) : Pure Tryz.prog 102 [.one (.lst (l.map cCnt))] (.val (.one (.lst ((ofV l).map cStp)))) := by
  have := St.of_tree (l.map toC) (by simpa using hn)
  rw [map_toC] at this
  unfold ofV; rw [map_ofS]; exact this
theorem ofR_pure (l : List Cnt) (hn : l.length ≤ 100000) : Pure Tryz.prog 113 [.one (.lst (l.map cCnt))] (.val (.one (.lst ((ofV l).map cStp)))) := by
  have := St.ofR_tree (l.map toC) (by simpa using hn)
  rw [map_toC] at this
  unfold ofV; rw [map_ofS]; exact this
structure LevOK (l : List Stp) : Prop where
  len : l.length ≤ 1000
  asc : St.Asc (l.map toS)
  fin : ∀ s ∈ l, s.lo < 1099511627776
  low : ∀ s ∈ l, s.n ≤ 600
theorem lev_pure (l : List Stp) (h : LevOK l) : Pure Tryz.prog 75 [.one (.lst (l.map cStp))] (.val (.one (.lst ((levV l).map cPer)))) := by
  have := St.lev_tree (l.map toS) (by simpa using h.len) h.asc (by intro s hs; obtain ⟨x, hx, rfl⟩ := List.mem_map.1 hs; exact h.fin x hx) (by intro s hs; obtain ⟨x, hx, rfl⟩ := List.mem_map.1 hs; exact h.low x hx)
  rw [map_toS] at this
  unfold levV; rw [map_ofP]; exact this
theorem levR_pure (l : List Stp) (h : LevOK l) : Pure Tryz.prog 58 [.one (.lst (l.map cStp))] (.val (.one (.lst ((levV l).map cPer)))) := by
  have := St.levR_tree (l.map toS) (by simpa using h.len) (by intro s hs; obtain ⟨x, hx, rfl⟩ := List.mem_map.1 hs; exact h.low x hx)
  rw [map_toS] at this
  unfold levV; rw [map_ofP]; exact this
end Go.Proofs.YtnbnpnmkgemdeaaGreatDoor
namespace Go.Proofs.YtnbnpnmkgemdeaaGreatDoor
open Go.RowKit Go.MapKept
set_option linter.unusedVariables false
end Go.Proofs.YtnbnpnmkgemdeaaGreatDoor
namespace Go.Proofs.YtnbnpnmkgemdeaaGreatDoor
open Go.RowKit Go.MapKept
set_option maxRecDepth 100000
set_option maxHeartbeats 8000000
set_option linter.unusedVariables false
set_option linter.unusedSimpArgs false
def gOfL (l : List Cnt) : Option (List Stp) := bif decide (l.length ≤ 100000) then some (ofV l) else none
theorem gOfL_ok {l : List Cnt} {r : List Stp} (H : gOfL l = some r) : Pure Tryz.prog 102 [.one (.lst (l.map cCnt))] (.val (.one (.lst (r.map cStp)))) := by
  unfold gOfL at H
  obtain ⟨g, H⟩ := grd_some H
  obtain rfl := Option.some.inj H
  exact of_pure l (of_decide_eq_true g)
def gOfR (l : List Cnt) : Option (List Stp) := bif decide (l.length ≤ 100000) then some (ofV l) else none
theorem gOfR_ok {l : List Cnt} {r : List Stp} (H : gOfR l = some r) : Pure Tryz.prog 113 [.one (.lst (l.map cCnt))] (.val (.one (.lst (r.map cStp)))) := by
  unfold gOfR at H
  obtain ⟨g, H⟩ := grd_some H
  obtain rfl := Option.some.inj H
  exact ofR_pure l (of_decide_eq_true g)
open Classical in
noncomputable def gLevL (l : List Stp) : Option (List Per) := if LevOK l then some (levV l) else none
theorem gLevL_ok {l : List Stp} {r : List Per} (H : gLevL l = some r) : Pure Tryz.prog 75 [.one (.lst (l.map cStp))] (.val (.one (.lst (r.map cPer)))) := by
  unfold gLevL at H
  split at H
  · rename_i h; obtain rfl := Option.some.inj H; exact lev_pure l h
  · cases H
open Classical in
noncomputable def gLevR (l : List Stp) : Option (List Per) := if LevOK l then some (levV l) else none
theorem gLevR_ok {l : List Stp} {r : List Per} (H : gLevR l = some r) : Pure Tryz.prog 58 [.one (.lst (l.map cStp))] (.val (.one (.lst (r.map cPer)))) := by
  unfold gLevR at H
  split at H
  · rename_i h; obtain rfl := Option.some.inj H; exact levR_pure l h
  · cases H
def FctsOK (l : List Fct) : Prop := l.length ≤ 19 ∧ ∀ f ∈ l, f.row.length ≤ 1000 ∧ ∀ v ∈ f.row, VOK v
open Classical in
noncomputable def gRowsCo (l : List Fct) : Option (List SGroupcoalesce) := if FctsOK l then some (rowsP l) else none
theorem gRowsCo_ok {l : List Fct} {r : List SGroupcoalesce} (H : gRowsCo l = some r) : Pure Tryz.prog 96 [.one (.lst (l.map cFct))] (.val (.one (.lst (r.map cSGroupcoalesce)))) := by
  unfold gRowsCo at H
  split at H
  · rename_i h; obtain rfl := Option.some.inj H; exact rows_pure l h.1 h.2
  · cases H
noncomputable section
def gCounted_B1 (a_l : (List Per)) : ((List Cnt) × Int) → Option (Step ((List Cnt) × Int) ((List Stp))) := fun s => match s with
  | (c_1, v_2) => bif (decide (v_2 < ((a_l.length : Nat) : Int))) then
    (getI a_l v_2).bind fun x_4 => bif (decide (c_1.length + 1 ≤ 5864062014805)) then (some (.next ((c_1 ++ [(⟨x_4, (1 : Int)⟩ : Cnt)]), (IntKind.i64.wrap (v_2 + (1 : Int)))))) else none
  else
    some (.exit (c_1, v_2))
def gCounted_K1 : Sum ((List Cnt) × Int) ((List Stp)) → Option (((List Stp)))
  | .inl (c_1, v_2) => (gOfL c_1).bind fun r_5 => some r_5
  | .inr q => some q
def gCounted (a_l : (List Per)) : Option ((List Stp)) := (loopM (gCounted_B1 a_l) fuel ([], (0 : Int))).bind (gCounted_K1)
theorem gCounted_ok {a_l : (List Per)} {r : (List Stp)} (H : gCounted a_l = some r) : Pure Tryz.prog 76 [.one (.lst (a_l.map cPer))] (.val (.one (.lst (r.map cStp)))) := by
  unfold gCounted at H
  refine pure_of_aw tab_ok Tryz.func76 rfl rfl Tryz.ntmps76 (by simp) ?_
  simp only [argT, PV.av, List.map_cons, List.map_nil]
  repeat' (first | refine p_ rfl rfl rfl rfl rfl ?_ | refine st_nil ?_ | refine x_ rfl rfl rfl rfl rfl rfl rfl rfl ?_ | refine l_ rfl rfl rfl rfl ?_ | refine s_ rfl rfl rfl ?_ | refine t_ rfl rfl rfl rfl ?_ | refine k_ rfl rfl rfl ?_ | refine k0_ rfl rfl ?_ | refine c_ rfl rfl rfl rfl ?_ | refine pick_t rfl rfl rfl rfl rfl rfl rfl ?_ | refine pick_f rfl rfl rfl rfl rfl rfl rfl ?_ | refine aw_seq ?_ | refine aw_region tab_ok _ rfl ?_ | refine aw_drawn2 tabS_ok _ rfl mixed (by decide +kernel) ?_ | refine aw_condT rfl ?_ | refine aw_condF rfl ?_ | refine aw_block ?_ | refine aw_exit ?_ | refine aw_ret ?_ | refine aw_skip ?_ | rw [List.length_map] | rw [mn_norm] | rw [mx_norm])
  refine aw_tok 3 3 rfl ?_
  refine aw_loopM (fun s : (List Cnt) × Int => match s with | (c_1, v_2) => [(3, .one (.own (c_1.map cCnt) 0)), (6, .one (.c (.lst (a_l.map cPer)))), (7, .one (.c (.int .i64 ((a_l.length : Nat) : Int)))), (8, .one (.c (.int .i64 v_2)))]) (fun s => match s with | (c_1, v_2) => [.spare c_1.length 3]) H (fun _ => Nat.zero_le _)
    (fits_mk ⟨rfl, rfl, rfl, rfl, trivial⟩ [] rfl ⟨by show 0 < 1; omega, trivial, trivial, trivial, trivial⟩ ⟨trivial, trivial⟩) ?_
  rintro ⟨c_1, v_2⟩ st1 hb1 hk1
  unfold gCounted_B1 at hb1
  dsimp only at hb1 ⊢
  rcases Bool.eq_false_or_eq_true (decide (v_2 < ((a_l.length : Nat) : Int))) with q_3 | q_3
  · rw [q_3, cond_true] at hb1
    obtain ⟨x_4, i1, hb1⟩ := bind_some hb1
    obtain ⟨i1z, i1⟩ := getI_some i1
    have i1x := idxI (f := cPer) i1
    obtain ⟨g2, hb1⟩ := grd_some hb1
    replace g2 := of_decide_eq_true g2
    obtain rfl := Option.some.inj hb1
    repeat' (first | refine p_ rfl rfl rfl rfl rfl ?_ | refine st_nil ?_ | refine x_ rfl rfl rfl rfl rfl rfl rfl rfl ?_ | refine l_ rfl rfl rfl rfl ?_ | refine s_ rfl rfl rfl ?_ | refine t_ rfl rfl rfl rfl ?_ | refine k_ rfl rfl rfl ?_ | refine k0_ rfl rfl ?_ | refine c_ rfl rfl rfl rfl ?_ | refine pick_t rfl rfl rfl rfl rfl rfl rfl ?_ | refine pick_f rfl rfl rfl rfl rfl rfl rfl ?_ | refine aw_seq ?_ | refine aw_region tab_ok _ rfl ?_ | refine aw_drawn2 tabS_ok _ rfl mixed (by decide +kernel) ?_ | refine aw_condT rfl ?_ | refine aw_condF rfl ?_ | refine aw_block ?_ | refine aw_exit ?_ | refine aw_ret ?_ | refine aw_skip ?_ | rw [List.length_map] | rw [mn_norm] | rw [mx_norm])
    exact ⟨_, rfl, fits_mk ⟨(by simp only [List.map_append, List.map_cons, List.map_nil, List.nil_append] <;> rfl), rfl, rfl, rfl, trivial⟩ [_] (by simp only [List.length_append, List.length_cons, List.length_nil, Nat.zero_add, List.map_append, List.map_cons, List.map_nil] <;> rfl) ⟨by show 0 < 1; omega, trivial, trivial, trivial, trivial⟩ ⟨trivial, trivial⟩⟩
  · rw [q_3, cond_false] at hb1
    obtain rfl := Option.some.inj hb1
    have hx1 : gCounted_K1 (.inl (c_1, v_2)) = some _ := hk1
    unfold gCounted_K1 at hx1
    dsimp only at hx1
    obtain ⟨r_5, c3, hx1⟩ := bind_some hx1
    replace c3 := gOfL_ok c3
    try simp only [List.map_append, List.map_cons, List.map_nil, List.nil_append, tE_eq, tP_eq] at c3
    obtain rfl := Option.some.inj hx1
    exact go_
def gBag1 (a_p : (List Per)) : Option ((List Per)) := bif (decide (((a_p.length : Nat) : Int) = (1 : Int))) then
  some a_p
 else
  (gCounted a_p).bind fun r_2 => (gLevL r_2).bind fun r_3 => some r_3
theorem gBag1_ok {a_p : (List Per)} {r : (List Per)} (H : gBag1 a_p = some r) : Pure Tryz.prog 74 [.one (.lst (a_p.map cPer))] (.val (.one (.lst (r.map cPer)))) := by
  unfold gBag1 at H
  refine pure_of_aw tab_ok Tryz.func74 rfl rfl Tryz.ntmps74 (by simp) ?_
  simp only [argT, PV.av, List.map_cons, List.map_nil]
  rcases Bool.eq_false_or_eq_true (decide (((a_p.length : Nat) : Int) = (1 : Int))) with q_1 | q_1
  · rw [q_1, cond_true] at H
    obtain rfl := Option.some.inj H
    exact go_
  · rw [q_1, cond_false] at H
    obtain ⟨r_2, c1, H⟩ := bind_some H
    replace c1 := gCounted_ok c1
    try simp only [List.map_append, List.map_cons, List.map_nil, List.nil_append, tE_eq, tP_eq] at c1
    obtain ⟨r_3, c2, H⟩ := bind_some H
    replace c2 := gLevL_ok c2
    try simp only [List.map_append, List.map_cons, List.map_nil, List.nil_append, tE_eq, tP_eq] at c2
    obtain rfl := Option.some.inj H
    exact go_
def gBuild_B4 (x_5 : SGroupcoalesce) (r_6 : (List Per)) : ((List Fct) × Int) → Option (Step ((List Fct) × Int) ((List Fct))) := fun s => match s with
  | (out_7, v_8) => bif (decide (v_8 < ((r_6.length : Nat) : Int))) then
    (getI r_6 v_8).bind fun x_10 => bif (decide (x_5.row.length ≤ 4398046511104)) then (bif (decide (out_7.length + 1 ≤ 3518437208883)) then (some (.next ((out_7 ++ [(⟨x_5.row, x_10⟩ : Fct)]), (IntKind.i64.wrap (v_8 + (1 : Int)))))) else none) else none
  else
    some (.exit (out_7, v_8))
def gBuild_K4 (v_3 : Int) : Sum ((List Fct) × Int) ((List Fct)) → Option (Step ((List Fct) × Int) ((List Fct)))
  | .inl (out_7, v_8) => some (.next (out_7, (IntKind.i64.wrap (v_3 + (1 : Int)))))
  | .inr q => some (.ret q)
def gBuild_B3 (a_f : (List Per) → Option ((List Per))) (r_1 : (List SGroupcoalesce)) : ((List Fct) × Int) → Option (Step ((List Fct) × Int) ((List Fct))) := fun s => match s with
  | (out_2, v_3) => bif (decide (v_3 < ((r_1.length : Nat) : Int))) then
    (getI r_1 v_3).bind fun x_5 => (a_f x_5.periods).bind fun r_6 => (loopM (gBuild_B4 x_5 r_6) fuel (out_2, (0 : Int))).bind (gBuild_K4 v_3)
  else
    some (.exit (out_2, v_3))
def gBuild_K3 : Sum ((List Fct) × Int) ((List Fct)) → Option (((List Fct)))
  | .inl (out_2, v_3) => some out_2
  | .inr q => some q
def gBuild (a_l : (List Fct)) (a_f : (List Per) → Option ((List Per))) : Option ((List Fct)) := (gRowsCo a_l).bind fun r_1 => (loopM (gBuild_B3 a_f r_1) fuel ([], (0 : Int))).bind (gBuild_K3)
theorem gBuild_ok {a_l : (List Fct)} {a_f : (List Per) → Option ((List Per))} {r : (List Fct)} {F_a_f : FuncId} {caps_a_f : List AC} (hf_a_f : ∀ (y0 : (List Per)) (r : (List Per)), a_f y0 = some r → Pure Tryz.prog F_a_f ([.one (.lst (y0.map cPer))] ++ caps_a_f.map .one) (.val (.one (.lst (r.map cPer))))) (H : gBuild a_l a_f = some r) : Pure Tryz.prog 73 [.one (.lst (a_l.map cFct)), .one (.fn F_a_f caps_a_f)] (.val (.one (.lst (r.map cFct)))) := by
  unfold gBuild at H
  refine pure_of_aw tab_ok Tryz.func73 rfl rfl Tryz.ntmps73 (by simp) ?_
  simp only [argT, PV.av, List.map_cons, List.map_nil]
  obtain ⟨r_1, c1, H⟩ := bind_some H
  replace c1 := gRowsCo_ok c1
  try simp only [List.map_append, List.map_cons, List.map_nil, List.nil_append, tE_eq, tP_eq] at c1
  repeat' (first | refine p_ rfl rfl rfl rfl rfl ?_ | refine st_nil ?_ | refine x_ rfl rfl rfl rfl rfl rfl rfl rfl ?_ | refine l_ rfl rfl rfl rfl ?_ | refine s_ rfl rfl rfl ?_ | refine t_ rfl rfl rfl rfl ?_ | refine k_ rfl rfl rfl ?_ | refine k0_ rfl rfl ?_ | refine c_ rfl rfl rfl rfl ?_ | refine pick_t rfl rfl rfl rfl rfl rfl rfl ?_ | refine pick_f rfl rfl rfl rfl rfl rfl rfl ?_ | refine aw_seq ?_ | refine aw_region tab_ok _ rfl ?_ | refine aw_drawn2 tabS_ok _ rfl mixed (by decide +kernel) ?_ | refine aw_condT rfl ?_ | refine aw_condF rfl ?_ | refine aw_block ?_ | refine aw_exit ?_ | refine aw_ret ?_ | refine aw_skip ?_ | rw [List.length_map] | rw [mn_norm] | rw [mx_norm])
  refine aw_tok 5 3 rfl ?_
  refine aw_loopM (fun s : (List Fct) × Int => match s with | (out_2, v_3) => [(1, .one (.c (.fn F_a_f caps_a_f))), (5, .one (.own (out_2.map cFct) 0)), (11, .one (.c (.lst (r_1.map cSGroupcoalesce)))), (12, .one (.c (.int .i64 ((r_1.length : Nat) : Int)))), (13, .one (.c (.int .i64 v_3)))]) (fun s => match s with | (out_2, v_3) => [.spare out_2.length 3]) H (fun _ => Nat.zero_le _)
    (fits_mk ⟨rfl, rfl, rfl, rfl, rfl, trivial⟩ [] rfl ⟨trivial, by show 0 < 1; omega, trivial, trivial, trivial, trivial⟩ ⟨trivial, trivial⟩) ?_
  rintro ⟨out_2, v_3⟩ st3 hb3 hk3
  unfold gBuild_B3 at hb3
  dsimp only at hb3 ⊢
  rcases Bool.eq_false_or_eq_true (decide (v_3 < ((r_1.length : Nat) : Int))) with q_4 | q_4
  · rw [q_4, cond_true] at hb3
    obtain ⟨x_5, i2, hb3⟩ := bind_some hb3
    obtain ⟨i2z, i2⟩ := getI_some i2
    have i2x := idxI (f := cSGroupcoalesce) i2
    obtain ⟨r_6, c3, hb3⟩ := bind_some hb3
    replace c3 := hf_a_f _ _ c3
    try simp only [List.map_append, List.map_cons, List.map_nil, List.nil_append, tE_eq, tP_eq] at c3
    repeat' (first | refine p_ rfl rfl rfl rfl rfl ?_ | refine st_nil ?_ | refine x_ rfl rfl rfl rfl rfl rfl rfl rfl ?_ | refine l_ rfl rfl rfl rfl ?_ | refine s_ rfl rfl rfl ?_ | refine t_ rfl rfl rfl rfl ?_ | refine k_ rfl rfl rfl ?_ | refine k0_ rfl rfl ?_ | refine c_ rfl rfl rfl rfl ?_ | refine pick_t rfl rfl rfl rfl rfl rfl rfl ?_ | refine pick_f rfl rfl rfl rfl rfl rfl rfl ?_ | refine aw_seq ?_ | refine aw_region tab_ok _ rfl ?_ | refine aw_drawn2 tabS_ok _ rfl mixed (by decide +kernel) ?_ | refine aw_condT rfl ?_ | refine aw_condF rfl ?_ | refine aw_block ?_ | refine aw_exit ?_ | refine aw_ret ?_ | refine aw_skip ?_ | rw [List.length_map] | rw [mn_norm] | rw [mx_norm])
    refine aw_loopM (fun s : (List Fct) × Int => match s with | (out_7, v_8) => [(1, .one (.c (.fn F_a_f caps_a_f))), (5, .one (.own (out_7.map cFct) 0)), (7, .one (.ptr 1 0)), (11, .one (.c (.lst (r_1.map cSGroupcoalesce)))), (12, .one (.c (.int .i64 ((r_1.length : Nat) : Int)))), (13, .one (.c (.int .i64 v_3))), (20, .one (.c (.lst (r_6.map cPer)))), (21, .one (.c (.int .i64 ((r_6.length : Nat) : Int)))), (22, .one (.c (.int .i64 v_8)))]) (fun s => match s with | (out_7, v_8) => [.spare out_7.length 3, .box [.c (.lst (x_5.row.map cV)), .c (.lst (x_5.periods.map cPer))]]) hb3 (fun _ => Nat.zero_le _)
      (fits_mk ⟨rfl, rfl, rfl, rfl, rfl, rfl, rfl, rfl, rfl, trivial⟩ [] rfl ⟨trivial, by show 0 < 2; omega, by show 1 < 2; omega, trivial, trivial, trivial, trivial, trivial, trivial, trivial⟩ ⟨trivial, ob_below (by rfl), trivial⟩) ?_
    rintro ⟨out_7, v_8⟩ st4 hb4 hk4
    unfold gBuild_B4 at hb4
    dsimp only at hb4 ⊢
    rcases Bool.eq_false_or_eq_true (decide (v_8 < ((r_6.length : Nat) : Int))) with q_9 | q_9
    · rw [q_9, cond_true] at hb4
      obtain ⟨x_10, i4, hb4⟩ := bind_some hb4
      obtain ⟨i4z, i4⟩ := getI_some i4
      have i4x := idxI (f := cPer) i4
      obtain ⟨g5, hb4⟩ := grd_some hb4
      replace g5 := of_decide_eq_true g5
      obtain ⟨g6, hb4⟩ := grd_some hb4
      replace g6 := of_decide_eq_true g6
      obtain rfl := Option.some.inj hb4
      repeat' (first | refine p_ rfl rfl rfl rfl rfl ?_ | refine st_nil ?_ | refine x_ rfl rfl rfl rfl rfl rfl rfl rfl ?_ | refine l_ rfl rfl rfl rfl ?_ | refine s_ rfl rfl rfl ?_ | refine t_ rfl rfl rfl rfl ?_ | refine k_ rfl rfl rfl ?_ | refine k0_ rfl rfl ?_ | refine c_ rfl rfl rfl rfl ?_ | refine pick_t rfl rfl rfl rfl rfl rfl rfl ?_ | refine pick_f rfl rfl rfl rfl rfl rfl rfl ?_ | refine aw_seq ?_ | refine aw_region tab_ok _ rfl ?_ | refine aw_drawn2 tabS_ok _ rfl mixed (by decide +kernel) ?_ | refine aw_condT rfl ?_ | refine aw_condF rfl ?_ | refine aw_block ?_ | refine aw_exit ?_ | refine aw_ret ?_ | refine aw_skip ?_ | rw [List.length_map] | rw [mn_norm] | rw [mx_norm])
      exact ⟨_, rfl, fits_mk ⟨rfl, (by simp only [List.map_append, List.map_cons, List.map_nil, List.nil_append] <;> rfl), rfl, rfl, rfl, rfl, rfl, rfl, rfl, trivial⟩ [_, _] (by simp only [List.length_append, List.length_cons, List.length_nil, Nat.zero_add, List.map_append, List.map_cons, List.map_nil] <;> rfl) ⟨trivial, by show 0 < 2; omega, by show 1 < 2; omega, trivial, trivial, trivial, trivial, trivial, trivial, trivial⟩ ⟨trivial, ob_below (by rfl), trivial⟩⟩
    · rw [q_9, cond_false] at hb4
      obtain rfl := Option.some.inj hb4
      have hx4 : gBuild_K4 v_3 (.inl (out_7, v_8)) = some _ := hk4
      unfold gBuild_K4 at hx4
      dsimp only at hx4
      obtain rfl := Option.some.inj hx4
      repeat' (first | refine p_ rfl rfl rfl rfl rfl ?_ | refine st_nil ?_ | refine x_ rfl rfl rfl rfl rfl rfl rfl rfl ?_ | refine l_ rfl rfl rfl rfl ?_ | refine s_ rfl rfl rfl ?_ | refine t_ rfl rfl rfl rfl ?_ | refine k_ rfl rfl rfl ?_ | refine k0_ rfl rfl ?_ | refine c_ rfl rfl rfl rfl ?_ | refine pick_t rfl rfl rfl rfl rfl rfl rfl ?_ | refine pick_f rfl rfl rfl rfl rfl rfl rfl ?_ | refine aw_seq ?_ | refine aw_region tab_ok _ rfl ?_ | refine aw_drawn2 tabS_ok _ rfl mixed (by decide +kernel) ?_ | refine aw_condT rfl ?_ | refine aw_condF rfl ?_ | refine aw_block ?_ | refine aw_exit ?_ | refine aw_ret ?_ | refine aw_skip ?_ | rw [List.length_map] | rw [mn_norm] | rw [mx_norm])
      exact ⟨_, rfl, fits_mk ⟨rfl, (by simp only [List.map_append, List.map_cons, List.map_nil, List.nil_append] <;> rfl), rfl, rfl, rfl, trivial⟩ [_] (by simp only [List.length_append, List.length_cons, List.length_nil, Nat.zero_add, List.map_append, List.map_cons, List.map_nil] <;> rfl) ⟨trivial, by show 0 < 1; omega, trivial, trivial, trivial, trivial⟩ ⟨trivial, trivial⟩⟩
  · rw [q_4, cond_false] at hb3
    obtain rfl := Option.some.inj hb3
    have hx3 : gBuild_K3 (.inl (out_2, v_3)) = some _ := hk3
    unfold gBuild_K3 at hx3
    dsimp only at hx3
    obtain rfl := Option.some.inj hx3
    exact go_
def gBag (a_l : (List Fct)) : Option ((List Fct)) := (gBuild a_l (fun x0 => gBag1 x0)).bind fun r_1 => some r_1
theorem gBag_ok {a_l : (List Fct)} {r : (List Fct)} (H : gBag a_l = some r) : Pure Tryz.prog 46 [.one (.lst (a_l.map cFct))] (.val (.one (.lst (r.map cFct)))) := by
  unfold gBag at H
  refine pure_of_aw tab_ok Tryz.func46 rfl rfl Tryz.ntmps46 (by simp) ?_
  simp only [argT, PV.av, List.map_cons, List.map_nil]
  obtain ⟨r_1, c1, H⟩ := bind_some H
  replace c1 := gBuild_ok (F_a_f := 74) (caps_a_f := []) (fun x0 r h => gBag1_ok h) c1
  try simp only [List.map_append, List.map_cons, List.map_nil, List.nil_append, tE_eq, tP_eq] at c1
  obtain rfl := Option.some.inj H
  exact go_
end
end Go.Proofs.YtnbnpnmkgemdeaaGreatDoor
namespace Go.Proofs.YtnbnpnmkgemdeaaGreatDoor
open Go.RowKit Go.MapKept
set_option maxRecDepth 100000
set_option maxHeartbeats 8000000
set_option linter.unusedVariables false
set_option linter.unusedSimpArgs false
def gNullR : Option (Val) := some (⟨(0 : Int), (0 : Int), ByteArray.empty⟩ : Val)
theorem gNullR_ok {r : Val} (H : gNullR = some r) : Pure Tryz.prog 152 [] (.val (.agg (cV r))) := by
  unfold gNullR at H
  refine pure_of_aw tab_ok Tryz.func152 rfl rfl Tryz.ntmps152 (by simp) ?_
  simp only [argT, PV.av, List.map_cons, List.map_nil]
  obtain rfl := Option.some.inj H
  exact go_
def gAtR (a_row : (List Val)) (a_i : Int) : Option (Val) := bif (decide (a_i < (0 : Int))) then
  (gNullR ).bind fun r_2 => some r_2
 else
  bif (decide (((a_row.length : Nat) : Int) ≤ a_i)) then
    (gNullR ).bind fun r_4 => some r_4
  else
    (getI a_row a_i).bind fun x_5 => some x_5
theorem gAtR_ok {a_row : (List Val)} {a_i : Int} {r : Val} (H : gAtR a_row a_i = some r) : Pure Tryz.prog 153 [.one (.lst (a_row.map cV)), .one (.int .i64 a_i)] (.val (.agg (cV r))) := by
  unfold gAtR at H
  refine pure_of_aw tab_ok Tryz.func153 rfl rfl Tryz.ntmps153 (by simp) ?_
  simp only [argT, PV.av, List.map_cons, List.map_nil]
  rcases Bool.eq_false_or_eq_true (decide (a_i < (0 : Int))) with q_1 | q_1
  · rw [q_1, cond_true] at H
    obtain ⟨r_2, c1, H⟩ := bind_some H
    replace c1 := gNullR_ok c1
    try simp only [List.map_append, List.map_cons, List.map_nil, List.nil_append, tE_eq, tP_eq] at c1
    obtain rfl := Option.some.inj H
    exact go_
  · rw [q_1, cond_false] at H
    rcases Bool.eq_false_or_eq_true (decide (((a_row.length : Nat) : Int) ≤ a_i)) with q_3 | q_3
    · rw [q_3, cond_true] at H
      obtain ⟨r_4, c2, H⟩ := bind_some H
      replace c2 := gNullR_ok c2
      try simp only [List.map_append, List.map_cons, List.map_nil, List.nil_append, tE_eq, tP_eq] at c2
      obtain rfl := Option.some.inj H
      exact go_
    · rw [q_3, cond_false] at H
      obtain ⟨x_5, i3, H⟩ := bind_some H
      obtain ⟨i3z, i3⟩ := getI_some i3
      have i3x := idxI (f := cV) i3
      obtain rfl := Option.some.inj H
      exact go_
def gEqual8 (a_a : (List Val)) (a_b : (List Val)) : Option (Bool) := (gCmp8 a_a a_b).bind fun r_1 => some (decide (r_1 = (0 : Int)))
theorem gEqual8_ok {a_a : (List Val)} {a_b : (List Val)} {r : Bool} (H : gEqual8 a_a a_b = some r) : Pure Tryz.prog 54 [.one (.lst (a_a.map cV)), .one (.lst (a_b.map cV))] (.val (.one (.bool r))) := by
  unfold gEqual8 at H
  refine pure_of_aw tab_ok Tryz.func54 rfl rfl Tryz.ntmps54 (by simp) ?_
  simp only [argT, PV.av, List.map_cons, List.map_nil]
  obtain ⟨r_1, c1, H⟩ := bind_some H
  replace c1 := gCmp8_ok c1
  try simp only [List.map_append, List.map_cons, List.map_nil, List.nil_append, tE_eq, tP_eq] at c1
  obtain rfl := Option.some.inj H
  exact go_
def gBefore_B1 (a_a : (List Val)) (a_b : (List Val)) (a_o : (List Ord)) : (Int) → Option (Step (Int) (Bool)) := fun s => match s with
  | i_1 => bif (decide (i_1 < ((a_o.length : Nat) : Int))) then
    (getI a_o i_1).bind fun x_3 => (gAtR a_a x_3.column).bind fun r_4 => (gAtR a_b x_3.column).bind fun r_5 => (gCmp7 r_4 r_5).bind fun r_6 => bif (decide (r_6 ≠ (0 : Int))) then
      some (.ret (!((decide (r_6 < (0 : Int))) == x_3.desc)))
    else
      some (.next (IntKind.i64.wrap (i_1 + (1 : Int))))
  else
    some (.exit i_1)
def gBefore_K1 (a_a : (List Val)) (a_b : (List Val)) : Sum (Int) (Bool) → Option ((Bool))
  | .inl i_1 => (gCmp8 a_a a_b).bind fun r_8 => some (decide (r_8 < (0 : Int)))
  | .inr q => some q
def gBefore (a_a : (List Val)) (a_b : (List Val)) (a_o : (List Ord)) : Option (Bool) := (loopM (gBefore_B1 a_a a_b a_o) fuel (0 : Int)).bind (gBefore_K1 a_a a_b)
theorem gBefore_ok {a_a : (List Val)} {a_b : (List Val)} {a_o : (List Ord)} {r : Bool} (H : gBefore a_a a_b a_o = some r) : Pure Tryz.prog 110 [.one (.lst (a_a.map cV)), .one (.lst (a_b.map cV)), .one (.lst (a_o.map cOrd))] (.val (.one (.bool r))) := by
  unfold gBefore at H
  refine pure_of_aw tab_ok Tryz.func110 rfl rfl Tryz.ntmps110 (by simp) ?_
  simp only [argT, PV.av, List.map_cons, List.map_nil]
  repeat' (first | refine p_ rfl rfl rfl rfl rfl ?_ | refine st_nil ?_ | refine x_ rfl rfl rfl rfl rfl rfl rfl rfl ?_ | refine l_ rfl rfl rfl rfl ?_ | refine s_ rfl rfl rfl ?_ | refine t_ rfl rfl rfl rfl ?_ | refine k_ rfl rfl rfl ?_ | refine k0_ rfl rfl ?_ | refine c_ rfl rfl rfl rfl ?_ | refine pick_t rfl rfl rfl rfl rfl rfl rfl ?_ | refine pick_f rfl rfl rfl rfl rfl rfl rfl ?_ | refine aw_seq ?_ | refine aw_region tab_ok _ rfl ?_ | refine aw_drawn2 tabS_ok _ rfl mixed (by decide +kernel) ?_ | refine aw_condT rfl ?_ | refine aw_condF rfl ?_ | refine aw_block ?_ | refine aw_exit ?_ | refine aw_ret ?_ | refine aw_skip ?_ | rw [List.length_map] | rw [mn_norm] | rw [mx_norm])
  refine aw_loopM (fun s : Int => match s with | i_1 => [(0, .one (.c (.lst (a_a.map cV)))), (1, .one (.c (.lst (a_b.map cV)))), (2, .one (.c (.lst (a_o.map cOrd)))), (7, .one (.c (.int .i64 i_1)))]) (fun s => match s with | i_1 => []) H (fun _ => Nat.zero_le _)
    (fits_mk ⟨rfl, rfl, rfl, rfl, trivial⟩ [] rfl ⟨trivial, trivial, trivial, trivial, trivial⟩ trivial) ?_
  rintro i_1 st1 hb1 hk1
  unfold gBefore_B1 at hb1
  dsimp only at hb1 ⊢
  rcases Bool.eq_false_or_eq_true (decide (i_1 < ((a_o.length : Nat) : Int))) with q_2 | q_2
  · rw [q_2, cond_true] at hb1
    obtain ⟨x_3, i1, hb1⟩ := bind_some hb1
    obtain ⟨i1z, i1⟩ := getI_some i1
    have i1x := idxI (f := cOrd) i1
    obtain ⟨r_4, c2, hb1⟩ := bind_some hb1
    replace c2 := gAtR_ok c2
    try simp only [List.map_append, List.map_cons, List.map_nil, List.nil_append, tE_eq, tP_eq] at c2
    obtain ⟨r_5, c3, hb1⟩ := bind_some hb1
    replace c3 := gAtR_ok c3
    try simp only [List.map_append, List.map_cons, List.map_nil, List.nil_append, tE_eq, tP_eq] at c3
    obtain ⟨r_6, c4, hb1⟩ := bind_some hb1
    replace c4 := gCmp7_ok c4
    try simp only [List.map_append, List.map_cons, List.map_nil, List.nil_append, tE_eq, tP_eq] at c4
    rcases Bool.eq_false_or_eq_true (decide (r_6 ≠ (0 : Int))) with q_7 | q_7
    · rw [q_7, cond_true] at hb1
      obtain rfl := Option.some.inj hb1
      have hx1 : gBefore_K1 a_a a_b (.inr (!((decide (r_6 < (0 : Int))) == x_3.desc))) = some _ := hk1
      unfold gBefore_K1 at hx1
      dsimp only at hx1
      obtain rfl := Option.some.inj hx1
      exact go_
    · rw [q_7, cond_false] at hb1
      obtain rfl := Option.some.inj hb1
      repeat' (first | refine p_ rfl rfl rfl rfl rfl ?_ | refine st_nil ?_ | refine x_ rfl rfl rfl rfl rfl rfl rfl rfl ?_ | refine l_ rfl rfl rfl rfl ?_ | refine s_ rfl rfl rfl ?_ | refine t_ rfl rfl rfl rfl ?_ | refine k_ rfl rfl rfl ?_ | refine k0_ rfl rfl ?_ | refine c_ rfl rfl rfl rfl ?_ | refine pick_t rfl rfl rfl rfl rfl rfl rfl ?_ | refine pick_f rfl rfl rfl rfl rfl rfl rfl ?_ | refine aw_seq ?_ | refine aw_region tab_ok _ rfl ?_ | refine aw_drawn2 tabS_ok _ rfl mixed (by decide +kernel) ?_ | refine aw_condT rfl ?_ | refine aw_condF rfl ?_ | refine aw_block ?_ | refine aw_exit ?_ | refine aw_ret ?_ | refine aw_skip ?_ | rw [List.length_map] | rw [mn_norm] | rw [mx_norm])
      exact ⟨_, rfl, fits_mk ⟨rfl, rfl, rfl, rfl, trivial⟩ [] rfl ⟨trivial, trivial, trivial, trivial, trivial⟩ trivial⟩
  · rw [q_2, cond_false] at hb1
    obtain rfl := Option.some.inj hb1
    have hx1 : gBefore_K1 a_a a_b (.inl i_1) = some _ := hk1
    unfold gBefore_K1 at hx1
    dsimp only at hx1
    obtain ⟨r_8, c5, hx1⟩ := bind_some hx1
    replace c5 := gCmp8_ok c5
    try simp only [List.map_append, List.map_cons, List.map_nil, List.nil_append, tE_eq, tP_eq] at c5
    obtain rfl := Option.some.inj hx1
    exact go_
def gMerged_B1 (a_a : (List (List Val))) (a_b : (List (List Val))) (a_o : (List Ord)) : ((List (List Val)) × Int × Int) → Option (Step ((List (List Val)) × Int × Int) ((List (List Val)))) := fun s => match s with
  | (out_1, i_2, k_3) => bif (decide (i_2 < ((a_a.length : Nat) : Int))) then
    bif (decide (i_2 = ((a_a.length : Nat) : Int))) then
      (getI a_b k_3).bind fun x_6 => bif (decide (out_1.length + 1 ≤ 5864062014805)) then (some (.next ((out_1 ++ [x_6]), i_2, (IntKind.i64.wrap (k_3 + (1 : Int)))))) else none
    else
      bif (decide (k_3 < ((a_b.length : Nat) : Int))) then
        (getI a_b k_3).bind fun x_8 => (getI a_a i_2).bind fun x_9 => (gBefore x_8 x_9 a_o).bind fun r_10 => bif r_10 then
          bif (decide (out_1.length + 1 ≤ 5864062014805)) then (some (.next ((out_1 ++ [x_8]), i_2, (IntKind.i64.wrap (k_3 + (1 : Int)))))) else none
        else
          bif (decide (out_1.length + 1 ≤ 5864062014805)) then (some (.next ((out_1 ++ [x_9]), (IntKind.i64.wrap (i_2 + (1 : Int))), k_3))) else none
      else
        (getI a_a i_2).bind fun x_12 => bif (decide (out_1.length + 1 ≤ 5864062014805)) then (some (.next ((out_1 ++ [x_12]), (IntKind.i64.wrap (i_2 + (1 : Int))), k_3))) else none
  else
    bif (decide (k_3 < ((a_b.length : Nat) : Int))) then
      bif (decide (i_2 = ((a_a.length : Nat) : Int))) then
        (getI a_b k_3).bind fun x_15 => bif (decide (out_1.length + 1 ≤ 5864062014805)) then (some (.next ((out_1 ++ [x_15]), i_2, (IntKind.i64.wrap (k_3 + (1 : Int)))))) else none
      else
        (getI a_b k_3).bind fun x_16 => (getI a_a i_2).bind fun x_17 => (gBefore x_16 x_17 a_o).bind fun r_18 => bif r_18 then
          bif (decide (out_1.length + 1 ≤ 5864062014805)) then (some (.next ((out_1 ++ [x_16]), i_2, (IntKind.i64.wrap (k_3 + (1 : Int)))))) else none
        else
          bif (decide (out_1.length + 1 ≤ 5864062014805)) then (some (.next ((out_1 ++ [x_17]), (IntKind.i64.wrap (i_2 + (1 : Int))), k_3))) else none
    else
      some (.exit (out_1, i_2, k_3))
def gMerged_K1 : Sum ((List (List Val)) × Int × Int) ((List (List Val))) → Option (((List (List Val))))
  | .inl (out_1, i_2, k_3) => some out_1
  | .inr q => some q
def gMerged (a_a : (List (List Val))) (a_b : (List (List Val))) (a_o : (List Ord)) : Option ((List (List Val))) := (loopM (gMerged_B1 a_a a_b a_o) fuel ([], (0 : Int), (0 : Int))).bind (gMerged_K1)
theorem gMerged_ok {a_a : (List (List Val))} {a_b : (List (List Val))} {a_o : (List Ord)} {r : (List (List Val))} (H : gMerged a_a a_b a_o = some r) : Pure Tryz.prog 83 [.one (.lst (a_a.map (fun x => [AC.lst (x.map cV)]))), .one (.lst (a_b.map (fun x => [AC.lst (x.map cV)]))), .one (.lst (a_o.map cOrd))] (.val (.one (.lst (r.map (fun x => [AC.lst (x.map cV)]))))) := by
  unfold gMerged at H
  refine pure_of_aw tab_ok Tryz.func83 rfl rfl Tryz.ntmps83 (by simp) ?_
  simp only [argT, PV.av, List.map_cons, List.map_nil]
  repeat' (first | refine p_ rfl rfl rfl rfl rfl ?_ | refine st_nil ?_ | refine x_ rfl rfl rfl rfl rfl rfl rfl rfl ?_ | refine l_ rfl rfl rfl rfl ?_ | refine s_ rfl rfl rfl ?_ | refine t_ rfl rfl rfl rfl ?_ | refine k_ rfl rfl rfl ?_ | refine k0_ rfl rfl ?_ | refine c_ rfl rfl rfl rfl ?_ | refine pick_t rfl rfl rfl rfl rfl rfl rfl ?_ | refine pick_f rfl rfl rfl rfl rfl rfl rfl ?_ | refine aw_seq ?_ | refine aw_region tab_ok _ rfl ?_ | refine aw_drawn2 tabS_ok _ rfl mixed (by decide +kernel) ?_ | refine aw_condT rfl ?_ | refine aw_condF rfl ?_ | refine aw_block ?_ | refine aw_exit ?_ | refine aw_ret ?_ | refine aw_skip ?_ | rw [List.length_map] | rw [mn_norm] | rw [mx_norm])
  refine aw_tok 7 1 rfl ?_
  refine aw_loopM (fun s : (List (List Val)) × Int × Int => match s with | (out_1, i_2, k_3) => [(0, .one (.c (.lst (a_a.map (fun x => [AC.lst (x.map cV)]))))), (1, .one (.c (.lst (a_b.map (fun x => [AC.lst (x.map cV)]))))), (2, .one (.c (.lst (a_o.map cOrd)))), (7, .one (.own (out_1.map (fun x => [AC.lst (x.map cV)])) 0)), (8, .one (.c (.int .i64 i_2))), (9, .one (.c (.int .i64 k_3)))]) (fun s => match s with | (out_1, i_2, k_3) => [.spare out_1.length 1]) H (fun _ => Nat.zero_le _)
    (fits_mk ⟨rfl, rfl, rfl, rfl, rfl, rfl, trivial⟩ [] rfl ⟨trivial, trivial, trivial, by show 0 < 1; omega, trivial, trivial, trivial⟩ ⟨trivial, trivial⟩) ?_
  rintro ⟨out_1, i_2, k_3⟩ st1 hb1 hk1
  unfold gMerged_B1 at hb1
  dsimp only at hb1 ⊢
  rcases Bool.eq_false_or_eq_true (decide (i_2 < ((a_a.length : Nat) : Int))) with q_4 | q_4
  · rw [q_4, cond_true] at hb1
    rcases Bool.eq_false_or_eq_true (decide (i_2 = ((a_a.length : Nat) : Int))) with q_5 | q_5
    · rw [q_5, cond_true] at hb1
      obtain ⟨x_6, i1, hb1⟩ := bind_some hb1
      obtain ⟨i1z, i1⟩ := getI_some i1
      have i1x := idxI (f := (fun x => [AC.lst (x.map cV)])) i1
      obtain ⟨g2, hb1⟩ := grd_some hb1
      replace g2 := of_decide_eq_true g2
      obtain rfl := Option.some.inj hb1
      repeat' (first | refine p_ rfl rfl rfl rfl rfl ?_ | refine st_nil ?_ | refine x_ rfl rfl rfl rfl rfl rfl rfl rfl ?_ | refine l_ rfl rfl rfl rfl ?_ | refine s_ rfl rfl rfl ?_ | refine t_ rfl rfl rfl rfl ?_ | refine k_ rfl rfl rfl ?_ | refine k0_ rfl rfl ?_ | refine c_ rfl rfl rfl rfl ?_ | refine pick_t rfl rfl rfl rfl rfl rfl rfl ?_ | refine pick_f rfl rfl rfl rfl rfl rfl rfl ?_ | refine aw_seq ?_ | refine aw_region tab_ok _ rfl ?_ | refine aw_drawn2 tabS_ok _ rfl mixed (by decide +kernel) ?_ | refine aw_condT rfl ?_ | refine aw_condF rfl ?_ | refine aw_block ?_ | refine aw_exit ?_ | refine aw_ret ?_ | refine aw_skip ?_ | rw [List.length_map] | rw [mn_norm] | rw [mx_norm])
      exact ⟨_, rfl, fits_mk ⟨rfl, rfl, rfl, (by simp only [List.map_append, List.map_cons, List.map_nil, List.nil_append] <;> rfl), rfl, rfl, trivial⟩ [] (by simp only [List.length_append, List.length_cons, List.length_nil, Nat.zero_add, List.map_append, List.map_cons, List.map_nil] <;> rfl) ⟨trivial, trivial, trivial, by show 0 < 1; omega, trivial, trivial, trivial⟩ ⟨trivial, trivial⟩⟩
    · rw [q_5, cond_false] at hb1
      rcases Bool.eq_false_or_eq_true (decide (k_3 < ((a_b.length : Nat) : Int))) with q_7 | q_7
      · rw [q_7, cond_true] at hb1
        obtain ⟨x_8, i3, hb1⟩ := bind_some hb1
        obtain ⟨i3z, i3⟩ := getI_some i3
        have i3x := idxI (f := (fun x => [AC.lst (x.map cV)])) i3
        obtain ⟨x_9, i4, hb1⟩ := bind_some hb1
        obtain ⟨i4z, i4⟩ := getI_some i4
        have i4x := idxI (f := (fun x => [AC.lst (x.map cV)])) i4
        obtain ⟨r_10, c5, hb1⟩ := bind_some hb1
        replace c5 := gBefore_ok c5
        try simp only [List.map_append, List.map_cons, List.map_nil, List.nil_append, tE_eq, tP_eq] at c5
        rcases Bool.eq_false_or_eq_true r_10 with q_11 | q_11
        · rw [q_11, cond_true] at hb1
          obtain ⟨g6, hb1⟩ := grd_some hb1
          replace g6 := of_decide_eq_true g6
          obtain rfl := Option.some.inj hb1
          repeat' (first | refine p_ rfl rfl rfl rfl rfl ?_ | refine st_nil ?_ | refine x_ rfl rfl rfl rfl rfl rfl rfl rfl ?_ | refine l_ rfl rfl rfl rfl ?_ | refine s_ rfl rfl rfl ?_ | refine t_ rfl rfl rfl rfl ?_ | refine k_ rfl rfl rfl ?_ | refine k0_ rfl rfl ?_ | refine c_ rfl rfl rfl rfl ?_ | refine pick_t rfl rfl rfl rfl rfl rfl rfl ?_ | refine pick_f rfl rfl rfl rfl rfl rfl rfl ?_ | refine aw_seq ?_ | refine aw_region tab_ok _ rfl ?_ | refine aw_drawn2 tabS_ok _ rfl mixed (by decide +kernel) ?_ | refine aw_condT rfl ?_ | refine aw_condF rfl ?_ | refine aw_block ?_ | refine aw_exit ?_ | refine aw_ret ?_ | refine aw_skip ?_ | rw [List.length_map] | rw [mn_norm] | rw [mx_norm])
          exact ⟨_, rfl, fits_mk ⟨rfl, rfl, rfl, (by simp only [List.map_append, List.map_cons, List.map_nil, List.nil_append] <;> rfl), rfl, rfl, trivial⟩ [] (by simp only [List.length_append, List.length_cons, List.length_nil, Nat.zero_add, List.map_append, List.map_cons, List.map_nil] <;> rfl) ⟨trivial, trivial, trivial, by show 0 < 1; omega, trivial, trivial, trivial⟩ ⟨trivial, trivial⟩⟩
        · rw [q_11, cond_false] at hb1
          obtain ⟨g7, hb1⟩ := grd_some hb1
          replace g7 := of_decide_eq_true g7
          obtain rfl := Option.some.inj hb1
          repeat' (first | refine p_ rfl rfl rfl rfl rfl ?_ | refine st_nil ?_ | refine x_ rfl rfl rfl rfl rfl rfl rfl rfl ?_ | refine l_ rfl rfl rfl rfl ?_ | refine s_ rfl rfl rfl ?_ | refine t_ rfl rfl rfl rfl ?_ | refine k_ rfl rfl rfl ?_ | refine k0_ rfl rfl ?_ | refine c_ rfl rfl rfl rfl ?_ | refine pick_t rfl rfl rfl rfl rfl rfl rfl ?_ | refine pick_f rfl rfl rfl rfl rfl rfl rfl ?_ | refine aw_seq ?_ | refine aw_region tab_ok _ rfl ?_ | refine aw_drawn2 tabS_ok _ rfl mixed (by decide +kernel) ?_ | refine aw_condT rfl ?_ | refine aw_condF rfl ?_ | refine aw_block ?_ | refine aw_exit ?_ | refine aw_ret ?_ | refine aw_skip ?_ | rw [List.length_map] | rw [mn_norm] | rw [mx_norm])
          exact ⟨_, rfl, fits_mk ⟨rfl, rfl, rfl, (by simp only [List.map_append, List.map_cons, List.map_nil, List.nil_append] <;> rfl), rfl, rfl, trivial⟩ [] (by simp only [List.length_append, List.length_cons, List.length_nil, Nat.zero_add, List.map_append, List.map_cons, List.map_nil] <;> rfl) ⟨trivial, trivial, trivial, by show 0 < 1; omega, trivial, trivial, trivial⟩ ⟨trivial, trivial⟩⟩
      · rw [q_7, cond_false] at hb1
        obtain ⟨x_12, i8, hb1⟩ := bind_some hb1
        obtain ⟨i8z, i8⟩ := getI_some i8
        have i8x := idxI (f := (fun x => [AC.lst (x.map cV)])) i8
        obtain ⟨g9, hb1⟩ := grd_some hb1
        replace g9 := of_decide_eq_true g9
        obtain rfl := Option.some.inj hb1
        repeat' (first | refine p_ rfl rfl rfl rfl rfl ?_ | refine st_nil ?_ | refine x_ rfl rfl rfl rfl rfl rfl rfl rfl ?_ | refine l_ rfl rfl rfl rfl ?_ | refine s_ rfl rfl rfl ?_ | refine t_ rfl rfl rfl rfl ?_ | refine k_ rfl rfl rfl ?_ | refine k0_ rfl rfl ?_ | refine c_ rfl rfl rfl rfl ?_ | refine pick_t rfl rfl rfl rfl rfl rfl rfl ?_ | refine pick_f rfl rfl rfl rfl rfl rfl rfl ?_ | refine aw_seq ?_ | refine aw_region tab_ok _ rfl ?_ | refine aw_drawn2 tabS_ok _ rfl mixed (by decide +kernel) ?_ | refine aw_condT rfl ?_ | refine aw_condF rfl ?_ | refine aw_block ?_ | refine aw_exit ?_ | refine aw_ret ?_ | refine aw_skip ?_ | rw [List.length_map] | rw [mn_norm] | rw [mx_norm])
        exact ⟨_, rfl, fits_mk ⟨rfl, rfl, rfl, (by simp only [List.map_append, List.map_cons, List.map_nil, List.nil_append] <;> rfl), rfl, rfl, trivial⟩ [] (by simp only [List.length_append, List.length_cons, List.length_nil, Nat.zero_add, List.map_append, List.map_cons, List.map_nil] <;> rfl) ⟨trivial, trivial, trivial, by show 0 < 1; omega, trivial, trivial, trivial⟩ ⟨trivial, trivial⟩⟩
  · rw [q_4, cond_false] at hb1
    rcases Bool.eq_false_or_eq_true (decide (k_3 < ((a_b.length : Nat) : Int))) with q_13 | q_13
    · rw [q_13, cond_true] at hb1
      rcases Bool.eq_false_or_eq_true (decide (i_2 = ((a_a.length : Nat) : Int))) with q_14 | q_14
      · rw [q_14, cond_true] at hb1
        obtain ⟨x_15, i10, hb1⟩ := bind_some hb1
        obtain ⟨i10z, i10⟩ := getI_some i10
        have i10x := idxI (f := (fun x => [AC.lst (x.map cV)])) i10
        obtain ⟨g11, hb1⟩ := grd_some hb1
        replace g11 := of_decide_eq_true g11
        obtain rfl := Option.some.inj hb1
        repeat' (first | refine p_ rfl rfl rfl rfl rfl ?_ | refine st_nil ?_ | refine x_ rfl rfl rfl rfl rfl rfl rfl rfl ?_ | refine l_ rfl rfl rfl rfl ?_ | refine s_ rfl rfl rfl ?_ | refine t_ rfl rfl rfl rfl ?_ | refine k_ rfl rfl rfl ?_ | refine k0_ rfl rfl ?_ | refine c_ rfl rfl rfl rfl ?_ | refine pick_t rfl rfl rfl rfl rfl rfl rfl ?_ | refine pick_f rfl rfl rfl rfl rfl rfl rfl ?_ | refine aw_seq ?_ | refine aw_region tab_ok _ rfl ?_ | refine aw_drawn2 tabS_ok _ rfl mixed (by decide +kernel) ?_ | refine aw_condT rfl ?_ | refine aw_condF rfl ?_ | refine aw_block ?_ | refine aw_exit ?_ | refine aw_ret ?_ | refine aw_skip ?_ | rw [List.length_map] | rw [mn_norm] | rw [mx_norm])
        exact ⟨_, rfl, fits_mk ⟨rfl, rfl, rfl, (by simp only [List.map_append, List.map_cons, List.map_nil, List.nil_append] <;> rfl), rfl, rfl, trivial⟩ [] (by simp only [List.length_append, List.length_cons, List.length_nil, Nat.zero_add, List.map_append, List.map_cons, List.map_nil] <;> rfl) ⟨trivial, trivial, trivial, by show 0 < 1; omega, trivial, trivial, trivial⟩ ⟨trivial, trivial⟩⟩
      · rw [q_14, cond_false] at hb1
        obtain ⟨x_16, i12, hb1⟩ := bind_some hb1
        obtain ⟨i12z, i12⟩ := getI_some i12
        have i12x := idxI (f := (fun x => [AC.lst (x.map cV)])) i12
        obtain ⟨x_17, i13, hb1⟩ := bind_some hb1
        obtain ⟨i13z, i13⟩ := getI_some i13
        have i13x := idxI (f := (fun x => [AC.lst (x.map cV)])) i13
        obtain ⟨r_18, c14, hb1⟩ := bind_some hb1
        replace c14 := gBefore_ok c14
        try simp only [List.map_append, List.map_cons, List.map_nil, List.nil_append, tE_eq, tP_eq] at c14
        rcases Bool.eq_false_or_eq_true r_18 with q_19 | q_19
        · rw [q_19, cond_true] at hb1
          obtain ⟨g15, hb1⟩ := grd_some hb1
          replace g15 := of_decide_eq_true g15
          obtain rfl := Option.some.inj hb1
          repeat' (first | refine p_ rfl rfl rfl rfl rfl ?_ | refine st_nil ?_ | refine x_ rfl rfl rfl rfl rfl rfl rfl rfl ?_ | refine l_ rfl rfl rfl rfl ?_ | refine s_ rfl rfl rfl ?_ | refine t_ rfl rfl rfl rfl ?_ | refine k_ rfl rfl rfl ?_ | refine k0_ rfl rfl ?_ | refine c_ rfl rfl rfl rfl ?_ | refine pick_t rfl rfl rfl rfl rfl rfl rfl ?_ | refine pick_f rfl rfl rfl rfl rfl rfl rfl ?_ | refine aw_seq ?_ | refine aw_region tab_ok _ rfl ?_ | refine aw_drawn2 tabS_ok _ rfl mixed (by decide +kernel) ?_ | refine aw_condT rfl ?_ | refine aw_condF rfl ?_ | refine aw_block ?_ | refine aw_exit ?_ | refine aw_ret ?_ | refine aw_skip ?_ | rw [List.length_map] | rw [mn_norm] | rw [mx_norm])
          exact ⟨_, rfl, fits_mk ⟨rfl, rfl, rfl, (by simp only [List.map_append, List.map_cons, List.map_nil, List.nil_append] <;> rfl), rfl, rfl, trivial⟩ [] (by simp only [List.length_append, List.length_cons, List.length_nil, Nat.zero_add, List.map_append, List.map_cons, List.map_nil] <;> rfl) ⟨trivial, trivial, trivial, by show 0 < 1; omega, trivial, trivial, trivial⟩ ⟨trivial, trivial⟩⟩
        · rw [q_19, cond_false] at hb1
          obtain ⟨g16, hb1⟩ := grd_some hb1
          replace g16 := of_decide_eq_true g16
          obtain rfl := Option.some.inj hb1
          repeat' (first | refine p_ rfl rfl rfl rfl rfl ?_ | refine st_nil ?_ | refine x_ rfl rfl rfl rfl rfl rfl rfl rfl ?_ | refine l_ rfl rfl rfl rfl ?_ | refine s_ rfl rfl rfl ?_ | refine t_ rfl rfl rfl rfl ?_ | refine k_ rfl rfl rfl ?_ | refine k0_ rfl rfl ?_ | refine c_ rfl rfl rfl rfl ?_ | refine pick_t rfl rfl rfl rfl rfl rfl rfl ?_ | refine pick_f rfl rfl rfl rfl rfl rfl rfl ?_ | refine aw_seq ?_ | refine aw_region tab_ok _ rfl ?_ | refine aw_drawn2 tabS_ok _ rfl mixed (by decide +kernel) ?_ | refine aw_condT rfl ?_ | refine aw_condF rfl ?_ | refine aw_block ?_ | refine aw_exit ?_ | refine aw_ret ?_ | refine aw_skip ?_ | rw [List.length_map] | rw [mn_norm] | rw [mx_norm])
          exact ⟨_, rfl, fits_mk ⟨rfl, rfl, rfl, (by simp only [List.map_append, List.map_cons, List.map_nil, List.nil_append] <;> rfl), rfl, rfl, trivial⟩ [] (by simp only [List.length_append, List.length_cons, List.length_nil, Nat.zero_add, List.map_append, List.map_cons, List.map_nil] <;> rfl) ⟨trivial, trivial, trivial, by show 0 < 1; omega, trivial, trivial, trivial⟩ ⟨trivial, trivial⟩⟩
    · rw [q_13, cond_false] at hb1
      obtain rfl := Option.some.inj hb1
      have hx1 : gMerged_K1 (.inl (out_1, i_2, k_3)) = some _ := hk1
      unfold gMerged_K1 at hx1
      dsimp only at hx1
      obtain rfl := Option.some.inj hx1
      exact go_
end Go.Proofs.YtnbnpnmkgemdeaaGreatDoor
namespace Go.Proofs.YtnbnpnmkgemdeaaGreatDoor
open Go.RowKit Go.MapKept
set_option maxRecDepth 100000
set_option maxHeartbeats 8000000
set_option linter.unusedVariables false
set_option linter.unusedSimpArgs false
def gOrderB (rec : List (List Val) → List Ord → Option (List (List Val))) (a_l : (List (List Val))) (a_o : (List Ord)) : Option ((List (List Val))) := bif (decide (((a_l.length : Nat) : Int) = (0 : Int))) then
  some []
 else
  bif (decide (((a_l.length : Nat) : Int) = (1 : Int))) then
    (getI a_l (0 : Int)).bind fun x_3 => bif (decide (x_3.length ≤ 4398046511104)) then (some [x_3]) else none
  else
    bif (decide ((2 : Int) ≠ 0)) then ((subI a_l (0 : Int) (IntKind.i64.wrap (((a_l.length : Nat) : Int).tdiv (2 : Int)))).bind fun s_4 => (rec s_4 a_o).bind fun r_5 => (subI a_l (IntKind.i64.wrap (((a_l.length : Nat) : Int).tdiv (2 : Int))) ((a_l.length : Nat) : Int)).bind fun s_6 => (rec s_6 a_o).bind fun r_7 => (gMerged r_5 r_7 a_o).bind fun r_8 => some r_8) else none
theorem gOrderB_ok {rec : List (List Val) → List Ord → Option (List (List Val))}  (hrec : ∀ {x : List (List Val)} {y : List Ord} {r : List (List Val)}, rec x y = some r → Pure Tryz.prog 55 [.one (.lst (x.map (fun x => [AC.lst (x.map cV)]))), .one (.lst (y.map cOrd))] (.val (.one (.lst (r.map (fun x => [AC.lst (x.map cV)])))))) {a_l : (List (List Val))} {a_o : (List Ord)} {r : (List (List Val))} (H : gOrderB rec a_l a_o = some r) : Pure Tryz.prog 55 [.one (.lst (a_l.map (fun x => [AC.lst (x.map cV)]))), .one (.lst (a_o.map cOrd))] (.val (.one (.lst (r.map (fun x => [AC.lst (x.map cV)]))))) := by
  unfold gOrderB at H
  refine pure_of_aw tab_ok Tryz.func55 rfl rfl Tryz.ntmps55 (by simp) ?_
  simp only [argT, PV.av, List.map_cons, List.map_nil]
  rcases Bool.eq_false_or_eq_true (decide (((a_l.length : Nat) : Int) = (0 : Int))) with q_1 | q_1
  · rw [q_1, cond_true] at H
    obtain rfl := Option.some.inj H
    exact go_
  · rw [q_1, cond_false] at H
    rcases Bool.eq_false_or_eq_true (decide (((a_l.length : Nat) : Int) = (1 : Int))) with q_2 | q_2
    · rw [q_2, cond_true] at H
      obtain ⟨x_3, i1, H⟩ := bind_some H
      obtain ⟨i1z, i1⟩ := getI_some i1
      have i1x := idxI (f := (fun x => [AC.lst (x.map cV)])) i1
      obtain ⟨g2, H⟩ := grd_some H
      replace g2 := of_decide_eq_true g2
      obtain rfl := Option.some.inj H
      repeat' (first | refine p_ rfl rfl rfl rfl rfl ?_ | refine st_nil ?_ | refine x_ rfl rfl rfl rfl rfl rfl rfl rfl ?_ | refine l_ rfl rfl rfl rfl ?_ | refine s_ rfl rfl rfl ?_ | refine t_ rfl rfl rfl rfl ?_ | refine k_ rfl rfl rfl ?_ | refine k0_ rfl rfl ?_ | refine c_ rfl rfl rfl rfl ?_ | refine pick_t rfl rfl rfl rfl rfl rfl rfl ?_ | refine pick_f rfl rfl rfl rfl rfl rfl rfl ?_ | refine aw_seq ?_ | refine aw_region tab_ok _ rfl ?_ | refine aw_drawn2 tabS_ok _ rfl mixed (by decide +kernel) ?_ | refine aw_condT rfl ?_ | refine aw_condF rfl ?_ | refine aw_block ?_ | refine aw_exit ?_ | refine aw_ret ?_ | refine aw_skip ?_ | rw [List.length_map] | rw [mn_norm] | rw [mx_norm])
      refine end_ret (res_of rfl ?_ ?_)
      · repeat' (first | exact trivial | rfl | exact Nat.le_of_ble_eq_true rfl | omega | apply And.intro)
      · first | rfl | (simp only [List.map_append, List.map_cons, List.map_nil, List.nil_append] <;> rfl)
    · rw [q_2, cond_false] at H
      obtain ⟨g3, H⟩ := grd_some H
      replace g3 := of_decide_eq_true g3
      obtain ⟨s_4, u4, H⟩ := bind_some H
      obtain ⟨⟨u4a, u4b, u4c⟩, u4⟩ := subI_some u4
      have u4x := subE (f := (fun x => [AC.lst (x.map cV)])) u4
      obtain ⟨r_5, c5, H⟩ := bind_some H
      replace c5 := hrec c5
      try simp only [List.map_append, List.map_cons, List.map_nil, List.nil_append, tE_eq, tP_eq] at c5
      obtain ⟨s_6, u6, H⟩ := bind_some H
      obtain ⟨⟨u6a, u6b, u6c⟩, u6⟩ := subI_some u6
      have u6x := subE (f := (fun x => [AC.lst (x.map cV)])) u6
      obtain ⟨r_7, c7, H⟩ := bind_some H
      replace c7 := hrec c7
      try simp only [List.map_append, List.map_cons, List.map_nil, List.nil_append, tE_eq, tP_eq] at c7
      obtain ⟨r_8, c8, H⟩ := bind_some H
      replace c8 := gMerged_ok c8
      try simp only [List.map_append, List.map_cons, List.map_nil, List.nil_append, tE_eq, tP_eq] at c8
      obtain rfl := Option.some.inj H
      repeat' (first | refine p_ rfl rfl rfl rfl rfl ?_ | refine st_nil ?_ | refine x_ rfl rfl rfl rfl rfl rfl rfl rfl ?_ | refine l_ rfl rfl rfl rfl ?_ | refine s_ rfl rfl rfl ?_ | refine t_ rfl rfl rfl rfl ?_ | refine k_ rfl rfl rfl ?_ | refine k0_ rfl rfl ?_ | refine c_ rfl rfl rfl rfl ?_ | refine pick_t rfl rfl rfl rfl rfl rfl rfl ?_ | refine pick_f rfl rfl rfl rfl rfl rfl rfl ?_ | refine aw_seq ?_ | refine aw_region tab_ok _ rfl ?_ | refine aw_drawn2 tabS_ok _ rfl mixed (by decide +kernel) ?_ | refine aw_condT rfl ?_ | refine aw_condF rfl ?_ | refine aw_block ?_ | refine aw_exit ?_ | refine aw_ret ?_ | refine aw_skip ?_ | rw [List.length_map] | rw [mn_norm] | rw [mx_norm] | rw [u4x] | rw [u6x] | rw [show ((0 : Nat) : Int) = 0 from rfl])
      refine end_ret (res_of rfl ?_ ?_)
      · repeat' (first | exact trivial | rfl | exact Nat.le_of_ble_eq_true rfl | omega | apply And.intro)
      · first | rfl | (simp only [List.map_append, List.map_cons, List.map_nil, List.nil_append] <;> rfl)
def gOrder : Nat → List (List Val) → List Ord → Option (List (List Val))
  | 0, _, _ => none
  | n + 1, a, b => gOrderB (gOrder n) a b
theorem gOrder_ok : ∀ (n : Nat) {x : List (List Val)} {y : List Ord} {r : List (List Val)}, gOrder n x y = some r → Pure Tryz.prog 55 [.one (.lst (x.map (fun x => [AC.lst (x.map cV)]))), .one (.lst (y.map cOrd))] (.val (.one (.lst (r.map (fun x => [AC.lst (x.map cV)])))))
  | 0, _, _, _, h => nomatch h
  | n + 1, _, _, _, h => gOrderB_ok (gOrder_ok n) h
def gSortR (a_l : (List (List Val))) : Option ((List (List Val))) := (gOrder 64 a_l ([] : (List Ord))).bind fun r_1 => some r_1
theorem gSortR_ok {a_l : (List (List Val))} {r : (List (List Val))} (H : gSortR a_l = some r) : Pure Tryz.prog 28 [.one (.lst (a_l.map (fun x => [AC.lst (x.map cV)])))] (.val (.one (.lst (r.map (fun x => [AC.lst (x.map cV)]))))) := by
  unfold gSortR at H
  refine pure_of_aw tab_ok Tryz.func28 rfl rfl Tryz.ntmps28 (by simp) ?_
  simp only [argT, PV.av, List.map_cons, List.map_nil]
  obtain ⟨r_1, c1, H⟩ := bind_some H
  replace c1 := gOrder_ok 64 c1
  try simp only [List.map_append, List.map_cons, List.map_nil, List.nil_append, tE_eq, tP_eq] at c1
  obtain rfl := Option.some.inj H
  exact go_
end Go.Proofs.YtnbnpnmkgemdeaaGreatDoor
