/- Parts of the proof, joined. No condition. -/
import Derived.Test.YtfccopdbgfdcdaaGreatDoorKBE
import Derived.Test.YtfccopdbgfdcdaaGreatDoorKBG
import Derived.Test.YtfccopdbgfdcdaaGreatDoorKAI
import Derived.Test.YtfccopdbgfdcdaaGreatDoorKAL
import Derived.Test.YtfccopdbgfdcdaaGreatDoorKAM
import Derived.Test.YtfccopdbgfdcdaaGreatDoorKAR
set_option linter.unusedSimpArgs false
set_option linter.unusedVariables false
namespace Go.Proofs.YtfccopdbgfdcdaaGreatDoor.St
open Go.RowKit
def cP (p : Int × Int) : List AC := [.int .i64 p.1, .int .i64 p.2]
def cC (p : (Int × Int) × Int) : List AC := [.int .i64 p.1.1, .int .i64 p.1.2, .int .i64 p.2]
section
variable {P : Program} {R : PH} {w : World}
theorem rd_gen {α : Type} {enc : α → List Value} {ec : α → List AC} {k : Nat} (hk : ∀ x, (ec x).length = k) (hkv : ∀ x, (enc x).length = k) (hk0 : 0 < k) (hrep : ∀ x (j : Nat) u y v, (enc x)[j]? = some u → (ec x)[j]? = some y → PRep R v y → v = u)
    (hR : ∀ b o u, R b o = some u → w.cell? ⟨b, o, none⟩ = some u) {v : Value} {l : List α} (h : PRep R v (.lst (l.map ec))) : ∃ A c, v = .slice A l.length c ∧ Rd enc k w w.heap.size A l.length l := by
  obtain ⟨a, c, news, rfl, hc, hcells, hreg⟩ := lst_cells (k := k) h (by intro e he; simp only [List.mem_map] at he; obtain ⟨x, _, rfl⟩ := he; exact hk x)
  refine ⟨a, c, by simp, rfl, fun hp => ?_⟩
  obtain ⟨b, o, rfl, hb⟩ := hreg (by simpa using hp)
  have key : ∀ (i : Nat) x, l[i]? = some x → ∀ (j : Nat) u, (enc x)[j]? = some u → w.cell? ⟨b, o + (i * k + j), none⟩ = some u := by
    intro i x hx j u hu
    have he : (l.map ec)[i]? = some (ec x) := by rw [List.getElem?_map, hx]; rfl
    have hj : j < (ec x).length := by rw [hk, ← hkv x]; exact (List.getElem?_eq_some_iff.1 hu).1
    obtain ⟨u0, h0, p0⟩ := hcells.get i _ j _ he (List.getElem?_eq_getElem hj)
    rw [hrep x j u _ u0 hu (List.getElem?_eq_getElem hj) p0] at h0
    exact hR _ _ _ (hb _ _ h0)
  refine ⟨b, o, rfl, ?_, fun i x hx j u hu => ?_⟩
  · obtain ⟨x, hx⟩ := get_of_lt hp
    obtain ⟨u, hu⟩ := get_of_lt (show 0 < (enc x).length by rw [hkv]; exact hk0)
    exact lt_of_cell (key 0 x hx 0 u hu)
  · rw [Nat.add_assoc]; exact key i x hx j u hu
def newRf (R : PH) (w w' : World) : PHf := fun b o => if b < w.heap.size then R b o else w'.cell? ⟨b, o, none⟩
theorem newRf_sub (hR : ∀ b o u, R b o = some u → w.cell? ⟨b, o, none⟩ = some u) (w' : World) : ∀ b o u, R b o = some u → newRf R w w' b o = some u := fun b o u h => by
  have := lt_of_cell (hR b o u h)
  unfold newRf; rw [if_pos this]; exact h
def newR (R : PH) (w w' : World) (hR : ∀ b o u, R b o = some u → w.cell? ⟨b, o, none⟩ = some u) : PH := R.put (newRf R w w') (newRf_sub hR w')
theorem newR_ext (hR : ∀ b o u, R b o = some u → w.cell? ⟨b, o, none⟩ = some u) {w' : World} (hg : Gr w w') : Ext (· < w.heap.size) R (newR R w w' hR) w w' ∧ ∀ b o u, newR R w w' hR b o = some u → w'.cell? ⟨b, o, none⟩ = some u := by
  refine ⟨⟨Kept.of hg.out, newRf_sub hR w', fun b o hb => ?_⟩, fun b o u h => ?_⟩
  · show newRf R w w' b o = _
    unfold newRf; rw [if_pos hb]
  · have h : newRf R w w' b o = some u := h
    unfold newRf at h
    split at h
    · rename_i hb; rw [hg.cells.1 b o hb]; exact hR _ _ _ h
    · exact h
theorem own_prep (hR : ∀ b o u, R b o = some u → w.cell? ⟨b, o, none⟩ = some u) {w' : World} {E : TypeId} {v : Value} {l : List (Int × Int)} (ho : Own e2 2 E w' w.heap.size v l) : PRep (newR R w w' hR) v (.lst (l.map cP)) := by
  obtain ⟨A, c, rfl⟩ := ho.form
  have hrd := ho.rds e2_len
  have hlt := World.ownsRow.lt ho
  have hc : l.length ≤ c := by
    rcases ho.2 with ⟨hv, hn⟩ | ⟨g, cap, cur, hv, _, _, hle, _⟩
    · omega
    · injection hv with _ _ h3; omega
  by_cases hz : l.length = 0
  · have : l = [] := List.eq_nil_of_length_eq_zero hz
    subst this
    exact prep_nil _ _ _
  · obtain ⟨b, o, rfl, hb, hcell⟩ := hrd.2 (by omega)
    have hge : w.heap.size ≤ b := (hlt b rfl).1
    have key : ∀ (i : Nat) x, l[i]? = some x → newR R w w' hR b (o + (i * 2 + 0)) = some (.int .i64 x.1) ∧ newR R w w' hR b (o + (i * 2 + 1)) = some (.int .i64 x.2) := by
      intro i x hx
      show newRf R w w' b _ = _ ∧ newRf R w w' b _ = _
      unfold newRf
      rw [if_neg (by omega), if_neg (by omega), ← Nat.add_assoc, ← Nat.add_assoc]
      exact ⟨hcell i x hx 0 _ rfl, hcell i x hx 1 _ rfl⟩
    refine .lst _ _ _ _ 2 (fun j => (newR R w w' hR b (o + j)).getD Go.undef) b o (by simp) hc (by intro e he; simp only [List.mem_map] at he; obtain ⟨x, _, rfl⟩ := he; rfl) (fun _ => rfl) (fun j hj => ?_) (fun i e j y he hy => ?_)
    · have hi : j / 2 < l.length := by omega
      have hx : l[j / 2]? = some l[j / 2] := List.getElem?_eq_getElem hi
      have := key _ _ hx
      have hm : j = j / 2 * 2 + j % 2 := by omega
      rcases Nat.mod_two_eq_zero_or_one j with h0 | h0
      · rw [h0] at hm; rw [hm, this.1]; rfl
      · rw [h0] at hm; rw [hm, this.2]; rfl
    · rw [List.getElem?_map] at he
      cases hx : l[i]? with
      | none => simp [hx] at he
      | some x =>
        rw [hx] at he; simp only [Option.map_some, Option.some.injEq] at he; subst he
        have := key i x hx
        match j, hy with
        | 0, hy => simp [cP] at hy; subst hy; rw [this.1]; exact .int _ _
        | 1, hy => simp [cP] at hy; subst hy; rw [this.2]; exact .int _ _
        | j + 2, hy => simp [cP] at hy
theorem rep_int {v : Value} {k : IntKind} {n : Int} (h : PRep R v (.int k n)) : v = .int k n := by cases h; rfl
theorem rd_of (hR : ∀ b o u, R b o = some u → w.cell? ⟨b, o, none⟩ = some u) {v : Value} {l : List (Int × Int)} (h : PRep R v (.lst (l.map cP))) : ∃ A c, v = .slice A l.length c ∧ Rd e2 2 w w.heap.size A l.length l :=
  rd_gen (k := 2) (fun _ => rfl) e2_len (by decide) (fun x j u y v hu hy hv => by
    match j, hu, hy with
    | 0, hu, hy => simp [e2] at hu; simp [cP] at hy; subst hu hy; exact rep_int hv
    | 1, hu, hy => simp [e2] at hu; simp [cP] at hy; subst hu hy; exact rep_int hv
    | j + 2, hu, hy => simp [cP] at hy) hR h
theorem rd_of3 (hR : ∀ b o u, R b o = some u → w.cell? ⟨b, o, none⟩ = some u) {v : Value} {l : List ((Int × Int) × Int)} (h : PRep R v (.lst (l.map cC))) : ∃ A c, v = .slice A l.length c ∧ Rd e3 3 w w.heap.size A l.length l :=
  rd_gen (k := 3) (fun _ => rfl) e3_len (by decide) (fun x j u y v hu hy hv => by
    match j, hu, hy with
    | 0, hu, hy => simp [e3] at hu; simp [cC] at hy; subst hu hy; exact rep_int hv
    | 1, hu, hy => simp [e3] at hu; simp [cC] at hy; subst hu hy; exact rep_int hv
    | 2, hu, hy => simp [e3] at hu; simp [cC] at hy; subst hu hy; exact rep_int hv
    | j + 3, hu, hy => simp [cC] at hy) hR h
end
theorem one_arg {vs : Array Value} {p : PV} (h : vs.size = [p].length) : ∃ v, vs = #[v] := by
  obtain ⟨l⟩ := vs
  match l, h with
  | [a], _ => exact ⟨a, rfl⟩
abbrev ofL (l : List ((Int × Int) × Int)) : List (Int × Int) := combS (rsum l) (ofPts l)
theorem of_tree (l : List ((Int × Int) × Int)) (hn : l.length ≤ 100000) : Pure Tryz.prog 142 [.one (.lst (l.map cC))] (.val (.one (.lst ((ofL l).map cP)))) := by
  refine ⟨⟨_, Tryz.func142, by kernel_rfl, by kernel_rfl⟩, fun R w vs hR hs hv => ?_⟩
  obtain ⟨v, rfl⟩ := one_arg hs
  obtain ⟨A, c, rfl, ha⟩ := rd_of3 hR (hv 0 v _ rfl rfl)
  refine (of_prog A _ c l w ha hn).mono ?_
  rintro e w' ⟨A', m', c', rfl, ho, hg⟩
  exact ⟨_, _, rfl, (newR_ext hR hg).1, (newR_ext hR hg).2, own_prep hR ho⟩
theorem ofR_tree (l : List ((Int × Int) × Int)) (hn : l.length ≤ 100000) : Pure Tryz.prog 146 [.one (.lst (l.map cC))] (.val (.one (.lst ((ofL l).map cP)))) := by
  refine ⟨⟨_, Tryz.func146, by kernel_rfl, by kernel_rfl⟩, fun R w vs hR hs hv => ?_⟩
  obtain ⟨v, rfl⟩ := one_arg hs
  obtain ⟨A, c, rfl, ha⟩ := rd_of3 hR (hv 0 v _ rfl rfl)
  refine (of_ref A _ c l w ha hn).mono ?_
  rintro e w' ⟨A', m', c', rfl, ho, hg⟩
  exact ⟨_, _, rfl, (newR_ext hR hg).1, (newR_ext hR hg).2, own_prep hR ho⟩
theorem lev_tree (l : List (Int × Int)) (hn : l.length ≤ 1000) (hasc : Asc l) (hF : ∀ s ∈ l, s.1 < 1099511627776) (hM : ∀ s ∈ l, s.2 ≤ 600) : Pure Tryz.prog 90 [.one (.lst (l.map cP))] (.val (.one (.lst ((levM l).map cP)))) := by
  refine ⟨⟨_, Tryz.func90, by kernel_rfl, by kernel_rfl⟩, fun R w vs hR hs hv => ?_⟩
  obtain ⟨v, rfl⟩ := one_arg hs
  obtain ⟨A, c, rfl, ha⟩ := rd_of hR (hv 0 v _ rfl rfl)
  refine (lev_prog A _ c l w ha hn hasc hF hM).mono ?_
  rintro e w' ⟨A', m', c', rfl, ho, hg⟩
  exact ⟨_, _, rfl, (newR_ext hR hg).1, (newR_ext hR hg).2, own_prep hR ho⟩
theorem levR_tree (l : List (Int × Int)) (hn : l.length ≤ 1000) (hM : ∀ s ∈ l, s.2 ≤ 600) : Pure Tryz.prog 64 [.one (.lst (l.map cP))] (.val (.one (.lst ((levM l).map cP)))) := by
  refine ⟨⟨_, Tryz.func64, by kernel_rfl, by kernel_rfl⟩, fun R w vs hR hs hv => ?_⟩
  obtain ⟨v, rfl⟩ := one_arg hs
  obtain ⟨A, c, rfl, ha⟩ := rd_of hR (hv 0 v _ rfl rfl)
  refine (lev_ref A _ c l w ha hn hM).mono ?_
  rintro e w' ⟨A', m', c', rfl, ho, hg⟩
  exact ⟨_, _, rfl, (newR_ext hR hg).1, (newR_ext hR hg).2, own_prep hR ho⟩
end Go.Proofs.YtfccopdbgfdcdaaGreatDoor.St
namespace Go.Proofs.YtfccopdbgfdcdaaGreatDoor
def toP (p : Per) : Int × Int := (p.lo, p.hi)
def ofP (x : Int × Int) : Per := ⟨x.1, x.2⟩
def toS (s : Stp) : Int × Int := (s.lo, s.n)
def ofS (x : Int × Int) : Stp := ⟨x.1, x.2⟩
def toC (c : Cnt) : (Int × Int) × Int := (toP c.period, c.n)
def ofV (l : List Cnt) : List Stp := (St.ofL (l.map toC)).map ofS
def levV (l : List Stp) : List Per := (St.levM (l.map toS)).map ofP
theorem map_toC (l : List Cnt) : (l.map toC).map St.cC = l.map cCnt := by rw [List.map_map]; rfl
theorem map_ofS (l : List (Int × Int)) : (l.map ofS).map cStp = l.map St.cP := by rw [List.map_map]; rfl
theorem map_toS (l : List Stp) : (l.map toS).map St.cP = l.map cStp := by rw [List.map_map]; rfl
theorem map_ofP (l : List (Int × Int)) : (l.map ofP).map cPer = l.map St.cP := by rw [List.map_map]; rfl
theorem of_pure (l : List Cnt) (hn : l.length ≤ 100000) : Pure Tryz.prog 142 [.one (.lst (l.map cCnt))] (.val (.one (.lst ((ofV l).map cStp)))) := by
  have := St.of_tree (l.map toC) (by simpa using hn)
  rw [map_toC] at this
  unfold ofV; rw [map_ofS]; exact this
theorem ofR_pure (l : List Cnt) (hn : l.length ≤ 100000) : Pure Tryz.prog 146 [.one (.lst (l.map cCnt))] (.val (.one (.lst ((ofV l).map cStp)))) := by
  have := St.ofR_tree (l.map toC) (by simpa using hn)
  rw [map_toC] at this
  unfold ofV; rw [map_ofS]; exact this
structure LevOK (l : List Stp) : Prop where
  len : l.length ≤ 1000
  asc : St.Asc (l.map toS)
  fin : ∀ s ∈ l, s.lo < 1099511627776
  low : ∀ s ∈ l, s.n ≤ 600
theorem lev_pure (l : List Stp) (h : LevOK l) : Pure Tryz.prog 90 [.one (.lst (l.map cStp))] (.val (.one (.lst ((levV l).map cPer)))) := by
  have := St.lev_tree (l.map toS) (by simpa using h.len) h.asc (by intro s hs; obtain ⟨x, hx, rfl⟩ := List.mem_map.1 hs; exact h.fin x hx) (by intro s hs; obtain ⟨x, hx, rfl⟩ := List.mem_map.1 hs; exact h.low x hx)
  rw [map_toS] at this
  unfold levV; rw [map_ofP]; exact this
theorem levR_pure (l : List Stp) (h : LevOK l) : Pure Tryz.prog 64 [.one (.lst (l.map cStp))] (.val (.one (.lst ((levV l).map cPer)))) := by
  have := St.levR_tree (l.map toS) (by simpa using h.len) (by intro s hs; obtain ⟨x, hx, rfl⟩ := List.mem_map.1 hs; exact h.low x hx)
  rw [map_toS] at this
  unfold levV; rw [map_ofP]; exact this
end Go.Proofs.YtfccopdbgfdcdaaGreatDoor
namespace Go.Proofs.YtfccopdbgfdcdaaGreatDoor
open Go.RowKit Go.MapKept
set_option maxRecDepth 100000
set_option maxHeartbeats 8000000
set_option linter.unusedVariables false
set_option linter.unusedSimpArgs false
end Go.Proofs.YtfccopdbgfdcdaaGreatDoor
namespace Go.Proofs.YtfccopdbgfdcdaaGreatDoor
open Go.RowKit Go.MapKept
set_option maxRecDepth 100000
set_option maxHeartbeats 8000000
set_option linter.unusedVariables false
set_option linter.unusedSimpArgs false
end Go.Proofs.YtfccopdbgfdcdaaGreatDoor
namespace Go.Proofs.YtfccopdbgfdcdaaGreatDoor
open Go.RowKit Go.MapKept
set_option maxRecDepth 100000
set_option maxHeartbeats 8000000
set_option linter.unusedVariables false
set_option linter.unusedSimpArgs false
def gSign (a_less : Bool) (a_greater : Bool) : Option (Int) := bif a_less then
  some (-1 : Int)
 else
  bif a_greater then
    some (1 : Int)
  else
    some (0 : Int)
theorem gSign_ok {a_less : Bool} {a_greater : Bool} {r : Int} (H : gSign a_less a_greater = some r) : Pure Tryz.prog 149 [.one (.bool a_less), .one (.bool a_greater)] (.val (.one (.int .i64 r))) := by
  unfold gSign at H
  refine pure_of_aw tab_ok Tryz.func149 rfl rfl Tryz.ntmps149 (by simp) ?_
  simp only [argT, PV.av, List.map_cons, List.map_nil]
  rcases Bool.eq_false_or_eq_true a_less with q_1 | q_1
  · rw [q_1, cond_true] at H
    obtain rfl := Option.some.inj H
    exact go_
  · rw [q_1, cond_false] at H
    rcases Bool.eq_false_or_eq_true a_greater with q_2 | q_2
    · rw [q_2, cond_true] at H
      obtain rfl := Option.some.inj H
      exact go_
    · rw [q_2, cond_false] at H
      obtain rfl := Option.some.inj H
      exact go_
def gCmp7 (a_a : Val) (a_b : Val) : Option (Int) := bif (decide (a_a.kind ≠ a_b.kind)) then
  (gSign (decide (a_a.kind < a_b.kind)) (decide (a_b.kind < a_a.kind))).bind fun r_2 => some r_2
 else
  bif (decide (a_a.int ≠ a_b.int)) then
    (gSign (decide (a_a.int < a_b.int)) (decide (a_b.int < a_a.int))).bind fun r_4 => some r_4
  else
    (gSign (Op.bytesLess a_a.text.toList a_b.text.toList) (!((Op.bytesLess a_a.text.toList a_b.text.toList) || (a_a.text.toList == a_b.text.toList)))).bind fun r_5 => some r_5
theorem gCmp7_ok {a_a : Val} {a_b : Val} {r : Int} (H : gCmp7 a_a a_b = some r) : Pure Tryz.prog 102 [.agg (cV a_a), .agg (cV a_b)] (.val (.one (.int .i64 r))) := by
  unfold gCmp7 at H
  refine pure_of_aw tab_ok Tryz.func102 rfl rfl Tryz.ntmps102 (by simp) ?_
  simp only [argT, PV.av, List.map_cons, List.map_nil]
  rcases Bool.eq_false_or_eq_true (decide (a_a.kind ≠ a_b.kind)) with q_1 | q_1
  · rw [q_1, cond_true] at H
    obtain ⟨r_2, c1, H⟩ := bind_some H
    replace c1 := gSign_ok c1
    try simp only [List.map_append, List.map_cons, List.map_nil, List.nil_append, tE_eq] at c1
    obtain rfl := Option.some.inj H
    exact go_
  · rw [q_1, cond_false] at H
    rcases Bool.eq_false_or_eq_true (decide (a_a.int ≠ a_b.int)) with q_3 | q_3
    · rw [q_3, cond_true] at H
      obtain ⟨r_4, c2, H⟩ := bind_some H
      replace c2 := gSign_ok c2
      try simp only [List.map_append, List.map_cons, List.map_nil, List.nil_append, tE_eq] at c2
      obtain rfl := Option.some.inj H
      exact go_
    · rw [q_3, cond_false] at H
      obtain ⟨r_5, c3, H⟩ := bind_some H
      replace c3 := gSign_ok c3
      try simp only [List.map_append, List.map_cons, List.map_nil, List.nil_append, tE_eq] at c3
      obtain rfl := Option.some.inj H
      exact go_
def gCmp8_B1 (a_a : (List Val)) (a_b : (List Val)) : (Int) → Option (Step (Int) (Int)) := fun s => match s with
  | i_1 => bif (decide (i_1 < ((a_a.length : Nat) : Int))) then
    bif (decide (i_1 < ((a_b.length : Nat) : Int))) then
      (getI a_a i_1).bind fun x_4 => (getI a_b i_1).bind fun x_5 => (gCmp7 x_4 x_5).bind fun r_6 => bif (decide (r_6 ≠ (0 : Int))) then
        some (.ret r_6)
      else
        some (.next (IntKind.i64.wrap (i_1 + (1 : Int))))
    else
      some (.exit i_1)
  else
    some (.exit i_1)
def gCmp8_K1 (a_a : (List Val)) (a_b : (List Val)) : Sum (Int) (Int) → Option ((Int))
  | .inl i_1 => bif (decide (((a_a.length : Nat) : Int) < ((a_b.length : Nat) : Int))) then
    some (-1 : Int)
  else
    bif (decide (((a_b.length : Nat) : Int) < ((a_a.length : Nat) : Int))) then
      some (1 : Int)
    else
      some (0 : Int)
  | .inr q => some q
def gCmp8 (a_a : (List Val)) (a_b : (List Val)) : Option (Int) := (loopM (gCmp8_B1 a_a a_b) fuel (0 : Int)).bind (gCmp8_K1 a_a a_b)
theorem gCmp8_ok {a_a : (List Val)} {a_b : (List Val)} {r : Int} (H : gCmp8 a_a a_b = some r) : Pure Tryz.prog 65 [.one (.lst (a_a.map cV)), .one (.lst (a_b.map cV))] (.val (.one (.int .i64 r))) := by
  unfold gCmp8 at H
  refine pure_of_aw tab_ok Tryz.func65 rfl rfl Tryz.ntmps65 (by simp) ?_
  simp only [argT, PV.av, List.map_cons, List.map_nil]
  repeat' (first | refine p_ rfl rfl rfl rfl rfl ?_ | refine st_nil ?_ | refine x_ rfl rfl rfl rfl rfl rfl rfl rfl ?_ | refine l_ rfl rfl rfl rfl ?_ | refine s_ rfl rfl rfl ?_ | refine t_ rfl rfl rfl rfl ?_ | refine k_ rfl rfl rfl ?_ | refine k0_ rfl rfl ?_ | refine c_ rfl rfl rfl rfl ?_ | refine pick_t rfl rfl rfl rfl rfl rfl rfl ?_ | refine pick_f rfl rfl rfl rfl rfl rfl rfl ?_ | refine aw_seq ?_ | refine aw_region tab_ok _ rfl ?_ | refine aw_drawn2 tabS_ok _ rfl mixed (by decide +kernel) ?_ | refine aw_condT rfl ?_ | refine aw_condF rfl ?_ | refine aw_block ?_ | refine aw_exit ?_ | refine aw_ret ?_ | refine aw_skip ?_ | rw [List.length_map] | rw [mn_norm] | rw [mx_norm])
  refine aw_loopM (fun s : Int => match s with | i_1 => [(0, .one (.c (.lst (a_a.map cV)))), (1, .one (.c (.lst (a_b.map cV)))), (5, .one (.c (.int .i64 i_1)))]) (fun s => match s with | i_1 => []) H (fun _ => Nat.zero_le _)
    (fits_mk ⟨rfl, rfl, rfl, trivial⟩ [] rfl ⟨trivial, trivial, trivial, trivial⟩ trivial) ?_
  rintro i_1 st1 hb1 hk1
  unfold gCmp8_B1 at hb1
  dsimp only at hb1 ⊢
  rcases Bool.eq_false_or_eq_true (decide (i_1 < ((a_a.length : Nat) : Int))) with q_2 | q_2
  · rw [q_2, cond_true] at hb1
    rcases Bool.eq_false_or_eq_true (decide (i_1 < ((a_b.length : Nat) : Int))) with q_3 | q_3
    · rw [q_3, cond_true] at hb1
      obtain ⟨x_4, i1, hb1⟩ := bind_some hb1
      obtain ⟨i1z, i1⟩ := getI_some i1
      have i1x := idxI (f := cV) i1
      obtain ⟨x_5, i2, hb1⟩ := bind_some hb1
      obtain ⟨i2z, i2⟩ := getI_some i2
      have i2x := idxI (f := cV) i2
      obtain ⟨r_6, c3, hb1⟩ := bind_some hb1
      replace c3 := gCmp7_ok c3
      try simp only [List.map_append, List.map_cons, List.map_nil, List.nil_append, tE_eq] at c3
      rcases Bool.eq_false_or_eq_true (decide (r_6 ≠ (0 : Int))) with q_7 | q_7
      · rw [q_7, cond_true] at hb1
        obtain rfl := Option.some.inj hb1
        have hx1 : gCmp8_K1 a_a a_b (.inr r_6) = some _ := hk1
        unfold gCmp8_K1 at hx1
        dsimp only at hx1
        obtain rfl := Option.some.inj hx1
        exact go_
      · rw [q_7, cond_false] at hb1
        obtain rfl := Option.some.inj hb1
        repeat' (first | refine p_ rfl rfl rfl rfl rfl ?_ | refine st_nil ?_ | refine x_ rfl rfl rfl rfl rfl rfl rfl rfl ?_ | refine l_ rfl rfl rfl rfl ?_ | refine s_ rfl rfl rfl ?_ | refine t_ rfl rfl rfl rfl ?_ | refine k_ rfl rfl rfl ?_ | refine k0_ rfl rfl ?_ | refine c_ rfl rfl rfl rfl ?_ | refine pick_t rfl rfl rfl rfl rfl rfl rfl ?_ | refine pick_f rfl rfl rfl rfl rfl rfl rfl ?_ | refine aw_seq ?_ | refine aw_region tab_ok _ rfl ?_ | refine aw_drawn2 tabS_ok _ rfl mixed (by decide +kernel) ?_ | refine aw_condT rfl ?_ | refine aw_condF rfl ?_ | refine aw_block ?_ | refine aw_exit ?_ | refine aw_ret ?_ | refine aw_skip ?_ | rw [List.length_map] | rw [mn_norm] | rw [mx_norm])
        exact ⟨_, rfl, fits_mk ⟨rfl, rfl, rfl, trivial⟩ [] rfl ⟨trivial, trivial, trivial, trivial⟩ trivial⟩
    · rw [q_3, cond_false] at hb1
      obtain rfl := Option.some.inj hb1
      have hx1 : gCmp8_K1 a_a a_b (.inl i_1) = some _ := hk1
      unfold gCmp8_K1 at hx1
      dsimp only at hx1
      rcases Bool.eq_false_or_eq_true (decide (((a_a.length : Nat) : Int) < ((a_b.length : Nat) : Int))) with q_8 | q_8
      · rw [q_8, cond_true] at hx1
        obtain rfl := Option.some.inj hx1
        exact go_
      · rw [q_8, cond_false] at hx1
        rcases Bool.eq_false_or_eq_true (decide (((a_b.length : Nat) : Int) < ((a_a.length : Nat) : Int))) with q_9 | q_9
        · rw [q_9, cond_true] at hx1
          obtain rfl := Option.some.inj hx1
          exact go_
        · rw [q_9, cond_false] at hx1
          obtain rfl := Option.some.inj hx1
          exact go_
  · rw [q_2, cond_false] at hb1
    obtain rfl := Option.some.inj hb1
    have hx1 : gCmp8_K1 a_a a_b (.inl i_1) = some _ := hk1
    unfold gCmp8_K1 at hx1
    dsimp only at hx1
    rcases Bool.eq_false_or_eq_true (decide (((a_a.length : Nat) : Int) < ((a_b.length : Nat) : Int))) with q_8 | q_8
    · rw [q_8, cond_true] at hx1
      obtain rfl := Option.some.inj hx1
      exact go_
    · rw [q_8, cond_false] at hx1
      rcases Bool.eq_false_or_eq_true (decide (((a_b.length : Nat) : Int) < ((a_a.length : Nat) : Int))) with q_9 | q_9
      · rw [q_9, cond_true] at hx1
        obtain rfl := Option.some.inj hx1
        exact go_
      · rw [q_9, cond_false] at hx1
        obtain rfl := Option.some.inj hx1
        exact go_
end Go.Proofs.YtfccopdbgfdcdaaGreatDoor
