/- Parts of the proof, joined. No condition. -/
import Derived.Test.YtfccopdbgfdcdaaGreatDoorKAU
import Derived.Test.YtfccopdbgfdcdaaGreatDoorKBA
set_option linter.unusedSimpArgs false
set_option linter.unusedVariables false
namespace Go.Proofs.YtfccopdbgfdcdaaGreatDoor.St
open Go.RowKit Go.Shelf Go.Lib Go.Sort

set_option maxHeartbeats 400000 in
theorem cmp_eq (a b : Int) (w : World) : Calls Tryz.prog 141 #[.int .i64 a, .int .i64 b] w fun e w' => e = .returned (.int .i64 (I5 a b)) ∧ w = w' := by
  go_enter Tryz.func141, Tryz.ntmps141
  go_wp2
  all_goals
    go_ret
    exact ⟨yK (by unfold I5; (repeat' split) <;> first | rfl | omega), rfl⟩
def YJ (a b : Int) : Int := if a = 0 then b else a
set_option maxHeartbeats 1000000 in
theorem ab4 (a b : Int) (nb c : Nat) (w : World) (c1 : w.cell? ⟨nb, 0, none⟩ = some (.int .i64 a)) (c2 : w.cell? ⟨nb, 1, none⟩ = some (.int .i64 b)) :
    Calls Tryz.prog 140 #[.slice (some ⟨nb, 0, none⟩) 2 c] w fun e w' => e = .returned (.int .i64 (YJ a b)) ∧ w = w' := by
  by_cases ha : a = 0
  · have hab : (a != 0) = false := by simpa using ha
    by_cases hb : b = 0
    · have hbb : (b != 0) = false := by simpa using hb
      have HF := Lib.hid (show YJ a b = 0 by unfold YJ; rw [if_pos ha, hb])
      clear ha hb
      go_enter Tryz.func140, Tryz.ntmps140
      go_wp2
      refine wp_loop_rounds 3 ?_
      rw [rounds_succ]
      go_wp2
      rw [rounds_succ]
      go_wp2
      rw [rounds_succ]
      go_wp2
      go_ret
      exact ⟨yK (by rw [HF.out]), rfl⟩
    · have hbb : (b != 0) = true := by simpa using hb
      have HF := Lib.hid (show YJ a b = b by unfold YJ; rw [if_pos ha])
      clear ha hb
      go_enter Tryz.func140, Tryz.ntmps140
      go_wp2
      refine wp_loop_rounds 2 ?_
      rw [rounds_succ]
      go_wp2
      rw [rounds_succ]
      go_wp2
      go_ret
      exact ⟨yK (by rw [HF.out]), rfl⟩
  · have hab : (a != 0) = true := by simpa using ha
    have HF := Lib.hid (show YJ a b = a by unfold YJ; rw [if_neg ha])
    clear ha
    go_enter Tryz.func140, Tryz.ntmps140
    go_wp2
    refine wp_loop_rounds 1 ?_
    rw [rounds_succ]
    go_wp2
    go_ret
    exact ⟨yK (by rw [HF.out]), rfl⟩

theorem Ml (W : World) (a b c : Obj) : World.drew (((W.alloc a).alloc b).alloc c) = grow (W.drewN 1) #[a, b, c] := by
  rw [alloc_eq_grow, alloc_eq_grow, alloc_eq_grow, grow_grow, grow_grow]; rfl
theorem Si (w : World) (cs : Array Value) (E : TypeId) (nb j : Nat) (h : nb = w.heap.size) : (w.alloc (.cells cs E)).cell? ⟨nb, j, none⟩ = cs[j]? := by subst h; exact cell_of_row _ _ j _ _ _ (heap_alloc_new w _)
def cfP (x y : Int × Int) : Int := YJ (I5 x.1 y.1) (I5 x.2 y.2)
set_option maxRecDepth 100000 in
set_option maxHeartbeats 2000000 in
theorem XP (x y : Int × Int) (W : World) : Calls Tryz.prog 139 #[.agg (e2 x).toArray, .agg (e2 y).toArray] W fun e w' => e = .returned (.int .i64 (cfP x y)) ∧ ∃ q os', w' = grow (W.drewN q) os' := by
  obtain ⟨x1, x2⟩ := x
  obtain ⟨y1, y2⟩ := y
  show Calls Tryz.prog 139 #[.agg #[.int .i64 x1, .int .i64 x2], .agg #[.int .i64 y1, .int .i64 y2]] W _
  have HF := Lib.hid (show cfP (x1, x2) (y1, y2) = YJ (I5 x1 y1) (I5 x2 y2) from rfl)
  generalize cfP (x1, x2) (y1, y2) = R at HF ⊢
  have hc1 := fun w => cmp_eq x1 y1 w
  have hc2 := fun w => cmp_eq x2 y2 w
  generalize I5 x1 y1 = a at hc1 HF
  generalize I5 x2 y2 = b at hc2 HF
  go_enter Tryz.func139, Tryz.ntmps139
  go_wp2_with fail
  go_region_held3 (fun w' => w'.cell? ⟨W.heap.size, 0, none⟩ = some (.int .i64 x1) ∧ w'.cell? ⟨W.heap.size, 1, none⟩ = some (.int .i64 x2) ∧ w'.cell? ⟨W.heap.size + 1, 0, none⟩ = some (.int .i64 y1) ∧ w'.cell? ⟨W.heap.size + 1, 1, none⟩ = some (.int .i64 y2))
    (first | go_keep)
    (first
      | (go_at_call 141; ((with_reducible refine (hc1 _).mono ?_); rintro e w' ⟨rfl, rfl⟩))
      | (go_at_call 141; ((with_reducible refine (hc2 _).mono ?_); rintro e w' ⟨rfl, rfl⟩))
      | (go_at_call 140; refine (ab4 a b _ _ _ ?_ ?_).mono ?_; (exact Si _ _ _ _ _ (by simp)); (exact Si _ _ _ _ _ (by simp)); rintro e w' ⟨rfl, rfl⟩))
  go_wp2_with fail
  go_ret
  exact ⟨by rw [HF.out]; rfl, 1, _, Ml _ _ _ _⟩
theorem TQ (a b : Int) : (I5 a b < 0 ↔ a < b) ∧ (I5 a b = 0 ↔ a = b) := by
  unfold I5
  split
  · constructor <;> constructor <;> intro h <;> omega
  · split
    · constructor <;> constructor <;> intro h <;> omega
    · constructor <;> constructor <;> intro h <;> omega
theorem M3 (x y : Int × Int) : cfP x y < 0 ↔ (x.1 < y.1 ∨ (x.1 = y.1 ∧ x.2 < y.2)) := by
  obtain ⟨h1, h2⟩ := TQ x.1 y.1
  obtain ⟨h3, h4⟩ := TQ x.2 y.2
  unfold cfP YJ
  split
  · rw [h3]; omega
  · rw [h1]; omega
theorem adj : SWO (ltOf cfP) where
  irrefl x := by unfold ltOf; simp [M3]
  trans x y z h1 h2 := by unfold ltOf at *; simp [M3] at *; omega
  ntrans x y z h1 h2 := by unfold ltOf at *; simp [M3] at *; omega
def eT (x y : Int × Int) : Prop := x.1 < y.1 ∨ (x.1 = y.1 ∧ x.2 ≤ y.2)
theorem FN (base : Nat) (A : Option Addr) (n c : Nat) (l : List (Int × Int)) (w : World) (ho : Own e2 2 43 w base (.slice A n c) l) (hn : n ≤ 1000000000) (hbase : base ≤ w.heap.size) :
    Calls Tryz.prog 138 #[.slice A n c, .func (.func 139) #[] #[]] w fun e w' => e = .returned (.tuple #[]) ∧ ∃ l', l'.Perm l ∧ l'.Pairwise eT ∧ Own e2 2 43 w' base (.slice A n c) l' ∧ Below base w w' := by
  have hcon := NU (E := 43) Tryz.sortPeriod Tryz.isAgg43 Tryz.sizeOf43 (enc := e2) eF rD cfP adj 139 (enters_of Tryz.func139 (by kernel_rfl) rfl) XP base A n c l w ho hn hbase
  change Calls Tryz.prog 138 _ _ _ at hcon
  refine hcon.mono fun e w' ⟨he, l', hp, hs, hown, hb⟩ => ⟨he, l', hp, hs.imp fun {x y} h => ?_, hown, hb⟩
  rw [M3] at h
  unfold eT
  omega
end Go.Proofs.YtfccopdbgfdcdaaGreatDoor.St
