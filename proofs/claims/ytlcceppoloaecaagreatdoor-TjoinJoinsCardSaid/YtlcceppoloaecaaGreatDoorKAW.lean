/- Parts of the proof, joined. No condition. -/
import Derived.Test.YtlcceppoloaecaaGreatDoorKAV
import Derived.Test.YtlcceppoloaecaaGreatDoorKAT
set_option linter.unusedSimpArgs false
set_option linter.unusedVariables false
namespace Go.Proofs.YtlcceppoloaecaaGreatDoor.St
open Go.RowKit
theorem Rd.take {α : Type} {enc : α → List Value} {k : Nat} {w : World} {B n j : Nat} {A : Option Addr} {l : List α} (h : Rd enc k w B A n l) (hj : j ≤ n) : Rd enc k w B A j (l.take j) := by
  refine ⟨by rw [List.length_take, h.1]; omega, fun h0 => ?_⟩
  obtain ⟨b, o, e, hb, hc⟩ := h.2 (by omega)
  refine ⟨b, o, e, hb, fun i x hx => hc i x ?_⟩
  have hi : i < j := by have := (List.getElem?_eq_some_iff.1 hx).1; simp at this; omega
  rwa [List.getElem?_take_of_lt hi] at hx
theorem adt {l : List (Int × Int)} {p q : Int × Int} (hq : l.getLast? = some q) (h : ¬ p.1 ≤ q.2) : jV l p = l ++ [p] := by
  unfold jV; rw [hq]; simp only; rw [if_neg h]
theorem afb {l : List (Int × Int)} {p q : Int × Int} (hq : l.getLast? = some q) (h : p.1 ≤ q.2) : jV l p = l.dropLast ++ [(q.1, max q.2 p.2)] := by
  unfold jV; rw [hq]; simp only; rw [if_pos h]

theorem Eo {α : Type} {enc : α → List Value} {k : Nat} {E : TypeId} {W w4 : World} {base b o : Nat} {v u : Value} {l : List α} (hgr : W.grownBy w4 v.ownBlock) (hown : Own enc k E W base v l) (hbase : base ≤ W.heap.size) (hb : b < base) (h : W.cell? ⟨b, o, none⟩ = some u) : w4.cell? ⟨b, o, none⟩ = some u :=
  ((hown.grown hbase hgr).cell (p := ⟨b, o, none⟩) hb).trans h
theorem yE (w : World) (o : Obj) (nb : Nat) (h : nb = w.heap.size) : (w.alloc o).heap[nb]? = some o := by subst h; exact heap_alloc_new w o
theorem uM {w : World} {B : Nat} {ops : Array Oper} {rest : List Oper} {o : Oper} {a : Act} {Q : Exit → Act → World → Prop} (hgd : o.guard = none) (s x : Operand)
    (ho : o.op = .call { callee := .builtin .append, args := #[s, x], argTypes := #[83, 83] }) (base : Nat) (v : Value) (l : List (Int × Int)) (hs : a.eval s = v) (hown : Own e2 2 53 w base v l) (A : Option Addr) (m c : Nat) (xs : List (Int × Int))
    (hx : a.eval x = .slice A m c) (hr : Rd e2 2 w B A m xs) (hnil : A = none → m = 0 ∧ c = 0) (hlen : l.length + m ≤ 1000000000) (hbase : base ≤ w.heap.size)
    (h : ∀ A n c w', Own e2 2 53 w' base (.slice A n c) (l ++ xs) → Below base w w' → wpList Tryz.prog ops Q rest (a.put o.dst (.slice A n c)) w') :
    wpList Tryz.prog ops Q (o :: rest) a w := by
  obtain ⟨i0, hi, hz0, hz1, hz2⟩ := info_parts yZ
  exact Um hgd s x 83 ho i0 _ 16 Tryz.underlying83 hi hz0 hz1 hz2 rfl (by omega) gF vo v l hs hown A m c xs hx hr hnil (by omega) (by omega) hbase h

set_option maxRecDepth 100000 in
set_option maxHeartbeats 2000000 in
theorem V3 (base : Nat) (A : Option Addr) (n c : Nat) (l : List (Int × Int)) (x y : Int) (w : World) (ho : Own e2 2 53 w base (.slice A n c) l) (hn : n ≤ 1000000) (hbase : base ≤ w.heap.size) :
    Calls Tryz.prog 160 #[.slice A n c, .agg #[.int .i64 x, .int .i64 y]] w fun e w' => ∃ A' m' c', e = .returned (.slice A' m' c') ∧ Own e2 2 53 w' base (.slice A' m' c') (jV l (x, y)) ∧ Below base w w' := by
  have ha := ho.rds gF
  have hlen := Lib.hid ho.len
  have hbase1 : base ≤ w.heap.size + 1 := by omega
  by_cases h0 : 0 < n
  · obtain ⟨b1, o1, x1, y1, rfl, hb1, hx1, c1, c2⟩ := ha.at2 (i := n - 1) (by omega)
    have hlast := Lib.hid (AL (by rw [hlen.out]; exact hx1))
    have h0b : decide (0 < (n : Int)) = true := by simpa using h0
    have hn1 : (1 : Int) ≤ (n : Int) := by omega
    by_cases hle : x ≤ y1
    · have hleb : decide (x ≤ y1) = true := by simpa using hle
      have hj := Lib.hid (show jV l (x, y) = l.take (n - 1) ++ [(x1, if y1 < y then y else y1)] by rw [afb (p := (x, y)) hlast.out hle, List.dropLast_eq_take, hlen.out, show max y1 y = if y1 < y then y else y1 by split <;> omega])
      have htk := (ha.take (j := n - 1) (by omega)).alloc (Nat.le_refl _) (.cells #[.int .i64 x, .int .i64 y] 53)
      have hnc : n ≤ c := by
        rcases ho.2 with ⟨hv, _⟩ | ⟨g, cap, cur, hv, _, _, hc, _⟩
        · simp at hv
        · injection hv with h1 h2 h3; omega
      clear hx1
      have hbne : b1 ≠ w.heap.size := by omega
      go_enter Tryz.func160, Tryz.ntmps160
      go_wp2_with fail
      go_quiet (fail)
      go_wp2_with (at_builtin; refine uM rfl (.tmp 22) (.tmp 26) rfl (w.heap.size + 1) (.slice none 0 0) [] rfl (Own.nil _ _) (some ⟨b1, o1, none⟩) (n - 1) c (l.take (n - 1)) rfl (htk.drewN _) (fun h => nomatch h) (by simp; omega) (by simp) ?_; intro A1 m1 c3 w1 hown1 hbel1)
      have k1 : w1.cell? ⟨b1, o1 + (n - 1) * 2, none⟩ = some (.int .i64 x1) := (hbel1.cell (p := ⟨b1, _, none⟩) (by show b1 < _; omega)).trans (by simpa [World.cell?_alloc_lt, hb1] using c1)
      have k2 : w1.cell? ⟨b1, o1 + (n - 1) * 2 + 1, none⟩ = some (.int .i64 y1) := (hbel1.cell (p := ⟨b1, _, none⟩) (by show b1 < _; omega)).trans (by simpa [World.cell?_alloc_lt, hb1] using c2)
      have k3 : w1.cell? ⟨w.heap.size, 1, none⟩ = some (.int .i64 y) := (hbel1.cell (p := ⟨w.heap.size, 1, none⟩) (by show w.heap.size < _; omega)).trans (by simp)
      have hz1 : w.heap.size + 1 ≤ w1.heap.size := by have := hbel1.size; simpa using this
      have hB1 : Below base w w1 := (((Below.refl base w).alloc hbase _).trans (below_drewN _ _ _)).trans (hbel1.mono hbase1)
      have hln : (List.take (n - 1) l).length = n - 1 := by rw [List.length_take, hlen.out]; omega
      have HLN := Lib.hid hln
      clear hln hbel1 c1 c2 htk ha
      rw [List.nil_append] at hown1
      have lg : b1 < w1.heap.size := by omega
      have lk : w.heap.size < w1.heap.size := by omega
      go_wp2_with fail
      have hwr : IntKind.i64.wrap ((n : Int) - 1) = (n : Int) - 1 := IntWalk.i64_in _ (by omega)
      have hw1 : ((n : Int) - 1).toNat = n - 1 := by omega
      have hw2 : (n : Int) - 1 < (n : Int) := by omega
      have hw3 : (0 : Int) ≤ (n : Int) - 1 := by omega
      go_region_held3 (fun W => W.cell? ⟨b1, o1 + (n - 1) * 2, none⟩ = some (.int .i64 x1) ∧ W.cell? ⟨b1, o1 + (n - 1) * 2 + 1, none⟩ = some (.int .i64 y1) ∧ W.cell? ⟨w.heap.size, 1, none⟩ = some (.int .i64 y))
        (first | go_keep | (go_split_ands; have hq1 := Own.drew (hown1.alloc (.cells #[.int .i64 x1, .int .i64 (if y1 < y then y else y1)] 53)); have hq2 : w.heap.size + 1 ≤ (World.drew (w1.alloc (.cells #[.int .i64 x1, .int .i64 (if y1 < y then y else y1)] 53))).heap.size := (by simp; omega); refine ⟨Eo hgr hq1 hq2 (by omega) (by assumption), Eo hgr hq1 hq2 (by omega) (by assumption), Eo hgr hq1 hq2 (by omega) (by assumption)⟩))
        ((refine zx rfl (.tmp 28) (.tmp 45) rfl (w.heap.size + 1) (.slice A1 m1 c3) (l.take (n - 1)) rfl ((hown1.alloc _).drew) w1.heap.size 1 1 [(x1, if y1 < y then y else y1)] rfl rfl (heap_alloc_new w1 _) rfl (by rw [HLN.out]; omega) (by simp; omega) ?_; intro A4 m4 c4 w4 hown4 hgr))
      go_wp2_with fail
      all_goals
       go_ret
       rw [hj.out]
       exact ⟨_, _, _, rfl, hown4.mono hbase1, (((hB1.alloc (by omega) _).drew).trans ((((hown1.alloc _).drew).grown (by show _ ≤ (w1.alloc _).heap.size; simp; omega) hgr).mono hbase1))⟩
    · have hleb : decide (x ≤ y1) = false := by simpa using hle
      have hj := Lib.hid (adt (p := (x, y)) hlast.out hle)
      clear hx1
      go_enter Tryz.func160, Tryz.ntmps160
      go_wp2_with fail
      go_quiet (fail)
      go_wp2_with (at_builtin; refine uP rfl (.tmp 47) (.tmp 49) rfl base _ l rfl (((ho.alloc _).drewN _).alloc _) (w.heap.size + 1) 1 1 [(x, y)] rfl rfl (yE _ _ _ (by simp)) rfl (by rw [hlen.out]; omega) (by simp; omega) ?_; intro A' n' c' w1 hown hgr)
      go_ret
      rw [hj.out]
      exact ⟨_, _, _, rfl, hown, ((((Below.refl base w).alloc hbase _).trans (below_drewN _ _ _)).alloc (by simp; omega) _).trans ((((ho.alloc _).drewN _).alloc _).grown (by simp; omega) hgr)⟩
  · obtain rfl : n = 0 := by omega
    have hl := List.eq_nil_of_length_eq_zero hlen.out
    subst hl
    go_enter Tryz.func160, Tryz.ntmps160
    go_wp2_with fail
    go_quiet (fail)
    go_wp2_with (at_builtin; refine uP rfl (.tmp 47) (.tmp 49) rfl base _ [] rfl (((ho.alloc _).drewN _).alloc _) (w.heap.size + 1) 1 1 [(x, y)] rfl rfl (yE _ _ _ (by simp)) rfl (by simp) (by simp; omega) ?_; intro A' n' c' w1 hown hgr)
    go_ret
    exact ⟨_, _, _, rfl, hown, ((((Below.refl base w).alloc hbase _).trans (below_drewN _ _ _)).alloc (by simp; omega) _).trans ((((ho.alloc _).drewN _).alloc _).grown (by simp; omega) hgr)⟩


end Go.Proofs.YtlcceppoloaecaaGreatDoor.St
