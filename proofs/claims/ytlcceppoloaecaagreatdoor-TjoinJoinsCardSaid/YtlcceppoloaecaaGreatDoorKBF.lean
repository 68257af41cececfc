/- Parts of the proof, joined. No condition. -/
import Derived.Test.YtlcceppoloaecaaGreatDoorKBE
set_option linter.unusedSimpArgs false
set_option linter.unusedVariables false
namespace Go.Proofs.YtlcceppoloaecaaGreatDoor.St
open Go.RowKit
def qh (p : List Int) (c : (Int × Int) × Int) : List Int := if a_ c.1 then ins c.1.2 (ins c.1.1 p) else p
theorem agi (l : List ((Int × Int) × Int)) : Kj l = l.foldl qh [0] := rfl
def Fg (t : Int) (n : Int) (c : (Int × Int) × Int) : Int := if bC c.1 t then wrap64 (n + c.2) else n
theorem ag5 (l : List ((Int × Int) × Int)) (t : Int) : qp l t = l.foldl (Fg t) 0 := rfl
theorem takeWhile_take {P : List Int} {b : Int} : ∀ {k : Nat}, (∀ x ∈ P.take k, x < b) → (∀ y, P[k]? = some y → b ≤ y) → P.takeWhile (fun p => decide (p < b)) = P.take k := by
  induction P with
  | nil => intro k _ _; simp
  | cons a P ih =>
    intro k h1 h2
    match k with
    | 0 =>
      have := h2 a rfl
      rw [List.takeWhile_cons_of_neg (by simp; omega)]; rfl
    | k + 1 =>
      have := h1 a (by simp)
      rw [List.takeWhile_cons_of_pos (by simpa using this), ih (k := k) (fun x hx => h1 x (by simp [hx])) (fun y hy => h2 y (by simpa using hy))]
      rfl

set_option maxRecDepth 100000 in
set_option maxHeartbeats 8000000 in
theorem amx (A : Option Addr) (n c : Nat) (l : List ((Int × Int) × Int)) (w : World) (ha : Rd e3 3 w w.heap.size A n l) (hn : n ≤ 100000) :
    Calls Tryz.prog 210 #[.slice A n c] w fun e w' => ∃ A' m' c', e = .returned (.slice A' m' c') ∧ Own e2 2 201 w' w.heap.size (.slice A' m' c') (dW (qp l) (iM l)) ∧ Gr w w' := by
  have hlen := Lib.hid ha.1
  obtain ⟨G, hG⟩ : ∃ G, G = qp l := ⟨_, rfl⟩
  obtain ⟨R, hR⟩ : ∃ R, R = dW G (iM l) := ⟨_, rfl⟩
  rw [← hG, ← hR]
  have HG := Lib.hid hG
  have HR := Lib.hid hR
  clear hG hR
  go_enter Tryz.func210, Tryz.ntmps210
  go_wp2_with fail
  go_loopw [3, 4] (fun v i wr => ∃ (k : Nat) (A' : Option Addr) (m' c' : Nat), k ≤ n ∧ i = .int .i64 k ∧ v = .slice A' m' c' ∧ m' ≤ 2 * k + 1 ∧ Rd e1 1 wr wr.heap.size A' m' ((l.take k).foldl qh [0]) ∧ Gr w wr) (fun _ i _ => n - (intOf i).toNat)
  case atStart =>
    refine ⟨0, _, _, _, Nat.zero_le _, rfl, rfl, by omega, ⟨rfl, fun _ => ⟨w.heap.size, 0, rfl, by simp, fun i x hx j u hu => ?_⟩⟩, Gr.alloc _ _⟩
    have hi : i = 0 := by have := (List.getElem?_eq_some_iff.1 hx).1; simp at this; omega
    subst hi
    simp at hx
    subst hx
    have hj : j = 0 := by have := (List.getElem?_eq_some_iff.1 hu).1; simp [e1] at this; omega
    subst hj
    simp [e1] at hu
    subst hu
    simp
  case round =>
    obtain ⟨k, A', m', c', hk, rfl, rfl, hm', hrd, hg⟩ := hrel
    by_cases hlt : k < n
    · obtain ⟨b1, o1, x1, y1, z1, hA1, hb1, hx1, d1, d2, d3⟩ := (ha.gr hg).at3 hlt
      cases hA1
      have hstep := Lib.hid (jb (g := qh) (b := [0]) hx1)
      clear hx1
      go_wp2_with fail
      refine (Ow _ _ _).mono ?_
      rintro e w1 ⟨rfl, hg1⟩
      obtain ⟨hc, hf⟩ := hg1.cells
      by_cases hv : a_ (x1, y1) = true
      · have hch := Lib.hid (show ∀ p, qh p ((x1, y1), z1) = ins y1 (ins x1 p) from fun p => by unfold qh; rw [if_pos hv])
        go_wp2_with fail
        refine (N0 A' m' c' _ x1 _ (hrd.gr hg1) (by omega)).mono ?_
        rintro e w2 ⟨A2, m2, c2, rfl, hown2, hg2⟩
        have zz : b1 < w1.heap.size := Nat.lt_of_lt_of_le hb1 hg1.size
        have hm2 : m2 ≤ m' + 1 := by have h1 := hown2.len; have h2 := uT x1 ((l.take k).foldl qh [0]); have h3 := hrd.1; omega
        obtain ⟨hc2, hf2⟩ := hg2.cells
        go_wp2_with fail
        refine (N0 A2 m2 c2 _ y1 _ (hown2.rds N_) (by omega)).mono ?_
        rintro e w3 ⟨A3, m3, c3, rfl, hown3, hg3⟩
        have hm3 : m3 ≤ m2 + 1 := by have h1 := hown3.len; have h2 := uT y1 (ins x1 ((l.take k).foldl qh [0])); have h3 := hown2.len; omega
        rw [← hch.out, ← hstep.out] at hown3
        clear hc hf hc2 hf2
        go_wp2_with fail
        go_roundw
        case rel => exact ⟨k + 1, _, _, _, by omega, by go_num, rfl, by omega, hown3.rds N_, ((hg.trans hg1).trans hg2).trans hg3⟩
        case measure => simp [intOf]; omega
      · have hvb : a_ (x1, y1) = false := by simpa using hv
        have hch := Lib.hid (show ∀ p, qh p ((x1, y1), z1) = p from fun p => by unfold qh; rw [if_neg hv])
        have hrd2 := hrd.gr hg1
        rw [← hch.out ((l.take k).foldl qh [0]), ← hstep.out] at hrd2
        clear hc hf
        go_wp2_with fail
        go_roundw
        case rel => exact ⟨k + 1, _, _, _, by omega, by go_num, rfl, by omega, hrd2, hg.trans hg1⟩
        case measure => simp [intOf]; omega
    · rw [List.take_of_length_le (by rw [hlen.out]; omega), ← agi] at hrd
      have hm1 : m' ≤ 200001 := by omega
      obtain ⟨P, hP⟩ : ∃ P, P = Kj l := ⟨_, rfl⟩
      rw [← hP] at hrd
      have HPR := Lib.hid (show P.takeWhile (fun p => decide (p < 1099511627776)) = iM l by rw [hP]; rfl)
      have hlP := Lib.hid hrd.1
      clear hm' hP
      obtain ⟨w1, rfl⟩ : ∃ w1 : World, w1 = wr := ⟨_, rfl⟩
      go_wp2_with fail
      go_loopw [5, 6, 7, 8] (fun v i nn ii wr => ∃ (j : Nat) (A3 : Option Addr) (m3 c3 : Nat), j ≤ m' ∧ i = .int .i64 j ∧ v = .slice A3 m3 c3 ∧ m3 ≤ j ∧ Hid (∀ x ∈ P.take j, x < 1099511627776) ∧ Own e2 2 201 wr w1.heap.size (.slice A3 m3 c3) (dW G (P.take j)) ∧ Gr w1 wr) (fun _ i _ _ _ => m' - (intOf i).toNat)
      case atStart => exact ⟨0, none, 0, 0, Nat.zero_le _, rfl, rfl, by omega, fun x hx => by simp at hx, Own.nil _ _, Gr.refl _⟩
      case round =>
        obtain ⟨j, A3, m3, c3, hj, rfl, rfl, hm3, HF, hown3, hg3⟩ := hrel
        by_cases hlt3 : j < m'
        · obtain ⟨b1, o1, x1, hA1, hb1, hx1, d0⟩ := hrd.at1 hlt3
          cases hA1
          have d1 := (hg3.cells.1 b1 (o1 + j) hb1).trans d0
          clear d0
          have X1 := Lib.hid hx1
          clear hx1
          by_cases hxF : x1 < 1099511627776
          · have hxb : decide (x1 < 1099511627776) = true := by simpa using hxF
            have hstep := Lib.hid (Z0 (f := G) X1.out)
            obtain ⟨w2, rfl⟩ : ∃ w2 : World, w2 = wr := ⟨_, rfl⟩
            have hb2 : b1 < w2.heap.size := Nat.lt_of_lt_of_le hb1 hg3.size
            go_wp2_with fail
            go_loopw [7, 8] (fun v i wr => ∃ (q : Nat) (z : Int), q ≤ n ∧ i = .int .i64 q ∧ v = .int .i64 z ∧ Hid (z = (l.take q).foldl (Fg x1) 0) ∧ Gr w2 wr) (fun _ i _ => n - (intOf i).toNat)
            case atStart => exact ⟨0, 0, Nat.zero_le _, rfl, rfl, rfl, Gr.refl _⟩
            case round =>
              obtain ⟨q, z, hq, rfl, rfl, HZ, hg4⟩ := hrel
              by_cases hlt4 : q < n
              · obtain ⟨b5, o5, x5, y5, z5, hA5, hb5, hx5, f1, f2, f3⟩ := ((ha.gr hg).gr hg3).at3 hlt4
                cases hA5
                have f1' := (hg4.cells.1 _ _ hb5).trans f1
                have f2' := (hg4.cells.1 _ _ hb5).trans f2
                have f3' := (hg4.cells.1 _ _ hb5).trans f3
                have e1' := (hg4.cells.1 _ _ hb2).trans d1
                have hfold := Lib.hid (jb (g := Fg x1) (b := 0) hx5)
                clear hx5 f1 f2 f3
                go_wp2_with fail
                go_region_held3 (fun W => Gr w2 W ∧ W.cell? ⟨b1, o1 + j, none⟩ = some (.int .i64 x1) ∧ W.cell? ⟨b5, o5 + q * 3, none⟩ = some (.int .i64 x5) ∧ W.cell? ⟨b5, o5 + q * 3 + 1, none⟩ = some (.int .i64 y5) ∧ W.cell? ⟨b5, o5 + q * 3 + 2, none⟩ = some (.int .i64 z5))
                  (first | (refine ⟨hg4.drewR, ?_, ?_, ?_, ?_⟩ <;> assumption) | (go_split_ands; refine ⟨Gr.trans (by assumption) hgN, ?_, ?_, ?_, ?_⟩; all_goals (refine (hgN.cells.1 _ _ ?_).trans (by assumption); first | exact Nat.lt_of_lt_of_le hb2 (Gr.size (by assumption)) | exact Nat.lt_of_lt_of_le hb5 (Gr.size (by assumption)))) | go_keep)
                  (first | (go_at_call 103; refine (QE _ _ _ _).mono ?_; rintro e w5 ⟨rfl, hgN⟩))
                rename_i hH
                obtain ⟨hgH, k1, k2, k3, k4⟩ := hH
                cases hv : bC (x5, y5) x1
                rotate_left 1
                · have hfv := Lib.hid (show Fg x1 z ((x5, y5), z5) = wrap64 (z + z5) by unfold Fg; rw [if_pos hv])
                  go_wp2_with fail
                  go_roundw
                  case rel => exact ⟨q + 1, _, by omega, by go_num, rfl, (by show _ = _; rw [hfold.out, ← HZ.out, hfv.out]), hgH⟩
                  case measure => simp [intOf]; omega
                · have hfv := Lib.hid (show Fg x1 z ((x5, y5), z5) = z by unfold Fg; rw [if_neg (by simp [hv])])
                  go_wp2_with fail
                  go_roundw
                  case rel => exact ⟨q + 1, _, by omega, by go_num, rfl, (by show _ = _; rw [hfold.out, ← HZ.out, hfv.out]), hgH⟩
                  case measure => simp [intOf]; omega
              · have hzG := Lib.hid (show z = G x1 by rw [HZ.out, HG.out, ag5, List.take_of_length_le (by rw [hlen.out]; omega)])
                have e1' := (hg4.cells.1 _ _ hb2).trans d1
                go_wp2_with fail
                refine (ajY w1.heap.size A3 m3 c3 _ x1 z _ (hown3.gr hg4) (by omega) (hg3.trans hg4).size).mono ?_
                rintro e w6 ⟨A6, m6, c6, rfl, hown6, hbel6⟩
                rw [hzG.out, ← hstep.out] at hown6
                have hm6 : m6 ≤ j + 1 := by have h1 := hown6.len; have h2 := rf G (P.take (j + 1)); have h3 : (P.take (j + 1)).length ≤ j + 1 := List.length_take_le _ _; omega
                clear e1'
                go_wp2_with fail
                go_roundw
                case rel => exact ⟨j + 1, _, _, _, by omega, by go_num, rfl, hm6, (fun x hx => by rw [← om X1.out] at hx; rcases List.mem_append.1 hx with e | e; exact HF.out x e; (simp at e; omega)), hown6, (hg3.trans hg4).out.trans hbel6⟩
                case measure => simp [intOf]; omega
          · have hxb : decide (x1 < 1099511627776) = false := by simpa using hxF
            have hRR := Lib.hid (show dW G (P.take j) = R by rw [HR.out, ← HPR.out, takeWhile_take HF.out fun y hy => by rw [X1.out] at hy; cases hy; omega])
            go_wp2_with fail
            go_ret
            exact ⟨_, _, _, rfl, by rw [← hRR.out]; exact hown3.mono hg.size, hg.trans hg3⟩
        · have hRR := Lib.hid (show dW G (P.take j) = R by rw [HR.out, ← HPR.out, takeWhile_take HF.out fun y hy => absurd (List.getElem?_eq_some_iff.1 hy).1 (by rw [hlP.out]; omega)])
          go_wp2_with fail
          go_ret
          exact ⟨_, _, _, rfl, by rw [← hRR.out]; exact hown3.mono hg.size, hg.trans hg3⟩


end Go.Proofs.YtlcceppoloaecaaGreatDoor.St
