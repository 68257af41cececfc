/- The walks of combined, Add, Sub, Min, Max, Clip of the reference. Condition: at most 100000 steps each. -/
import Derived.Test.YtllenmkmompjpaaW10
namespace Go.Proofs.Ytllenmkmompjpaa
open Go.RowKit

theorem insAll_take {p l : List Int} {k : Nat} {x : Int} (hx : l[k]? = some x) : insAll p (l.take (k + 1)) = ins x (insAll p (l.take k)) := foldl_take hx
theorem insAll_len : ∀ (l p : List Int), (insAll p l).length ≤ p.length + l.length
  | [], p => by simp [insAll]
  | x :: l, p => by
    have h1 := insAll_len l (ins x p)
    have h2 := ins_len x p
    show (insAll (ins x p) l).length ≤ _
    simp only [List.length_cons]
    omega

set_option maxHeartbeats 2000000 in
theorem combined_ref (kind : Int) (op : Int → Int → Int) (hop : ∀ x y W, Calls Try.prog 72 #[.int .i64 kind, .int .i64 x, .int .i64 y] W fun e w' => e = .returned (.int .i64 (op x y)) ∧ Gr W w')
    (A B : Option Addr) (n m ca cb : Nat) (a b : List (Int × Int)) (w : World) (ha : Rd e2 2 w w.heap.size A n a) (hb : Rd e2 2 w w.heap.size B m b) (hn : n ≤ 100000) (hm : m ≤ 100000) :
    Calls Try.prog 59 #[.int .i64 kind, .slice A n ca, .slice B m cb] w fun e w' => ∃ A' m' c', e = .returned (.slice A' m' c') ∧ Own e2 2 48 w' w.heap.size (.slice A' m' c') (combS (fun p => op (rat a p) (rat b p)) (pts a b)) ∧ Gr w w' := by
  have HOP := Lib.hid hop
  have hla := Lib.hid ha.1
  have hlb := Lib.hid hb.1
  clear hop
  obtain ⟨F, hF⟩ : ∃ F : Int → Int, F = fun p => op (rat a p) (rat b p) := ⟨_, rfl⟩
  rw [← hF]
  have HF := Lib.hid hF
  clear hF
  generalize hR : pts a b = R
  have HR := Lib.hid hR
  clear hR
  go_enter Try.func59, Try.ntmps59
  go_wp2_with fail
  go_loopw [7, 8] (fun v i wr => ∃ (k : Nat) (A' : Option Addr) (m' c' : Nat), k ≤ n ∧ i = .int .i64 k ∧ v = .slice A' m' c' ∧ m' ≤ k ∧ Own e1 1 3 wr w.heap.size (.slice A' m' c') (insAll [] ((a.map (·.1)).take k)) ∧ Gr w wr) (fun _ i _ => n - (intOf i).toNat)
  case atStart => exact ⟨0, none, 0, 0, Nat.zero_le _, rfl, rfl, by omega, Own.nil _ _, Gr.refl _⟩
  case round =>
    obtain ⟨k, A', m', c', hk, rfl, rfl, hm', hown, hg⟩ := hrel
    by_cases hlt : k < n
    · obtain ⟨b1, o1, x1, y1, hA1, hb1, hx1, d1, d2⟩ := (ha.gr hg).at2 hlt
      cases hA1
      have hstep := Lib.hid (insAll_take (p := []) (show (a.map (·.1))[k]? = some x1 by simp [hx1]))
      clear hx1
      go_wp2_with fail
      refine (insert_ref A' m' c' _ x1 _ (hown.rds e1_len) (by omega)).mono ?_
      rintro e w2 ⟨A2, m2, c2, rfl, hown2, hg2⟩
      have hm2 : m2 ≤ k + 1 := by have h1 := hown2.len; have h2 := ins_len x1 (insAll [] ((a.map (·.1)).take k)); have h3 := hown.len; omega
      rw [← hstep.out] at hown2
      go_wp2_with fail
      go_roundw
      case rel => exact ⟨k + 1, _, _, _, by omega, by go_num, rfl, hm2, hown2.mono hg.size, hg.trans hg2⟩
      case measure => simp [intOf]; omega
    · obtain rfl : k = n := by omega
      rw [List.take_of_length_le (by simp [hla.out])] at hown
      obtain ⟨Q0, hQ0⟩ : ∃ Q0, Q0 = insAll [] (a.map (·.1)) := ⟨_, rfl⟩
      rw [← hQ0] at hown
      have HQ0 := Lib.hid hQ0
      clear hQ0
      go_wp2_with fail
      go_loopw [7, 9] (fun v i wr => ∃ (j : Nat) (A' : Option Addr) (m' c' : Nat), j ≤ m ∧ i = .int .i64 j ∧ v = .slice A' m' c' ∧ m' ≤ k + j ∧ Own e1 1 3 wr w.heap.size (.slice A' m' c') (insAll Q0 ((b.map (·.1)).take j)) ∧ Gr w wr) (fun _ i _ => m - (intOf i).toNat)
      case atStart => exact ⟨0, _, _, _, Nat.zero_le _, rfl, rfl, by omega, hown, hg⟩
      case round =>
        obtain ⟨j, A3, m3, c3, hj, rfl, rfl, hm3, hown3, hg3⟩ := hrel
        by_cases hlt : j < m
        · obtain ⟨b1, o1, x1, y1, hA1, hb1, hx1, d1, d2⟩ := (hb.gr hg3).at2 hlt
          cases hA1
          have hstep := Lib.hid (insAll_take (p := Q0) (show (b.map (·.1))[j]? = some x1 by simp [hx1]))
          clear hx1
          go_wp2_with fail
          refine (insert_ref A3 m3 c3 _ x1 _ (hown3.rds e1_len) (by omega)).mono ?_
          rintro e w2 ⟨A2, m2, c2, rfl, hown2, hg2⟩
          have hm2 : m2 ≤ k + (j + 1) := by have h1 := hown2.len; have h2 := ins_len x1 (insAll Q0 ((b.map (·.1)).take j)); have h3 := hown3.len; omega
          rw [← hstep.out] at hown2
          go_wp2_with fail
          go_roundw
          case rel => exact ⟨j + 1, _, _, _, by omega, by go_num, rfl, hm2, hown2.mono hg3.size, hg3.trans hg2⟩
          case measure => simp [intOf]; omega
        · obtain rfl : j = m := by omega
          rw [List.take_of_length_le (by simp [hlb.out])] at hown3
          rw [show insAll Q0 (b.map (·.1)) = R by rw [← HR.out, HQ0.out]; rfl] at hown3
          obtain ⟨w1, rfl⟩ : ∃ w1 : World, w1 = wr := ⟨_, rfl⟩
          have hrP := hown3.rds e1_len
          have HM1 := Lib.hid hown3.len
          go_wp2_with fail
          go_loopw [10, 11] (fun v i wr => ∃ (k : Nat) (A' : Option Addr) (m' c' : Nat), k ≤ m3 ∧ i = .int .i64 k ∧ v = .slice A' m' c' ∧ m' ≤ k ∧ Own e2 2 48 wr w1.heap.size (.slice A' m' c') (combS F (R.take k)) ∧ Gr w1 wr) (fun _ i _ => m3 - (intOf i).toNat)
          case atStart => exact ⟨0, none, 0, 0, Nat.zero_le _, rfl, rfl, by omega, Own.nil _ _, Gr.refl _⟩
          case round =>
            obtain ⟨q, A4, m4, c4, hq, rfl, rfl, hm4, hown4, hg4⟩ := hrel
            by_cases hlt : q < m3
            · obtain ⟨b1, o1, x1, hA1, hb1, hx1, d0⟩ := hrP.at1 hlt
              cases hA1
              have d1 := (hg4.cells.1 b1 (o1 + q) hb1).trans d0
              clear d0
              have hstep := Lib.hid (combS_take (f := F) hx1)
              have hval := Lib.hid (congrFun HF.out x1)
              clear hx1
              have hgA0 := hg3.trans hg4
              go_wp2_with fail
              go_region_held3 (fun W => Gr w1 W ∧ W.cell? ⟨b1, o1 + q, none⟩ = some (.int .i64 x1))
                (first | (refine ⟨hg4.drewR, ?_⟩; assumption) | (go_split_ands; refine ⟨Gr.trans (by assumption) hgN, ?_⟩; refine (hgN.cells.1 _ _ ?_).trans (by assumption); exact Nat.lt_of_lt_of_le hb1 (Gr.size (by assumption))) | (go_split_ands; refine ⟨Below.trans (by assumption) hbel, ?_⟩; refine (hbel.cell ?_).trans (by assumption); exact hb1) | go_keep)
                (first
                  | (go_at_call 37; ((with_reducible refine (rat_ref A k ca a x1 _ (ha.gr (hgA0.drewR)) (by omega)).mono ?_); rintro e w5 ⟨rfl, hgN⟩; have hgA := hgN))
                  | (go_at_call 37; ((with_reducible refine (rat_ref B j cb b x1 _ (hb.gr ((hgA0.drewR).trans hgA)) (by omega)).mono ?_); rintro e w6 ⟨rfl, hgN⟩; have hgB := hgN))
                  | (go_at_call 72; ((with_reducible refine (HOP.out _ _ _).mono ?_); rintro e w7 ⟨rfl, hgN⟩; have hgV := hgN))
                  | (go_at_call 48; ((with_reducible refine (put_ref w1.heap.size A4 m4 c4 _ x1 _ _ (((hown4.drew.gr hgA).gr hgB).gr hgV) (by omega) (((hg4.drewR.trans hgA).trans hgB).trans hgV).size).mono ?_); rintro e w8 ⟨A8, m8, c8, rfl, hown8, hbel⟩)))
              rename_i hH
              rw [← hval.out, ← hstep.out] at hown8
              have hm8 : m8 ≤ q + 1 := by have h1 := hown8.len; have h2 := combS_len F (R.take (q + 1)); have h3 : (R.take (q + 1)).length ≤ q + 1 := List.length_take_le _ _; omega
              go_wp2_with fail
              go_roundw
              case rel => exact ⟨q + 1, _, _, _, by omega, by go_num, rfl, hm8, hown8, hH.1⟩
              case measure => simp [intOf]; omega
            · obtain rfl : q = m3 := by omega
              rw [List.take_of_length_le (by rw [HM1.out]; omega)] at hown4
              go_wp2_with fail
              go_ret
              exact ⟨_, _, _, rfl, hown4.mono hg3.size, hg3.trans hg4⟩

set_option maxHeartbeats 400000 in
theorem sAdd_ref (A B : Option Addr) (n m ca cb : Nat) (a b : List (Int × Int)) (w : World) (ha : Rd e2 2 w w.heap.size A n a) (hb : Rd e2 2 w w.heap.size B m b) (hn : n ≤ 100000) (hm : m ≤ 100000) :
    Calls Try.prog 29 #[.slice A n ca, .slice B m cb] w fun e w' => ∃ A' m' c', e = .returned (.slice A' m' c') ∧ Own e2 2 48 w' w.heap.size (.slice A' m' c') (combS (fun p => wrap64 (rat a p + rat b p)) (pts a b)) ∧ Gr w w' := by
  have hcon := combined_ref 1 _ (fun x y W => value_sum x y W) A B n m ca cb a b w ha hb hn hm
  clear ha hb
  generalize combS (fun p => wrap64 (rat a p + rat b p)) (pts a b) = R at hcon ⊢
  go_enter Try.func29, Try.ntmps29
  go_wp2_with fail
  refine hcon.mono ?_
  rintro e w1 ⟨A1, m1, c1, rfl, hown1, hg1⟩
  go_wp2_with fail
  go_ret
  exact ⟨_, _, _, rfl, hown1, hg1⟩

set_option maxHeartbeats 400000 in
theorem sSub_ref (A B : Option Addr) (n m ca cb : Nat) (a b : List (Int × Int)) (w : World) (ha : Rd e2 2 w w.heap.size A n a) (hb : Rd e2 2 w w.heap.size B m b) (hn : n ≤ 100000) (hm : m ≤ 100000) :
    Calls Try.prog 31 #[.slice A n ca, .slice B m cb] w fun e w' => ∃ A' m' c', e = .returned (.slice A' m' c') ∧ Own e2 2 48 w' w.heap.size (.slice A' m' c') (combS (fun p => wrap64 (rat a p - rat b p)) (pts a b)) ∧ Gr w w' := by
  have hcon := combined_ref 2 _ (fun x y W => value_diff x y W) A B n m ca cb a b w ha hb hn hm
  clear ha hb
  generalize combS (fun p => wrap64 (rat a p - rat b p)) (pts a b) = R at hcon ⊢
  go_enter Try.func31, Try.ntmps31
  go_wp2_with fail
  refine hcon.mono ?_
  rintro e w1 ⟨A1, m1, c1, rfl, hown1, hg1⟩
  go_wp2_with fail
  go_ret
  exact ⟨_, _, _, rfl, hown1, hg1⟩

set_option maxHeartbeats 400000 in
theorem sMin_ref (A B : Option Addr) (n m ca cb : Nat) (a b : List (Int × Int)) (w : World) (ha : Rd e2 2 w w.heap.size A n a) (hb : Rd e2 2 w w.heap.size B m b) (hn : n ≤ 100000) (hm : m ≤ 100000) :
    Calls Try.prog 33 #[.slice A n ca, .slice B m cb] w fun e w' => ∃ A' m' c', e = .returned (.slice A' m' c') ∧ Own e2 2 48 w' w.heap.size (.slice A' m' c') (combS (fun p => min (rat a p) (rat b p)) (pts a b)) ∧ Gr w w' := by
  have hcon := combined_ref 3 _ (fun x y W => value_min x y W) A B n m ca cb a b w ha hb hn hm
  clear ha hb
  generalize combS (fun p => min (rat a p) (rat b p)) (pts a b) = R at hcon ⊢
  go_enter Try.func33, Try.ntmps33
  go_wp2_with fail
  refine hcon.mono ?_
  rintro e w1 ⟨A1, m1, c1, rfl, hown1, hg1⟩
  go_wp2_with fail
  go_ret
  exact ⟨_, _, _, rfl, hown1, hg1⟩

set_option maxHeartbeats 400000 in
theorem sMax_ref (A B : Option Addr) (n m ca cb : Nat) (a b : List (Int × Int)) (w : World) (ha : Rd e2 2 w w.heap.size A n a) (hb : Rd e2 2 w w.heap.size B m b) (hn : n ≤ 100000) (hm : m ≤ 100000) :
    Calls Try.prog 35 #[.slice A n ca, .slice B m cb] w fun e w' => ∃ A' m' c', e = .returned (.slice A' m' c') ∧ Own e2 2 48 w' w.heap.size (.slice A' m' c') (combS (fun p => max (rat a p) (rat b p)) (pts a b)) ∧ Gr w w' := by
  have hcon := combined_ref 4 _ (fun x y W => value_max x y W) A B n m ca cb a b w ha hb hn hm
  clear ha hb
  generalize combS (fun p => max (rat a p) (rat b p)) (pts a b) = R at hcon ⊢
  go_enter Try.func35, Try.ntmps35
  go_wp2_with fail
  refine hcon.mono ?_
  rintro e w1 ⟨A1, m1, c1, rfl, hown1, hg1⟩
  go_wp2_with fail
  go_ret
  exact ⟨_, _, _, rfl, hown1, hg1⟩

set_option maxHeartbeats 400000 in
theorem sClip_ref (A : Option Addr) (n ca : Nat) (a : List (Int × Int)) (w : World) (ha : Rd e2 2 w w.heap.size A n a) (hn : n ≤ 100000) :
    Calls Try.prog 22 #[.slice A n ca] w fun e w' => ∃ A' m' c', e = .returned (.slice A' m' c') ∧ Own e2 2 48 w' w.heap.size (.slice A' m' c') (combS (fun p => max (rat a p) (rat [(0, 0)] p)) (pts a [(0, 0)])) ∧ Gr w w' := by
  have hcon := fun B cb W ha hb => sMax_ref A B n 1 ca cb a [(0, 0)] W ha hb hn (by omega)
  generalize combS (fun p => max (rat a p) (rat [(0, 0)] p)) (pts a [(0, 0)]) = R at hcon ⊢
  go_enter Try.func22, Try.ntmps22
  go_wp2_with fail
  refine (hcon _ _ _ ?_ ?_).mono ?_
  · exact ha.gr (Gr.alloc _ _)
  · refine ⟨rfl, fun _ => ⟨w.heap.size, 0, rfl, by simp, fun i x hx j u hu => ?_⟩⟩
    have hi : i = 0 := by have := (List.getElem?_eq_some_iff.1 hx).1; simp at this; omega
    subst hi
    simp at hx
    subst hx
    have hj : j < 2 := (List.getElem?_eq_some_iff.1 hu).1
    match j, hj with
    | 0, _ => simp [e2] at hu; subst hu; simp
    | 1, _ => simp [e2] at hu; subst hu; simp
  rintro e w1 ⟨A1, m1, c1, rfl, hown1, hg1⟩
  have hz := hg1.size
  go_wp2_with fail
  go_ret
  exact ⟨_, _, _, rfl, hown1.mono (by simp), (Gr.alloc _ _).trans hg1⟩

end Go.Proofs.Ytllenmkmompjpaa
