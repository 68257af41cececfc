/- The walks of Add, Sub, Min, Max, Clip of the program. Condition: at most 100000 steps each, in ascending order, the first list not empty. -/
import Derived.Test.YtllenmkmompjpaaW9
import Derived.Shelf.Abstract
namespace Go.Proofs.Ytllenmkmompjpaa
open Go.RowKit

set_option maxHeartbeats 400000 in
theorem opAdd (x y : Int) (w : World) :
    Calls Try.prog 58 #[.int .i64 x, .int .i64 y] w fun e w' => e = .returned (.int .i64 (wrap64 (x + y))) ∧ Gr w w' := by
  go_enter Try.func58, Try.ntmps58
  go_wp2
  all_goals
    go_ret
    refine ⟨ret_int (by first | rfl | (simp; done) | (simp; omega) | omega), ?_⟩
    first | exact Gr.refl _ | (repeat (first | exact Gr.refl _ | assumption | exact Gr.alloc _ _ | refine Gr.allocR ?_ _ | refine Gr.drewNR ?_ _ | refine Gr.drewR ?_ | refine Gr.trans ?_ (by assumption)))

set_option maxHeartbeats 400000 in
theorem opSub (x y : Int) (w : World) :
    Calls Try.prog 60 #[.int .i64 x, .int .i64 y] w fun e w' => e = .returned (.int .i64 (wrap64 (x - y))) ∧ Gr w w' := by
  go_enter Try.func60, Try.ntmps60
  go_wp2
  all_goals
    go_ret
    refine ⟨ret_int (by first | rfl | (simp; done) | (simp; omega) | omega), ?_⟩
    first | exact Gr.refl _ | (repeat (first | exact Gr.refl _ | assumption | exact Gr.alloc _ _ | refine Gr.allocR ?_ _ | refine Gr.drewNR ?_ _ | refine Gr.drewR ?_ | refine Gr.trans ?_ (by assumption)))

set_option maxHeartbeats 400000 in
theorem opMin (x y : Int) (w : World) :
    Calls Try.prog 61 #[.int .i64 x, .int .i64 y] w fun e w' => e = .returned (.int .i64 (min x y)) ∧ Gr w w' := by
  go_enter Try.func61, Try.ntmps61
  go_wp2
  all_goals
    go_ret
    refine ⟨ret_int (by first | rfl | (simp; done) | (simp; omega) | omega), ?_⟩
    first | exact Gr.refl _ | (repeat (first | exact Gr.refl _ | assumption | exact Gr.alloc _ _ | refine Gr.allocR ?_ _ | refine Gr.drewNR ?_ _ | refine Gr.drewR ?_ | refine Gr.trans ?_ (by assumption)))

set_option maxHeartbeats 400000 in
theorem opMax (x y : Int) (w : World) :
    Calls Try.prog 62 #[.int .i64 x, .int .i64 y] w fun e w' => e = .returned (.int .i64 (max x y)) ∧ Gr w w' := by
  go_enter Try.func62, Try.ntmps62
  go_wp2
  all_goals
    go_ret
    refine ⟨ret_int (by first | rfl | (simp; done) | (simp; omega) | omega), ?_⟩
    first | exact Gr.refl _ | (repeat (first | exact Gr.refl _ | assumption | exact Gr.alloc _ _ | refine Gr.allocR ?_ _ | refine Gr.drewNR ?_ _ | refine Gr.drewR ?_ | refine Gr.trans ?_ (by assumption)))

set_option maxHeartbeats 400000 in
theorem opClip (x y : Int) (w : World) :
    Calls Try.prog 63 #[.int .i64 x, .int .i64 y] w fun e w' => e = .returned (.int .i64 (max x 0)) ∧ Gr w w' := by
  go_enter Try.func63, Try.ntmps63
  go_wp2
  all_goals
    go_ret
    refine ⟨ret_int (by first | rfl | (simp; done) | (simp; omega) | omega), ?_⟩
    first | exact Gr.refl _ | (repeat (first | exact Gr.refl _ | assumption | exact Gr.alloc _ _ | refine Gr.allocR ?_ _ | refine Gr.drewNR ?_ _ | refine Gr.drewR ?_ | refine Gr.trans ?_ (by assumption)))

set_option maxHeartbeats 400000 in
theorem sAdd_prog (A B : Option Addr) (n m ca cb : Nat) (a b : List (Int × Int)) (w : World) (ha : Rd e2 2 w w.heap.size A n a) (hb : Rd e2 2 w w.heap.size B m b) (hn : n ≤ 100000) (hm : m ≤ 100000) (hsa : Asc a) (hsb : Asc b) (hne : a ≠ []) :
    Calls Try.prog 28 #[.slice A n ca, .slice B m cb] w fun e w' => ∃ A' m' c', e = .returned (.slice A' m' c') ∧ Own e2 2 48 w' w.heap.size (.slice A' m' c') (combS (fun p => wrap64 (rat a p + rat b p)) (pts a b)) ∧ Gr w w' := by
  have hcon := combine_any 58 _ (Go.Proofs.enters_of Try.func58 (by kernel_rfl) rfl) (fun x y W => opAdd x y W) A B n m ca cb a b w ha hb hn hm hsa hsb hne
  clear ha hb hsa hsb hne
  generalize combS (fun p => wrap64 (rat a p + rat b p)) (pts a b) = R at hcon ⊢
  go_enter Try.func28, Try.ntmps28
  go_wp2_with fail
  refine hcon.mono ?_
  rintro e w1 ⟨A1, m1, c1, rfl, hown1, hg1⟩
  go_wp2_with fail
  go_ret
  exact ⟨_, _, _, rfl, hown1, hg1⟩

set_option maxHeartbeats 400000 in
theorem sSub_prog (A B : Option Addr) (n m ca cb : Nat) (a b : List (Int × Int)) (w : World) (ha : Rd e2 2 w w.heap.size A n a) (hb : Rd e2 2 w w.heap.size B m b) (hn : n ≤ 100000) (hm : m ≤ 100000) (hsa : Asc a) (hsb : Asc b) (hne : a ≠ []) :
    Calls Try.prog 30 #[.slice A n ca, .slice B m cb] w fun e w' => ∃ A' m' c', e = .returned (.slice A' m' c') ∧ Own e2 2 48 w' w.heap.size (.slice A' m' c') (combS (fun p => wrap64 (rat a p - rat b p)) (pts a b)) ∧ Gr w w' := by
  have hcon := combine_any 60 _ (Go.Proofs.enters_of Try.func60 (by kernel_rfl) rfl) (fun x y W => opSub x y W) A B n m ca cb a b w ha hb hn hm hsa hsb hne
  clear ha hb hsa hsb hne
  generalize combS (fun p => wrap64 (rat a p - rat b p)) (pts a b) = R at hcon ⊢
  go_enter Try.func30, Try.ntmps30
  go_wp2_with fail
  refine hcon.mono ?_
  rintro e w1 ⟨A1, m1, c1, rfl, hown1, hg1⟩
  go_wp2_with fail
  go_ret
  exact ⟨_, _, _, rfl, hown1, hg1⟩

set_option maxHeartbeats 400000 in
theorem sMin_prog (A B : Option Addr) (n m ca cb : Nat) (a b : List (Int × Int)) (w : World) (ha : Rd e2 2 w w.heap.size A n a) (hb : Rd e2 2 w w.heap.size B m b) (hn : n ≤ 100000) (hm : m ≤ 100000) (hsa : Asc a) (hsb : Asc b) (hne : a ≠ []) :
    Calls Try.prog 32 #[.slice A n ca, .slice B m cb] w fun e w' => ∃ A' m' c', e = .returned (.slice A' m' c') ∧ Own e2 2 48 w' w.heap.size (.slice A' m' c') (combS (fun p => min (rat a p) (rat b p)) (pts a b)) ∧ Gr w w' := by
  have hcon := combine_any 61 _ (Go.Proofs.enters_of Try.func61 (by kernel_rfl) rfl) (fun x y W => opMin x y W) A B n m ca cb a b w ha hb hn hm hsa hsb hne
  clear ha hb hsa hsb hne
  generalize combS (fun p => min (rat a p) (rat b p)) (pts a b) = R at hcon ⊢
  go_enter Try.func32, Try.ntmps32
  go_wp2_with fail
  refine hcon.mono ?_
  rintro e w1 ⟨A1, m1, c1, rfl, hown1, hg1⟩
  go_wp2_with fail
  go_ret
  exact ⟨_, _, _, rfl, hown1, hg1⟩

set_option maxHeartbeats 400000 in
theorem sMax_prog (A B : Option Addr) (n m ca cb : Nat) (a b : List (Int × Int)) (w : World) (ha : Rd e2 2 w w.heap.size A n a) (hb : Rd e2 2 w w.heap.size B m b) (hn : n ≤ 100000) (hm : m ≤ 100000) (hsa : Asc a) (hsb : Asc b) (hne : a ≠ []) :
    Calls Try.prog 34 #[.slice A n ca, .slice B m cb] w fun e w' => ∃ A' m' c', e = .returned (.slice A' m' c') ∧ Own e2 2 48 w' w.heap.size (.slice A' m' c') (combS (fun p => max (rat a p) (rat b p)) (pts a b)) ∧ Gr w w' := by
  have hcon := combine_any 62 _ (Go.Proofs.enters_of Try.func62 (by kernel_rfl) rfl) (fun x y W => opMax x y W) A B n m ca cb a b w ha hb hn hm hsa hsb hne
  clear ha hb hsa hsb hne
  generalize combS (fun p => max (rat a p) (rat b p)) (pts a b) = R at hcon ⊢
  go_enter Try.func34, Try.ntmps34
  go_wp2_with fail
  refine hcon.mono ?_
  rintro e w1 ⟨A1, m1, c1, rfl, hown1, hg1⟩
  go_wp2_with fail
  go_ret
  exact ⟨_, _, _, rfl, hown1, hg1⟩

set_option maxHeartbeats 400000 in
theorem sClip_prog (A : Option Addr) (n ca : Nat) (a : List (Int × Int)) (w : World) (ha : Rd e2 2 w w.heap.size A n a) (hn : n ≤ 100000) (hsa : Asc a) (hne : a ≠ []) :
    Calls Try.prog 36 #[.slice A n ca] w fun e w' => ∃ A' m' c', e = .returned (.slice A' m' c') ∧ Own e2 2 48 w' w.heap.size (.slice A' m' c') (combS (fun p => max (rat a p) 0) (pts a [])) ∧ Gr w w' := by
  have hcon := combine_any 63 (fun x _ => max x 0) (Go.Proofs.enters_of Try.func63 (by kernel_rfl) rfl) (fun x y W => opClip x y W) A none n 0 ca 0 a [] w ha (Rd.nil _ _ _) hn (by omega) hsa (fun i j x y _ h => by simp at h) hne
  clear ha hsa hne
  generalize combS (fun p => max (rat a p) 0) (pts a []) = R at hcon ⊢
  go_enter Try.func36, Try.ntmps36
  go_wp2_with fail
  refine hcon.mono ?_
  rintro e w1 ⟨A1, m1, c1, rfl, hown1, hg1⟩
  go_wp2_with fail
  go_ret
  exact ⟨_, _, _, rfl, hown1, hg1⟩

end Go.Proofs.Ytllenmkmompjpaa
