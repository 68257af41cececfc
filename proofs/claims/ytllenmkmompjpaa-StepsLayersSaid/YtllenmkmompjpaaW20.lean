/- The examples of the chapter hold: sample and awake. No condition. -/
import Derived.Test.YtllenmkmompjpaaW19
import Derived.Test.YtllenmkmompjpaaW13
namespace Go.Proofs.Ytllenmkmompjpaa
open Go.RowKit

theorem rd_block {α : Type} {enc : α → List Value} {k : Nat} {W : World} {E : TypeId} {nb : Nat} {cs : Array Value} (hk : ∀ x, (enc x).length = k) (l : List α) (hb : W.heap[nb]? = some (.cells cs E (0, 0))) (hcs : cs = (l.flatMap enc).toArray) : Rd enc k W W.heap.size (some ⟨nb, 0, none⟩) l.length l := by
  refine ⟨rfl, fun _ => ⟨nb, 0, rfl, (Array.getElem?_eq_some_iff.1 hb).1, fun i x hx j u hu => ?_⟩⟩
  have hj : j < k := by rw [← hk x]; exact (List.getElem?_eq_some_iff.1 hu).1
  rw [cell_of_row _ _ _ _ _ _ hb, hcs, Nat.zero_add]
  simpa [flatMap_get hk l i x hx j hj] using hu
theorem rd_new {α : Type} {enc : α → List Value} {k : Nat} {W : World} {E : TypeId} {nb n : Nat} {cs : Array Value} (hk : ∀ x, (enc x).length = k) (l : List α) (hn : l.length = n) (hnb : nb = W.heap.size) (hcs : cs = (l.flatMap enc).toArray) : Rd enc k (W.alloc (.cells cs E)) (W.alloc (.cells cs E)).heap.size (some ⟨nb, 0, none⟩) n l := by
  subst hn
  exact rd_block hk l (heap_at _ _ _ hnb) hcs
def sampleL : List (Int × Int) := [(0, 1), (3, 3), (5, 2), (8, 0)]
theorem sample_val : combS (rsum [((0, 5), 1), ((3, 8), 2)]) (ofPts [((0, 5), 1), ((3, 8), 2)]) = sampleL := by decide +kernel
theorem sample_any (w : World) : Calls Try.prog 40 #[] w fun e w' => ∃ A' m' c', e = .returned (.slice A' m' c') ∧ Own e2 2 48 w' w.heap.size (.slice A' m' c') sampleL ∧ Gr w w' := by
  go_enter Try.func40, Try.ntmps40
  go_wp2_with fail
  refine (of_prog _ 2 2 [((0, 5), 1), ((3, 8), 2)] _ (rd_new e3_len _ rfl rfl rfl) (by omega)).mono ?_
  rintro e w1 ⟨A1, m1, c1, rfl, hown1, hg1⟩
  rw [sample_val] at hown1
  go_wp2_with fail
  go_ret
  exact ⟨_, _, _, rfl, hown1.mono (by simp), (Gr.alloc _ _).trans hg1⟩
theorem Asc.of_list {l : List (Int × Int)} (h : l.Pairwise fun x y => x.1 < y.1) : Asc l := by
  intro i j x y hij hx hy
  obtain ⟨hi, rfl⟩ := List.getElem?_eq_some_iff.1 hx
  obtain ⟨hj, rfl⟩ := List.getElem?_eq_some_iff.1 hy
  exact List.pairwise_iff_getElem.1 h i j hi hj hij
theorem sample_asc : Asc sampleL := Asc.of_list (by decide)
theorem one_asc : Asc [(0, 1)] := Asc.of_list (by decide)
def subL : List (Int × Int) := [(0, 0), (3, -2), (5, -1), (8, 1)]
theorem sub_val : combS (fun p => wrap64 (rat [(0, 1)] p - rat sampleL p)) (pts [(0, 1)] sampleL) = subL := by decide +kernel
theorem lev_val : levM sampleL = [(0, 8), (3, 5), (3, 8)] := by decide +kernel
theorem atl_val : atl sampleL 2 = [(3, 8)] := by decide +kernel
theorem clip_val : combS (fun p => max (rat subL p) 0) (pts subL []) = [(0, 0), (8, 1)] := by decide +kernel
theorem at_val : rat sampleL 4 = 3 := by decide +kernel
theorem sub_asc : Asc subL := Asc.of_list (by decide)

set_option maxRecDepth 100000 in
set_option maxHeartbeats 4000000 in
theorem awake_any (w : World) : Calls Try.prog 11 #[] w fun e w' => e = .returned (.bool true) ∧ Gr w w' := by
  go_enter Try.func11, Try.ntmps11
  go_wp2_with fail
  refine (sample_any _).mono ?_
  rintro e w1 ⟨A1, m1, c1, rfl, hown1, hg1⟩
  have hr1 := hown1.rds e2_len
  have hm1 : m1 = 4 := hown1.len.symm
  subst hm1
  clear hown1
  go_wp2_with fail
  refine (sSub_prog _ A1 1 4 1 c1 [(0, 1)] sampleL _ (rd_new e2_len _ rfl rfl rfl) (hr1.gr (Gr.alloc _ _)) (by omega) (by omega) one_asc sample_asc (by simp)).mono ?_
  rintro e w2 ⟨A2, m2, c2, rfl, hown2, hg2⟩
  rw [sub_val] at hown2
  have hr2 := hown2.rds e2_len
  have hm2 : m2 = 4 := hown2.len.symm
  subst hm2
  clear hown2
  have hr1 := (hr1.gr (Gr.alloc _ _)).gr hg2
  go_wp2_with fail
  refine (lev_prog A1 4 c1 sampleL _ hr1 (by omega) sample_asc (by decide) (by decide)).mono ?_
  rintro e w3 ⟨A3, m3, c3, rfl, hown3, hg3⟩
  rw [lev_val] at hown3
  have hr3 := hown3.rds e2_len
  have hm3 : m3 = 3 := hown3.len.symm
  subst hm3
  clear hown3
  have hr1 := hr1.gr hg3
  have hr2 := hr2.gr hg3
  go_wp2_with fail
  refine (same_any _ _ 4 4 c1 4 sampleL sampleL _ (hr1.gr (Gr.alloc _ _)) (rd_new e2_len _ rfl rfl rfl) (by omega) (by omega)).mono ?_
  rintro e w4 ⟨rfl, hg4⟩
  rw [show decide (sampleL = sampleL) = true by decide]
  have hr1 := (hr1.gr (Gr.alloc _ _)).gr hg4
  have hr2 := (hr2.gr (Gr.alloc _ _)).gr hg4
  have hr3 := (hr3.gr (Gr.alloc _ _)).gr hg4
  go_wp2_with fail
  refine (psame_any _ _ 3 3 c3 3 [(0, 8), (3, 5), (3, 8)] [(0, 8), (3, 5), (3, 8)] _ (hr3.gr (Gr.alloc _ _)) (rd_new e2_len _ rfl rfl rfl) (by omega) (by omega)).mono ?_
  rintro e w5 ⟨rfl, hg5⟩
  rw [show decide ([((0 : Int), (8 : Int)), (3, 5), (3, 8)] = [(0, 8), (3, 5), (3, 8)]) = true by decide]
  have hr1 := (hr1.gr (Gr.alloc _ _)).gr hg5
  have hr2 := (hr2.gr (Gr.alloc _ _)).gr hg5
  go_wp2_with fail
  refine (atl_prog A1 4 c1 sampleL 2 _ hr1 (by omega) sample_asc (by decide)).mono ?_
  rintro e w6 ⟨A6, m6, c6, rfl, hown6, hg6⟩
  rw [atl_val] at hown6
  have hr6 := hown6.rds e2_len
  have hm6 : m6 = 1 := hown6.len.symm
  subst hm6
  clear hown6
  have hr1 := hr1.gr hg6
  have hr2 := hr2.gr hg6
  go_wp2_with fail
  refine (psame_any _ _ 1 1 c6 1 [(3, 8)] [(3, 8)] _ (hr6.gr (Gr.alloc _ _)) (rd_new e2_len _ rfl rfl rfl) (by omega) (by omega)).mono ?_
  rintro e w7 ⟨rfl, hg7⟩
  rw [show decide ([((3 : Int), (8 : Int))] = [(3, 8)]) = true by decide]
  have hr1 := (hr1.gr (Gr.alloc _ _)).gr hg7
  have hr2 := (hr2.gr (Gr.alloc _ _)).gr hg7
  go_wp2_with fail
  refine (same_any _ _ 4 4 c2 4 subL subL _ (hr2.gr (Gr.alloc _ _)) (rd_new e2_len _ rfl rfl rfl) (by omega) (by omega)).mono ?_
  rintro e w8 ⟨rfl, hg8⟩
  rw [show decide (subL = subL) = true by decide]
  have hr1 := (hr1.gr (Gr.alloc _ _)).gr hg8
  have hr2 := (hr2.gr (Gr.alloc _ _)).gr hg8
  go_wp2_with fail
  refine (sClip_prog A2 4 c2 subL _ hr2 (by omega) sub_asc (by decide)).mono ?_
  rintro e w9 ⟨A9, m9, c9, rfl, hown9, hg9⟩
  rw [clip_val] at hown9
  have hr9 := hown9.rds e2_len
  have hm9 : m9 = 2 := hown9.len.symm
  subst hm9
  clear hown9
  have hr1 := hr1.gr hg9
  go_wp2_with fail
  refine (same_any _ _ 2 2 c9 2 [(0, 0), (8, 1)] [(0, 0), (8, 1)] _ (hr9.gr (Gr.alloc _ _)) (rd_new e2_len _ rfl rfl rfl) (by omega) (by omega)).mono ?_
  rintro e w10 ⟨rfl, hg10⟩
  rw [show decide ([((0 : Int), (0 : Int)), (8, 1)] = [(0, 0), (8, 1)]) = true by decide]
  have hr1 := (hr1.gr (Gr.alloc _ _)).gr hg10
  go_wp2_with fail
  refine (rat_prog A1 4 c1 sampleL 4 _ hr1 (by omega) sample_asc).mono ?_
  rintro e w11 ⟨rfl, hg11⟩
  rw [at_val]
  go_wp2_with fail
  go_ret
  refine ⟨rfl, ?_⟩
  repeat (first | exact Gr.refl _ | assumption | exact Gr.alloc _ _ | refine Gr.allocR ?_ _ | refine Gr.trans ?_ (by assumption))
end Go.Proofs.Ytllenmkmompjpaa
