/- Parts of the proof, joined (S5 S6 N11 P6). No condition. -/
import Derived.Test.YtnbnpnmkgemdeaaGreatDoorKQ
import Derived.Test.YtnbnpnmkgemdeaaGreatDoorKB
import Derived.Test.YtnbnpnmkgemdeaaGreatDoorKO
import Derived.Test.YtnbnpnmkgemdeaaGreatDoorKP
set_option linter.unusedSimpArgs false
set_option linter.unusedVariables false
namespace Go.Proofs.YtnbnpnmkgemdeaaGreatDoor
open Go.RowKit Go.MapKept
set_option maxRecDepth 100000
theorem mem_below : ∀ {n : Nat} {L : List Ob}, belowL n L → ∀ x ∈ L, x.below n
  | _, _ :: _, h, x, hx => by
    rcases List.mem_cons.1 hx with rfl | hx
    · exact h.1
    · exact mem_below h.2 x hx
/-- Insertion sort, from the right. -/
def posF (c : AC → AC → Int) (A : List AC) (x : AC) : Nat → Nat
  | 0 => 0
  | j + 1 => match A[j]? with
    | some y => if c x y < 0 then posF c A x j else j + 1
    | none => j + 1
def insR (c : AC → AC → Int) (A : List AC) (x : AC) : List AC := A.take (posF c A x A.length) ++ x :: A.drop (posF c A x A.length)
def isort (c : AC → AC → Int) (l : List AC) : List AC := l.foldl (insR c) []
def gC (x : AC) : List SV := [.c x]
def Wx (A : List AC) (x : AC) (j : Nat) (rest : List AC) : List AC := A.take j ++ x :: (A.drop j ++ rest)
theorem insR_len (c : AC → AC → Int) (A : List AC) (x : AC) : (insR c A x).length = A.length + 1 := by
  unfold insR; rw [List.length_append, List.length_cons, List.length_take, List.length_drop]; omega
theorem isort_len (c : AC → AC → Int) (l : List AC) : (isort c l).length = l.length := by
  have : ∀ (l A : List AC), (l.foldl (insR c) A).length = A.length + l.length := by
    intro l
    induction l with
    | nil => intro A; simp
    | cons x l ih => intro A; rw [List.foldl_cons, ih, insR_len, List.length_cons]; omega
  have := this l []
  simpa [isort] using this
theorem insR_mem {c : AC → AC → Int} {A : List AC} {x y : AC} (h : y ∈ insR c A x) : y = x ∨ y ∈ A := by
  unfold insR at h
  rcases List.mem_append.1 h with h | h
  · exact .inr (List.mem_of_mem_take h)
  · rcases List.mem_cons.1 h with h | h
    · exact .inl h
    · exact .inr (List.mem_of_mem_drop h)
theorem isort_mem {c : AC → AC → Int} {l : List AC} {y : AC} (h : y ∈ isort c l) : y ∈ l := by
  have : ∀ (l A : List AC), y ∈ l.foldl (insR c) A → y ∈ A ∨ y ∈ l := by
    intro l
    induction l with
    | nil => intro A h; exact .inl h
    | cons x l ih =>
      intro A h
      rw [List.foldl_cons] at h
      rcases ih _ h with h | h
      · rcases insR_mem h with h | h
        · exact .inr (by rw [h]; simp)
        · exact .inl h
      · exact .inr (List.mem_cons_of_mem _ h)
  rcases this l [] h with h | h
  · cases h
  · exact h
theorem isort_snoc (c : AC → AC → Int) (l : List AC) (x : AC) : isort c (l ++ [x]) = insR c (isort c l) x := by unfold isort; rw [List.foldl_append]; rfl
theorem Wx_len {A rest : List AC} {x : AC} {j : Nat} : (Wx A x j rest).length = A.length + 1 + rest.length := by
  unfold Wx; simp only [List.length_append, List.length_cons, List.length_take, List.length_drop]; omega
theorem Wx_get {A rest : List AC} {x : AC} {j : Nat} (h : j ≤ A.length) : (Wx A x j rest)[j]? = some x := by
  unfold Wx
  rw [List.getElem?_append_right (by rw [List.length_take]; omega)]
  have : j - (A.take j).length = 0 := by rw [List.length_take]; omega
  rw [this]; rfl
theorem Wx_split {A rest : List AC} {x y : AC} {j : Nat} (hy : A[j]? = some y) : Wx A x (j + 1) rest = A.take j ++ y :: x :: (A.drop (j + 1) ++ rest) ∧ Wx A x j rest = A.take j ++ x :: y :: (A.drop (j + 1) ++ rest) := by
  obtain ⟨h, e⟩ := List.getElem?_eq_some_iff.1 hy
  refine ⟨?_, ?_⟩
  · unfold Wx; rw [take_succ hy]; simp
  · unfold Wx; rw [List.drop_eq_getElem_cons h, e]; rfl
theorem Wx_get1 {A rest : List AC} {x y : AC} {j : Nat} (hy : A[j]? = some y) : (Wx A x (j + 1) rest)[j]? = some y := by
  have h := (List.getElem?_eq_some_iff.1 hy).1
  rw [(Wx_split hy).1, List.getElem?_append_right (by rw [List.length_take]; omega)]
  have : j - (A.take j).length = 0 := by rw [List.length_take]; omega
  rw [this]; rfl
theorem Wx_swap {A rest : List AC} {x y : AC} {j : Nat} (hy : A[j]? = some y) : ((Wx A x (j + 1) rest).map gC |>.set (j + 1) (gC y)).set j (gC x) = (Wx A x j rest).map gC := by
  have h := (List.getElem?_eq_some_iff.1 hy).1
  rw [(Wx_split hy).1, (Wx_split hy).2]
  have hl : ((A.take j).map gC).length = j := by rw [List.length_map, List.length_take]; omega
  simp only [List.map_append, List.map_cons]
  generalize (A.take j).map gC = P0 at hl
  subst hl
  rw [List.set_append_right _ _ (by omega), List.set_append_right _ _ (by omega)]
  simp
theorem insR_W (c : AC → AC → Int) (A : List AC) (x : AC) (rest : List AC) : insR c A x ++ rest = Wx A x (posF c A x A.length) rest := by unfold insR Wx; simp
theorem rowC_below (n v k : Nat) (l : List AC) : (Ob.row v (l.map gC) k).below n := by
  intro e he x hx
  obtain ⟨y, _, rfl⟩ := List.mem_map.1 he
  rcases List.mem_cons.1 hx with rfl | hx
  · trivial
  · cases hx
set_option maxHeartbeats 2000000 in
theorem isort_run (F : FuncId) (c : AC → AC → Int) (v : Nat) (xs : List AC) (n : Nat) (hn : xs.length = n) (hn2 : n ≤ 100000) (hcmp : ∀ x y, x ∈ xs → y ∈ xs → Pure Tryz.prog F [.one x, .one y] (vInt (c x y))) : Run Tryz.prog 201 [.row v (xs.map gC) 1] [.one (.sl 0 v 0 n), .one (.c (.int .i64 0)), .one (.c (.int .i64 n)), .one (.c (.fn F []))] [.row v ((isort c xs).map gC) 1] (.tup []) := by
  refine run_of_aw tab_ok Tryz.func201 rfl rfl Tryz.ntmps201 (by simp) ?_
  simp only [argA]
  repeat' (first
    | refine st_nil ?_
    | (refine st_pop rfl rfl rfl rfl ?_ ?_; · (repeat' (first | exact trivial | rfl | exact Nat.le_of_ble_eq_true rfl | omega | apply And.intro)))
    | (refine st_lop rfl rfl rfl rfl ?_ ?_; · (repeat' (first | exact trivial | rfl | exact Nat.le_of_ble_eq_true rfl | omega | apply And.intro)))
    | (refine st_store rfl rfl rfl ?_ ?_; · (repeat' (first | exact trivial | rfl | exact Nat.le_of_ble_eq_true rfl | omega | apply And.intro)))
    | (refine st_lit rfl rfl rfl rfl ?_ ?_; · (repeat' (first | exact trivial | rfl | exact Nat.le_of_ble_eq_true rfl | omega | apply And.intro)))
    | refine st_skip rfl rfl rfl ?_
    | refine st_skip0 rfl rfl ?_
    | (refine st_if rfl (fun hb => ?_) (fun hb => ?_) <;> (first | (exfalso; revert hb; decide) | (exfalso; simp at hb; done) | (exfalso; simp at hb; omega) | rw [hb]))
    | refine aw_seq ?_
    | refine aw_region tab_ok _ rfl ?_
    | refine aw_drawn2 tabS_ok _ rfl mixed (by decide +kernel) ?_
    | (refine aw_cond rfl (fun hb => ?_) (fun hb => ?_) <;> (try (first | (exfalso; revert hb; decide) | (exfalso; simp at hb; done) | (exfalso; simp at hb; omega))))
    | refine aw_block ?_
    | refine aw_exit ?_
    | refine aw_ret ?_
    | refine aw_skip ?_)
  refine aw_loop (fun i : Nat => [(0, .one (.sl 0 v 0 n)), (1, .one (.c (.int .i64 0))), (2, .one (.c (.int .i64 n))), (3, .one (.c (.fn F []))), (8, .one (.c (.int .i64 i)))]) (fun i => [.row v ((isort c (xs.take i) ++ xs.drop i).map gC) 1]) (fun i => 1 ≤ i ∧ (i ≤ n ∨ i = 1)) (fun i => n - i) 1 ⟨by omega, .inr rfl⟩ (fun _ _ => Nat.le_refl _)
    (fits_mk ⟨rfl, rfl, rfl, rfl, rfl, trivial⟩ [] ?_ ⟨(by show 0 < 1; omega), trivial, trivial, trivial, trivial, trivial⟩ ⟨rowC_below _ _ _ _, trivial⟩) ?_
  · match xs with
    | [] => rfl
    | x :: xs => rfl
  rintro i ⟨hi1, hi⟩
  by_cases hlt : i < n
  · obtain ⟨x, hx⟩ := get_of_lt (show i < xs.length by omega)
    have hAl : (isort c (xs.take i)).length = i := by rw [isort_len, List.length_take]; omega
    have hAm : ∀ y ∈ isort c (xs.take i), y ∈ xs := fun y hy => List.mem_of_mem_take (isort_mem hy)
    have hxm : x ∈ xs := List.mem_of_getElem? hx
    have hnext : isort c (xs.take (i + 1)) = insR c (isort c (xs.take i)) x := by rw [take_succ hx, isort_snoc]
    have hdrop : xs.drop i = x :: xs.drop (i + 1) := by obtain ⟨h, e⟩ := List.getElem?_eq_some_iff.1 hx; rw [List.drop_eq_getElem_cons h, e]
    have hstart : isort c (xs.take i) ++ xs.drop i = Wx (isort c (xs.take i)) x i (xs.drop (i + 1)) := by
      have h1 : (isort c (xs.take i)).take i = isort c (xs.take i) := List.take_of_length_le (by omega)
      have h2 : (isort c (xs.take i)).drop i = [] := List.drop_of_length_le (by omega)
      unfold Wx; rw [h1, h2, hdrop]; rfl
    have hrl : (xs.drop (i + 1)).length = n - (i + 1) := by rw [List.length_drop, hn]
    rw [hstart]
    generalize isort c (xs.take i) = A at hAl hAm hnext
    generalize hrest : xs.drop (i + 1) = rest at hrl
    repeat' (first
      | refine st_nil ?_
      | (refine st_pop rfl rfl rfl rfl ?_ ?_; · (repeat' (first | exact trivial | rfl | exact Nat.le_of_ble_eq_true rfl | omega | apply And.intro)))
      | (refine st_lop rfl rfl rfl rfl ?_ ?_; · (repeat' (first | exact trivial | rfl | exact Nat.le_of_ble_eq_true rfl | omega | apply And.intro)))
      | (refine st_store rfl rfl rfl ?_ ?_; · (repeat' (first | exact trivial | rfl | exact Nat.le_of_ble_eq_true rfl | omega | apply And.intro)))
      | (refine st_lit rfl rfl rfl rfl ?_ ?_; · (repeat' (first | exact trivial | rfl | exact Nat.le_of_ble_eq_true rfl | omega | apply And.intro)))
      | refine st_skip rfl rfl rfl ?_
      | refine st_skip0 rfl rfl ?_
      | (refine st_if rfl (fun hb => ?_) (fun hb => ?_) <;> (first | (exfalso; revert hb; decide) | (exfalso; simp at hb; done) | (exfalso; simp at hb; omega) | rw [hb]))
      | refine aw_seq ?_
      | refine aw_region tab_ok _ rfl ?_
      | refine aw_drawn2 tabS_ok _ rfl mixed (by decide +kernel) ?_
      | (refine aw_cond rfl (fun hb => ?_) (fun hb => ?_) <;> (try (first | (exfalso; revert hb; decide) | (exfalso; simp at hb; done) | (exfalso; simp at hb; omega))))
      | refine aw_block ?_
      | refine aw_exit ?_
      | refine aw_ret ?_
      | refine aw_skip ?_)
    refine aw_loop (fun j : Nat => [(0, .one (.sl 0 v 0 n)), (1, .one (.c (.int .i64 0))), (2, .one (.c (.int .i64 n))), (3, .one (.c (.fn F []))), (8, .one (.c (.int .i64 i))), (9, .one (.c (.int .i64 j)))]) (fun j => [.row v ((Wx A x j rest).map gC) 1]) (fun j => j ≤ i ∧ posF c A x i = posF c A x j) (fun j => j) i ⟨by omega, rfl⟩ (fun _ _ => Nat.le_refl _)
      (fits_mk ⟨rfl, rfl, rfl, rfl, rfl, rfl, trivial⟩ [] rfl ⟨(by show 0 < 1; omega), trivial, trivial, trivial, trivial, trivial, trivial⟩ ⟨rowC_below _ _ _ _, trivial⟩) ?_
    rintro j ⟨hj, hpos⟩
    match j, hj, hpos with
    | 0, hj, hpos =>
      repeat' (first
        | refine st_nil ?_
        | (refine st_pop rfl rfl rfl rfl ?_ ?_; · (repeat' (first | exact trivial | rfl | exact Nat.le_of_ble_eq_true rfl | omega | apply And.intro)))
        | (refine st_lop rfl rfl rfl rfl ?_ ?_; · (repeat' (first | exact trivial | rfl | exact Nat.le_of_ble_eq_true rfl | omega | apply And.intro)))
        | (refine st_store rfl rfl rfl ?_ ?_; · (repeat' (first | exact trivial | rfl | exact Nat.le_of_ble_eq_true rfl | omega | apply And.intro)))
        | (refine st_lit rfl rfl rfl rfl ?_ ?_; · (repeat' (first | exact trivial | rfl | exact Nat.le_of_ble_eq_true rfl | omega | apply And.intro)))
        | refine st_skip rfl rfl rfl ?_
        | refine st_skip0 rfl rfl ?_
        | (refine st_if rfl (fun hb => ?_) (fun hb => ?_) <;> (first | (exfalso; revert hb; decide) | (exfalso; simp at hb; done) | (exfalso; simp at hb; omega) | rw [hb]))
        | refine aw_seq ?_
        | refine aw_region tab_ok _ rfl ?_
        | refine aw_drawn2 tabS_ok _ rfl mixed (by decide +kernel) ?_
        | (refine aw_cond rfl (fun hb => ?_) (fun hb => ?_) <;> (try (first | (exfalso; revert hb; decide) | (exfalso; simp at hb; done) | (exfalso; simp at hb; omega))))
        | refine aw_block ?_
        | refine aw_exit ?_
        | refine aw_ret ?_
        | refine aw_skip ?_)
      all_goals exact ⟨i + 1, ⟨by omega, .inl (by omega)⟩, by omega, fits_mk ⟨rfl, rfl, rfl, rfl, slot_int (wrap_eq (by omega) (by omega)), trivial⟩ [] (by rw [hnext, hrest, insR_W, hAl, hpos]; rfl) ⟨(by show 0 < 1; omega), trivial, trivial, trivial, trivial, trivial⟩ ⟨rowC_below _ _ _ _, trivial⟩⟩

    | j + 1, hj, hpos =>
      obtain ⟨y, hy⟩ := get_of_lt (show j < A.length by omega)
      have hw : IntKind.i64.wrap (((j + 1 : Nat) : Int) - 1) = ((j : Nat) : Int) := wrap_eq (by omega) (by omega)
      have hg1 : ((Wx A x (j + 1) rest).map gC)[j + 1]? = some [.c x] := by rw [List.getElem?_map, Wx_get (by omega)]; rfl
      have hg2 : ((Wx A x (j + 1) rest).map gC)[j]? = some [.c y] := by rw [List.getElem?_map, Wx_get1 hy]; rfl
      have hpj : posF c A x (j + 1) = if c x y < 0 then posF c A x j else j + 1 := by simp only [posF, hy]
      have e1 : 0 + ((j + 1 : Nat) : Int).toNat = j + 1 := by simp
      have e2 : 0 + ((j : Nat) : Int).toNat = j := by simp
      repeat' (first
        | refine st_nil ?_
        | (refine st_ldr rfl rfl rfl rfl rfl rfl rfl (e := [.c x]) (by simpa using hg1) rfl ?_)
        | (refine st_ldr rfl rfl rfl rfl rfl rfl rfl (e := [.c y]) (by rw [hw]; simpa using hg2) rfl ?_)
        | (refine st_str rfl rfl rfl rfl rfl rfl (e := [.c x]) (by simpa using hg1) ⟨Nat.le_refl _, rfl⟩ rfl ?_)
        | (refine st_str rfl rfl rfl rfl rfl rfl (e := [.c y]) (by rw [hw, e1, e2, List.getElem?_set_ne (by omega)]; exact hg2) ⟨Nat.le_refl _, rfl⟩ rfl ?_)
        | (refine st_pop rfl rfl rfl rfl ?_ ?_; · (repeat' (first | exact trivial | rfl | exact Nat.le_of_ble_eq_true rfl | omega | (rw [hw]; omega) | apply And.intro)))
        | (refine st_lop rfl rfl rfl rfl ?_ ?_; · (repeat' (first | exact trivial | rfl | exact Nat.le_of_ble_eq_true rfl | omega | (rw [hw]; omega) | apply And.intro)))
        | (refine st_store rfl rfl rfl ?_ ?_; · (repeat' (first | exact trivial | rfl | exact Nat.le_of_ble_eq_true rfl | omega | (rw [hw]; omega) | apply And.intro)))
        | (refine st_lit rfl rfl rfl rfl ?_ ?_; · (repeat' (first | exact trivial | rfl | exact Nat.le_of_ble_eq_true rfl | omega | (rw [hw]; omega) | apply And.intro)))
        | refine st_skip rfl rfl rfl ?_
        | refine st_skip0 rfl rfl ?_
        | refine st_call rfl rfl rfl rfl (hcmp x y hxm (hAm y (List.mem_of_getElem? hy))) rfl ?_
        | (refine st_if rfl (fun hb => ?_) (fun hb => ?_) <;> (first | (exfalso; revert hb; decide) | (exfalso; simp at hb; done) | (exfalso; simp at hb; omega) | rw [hb]))
        | refine aw_seq ?_
        | refine aw_region tab_ok _ rfl ?_
        | refine aw_drawn2 tabS_ok _ rfl mixed (by decide +kernel) ?_
        | (refine aw_cond rfl (fun hb => ?_) (fun hb => ?_) <;> (try (first | (exfalso; revert hb; decide) | (exfalso; simp at hb; done) | (exfalso; simp at hb; omega))))
        | refine aw_block ?_
        | refine aw_exit ?_
        | refine aw_ret ?_
        | refine aw_skip ?_)
      · have hlt0 : c x y < 0 := of_decide_eq_true hb
        rw [if_pos hlt0] at hpj
        exact ⟨j, ⟨by omega, hpos.trans hpj⟩, by omega, fits_mk ⟨rfl, rfl, rfl, rfl, rfl, slot_int hw, trivial⟩ [] (by rw [← Wx_swap hy, hw, e1, e2]; rfl) ⟨(by show 0 < 1; omega), trivial, trivial, trivial, trivial, trivial, trivial⟩ ⟨rowC_below _ _ _ _, trivial⟩⟩
      · have hge : ¬ c x y < 0 := of_decide_eq_false hb
        rw [if_neg hge] at hpj
        exact ⟨i + 1, ⟨by omega, .inl (by omega)⟩, by omega, fits_mk ⟨rfl, rfl, rfl, rfl, slot_int (wrap_eq (by omega) (by omega)), trivial⟩ [] (by rw [hnext, hrest, insR_W, hAl, hpos.trans hpj]; rfl) ⟨(by show 0 < 1; omega), trivial, trivial, trivial, trivial, trivial⟩ ⟨rowC_below _ _ _ _, trivial⟩⟩
  · have hi2 : n ≤ i := by omega
    repeat' (first
      | refine st_nil ?_
      | (refine st_pop rfl rfl rfl rfl ?_ ?_; · (repeat' (first | exact trivial | rfl | exact Nat.le_of_ble_eq_true rfl | omega | apply And.intro)))
      | (refine st_lop rfl rfl rfl rfl ?_ ?_; · (repeat' (first | exact trivial | rfl | exact Nat.le_of_ble_eq_true rfl | omega | apply And.intro)))
      | (refine st_store rfl rfl rfl ?_ ?_; · (repeat' (first | exact trivial | rfl | exact Nat.le_of_ble_eq_true rfl | omega | apply And.intro)))
      | (refine st_lit rfl rfl rfl rfl ?_ ?_; · (repeat' (first | exact trivial | rfl | exact Nat.le_of_ble_eq_true rfl | omega | apply And.intro)))
      | refine st_skip rfl rfl rfl ?_
      | refine st_skip0 rfl rfl ?_
      | (refine st_if rfl (fun hb => ?_) (fun hb => ?_) <;> (first | (exfalso; revert hb; decide) | (exfalso; simp at hb; done) | (exfalso; simp at hb; omega) | rw [hb]))
      | refine aw_seq ?_
      | refine aw_region tab_ok _ rfl ?_
      | refine aw_drawn2 tabS_ok _ rfl mixed (by decide +kernel) ?_
      | (refine aw_cond rfl (fun hb => ?_) (fun hb => ?_) <;> (try (first | (exfalso; revert hb; decide) | (exfalso; simp at hb; done) | (exfalso; simp at hb; omega))))
      | refine aw_block ?_
      | refine aw_exit ?_
      | refine aw_ret ?_
      | refine aw_skip ?_)
    have htk : xs.take i = xs := List.take_of_length_le (by omega)
    have hdr : xs.drop i = [] := List.drop_of_length_le (by omega)
    exact ⟨.inl rfl, ⟨.inr ⟨.tup [], ⟨trivial, rfl⟩, rfl⟩, ⟨[], by rw [htk, hdr, List.append_nil, List.append_nil]⟩, by simp, mem_below ⟨rowC_below _ _ _ _, trivial⟩, trivial⟩⟩
end Go.Proofs.YtnbnpnmkgemdeaaGreatDoor

namespace Go.Proofs.YtnbnpnmkgemdeaaGreatDoor
open Go.RowKit Go.MapKept
set_option maxRecDepth 100000
def tabXS : TI := { tabX with soft := true }
theorem tabXS_ok : TIok Tryz.prog tabXS := ⟨tabX_ok.size, tabX_ok.agg, tabX_ok.elem, tabX_ok.field, tabX_ok.zero, tabX_ok.bytes, tabX_ok.kind, tabX_ok.struct, tabX_ok.zok, tabX_ok.eqs⟩
theorem row_ren (σ : List Nat) (v k : Nat) (l : List AC) : (Ob.row v (l.map gC) k).ren σ = Ob.row v (l.map gC) k := by
  simp only [Ob.ren, List.map_map]; rfl
theorem rf1 {L : List Ob} {v k : Nat} {l : List AC} {x : AV} {xs : List AV} (h0 : L[0]? = some (Ob.row v (l.map gC) k)) (hx : ∀ y ∈ x :: xs, y.below 1) : RunFits [0] [Ob.row v (l.map gC) k] (x :: xs) L := by
  refine ⟨rfl, by simp, fun i y hy => ?_, mem_below ⟨rowC_below _ _ _ _, trivial⟩, hx⟩
  match i, hy with
  | 0, hy => simp at hy; subst hy; rw [row_ren]; exact h0
  | i + 1, hy => simp at hy
theorem j1 {L L' : List Ob} {v k : Nat} {l : List AC} (h : L.set 0 (Ob.row v (l.map gC) k) = L') : joinL [0] L [Ob.row v (l.map gC) k] = L' := by
  subst h
  simp [joinL, join, setAll, outIds, newIds, row_ren]
theorem args_below {n : Nat} {l : List AV} (h : belowT n (l.map fun x => (0, x))) : ∀ y ∈ l, y.below n := by
  induction l with
  | nil => intro y hy; cases hy
  | cons x l ih =>
    intro y hy
    rcases List.mem_cons.1 hy with rfl | hy
    · exact h.1
    · exact ih h.2 y hy
theorem stable_run (F : FuncId) (c : AC → AC → Int) (v : Nat) (xs : List AC) (n : Nat) (hn : xs.length = n) (hn2 : n ≤ 19) (hcmp : ∀ x y, x ∈ xs → y ∈ xs → Pure Tryz.prog F [.one x, .one y] (vInt (c x y))) : Run Tryz.prog 150 [.row v (xs.map gC) 1] [.one (.sl 0 v 0 n), .one (.c (.int .i64 n)), .one (.c (.fn F []))] [.row v ((isort c xs).map gC) 1] (.tup []) := by
  refine run_of_aw tabX_ok Tryz.func150 rfl rfl Tryz.ntmps150 (by simp) ?_
  simp only [argA]
  repeat' (first
    | refine st_nil ?_
    | (refine st_pop rfl rfl rfl rfl ?_ ?_; · (repeat' (first | exact trivial | rfl | exact Nat.le_of_ble_eq_true rfl | omega | apply And.intro)))
    | (refine st_lop rfl rfl rfl rfl ?_ ?_; · (repeat' (first | exact trivial | rfl | exact Nat.le_of_ble_eq_true rfl | omega | apply And.intro)))
    | (refine st_store rfl rfl rfl ?_ ?_; · (repeat' (first | exact trivial | rfl | exact Nat.le_of_ble_eq_true rfl | omega | apply And.intro)))
    | (refine st_lit rfl rfl rfl rfl ?_ ?_; · (repeat' (first | exact trivial | rfl | exact Nat.le_of_ble_eq_true rfl | omega | apply And.intro)))
    | refine st_skip rfl rfl rfl ?_
    | refine st_skip0 rfl rfl ?_
    | (refine st_if rfl (fun hb => ?_) (fun hb => ?_) <;> (first | (exfalso; revert hb; decide) | (exfalso; simp at hb; done) | (exfalso; simp at hb; omega) | rw [hb]))
    | refine aw_seq ?_
    | refine aw_region tabX_ok _ rfl ?_
    | refine aw_drawn2 tabXS_ok _ rfl mixed (by decide +kernel) ?_
    | (refine aw_cond rfl (fun hb => ?_) (fun hb => ?_) <;> (try (first | (exfalso; revert hb; decide) | (exfalso; simp at hb; done) | (exfalso; simp at hb; omega))))
    | refine aw_block ?_
    | refine aw_exit ?_
    | refine aw_ret ?_
    | refine aw_skip ?_)
  refine aw_loop (fun _ : Unit => [(0, .one (.sl 0 v 0 n)), (1, .one (.c (.int .i64 n))), (2, .one (.c (.fn F []))), (6, .one (.c (.int .i64 20))), (7, .one (.c (.int .i64 0))), (8, .one (.c (.int .i64 20)))]) (fun _ => [.row v (xs.map gC) 1]) (fun _ => True) (fun _ => 0) () trivial (fun _ _ => Nat.le_refl _)
    (fits_mk ⟨rfl, rfl, rfl, rfl, rfl, rfl, trivial⟩ [] rfl ⟨(by show 0 < 1; omega), trivial, trivial, trivial, trivial, trivial, trivial⟩ ⟨rowC_below _ _ _ _, trivial⟩) ?_
  intro _ _
  repeat' (first
    | refine st_nil ?_
    | (refine st_pop rfl rfl rfl rfl ?_ ?_; · (repeat' (first | exact trivial | rfl | exact Nat.le_of_ble_eq_true rfl | omega | apply And.intro)))
    | (refine st_lop rfl rfl rfl rfl ?_ ?_; · (repeat' (first | exact trivial | rfl | exact Nat.le_of_ble_eq_true rfl | omega | apply And.intro)))
    | (refine st_store rfl rfl rfl ?_ ?_; · (repeat' (first | exact trivial | rfl | exact Nat.le_of_ble_eq_true rfl | omega | apply And.intro)))
    | (refine st_lit rfl rfl rfl rfl ?_ ?_; · (repeat' (first | exact trivial | rfl | exact Nat.le_of_ble_eq_true rfl | omega | apply And.intro)))
    | refine st_skip rfl rfl rfl ?_
    | refine st_skip0 rfl rfl ?_
    | (refine st_run [0] rfl rfl rfl rfl (isort_run F c v xs n hn (by omega) hcmp) rfl (rf1 rfl (args_below ⟨(by show 0 < 1; omega), trivial, trivial, trivial, trivial⟩)) rfl (j1 (L' := [.row v ((isort c xs).map gC) 1]) rfl) ?_)
    | (refine st_if rfl (fun hb => ?_) (fun hb => ?_) <;> (first | (exfalso; revert hb; decide) | (exfalso; simp at hb; done) | (exfalso; simp at hb; omega) | rw [hb]))
    | refine aw_seq ?_
    | refine aw_region tabX_ok _ rfl ?_
    | refine aw_drawn2 tabXS_ok _ rfl mixed (by decide +kernel) ?_
    | (refine aw_cond rfl (fun hb => ?_) (fun hb => ?_) <;> (try (first | (exfalso; revert hb; decide) | (exfalso; simp at hb; done) | (exfalso; simp at hb; omega))))
    | refine aw_block ?_
    | refine aw_exit ?_
    | refine aw_ret ?_
    | refine aw_skip ?_)
  refine aw_loop (fun _ : Unit => [(0, .one (.sl 0 v 0 n)), (1, .one (.c (.int .i64 n))), (2, .one (.c (.fn F []))), (6, .one (.c (.int .i64 20))), (7, .one (.c (.int .i64 0)))]) (fun _ => [.row v ((isort c xs).map gC) 1]) (fun _ => True) (fun _ => 0) () trivial (fun _ _ => Nat.le_refl _)
    (fits_mk ⟨rfl, rfl, rfl, rfl, rfl, trivial⟩ [] rfl ⟨(by show 0 < 1; omega), trivial, trivial, trivial, trivial, trivial⟩ ⟨rowC_below _ _ _ _, trivial⟩) ?_
  intro _ _
  repeat' (first
    | refine st_nil ?_
    | (refine st_pop rfl rfl rfl rfl ?_ ?_; · (repeat' (first | exact trivial | rfl | exact Nat.le_of_ble_eq_true rfl | omega | apply And.intro)))
    | (refine st_lop rfl rfl rfl rfl ?_ ?_; · (repeat' (first | exact trivial | rfl | exact Nat.le_of_ble_eq_true rfl | omega | apply And.intro)))
    | (refine st_store rfl rfl rfl ?_ ?_; · (repeat' (first | exact trivial | rfl | exact Nat.le_of_ble_eq_true rfl | omega | apply And.intro)))
    | (refine st_lit rfl rfl rfl rfl ?_ ?_; · (repeat' (first | exact trivial | rfl | exact Nat.le_of_ble_eq_true rfl | omega | apply And.intro)))
    | refine st_skip rfl rfl rfl ?_
    | refine st_skip0 rfl rfl ?_
    | (refine st_if rfl (fun hb => ?_) (fun hb => ?_) <;> (first | (exfalso; revert hb; decide) | (exfalso; simp at hb; done) | (exfalso; simp at hb; omega) | rw [hb]))
    | refine aw_seq ?_
    | refine aw_region tabX_ok _ rfl ?_
    | refine aw_drawn2 tabXS_ok _ rfl mixed (by decide +kernel) ?_
    | (refine aw_cond rfl (fun hb => ?_) (fun hb => ?_) <;> (try (first | (exfalso; revert hb; decide) | (exfalso; simp at hb; done) | (exfalso; simp at hb; omega))))
    | refine aw_block ?_
    | refine aw_exit ?_
    | refine aw_ret ?_
    | refine aw_skip ?_)
  all_goals exact ⟨.inl rfl, ⟨.inr ⟨.tup [], ⟨trivial, rfl⟩, rfl⟩, ⟨[], rfl⟩, by simp, mem_below ⟨rowC_below _ _ _ _, trivial⟩, trivial⟩⟩
theorem sortS_run (F : FuncId) (c : AC → AC → Int) (v : Nat) (xs : List AC) (n : Nat) (hn : xs.length = n) (hn2 : n ≤ 19) (hcmp : ∀ x y, x ∈ xs → y ∈ xs → Pure Tryz.prog F [.one x, .one y] (vInt (c x y))) : Run Tryz.prog 106 [.row v (xs.map gC) 1] [.one (.sl 0 v 0 n), .one (.c (.fn F []))] [.row v ((isort c xs).map gC) 1] (.tup []) := by
  refine run_of_aw tabX_ok Tryz.func106 rfl rfl Tryz.ntmps106 (by simp) ?_
  simp only [argA]
  repeat' (first
    | refine st_nil ?_
    | (refine st_pop rfl rfl rfl rfl ?_ ?_; · (repeat' (first | exact trivial | rfl | exact Nat.le_of_ble_eq_true rfl | omega | apply And.intro)))
    | (refine st_lop rfl rfl rfl rfl ?_ ?_; · (repeat' (first | exact trivial | rfl | exact Nat.le_of_ble_eq_true rfl | omega | apply And.intro)))
    | (refine st_store rfl rfl rfl ?_ ?_; · (repeat' (first | exact trivial | rfl | exact Nat.le_of_ble_eq_true rfl | omega | apply And.intro)))
    | (refine st_lit rfl rfl rfl rfl ?_ ?_; · (repeat' (first | exact trivial | rfl | exact Nat.le_of_ble_eq_true rfl | omega | apply And.intro)))
    | refine st_skip rfl rfl rfl ?_
    | refine st_skip0 rfl rfl ?_
    | (refine st_run [0] rfl rfl rfl rfl (stable_run F c v xs n hn hn2 hcmp) rfl (rf1 rfl (args_below ⟨(by show 0 < 1; omega), trivial, trivial, trivial⟩)) rfl (j1 (L' := [.row v ((isort c xs).map gC) 1]) rfl) ?_)
    | (refine st_if rfl (fun hb => ?_) (fun hb => ?_) <;> (first | (exfalso; revert hb; decide) | (exfalso; simp at hb; done) | (exfalso; simp at hb; omega) | rw [hb]))
    | refine aw_seq ?_
    | refine aw_region tabX_ok _ rfl ?_
    | refine aw_drawn2 tabXS_ok _ rfl mixed (by decide +kernel) ?_
    | (refine aw_cond rfl (fun hb => ?_) (fun hb => ?_) <;> (try (first | (exfalso; revert hb; decide) | (exfalso; simp at hb; done) | (exfalso; simp at hb; omega))))
    | refine aw_block ?_
    | refine aw_exit ?_
    | refine aw_ret ?_
    | refine aw_skip ?_)
  all_goals exact ⟨.inl rfl, ⟨.inr ⟨.tup [], ⟨trivial, rfl⟩, rfl⟩, ⟨[], rfl⟩, by simp, mem_below ⟨rowC_below _ _ _ _, trivial⟩, trivial⟩⟩
theorem cV_wide (l : List Val) : ∀ e ∈ l.map cV, e.length = 3 := wideI (by intro _; rfl) l
def vOf : List AC → Val
  | [.int _ k, .int _ n, .str t] => ⟨k, n, t⟩
  | _ => ⟨0, 0, ⟨#[]⟩⟩
def tRows (l : List (List Val)) : AC := .lst (l.map fun r => [tRow r])
theorem clone_pure (r : List Val) (h0 : r ≠ []) (hr : r.length ≤ 1000000) : Pure Tryz.prog 105 [.one (tRow r)] (.val (.one (tRow r))) := by
  refine pure_of_aw tabX_ok Tryz.func105 rfl rfl Tryz.ntmps105 (by simp) ?_
  simp only [argT, PV.av, List.map_cons, List.map_nil]
  obtain ⟨x, r, rfl⟩ : ∃ x r', r = x :: r' := by cases r with | nil => exact absurd rfl h0 | cons x r => exact ⟨x, r, rfl⟩
  have hw := cV_wide (x :: r)
  have hlen : ((x :: r).map cV).length = r.length + 1 := by simp
  simp only [List.length_cons] at hr
  repeat' (first
    | refine st_nil ?_
    | (refine st_pop rfl rfl rfl rfl ?_ ?_; · (repeat' (first | exact trivial | rfl | exact Nat.le_of_ble_eq_true rfl | omega | exact hw | (rw [hlen]; omega) | apply And.intro)))
    | (refine st_lop rfl rfl rfl rfl ?_ ?_; · (repeat' (first | exact trivial | rfl | exact Nat.le_of_ble_eq_true rfl | omega | exact hw | (rw [hlen]; omega) | apply And.intro)))
    | (refine st_store rfl rfl rfl ?_ ?_; · (repeat' (first | exact trivial | rfl | exact Nat.le_of_ble_eq_true rfl | omega | exact hw | (rw [hlen]; omega) | apply And.intro)))
    | (refine st_lit rfl rfl rfl rfl ?_ ?_; · (repeat' (first | exact trivial | rfl | exact Nat.le_of_ble_eq_true rfl | omega | exact hw | (rw [hlen]; omega) | apply And.intro)))
    | refine st_skip rfl rfl rfl ?_
    | refine st_skip0 rfl rfl ?_
    | (refine st_if rfl (fun hb => ?_) (fun hb => ?_) <;> (first | (exfalso; revert hb; decide) | (exfalso; simp at hb; done) | (exfalso; simp at hb; omega) | rw [hb]))
    | refine aw_seq ?_
    | refine aw_region tabX_ok _ rfl ?_
    | refine aw_drawn2 tabXS_ok _ rfl mixed (by decide +kernel) ?_
    | (refine aw_cond rfl (fun hb => ?_) (fun hb => ?_) <;> (try (first | (exfalso; revert hb; decide) | (exfalso; simp at hb; done) | (exfalso; simp at hb; omega))))
    | refine aw_block ?_
    | refine aw_exit ?_
    | refine aw_ret ?_
    | refine aw_skip ?_
    | (refine st_sopq rfl rfl rfl rfl rfl (sop_notNil rfl rfl (tabX_ok.kind 43 _ rfl)) ?_))
  all_goals exact end_ret (res_of rfl (by trivial) rfl)
theorem normR_gC (l : List AC) : normR (l.map gC) = some (l.map fun x => [x]) := by
  have := normR_c (l.map fun x => [x])
  rw [List.map_map] at this
  exact this
theorem rows_wide (l : List (List Val)) : ∀ e ∈ l.map (fun r => [tRow r]), e.length = 1 := by intro e he; obtain ⟨x, _, rfl⟩ := List.mem_map.1 he; rfl
set_option maxHeartbeats 2000000 in
theorem sorted_pure (F : FuncId) (c : AC → AC → Int) (l : List (List Val)) (hl : l.length ≤ 19) (hr : ∀ r ∈ l, r ≠ [] ∧ r.length ≤ 1000000) (hcmp : ∀ x y, x ∈ l.map tRow → y ∈ l.map tRow → Pure Tryz.prog F [.one x, .one y] (vInt (c x y))) : Pure Tryz.prog 80 [.one (tRows l), .one (.fn F [])] (.val (.one (.lst ((isort c (l.map tRow)).map fun x => [x])))) := by
  refine pure_of_aw tabX_ok Tryz.func80 rfl rfl Tryz.ntmps80 (by simp) ?_
  simp only [argT, PV.av, List.map_cons, List.map_nil]
  obtain ⟨n, hn⟩ : ∃ n, l.length = n := ⟨_, rfl⟩
  have hml : (l.map fun r => [tRow r]).length = n := by simp [hn]
  repeat' (first
    | refine st_nil ?_
    | (refine st_sop rfl rfl rfl rfl rfl (sop_makeRow tabX_ok (k := 1) (by_ := 24) rfl rfl rfl (by decide) rfl rfl rfl (by decide) (by omega) (by rw [hml]; omega) (by rw [hml]; omega)) ?_)
    | (refine st_pop rfl rfl rfl rfl ?_ ?_; · (repeat' (first | exact trivial | rfl | exact Nat.le_of_ble_eq_true rfl | omega | apply And.intro)))
    | (refine st_lop rfl rfl rfl rfl ?_ ?_; · (repeat' (first | exact trivial | rfl | exact Nat.le_of_ble_eq_true rfl | omega | apply And.intro)))
    | (refine st_store rfl rfl rfl ?_ ?_; · (repeat' (first | exact trivial | rfl | exact Nat.le_of_ble_eq_true rfl | omega | apply And.intro)))
    | (refine st_lit rfl rfl rfl rfl ?_ ?_; · (repeat' (first | exact trivial | rfl | exact Nat.le_of_ble_eq_true rfl | omega | apply And.intro)))
    | refine st_skip rfl rfl rfl ?_
    | refine st_skip0 rfl rfl ?_
    | (refine st_if rfl (fun hb => ?_) (fun hb => ?_) <;> (first | (exfalso; revert hb; decide) | (exfalso; simp at hb; done) | (exfalso; simp at hb; omega) | rw [hb]))
    | refine aw_seq ?_
    | refine aw_region tabX_ok _ rfl ?_
    | refine aw_drawn2 tabXS_ok _ rfl mixed (by decide +kernel) ?_
    | (refine aw_cond rfl (fun hb => ?_) (fun hb => ?_) <;> (try (first | (exfalso; revert hb; decide) | (exfalso; simp at hb; done) | (exfalso; simp at hb; omega))))
    | refine aw_block ?_
    | refine aw_exit ?_
    | refine aw_ret ?_
    | refine aw_skip ?_)
  refine aw_loop (fun i : Nat => [(0, .one (.c (tRows l))), (1, .one (.c (.fn F []))), (5, .one (.sl 0 (43 + 65536 + 65536 * i) 0 i)), (11, .one (.c (tRows l))), (12, .one (.c (.int .i64 n))), (13, .one (.c (.int .i64 i)))]) (fun i => [.row (43 + 65536 + 65536 * i) (((l.take i).map tRow).map gC) 1]) (fun i => i ≤ n) (fun i => n - i) 0 (by omega) (fun _ _ => Nat.zero_le _)
    (fits_mk ⟨rfl, rfl, rfl, rfl, slot_int (by simp [hn]), rfl, trivial⟩ [] rfl ⟨trivial, trivial, (by show 0 < 1; omega), trivial, trivial, trivial, trivial⟩ ⟨rowC_below _ _ _ _, trivial⟩) ?_
  intro i hi
  by_cases hlt : i < n
  · obtain ⟨r, hx⟩ := get_of_lt (show i < l.length by omega)
    have hcl := clone_pure r (hr r (List.mem_of_getElem? hx)).1 (hr r (List.mem_of_getElem? hx)).2
    have hlen : (((l.take i).map tRow).map gC).length = i := by simp; omega
    have hnx : ((l.take (i + 1)).map tRow).map gC = ((l.take i).map tRow).map gC ++ [gC (tRow r)] := by rw [take_succ hx]; simp
    repeat' (first
      | refine st_nil ?_
      | (refine st_sop rfl rfl rfl rfl rfl (sop_app tabX_ok (k := 1) (by_ := 24) (xs := [gC (tRow r)]) rfl rfl rfl rfl ⟨rfl, _, rfl, by intro e he; simp at he; subst he; rfl⟩ rfl (by omega) rfl rfl rfl (by decide) hlen (by show (i + 1) * 24 ≤ _; omega) (by show i + 1 ≤ _; omega)) ?_)
      | (refine st_pop rfl rfl rfl rfl ?_ ?_; · (repeat' (first | exact trivial | rfl | exact Nat.le_of_ble_eq_true rfl | omega | (intro e he; simp at he; subst he; rfl) | apply And.intro)))
      | (refine st_idx rfl rfl rfl rfl rfl rfl rfl rfl (idx_map hx) ?_ ?_; · exact ⟨by omega, rfl⟩)
      | (refine st_lop rfl rfl rfl rfl ?_ ?_; · (repeat' (first | exact trivial | rfl | exact Nat.le_of_ble_eq_true rfl | omega | (intro e he; simp at he; subst he; rfl) | apply And.intro)))
      | (refine st_store rfl rfl rfl ?_ ?_; · (repeat' (first | exact trivial | rfl | exact Nat.le_of_ble_eq_true rfl | omega | (intro e he; simp at he; subst he; rfl) | apply And.intro)))
      | (refine st_lit rfl rfl rfl rfl ?_ ?_; · (repeat' (first | exact trivial | rfl | exact Nat.le_of_ble_eq_true rfl | omega | (intro e he; simp at he; subst he; rfl) | apply And.intro)))
      | refine st_skip rfl rfl rfl ?_
      | refine st_skip0 rfl rfl ?_
      | refine st_call rfl rfl rfl rfl hcl rfl ?_
      | (refine st_if rfl (fun hb => ?_) (fun hb => ?_) <;> (first | (exfalso; revert hb; decide) | (exfalso; simp at hb; done) | (exfalso; simp at hb; omega) | rw [hb]))
      | refine aw_seq ?_
      | refine aw_region tabX_ok _ rfl ?_
      | refine aw_drawn2 tabXS_ok _ rfl mixed (by decide +kernel) ?_
      | (refine aw_cond rfl (fun hb => ?_) (fun hb => ?_) <;> (try (first | (exfalso; revert hb; decide) | (exfalso; simp at hb; done) | (exfalso; simp at hb; omega))))
      | refine aw_block ?_
      | refine aw_exit ?_
      | refine aw_ret ?_
      | refine aw_skip ?_)
    have hv : 43 + 65536 + 65536 * (i + 1) = 43 + 65536 + 65536 * i + 65536 := by omega
    exact ⟨i + 1, by omega, by omega, fits_mk ⟨rfl, rfl, (by rw [hv]; rfl), rfl, rfl, slot_int (wrap_eq (by omega) (by omega)), trivial⟩ [] (by rw [hv, hnx]; rfl) ⟨trivial, trivial, (by show 0 < 1; omega), trivial, trivial, trivial, trivial⟩ ⟨rowC_below _ _ _ _, trivial⟩⟩
  · have hi2 : i = n := by omega
    subst hi2
    have htk : l.take i = l := by rw [← hn, List.take_length]
    rw [htk]
    have hfr := normR_gC (isort c (l.map tRow))
    have hil : ((isort c (l.map tRow)).map fun x => [x]).length = i := by rw [List.length_map, isort_len, List.length_map, hn]
    repeat' (first
      | refine st_nil ?_
      | (refine aw_freeze1 0 5 rfl hfr rfl hil ?_)
      | (refine st_pop rfl rfl rfl rfl ?_ ?_; · (repeat' (first | exact trivial | rfl | exact Nat.le_of_ble_eq_true rfl | omega | apply And.intro)))
      | (refine st_lop rfl rfl rfl rfl ?_ ?_; · (repeat' (first | exact trivial | rfl | exact Nat.le_of_ble_eq_true rfl | omega | apply And.intro)))
      | (refine st_store rfl rfl rfl ?_ ?_; · (repeat' (first | exact trivial | rfl | exact Nat.le_of_ble_eq_true rfl | omega | apply And.intro)))
      | (refine st_lit rfl rfl rfl rfl ?_ ?_; · (repeat' (first | exact trivial | rfl | exact Nat.le_of_ble_eq_true rfl | omega | apply And.intro)))
      | refine st_skip rfl rfl rfl ?_
      | refine st_skip0 rfl rfl ?_
      | (refine st_run [0] rfl rfl rfl rfl (sortS_run F c (43 + 65536 + 65536 * i) (l.map tRow) i (by simp [hn]) (by omega) hcmp) rfl (rf1 rfl (args_below ⟨(by show 0 < 1; omega), trivial, trivial⟩)) rfl (j1 (L' := [.row (43 + 65536 + 65536 * i) ((isort c (l.map tRow)).map gC) 1]) rfl) ?_)
      | (refine st_if rfl (fun hb => ?_) (fun hb => ?_) <;> (first | (exfalso; revert hb; decide) | (exfalso; simp at hb; done) | (exfalso; simp at hb; omega) | rw [hb]))
      | refine aw_seq ?_
      | refine aw_region tabX_ok _ rfl ?_
      | refine aw_drawn2 tabXS_ok _ rfl mixed (by decide +kernel) ?_
      | (refine aw_cond rfl (fun hb => ?_) (fun hb => ?_) <;> (try (first | (exfalso; revert hb; decide) | (exfalso; simp at hb; done) | (exfalso; simp at hb; omega))))
      | refine aw_block ?_
      | refine aw_exit ?_
      | refine aw_ret ?_
      | refine aw_skip ?_)
    exact end_ret (res_of rfl (by trivial) rfl)
def tcmp : AC → AC → Int
  | .lst a, .lst b => rcmp (a.map vOf) (b.map vOf)
  | _, _ => 0
def sortR (l : List (List Val)) : AC := .lst ((isort tcmp (l.map tRow)).map fun x => [x])
theorem vOf_cV (l : List Val) : (l.map cV).map vOf = l := by
  rw [List.map_map]
  have : vOf ∘ cV = id := rfl
  rw [this, List.map_id]
end Go.Proofs.YtnbnpnmkgemdeaaGreatDoor

namespace Go.Proofs.YtnbnpnmkgemdeaaGreatDoor
open Go.RowKit Go.MapKept
set_option maxRecDepth 100000
set_option maxHeartbeats 8000000
set_option linter.unusedVariables false
set_option linter.unusedSimpArgs false
theorem tcmp_row (a b : List Val) : tcmp (tRow a) (tRow b) = rcmp a b := by
  show rcmp ((a.map cV).map vOf) ((b.map cV).map vOf) = _
  rw [vOf_cV, vOf_cV]
theorem posF_row (B : List (List Val)) (x : List Val) : ∀ j, posF tcmp (B.map tRow) (tRow x) j = posV B x j
  | 0 => rfl
  | j + 1 => by
    rw [posF, posV, List.getElem?_map]
    cases B[j]? with
    | none => rfl
    | some y =>
      simp only [Option.map_some]
      rw [tcmp_row, posF_row B x j]
theorem insR_row (B : List (List Val)) (x : List Val) : insR tcmp (B.map tRow) (tRow x) = (insV B x).map tRow := by
  unfold insR insV
  rw [List.length_map, posF_row, List.map_append, List.map_cons, List.map_take, List.map_drop]
theorem foldl_row : ∀ (l B : List (List Val)), (l.map tRow).foldl (insR tcmp) (B.map tRow) = (l.foldl insV B).map tRow
  | [], _ => rfl
  | x :: l, B => by rw [List.map_cons, List.foldl_cons, List.foldl_cons, insR_row, foldl_row l]
theorem isort_row (l : List (List Val)) : isort tcmp (l.map tRow) = (sortV l).map tRow := foldl_row l []
def sortable (l : List (List Val)) : Bool := decide (l.length ≤ 19) && l.all fun r => !r.isEmpty && decide (r.length ≤ 1000000)
def gSort (l : List (List Val)) : Option (List (List Val)) := bif sortable l then some (sortV l) else none
theorem gSort_ok {l r : List (List Val)} (H : gSort l = some r) : Pure Tryz.prog 51 [.one (.lst (l.map (fun x => [AC.lst (x.map cV)])))] (.val (.one (.lst (r.map (fun x => [AC.lst (x.map cV)]))))) := by
  unfold gSort at H
  cases hs : sortable l with
  | false => rw [hs] at H; cases H
  | true =>
    rw [hs, cond_true] at H
    obtain rfl := Option.some.inj H
    unfold sortable at hs
    rw [Bool.and_eq_true, List.all_eq_true] at hs
    have h1 := of_decide_eq_true hs.1
    have h2 : ∀ r ∈ l, r ≠ [] ∧ r.length ≤ 1000000 := by
      intro r hr
      have := hs.2 r hr
      rw [Bool.and_eq_true] at this
      refine ⟨?_, of_decide_eq_true this.2⟩
      rintro rfl
      exact absurd this.1 (by decide)
    have k := sorted_pure 81 tcmp l h1 h2 (by
      intro x y hx hy
      obtain ⟨a, ha, rfl⟩ := List.mem_map.1 hx
      obtain ⟨b, hb, rfl⟩ := List.mem_map.1 hy
      have la := (h2 a ha).2
      have lb := (h2 b hb).2
      rw [tcmp_row]
      exact gTCmp_ok (gTCmp_eq a b (by omega) (by omega)))
    rw [isort_row, List.map_map] at k
    replace k : Pure Tryz.prog 80 [.one (.lst (l.map (fun x => [AC.lst (x.map cV)]))), .one (.fn 81 [])] (.val (.one (.lst ((sortV l).map (fun x => [AC.lst (x.map cV)]))))) := k
    refine pure_of_aw tab_ok Tryz.func51 rfl rfl Tryz.ntmps51 (by simp) ?_
    simp only [argT, PV.av, List.map_cons, List.map_nil]
    exact go_
def gRows_B2 (a_l : (List Ver)) : ((List (List Val)) × Int) → Option (Step ((List (List Val)) × Int) (Bag)) := fun s => match s with
  | (c_4, v_5) => bif (decide (v_5 < ((a_l.length : Nat) : Int))) then
    (getI a_l v_5).bind fun x_7 => (gExt x_7.row [x_7.valid.lo, x_7.valid.hi, x_7.system.lo, x_7.system.hi, x_7.by_]).bind fun r_8 => bif (decide (c_4.length + 1 ≤ 5864062014805)) then (some (.next ((c_4 ++ [r_8]), (IntKind.i64.wrap (v_5 + (1 : Int)))))) else none
  else
    some (.exit (c_4, v_5))
def gRows_K2 (c_1 : (List Int)) : Sum ((List (List Val)) × Int) (Bag) → Option ((Bag))
  | .inl (c_4, v_5) => (gSort c_4).bind fun r_9 => some (⟨c_1, r_9⟩ : Bag)
  | .inr q => some q
def gRows_B1 : ((List Int) × Int) → Option (Step ((List Int) × Int) (Bag)) := fun s => match s with
  | (c_1, v_2) => bif (decide (v_2 < (5 : Int))) then
    bif (decide (c_1.length + 1 ≤ 17592186044416)) then (some (.next ((c_1 ++ [(1 : Int)]), (IntKind.i64.wrap (v_2 + (1 : Int)))))) else none
  else
    some (.exit (c_1, v_2))
def gRows_K1 (a_l : (List Ver)) : Sum ((List Int) × Int) (Bag) → Option ((Bag))
  | .inl (c_1, v_2) => (loopM (gRows_B2 a_l) fuel ([], (0 : Int))).bind (gRows_K2 c_1)
  | .inr q => some q
def gRows (a_kinds : (List Int)) (a_l : (List Ver)) : Option (Bag) := bif (decide (a_kinds.length ≤ 17592186044416)) then ((loopM (gRows_B1) fuel (a_kinds, (0 : Int))).bind (gRows_K1 a_l)) else none
theorem gRows_ok {a_kinds : (List Int)} {a_l : (List Ver)} {r : Bag} (H : gRows a_kinds a_l = some r) : Pure Tryz.prog 22 [.one (.lst (a_kinds.map (fun x => [AC.int .i64 x]))), .one (.lst (a_l.map cVer))] (.val (.agg (cBag r))) := by
  unfold gRows at H
  refine pure_of_aw tab_ok Tryz.func22 rfl rfl Tryz.ntmps22 (by simp) ?_
  simp only [argT, PV.av, List.map_cons, List.map_nil]
  obtain ⟨g1, H⟩ := grd_some H
  replace g1 := of_decide_eq_true g1
  repeat' (first | refine p_ rfl rfl rfl rfl rfl ?_ | refine st_nil ?_ | refine x_ rfl rfl rfl rfl rfl rfl rfl rfl ?_ | refine l_ rfl rfl rfl rfl ?_ | refine s_ rfl rfl rfl ?_ | refine t5_ rfl rfl rfl rfl ?_ | refine k_ rfl rfl rfl ?_ | refine k0_ rfl rfl ?_ | refine c_ rfl rfl rfl rfl ?_ | refine pick_t rfl rfl rfl rfl rfl rfl rfl ?_ | refine pick_f rfl rfl rfl rfl rfl rfl rfl ?_ | refine aw_seq ?_ | refine aw_region tab_ok _ rfl ?_ | refine aw_drawn2 tabS_ok _ rfl mixed (by decide +kernel) ?_ | refine aw_condT rfl ?_ | refine aw_condF rfl ?_ | refine aw_block ?_ | refine aw_exit ?_ | refine aw_ret ?_ | refine aw_skip ?_ | rw [List.length_map] | rw [mn_norm] | rw [mx_norm] | refine b_ rfl rfl rfl rfl rfl rfl rfl ?_)
  refine aw_loopM (fun s : (List Int) × Int => match s with | (c_1, v_2) => [(1, .one (.c (.lst (a_l.map cVer)))), (4, .one (.ptr 0 0)), (5, .one (.ptr 2 0)), (12, .one (.c (.int .i64 v_2)))]) (fun s => match s with | (c_1, v_2) => [.box [.emp, .emp], .spare c_1.length 1, .box [.own (c_1.map (fun x => [AC.int .i64 x])) 1, .emp]]) H (fun _ => Nat.zero_le _)
    (fits_mk ⟨rfl, rfl, rfl, rfl, trivial⟩ [] rfl ⟨trivial, by show 0 < 3; omega, by show 2 < 3; omega, trivial, trivial⟩ ⟨ob_below (by rfl), trivial, ob_below (by rfl), trivial⟩) ?_
  rintro ⟨c_1, v_2⟩ st1 hb1 hk1
  unfold gRows_B1 at hb1
  dsimp only at hb1 ⊢
  rcases Bool.eq_false_or_eq_true (decide (v_2 < (5 : Int))) with q_3 | q_3
  · rw [q_3, cond_true] at hb1
    obtain ⟨g2, hb1⟩ := grd_some hb1
    replace g2 := of_decide_eq_true g2
    obtain rfl := Option.some.inj hb1
    repeat' (first | refine p_ rfl rfl rfl rfl rfl ?_ | refine st_nil ?_ | refine x_ rfl rfl rfl rfl rfl rfl rfl rfl ?_ | refine l_ rfl rfl rfl rfl ?_ | refine s_ rfl rfl rfl ?_ | refine t5_ rfl rfl rfl rfl ?_ | refine k_ rfl rfl rfl ?_ | refine k0_ rfl rfl ?_ | refine c_ rfl rfl rfl rfl ?_ | refine pick_t rfl rfl rfl rfl rfl rfl rfl ?_ | refine pick_f rfl rfl rfl rfl rfl rfl rfl ?_ | refine aw_seq ?_ | refine aw_region tab_ok _ rfl ?_ | refine aw_drawn2 tabS_ok _ rfl mixed (by decide +kernel) ?_ | refine aw_condT rfl ?_ | refine aw_condF rfl ?_ | refine aw_block ?_ | refine aw_exit ?_ | refine aw_ret ?_ | refine aw_skip ?_ | rw [List.length_map] | rw [mn_norm] | rw [mx_norm] | refine b_ rfl rfl rfl rfl rfl rfl rfl ?_)
    exact ⟨_, rfl, fits_mk ⟨rfl, rfl, rfl, rfl, trivial⟩ [] (by simp only [List.length_append, List.length_cons, List.length_nil, Nat.zero_add, List.map_append, List.map_cons, List.map_nil] <;> rfl) ⟨trivial, by show 0 < 3; omega, by show 2 < 3; omega, trivial, trivial⟩ ⟨ob_below (by rfl), trivial, ob_below (by rfl), trivial⟩⟩
  · rw [q_3, cond_false] at hb1
    obtain rfl := Option.some.inj hb1
    have hx1 : gRows_K1 a_l (.inl (c_1, v_2)) = some _ := hk1
    unfold gRows_K1 at hx1
    dsimp only at hx1
    repeat' (first | refine p_ rfl rfl rfl rfl rfl ?_ | refine st_nil ?_ | refine x_ rfl rfl rfl rfl rfl rfl rfl rfl ?_ | refine l_ rfl rfl rfl rfl ?_ | refine s_ rfl rfl rfl ?_ | refine t5_ rfl rfl rfl rfl ?_ | refine k_ rfl rfl rfl ?_ | refine k0_ rfl rfl ?_ | refine c_ rfl rfl rfl rfl ?_ | refine pick_t rfl rfl rfl rfl rfl rfl rfl ?_ | refine pick_f rfl rfl rfl rfl rfl rfl rfl ?_ | refine aw_seq ?_ | refine aw_region tab_ok _ rfl ?_ | refine aw_drawn2 tabS_ok _ rfl mixed (by decide +kernel) ?_ | refine aw_condT rfl ?_ | refine aw_condF rfl ?_ | refine aw_block ?_ | refine aw_exit ?_ | refine aw_ret ?_ | refine aw_skip ?_ | rw [List.length_map] | rw [mn_norm] | rw [mx_norm] | refine b_ rfl rfl rfl rfl rfl rfl rfl ?_)
    refine aw_tokBox 2 1 1 rfl rfl ?_
    refine aw_loopM (fun s : (List (List Val)) × Int => match s with | (c_4, v_5) => [(4, .one (.ptr 0 0)), (5, .one (.ptr 2 0)), (20, .one (.c (.lst (a_l.map cVer)))), (21, .one (.c (.int .i64 ((a_l.length : Nat) : Int)))), (22, .one (.c (.int .i64 v_5)))]) (fun s => match s with | (c_4, v_5) => [.box [.emp, .emp], .spare c_1.length 1, .box [.own (c_1.map (fun x => [AC.int .i64 x])) 1, .own (c_4.map (fun x => [AC.lst (x.map cV)])) 3], .spare c_4.length 1]) hx1 (fun _ => Nat.zero_le _)
      (fits_mk ⟨rfl, rfl, rfl, rfl, rfl, trivial⟩ [] rfl ⟨by show 0 < 4; omega, by show 2 < 4; omega, trivial, trivial, trivial, trivial⟩ ⟨ob_below (by rfl), trivial, ob_below (by rfl), trivial, trivial⟩) ?_
    rintro ⟨c_4, v_5⟩ st2 hb2 hk2
    unfold gRows_B2 at hb2
    dsimp only at hb2 ⊢
    rcases Bool.eq_false_or_eq_true (decide (v_5 < ((a_l.length : Nat) : Int))) with q_6 | q_6
    · rw [q_6, cond_true] at hb2
      obtain ⟨x_7, i3, hb2⟩ := bind_some hb2
      obtain ⟨i3z, i3⟩ := getI_some i3
      have i3x := idxI (f := cVer) i3
      obtain ⟨r_8, c4, hb2⟩ := bind_some hb2
      replace c4 := gExt_ok c4
      try simp only [List.map_append, List.map_cons, List.map_nil, List.nil_append, tE_eq, tP_eq] at c4
      obtain ⟨g5, hb2⟩ := grd_some hb2
      replace g5 := of_decide_eq_true g5
      obtain rfl := Option.some.inj hb2
      repeat' (first | refine p_ rfl rfl rfl rfl rfl ?_ | refine st_nil ?_ | refine x_ rfl rfl rfl rfl rfl rfl rfl rfl ?_ | refine l_ rfl rfl rfl rfl ?_ | refine s_ rfl rfl rfl ?_ | refine t5_ rfl rfl rfl rfl ?_ | refine k_ rfl rfl rfl ?_ | refine k0_ rfl rfl ?_ | refine c_ rfl rfl rfl rfl ?_ | refine pick_t rfl rfl rfl rfl rfl rfl rfl ?_ | refine pick_f rfl rfl rfl rfl rfl rfl rfl ?_ | refine aw_seq ?_ | refine aw_region tab_ok _ rfl ?_ | refine aw_drawn2 tabS_ok _ rfl mixed (by decide +kernel) ?_ | refine aw_condT rfl ?_ | refine aw_condF rfl ?_ | refine aw_block ?_ | refine aw_exit ?_ | refine aw_ret ?_ | refine aw_skip ?_ | rw [List.length_map] | rw [mn_norm] | rw [mx_norm] | refine b_ rfl rfl rfl rfl rfl rfl rfl ?_)
      exact ⟨_, rfl, fits_mk ⟨rfl, rfl, rfl, rfl, rfl, trivial⟩ [_] (by simp only [List.length_append, List.length_cons, List.length_nil, Nat.zero_add, List.map_append, List.map_cons, List.map_nil] <;> rfl) ⟨by show 0 < 4; omega, by show 2 < 4; omega, trivial, trivial, trivial, trivial⟩ ⟨ob_below (by rfl), trivial, ob_below (by rfl), trivial, trivial⟩⟩
    · rw [q_6, cond_false] at hb2
      obtain rfl := Option.some.inj hb2
      have hx2 : gRows_K2 c_1 (.inl (c_4, v_5)) = some _ := hk2
      unfold gRows_K2 at hx2
      dsimp only at hx2
      obtain ⟨r_9, c6, hx2⟩ := bind_some hx2
      replace c6 := gSort_ok c6
      try simp only [List.map_append, List.map_cons, List.map_nil, List.nil_append, tE_eq, tP_eq] at c6
      obtain rfl := Option.some.inj hx2
      repeat' (first | refine p_ rfl rfl rfl rfl rfl ?_ | refine st_nil ?_ | refine x_ rfl rfl rfl rfl rfl rfl rfl rfl ?_ | refine l_ rfl rfl rfl rfl ?_ | refine s_ rfl rfl rfl ?_ | refine t5_ rfl rfl rfl rfl ?_ | refine k_ rfl rfl rfl ?_ | refine k0_ rfl rfl ?_ | refine c_ rfl rfl rfl rfl ?_ | refine pick_t rfl rfl rfl rfl rfl rfl rfl ?_ | refine pick_f rfl rfl rfl rfl rfl rfl rfl ?_ | refine aw_seq ?_ | refine aw_region tab_ok _ rfl ?_ | refine aw_drawn2 tabS_ok _ rfl mixed (by decide +kernel) ?_ | refine aw_condT rfl ?_ | refine aw_condF rfl ?_ | refine aw_block ?_ | refine aw_exit ?_ | refine aw_ret ?_ | refine aw_skip ?_ | rw [List.length_map] | rw [mn_norm] | rw [mx_norm] | refine b_ rfl rfl rfl rfl rfl rfl rfl ?_)
      refine end_ret (res_of rfl ?_ ?_)
      · repeat' (first | exact trivial | rfl | exact Nat.le_of_ble_eq_true rfl | omega | apply And.intro)
      · first | rfl | (simp only [List.map_append, List.map_cons, List.map_nil, List.nil_append] <;> rfl)
def gLawRows (a_kinds : (List Int)) (a_l : (List Ver)) : Option (Bool) := bif (decide ((60 : Int) < ((a_kinds.length : Nat) : Int))) then
  some (true)
else
  (gFew a_l).bind fun r_3 => bif (!r_3) then
    some (true)
  else
    (gFit a_l a_kinds).bind fun r_6 => bif (!r_6) then
      some (true)
    else
      (gRows a_kinds a_l).bind fun r_9 => (gRowsR a_kinds a_l).bind fun r_10 => (gExactly r_9 r_10).bind fun r_11 => bif r_11 then
        some (true)
      else
        some false
theorem gLawRows_ok {a_kinds : (List Int)} {a_l : (List Ver)} {r : Bool} (H : gLawRows a_kinds a_l = some r) : Pure Tryz.prog 4 [.one (.lst (a_kinds.map (fun x => [AC.int .i64 x]))), .one (.lst (a_l.map cVer))] (.val (.one (.bool r))) := by
  unfold gLawRows at H
  refine pure_of_aw tab_ok Tryz.func4 rfl rfl Tryz.ntmps4 (by simp) ?_
  simp only [argT, PV.av, List.map_cons, List.map_nil]
  rcases Bool.eq_false_or_eq_true (decide ((60 : Int) < ((a_kinds.length : Nat) : Int))) with q_1 | q_1
  · rw [q_1, cond_true] at H
    have hc_2 := awake_pure
    try simp only [List.map_append, List.map_cons, List.map_nil, List.nil_append, tE_eq, tP_eq] at hc_2
    obtain rfl := Option.some.inj H
    exact go_
  · rw [q_1, cond_false] at H
    obtain ⟨r_3, c1, H⟩ := bind_some H
    replace c1 := gFew_ok c1
    try simp only [List.map_append, List.map_cons, List.map_nil, List.nil_append, tE_eq, tP_eq] at c1
    rcases Bool.eq_false_or_eq_true (!r_3) with q_4 | q_4
    · rw [q_4, cond_true] at H
      have hc_5 := awake_pure
      try simp only [List.map_append, List.map_cons, List.map_nil, List.nil_append, tE_eq, tP_eq] at hc_5
      obtain rfl := Option.some.inj H
      exact go_
    · rw [q_4, cond_false] at H
      obtain ⟨r_6, c2, H⟩ := bind_some H
      replace c2 := gFit_ok c2
      try simp only [List.map_append, List.map_cons, List.map_nil, List.nil_append, tE_eq, tP_eq] at c2
      rcases Bool.eq_false_or_eq_true (!r_6) with q_7 | q_7
      · rw [q_7, cond_true] at H
        have hc_8 := awake_pure
        try simp only [List.map_append, List.map_cons, List.map_nil, List.nil_append, tE_eq, tP_eq] at hc_8
        obtain rfl := Option.some.inj H
        exact go_
      · rw [q_7, cond_false] at H
        obtain ⟨r_9, c3, H⟩ := bind_some H
        replace c3 := gRows_ok c3
        try simp only [List.map_append, List.map_cons, List.map_nil, List.nil_append, tE_eq, tP_eq] at c3
        obtain ⟨r_10, c4, H⟩ := bind_some H
        replace c4 := gRowsR_ok c4
        try simp only [List.map_append, List.map_cons, List.map_nil, List.nil_append, tE_eq, tP_eq] at c4
        obtain ⟨r_11, c5, H⟩ := bind_some H
        replace c5 := gExactly_ok c5
        try simp only [List.map_append, List.map_cons, List.map_nil, List.nil_append, tE_eq, tP_eq] at c5
        rcases Bool.eq_false_or_eq_true r_11 with q_12 | q_12
        · rw [q_12, cond_true] at H
          have hc_13 := awake_pure
          try simp only [List.map_append, List.map_cons, List.map_nil, List.nil_append, tE_eq, tP_eq] at hc_13
          obtain rfl := Option.some.inj H
          exact go_
        · rw [q_12, cond_false] at H
          obtain rfl := Option.some.inj H
          exact go_
end Go.Proofs.YtnbnpnmkgemdeaaGreatDoor

namespace Go.Proofs.YtnbnpnmkgemdeaaGreatDoor
open Go.RowKit Go.MapKept
set_option maxRecDepth 100000
set_option linter.unusedVariables false
set_option linter.unusedSimpArgs false
theorem gIntP_eq (n : Int) : gIntP n = some (intV n) := by
  unfold gIntP gOrNull gValidP gNull intV
  have e : (ByteArray.empty.toList == (⟨#[]⟩ : ByteArray).toList) = true := by rw [ByteArray.toList_eq, ByteArray.toList_eq]; rfl
  dsimp only
  rw [e, show decide ((1 : Int) = 0) = false from rfl, show decide ((1 : Int) = 1) = true from rfl]
  by_cases h1 : -1125899906842624 ≤ n
  · by_cases h2 : n ≤ 1125899906842624
    · simp [h1, h2]
    · simp [h1, h2]
  · simp [h1]
theorem gExt_eq (row : List Val) (l : List Int) (h : row.length ≤ 1000000) (hl : l.length ≤ 1000000) : gExt row l = some (row ++ l.map intV) := by
  unfold gExt
  rw [show decide (row.length ≤ 4398046511104) = true from decide_eq_true (by omega), cond_true]
  rw [loop_list (l := l) (mk := fun out i => (out, i)) (f := push intV 4398046511104) ?_ ?_ (by unfold fuel; omega) row]
  · rw [fold_push _ _ _ _ (by omega)]; rfl
  · intro s i x hx
    have hi : i < l.length := (List.getElem?_eq_some_iff.1 hx).1
    unfold gExt_B1 push
    dsimp only
    rw [lt_dec hx, cond_true, getI_nat hx]
    simp only [Option.bind_some]
    rw [gIntP_eq, wrapN (by omega)]
    simp only [Option.bind_some]
    cases decide (s.length + 1 ≤ 4398046511104) <;> rfl
  · intro s
    unfold gExt_B1
    dsimp only
    rw [lt_decF, cond_false]
theorem gRows_eq (kinds : List Int) (l : List Ver) (hk : kinds.length ≤ 1000000) (hl : l.length ≤ 19) (hr : ∀ v ∈ l, v.row.length ≤ 60) : gRows kinds l = some ⟨kinds ++ [1, 1, 1, 1, 1], sortV (l.map extV)⟩ := by
  unfold gRows
  rw [show decide (kinds.length ≤ 17592186044416) = true from decide_eq_true (by omega), cond_true]
  rw [loop_list (l := [(), (), (), (), ()]) (mk := fun out i => (out, i)) (f := push (fun _ => (1 : Int)) 17592186044416) ?_ ?_ (by unfold fuel; simp) kinds]
  · rw [fold_push _ _ _ _ (by simp; omega)]
    show gRows_K1 l (.inl (kinds ++ [1, 1, 1, 1, 1], ((5 : Nat) : Int))) = _
    unfold gRows_K1
    dsimp only
    rw [loop_list (l := l) (mk := fun out i => (out, i)) (f := fun s v => (gExt v.row [v.valid.lo, v.valid.hi, v.system.lo, v.system.hi, v.by_]).bind fun r => bif decide (s.length + 1 ≤ 5864062014805) then some (.inl (s ++ [r])) else none) ?_ ?_ (by unfold fuel; omega) []]
    · have : ∀ (l : List Ver) (s : List (List Val)), s.length + l.length ≤ 1000 → (∀ v ∈ l, v.row.length ≤ 60) → foldS (ρ := Bag) (fun s v => (gExt v.row [v.valid.lo, v.valid.hi, v.system.lo, v.system.hi, v.by_]).bind fun r => bif decide (s.length + 1 ≤ 5864062014805) then some (.inl (s ++ [r])) else none) s l = some (.inl (s ++ l.map extV)) := by
        intro l
        induction l with
        | nil => intro s _ _; simp [foldS]
        | cons x l ih =>
          intro s h hr
          have h' : s.length + (l.length + 1) ≤ 1000 := by simpa using h
          have hx := hr x (List.mem_cons_self ..)
          rw [foldS, gExt_eq x.row _ (by omega) (by simp)]
          simp only [Option.bind_some]
          rw [show decide (s.length + 1 ≤ 5864062014805) = true from decide_eq_true (by omega), cond_true]
          have := ih (s ++ [extV x]) (by simp; omega) fun v hv => hr v (List.mem_cons_of_mem _ hv)
          simpa [extV] using this
      rw [this l [] (by simp; omega) hr]
      show gRows_K2 (kinds ++ [1, 1, 1, 1, 1]) (.inl ([] ++ l.map extV, ((l.length : Nat) : Int))) = _
      unfold gRows_K2
      dsimp only
      have hs : sortable (l.map extV) = true := by
        unfold sortable
        rw [Bool.and_eq_true, List.all_eq_true]
        refine ⟨decide_eq_true (by simp; omega), fun r hr' => ?_⟩
        obtain ⟨v, hv, rfl⟩ := List.mem_map.1 hr'
        have := hr v hv
        unfold extV
        rw [Bool.and_eq_true]
        exact ⟨by simp, decide_eq_true (by simp; omega)⟩
      rw [List.nil_append]
      unfold gSort
      rw [hs]
      rfl
    · intro s i x hx
      have hi : i < l.length := (List.getElem?_eq_some_iff.1 hx).1
      unfold gRows_B2
      dsimp only
      rw [lt_dec hx, cond_true, getI_nat hx]
      simp only [Option.bind_some]
      rw [wrapN (by omega)]
      cases gExt x.row [x.valid.lo, x.valid.hi, x.system.lo, x.system.hi, x.by_] with
      | none => rfl
      | some r => simp only [Option.bind_some]; cases decide (s.length + 1 ≤ 5864062014805) <;> rfl
    · intro s
      unfold gRows_B2
      dsimp only
      rw [lt_decF, cond_false]
  · intro s i x hx
    have hi : i < 5 := (List.getElem?_eq_some_iff.1 hx).1
    unfold gRows_B1 push
    dsimp only
    rw [show decide ((i : Int) < 5) = true from decide_eq_true (by omega), cond_true, wrapN (by omega)]
    cases decide (s.length + 1 ≤ 17592186044416) <;> rfl
  · intro s
    rfl
theorem gLawRows_true {kinds : List Int} {l : List Ver} (hl : LOk 88 okVer l) : gLawRows kinds l = some true := by
  have hlen : l.length ≤ 3000000000000 := by
    have := hl.1
    unfold reachBytes at this
    omega
  unfold gLawRows
  by_cases h60 : (60 : Int) < ((kinds.length : Nat) : Int)
  · rw [show decide ((60 : Int) < ((kinds.length : Nat) : Int)) = true from decide_eq_true h60]; rfl
  rw [show decide ((60 : Int) < ((kinds.length : Nat) : Int)) = false from decide_eq_false h60, cond_false]
  rw [gFew_eq l hlen]
  simp only [Option.bind_some]
  cases hf : fewF (l.map factOf) 16 with
  | false => rfl
  | true =>
    obtain ⟨h16, hr⟩ := few_of hf
    simp only [Bool.not_true, cond_false]
    obtain ⟨b, hb⟩ := gFit_ex l kinds (by omega) (by omega) fun v hv => by have := hr v hv; omega
    rw [hb]
    simp only [Option.bind_some]
    cases b with
    | false => rfl
    | true =>
      simp only [Bool.not_true, cond_false]
      rw [gRows_eq kinds l (by omega) (by omega) hr, gRowsR_eq kinds l (by omega) (by omega) hr]
      simp only [Option.bind_some]
      rw [gExactly_refl _ (by simp; omega) (by show (sortV (l.map extV)).length ≤ _; rw [(sortV_perm _).length_eq]; simp; omega) (by
        intro r hr'
        have hr2 : r ∈ sortV (l.map extV) := hr'
        obtain ⟨v, hv, rfl⟩ := List.mem_map.1 ((sortV_perm _).mem_iff.1 hr2)
        have := hr v hv
        unfold extV
        simp; omega)]
      rfl
theorem nonseqRows_pure {kinds : List Int} {l : List Ver} (_ : LOk 8 IOk kinds) (hl : LOk 88 okVer l) : Pure Tryz.prog 4 [.one (.lst (kinds.map (fun x => [AC.int .i64 x]))), .one (.lst (l.map cVer))] (.val (.one (.bool true))) := gLawRows_ok (gLawRows_true hl)
end Go.Proofs.YtnbnpnmkgemdeaaGreatDoor
