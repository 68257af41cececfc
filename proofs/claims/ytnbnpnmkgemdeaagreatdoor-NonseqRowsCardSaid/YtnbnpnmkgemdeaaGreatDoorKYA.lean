/- Parts of the proof, joined. No condition. -/
import Derived.Test.YtnbnpnmkgemdeaaGreatDoorKAF
import Derived.Test.YtnbnpnmkgemdeaaGreatDoorKAE
import Derived.LoopN
import Derived.Test.YtnbnpnmkgemdeaaGreatDoorKAI
import Derived.Test.YtnbnpnmkgemdeaaGreatDoorKAL
import Derived.Test.YtnbnpnmkgemdeaaGreatDoorKAK
import Derived.Test.YtnbnpnmkgemdeaaGreatDoorKBM
import Derived.Test.YtnbnpnmkgemdeaaGreatDoorKAP
import Derived.Test.YtnbnpnmkgemdeaaGreatDoorKBK
set_option linter.unusedSimpArgs false
set_option linter.unusedVariables false
namespace Go.Proofs.YtnbnpnmkgemdeaaGreatDoor
open Go.RowKit

section
variable {P : Program} {ti : TI} {N n0 : Nat} {Q : AX → Tm → List Ob → Prop} {T : Tm} {L : List Ob}

theorem aw_tokBox {c : Code} (id j k : Nat) {cs : List SV} (hid : L[id]? = some (.box cs)) (hj : cs[j]? = some .emp) (h : Aw P N n0 c Q T (L.set id (.box (cs.set j (.own [] L.length))) ++ [.spare 0 k])) : Aw P N n0 c Q T L := by
  intro hn B R γ w a hi hT
  have hlt := (List.getElem?_eq_some_iff.1 hid).1
  have hm : Mv R R γ (γ ++ [.none]) L (L.set id (.box (cs.set j (.own [] L.length))) ++ [.spare 0 k]) := by
    refine ⟨PH.sub_refl _, by simp, fun t n k' hlt' e => ⟨n, ?_, Nat.le_refl _, fun _ => ?_⟩, fun t ver es0 k' hlt' e => ⟨ver, es0, ?_, Nat.le_refl _, fun _ => ⟨rfl, ?_⟩⟩, fun i b e => ?_⟩
    · rw [List.getElem?_append_left (by simpa using hlt')] at e
      have hne : t ≠ id := by rintro rfl; rw [List.getElem?_set_self hlt'] at e; cases e
      rw [List.getElem?_set_ne (Ne.symm hne)] at e; exact e
    · rw [List.getElem?_append_left (by rw [hi.len]; exact hlt')]
    · rw [List.getElem?_append_left (by simpa using hlt')] at e
      have hne : t ≠ id := by rintro rfl; rw [List.getElem?_set_self hlt'] at e; cases e
      rw [List.getElem?_set_ne (Ne.symm hne)] at e; exact e
    · rw [List.getElem?_append_left (by rw [hi.len]; exact hlt')]
    · rw [List.getElem?_append_left (List.getElem?_eq_some_iff.1 e).1]; exact e
  refine wp_mono (h (by simp; omega) B R (γ ++ [.none]) w a ?_ (hT.mv hm)) fun _ _ _ hh => hh.ext (Ext.refl _ _ _) hi.len (MvN.of hn hm)
  have gcase : ∀ j h, (γ ++ [Gh.none])[j]? = some h → (j = γ.length ∧ h = .none) ∨ (j < γ.length ∧ γ[j]? = some h) := by
    intro j h hh
    by_cases hid : j < γ.length
    · rw [List.getElem?_append_left hid] at hh; exact .inr ⟨hid, hh⟩
    · have : j = γ.length := by have := (List.getElem?_eq_some_iff.1 hh).1; simp at this; omega
      subst this
      rw [List.getElem?_append_right (by omega)] at hh
      simp at hh
      exact .inl ⟨rfl, hh.symm⟩
  have it := hi.tok k
  refine ⟨by simp [hi.len], hi.val, fun i y g hy hg => ?_, it.inj, it.new, hi.bsz⟩
  rcases gcase i g hg with ⟨rfl, rfl⟩ | ⟨hl2, hg'⟩
  · rw [List.getElem?_append_right (by simp [hi.len])] at hy
    simp [hi.len] at hy; subst hy; rfl
  · rw [List.getElem?_append_left (by simp; rw [← hi.len]; exact hl2)] at hy
    by_cases hii : i = id
    · subst hii
      rw [List.getElem?_set_self hlt] at hy
      injection hy with hy; subst hy
      have hob := hi.obj i _ _ hid hg'
      match g, hob with
      | .box b, ⟨⟨vs, E, h1, h2, h3⟩, h4⟩ =>
        refine ⟨⟨vs, E, h1, by simp [h2], fun q u x hu hx => ?_⟩, h4⟩
        by_cases hq : q = j
        · subst hq
          rw [List.getElem?_set_self (List.getElem?_eq_some_iff.1 hj).1] at hx
          injection hx with hx; subst hx
          obtain ⟨ad, rfl⟩ := h3 q u _ hu hj
          exact ⟨prep_nil _ _ _, by simp, fun n2 k2 _ => ⟨by simp, by simp, fun _ => ⟨.none, by rw [← hi.len]; simp, ad, by simp⟩⟩⟩
        · rw [List.getElem?_set_ne (Ne.symm hq)] at hx
          exact SV.mv hm (h3 q u x hu hx)
    · rw [List.getElem?_set_ne (Ne.symm hii)] at hy
      exact (hi.obj i y g hy hg').mv hm (fun _ _ => rfl) (fun _ _ _ h => h)

end
end Go.Proofs.YtnbnpnmkgemdeaaGreatDoor
namespace Go.Proofs.YtnbnpnmkgemdeaaGreatDoor
open Go.RowKit
section
variable {P : Program} {ti : TI} {N n0 : Nat} {L : List Ob} {T : Tm} {Q : AX → Tm → List Ob → Prop}
theorem aw_freeze1 {c : Code} (id t : Nat) {ver k n : Nat} {es : List (List SV)} {cs : List (List AC)} (hL : L[id]? = some (.row ver es k)) (hn : normR es = some cs) (ht : T.lookup t = some (.one (.sl id ver 0 n))) (hlen : cs.length = n) (h : Aw P N n0 c Q ((t, .one (.c (.lst cs))) :: T) (L.set id .dead)) : Aw P N n0 c Q T L := by
  intro hn0 B R γ w a hi hT
  obtain ⟨R', γ', hI, hE, hM, hS⟩ := freeze_main hi hL hn
  refine wp_mono (h (by simpa using hn0) B R' γ' w a hI ?_) fun _ _ _ hh => hh.ext hE hi.len (MvN.of hn0 hM)
  refine ⟨hT.size, hT.defers, fun t' x hx => ?_⟩
  rw [List.lookup_cons] at hx
  by_cases e : t' = t
  · subst e
    simp at hx; subst hx
    obtain ⟨u, h1, h2⟩ := hT.slot t' _ ht
    refine ⟨u, h1, ?_⟩
    have := hS 0 n u h2
    rw [List.drop_zero, ← hlen, List.take_length] at this
    exact this
  · have : (t' == t) = false := by simpa using e
    rw [this] at hx
    obtain ⟨u, h1, h2⟩ := hT.slot t' x hx
    exact ⟨u, h1, AV.mv hM h2⟩
end
end Go.Proofs.YtnbnpnmkgemdeaaGreatDoor
namespace Go.Proofs.YtnbnpnmkgemdeaaGreatDoor
open Go.RowKit Go.MapKept
set_option linter.unusedVariables false
structure Bag where
  kinds : (List Int)
  rows : (List (List Val))
def cBag (x : Bag) : List AC := [.lst (x.kinds.map (fun x => [AC.int .i64 x])), .lst (x.rows.map (fun x => [AC.lst (x.map cV)]))]
end Go.Proofs.YtnbnpnmkgemdeaaGreatDoor
namespace Go.Proofs.YtnbnpnmkgemdeaaGreatDoor
open Go.RowKit Go.MapKept
set_option maxRecDepth 100000
set_option linter.unusedVariables false
set_option linter.unusedSimpArgs false
theorem fold_push {α β ρ : Type} (g : α → β) (N : Nat) : ∀ (l : List α) (s : List β), s.length + l.length ≤ N → foldS (ρ := ρ) (push g N) s l = some (.inl (s ++ l.map g))
  | [], s, _ => by simp [foldS]
  | x :: l, s, h => by
    have h' : s.length + (l.length + 1) ≤ N := by simpa using h
    have e : push (ρ := ρ) g N s x = some (.inl (s ++ [g x])) := by unfold push; rw [show decide (s.length + 1 ≤ N) = true from decide_eq_true (by omega)]; rfl
    rw [foldS, e]
    have := fold_push (ρ := ρ) g N l (s ++ [g x]) (by simp; omega)
    simpa using this
theorem fold_ex {α σ ρ : Type} {f : σ → α → Option (Sum σ ρ)} : ∀ (l : List α) (s : σ), (∀ s x, x ∈ l → ∃ r, f s x = some r) → ∃ r, foldS f s l = some r
  | [], s, _ => ⟨_, rfl⟩
  | x :: l, s, h => by
    obtain ⟨r, hr⟩ := h s x (List.mem_cons_self ..)
    rw [foldS, hr]
    cases r with
    | inl s' => exact fold_ex l s' fun s y hy => h s y (List.mem_cons_of_mem _ hy)
    | inr r => exact ⟨_, rfl⟩
end Go.Proofs.YtnbnpnmkgemdeaaGreatDoor
namespace Go.Proofs.YtnbnpnmkgemdeaaGreatDoor
open Go.RowKit Go.MapKept
set_option maxRecDepth 100000
def posF (c : AC → AC → Int) (A : List AC) (x : AC) : Nat → Nat
  | 0 => 0
  | j + 1 => match A[j]? with
    | some y => if c x y < 0 then posF c A x j else j + 1
    | none => j + 1
def insR (c : AC → AC → Int) (A : List AC) (x : AC) : List AC := A.take (posF c A x A.length) ++ x :: A.drop (posF c A x A.length)
def isort (c : AC → AC → Int) (l : List AC) : List AC := l.foldl (insR c) []
def Wx (A : List AC) (x : AC) (j : Nat) (rest : List AC) : List AC := A.take j ++ x :: (A.drop j ++ rest)
theorem insR_len (c : AC → AC → Int) (A : List AC) (x : AC) : (insR c A x).length = A.length + 1 := by
  unfold insR; rw [List.length_append, List.length_cons, List.length_take, List.length_drop]; omega
theorem isort_len (c : AC → AC → Int) (l : List AC) : (isort c l).length = l.length := by
  have : ∀ (l A : List AC), (l.foldl (insR c) A).length = A.length + l.length := by
    intro l
    induction l with
    | nil => intro A; simp
    | cons x l ih => intro A; rw [List.foldl_cons, ih, insR_len, List.length_cons]; omega
  have := this l []
  simpa [isort] using this
theorem insR_mem {c : AC → AC → Int} {A : List AC} {x y : AC} (h : y ∈ insR c A x) : y = x ∨ y ∈ A := by
  unfold insR at h
  rcases List.mem_append.1 h with h | h
  · exact .inr (List.mem_of_mem_take h)
  · rcases List.mem_cons.1 h with h | h
    · exact .inl h
    · exact .inr (List.mem_of_mem_drop h)
theorem isort_mem {c : AC → AC → Int} {l : List AC} {y : AC} (h : y ∈ isort c l) : y ∈ l := by
  have : ∀ (l A : List AC), y ∈ l.foldl (insR c) A → y ∈ A ∨ y ∈ l := by
    intro l
    induction l with
    | nil => intro A h; exact .inl h
    | cons x l ih =>
      intro A h
      rw [List.foldl_cons] at h
      rcases ih _ h with h | h
      · rcases insR_mem h with h | h
        · exact .inr (by rw [h]; simp)
        · exact .inl h
      · exact .inr (List.mem_cons_of_mem _ h)
  rcases this l [] h with h | h
  · cases h
  · exact h
theorem isort_snoc (c : AC → AC → Int) (l : List AC) (x : AC) : isort c (l ++ [x]) = insR c (isort c l) x := by unfold isort; rw [List.foldl_append]; rfl
theorem Wx_get {A rest : List AC} {x : AC} {j : Nat} (h : j ≤ A.length) : (Wx A x j rest)[j]? = some x := by
  unfold Wx
  rw [List.getElem?_append_right (by rw [List.length_take]; omega)]
  have : j - (A.take j).length = 0 := by rw [List.length_take]; omega
  rw [this]; rfl
theorem Wx_split {A rest : List AC} {x y : AC} {j : Nat} (hy : A[j]? = some y) : Wx A x (j + 1) rest = A.take j ++ y :: x :: (A.drop (j + 1) ++ rest) ∧ Wx A x j rest = A.take j ++ x :: y :: (A.drop (j + 1) ++ rest) := by
  obtain ⟨h, e⟩ := List.getElem?_eq_some_iff.1 hy
  refine ⟨?_, ?_⟩
  · unfold Wx; rw [take_succ hy]; simp
  · unfold Wx; rw [List.drop_eq_getElem_cons h, e]; rfl
theorem Wx_get1 {A rest : List AC} {x y : AC} {j : Nat} (hy : A[j]? = some y) : (Wx A x (j + 1) rest)[j]? = some y := by
  have h := (List.getElem?_eq_some_iff.1 hy).1
  rw [(Wx_split hy).1, List.getElem?_append_right (by rw [List.length_take]; omega)]
  have : j - (A.take j).length = 0 := by rw [List.length_take]; omega
  rw [this]; rfl
theorem Wx_swap {A rest : List AC} {x y : AC} {j : Nat} (hy : A[j]? = some y) : ((Wx A x (j + 1) rest).map gC |>.set (j + 1) (gC y)).set j (gC x) = (Wx A x j rest).map gC := by
  have h := (List.getElem?_eq_some_iff.1 hy).1
  rw [(Wx_split hy).1, (Wx_split hy).2]
  have hl : ((A.take j).map gC).length = j := by rw [List.length_map, List.length_take]; omega
  simp only [List.map_append, List.map_cons]
  generalize (A.take j).map gC = P0 at hl
  subst hl
  rw [List.set_append_right _ _ (by omega), List.set_append_right _ _ (by omega)]
  simp
theorem insR_W (c : AC → AC → Int) (A : List AC) (x : AC) (rest : List AC) : insR c A x ++ rest = Wx A x (posF c A x A.length) rest := by unfold insR Wx; simp
theorem rowC_below (n v k : Nat) (l : List AC) : (Ob.row v (l.map gC) k).below n := by
  intro e he x hx
  obtain ⟨y, _, rfl⟩ := List.mem_map.1 he
  rcases List.mem_cons.1 hx with rfl | hx
  · trivial
  · cases hx
set_option maxHeartbeats 2000000 in
theorem isort_run (F : FuncId) (c : AC → AC → Int) (v : Nat) (xs : List AC) (n : Nat) (hn : xs.length = n) (hn2 : n ≤ 100000) (hcmp : ∀ x y, x ∈ xs → y ∈ xs → Pure Tryz.prog F [.one x, .one y] (vInt (c x y))) : Run Tryz.prog 201 [.row v (xs.map gC) 1] [.one (.sl 0 v 0 n), .one (.c (.int .i64 0)), .one (.c (.int .i64 n)), .one (.c (.fn F []))] [.row v ((isort c xs).map gC) 1] (.tup []) := by
  refine run_of_aw tab_ok Tryz.func201 rfl rfl Tryz.ntmps201 (by simp) ?_
  simp only [argA]
  repeat' (first
    | refine st_nil ?_
    | (refine st_pop rfl rfl rfl rfl ?_ ?_; · (repeat' (first | exact trivial | rfl | exact Nat.le_of_ble_eq_true rfl | omega | apply And.intro)))
    | (refine st_lop rfl rfl rfl rfl ?_ ?_; · (repeat' (first | exact trivial | rfl | exact Nat.le_of_ble_eq_true rfl | omega | apply And.intro)))
    | (refine st_store rfl rfl rfl ?_ ?_; · (repeat' (first | exact trivial | rfl | exact Nat.le_of_ble_eq_true rfl | omega | apply And.intro)))
    | (refine st_lit rfl rfl rfl rfl ?_ ?_; · (repeat' (first | exact trivial | rfl | exact Nat.le_of_ble_eq_true rfl | omega | apply And.intro)))
    | refine st_skip rfl rfl rfl ?_
    | refine st_skip0 rfl rfl ?_
    | (refine st_if rfl (fun hb => ?_) (fun hb => ?_) <;> (first | (exfalso; revert hb; decide) | (exfalso; simp at hb; done) | (exfalso; simp at hb; omega) | rw [hb]))
    | refine aw_seq ?_
    | refine aw_region tab_ok _ rfl ?_
    | refine aw_drawn2 tabS_ok _ rfl mixed (by decide +kernel) ?_
    | (refine aw_cond rfl (fun hb => ?_) (fun hb => ?_) <;> (try (first | (exfalso; revert hb; decide) | (exfalso; simp at hb; done) | (exfalso; simp at hb; omega))))
    | refine aw_block ?_
    | refine aw_exit ?_
    | refine aw_ret ?_
    | refine aw_skip ?_)
  refine aw_loop (fun i : Nat => [(0, .one (.sl 0 v 0 n)), (1, .one (.c (.int .i64 0))), (2, .one (.c (.int .i64 n))), (3, .one (.c (.fn F []))), (8, .one (.c (.int .i64 i)))]) (fun i => [.row v ((isort c (xs.take i) ++ xs.drop i).map gC) 1]) (fun i => 1 ≤ i ∧ (i ≤ n ∨ i = 1)) (fun i => n - i) 1 ⟨by omega, .inr rfl⟩ (fun _ _ => Nat.le_refl _)
    (fits_mk ⟨rfl, rfl, rfl, rfl, rfl, trivial⟩ [] ?_ ⟨(by show 0 < 1; omega), trivial, trivial, trivial, trivial, trivial⟩ ⟨rowC_below _ _ _ _, trivial⟩) ?_
  · match xs with
    | [] => rfl
    | x :: xs => rfl
  rintro i ⟨hi1, hi⟩
  by_cases hlt : i < n
  · obtain ⟨x, hx⟩ := get_of_lt (show i < xs.length by omega)
    have hAl : (isort c (xs.take i)).length = i := by rw [isort_len, List.length_take]; omega
    have hAm : ∀ y ∈ isort c (xs.take i), y ∈ xs := fun y hy => List.mem_of_mem_take (isort_mem hy)
    have hxm : x ∈ xs := List.mem_of_getElem? hx
    have hnext : isort c (xs.take (i + 1)) = insR c (isort c (xs.take i)) x := by rw [take_succ hx, isort_snoc]
    have hdrop : xs.drop i = x :: xs.drop (i + 1) := by obtain ⟨h, e⟩ := List.getElem?_eq_some_iff.1 hx; rw [List.drop_eq_getElem_cons h, e]
    have hstart : isort c (xs.take i) ++ xs.drop i = Wx (isort c (xs.take i)) x i (xs.drop (i + 1)) := by
      have h1 : (isort c (xs.take i)).take i = isort c (xs.take i) := List.take_of_length_le (by omega)
      have h2 : (isort c (xs.take i)).drop i = [] := List.drop_of_length_le (by omega)
      unfold Wx; rw [h1, h2, hdrop]; rfl
    have hrl : (xs.drop (i + 1)).length = n - (i + 1) := by rw [List.length_drop, hn]
    rw [hstart]
    generalize isort c (xs.take i) = A at hAl hAm hnext
    generalize hrest : xs.drop (i + 1) = rest at hrl
    repeat' (first
      | refine st_nil ?_
      | (refine st_pop rfl rfl rfl rfl ?_ ?_; · (repeat' (first | exact trivial | rfl | exact Nat.le_of_ble_eq_true rfl | omega | apply And.intro)))
      | (refine st_lop rfl rfl rfl rfl ?_ ?_; · (repeat' (first | exact trivial | rfl | exact Nat.le_of_ble_eq_true rfl | omega | apply And.intro)))
      | (refine st_store rfl rfl rfl ?_ ?_; · (repeat' (first | exact trivial | rfl | exact Nat.le_of_ble_eq_true rfl | omega | apply And.intro)))
      | (refine st_lit rfl rfl rfl rfl ?_ ?_; · (repeat' (first | exact trivial | rfl | exact Nat.le_of_ble_eq_true rfl | omega | apply And.intro)))
      | refine st_skip rfl rfl rfl ?_
      | refine st_skip0 rfl rfl ?_
      | (refine st_if rfl (fun hb => ?_) (fun hb => ?_) <;> (first | (exfalso; revert hb; decide) | (exfalso; simp at hb; done) | (exfalso; simp at hb; omega) | rw [hb]))
      | refine aw_seq ?_
      | refine aw_region tab_ok _ rfl ?_
      | refine aw_drawn2 tabS_ok _ rfl mixed (by decide +kernel) ?_
      | (refine aw_cond rfl (fun hb => ?_) (fun hb => ?_) <;> (try (first | (exfalso; revert hb; decide) | (exfalso; simp at hb; done) | (exfalso; simp at hb; omega))))
      | refine aw_block ?_
      | refine aw_exit ?_
      | refine aw_ret ?_
      | refine aw_skip ?_)
    refine aw_loop (fun j : Nat => [(0, .one (.sl 0 v 0 n)), (1, .one (.c (.int .i64 0))), (2, .one (.c (.int .i64 n))), (3, .one (.c (.fn F []))), (8, .one (.c (.int .i64 i))), (9, .one (.c (.int .i64 j)))]) (fun j => [.row v ((Wx A x j rest).map gC) 1]) (fun j => j ≤ i ∧ posF c A x i = posF c A x j) (fun j => j) i ⟨by omega, rfl⟩ (fun _ _ => Nat.le_refl _)
      (fits_mk ⟨rfl, rfl, rfl, rfl, rfl, rfl, trivial⟩ [] rfl ⟨(by show 0 < 1; omega), trivial, trivial, trivial, trivial, trivial, trivial⟩ ⟨rowC_below _ _ _ _, trivial⟩) ?_
    rintro j ⟨hj, hpos⟩
    match j, hj, hpos with
    | 0, hj, hpos =>
      repeat' (first
        | refine st_nil ?_
        | (refine st_pop rfl rfl rfl rfl ?_ ?_; · (repeat' (first | exact trivial | rfl | exact Nat.le_of_ble_eq_true rfl | omega | apply And.intro)))
        | (refine st_lop rfl rfl rfl rfl ?_ ?_; · (repeat' (first | exact trivial | rfl | exact Nat.le_of_ble_eq_true rfl | omega | apply And.intro)))
        | (refine st_store rfl rfl rfl ?_ ?_; · (repeat' (first | exact trivial | rfl | exact Nat.le_of_ble_eq_true rfl | omega | apply And.intro)))
        | (refine st_lit rfl rfl rfl rfl ?_ ?_; · (repeat' (first | exact trivial | rfl | exact Nat.le_of_ble_eq_true rfl | omega | apply And.intro)))
        | refine st_skip rfl rfl rfl ?_
        | refine st_skip0 rfl rfl ?_
        | (refine st_if rfl (fun hb => ?_) (fun hb => ?_) <;> (first | (exfalso; revert hb; decide) | (exfalso; simp at hb; done) | (exfalso; simp at hb; omega) | rw [hb]))
        | refine aw_seq ?_
        | refine aw_region tab_ok _ rfl ?_
        | refine aw_drawn2 tabS_ok _ rfl mixed (by decide +kernel) ?_
        | (refine aw_cond rfl (fun hb => ?_) (fun hb => ?_) <;> (try (first | (exfalso; revert hb; decide) | (exfalso; simp at hb; done) | (exfalso; simp at hb; omega))))
        | refine aw_block ?_
        | refine aw_exit ?_
        | refine aw_ret ?_
        | refine aw_skip ?_)
      all_goals exact ⟨i + 1, ⟨by omega, .inl (by omega)⟩, by omega, fits_mk ⟨rfl, rfl, rfl, rfl, slot_int (wrap_eq (by omega) (by omega)), trivial⟩ [] (by rw [hnext, hrest, insR_W, hAl, hpos]; rfl) ⟨(by show 0 < 1; omega), trivial, trivial, trivial, trivial, trivial⟩ ⟨rowC_below _ _ _ _, trivial⟩⟩

    | j + 1, hj, hpos =>
      obtain ⟨y, hy⟩ := get_of_lt (show j < A.length by omega)
      have hw : IntKind.i64.wrap (((j + 1 : Nat) : Int) - 1) = ((j : Nat) : Int) := wrap_eq (by omega) (by omega)
      have hg1 : ((Wx A x (j + 1) rest).map gC)[j + 1]? = some [.c x] := by rw [List.getElem?_map, Wx_get (by omega)]; rfl
      have hg2 : ((Wx A x (j + 1) rest).map gC)[j]? = some [.c y] := by rw [List.getElem?_map, Wx_get1 hy]; rfl
      have hpj : posF c A x (j + 1) = if c x y < 0 then posF c A x j else j + 1 := by simp only [posF, hy]
      have e1 : 0 + ((j + 1 : Nat) : Int).toNat = j + 1 := by simp
      have e2 : 0 + ((j : Nat) : Int).toNat = j := by simp
      repeat' (first
        | refine st_nil ?_
        | (refine st_ldr rfl rfl rfl rfl rfl rfl rfl (e := [.c x]) (by simpa using hg1) rfl ?_)
        | (refine st_ldr rfl rfl rfl rfl rfl rfl rfl (e := [.c y]) (by rw [hw]; simpa using hg2) rfl ?_)
        | (refine st_str rfl rfl rfl rfl rfl rfl (e := [.c x]) (by simpa using hg1) ⟨Nat.le_refl _, rfl⟩ rfl ?_)
        | (refine st_str rfl rfl rfl rfl rfl rfl (e := [.c y]) (by rw [hw, e1, e2, List.getElem?_set_ne (by omega)]; exact hg2) ⟨Nat.le_refl _, rfl⟩ rfl ?_)
        | (refine st_pop rfl rfl rfl rfl ?_ ?_; · (repeat' (first | exact trivial | rfl | exact Nat.le_of_ble_eq_true rfl | omega | (rw [hw]; omega) | apply And.intro)))
        | (refine st_lop rfl rfl rfl rfl ?_ ?_; · (repeat' (first | exact trivial | rfl | exact Nat.le_of_ble_eq_true rfl | omega | (rw [hw]; omega) | apply And.intro)))
        | (refine st_store rfl rfl rfl ?_ ?_; · (repeat' (first | exact trivial | rfl | exact Nat.le_of_ble_eq_true rfl | omega | (rw [hw]; omega) | apply And.intro)))
        | (refine st_lit rfl rfl rfl rfl ?_ ?_; · (repeat' (first | exact trivial | rfl | exact Nat.le_of_ble_eq_true rfl | omega | (rw [hw]; omega) | apply And.intro)))
        | refine st_skip rfl rfl rfl ?_
        | refine st_skip0 rfl rfl ?_
        | refine st_call rfl rfl rfl rfl (hcmp x y hxm (hAm y (List.mem_of_getElem? hy))) rfl ?_
        | (refine st_if rfl (fun hb => ?_) (fun hb => ?_) <;> (first | (exfalso; revert hb; decide) | (exfalso; simp at hb; done) | (exfalso; simp at hb; omega) | rw [hb]))
        | refine aw_seq ?_
        | refine aw_region tab_ok _ rfl ?_
        | refine aw_drawn2 tabS_ok _ rfl mixed (by decide +kernel) ?_
        | (refine aw_cond rfl (fun hb => ?_) (fun hb => ?_) <;> (try (first | (exfalso; revert hb; decide) | (exfalso; simp at hb; done) | (exfalso; simp at hb; omega))))
        | refine aw_block ?_
        | refine aw_exit ?_
        | refine aw_ret ?_
        | refine aw_skip ?_)
      · have hlt0 : c x y < 0 := of_decide_eq_true hb
        rw [if_pos hlt0] at hpj
        exact ⟨j, ⟨by omega, hpos.trans hpj⟩, by omega, fits_mk ⟨rfl, rfl, rfl, rfl, rfl, slot_int hw, trivial⟩ [] (by rw [← Wx_swap hy, hw, e1, e2]; rfl) ⟨(by show 0 < 1; omega), trivial, trivial, trivial, trivial, trivial, trivial⟩ ⟨rowC_below _ _ _ _, trivial⟩⟩
      · have hge : ¬ c x y < 0 := of_decide_eq_false hb
        rw [if_neg hge] at hpj
        exact ⟨i + 1, ⟨by omega, .inl (by omega)⟩, by omega, fits_mk ⟨rfl, rfl, rfl, rfl, slot_int (wrap_eq (by omega) (by omega)), trivial⟩ [] (by rw [hnext, hrest, insR_W, hAl, hpos.trans hpj]; rfl) ⟨(by show 0 < 1; omega), trivial, trivial, trivial, trivial, trivial⟩ ⟨rowC_below _ _ _ _, trivial⟩⟩
  · have hi2 : n ≤ i := by omega
    repeat' (first
      | refine st_nil ?_
      | (refine st_pop rfl rfl rfl rfl ?_ ?_; · (repeat' (first | exact trivial | rfl | exact Nat.le_of_ble_eq_true rfl | omega | apply And.intro)))
      | (refine st_lop rfl rfl rfl rfl ?_ ?_; · (repeat' (first | exact trivial | rfl | exact Nat.le_of_ble_eq_true rfl | omega | apply And.intro)))
      | (refine st_store rfl rfl rfl ?_ ?_; · (repeat' (first | exact trivial | rfl | exact Nat.le_of_ble_eq_true rfl | omega | apply And.intro)))
      | (refine st_lit rfl rfl rfl rfl ?_ ?_; · (repeat' (first | exact trivial | rfl | exact Nat.le_of_ble_eq_true rfl | omega | apply And.intro)))
      | refine st_skip rfl rfl rfl ?_
      | refine st_skip0 rfl rfl ?_
      | (refine st_if rfl (fun hb => ?_) (fun hb => ?_) <;> (first | (exfalso; revert hb; decide) | (exfalso; simp at hb; done) | (exfalso; simp at hb; omega) | rw [hb]))
      | refine aw_seq ?_
      | refine aw_region tab_ok _ rfl ?_
      | refine aw_drawn2 tabS_ok _ rfl mixed (by decide +kernel) ?_
      | (refine aw_cond rfl (fun hb => ?_) (fun hb => ?_) <;> (try (first | (exfalso; revert hb; decide) | (exfalso; simp at hb; done) | (exfalso; simp at hb; omega))))
      | refine aw_block ?_
      | refine aw_exit ?_
      | refine aw_ret ?_
      | refine aw_skip ?_)
    have htk : xs.take i = xs := List.take_of_length_le (by omega)
    have hdr : xs.drop i = [] := List.drop_of_length_le (by omega)
    exact ⟨.inl rfl, ⟨.inr ⟨.tup [], ⟨trivial, rfl⟩, rfl⟩, ⟨[], by rw [htk, hdr, List.append_nil, List.append_nil]⟩, by simp, mem_below ⟨rowC_below _ _ _ _, trivial⟩, trivial⟩⟩
end Go.Proofs.YtnbnpnmkgemdeaaGreatDoor
namespace Go.Proofs.YtnbnpnmkgemdeaaGreatDoor
open Go.RowKit Go.MapKept
set_option maxRecDepth 100000
theorem rf1 {L : List Ob} {v k : Nat} {l : List AC} {x : AV} {xs : List AV} (h0 : L[0]? = some (Ob.row v (l.map gC) k)) (hx : ∀ y ∈ x :: xs, y.below 1) : RunFits [0] [Ob.row v (l.map gC) k] (x :: xs) L := by
  refine ⟨rfl, by simp, fun i y hy => ?_, mem_below ⟨rowC_below _ _ _ _, trivial⟩, hx⟩
  match i, hy with
  | 0, hy => simp at hy; subst hy; rw [row_ren]; exact h0
  | i + 1, hy => simp at hy
theorem stable_run (F : FuncId) (c : AC → AC → Int) (v : Nat) (xs : List AC) (n : Nat) (hn : xs.length = n) (hn2 : n ≤ 19) (hcmp : ∀ x y, x ∈ xs → y ∈ xs → Pure Tryz.prog F [.one x, .one y] (vInt (c x y))) : Run Tryz.prog 150 [.row v (xs.map gC) 1] [.one (.sl 0 v 0 n), .one (.c (.int .i64 n)), .one (.c (.fn F []))] [.row v ((isort c xs).map gC) 1] (.tup []) := by
  refine run_of_aw tabX_ok Tryz.func150 rfl rfl Tryz.ntmps150 (by simp) ?_
  simp only [argA]
  repeat' (first
    | refine st_nil ?_
    | (refine st_pop rfl rfl rfl rfl ?_ ?_; · (repeat' (first | exact trivial | rfl | exact Nat.le_of_ble_eq_true rfl | omega | apply And.intro)))
    | (refine st_lop rfl rfl rfl rfl ?_ ?_; · (repeat' (first | exact trivial | rfl | exact Nat.le_of_ble_eq_true rfl | omega | apply And.intro)))
    | (refine st_store rfl rfl rfl ?_ ?_; · (repeat' (first | exact trivial | rfl | exact Nat.le_of_ble_eq_true rfl | omega | apply And.intro)))
    | (refine st_lit rfl rfl rfl rfl ?_ ?_; · (repeat' (first | exact trivial | rfl | exact Nat.le_of_ble_eq_true rfl | omega | apply And.intro)))
    | refine st_skip rfl rfl rfl ?_
    | refine st_skip0 rfl rfl ?_
    | (refine st_if rfl (fun hb => ?_) (fun hb => ?_) <;> (first | (exfalso; revert hb; decide) | (exfalso; simp at hb; done) | (exfalso; simp at hb; omega) | rw [hb]))
    | refine aw_seq ?_
    | refine aw_region tabX_ok _ rfl ?_
    | refine aw_drawn2 tabXS_ok _ rfl mixed (by decide +kernel) ?_
    | (refine aw_cond rfl (fun hb => ?_) (fun hb => ?_) <;> (try (first | (exfalso; revert hb; decide) | (exfalso; simp at hb; done) | (exfalso; simp at hb; omega))))
    | refine aw_block ?_
    | refine aw_exit ?_
    | refine aw_ret ?_
    | refine aw_skip ?_)
  refine aw_loop (fun _ : Unit => [(0, .one (.sl 0 v 0 n)), (1, .one (.c (.int .i64 n))), (2, .one (.c (.fn F []))), (6, .one (.c (.int .i64 20))), (7, .one (.c (.int .i64 0))), (8, .one (.c (.int .i64 20)))]) (fun _ => [.row v (xs.map gC) 1]) (fun _ => True) (fun _ => 0) () trivial (fun _ _ => Nat.le_refl _)
    (fits_mk ⟨rfl, rfl, rfl, rfl, rfl, rfl, trivial⟩ [] rfl ⟨(by show 0 < 1; omega), trivial, trivial, trivial, trivial, trivial, trivial⟩ ⟨rowC_below _ _ _ _, trivial⟩) ?_
  intro _ _
  repeat' (first
    | refine st_nil ?_
    | (refine st_pop rfl rfl rfl rfl ?_ ?_; · (repeat' (first | exact trivial | rfl | exact Nat.le_of_ble_eq_true rfl | omega | apply And.intro)))
    | (refine st_lop rfl rfl rfl rfl ?_ ?_; · (repeat' (first | exact trivial | rfl | exact Nat.le_of_ble_eq_true rfl | omega | apply And.intro)))
    | (refine st_store rfl rfl rfl ?_ ?_; · (repeat' (first | exact trivial | rfl | exact Nat.le_of_ble_eq_true rfl | omega | apply And.intro)))
    | (refine st_lit rfl rfl rfl rfl ?_ ?_; · (repeat' (first | exact trivial | rfl | exact Nat.le_of_ble_eq_true rfl | omega | apply And.intro)))
    | refine st_skip rfl rfl rfl ?_
    | refine st_skip0 rfl rfl ?_
    | (refine st_run [0] rfl rfl rfl rfl (isort_run F c v xs n hn (by omega) hcmp) rfl (rf1 rfl (args_below ⟨(by show 0 < 1; omega), trivial, trivial, trivial, trivial⟩)) rfl (j1 (L' := [.row v ((isort c xs).map gC) 1]) rfl) ?_)
    | (refine st_if rfl (fun hb => ?_) (fun hb => ?_) <;> (first | (exfalso; revert hb; decide) | (exfalso; simp at hb; done) | (exfalso; simp at hb; omega) | rw [hb]))
    | refine aw_seq ?_
    | refine aw_region tabX_ok _ rfl ?_
    | refine aw_drawn2 tabXS_ok _ rfl mixed (by decide +kernel) ?_
    | (refine aw_cond rfl (fun hb => ?_) (fun hb => ?_) <;> (try (first | (exfalso; revert hb; decide) | (exfalso; simp at hb; done) | (exfalso; simp at hb; omega))))
    | refine aw_block ?_
    | refine aw_exit ?_
    | refine aw_ret ?_
    | refine aw_skip ?_)
  refine aw_loop (fun _ : Unit => [(0, .one (.sl 0 v 0 n)), (1, .one (.c (.int .i64 n))), (2, .one (.c (.fn F []))), (6, .one (.c (.int .i64 20))), (7, .one (.c (.int .i64 0)))]) (fun _ => [.row v ((isort c xs).map gC) 1]) (fun _ => True) (fun _ => 0) () trivial (fun _ _ => Nat.le_refl _)
    (fits_mk ⟨rfl, rfl, rfl, rfl, rfl, trivial⟩ [] rfl ⟨(by show 0 < 1; omega), trivial, trivial, trivial, trivial, trivial⟩ ⟨rowC_below _ _ _ _, trivial⟩) ?_
  intro _ _
  repeat' (first
    | refine st_nil ?_
    | (refine st_pop rfl rfl rfl rfl ?_ ?_; · (repeat' (first | exact trivial | rfl | exact Nat.le_of_ble_eq_true rfl | omega | apply And.intro)))
    | (refine st_lop rfl rfl rfl rfl ?_ ?_; · (repeat' (first | exact trivial | rfl | exact Nat.le_of_ble_eq_true rfl | omega | apply And.intro)))
    | (refine st_store rfl rfl rfl ?_ ?_; · (repeat' (first | exact trivial | rfl | exact Nat.le_of_ble_eq_true rfl | omega | apply And.intro)))
    | (refine st_lit rfl rfl rfl rfl ?_ ?_; · (repeat' (first | exact trivial | rfl | exact Nat.le_of_ble_eq_true rfl | omega | apply And.intro)))
    | refine st_skip rfl rfl rfl ?_
    | refine st_skip0 rfl rfl ?_
    | (refine st_if rfl (fun hb => ?_) (fun hb => ?_) <;> (first | (exfalso; revert hb; decide) | (exfalso; simp at hb; done) | (exfalso; simp at hb; omega) | rw [hb]))
    | refine aw_seq ?_
    | refine aw_region tabX_ok _ rfl ?_
    | refine aw_drawn2 tabXS_ok _ rfl mixed (by decide +kernel) ?_
    | (refine aw_cond rfl (fun hb => ?_) (fun hb => ?_) <;> (try (first | (exfalso; revert hb; decide) | (exfalso; simp at hb; done) | (exfalso; simp at hb; omega))))
    | refine aw_block ?_
    | refine aw_exit ?_
    | refine aw_ret ?_
    | refine aw_skip ?_)
  all_goals exact ⟨.inl rfl, ⟨.inr ⟨.tup [], ⟨trivial, rfl⟩, rfl⟩, ⟨[], rfl⟩, by simp, mem_below ⟨rowC_below _ _ _ _, trivial⟩, trivial⟩⟩
theorem sortS_run (F : FuncId) (c : AC → AC → Int) (v : Nat) (xs : List AC) (n : Nat) (hn : xs.length = n) (hn2 : n ≤ 19) (hcmp : ∀ x y, x ∈ xs → y ∈ xs → Pure Tryz.prog F [.one x, .one y] (vInt (c x y))) : Run Tryz.prog 106 [.row v (xs.map gC) 1] [.one (.sl 0 v 0 n), .one (.c (.fn F []))] [.row v ((isort c xs).map gC) 1] (.tup []) := by
  refine run_of_aw tabX_ok Tryz.func106 rfl rfl Tryz.ntmps106 (by simp) ?_
  simp only [argA]
  repeat' (first
    | refine st_nil ?_
    | (refine st_pop rfl rfl rfl rfl ?_ ?_; · (repeat' (first | exact trivial | rfl | exact Nat.le_of_ble_eq_true rfl | omega | apply And.intro)))
    | (refine st_lop rfl rfl rfl rfl ?_ ?_; · (repeat' (first | exact trivial | rfl | exact Nat.le_of_ble_eq_true rfl | omega | apply And.intro)))
    | (refine st_store rfl rfl rfl ?_ ?_; · (repeat' (first | exact trivial | rfl | exact Nat.le_of_ble_eq_true rfl | omega | apply And.intro)))
    | (refine st_lit rfl rfl rfl rfl ?_ ?_; · (repeat' (first | exact trivial | rfl | exact Nat.le_of_ble_eq_true rfl | omega | apply And.intro)))
    | refine st_skip rfl rfl rfl ?_
    | refine st_skip0 rfl rfl ?_
    | (refine st_run [0] rfl rfl rfl rfl (stable_run F c v xs n hn hn2 hcmp) rfl (rf1 rfl (args_below ⟨(by show 0 < 1; omega), trivial, trivial, trivial⟩)) rfl (j1 (L' := [.row v ((isort c xs).map gC) 1]) rfl) ?_)
    | (refine st_if rfl (fun hb => ?_) (fun hb => ?_) <;> (first | (exfalso; revert hb; decide) | (exfalso; simp at hb; done) | (exfalso; simp at hb; omega) | rw [hb]))
    | refine aw_seq ?_
    | refine aw_region tabX_ok _ rfl ?_
    | refine aw_drawn2 tabXS_ok _ rfl mixed (by decide +kernel) ?_
    | (refine aw_cond rfl (fun hb => ?_) (fun hb => ?_) <;> (try (first | (exfalso; revert hb; decide) | (exfalso; simp at hb; done) | (exfalso; simp at hb; omega))))
    | refine aw_block ?_
    | refine aw_exit ?_
    | refine aw_ret ?_
    | refine aw_skip ?_)
  all_goals exact ⟨.inl rfl, ⟨.inr ⟨.tup [], ⟨trivial, rfl⟩, rfl⟩, ⟨[], rfl⟩, by simp, mem_below ⟨rowC_below _ _ _ _, trivial⟩, trivial⟩⟩
theorem cV_wide (l : List Val) : ∀ e ∈ l.map cV, e.length = 3 := wideI (by intro _; rfl) l
def tRows (l : List (List Val)) : AC := .lst (l.map fun r => [tRow r])
theorem clone_pure (r : List Val) (h0 : r ≠ []) (hr : r.length ≤ 1000000) : Pure Tryz.prog 105 [.one (tRow r)] (.val (.one (tRow r))) := by
  refine pure_of_aw tabX_ok Tryz.func105 rfl rfl Tryz.ntmps105 (by simp) ?_
  simp only [argT, PV.av, List.map_cons, List.map_nil]
  obtain ⟨x, r, rfl⟩ : ∃ x r', r = x :: r' := by cases r with | nil => exact absurd rfl h0 | cons x r => exact ⟨x, r, rfl⟩
  have hw := cV_wide (x :: r)
  have hlen : ((x :: r).map cV).length = r.length + 1 := by simp
  simp only [List.length_cons] at hr
  repeat' (first
    | refine st_nil ?_
    | (refine st_pop rfl rfl rfl rfl ?_ ?_; · (repeat' (first | exact trivial | rfl | exact Nat.le_of_ble_eq_true rfl | omega | exact hw | (rw [hlen]; omega) | apply And.intro)))
    | (refine st_lop rfl rfl rfl rfl ?_ ?_; · (repeat' (first | exact trivial | rfl | exact Nat.le_of_ble_eq_true rfl | omega | exact hw | (rw [hlen]; omega) | apply And.intro)))
    | (refine st_store rfl rfl rfl ?_ ?_; · (repeat' (first | exact trivial | rfl | exact Nat.le_of_ble_eq_true rfl | omega | exact hw | (rw [hlen]; omega) | apply And.intro)))
    | (refine st_lit rfl rfl rfl rfl ?_ ?_; · (repeat' (first | exact trivial | rfl | exact Nat.le_of_ble_eq_true rfl | omega | exact hw | (rw [hlen]; omega) | apply And.intro)))
    | refine st_skip rfl rfl rfl ?_
    | refine st_skip0 rfl rfl ?_
    | (refine st_if rfl (fun hb => ?_) (fun hb => ?_) <;> (first | (exfalso; revert hb; decide) | (exfalso; simp at hb; done) | (exfalso; simp at hb; omega) | rw [hb]))
    | refine aw_seq ?_
    | refine aw_region tabX_ok _ rfl ?_
    | refine aw_drawn2 tabXS_ok _ rfl mixed (by decide +kernel) ?_
    | (refine aw_cond rfl (fun hb => ?_) (fun hb => ?_) <;> (try (first | (exfalso; revert hb; decide) | (exfalso; simp at hb; done) | (exfalso; simp at hb; omega))))
    | refine aw_block ?_
    | refine aw_exit ?_
    | refine aw_ret ?_
    | refine aw_skip ?_
    | (refine st_sopq rfl rfl rfl rfl rfl (sop_notNil rfl rfl (tabX_ok.kind 43 _ rfl)) ?_))
  all_goals exact end_ret (res_of rfl (by trivial) rfl)
theorem normR_gC (l : List AC) : normR (l.map gC) = some (l.map fun x => [x]) := by
  have := normR_c (l.map fun x => [x])
  rw [List.map_map] at this
  exact this
set_option maxHeartbeats 2000000 in
theorem sorted_pure (F : FuncId) (c : AC → AC → Int) (l : List (List Val)) (hl : l.length ≤ 19) (hr : ∀ r ∈ l, r ≠ [] ∧ r.length ≤ 1000000) (hcmp : ∀ x y, x ∈ l.map tRow → y ∈ l.map tRow → Pure Tryz.prog F [.one x, .one y] (vInt (c x y))) : Pure Tryz.prog 80 [.one (tRows l), .one (.fn F [])] (.val (.one (.lst ((isort c (l.map tRow)).map fun x => [x])))) := by
  refine pure_of_aw tabX_ok Tryz.func80 rfl rfl Tryz.ntmps80 (by simp) ?_
  simp only [argT, PV.av, List.map_cons, List.map_nil]
  obtain ⟨n, hn⟩ : ∃ n, l.length = n := ⟨_, rfl⟩
  have hml : (l.map fun r => [tRow r]).length = n := by simp [hn]
  repeat' (first
    | refine st_nil ?_
    | (refine st_sop rfl rfl rfl rfl rfl (sop_makeRow tabX_ok (k := 1) (by_ := 24) rfl rfl rfl (by decide) rfl rfl rfl (by decide) (by omega) (by rw [hml]; omega) (by rw [hml]; omega)) ?_)
    | (refine st_pop rfl rfl rfl rfl ?_ ?_; · (repeat' (first | exact trivial | rfl | exact Nat.le_of_ble_eq_true rfl | omega | apply And.intro)))
    | (refine st_lop rfl rfl rfl rfl ?_ ?_; · (repeat' (first | exact trivial | rfl | exact Nat.le_of_ble_eq_true rfl | omega | apply And.intro)))
    | (refine st_store rfl rfl rfl ?_ ?_; · (repeat' (first | exact trivial | rfl | exact Nat.le_of_ble_eq_true rfl | omega | apply And.intro)))
    | (refine st_lit rfl rfl rfl rfl ?_ ?_; · (repeat' (first | exact trivial | rfl | exact Nat.le_of_ble_eq_true rfl | omega | apply And.intro)))
    | refine st_skip rfl rfl rfl ?_
    | refine st_skip0 rfl rfl ?_
    | (refine st_if rfl (fun hb => ?_) (fun hb => ?_) <;> (first | (exfalso; revert hb; decide) | (exfalso; simp at hb; done) | (exfalso; simp at hb; omega) | rw [hb]))
    | refine aw_seq ?_
    | refine aw_region tabX_ok _ rfl ?_
    | refine aw_drawn2 tabXS_ok _ rfl mixed (by decide +kernel) ?_
    | (refine aw_cond rfl (fun hb => ?_) (fun hb => ?_) <;> (try (first | (exfalso; revert hb; decide) | (exfalso; simp at hb; done) | (exfalso; simp at hb; omega))))
    | refine aw_block ?_
    | refine aw_exit ?_
    | refine aw_ret ?_
    | refine aw_skip ?_)
  refine aw_loop (fun i : Nat => [(0, .one (.c (tRows l))), (1, .one (.c (.fn F []))), (5, .one (.sl 0 (43 + 65536 + 65536 * i) 0 i)), (11, .one (.c (tRows l))), (12, .one (.c (.int .i64 n))), (13, .one (.c (.int .i64 i)))]) (fun i => [.row (43 + 65536 + 65536 * i) (((l.take i).map tRow).map gC) 1]) (fun i => i ≤ n) (fun i => n - i) 0 (by omega) (fun _ _ => Nat.zero_le _)
    (fits_mk ⟨rfl, rfl, rfl, rfl, slot_int (by simp [hn]), rfl, trivial⟩ [] rfl ⟨trivial, trivial, (by show 0 < 1; omega), trivial, trivial, trivial, trivial⟩ ⟨rowC_below _ _ _ _, trivial⟩) ?_
  intro i hi
  by_cases hlt : i < n
  · obtain ⟨r, hx⟩ := get_of_lt (show i < l.length by omega)
    have hcl := clone_pure r (hr r (List.mem_of_getElem? hx)).1 (hr r (List.mem_of_getElem? hx)).2
    have hlen : (((l.take i).map tRow).map gC).length = i := by simp; omega
    have hnx : ((l.take (i + 1)).map tRow).map gC = ((l.take i).map tRow).map gC ++ [gC (tRow r)] := by rw [take_succ hx]; simp
    repeat' (first
      | refine st_nil ?_
      | (refine st_sop rfl rfl rfl rfl rfl (sop_app tabX_ok (k := 1) (by_ := 24) (xs := [gC (tRow r)]) rfl rfl rfl rfl ⟨rfl, _, rfl, by intro e he; simp at he; subst he; rfl⟩ rfl (by omega) rfl rfl rfl (by decide) hlen (by show (i + 1) * 24 ≤ _; omega) (by show i + 1 ≤ _; omega)) ?_)
      | (refine st_pop rfl rfl rfl rfl ?_ ?_; · (repeat' (first | exact trivial | rfl | exact Nat.le_of_ble_eq_true rfl | omega | (intro e he; simp at he; subst he; rfl) | apply And.intro)))
      | (refine st_idx rfl rfl rfl rfl rfl rfl rfl rfl (idx_map hx) ?_ ?_; · exact ⟨by omega, rfl⟩)
      | (refine st_lop rfl rfl rfl rfl ?_ ?_; · (repeat' (first | exact trivial | rfl | exact Nat.le_of_ble_eq_true rfl | omega | (intro e he; simp at he; subst he; rfl) | apply And.intro)))
      | (refine st_store rfl rfl rfl ?_ ?_; · (repeat' (first | exact trivial | rfl | exact Nat.le_of_ble_eq_true rfl | omega | (intro e he; simp at he; subst he; rfl) | apply And.intro)))
      | (refine st_lit rfl rfl rfl rfl ?_ ?_; · (repeat' (first | exact trivial | rfl | exact Nat.le_of_ble_eq_true rfl | omega | (intro e he; simp at he; subst he; rfl) | apply And.intro)))
      | refine st_skip rfl rfl rfl ?_
      | refine st_skip0 rfl rfl ?_
      | refine st_call rfl rfl rfl rfl hcl rfl ?_
      | (refine st_if rfl (fun hb => ?_) (fun hb => ?_) <;> (first | (exfalso; revert hb; decide) | (exfalso; simp at hb; done) | (exfalso; simp at hb; omega) | rw [hb]))
      | refine aw_seq ?_
      | refine aw_region tabX_ok _ rfl ?_
      | refine aw_drawn2 tabXS_ok _ rfl mixed (by decide +kernel) ?_
      | (refine aw_cond rfl (fun hb => ?_) (fun hb => ?_) <;> (try (first | (exfalso; revert hb; decide) | (exfalso; simp at hb; done) | (exfalso; simp at hb; omega))))
      | refine aw_block ?_
      | refine aw_exit ?_
      | refine aw_ret ?_
      | refine aw_skip ?_)
    have hv : 43 + 65536 + 65536 * (i + 1) = 43 + 65536 + 65536 * i + 65536 := by omega
    exact ⟨i + 1, by omega, by omega, fits_mk ⟨rfl, rfl, (by rw [hv]; rfl), rfl, rfl, slot_int (wrap_eq (by omega) (by omega)), trivial⟩ [] (by rw [hv, hnx]; rfl) ⟨trivial, trivial, (by show 0 < 1; omega), trivial, trivial, trivial, trivial⟩ ⟨rowC_below _ _ _ _, trivial⟩⟩
  · have hi2 : i = n := by omega
    subst hi2
    have htk : l.take i = l := by rw [← hn, List.take_length]
    rw [htk]
    have hfr := normR_gC (isort c (l.map tRow))
    have hil : ((isort c (l.map tRow)).map fun x => [x]).length = i := by rw [List.length_map, isort_len, List.length_map, hn]
    repeat' (first
      | refine st_nil ?_
      | (refine aw_freeze1 0 5 rfl hfr rfl hil ?_)
      | (refine st_pop rfl rfl rfl rfl ?_ ?_; · (repeat' (first | exact trivial | rfl | exact Nat.le_of_ble_eq_true rfl | omega | apply And.intro)))
      | (refine st_lop rfl rfl rfl rfl ?_ ?_; · (repeat' (first | exact trivial | rfl | exact Nat.le_of_ble_eq_true rfl | omega | apply And.intro)))
      | (refine st_store rfl rfl rfl ?_ ?_; · (repeat' (first | exact trivial | rfl | exact Nat.le_of_ble_eq_true rfl | omega | apply And.intro)))
      | (refine st_lit rfl rfl rfl rfl ?_ ?_; · (repeat' (first | exact trivial | rfl | exact Nat.le_of_ble_eq_true rfl | omega | apply And.intro)))
      | refine st_skip rfl rfl rfl ?_
      | refine st_skip0 rfl rfl ?_
      | (refine st_run [0] rfl rfl rfl rfl (sortS_run F c (43 + 65536 + 65536 * i) (l.map tRow) i (by simp [hn]) (by omega) hcmp) rfl (rf1 rfl (args_below ⟨(by show 0 < 1; omega), trivial, trivial⟩)) rfl (j1 (L' := [.row (43 + 65536 + 65536 * i) ((isort c (l.map tRow)).map gC) 1]) rfl) ?_)
      | (refine st_if rfl (fun hb => ?_) (fun hb => ?_) <;> (first | (exfalso; revert hb; decide) | (exfalso; simp at hb; done) | (exfalso; simp at hb; omega) | rw [hb]))
      | refine aw_seq ?_
      | refine aw_region tabX_ok _ rfl ?_
      | refine aw_drawn2 tabXS_ok _ rfl mixed (by decide +kernel) ?_
      | (refine aw_cond rfl (fun hb => ?_) (fun hb => ?_) <;> (try (first | (exfalso; revert hb; decide) | (exfalso; simp at hb; done) | (exfalso; simp at hb; omega))))
      | refine aw_block ?_
      | refine aw_exit ?_
      | refine aw_ret ?_
      | refine aw_skip ?_)
    exact end_ret (res_of rfl (by trivial) rfl)
end Go.Proofs.YtnbnpnmkgemdeaaGreatDoor
namespace Go.Proofs.YtnbnpnmkgemdeaaGreatDoor
open Go.RowKit Go.MapKept
set_option linter.unusedVariables false
def getB (s : ByteArray) (i : Int) : Option UInt8 := if 0 ≤ i then s[i.toNat]? else none
theorem getB_some {s : ByteArray} {i : Int} {x : UInt8} (h : getB s i = some x) : 0 ≤ i ∧ s[i.toNat]? = some x := by
  unfold getB at h
  by_cases h0 : 0 ≤ i
  · rw [if_pos h0] at h; exact ⟨h0, h⟩
  · rw [if_neg h0] at h; cases h
section
variable {P : Program} {ti : TI} {N n0 : Nat} {ds : List (Option Tmp)} {K : Tm → List Ob → Prop} {rest : List Oper} {o : Oper} {T : Tm} {L : List Ob}
theorem b_ {t : TypeId} {x ix : Operand} {s : ByteArray} {k0 : IntKind} {i : Int} {b : UInt8} {d : Nat} (hd : o.dst = some d) (hN : Nat.blt d N = true) {g0 : Bool} (hg : gdv ds T o.guard = some g0) (ho : o.op = .index t x ix) (hx : look T x = some (.one (.c (.str s)))) (hi : look T ix = some (.one (.c (.int k0 i))))
    (hk : ti.kind t = some .string) (h : awOps P ti N ds K rest ((d, .one (.c (.int .u8 ((b.toNat : Nat) : Int)))) :: T) L) (hb : s[i.toNat]? = some b := by assumption) (h0 : 0 ≤ i := by assumption) (hg1 : g0 = true := by first | rfl | exact beq_tt (by first | assumption | exact not_t (by assumption)) | exact beq_ff (by first | assumption | exact not_f (by assumption))) : awOps P ti N ds K (o :: rest) T L :=
  st_pop (φ := 0 ≤ i ∧ ti.kind t = some .string) hd hN (hg1 ▸ hg) (by rw [ho]; simp only [pop, hx, hi, popIndex, hb]) ⟨h0, hk⟩ h
theorem t5_ {v : AV} {φ : Prop} {d : Nat} (hd : o.dst = some d) (hN : Nat.blt d N = true) {g0 : Bool} (hg : gdv ds T o.guard = some g0) (hp : litOp ti (look T) o.op = some (v, φ)) (h : awOps P ti N ds K rest ((d, v) :: T) L)
    (hφ : φ := by repeat' (first | exact trivial | rfl | exact Nat.le_of_ble_eq_true rfl | omega | refine List.forall_mem_cons.2 ⟨?_, ?_⟩ | exact fun _ h => nomatch h | apply And.intro)) (hg1 : g0 = true := by first | rfl | exact beq_tt (by first | assumption | exact not_t (by assumption)) | exact beq_ff (by first | assumption | exact not_f (by assumption))) : awOps P ti N ds K (o :: rest) T L := st_lit hd hN (hg1 ▸ hg) hp hφ h
end
end Go.Proofs.YtnbnpnmkgemdeaaGreatDoor
