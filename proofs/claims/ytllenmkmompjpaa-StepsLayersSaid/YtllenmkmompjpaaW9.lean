/- The walks of combine, Add, Sub, Min, Max, Clip of the program. Condition: at most 1000000 steps each, in ascending order, the first list not empty. -/
import Derived.Test.YtllenmkmompjpaaW8
namespace Go.Proofs.Ytllenmkmompjpaa
open Go.RowKit

theorem mem_ins (n : Int) : ∀ (l : List Int) (y : Int), y ∈ ins n l ↔ y = n ∨ y ∈ l
  | [], y => by simp [ins]
  | x :: r, y => by
    have := mem_ins n r y
    unfold ins
    split
    · simp only [List.mem_cons, this]; grind
    · split
      · simp
      · obtain rfl : x = n := by omega
        simp
theorem SAsc.tail {x : Int} {l : List Int} (h : SAsc (x :: l)) : SAsc l := fun i j u v hij hu hv => h (i + 1) (j + 1) u v (by omega) (by simpa using hu) (by simpa using hv)
theorem SAsc.head {x : Int} {l : List Int} (h : SAsc (x :: l)) : ∀ y ∈ l, x < y := by
  intro y hy
  obtain ⟨i, hi, e⟩ := List.mem_iff_getElem.1 hy
  exact h 0 (i + 1) x y (by omega) rfl (by simp [List.getElem?_eq_getElem hi, e])
theorem SAsc.cons {x : Int} {l : List Int} (h : SAsc l) (hx : ∀ y ∈ l, x < y) : SAsc (x :: l) := by
  intro i j u v hij hu hv
  match i, j, hij with
  | 0, j + 1, _ =>
    simp at hu hv
    subst hu
    exact hx v (List.mem_of_getElem? hv)
  | i + 1, j + 1, hij => exact h i j u v (by omega) (by simpa using hu) (by simpa using hv)
theorem SAsc.ins (n : Int) : ∀ {l : List Int}, SAsc l → SAsc (ins n l)
  | [], _ => by
    intro i j u v hij hu hv
    have h1 := (List.getElem?_eq_some_iff.1 hu).1
    have h2 := (List.getElem?_eq_some_iff.1 hv).1
    simp [Go.Proofs.Ytllenmkmompjpaa.ins] at h1 h2
    omega
  | x :: r, h => by
    unfold Go.Proofs.Ytllenmkmompjpaa.ins
    split
    · refine (SAsc.ins n h.tail).cons fun y hy => ?_
      rcases (mem_ins n r y).1 hy with e | e
      · omega
      · exact h.head y e
    · split
      · refine h.cons fun y hy => ?_
        rcases List.mem_cons.1 hy with e | e
        · omega
        · have := h.head y e; omega
      · exact h
/-- Two strictly ascending lists with the same elements are one. -/
theorem SAsc.ext : ∀ {a b : List Int}, SAsc a → SAsc b → (∀ x, x ∈ a ↔ x ∈ b) → a = b
  | [], [], _, _, _ => rfl
  | [], y :: b, _, _, h => by have := (h y).2 (by simp); simp at this
  | x :: a, [], _, _, h => by have := (h x).1 (by simp); simp at this
  | x :: a, y :: b, ha, hb, h => by
    have hxy : x = y := by
      have h1 := (h x).1 (by simp)
      have h2 := (h y).2 (by simp)
      rcases List.mem_cons.1 h1 with e | e
      · exact e
      · rcases List.mem_cons.1 h2 with e2 | e2
        · exact e2.symm
        · have := hb.head x e; have := ha.head y e2; omega
    subst hxy
    rw [SAsc.ext ha.tail hb.tail fun z => ⟨fun hz => ?_, fun hz => ?_⟩]
    · rcases List.mem_cons.1 ((h z).1 (by simp [hz])) with e | e
      · have := ha.head z hz; omega
      · exact e
    · rcases List.mem_cons.1 ((h z).2 (by simp [hz])) with e | e
      · have := hb.head z hz; omega
      · exact e
/-- All numbers of a list put into an ascending one. -/
def insAll (p : List Int) (l : List Int) : List Int := l.foldl (fun p x => ins x p) p
theorem insAll_asc : ∀ (l p : List Int), SAsc p → SAsc (insAll p l)
  | [], p, h => h
  | x :: l, p, h => insAll_asc l (ins x p) (h.ins x)
theorem mem_insAll : ∀ (l p : List Int) (y : Int), y ∈ insAll p l ↔ y ∈ p ∨ y ∈ l
  | [], p, y => by simp [insAll]
  | x :: l, p, y => by
    have := mem_insAll l (ins x p) y
    show y ∈ insAll (ins x p) l ↔ _
    rw [this, mem_ins]
    simp only [List.mem_cons]
    grind
theorem SAsc.nil : SAsc [] := fun i j x y _ h => by simp at h
/-- The places of the steps of two lists. -/
def pts (a b : List (Int × Int)) : List Int := insAll (insAll [] (a.map (·.1))) (b.map (·.1))
theorem pts_asc (a b : List (Int × Int)) : SAsc (pts a b) := insAll_asc _ _ (insAll_asc _ _ .nil)
theorem mem_pts (a b : List (Int × Int)) (y : Int) : y ∈ pts a b ↔ y ∈ a.map (·.1) ∨ y ∈ b.map (·.1) := by
  unfold pts; rw [mem_insAll, mem_insAll]; simp
theorem Merged.pts {a b : List (Int × Int)} {P : List Int} {n m : Nat} (h : Merged (a.map (·.1)) (b.map (·.1)) P n m) (hn : a.length = n) (hm : b.length = m) : P = pts a b := by
  refine h.1.ext (pts_asc a b) fun x => ?_
  rw [h.2.1, mem_pts, List.take_of_length_le (by simp [hn]), List.take_of_length_le (by simp [hm])]
/-- The steps of a function at ascending places. -/
def combS (f : Int → Int) (P : List Int) : List (Int × Int) := P.foldl (fun acc p => putS acc (p, f p)) []
theorem combS_take {f : Int → Int} {P : List Int} {k : Nat} {x : Int} (hx : P[k]? = some x) : combS f (P.take (k + 1)) = putS (combS f (P.take k)) (x, f x) := foldl_take hx
theorem foldl_put_len (f : Int → Int) : ∀ (P : List Int) (acc : List (Int × Int)), acc.length ≤ (P.foldl (fun acc p => putS acc (p, f p)) acc).length ∧ (P.foldl (fun acc p => putS acc (p, f p)) acc).length ≤ acc.length + P.length
  | [], acc => by simp
  | x :: P, acc => by
    have h1 := foldl_put_len f P (putS acc (x, f x))
    have h2 := putS_len acc (x, f x)
    simp only [List.foldl_cons, List.length_cons]
    omega
theorem combS_len (f : Int → Int) (P : List Int) : (combS f P).length ≤ P.length := by have := (foldl_put_len f P []).2; unfold combS; simpa using this
theorem combS_pos (f : Int → Int) {P : List Int} (h : P ≠ []) : combS f P ≠ [] := by
  match P, h with
  | x :: P, _ =>
    have := (foldl_put_len f P (putS [] (x, f x))).1
    intro e
    have e2 : (P.foldl (fun acc p => putS acc (p, f p)) (putS [] (x, f x))) = [] := e
    rw [e2] at this
    simp [putS] at this

set_option maxHeartbeats 2000000 in
theorem combine_any (g : Nat) (op : Int → Int → Int) (eg : ∀ args w, (callFunc g args).run Try.prog w = .ok (.enter g args) w) (hop : ∀ x y W, Calls Try.prog g #[.int .i64 x, .int .i64 y] W fun e w' => e = .returned (.int .i64 (op x y)) ∧ Gr W w')
    (A B : Option Addr) (n m ca cb : Nat) (a b : List (Int × Int)) (w : World) (ha : Rd e2 2 w w.heap.size A n a) (hb : Rd e2 2 w w.heap.size B m b) (hn : n ≤ 100000) (hm : m ≤ 100000) (hsa : Asc a) (hsb : Asc b) (hne : a ≠ []) :
    Calls Try.prog 57 #[.slice A n ca, .slice B m cb, .func (.func g) #[] #[]] w fun e w' => ∃ A' m' c', e = .returned (.slice A' m' c') ∧ Own e2 2 48 w' w.heap.size (.slice A' m' c') (combS (fun p => op (rat a p) (rat b p)) (pts a b)) ∧ Gr w w' := by
  have hcon := merge_any A B n m ca cb a b w ha hb (by omega) (by omega) hsa hsb
  have HOP := Lib.hid hop
  have HSA := Lib.hid hsa
  have HSB := Lib.hid hsb
  have hla := Lib.hid ha.1
  have hlb := Lib.hid hb.1
  have HNE := Lib.hid hne
  clear hop hsa hsb hne
  obtain ⟨F, hF⟩ : ∃ F : Int → Int, F = fun p => op (rat a p) (rat b p) := ⟨_, rfl⟩
  rw [← hF]
  have HF := Lib.hid hF
  clear hF
  generalize hR : combS F (pts a b) = R
  have HR := Lib.hid hR
  clear hR
  go_enter Try.func57, Try.ntmps57
  go_wp2_with fail
  refine hcon.mono ?_
  rintro e w1 ⟨A1, m1, c1, rfl, P, hown1, HM, hPl, hg1⟩
  clear hcon
  have hP := HM.out.pts hla.out hlb.out
  have hPne : P ≠ [] := by
    rw [hP]
    intro e
    obtain ⟨x, hx⟩ := List.exists_mem_of_ne_nil _ HNE.out
    have := (mem_pts a b x.1).2 (.inl (List.mem_map_of_mem hx))
    rw [e] at this
    simp at this
  have HRP := Lib.hid (show combS F P = R by rw [hP]; exact HR.out)
  have hm1 := hown1.len
  have HPn := Lib.hid hPne
  have HM1 := Lib.hid hm1
  have hmb : m1 ≤ 200000 := by omega
  clear hP hPne HM hPl hm1
  have hrP := hown1.rds e1_len
  go_wp2_with fail
  go_loopw [7, 14] (fun v i wr => ∃ (k : Nat) (A' : Option Addr) (m' c' : Nat), k ≤ m1 ∧ i = .int .i64 k ∧ v = .slice A' m' c' ∧ m' ≤ 200000 ∧ Own e2 2 48 wr w1.heap.size (.slice A' m' c') (combS F (P.take k)) ∧ Gr w1 wr) (fun _ i _ => m1 - (intOf i).toNat)
  case atStart => exact ⟨0, none, 0, 0, Nat.zero_le _, rfl, rfl, by omega, Own.nil _ _, Gr.refl _⟩
  case round =>
    obtain ⟨k, A', m', c', hk, rfl, rfl, hm', hown, hg⟩ := hrel
    by_cases hlt : k < m1
    · obtain ⟨b1, o1, x1, hA1, hb1, hx1, d1⟩ := (hrP.gr hg).at1 hlt
      cases hA1
      have hstep := Lib.hid (combS_take (f := F) hx1)
      have hval := Lib.hid (congrFun HF.out x1)
      clear hx1
      go_wp2_with fail
      refine (rat_prog A n ca a x1 _ (ha.gr (hg1.trans hg)) (by omega) HSA.out).mono ?_
      rintro e w2 ⟨rfl, hg2⟩
      go_wp2_with fail
      refine (rat_prog B m cb b x1 _ (hb.gr ((hg1.trans hg).trans hg2)) (by omega) HSB.out).mono ?_
      rintro e w3 ⟨rfl, hg3⟩
      go_wp2_with fail
      refine (HOP.out _ _ _).mono ?_
      rintro e w4 ⟨rfl, hg4⟩
      have hG : Gr w1 w4 := ((hg.trans hg2).trans hg3).trans hg4
      have hown4 := ((hown.gr hg2).gr hg3).gr hg4
      rw [← hval.out]
      go_wp2_with fail
      refine (put_prog w1.heap.size A' m' c' _ x1 (F x1) _ hown4 (by omega) hG.size).mono ?_
      rintro e w5 ⟨A5, m5, c5, rfl, hown5, hbel⟩
      rw [← hstep.out] at hown5
      have hm5 : m5 ≤ 200000 := by have h1 := hown5.len; have h2 := combS_len F (P.take (k + 1)); have h3 : (P.take (k + 1)).length ≤ P.length := List.length_take_le' _ _; have := HM1.out; omega
      go_wp2_with fail
      go_roundw
      case rel => exact ⟨k + 1, _, _, _, by omega, by go_num, rfl, hm5, hown5, hG.out.trans hbel⟩
      case measure => simp [intOf]; omega
    · obtain rfl : k = m1 := by omega
      rw [List.take_of_length_le (by rw [HM1.out]; omega)] at hown
      have hml := hown.len
      have hpos := combS_pos F HPn.out
      have hm0 : ((m' : Int) == 0) = false := by
        have : (combS F P).length ≠ 0 := fun e => hpos (List.eq_nil_of_length_eq_zero e)
        simp; omega
      clear hml hpos
      go_wp2_with fail
      go_ret
      exact ⟨_, _, _, rfl, by rw [← HRP.out]; exact hown.mono hg1.size, hg1.trans hg⟩

end Go.Proofs.Ytllenmkmompjpaa
