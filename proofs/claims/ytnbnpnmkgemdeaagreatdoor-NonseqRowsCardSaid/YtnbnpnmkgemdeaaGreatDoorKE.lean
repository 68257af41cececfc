/- Parts of the proof, joined (D3). No condition. -/
import Derived.Test.YtnbnpnmkgemdeaaGreatDoorKD
import Derived.ProofKit
import Derived.OpenShut
import Derived.ChangeOld
import Derived.Deep.Slices
set_option linter.unusedSimpArgs false
set_option linter.unusedVariables false
namespace Go.Proofs.YtnbnpnmkgemdeaaGreatDoor
open Go.RowKit Go.MapKept
set_option linter.unusedVariables false
set_option maxRecDepth 100000
theorem list2 {α : Type} : ∀ {l : List α}, l.length = 2 → ∃ c0 c1, l = [c0, c1]
  | [c0, c1], _ => ⟨c0, c1, rfl⟩
theorem list3 {α : Type} : ∀ {l : List α}, l.length = 3 → ∃ c0 c1 c2, l = [c0, c1, c2]
  | [c0, c1, c2], _ => ⟨c0, c1, c2, rfl⟩
theorem list7 {α : Type} : ∀ {l : List α}, l.length = 7 → ∃ c0 c1 c2 c3 c4 c5 c6, l = [c0, c1, c2, c3, c4, c5, c6]
  | [c0, c1, c2, c3, c4, c5, c6], _ => ⟨c0, c1, c2, c3, c4, c5, c6, rfl⟩
theorem list9 {α : Type} : ∀ {l : List α}, l.length = 9 → ∃ c0 c1 c2 c3 c4 c5 c6 c7 c8, l = [c0, c1, c2, c3, c4, c5, c6, c7, c8]
  | [c0, c1, c2, c3, c4, c5, c6, c7, c8], _ => ⟨c0, c1, c2, c3, c4, c5, c6, c7, c8, rfl⟩
theorem list15 {α : Type} : ∀ {l : List α}, l.length = 15 → ∃ c0 c1 c2 c3 c4 c5 c6 c7 c8 c9 c10 c11 c12 c13 c14, l = [c0, c1, c2, c3, c4, c5, c6, c7, c8, c9, c10, c11, c12, c13, c14]
  | [c0, c1, c2, c3, c4, c5, c6, c7, c8, c9, c10, c11, c12, c13, c14], _ => ⟨c0, c1, c2, c3, c4, c5, c6, c7, c8, c9, c10, c11, c12, c13, c14, rfl⟩
theorem addr_add (b o n : Nat) : (⟨b, o, none⟩ : Addr).add n = ⟨b, o + n, none⟩ := by
  unfold Addr.add
  split <;> simp_all
/-- The cells of a world, as they are. -/
def RW {W : World} (hT : TabR (fun b o => W.cell? ⟨b, o, none⟩)) : PH := ⟨fun b o => W.cell? ⟨b, o, none⟩, hT⟩
/-- Cells that read as trees. -/
def CRd {W : World} (hT : TabR (fun b o => W.cell? ⟨b, o, none⟩)) (cs : List Value) (es : List AC) : Prop := cs.length = es.length ∧ ∀ (j : Nat) u x, cs[j]? = some u → es[j]? = some x → PRep (RW hT) u x
theorem CRd.app {W : World} {hT : TabR (fun b o => W.cell? ⟨b, o, none⟩)} {c1 c2 : List Value} {e1 e2 : List AC} (h1 : CRd hT c1 e1) (h2 : CRd hT c2 e2) : CRd hT (c1 ++ c2) (e1 ++ e2) := by
  refine ⟨by rw [List.length_append, List.length_append, h1.1, h2.1], fun j u x hu hx => ?_⟩
  have hl := h1.1
  by_cases hj : j < c1.length
  · rw [List.getElem?_append_left hj] at hu
    rw [List.getElem?_append_left (by omega)] at hx
    exact h1.2 j u x hu hx
  · rw [List.getElem?_append_right (by omega)] at hu
    rw [List.getElem?_append_right (by omega), ← hl] at hx
    exact h2.2 _ u x hu hx
theorem CRd.one {W : World} {hT : TabR (fun b o => W.cell? ⟨b, o, none⟩)} {v : Value} {e : AC} (h : PRep (RW hT) v e) : CRd hT [v] [e] := by
  refine ⟨rfl, fun j u x hu hx => ?_⟩
  match j, hu, hx with
  | 0, hu, hx => simp at hu hx; subst hu hx; exact h
  | j + 1, hu, hx => simp at hu
def IOk (n : Int) : Prop := -9223372036854775808 ≤ n ∧ n ≤ 9223372036854775807
def SOk (s : ByteArray) : Prop := s.size ≤ 9223372036854775807
def LOk {α : Type} (k : Nat) (Q : α → Prop) (l : List α) : Prop := l.length * k ≤ reachBytes ∧ ∀ a ∈ l, Q a
/-- What a datum weighs is within reach. -/
def WOk {H : Type} (t : TypeId) (d : DataW H) : Prop := ∀ n ∈ DataW.weights Tryz.prog t d, n ≤ reachBytes
theorem wok_all {H : Type} {e : TypeId} : ∀ {l : List (DataW H)} {d : DataW H}, d ∈ l → ∀ n ∈ DataW.weights Tryz.prog e d, n ∈ DataW.weightsAll Tryz.prog e l
  | x :: l, d, h, n, hn => by
    rw [DataW.weightsAll, List.mem_append]
    rcases List.mem_cons.1 h with rfl | h
    · exact .inl hn
    · exact .inr (wok_all h n hn)
theorem wok_each {H : Type} : ∀ {ts : List TypeId} {l : List (DataW H)} {i : Nat} {t : TypeId} {d : DataW H}, ts[i]? = some t → l[i]? = some d → ∀ n ∈ DataW.weights Tryz.prog t d, n ∈ DataW.weightsEach Tryz.prog ts l
  | t0 :: ts, d0 :: l, 0, t, d, h1, h2, n, hn => by
    simp at h1 h2; subst h1 h2
    rw [DataW.weightsEach, List.mem_append]; exact .inl hn
  | t0 :: ts, d0 :: l, i + 1, t, d, h1, h2, n, hn => by
    rw [DataW.weightsEach, List.mem_append]; exact .inr (wok_each (by simpa using h1) (by simpa using h2) n hn)
  | [], _, i, t, d, h1, _, n, hn => by simp at h1
  | _ :: _, [], i, t, d, _, h2, n, hn => by simp at h2
section
variable {H : Type} {enc : TypeId × Value → H} {W : World} {hT : TabR (fun b o => W.cell? ⟨b, o, none⟩)} {base : Nat} {spare : Nat → Bool} {held : Bool}
theorem read_int {t : TypeId} (ht : Tryz.prog.underlying t = some (.int .i64)) {cs : List Value} {fuel : Nat} {x : DataW H × List MemPlace} (h : DataW.trod enc Tryz.prog W base spare held fuel t cs = some x) : ∃ n : Int, CRd hT cs [.int .i64 n] ∧ IOk n := by
  obtain ⟨n, rfl, _, hw⟩ := DataW.trod_int ht h
  rw [Lit.wf, Bool.and_eq_true] at hw
  exact ⟨n, CRd.one (.int _ _), of_decide_eq_true hw.1, of_decide_eq_true hw.2⟩
theorem read_bool {t : TypeId} (ht : Tryz.prog.underlying t = some .bool) {cs : List Value} {fuel : Nat} {x : DataW H × List MemPlace} (h : DataW.trod enc Tryz.prog W base spare held fuel t cs = some x) : ∃ n : Bool, CRd hT cs [.bool n] ∧ (fun _ => True) n := by
  obtain ⟨n, rfl, _⟩ := DataW.trod_bool ht h
  exact ⟨n, CRd.one (.bool _), trivial⟩
theorem read_str {t : TypeId} (ht : Tryz.prog.underlying t = some .string) {cs : List Value} {fuel : Nat} {x : DataW H × List MemPlace} (h : DataW.trod enc Tryz.prog W base spare held fuel t cs = some x) : ∃ s : ByteArray, CRd hT cs [.str s] ∧ SOk s := by
  obtain ⟨s, rfl, _, hs⟩ := DataW.trod_string ht h
  exact ⟨s, CRd.one (.str _), hs⟩
theorem read_slice {α : Type} {t e : TypeId} {k : Nat} {f : α → List AC} {Q : α → Prop} (ht : Tryz.prog.underlying t = some (.slice e)) (hk : Tryz.prog.cellsOf e = k) {by_ : Nat} (hby : Tryz.prog.bytesOf e = by_) (hk0 : 0 < k) (hf : ∀ x, (f x).length = k) {cs : List Value} {fuel : Nat} {x : DataW H × List MemPlace} (h : DataW.trod enc Tryz.prog W base spare held fuel t cs = some x) (hw : WOk t x.1)
    (hr : ∀ (fuel' : Nat) (cs' : List Value) (x' : DataW H × List MemPlace), fuel' < fuel → DataW.trod enc Tryz.prog W base spare held fuel' e cs' = some x' → WOk e x'.1 → ∃ a, CRd hT cs' (f a) ∧ Q a) : ∃ l : List α, CRd hT cs [.lst (l.map f)] ∧ LOk by_ Q l := by
  rcases DataW.trod_slice ht h with ⟨rfl, _⟩ | ⟨a, len, cap, elems, rest, n, hfu, rfl, hxe, _, hlc, hm, hel, hx, _, _⟩
  · exact ⟨[], CRd.one (prep_nil _ _ _), by simp, fun a ha => by cases ha⟩
  · have hww : (∀ n ∈ DataW.weightsAll Tryz.prog e (elems.map (·.1)), n ≤ reachBytes) ∧ len * by_ ≤ reachBytes := by
      rw [hxe] at hw
      unfold WOk at hw
      simp only [DataW.weights, ht] at hw
      refine ⟨fun n hn => hw n (List.mem_cons_of_mem _ (List.mem_append_left _ hn)), ?_⟩
      have := hw _ (List.mem_cons_self ..)
      simp only [List.length_map, hel, hby] at this
      exact Nat.le_trans (Nat.mul_le_mul_right _ (Nat.le_add_right _ _)) this
    have hi : ∀ i, i < len → ∃ y, (∃ cs', W.cells? base (a.add (i * k)) k = some cs' ∧ CRd hT cs' (f y)) ∧ Q y := by
      intro i hlt
      have h1 := hx i hlt
      rw [List.getElem?_eq_getElem (by omega), hk] at h1
      cases hc : W.cells? base (a.add (i * k)) k with
      | none => rw [hc] at h1; cases h1
      | some cs' => rw [hc] at h1; obtain ⟨y, h2, h3⟩ := hr n cs' _ (by omega) h1 (fun m hm => hww.1 m (wok_all (List.mem_map_of_mem (f := fun p : DataW H × List MemPlace => p.1) (List.getElem_mem (by omega))) m hm)); exact ⟨y, ⟨cs', rfl, h2⟩, h3⟩
    rcases Nat.eq_zero_or_pos len with h0 | h0
    · subst h0; exact ⟨[], CRd.one (prep_nil _ _ _), by simp, fun a ha => by cases ha⟩
    · obtain ⟨y0, ⟨cs0, hc0, _⟩, _⟩ := hi 0 h0
      let g : Nat → α := fun i => if h : i < len then Classical.choose (hi i h) else y0
      have hg : ∀ i, i < len → (∃ cs', W.cells? base (a.add (i * k)) k = some cs' ∧ CRd hT cs' (f (g i))) ∧ Q (g i) := by
        intro i hlt
        have : g i = Classical.choose (hi i hlt) := by simp [g, hlt]
        rw [this]
        exact Classical.choose_spec (hi i hlt)
      obtain ⟨b, off, spot⟩ := a
      have hs0 : spot = none := by
        obtain ⟨_, hl, hat⟩ := World.cells?_some hc0
        have h1 := hat 0 hk0
        rw [List.getElem?_eq_getElem (by omega)] at h1
        have := World.cell?_spot h1
        simpa [Addr.add] using this
      subst hs0
      refine ⟨(List.range len).map g, CRd.one ?_, (by rw [List.length_map, List.length_range]; exact hww.2), ?_⟩
      · have cell : ∀ i, i < len → ∀ j, j < k → ∃ u y, W.cell? ⟨b, off + (i * k + j), none⟩ = some u ∧ (f (g i))[j]? = some y ∧ PRep (RW hT) u y := by
          intro i hlt j hj
          obtain ⟨⟨cs', hc, hcr⟩, _⟩ := hg i hlt
          obtain ⟨_, hl, hat⟩ := World.cells?_some hc
          have h1 := hat j hj
          rw [List.getElem?_eq_getElem (by omega)] at h1
          have hfl := hf (g i)
          refine ⟨_, _, ?_, List.getElem?_eq_getElem (by omega), hcr.2 j _ _ (List.getElem?_eq_getElem (by omega)) (List.getElem?_eq_getElem (by omega))⟩
          rw [addr_add, addr_add, Nat.add_assoc] at h1
          exact h1
        refine .lst (some ⟨b, off, none⟩) len cap _ k (fun j => (W.cell? ⟨b, off + j, none⟩).getD (.bool false)) b off (by simp) hlc ?_ (fun _ => rfl) ?_ ?_
        · intro e he
          simp only [List.map_map, List.mem_map] at he
          obtain ⟨i, _, rfl⟩ := he
          exact hf _
        · intro j hj
          have hd : j / k < len := by rw [Nat.div_lt_iff_lt_mul hk0]; exact hj
          obtain ⟨u, y, h1, _, _⟩ := cell (j / k) hd (j % k) (Nat.mod_lt _ hk0)
          have hjj : j / k * k + j % k = j := by rw [Nat.mul_comm]; exact Nat.div_add_mod j k
          rw [hjj] at h1
          show W.cell? _ = _
          rw [h1]; rfl
        · intro i e j x he hxx
          have hlt : i < len := by have := (List.getElem?_eq_some_iff.1 he).1; simpa using this
          have : e = f (g i) := by simp [hlt] at he; exact he.symm
          subst this
          have hj : j < k := by have := (List.getElem?_eq_some_iff.1 hxx).1; rw [hf] at this; exact this
          obtain ⟨u, y, h1, h2, h3⟩ := cell i hlt j hj
          rw [h2] at hxx
          obtain rfl := Option.some.inj hxx
          rw [h1]; exact h3
      · intro a ha
        simp only [List.mem_map, List.mem_range] at ha
        obtain ⟨i, hlt, rfl⟩ := ha
        exact (hg i hlt).2
theorem fld {s : TypeId} {x : DataW H × List MemPlace} {fs : Array Field} {n : Nat} {cs : List Value} {xs : List (DataW H × List MemPlace)} (hs : Tryz.prog.underlying s = some (.struct fs)) (hx : x = (.agg (xs.map (·.1)), xs.flatMap (·.2))) (hw : WOk s x.1) (hl : xs.length = fs.size) (hf : ∀ (i : Nat) (f : Field), fs[i]? = some f → DataW.trod enc Tryz.prog W base spare held n f.type ((cs.drop f.offset).take (Tryz.prog.cellsOf f.type)) = xs[i]?)
    (i : Nat) {f : Field} {t o k : Nat} (hi : fs[i]? = some f) (h1 : f.type = t) (h2 : f.offset = o) (h3 : Tryz.prog.cellsOf t = k) : ∃ y, DataW.trod enc Tryz.prog W base spare held n t ((cs.drop o).take k) = some y ∧ WOk t y.1 := by
  have hlt : i < fs.size := (Array.getElem?_eq_some_iff.1 hi).1
  have := hf i f hi
  rw [h1, h2, h3, List.getElem?_eq_getElem (by omega)] at this
  refine ⟨_, this, fun m hm => ?_⟩
  rw [hx] at hw
  unfold WOk at hw
  simp only [DataW.weights, hs] at hw
  refine hw m (wok_each (i := i) ?_ ?_ m hm)
  · rw [List.getElem?_map, Array.getElem?_toList, hi]; simp [h1]
  · rw [List.getElem?_map, List.getElem?_eq_getElem (by omega)]; rfl
end
structure okCla (x : Cla) : Prop where
  kind : IOk x.kind
  lo : IOk x.lo
  hi : IOk x.hi
section
variable {H : Type} {enc : TypeId × Value → H} {W : World} {hT : TabR (fun b o => W.cell? ⟨b, o, none⟩)} {base : Nat} {spare : Nat → Bool} {held : Bool}
theorem rd_Cla : ∀ (fuel : Nat) {cs : List Value} {x : DataW H × List MemPlace}, DataW.trod enc Tryz.prog W base spare held fuel 24 cs = some x → WOk 24 x.1 → ∃ a : Cla, CRd hT cs (cCla a) ∧ okCla a := by
  intro fuel
  intro cs x h hw
  obtain ⟨xs, n, hfu, hxe, hlen, hxs, hf⟩ := DataW.trod_struct Tryz.underlying24 h
  rw [show Tryz.prog.cellsOf 24 = 3 by kernel_rfl] at hlen
  obtain ⟨c0, c1, c2, rfl⟩ := list3 hlen
  obtain ⟨y0, h0, w0⟩ := fld Tryz.underlying24 hxe hw hxs hf 0 (t := 3) (o := 0) (k := 1) rfl rfl rfl (by kernel_rfl)
  replace h0 : DataW.trod enc Tryz.prog W base spare held n 3 [c0] = some y0 := h0
  obtain ⟨l0, r0, q0⟩ := read_int Tryz.underlying3 h0
  obtain ⟨y1, h1, w1⟩ := fld Tryz.underlying24 hxe hw hxs hf 1 (t := 3) (o := 1) (k := 1) rfl rfl rfl (by kernel_rfl)
  replace h1 : DataW.trod enc Tryz.prog W base spare held n 3 [c1] = some y1 := h1
  obtain ⟨l1, r1, q1⟩ := read_int Tryz.underlying3 h1
  obtain ⟨y2, h2, w2⟩ := fld Tryz.underlying24 hxe hw hxs hf 2 (t := 3) (o := 2) (k := 1) rfl rfl rfl (by kernel_rfl)
  replace h2 : DataW.trod enc Tryz.prog W base spare held n 3 [c2] = some y2 := h2
  obtain ⟨l2, r2, q2⟩ := read_int Tryz.underlying3 h2
  exact ⟨⟨l0, l1, l2⟩, ((r0.app r1).app r2), ⟨q0, q1, q2⟩⟩
end
structure okVal (x : Val) : Prop where
  kind : IOk x.kind
  int : IOk x.int
  text : SOk x.text
section
variable {H : Type} {enc : TypeId × Value → H} {W : World} {hT : TabR (fun b o => W.cell? ⟨b, o, none⟩)} {base : Nat} {spare : Nat → Bool} {held : Bool}
theorem rd_Val : ∀ (fuel : Nat) {cs : List Value} {x : DataW H × List MemPlace}, DataW.trod enc Tryz.prog W base spare held fuel 57 cs = some x → WOk 57 x.1 → ∃ a : Val, CRd hT cs (cV a) ∧ okVal a := by
  intro fuel
  intro cs x h hw
  obtain ⟨xs, n, hfu, hxe, hlen, hxs, hf⟩ := DataW.trod_struct Tryz.underlying57 h
  rw [show Tryz.prog.cellsOf 57 = 3 by kernel_rfl] at hlen
  obtain ⟨c0, c1, c2, rfl⟩ := list3 hlen
  obtain ⟨y0, h0, w0⟩ := fld Tryz.underlying57 hxe hw hxs hf 0 (t := 3) (o := 0) (k := 1) rfl rfl rfl (by kernel_rfl)
  replace h0 : DataW.trod enc Tryz.prog W base spare held n 3 [c0] = some y0 := h0
  obtain ⟨l0, r0, q0⟩ := read_int Tryz.underlying3 h0
  obtain ⟨y1, h1, w1⟩ := fld Tryz.underlying57 hxe hw hxs hf 1 (t := 3) (o := 1) (k := 1) rfl rfl rfl (by kernel_rfl)
  replace h1 : DataW.trod enc Tryz.prog W base spare held n 3 [c1] = some y1 := h1
  obtain ⟨l1, r1, q1⟩ := read_int Tryz.underlying3 h1
  obtain ⟨y2, h2, w2⟩ := fld Tryz.underlying57 hxe hw hxs hf 2 (t := 9) (o := 2) (k := 1) rfl rfl rfl (by kernel_rfl)
  replace h2 : DataW.trod enc Tryz.prog W base spare held n 9 [c2] = some y2 := h2
  obtain ⟨l2, r2, q2⟩ := read_str Tryz.underlying9 h2
  exact ⟨⟨l0, l1, l2⟩, ((r0.app r1).app r2), ⟨q0, q1, q2⟩⟩
theorem rd_l34 {cs : List Value} {fuel : Nat} {x : DataW H × List MemPlace} (h : DataW.trod enc Tryz.prog W base spare held fuel 34 cs = some x) (hw : WOk 34 x.1) : ∃ l : List Int, CRd hT cs [.lst (l.map (fun x => [AC.int .i64 x]))] ∧ LOk 8 IOk l :=
  read_slice (k := 1) (f := (fun x => [AC.int .i64 x])) (Q := IOk) Tryz.underlying34 (by kernel_rfl) (by kernel_rfl) (by decide) (fun _ => rfl) h hw (fun f c x _ h hw => read_int Tryz.underlying3 h)
theorem rd_l43 {cs : List Value} {fuel : Nat} {x : DataW H × List MemPlace} (h : DataW.trod enc Tryz.prog W base spare held fuel 43 cs = some x) (hw : WOk 43 x.1) : ∃ l : List Val, CRd hT cs [.lst (l.map cV)] ∧ LOk 32 okVal l :=
  read_slice (k := 3) (f := cV) (Q := okVal) Tryz.underlying43 (by kernel_rfl) (by kernel_rfl) (by decide) (fun _ => rfl) h hw (fun f c x _ h hw => rd_Val f h hw)
theorem rd_l37 {cs : List Value} {fuel : Nat} {x : DataW H × List MemPlace} (h : DataW.trod enc Tryz.prog W base spare held fuel 37 cs = some x) (hw : WOk 37 x.1) : ∃ l : List (List Val), CRd hT cs [.lst (l.map (fun x => [AC.lst (x.map cV)]))] ∧ LOk 24 (LOk 32 okVal) l :=
  read_slice (k := 1) (f := (fun x => [AC.lst (x.map cV)])) (Q := (LOk 32 okVal)) Tryz.underlying37 (by kernel_rfl) (by kernel_rfl) (by decide) (fun _ => rfl) h hw (fun f c x _ h hw => rd_l43 h hw)
end
structure okBag (x : Bag) : Prop where
  kinds : (LOk 8 IOk) x.kinds
  rows : (LOk 24 (LOk 32 okVal)) x.rows
section
variable {H : Type} {enc : TypeId × Value → H} {W : World} {hT : TabR (fun b o => W.cell? ⟨b, o, none⟩)} {base : Nat} {spare : Nat → Bool} {held : Bool}
theorem rd_Bag : ∀ (fuel : Nat) {cs : List Value} {x : DataW H × List MemPlace}, DataW.trod enc Tryz.prog W base spare held fuel 39 cs = some x → WOk 39 x.1 → ∃ a : Bag, CRd hT cs (cBag a) ∧ okBag a := by
  intro fuel
  intro cs x h hw
  obtain ⟨xs, n, hfu, hxe, hlen, hxs, hf⟩ := DataW.trod_struct Tryz.underlying39 h
  rw [show Tryz.prog.cellsOf 39 = 2 by kernel_rfl] at hlen
  obtain ⟨c0, c1, rfl⟩ := list2 hlen
  obtain ⟨y0, h0, w0⟩ := fld Tryz.underlying39 hxe hw hxs hf 0 (t := 34) (o := 0) (k := 1) rfl rfl rfl (by kernel_rfl)
  replace h0 : DataW.trod enc Tryz.prog W base spare held n 34 [c0] = some y0 := h0
  obtain ⟨l0, r0, q0⟩ := rd_l34 h0 w0
  obtain ⟨y1, h1, w1⟩ := fld Tryz.underlying39 hxe hw hxs hf 1 (t := 37) (o := 1) (k := 1) rfl rfl rfl (by kernel_rfl)
  replace h1 : DataW.trod enc Tryz.prog W base spare held n 37 [c1] = some y1 := h1
  obtain ⟨l1, r1, q1⟩ := rd_l37 h1 w1
  exact ⟨⟨l0, l1⟩, (r0.app r1), ⟨q0, q1⟩⟩
end
structure okPer (x : Per) : Prop where
  lo : IOk x.lo
  hi : IOk x.hi
section
variable {H : Type} {enc : TypeId × Value → H} {W : World} {hT : TabR (fun b o => W.cell? ⟨b, o, none⟩)} {base : Nat} {spare : Nat → Bool} {held : Bool}
theorem rd_Per : ∀ (fuel : Nat) {cs : List Value} {x : DataW H × List MemPlace}, DataW.trod enc Tryz.prog W base spare held fuel 45 cs = some x → WOk 45 x.1 → ∃ a : Per, CRd hT cs (cPer a) ∧ okPer a := by
  intro fuel
  intro cs x h hw
  obtain ⟨xs, n, hfu, hxe, hlen, hxs, hf⟩ := DataW.trod_struct Tryz.underlying45 h
  rw [show Tryz.prog.cellsOf 45 = 2 by kernel_rfl] at hlen
  obtain ⟨c0, c1, rfl⟩ := list2 hlen
  obtain ⟨y0, h0, w0⟩ := fld Tryz.underlying45 hxe hw hxs hf 0 (t := 3) (o := 0) (k := 1) rfl rfl rfl (by kernel_rfl)
  replace h0 : DataW.trod enc Tryz.prog W base spare held n 3 [c0] = some y0 := h0
  obtain ⟨l0, r0, q0⟩ := read_int Tryz.underlying3 h0
  obtain ⟨y1, h1, w1⟩ := fld Tryz.underlying45 hxe hw hxs hf 1 (t := 3) (o := 1) (k := 1) rfl rfl rfl (by kernel_rfl)
  replace h1 : DataW.trod enc Tryz.prog W base spare held n 3 [c1] = some y1 := h1
  obtain ⟨l1, r1, q1⟩ := read_int Tryz.underlying3 h1
  exact ⟨⟨l0, l1⟩, (r0.app r1), ⟨q0, q1⟩⟩
end
structure okVer (x : Ver) : Prop where
  id : IOk x.id
  schema : IOk x.schema
  row : (LOk 32 okVal) x.row
  valid : okPer x.valid
  system : okPer x.system
  by_ : IOk x.by_
  til : IOk x.til
section
variable {H : Type} {enc : TypeId × Value → H} {W : World} {hT : TabR (fun b o => W.cell? ⟨b, o, none⟩)} {base : Nat} {spare : Nat → Bool} {held : Bool}
theorem rd_Ver : ∀ (fuel : Nat) {cs : List Value} {x : DataW H × List MemPlace}, DataW.trod enc Tryz.prog W base spare held fuel 47 cs = some x → WOk 47 x.1 → ∃ a : Ver, CRd hT cs (cVer a) ∧ okVer a := by
  intro fuel
  intro cs x h hw
  obtain ⟨xs, n, hfu, hxe, hlen, hxs, hf⟩ := DataW.trod_struct Tryz.underlying47 h
  rw [show Tryz.prog.cellsOf 47 = 9 by kernel_rfl] at hlen
  obtain ⟨c0, c1, c2, c3, c4, c5, c6, c7, c8, rfl⟩ := list9 hlen
  obtain ⟨y0, h0, w0⟩ := fld Tryz.underlying47 hxe hw hxs hf 0 (t := 3) (o := 0) (k := 1) rfl rfl rfl (by kernel_rfl)
  replace h0 : DataW.trod enc Tryz.prog W base spare held n 3 [c0] = some y0 := h0
  obtain ⟨l0, r0, q0⟩ := read_int Tryz.underlying3 h0
  obtain ⟨y1, h1, w1⟩ := fld Tryz.underlying47 hxe hw hxs hf 1 (t := 3) (o := 1) (k := 1) rfl rfl rfl (by kernel_rfl)
  replace h1 : DataW.trod enc Tryz.prog W base spare held n 3 [c1] = some y1 := h1
  obtain ⟨l1, r1, q1⟩ := read_int Tryz.underlying3 h1
  obtain ⟨y2, h2, w2⟩ := fld Tryz.underlying47 hxe hw hxs hf 2 (t := 43) (o := 2) (k := 1) rfl rfl rfl (by kernel_rfl)
  replace h2 : DataW.trod enc Tryz.prog W base spare held n 43 [c2] = some y2 := h2
  obtain ⟨l2, r2, q2⟩ := rd_l43 h2 w2
  obtain ⟨y3, h3, w3⟩ := fld Tryz.underlying47 hxe hw hxs hf 3 (t := 45) (o := 3) (k := 2) rfl rfl rfl (by kernel_rfl)
  replace h3 : DataW.trod enc Tryz.prog W base spare held n 45 [c3, c4] = some y3 := h3
  obtain ⟨l3, r3, q3⟩ := rd_Per n h3 w3
  obtain ⟨y4, h4, w4⟩ := fld Tryz.underlying47 hxe hw hxs hf 4 (t := 45) (o := 5) (k := 2) rfl rfl rfl (by kernel_rfl)
  replace h4 : DataW.trod enc Tryz.prog W base spare held n 45 [c5, c6] = some y4 := h4
  obtain ⟨l4, r4, q4⟩ := rd_Per n h4 w4
  obtain ⟨y5, h5, w5⟩ := fld Tryz.underlying47 hxe hw hxs hf 5 (t := 3) (o := 7) (k := 1) rfl rfl rfl (by kernel_rfl)
  replace h5 : DataW.trod enc Tryz.prog W base spare held n 3 [c7] = some y5 := h5
  obtain ⟨l5, r5, q5⟩ := read_int Tryz.underlying3 h5
  obtain ⟨y6, h6, w6⟩ := fld Tryz.underlying47 hxe hw hxs hf 6 (t := 3) (o := 8) (k := 1) rfl rfl rfl (by kernel_rfl)
  replace h6 : DataW.trod enc Tryz.prog W base spare held n 3 [c8] = some y6 := h6
  obtain ⟨l6, r6, q6⟩ := read_int Tryz.underlying3 h6
  exact ⟨⟨l0, l1, l2, l3, l4, l5, l6⟩, ((((((r0.app r1).app r2).app r3).app r4).app r5).app r6), ⟨q0, q1, q2, q3, q4, q5, q6⟩⟩
end
inductive okEx : Ex → Prop
  | mk {op : Int} {int : Int} {v : Val} {nm : ByteArray} {args : (List Ex)} (h0 : IOk op) (h1 : IOk int) (h2 : okVal v) (h3 : SOk nm) (h4 : args.length * 88 ≤ reachBytes) (g4 : ∀ a ∈ args, okEx a) : okEx (.mk op int v nm args)
section
variable {H : Type} {enc : TypeId × Value → H} {W : World} {hT : TabR (fun b o => W.cell? ⟨b, o, none⟩)} {base : Nat} {spare : Nat → Bool} {held : Bool}
theorem rd_Ex : ∀ (fuel : Nat) {cs : List Value} {x : DataW H × List MemPlace}, DataW.trod enc Tryz.prog W base spare held fuel 60 cs = some x → WOk 60 x.1 → ∃ a : Ex, CRd hT cs (tE a) ∧ okEx a := by
  intro fuel
  induction fuel using Nat.strongRecOn with
  | ind fuel ih =>
  intro cs x h hw
  obtain ⟨xs, n, hfu, hxe, hlen, hxs, hf⟩ := DataW.trod_struct Tryz.underlying60 h
  rw [show Tryz.prog.cellsOf 60 = 7 by kernel_rfl] at hlen
  obtain ⟨c0, c1, c2, c3, c4, c5, c6, rfl⟩ := list7 hlen
  obtain ⟨y0, h0, w0⟩ := fld Tryz.underlying60 hxe hw hxs hf 0 (t := 3) (o := 0) (k := 1) rfl rfl rfl (by kernel_rfl)
  replace h0 : DataW.trod enc Tryz.prog W base spare held n 3 [c0] = some y0 := h0
  obtain ⟨l0, r0, q0⟩ := read_int Tryz.underlying3 h0
  obtain ⟨y1, h1, w1⟩ := fld Tryz.underlying60 hxe hw hxs hf 1 (t := 3) (o := 1) (k := 1) rfl rfl rfl (by kernel_rfl)
  replace h1 : DataW.trod enc Tryz.prog W base spare held n 3 [c1] = some y1 := h1
  obtain ⟨l1, r1, q1⟩ := read_int Tryz.underlying3 h1
  obtain ⟨y2, h2, w2⟩ := fld Tryz.underlying60 hxe hw hxs hf 2 (t := 57) (o := 2) (k := 3) rfl rfl rfl (by kernel_rfl)
  replace h2 : DataW.trod enc Tryz.prog W base spare held n 57 [c2, c3, c4] = some y2 := h2
  obtain ⟨l2, r2, q2⟩ := rd_Val n h2 w2
  obtain ⟨y3, h3, w3⟩ := fld Tryz.underlying60 hxe hw hxs hf 3 (t := 9) (o := 5) (k := 1) rfl rfl rfl (by kernel_rfl)
  replace h3 : DataW.trod enc Tryz.prog W base spare held n 9 [c5] = some y3 := h3
  obtain ⟨l3, r3, q3⟩ := read_str Tryz.underlying9 h3
  obtain ⟨y4, h4, w4⟩ := fld Tryz.underlying60 hxe hw hxs hf 4 (t := 58) (o := 6) (k := 1) rfl rfl rfl (by kernel_rfl)
  replace h4 : DataW.trod enc Tryz.prog W base spare held n 58 [c6] = some y4 := h4
  obtain ⟨l4, r4, q4⟩ := read_slice (k := 7) (f := tE) (Q := okEx) Tryz.underlying58 (by kernel_rfl) (by kernel_rfl) (by decide) tE_len h4 w4 (fun f c x hlt h hw => ih f (by omega) h hw)
  exact ⟨.mk l0 l1 l2 l3 l4, (by rw [tE_eq]; exact ((((r0.app r1).app r2).app r3).app r4)), .mk q0 q1 q2 q3 q4.1 q4.2⟩
end
structure okAg (x : Ag) : Prop where
  op : IOk x.op
  arg : IOk x.arg
section
variable {H : Type} {enc : TypeId × Value → H} {W : World} {hT : TabR (fun b o => W.cell? ⟨b, o, none⟩)} {base : Nat} {spare : Nat → Bool} {held : Bool}
theorem rd_Ag : ∀ (fuel : Nat) {cs : List Value} {x : DataW H × List MemPlace}, DataW.trod enc Tryz.prog W base spare held fuel 198 cs = some x → WOk 198 x.1 → ∃ a : Ag, CRd hT cs (cAg a) ∧ okAg a := by
  intro fuel
  intro cs x h hw
  obtain ⟨xs, n, hfu, hxe, hlen, hxs, hf⟩ := DataW.trod_struct Tryz.underlying198 h
  rw [show Tryz.prog.cellsOf 198 = 2 by kernel_rfl] at hlen
  obtain ⟨c0, c1, rfl⟩ := list2 hlen
  obtain ⟨y0, h0, w0⟩ := fld Tryz.underlying198 hxe hw hxs hf 0 (t := 3) (o := 0) (k := 1) rfl rfl rfl (by kernel_rfl)
  replace h0 : DataW.trod enc Tryz.prog W base spare held n 3 [c0] = some y0 := h0
  obtain ⟨l0, r0, q0⟩ := read_int Tryz.underlying3 h0
  obtain ⟨y1, h1, w1⟩ := fld Tryz.underlying198 hxe hw hxs hf 1 (t := 3) (o := 1) (k := 1) rfl rfl rfl (by kernel_rfl)
  replace h1 : DataW.trod enc Tryz.prog W base spare held n 3 [c1] = some y1 := h1
  obtain ⟨l1, r1, q1⟩ := read_int Tryz.underlying3 h1
  exact ⟨⟨l0, l1⟩, (r0.app r1), ⟨q0, q1⟩⟩
theorem rd_l58 {cs : List Value} {fuel : Nat} {x : DataW H × List MemPlace} (h : DataW.trod enc Tryz.prog W base spare held fuel 58 cs = some x) (hw : WOk 58 x.1) : ∃ l : List Ex, CRd hT cs [.lst (l.map tE)] ∧ LOk 88 okEx l :=
  read_slice (k := 7) (f := tE) (Q := okEx) Tryz.underlying58 (by kernel_rfl) (by kernel_rfl) (by decide) tE_len h hw (fun f c x _ h hw => rd_Ex f h hw)
theorem rd_l63 {cs : List Value} {fuel : Nat} {x : DataW H × List MemPlace} (h : DataW.trod enc Tryz.prog W base spare held fuel 63 cs = some x) (hw : WOk 63 x.1) : ∃ l : List Ag, CRd hT cs [.lst (l.map cAg)] ∧ LOk 16 okAg l :=
  read_slice (k := 2) (f := cAg) (Q := okAg) Tryz.underlying63 (by kernel_rfl) (by kernel_rfl) (by decide) (fun _ => rfl) h hw (fun f c x _ h hw => rd_Ag f h hw)
end
inductive okPl : Pl → Prop
  | mk {op : Int} {int : Int} {kinds : (List Int)} {rows : (List (List Val))} {pred : Ex} {exprs : (List Ex)} {keys : (List Int)} {aggs : (List Ag)} {inputs : (List Pl)} (h0 : IOk op) (h1 : IOk int) (h2 : (LOk 8 IOk) kinds) (h3 : (LOk 24 (LOk 32 okVal)) rows) (h4 : okEx pred) (h5 : (LOk 88 okEx) exprs) (h6 : (LOk 8 IOk) keys) (h7 : (LOk 16 okAg) aggs) (h8 : inputs.length * 248 ≤ reachBytes) (g8 : ∀ a ∈ inputs, okPl a) : okPl (.mk op int kinds rows pred exprs keys aggs inputs)
section
variable {H : Type} {enc : TypeId × Value → H} {W : World} {hT : TabR (fun b o => W.cell? ⟨b, o, none⟩)} {base : Nat} {spare : Nat → Bool} {held : Bool}
theorem rd_Pl : ∀ (fuel : Nat) {cs : List Value} {x : DataW H × List MemPlace}, DataW.trod enc Tryz.prog W base spare held fuel 66 cs = some x → WOk 66 x.1 → ∃ a : Pl, CRd hT cs (tP a) ∧ okPl a := by
  intro fuel
  induction fuel using Nat.strongRecOn with
  | ind fuel ih =>
  intro cs x h hw
  obtain ⟨xs, n, hfu, hxe, hlen, hxs, hf⟩ := DataW.trod_struct Tryz.underlying66 h
  rw [show Tryz.prog.cellsOf 66 = 15 by kernel_rfl] at hlen
  obtain ⟨c0, c1, c2, c3, c4, c5, c6, c7, c8, c9, c10, c11, c12, c13, c14, rfl⟩ := list15 hlen
  obtain ⟨y0, h0, w0⟩ := fld Tryz.underlying66 hxe hw hxs hf 0 (t := 3) (o := 0) (k := 1) rfl rfl rfl (by kernel_rfl)
  replace h0 : DataW.trod enc Tryz.prog W base spare held n 3 [c0] = some y0 := h0
  obtain ⟨l0, r0, q0⟩ := read_int Tryz.underlying3 h0
  obtain ⟨y1, h1, w1⟩ := fld Tryz.underlying66 hxe hw hxs hf 1 (t := 3) (o := 1) (k := 1) rfl rfl rfl (by kernel_rfl)
  replace h1 : DataW.trod enc Tryz.prog W base spare held n 3 [c1] = some y1 := h1
  obtain ⟨l1, r1, q1⟩ := read_int Tryz.underlying3 h1
  obtain ⟨y2, h2, w2⟩ := fld Tryz.underlying66 hxe hw hxs hf 2 (t := 34) (o := 2) (k := 1) rfl rfl rfl (by kernel_rfl)
  replace h2 : DataW.trod enc Tryz.prog W base spare held n 34 [c2] = some y2 := h2
  obtain ⟨l2, r2, q2⟩ := rd_l34 h2 w2
  obtain ⟨y3, h3, w3⟩ := fld Tryz.underlying66 hxe hw hxs hf 3 (t := 37) (o := 3) (k := 1) rfl rfl rfl (by kernel_rfl)
  replace h3 : DataW.trod enc Tryz.prog W base spare held n 37 [c3] = some y3 := h3
  obtain ⟨l3, r3, q3⟩ := rd_l37 h3 w3
  obtain ⟨y4, h4, w4⟩ := fld Tryz.underlying66 hxe hw hxs hf 4 (t := 60) (o := 4) (k := 7) rfl rfl rfl (by kernel_rfl)
  replace h4 : DataW.trod enc Tryz.prog W base spare held n 60 [c4, c5, c6, c7, c8, c9, c10] = some y4 := h4
  obtain ⟨l4, r4, q4⟩ := rd_Ex n h4 w4
  obtain ⟨y5, h5, w5⟩ := fld Tryz.underlying66 hxe hw hxs hf 5 (t := 58) (o := 11) (k := 1) rfl rfl rfl (by kernel_rfl)
  replace h5 : DataW.trod enc Tryz.prog W base spare held n 58 [c11] = some y5 := h5
  obtain ⟨l5, r5, q5⟩ := rd_l58 h5 w5
  obtain ⟨y6, h6, w6⟩ := fld Tryz.underlying66 hxe hw hxs hf 6 (t := 34) (o := 12) (k := 1) rfl rfl rfl (by kernel_rfl)
  replace h6 : DataW.trod enc Tryz.prog W base spare held n 34 [c12] = some y6 := h6
  obtain ⟨l6, r6, q6⟩ := rd_l34 h6 w6
  obtain ⟨y7, h7, w7⟩ := fld Tryz.underlying66 hxe hw hxs hf 7 (t := 63) (o := 13) (k := 1) rfl rfl rfl (by kernel_rfl)
  replace h7 : DataW.trod enc Tryz.prog W base spare held n 63 [c13] = some y7 := h7
  obtain ⟨l7, r7, q7⟩ := rd_l63 h7 w7
  obtain ⟨y8, h8, w8⟩ := fld Tryz.underlying66 hxe hw hxs hf 8 (t := 64) (o := 14) (k := 1) rfl rfl rfl (by kernel_rfl)
  replace h8 : DataW.trod enc Tryz.prog W base spare held n 64 [c14] = some y8 := h8
  obtain ⟨l8, r8, q8⟩ := read_slice (k := 15) (f := tP) (Q := okPl) Tryz.underlying64 (by kernel_rfl) (by kernel_rfl) (by decide) tP_len h8 w8 (fun f c x hlt h hw => ih f (by omega) h hw)
  exact ⟨.mk l0 l1 l2 l3 l4 l5 l6 l7 l8, (by rw [tP_eq]; rw [tE_eq] at r4; exact ((((((((r0.app r1).app r2).app r3).app r4).app r5).app r6).app r7).app r8)), .mk q0 q1 q2 q3 q4 q5 q6 q7 q8.1 q8.2⟩
theorem rd_l22 {cs : List Value} {fuel : Nat} {x : DataW H × List MemPlace} (h : DataW.trod enc Tryz.prog W base spare held fuel 22 cs = some x) (hw : WOk 22 x.1) : ∃ l : List Ver, CRd hT cs [.lst (l.map cVer)] ∧ LOk 88 okVer l :=
  read_slice (k := 9) (f := cVer) (Q := okVer) Tryz.underlying22 (by kernel_rfl) (by kernel_rfl) (by decide) (fun _ => rfl) h hw (fun f c x _ h hw => rd_Ver f h hw)
end
structure okGvn (x : Gvn) : Prop where
  kinds : (LOk 8 IOk) x.kinds
  versions : (LOk 88 okVer) x.versions
section
variable {H : Type} {enc : TypeId × Value → H} {W : World} {hT : TabR (fun b o => W.cell? ⟨b, o, none⟩)} {base : Nat} {spare : Nat → Bool} {held : Bool}
theorem rd_Gvn : ∀ (fuel : Nat) {cs : List Value} {x : DataW H × List MemPlace}, DataW.trod enc Tryz.prog W base spare held fuel 73 cs = some x → WOk 73 x.1 → ∃ a : Gvn, CRd hT cs (cGvn a) ∧ okGvn a := by
  intro fuel
  intro cs x h hw
  obtain ⟨xs, n, hfu, hxe, hlen, hxs, hf⟩ := DataW.trod_struct Tryz.underlying73 h
  rw [show Tryz.prog.cellsOf 73 = 2 by kernel_rfl] at hlen
  obtain ⟨c0, c1, rfl⟩ := list2 hlen
  obtain ⟨y0, h0, w0⟩ := fld Tryz.underlying73 hxe hw hxs hf 0 (t := 34) (o := 0) (k := 1) rfl rfl rfl (by kernel_rfl)
  replace h0 : DataW.trod enc Tryz.prog W base spare held n 34 [c0] = some y0 := h0
  obtain ⟨l0, r0, q0⟩ := rd_l34 h0 w0
  obtain ⟨y1, h1, w1⟩ := fld Tryz.underlying73 hxe hw hxs hf 1 (t := 22) (o := 1) (k := 1) rfl rfl rfl (by kernel_rfl)
  replace h1 : DataW.trod enc Tryz.prog W base spare held n 22 [c1] = some y1 := h1
  obtain ⟨l1, r1, q1⟩ := rd_l22 h1 w1
  exact ⟨⟨l0, l1⟩, (r0.app r1), ⟨q0, q1⟩⟩
end
structure okFct (x : Fct) : Prop where
  row : (LOk 32 okVal) x.row
  valid : okPer x.valid
section
variable {H : Type} {enc : TypeId × Value → H} {W : World} {hT : TabR (fun b o => W.cell? ⟨b, o, none⟩)} {base : Nat} {spare : Nat → Bool} {held : Bool}
theorem rd_Fct : ∀ (fuel : Nat) {cs : List Value} {x : DataW H × List MemPlace}, DataW.trod enc Tryz.prog W base spare held fuel 80 cs = some x → WOk 80 x.1 → ∃ a : Fct, CRd hT cs (cFct a) ∧ okFct a := by
  intro fuel
  intro cs x h hw
  obtain ⟨xs, n, hfu, hxe, hlen, hxs, hf⟩ := DataW.trod_struct Tryz.underlying80 h
  rw [show Tryz.prog.cellsOf 80 = 3 by kernel_rfl] at hlen
  obtain ⟨c0, c1, c2, rfl⟩ := list3 hlen
  obtain ⟨y0, h0, w0⟩ := fld Tryz.underlying80 hxe hw hxs hf 0 (t := 43) (o := 0) (k := 1) rfl rfl rfl (by kernel_rfl)
  replace h0 : DataW.trod enc Tryz.prog W base spare held n 43 [c0] = some y0 := h0
  obtain ⟨l0, r0, q0⟩ := rd_l43 h0 w0
  obtain ⟨y1, h1, w1⟩ := fld Tryz.underlying80 hxe hw hxs hf 1 (t := 45) (o := 1) (k := 2) rfl rfl rfl (by kernel_rfl)
  replace h1 : DataW.trod enc Tryz.prog W base spare held n 45 [c1, c2] = some y1 := h1
  obtain ⟨l1, r1, q1⟩ := rd_Per n h1 w1
  exact ⟨⟨l0, l1⟩, (r0.app r1), ⟨q0, q1⟩⟩
end
structure okStp (x : Stp) : Prop where
  lo : IOk x.lo
  n : IOk x.n
section
variable {H : Type} {enc : TypeId × Value → H} {W : World} {hT : TabR (fun b o => W.cell? ⟨b, o, none⟩)} {base : Nat} {spare : Nat → Bool} {held : Bool}
theorem rd_Stp : ∀ (fuel : Nat) {cs : List Value} {x : DataW H × List MemPlace}, DataW.trod enc Tryz.prog W base spare held fuel 143 cs = some x → WOk 143 x.1 → ∃ a : Stp, CRd hT cs (cStp a) ∧ okStp a := by
  intro fuel
  intro cs x h hw
  obtain ⟨xs, n, hfu, hxe, hlen, hxs, hf⟩ := DataW.trod_struct Tryz.underlying143 h
  rw [show Tryz.prog.cellsOf 143 = 2 by kernel_rfl] at hlen
  obtain ⟨c0, c1, rfl⟩ := list2 hlen
  obtain ⟨y0, h0, w0⟩ := fld Tryz.underlying143 hxe hw hxs hf 0 (t := 3) (o := 0) (k := 1) rfl rfl rfl (by kernel_rfl)
  replace h0 : DataW.trod enc Tryz.prog W base spare held n 3 [c0] = some y0 := h0
  obtain ⟨l0, r0, q0⟩ := read_int Tryz.underlying3 h0
  obtain ⟨y1, h1, w1⟩ := fld Tryz.underlying143 hxe hw hxs hf 1 (t := 3) (o := 1) (k := 1) rfl rfl rfl (by kernel_rfl)
  replace h1 : DataW.trod enc Tryz.prog W base spare held n 3 [c1] = some y1 := h1
  obtain ⟨l1, r1, q1⟩ := read_int Tryz.underlying3 h1
  exact ⟨⟨l0, l1⟩, (r0.app r1), ⟨q0, q1⟩⟩
theorem rd_l98 {cs : List Value} {fuel : Nat} {x : DataW H × List MemPlace} (h : DataW.trod enc Tryz.prog W base spare held fuel 98 cs = some x) (hw : WOk 98 x.1) : ∃ l : List Stp, CRd hT cs [.lst (l.map cStp)] ∧ LOk 16 okStp l :=
  read_slice (k := 2) (f := cStp) (Q := okStp) Tryz.underlying98 (by kernel_rfl) (by kernel_rfl) (by decide) (fun _ => rfl) h hw (fun f c x _ h hw => rd_Stp f h hw)
end
structure okSGroup (x : SGroup) : Prop where
  row : (LOk 32 okVal) x.row
  steps : (LOk 16 okStp) x.steps
section
variable {H : Type} {enc : TypeId × Value → H} {W : World} {hT : TabR (fun b o => W.cell? ⟨b, o, none⟩)} {base : Nat} {spare : Nat → Bool} {held : Bool}
theorem rd_SGroup : ∀ (fuel : Nat) {cs : List Value} {x : DataW H × List MemPlace}, DataW.trod enc Tryz.prog W base spare held fuel 100 cs = some x → WOk 100 x.1 → ∃ a : SGroup, CRd hT cs (cSGroup a) ∧ okSGroup a := by
  intro fuel
  intro cs x h hw
  obtain ⟨xs, n, hfu, hxe, hlen, hxs, hf⟩ := DataW.trod_struct Tryz.underlying100 h
  rw [show Tryz.prog.cellsOf 100 = 2 by kernel_rfl] at hlen
  obtain ⟨c0, c1, rfl⟩ := list2 hlen
  obtain ⟨y0, h0, w0⟩ := fld Tryz.underlying100 hxe hw hxs hf 0 (t := 43) (o := 0) (k := 1) rfl rfl rfl (by kernel_rfl)
  replace h0 : DataW.trod enc Tryz.prog W base spare held n 43 [c0] = some y0 := h0
  obtain ⟨l0, r0, q0⟩ := rd_l43 h0 w0
  obtain ⟨y1, h1, w1⟩ := fld Tryz.underlying100 hxe hw hxs hf 1 (t := 98) (o := 1) (k := 1) rfl rfl rfl (by kernel_rfl)
  replace h1 : DataW.trod enc Tryz.prog W base spare held n 98 [c1] = some y1 := h1
  obtain ⟨l1, r1, q1⟩ := rd_l98 h1 w1
  exact ⟨⟨l0, l1⟩, (r0.app r1), ⟨q0, q1⟩⟩
end
structure okPai (x : Pai) : Prop where
  a : IOk x.a
  b : IOk x.b
section
variable {H : Type} {enc : TypeId × Value → H} {W : World} {hT : TabR (fun b o => W.cell? ⟨b, o, none⟩)} {base : Nat} {spare : Nat → Bool} {held : Bool}
theorem rd_Pai : ∀ (fuel : Nat) {cs : List Value} {x : DataW H × List MemPlace}, DataW.trod enc Tryz.prog W base spare held fuel 110 cs = some x → WOk 110 x.1 → ∃ a : Pai, CRd hT cs (cPai a) ∧ okPai a := by
  intro fuel
  intro cs x h hw
  obtain ⟨xs, n, hfu, hxe, hlen, hxs, hf⟩ := DataW.trod_struct Tryz.underlying110 h
  rw [show Tryz.prog.cellsOf 110 = 2 by kernel_rfl] at hlen
  obtain ⟨c0, c1, rfl⟩ := list2 hlen
  obtain ⟨y0, h0, w0⟩ := fld Tryz.underlying110 hxe hw hxs hf 0 (t := 3) (o := 0) (k := 1) rfl rfl rfl (by kernel_rfl)
  replace h0 : DataW.trod enc Tryz.prog W base spare held n 3 [c0] = some y0 := h0
  obtain ⟨l0, r0, q0⟩ := read_int Tryz.underlying3 h0
  obtain ⟨y1, h1, w1⟩ := fld Tryz.underlying110 hxe hw hxs hf 1 (t := 3) (o := 1) (k := 1) rfl rfl rfl (by kernel_rfl)
  replace h1 : DataW.trod enc Tryz.prog W base spare held n 3 [c1] = some y1 := h1
  obtain ⟨l1, r1, q1⟩ := read_int Tryz.underlying3 h1
  exact ⟨⟨l0, l1⟩, (r0.app r1), ⟨q0, q1⟩⟩
theorem rd_l101 {cs : List Value} {fuel : Nat} {x : DataW H × List MemPlace} (h : DataW.trod enc Tryz.prog W base spare held fuel 101 cs = some x) (hw : WOk 101 x.1) : ∃ l : List Per, CRd hT cs [.lst (l.map cPer)] ∧ LOk 16 okPer l :=
  read_slice (k := 2) (f := cPer) (Q := okPer) Tryz.underlying101 (by kernel_rfl) (by kernel_rfl) (by decide) (fun _ => rfl) h hw (fun f c x _ h hw => rd_Per f h hw)
end
structure okSGroupcoalesce (x : SGroupcoalesce) : Prop where
  row : (LOk 32 okVal) x.row
  periods : (LOk 16 okPer) x.periods
section
variable {H : Type} {enc : TypeId × Value → H} {W : World} {hT : TabR (fun b o => W.cell? ⟨b, o, none⟩)} {base : Nat} {spare : Nat → Bool} {held : Bool}
theorem rd_SGroupcoalesce : ∀ (fuel : Nat) {cs : List Value} {x : DataW H × List MemPlace}, DataW.trod enc Tryz.prog W base spare held fuel 136 cs = some x → WOk 136 x.1 → ∃ a : SGroupcoalesce, CRd hT cs (cSGroupcoalesce a) ∧ okSGroupcoalesce a := by
  intro fuel
  intro cs x h hw
  obtain ⟨xs, n, hfu, hxe, hlen, hxs, hf⟩ := DataW.trod_struct Tryz.underlying136 h
  rw [show Tryz.prog.cellsOf 136 = 2 by kernel_rfl] at hlen
  obtain ⟨c0, c1, rfl⟩ := list2 hlen
  obtain ⟨y0, h0, w0⟩ := fld Tryz.underlying136 hxe hw hxs hf 0 (t := 43) (o := 0) (k := 1) rfl rfl rfl (by kernel_rfl)
  replace h0 : DataW.trod enc Tryz.prog W base spare held n 43 [c0] = some y0 := h0
  obtain ⟨l0, r0, q0⟩ := rd_l43 h0 w0
  obtain ⟨y1, h1, w1⟩ := fld Tryz.underlying136 hxe hw hxs hf 1 (t := 101) (o := 1) (k := 1) rfl rfl rfl (by kernel_rfl)
  replace h1 : DataW.trod enc Tryz.prog W base spare held n 101 [c1] = some y1 := h1
  obtain ⟨l1, r1, q1⟩ := rd_l101 h1 w1
  exact ⟨⟨l0, l1⟩, (r0.app r1), ⟨q0, q1⟩⟩
end
structure okSOpen (x : SOpen) : Prop where
  lo : IOk x.lo
  many : IOk x.many
section
variable {H : Type} {enc : TypeId × Value → H} {W : World} {hT : TabR (fun b o => W.cell? ⟨b, o, none⟩)} {base : Nat} {spare : Nat → Bool} {held : Bool}
theorem rd_SOpen : ∀ (fuel : Nat) {cs : List Value} {x : DataW H × List MemPlace}, DataW.trod enc Tryz.prog W base spare held fuel 139 cs = some x → WOk 139 x.1 → ∃ a : SOpen, CRd hT cs (cSOpen a) ∧ okSOpen a := by
  intro fuel
  intro cs x h hw
  obtain ⟨xs, n, hfu, hxe, hlen, hxs, hf⟩ := DataW.trod_struct Tryz.underlying139 h
  rw [show Tryz.prog.cellsOf 139 = 2 by kernel_rfl] at hlen
  obtain ⟨c0, c1, rfl⟩ := list2 hlen
  obtain ⟨y0, h0, w0⟩ := fld Tryz.underlying139 hxe hw hxs hf 0 (t := 3) (o := 0) (k := 1) rfl rfl rfl (by kernel_rfl)
  replace h0 : DataW.trod enc Tryz.prog W base spare held n 3 [c0] = some y0 := h0
  obtain ⟨l0, r0, q0⟩ := read_int Tryz.underlying3 h0
  obtain ⟨y1, h1, w1⟩ := fld Tryz.underlying139 hxe hw hxs hf 1 (t := 3) (o := 1) (k := 1) rfl rfl rfl (by kernel_rfl)
  replace h1 : DataW.trod enc Tryz.prog W base spare held n 3 [c1] = some y1 := h1
  obtain ⟨l1, r1, q1⟩ := read_int Tryz.underlying3 h1
  exact ⟨⟨l0, l1⟩, (r0.app r1), ⟨q0, q1⟩⟩
end
structure okCnt (x : Cnt) : Prop where
  period : okPer x.period
  n : IOk x.n
section
variable {H : Type} {enc : TypeId × Value → H} {W : World} {hT : TabR (fun b o => W.cell? ⟨b, o, none⟩)} {base : Nat} {spare : Nat → Bool} {held : Bool}
theorem rd_Cnt : ∀ (fuel : Nat) {cs : List Value} {x : DataW H × List MemPlace}, DataW.trod enc Tryz.prog W base spare held fuel 150 cs = some x → WOk 150 x.1 → ∃ a : Cnt, CRd hT cs (cCnt a) ∧ okCnt a := by
  intro fuel
  intro cs x h hw
  obtain ⟨xs, n, hfu, hxe, hlen, hxs, hf⟩ := DataW.trod_struct Tryz.underlying150 h
  rw [show Tryz.prog.cellsOf 150 = 3 by kernel_rfl] at hlen
  obtain ⟨c0, c1, c2, rfl⟩ := list3 hlen
  obtain ⟨y0, h0, w0⟩ := fld Tryz.underlying150 hxe hw hxs hf 0 (t := 45) (o := 0) (k := 2) rfl rfl rfl (by kernel_rfl)
  replace h0 : DataW.trod enc Tryz.prog W base spare held n 45 [c0, c1] = some y0 := h0
  obtain ⟨l0, r0, q0⟩ := rd_Per n h0 w0
  obtain ⟨y1, h1, w1⟩ := fld Tryz.underlying150 hxe hw hxs hf 1 (t := 3) (o := 2) (k := 1) rfl rfl rfl (by kernel_rfl)
  replace h1 : DataW.trod enc Tryz.prog W base spare held n 3 [c2] = some y1 := h1
  obtain ⟨l1, r1, q1⟩ := read_int Tryz.underlying3 h1
  exact ⟨⟨l0, l1⟩, (r0.app r1), ⟨q0, q1⟩⟩
end
structure okOrd (x : Ord) : Prop where
  column : IOk x.column
  desc : (fun _ => True) x.desc
section
variable {H : Type} {enc : TypeId × Value → H} {W : World} {hT : TabR (fun b o => W.cell? ⟨b, o, none⟩)} {base : Nat} {spare : Nat → Bool} {held : Bool}
theorem rd_Ord : ∀ (fuel : Nat) {cs : List Value} {x : DataW H × List MemPlace}, DataW.trod enc Tryz.prog W base spare held fuel 185 cs = some x → WOk 185 x.1 → ∃ a : Ord, CRd hT cs (cOrd a) ∧ okOrd a := by
  intro fuel
  intro cs x h hw
  obtain ⟨xs, n, hfu, hxe, hlen, hxs, hf⟩ := DataW.trod_struct Tryz.underlying185 h
  rw [show Tryz.prog.cellsOf 185 = 2 by kernel_rfl] at hlen
  obtain ⟨c0, c1, rfl⟩ := list2 hlen
  obtain ⟨y0, h0, w0⟩ := fld Tryz.underlying185 hxe hw hxs hf 0 (t := 3) (o := 0) (k := 1) rfl rfl rfl (by kernel_rfl)
  replace h0 : DataW.trod enc Tryz.prog W base spare held n 3 [c0] = some y0 := h0
  obtain ⟨l0, r0, q0⟩ := read_int Tryz.underlying3 h0
  obtain ⟨y1, h1, w1⟩ := fld Tryz.underlying185 hxe hw hxs hf 1 (t := 4) (o := 1) (k := 1) rfl rfl rfl (by kernel_rfl)
  replace h1 : DataW.trod enc Tryz.prog W base spare held n 4 [c1] = some y1 := h1
  obtain ⟨l1, r1, q1⟩ := read_bool Tryz.underlying4 h1
  exact ⟨⟨l0, l1⟩, (r0.app r1), ⟨q0, q1⟩⟩
end
structure okSKeyed (x : SKeyed) : Prop where
  key : (LOk 32 okVal) x.key
  row : (LOk 32 okVal) x.row
section
variable {H : Type} {enc : TypeId × Value → H} {W : World} {hT : TabR (fun b o => W.cell? ⟨b, o, none⟩)} {base : Nat} {spare : Nat → Bool} {held : Bool}
theorem rd_SKeyed : ∀ (fuel : Nat) {cs : List Value} {x : DataW H × List MemPlace}, DataW.trod enc Tryz.prog W base spare held fuel 209 cs = some x → WOk 209 x.1 → ∃ a : SKeyed, CRd hT cs (cSKeyed a) ∧ okSKeyed a := by
  intro fuel
  intro cs x h hw
  obtain ⟨xs, n, hfu, hxe, hlen, hxs, hf⟩ := DataW.trod_struct Tryz.underlying209 h
  rw [show Tryz.prog.cellsOf 209 = 2 by kernel_rfl] at hlen
  obtain ⟨c0, c1, rfl⟩ := list2 hlen
  obtain ⟨y0, h0, w0⟩ := fld Tryz.underlying209 hxe hw hxs hf 0 (t := 43) (o := 0) (k := 1) rfl rfl rfl (by kernel_rfl)
  replace h0 : DataW.trod enc Tryz.prog W base spare held n 43 [c0] = some y0 := h0
  obtain ⟨l0, r0, q0⟩ := rd_l43 h0 w0
  obtain ⟨y1, h1, w1⟩ := fld Tryz.underlying209 hxe hw hxs hf 1 (t := 43) (o := 1) (k := 1) rfl rfl rfl (by kernel_rfl)
  replace h1 : DataW.trod enc Tryz.prog W base spare held n 43 [c1] = some y1 := h1
  obtain ⟨l1, r1, q1⟩ := rd_l43 h1 w1
  exact ⟨⟨l0, l1⟩, (r0.app r1), ⟨q0, q1⟩⟩
theorem rd_l30 {cs : List Value} {fuel : Nat} {x : DataW H × List MemPlace} (h : DataW.trod enc Tryz.prog W base spare held fuel 30 cs = some x) (hw : WOk 30 x.1) : ∃ l : List Fct, CRd hT cs [.lst (l.map cFct)] ∧ LOk 40 okFct l :=
  read_slice (k := 3) (f := cFct) (Q := okFct) Tryz.underlying30 (by kernel_rfl) (by kernel_rfl) (by decide) (fun _ => rfl) h hw (fun f c x _ h hw => rd_Fct f h hw)
theorem rd_l64 {cs : List Value} {fuel : Nat} {x : DataW H × List MemPlace} (h : DataW.trod enc Tryz.prog W base spare held fuel 64 cs = some x) (hw : WOk 64 x.1) : ∃ l : List Pl, CRd hT cs [.lst (l.map tP)] ∧ LOk 248 okPl l :=
  read_slice (k := 15) (f := tP) (Q := okPl) Tryz.underlying64 (by kernel_rfl) (by kernel_rfl) (by decide) tP_len h hw (fun f c x _ h hw => rd_Pl f h hw)
theorem rd_l67 {cs : List Value} {fuel : Nat} {x : DataW H × List MemPlace} (h : DataW.trod enc Tryz.prog W base spare held fuel 67 cs = some x) (hw : WOk 67 x.1) : ∃ l : List Gvn, CRd hT cs [.lst (l.map cGvn)] ∧ LOk 48 okGvn l :=
  read_slice (k := 2) (f := cGvn) (Q := okGvn) Tryz.underlying67 (by kernel_rfl) (by kernel_rfl) (by decide) (fun _ => rfl) h hw (fun f c x _ h hw => rd_Gvn f h hw)
theorem rd_l74 {cs : List Value} {fuel : Nat} {x : DataW H × List MemPlace} (h : DataW.trod enc Tryz.prog W base spare held fuel 74 cs = some x) (hw : WOk 74 x.1) : ∃ l : List Pai, CRd hT cs [.lst (l.map cPai)] ∧ LOk 16 okPai l :=
  read_slice (k := 2) (f := cPai) (Q := okPai) Tryz.underlying74 (by kernel_rfl) (by kernel_rfl) (by decide) (fun _ => rfl) h hw (fun f c x _ h hw => rd_Pai f h hw)
theorem rd_l95 {cs : List Value} {fuel : Nat} {x : DataW H × List MemPlace} (h : DataW.trod enc Tryz.prog W base spare held fuel 95 cs = some x) (hw : WOk 95 x.1) : ∃ l : List SGroup, CRd hT cs [.lst (l.map cSGroup)] ∧ LOk 48 okSGroup l :=
  read_slice (k := 2) (f := cSGroup) (Q := okSGroup) Tryz.underlying95 (by kernel_rfl) (by kernel_rfl) (by decide) (fun _ => rfl) h hw (fun f c x _ h hw => rd_SGroup f h hw)
theorem rd_l106 {cs : List Value} {fuel : Nat} {x : DataW H × List MemPlace} (h : DataW.trod enc Tryz.prog W base spare held fuel 106 cs = some x) (hw : WOk 106 x.1) : ∃ l : List Bag, CRd hT cs [.lst (l.map cBag)] ∧ LOk 48 okBag l :=
  read_slice (k := 2) (f := cBag) (Q := okBag) Tryz.underlying106 (by kernel_rfl) (by kernel_rfl) (by decide) (fun _ => rfl) h hw (fun f c x _ h hw => rd_Bag f h hw)
theorem rd_l119 {cs : List Value} {fuel : Nat} {x : DataW H × List MemPlace} (h : DataW.trod enc Tryz.prog W base spare held fuel 119 cs = some x) (hw : WOk 119 x.1) : ∃ l : List Ord, CRd hT cs [.lst (l.map cOrd)] ∧ LOk 16 okOrd l :=
  read_slice (k := 2) (f := cOrd) (Q := okOrd) Tryz.underlying119 (by kernel_rfl) (by kernel_rfl) (by decide) (fun _ => rfl) h hw (fun f c x _ h hw => rd_Ord f h hw)
theorem rd_l126 {cs : List Value} {fuel : Nat} {x : DataW H × List MemPlace} (h : DataW.trod enc Tryz.prog W base spare held fuel 126 cs = some x) (hw : WOk 126 x.1) : ∃ l : List (List Int), CRd hT cs [.lst (l.map (fun x => [AC.lst (x.map (fun x => [AC.int .i64 x]))]))] ∧ LOk 24 (LOk 8 IOk) l :=
  read_slice (k := 1) (f := (fun x => [AC.lst (x.map (fun x => [AC.int .i64 x]))])) (Q := (LOk 8 IOk)) Tryz.underlying126 (by kernel_rfl) (by kernel_rfl) (by decide) (fun _ => rfl) h hw (fun f c x _ h hw => rd_l34 h hw)
theorem rd_l133 {cs : List Value} {fuel : Nat} {x : DataW H × List MemPlace} (h : DataW.trod enc Tryz.prog W base spare held fuel 133 cs = some x) (hw : WOk 133 x.1) : ∃ l : List SGroupcoalesce, CRd hT cs [.lst (l.map cSGroupcoalesce)] ∧ LOk 48 okSGroupcoalesce l :=
  read_slice (k := 2) (f := cSGroupcoalesce) (Q := okSGroupcoalesce) Tryz.underlying133 (by kernel_rfl) (by kernel_rfl) (by decide) (fun _ => rfl) h hw (fun f c x _ h hw => rd_SGroupcoalesce f h hw)
theorem rd_l137 {cs : List Value} {fuel : Nat} {x : DataW H × List MemPlace} (h : DataW.trod enc Tryz.prog W base spare held fuel 137 cs = some x) (hw : WOk 137 x.1) : ∃ l : List SOpen, CRd hT cs [.lst (l.map cSOpen)] ∧ LOk 16 okSOpen l :=
  read_slice (k := 2) (f := cSOpen) (Q := okSOpen) Tryz.underlying137 (by kernel_rfl) (by kernel_rfl) (by decide) (fun _ => rfl) h hw (fun f c x _ h hw => rd_SOpen f h hw)
theorem rd_l148 {cs : List Value} {fuel : Nat} {x : DataW H × List MemPlace} (h : DataW.trod enc Tryz.prog W base spare held fuel 148 cs = some x) (hw : WOk 148 x.1) : ∃ l : List Cnt, CRd hT cs [.lst (l.map cCnt)] ∧ LOk 24 okCnt l :=
  read_slice (k := 3) (f := cCnt) (Q := okCnt) Tryz.underlying148 (by kernel_rfl) (by kernel_rfl) (by decide) (fun _ => rfl) h hw (fun f c x _ h hw => rd_Cnt f h hw)
theorem rd_l195 {cs : List Value} {fuel : Nat} {x : DataW H × List MemPlace} (h : DataW.trod enc Tryz.prog W base spare held fuel 195 cs = some x) (hw : WOk 195 x.1) : ∃ l : List (List (List Val)), CRd hT cs [.lst (l.map (fun x => [AC.lst (x.map (fun x => [AC.lst (x.map cV)]))]))] ∧ LOk 24 (LOk 24 (LOk 32 okVal)) l :=
  read_slice (k := 1) (f := (fun x => [AC.lst (x.map (fun x => [AC.lst (x.map cV)]))])) (Q := (LOk 24 (LOk 32 okVal))) Tryz.underlying195 (by kernel_rfl) (by kernel_rfl) (by decide) (fun _ => rfl) h hw (fun f c x _ h hw => rd_l37 h hw)
theorem rd_l207 {cs : List Value} {fuel : Nat} {x : DataW H × List MemPlace} (h : DataW.trod enc Tryz.prog W base spare held fuel 207 cs = some x) (hw : WOk 207 x.1) : ∃ l : List SKeyed, CRd hT cs [.lst (l.map cSKeyed)] ∧ LOk 48 okSKeyed l :=
  read_slice (k := 2) (f := cSKeyed) (Q := okSKeyed) Tryz.underlying207 (by kernel_rfl) (by kernel_rfl) (by decide) (fun _ => rfl) h hw (fun f c x _ h hw => rd_SKeyed f h hw)
end
end Go.Proofs.YtnbnpnmkgemdeaaGreatDoor
