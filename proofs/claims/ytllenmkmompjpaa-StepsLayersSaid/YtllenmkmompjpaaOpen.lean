/- An argument that is a slice of steps or of counted periods reads as a list. No condition. -/
import Derived.Test.YtllenmkmompjpaaBase
import Derived.ProofKit
import Derived.OpenShut
import Derived.ChangeOld
import Derived.Deep.Slices
namespace Go.Proofs.Ytllenmkmompjpaa
open Go.ChangeShapes Go.WideShapes Go.ChangeAt Go.RowKit

theorem own : ownKnob Try.prog.godebug = none := by kernel_rfl
theorem laidOut : laidOutB Try.prog = true := by kernel_rfl

theorem rd_of_cells {α : Type} {enc : α → List Value} {k : Nat} {W : World} {a : Addr} {len : Nat} (hk : ∀ x, (enc x).length = k) (hk0 : 0 < k)
    (hP : ∀ i, i < len → ∃ x : α, ∀ j u, (enc x)[j]? = some u → W.cell? ((a.add (i * k)).add j) = some u) : ∃ l : List α, Rd enc k W W.heap.size (some a) len l := by
  rcases Nat.eq_zero_or_pos len with h0 | h0
  · subst h0; exact ⟨[], Rd.nil _ _ _⟩
  · obtain ⟨x0, hx0⟩ := hP 0 h0
    let f : Nat → α := fun i => if h : i < len then Classical.choose (hP i h) else x0
    have hf : ∀ i, i < len → ∀ j u, (enc (f i))[j]? = some u → W.cell? ((a.add (i * k)).add j) = some u := by
      intro i hi
      have : f i = Classical.choose (hP i hi) := by simp [f, hi]
      rw [this]
      exact Classical.choose_spec (hP i hi)
    have hl0 : 0 < (enc (f 0)).length := by rw [hk]; exact hk0
    have hc := hf 0 h0 0 _ (List.getElem?_eq_getElem hl0)
    obtain ⟨b, off, spot⟩ := a
    have hspot : spot = none := by
      have := World.cell?_spot hc
      simpa [Addr.add] using this
    subst hspot
    have hb : b < W.heap.size := by
      have := World.block_lt_of_cell? W _ hc
      simpa [Addr.add] using this
    refine ⟨(List.range len).map f, by simp, fun _ => ⟨b, off, rfl, hb, fun i x hx j u hu => ?_⟩⟩
    have hi : i < len := by have := (List.getElem?_eq_some_iff.1 hx).1; simpa using this
    have hxe : x = f i := by simp [hi] at hx; exact hx.symm
    subst hxe
    have h1 := hf i hi j u hu
    rw [add_none, add_none] at h1
    exact h1

theorem list2 {α : Type} : ∀ {l : List α}, l.length = 2 → ∃ a b, l = [a, b]
  | [a, b], _ => ⟨a, b, rfl⟩
theorem list3 {α : Type} : ∀ {l : List α}, l.length = 3 → ∃ a b c, l = [a, b, c]
  | [a, b, c], _ => ⟨a, b, c, rfl⟩
section
variable {H : Type} {enc : TypeId × Value → H} {W : World} {base : Nat} {spare : Nat → Bool} {held : Bool}
theorem ints2 {cs : List Value} {fuel : Nat} {x : DataW H × List MemPlace} {t : TypeId} {f0 f1 : Field} (hs : Try.prog.underlying t = some (.struct #[f0, f1])) (t0 : f0.type = 3) (t1 : f1.type = 3) (o0 : f0.offset = 0) (o1 : f1.offset = 1) (hc : Try.prog.cellsOf t = 2)
    (h : DataW.trod enc Try.prog W base spare held fuel t cs = some x) : ∃ a b : Int, cs = [.int .i64 a, .int .i64 b] := by
  obtain ⟨xs, n, _, _, hlen, hxs, hf⟩ := DataW.trod_struct hs h
  rw [hc] at hlen
  obtain ⟨c0, c1, rfl⟩ := list2 hlen
  · have hc3 : Try.prog.cellsOf 3 = 1 := by kernel_rfl
    have h0 := hf 0 f0 rfl
    have h1 := hf 1 f1 rfl
    simp only [List.size_toArray, List.length_cons, List.length_nil] at hxs
    rw [t0, o0, hc3, List.getElem?_eq_getElem (by omega)] at h0
    rw [t1, o1, hc3, List.getElem?_eq_getElem (by omega)] at h1
    obtain ⟨a, e0, _, _⟩ := DataW.trod_int Try.underlying3 h0
    obtain ⟨b, e1, _, _⟩ := DataW.trod_int Try.underlying3 h1
    simp at e0 e1
    exact ⟨a, b, by rw [e0, e1]⟩
theorem ints3 {cs : List Value} {fuel : Nat} {x : DataW H × List MemPlace} {t : TypeId} {f0 f1 : Field} (hs : Try.prog.underlying t = some (.struct #[f0, f1])) (t0 : f0.type = 38) (t1 : f1.type = 3) (o0 : f0.offset = 0) (o1 : f1.offset = 2) (hc : Try.prog.cellsOf t = 3)
    (h : DataW.trod enc Try.prog W base spare held fuel t cs = some x) : ∃ a b c : Int, cs = [.int .i64 a, .int .i64 b, .int .i64 c] := by
  obtain ⟨xs, n, _, _, hlen, hxs, hf⟩ := DataW.trod_struct hs h
  rw [hc] at hlen
  obtain ⟨c0, c1, c2, rfl⟩ := list3 hlen
  have hc2 : Try.prog.cellsOf 38 = 2 := by kernel_rfl
  have hc1 : Try.prog.cellsOf 3 = 1 := by kernel_rfl
  have h0 := hf 0 f0 rfl
  have h1 := hf 1 f1 rfl
  simp only [List.size_toArray, List.length_cons, List.length_nil] at hxs
  rw [t0, o0, hc2, List.getElem?_eq_getElem (by omega)] at h0
  rw [t1, o1, hc1, List.getElem?_eq_getElem (by omega)] at h1
  obtain ⟨p, q, e0⟩ := ints2 Try.underlying38 rfl rfl rfl rfl hc2 h0
  obtain ⟨r, e1, _, _⟩ := DataW.trod_int Try.underlying3 h1
  simp at e0 e1
  exact ⟨p, q, r, by rw [e0.1, e0.2, e1]⟩
theorem cells_at {a : Addr} {n : Nat} {cs : List Value} (h : W.cells? base a n = some cs) : ∀ j u, cs[j]? = some u → W.cell? (a.add j) = some u := by
  obtain ⟨_, hl, hat⟩ := World.cells?_some h
  intro j u hu
  have hj := (List.getElem?_eq_some_iff.1 hu).1
  rw [hat j (by omega)]
  exact hu
theorem open_steps {fuel : Nat} {a0 : Option Addr} {len cap : Nat} {x : DataW H × List MemPlace} (h : DataW.trod enc Try.prog W base spare held fuel 25 [.slice a0 len cap] = some x) : ∃ l : List (Int × Int), Rd e2 2 W W.heap.size a0 len l := by
  rcases Go.Deep.open_slice Try.underlying25 h with ⟨hcs, _⟩ | ⟨a, len', cap', m, n, D, Pl, hcs, hb, hl, hm, hmm, hx, hi⟩
  · simp at hcs; obtain ⟨rfl, rfl, rfl⟩ := hcs; exact ⟨[], Rd.nil _ _ _⟩
  · simp at hcs
    obtain ⟨rfl, rfl, rfl⟩ := hcs
    have hc2 : Try.prog.cellsOf 48 = 2 := by kernel_rfl
    rw [hc2] at hi
    refine rd_of_cells e2_len (by omega) fun i hlt => ?_
    obtain ⟨cs', hcc, htt⟩ := hi i (by rw [hmm]; split <;> omega)
    obtain ⟨p, q, rfl⟩ := ints2 Try.underlying48 rfl rfl rfl rfl hc2 htt
    exact ⟨(p, q), cells_at hcc⟩
theorem open_counted {fuel : Nat} {a0 : Option Addr} {len cap : Nat} {x : DataW H × List MemPlace} (h : DataW.trod enc Try.prog W base spare held fuel 22 [.slice a0 len cap] = some x) : ∃ l : List ((Int × Int) × Int), Rd e3 3 W W.heap.size a0 len l ∧ (a0 = none → len = 0 ∧ cap = 0) := by
  rcases Go.Deep.open_slice Try.underlying22 h with ⟨hcs, _⟩ | ⟨a, len', cap', m, n, D, Pl, hcs, hb, hl, hm, hmm, hx, hi⟩
  · simp at hcs; obtain ⟨rfl, rfl, rfl⟩ := hcs; exact ⟨[], Rd.nil _ _ _, fun _ => ⟨rfl, rfl⟩⟩
  · simp at hcs
    obtain ⟨rfl, rfl, rfl⟩ := hcs
    have hc3 : Try.prog.cellsOf 40 = 3 := by kernel_rfl
    rw [hc3] at hi
    obtain ⟨l, hl⟩ := rd_of_cells (enc := e3) (W := W) (a := a) (len := len) e3_len (by omega) fun i hlt => by
      obtain ⟨cs', hcc, htt⟩ := hi i (by rw [hmm]; split <;> omega)
      obtain ⟨p, q, r, rfl⟩ := ints3 Try.underlying40 rfl rfl rfl rfl hc3 htt
      exact ⟨((p, q), r), cells_at hcc⟩
    exact ⟨l, hl, fun h => by cases h⟩
end
end Go.Proofs.Ytllenmkmompjpaa
