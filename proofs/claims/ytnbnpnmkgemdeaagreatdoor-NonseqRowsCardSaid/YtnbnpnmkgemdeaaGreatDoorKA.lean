/- Parts of the proof, joined (U1 U2 U3 U4 U5 U6 U7 U8 U9 U10 U10b U10c U11). No condition. -/
import Derived.WalkKit
import Derived.Orders
import Derived.Deep.MidRow
import Derived.Deep.AppendSrc
import Derived.Great.BuildSlice
import Derived.Great.FillDense
import Derived.Deep.Upon
set_option linter.unusedSimpArgs false
set_option linter.unusedVariables false
namespace Go.Proofs.YtnbnpnmkgemdeaaGreatDoor
open Go.RowKit

/-- The words for nothing. -/
inductive Nul where
  | ptr
  | iface
  | map
  | func
  deriving Inhabited, DecidableEq
def Nul.val : Nul → Value
  | .ptr => .pointer none
  | .iface => .nilIface
  | .map => .map none
  | .func => .nilFunc

/-- One cell that reads as a tree and does not turn. -/
inductive AC where
  | nul (k : Nul)
  | bool (b : Bool)
  | int (k : IntKind) (n : Int)
  | str (s : ByteArray)
  | lst (es : List (List AC))
  | ref (cs : List AC)
  | fn (f : FuncId) (caps : List AC)
  deriving Inhabited

/-- The cells that do not turn, with what they hold. -/
abbrev PHf := Nat → Nat → Option Value
/-- The cells of the table of powers of ten: they are always among those that do not turn. -/
def tabBlk : Nat := 1
def tabCell (o : Nat) : Option Value := if o < 20 then some (.int .u64 (10 ^ o)) else none
def TabR (f : PHf) : Prop := ∀ o u, tabCell o = some u → f tabBlk o = some u
theorem TabR.mono {f g : PHf} (h : TabR f) (k : ∀ b o u, f b o = some u → g b o = some u) : TabR g := fun o u e => k _ _ _ (h o u e)
structure PH where
  fn : PHf
  tab : TabR fn
instance : CoeFun PH (fun _ => PHf) := ⟨PH.fn⟩
def PH.sub (R R' : PH) : Prop := ∀ b o u, R b o = some u → R' b o = some u
/-- More cells. -/
def PH.put (R : PH) (f : PHf) (h : ∀ b o u, R b o = some u → f b o = some u) : PH := ⟨f, R.tab.mono h⟩
theorem PH.sub_refl (R : PH) : PH.sub R R := fun _ _ _ h => h
theorem PH.sub_trans {R R' R'' : PH} (h : PH.sub R R') (g : PH.sub R' R'') : PH.sub R R'' := fun b o u e => g b o u (h b o u e)

inductive PRep (R : PH) : Value → AC → Prop
  | nul (k : Nul) (v : Value) (h : v = k.val) : PRep R v (.nul k)
  | bool (b : Bool) : PRep R (.bool b) (.bool b)
  | int (k : IntKind) (n : Int) : PRep R (.int k n) (.int k n)
  | str (s : ByteArray) : PRep R (.string s) (.str s)
  | lst (a : Option Addr) (n c : Nat) (es : List (List AC)) (k : Nat) (cv : Nat → Value) (b o : Nat) (hn : es.length = n) (hc : n ≤ c)
      (hk : ∀ e ∈ es, e.length = k) (ha : 0 < n → a = some ⟨b, o, none⟩) (hr : ∀ j, j < n * k → R b (o + j) = some (cv j))
      (he : ∀ (i : Nat) e (j : Nat) x, es[i]? = some e → e[j]? = some x → PRep R (cv (i * k + j)) x) : PRep R (.slice a n c) (.lst es)
  | ref (b o : Nat) (cs : List AC) (cv : Nat → Value) (hr : ∀ j, j < cs.length → R b (o + j) = some (cv j))
      (he : ∀ (j : Nat) x, cs[j]? = some x → PRep R (cv j) x) : PRep R (.pointer (some ⟨b, o, none⟩)) (.ref cs)
  | fn (f : FuncId) (caps : Array Value) (cs : List AC) (hs : caps.size = cs.length)
      (he : ∀ (j : Nat) v x, caps[j]? = some v → cs[j]? = some x → PRep R v x) : PRep R (.func (.func f) #[] caps) (.fn f cs)

theorem PRep.mono {R R' : PH} (h : PH.sub R R') : ∀ {v x}, PRep R v x → PRep R' v x := by
  intro v x hx
  induction hx with
  | nul k v h => exact .nul k v h
  | bool b => exact .bool b
  | int k n => exact .int k n
  | str s => exact .str s
  | lst a n c es k cv b o hn hc hk ha hr _ ih => exact .lst a n c es k cv b o hn hc hk ha (fun j hj => h _ _ _ (hr j hj)) ih
  | ref b o cs cv hr _ ih => exact .ref b o cs cv (fun j hj => h _ _ _ (hr j hj)) ih
  | fn f caps cs hs _ ih => exact .fn f caps cs hs ih

/-- What a closure holds: a tree, or a pointer to a variable of the function. -/
inductive Cap where
  | c (x : AC)
  | ptr (id off : Nat)
  deriving Inhabited

/-- A value of a slot, of one cell: a tree; a slice without room; a slice whose spare room is the function's own; a pointer to a variable of the function; a part of a row that is written (elements from lo on, n of them); a pointer into element i of such a row; a map; a closure. -/
inductive SV where
  | c (x : AC)
  | emp
  | own (es : List (List AC)) (t : Nat)
  | ptr (id off : Nat)
  | sl (id ver lo n : Nat)
  | ep (id ver i o : Nat)
  | mp (id : Nat)
  | clo (f : FuncId) (caps : List Cap)
  deriving Inhabited

inductive PV where
  | one (x : AC)
  | agg (xs : List AC)
  deriving Inhabited

inductive CV where
  | val (p : PV)
  | tup (ps : List PV)
  deriving Inhabited

inductive AV where
  | one (x : SV)
  | agg (xs : List SV)
  | tup (ps : List PV)
  | undef
  deriving Inhabited

/-- An object of the running function: a variable in memory; the right to append to a row of n elements; a row that is written; a map. -/
inductive Ob where
  | box (cs : List SV)
  | spare (n k : Nat)
  | row (ver : Nat) (es : List (List SV)) (k : Nat)
  | map (kvs : List (AC × AV))
  | dead
  deriving Inhabited

/-- Where it lies. -/
inductive Gh where
  | none
  | box (b : Nat)
  | arr (b c : Nat)

def Gh.block : Gh → Option Nat
  | .none => Option.none
  | .box b => some b
  | .arr b _ => some b

def Link (n : Nat) (v : Value) : Gh → Prop
  | .none => ∃ a, v = .slice a 0 0
  | .arr b c => v = .slice (some ⟨b, 0, Option.none⟩) n c
  | .box _ => False

def Cap.rep (R : PH) (γ : List Gh) : Cap → Value → Prop
  | .c x, v => PRep R v x
  | .ptr id off, v => ∃ b, v = .pointer (some ⟨b, off, none⟩) ∧ γ[id]? = some (.box b)

/-- Where a part of a row lies. -/
def SlAt (k lo n : Nat) (v : Value) : Gh → Prop
  | .none => v = .slice none 0 0 ∧ n = 0 ∧ lo = 0
  | .arr b c => v = .slice (some ⟨b, lo * k, Option.none⟩) n (c - lo) ∨ (c = lo ∧ n = 0 ∧ ∃ a, v = .slice a 0 0)
  | .box _ => False
/-- Where an element's cell lies. -/
def EpAt (k i o : Nat) (v : Value) : Gh → Prop
  | .arr b _ => v = .pointer (some ⟨b, i * k + o, Option.none⟩)
  | _ => False

def SV.rep (R : PH) (γ : List Gh) (L : List Ob) : SV → Value → Prop
  | .c x, v => PRep R v x
  | .emp, v => ∃ a, v = .slice a 0 0
  | .own es t, v => PRep R v (.lst es) ∧ t < L.length ∧ ∀ n k, L[t]? = some (.spare n k) → es.length ≤ n ∧ (∀ e ∈ es, e.length = k) ∧ (es.length = n → ∃ g, γ[t]? = some g ∧ Link n v g)
  | .ptr id off, v => ∃ b, v = .pointer (some ⟨b, off, none⟩) ∧ γ[id]? = some (.box b)
  | .sl id ver lo n, v => (v.cells = #[v] ∧ v.oneCell' = true) ∧ id < L.length ∧ ∀ ver' es k, L[id]? = some (.row ver' es k) → ver ≤ ver' ∧ (ver = ver' → lo + n ≤ es.length ∧ ∃ g, γ[id]? = some g ∧ SlAt k lo n v g)
  | .ep id ver i o, v => (v.cells = #[v] ∧ v.oneCell' = true) ∧ id < L.length ∧ ∀ ver' es k, L[id]? = some (.row ver' es k) → ver ≤ ver' ∧ (ver = ver' → i < es.length ∧ ∃ g, γ[id]? = some g ∧ EpAt k i o v g)
  | .mp id, v => ∃ b, v = .map (some b) ∧ γ[id]? = some (.box b)
  | .clo f caps, v => ∃ vs : Array Value, v = .func (.func f) #[] vs ∧ vs.size = caps.length ∧ ∀ (j : Nat) u x, vs[j]? = some u → caps[j]? = some x → x.rep R γ u

def PV.rep (R : PH) : PV → Value → Prop
  | .one x, v => PRep R v x
  | .agg xs, v => ∃ vs : Array Value, v = .agg vs ∧ vs.size = xs.length ∧ ∀ (j : Nat) u x, vs[j]? = some u → xs[j]? = some x → PRep R u x

def CV.rep (R : PH) : CV → Value → Prop
  | .val p, v => p.rep R v
  | .tup ps, v => ∃ vs : Array Value, v = .tuple vs ∧ vs.size = ps.length ∧ ∀ (j : Nat) u p, vs[j]? = some u → ps[j]? = some p → p.rep R u

def AV.rep (R : PH) (γ : List Gh) (L : List Ob) : AV → Value → Prop
  | .one x, v => x.rep R γ L v
  | .agg xs, v => ∃ vs : Array Value, v = .agg vs ∧ vs.size = xs.length ∧ ∀ (j : Nat) u x, vs[j]? = some u → xs[j]? = some x → x.rep R γ L u
  | .tup ps, v => ∃ vs : Array Value, v = .tuple vs ∧ vs.size = ps.length ∧ ∀ (j : Nat) u p, vs[j]? = some u → ps[j]? = some p → p.rep R u
  | .undef, v => v = Go.undef

def ObjOK (R : PH) (γ : List Gh) (L : List Ob) (w : World) : Ob → Gh → Prop
  | .box cs, .box b => (∃ vs E, w.heap[b]? = some (.cells vs E (0, 0)) ∧ vs.size = cs.length ∧ ∀ (j : Nat) u x, vs[j]? = some u → cs[j]? = some x → x.rep R γ L u) ∧ ∀ o, R b o = none
  | .spare n k, .arr b c => (∃ vs E, w.heap[b]? = some (.cells vs E (0, 0)) ∧ vs.size = c * k) ∧ n ≤ c ∧ 0 < k ∧ ∀ o, n * k ≤ o → R b o = none
  | .spare n _, .none => n = 0
  | .row ver es k, .arr b c => (∃ vs E, (w.heap[b]? = some (.cells vs E (0, 0)) ∧ E = ver % 65536 ∧ 65536 ≤ ver) ∧ vs.size = c * k ∧ ∀ (i : Nat) e (j : Nat) u x, es[i]? = some e → vs[i * k + j]? = some u → e[j]? = some x → x.rep R γ L u) ∧ es.length ≤ c ∧ 0 < k ∧ (∀ e ∈ es, e.length = k) ∧ ∀ o, R b o = none
  | .row _ es _, .none => es = []
  | .map kvs, .box b => (∃ es, w.heap[b]? = some (.map es es.size) ∧ es.size = kvs.length ∧ ∀ (j : Nat) e p, es[j]? = some e → kvs[j]? = some p → e.born = j ∧ PRep R e.key p.1 ∧ p.2.rep R γ L e.val) ∧ ∀ o, R b o = none
  | .dead, .none => True
  | .dead, .box _ => True
  | _, _ => False

structure Inv (B : Nat → Prop) (R : PH) (γ : List Gh) (L : List Ob) (w : World) : Prop where
  len : γ.length = L.length
  val : ∀ b o u, R b o = some u → w.cell? ⟨b, o, none⟩ = some u
  obj : ∀ (id : Nat) x g, L[id]? = some x → γ[id]? = some g → ObjOK R γ L w x g
  inj : ∀ (i j : Nat) gi gj, γ[i]? = some gi → γ[j]? = some gj → i ≠ j → ∀ b, gi.block = some b → gj.block ≠ some b
  new : ∀ (i : Nat) g b, γ[i]? = some g → g.block = some b → ¬ B b ∧ b < w.heap.size
  bsz : ∀ b, B b → b < w.heap.size

/-- The slots that are known. -/
abbrev Tm := List (Nat × AV)
structure TRep (N : Nat) (R : PH) (γ : List Gh) (L : List Ob) (T : Tm) (a : Act) : Prop where
  size : a.tmps.size = N
  defers : a.defers = []
  slot : ∀ (t : Nat) x, T.lookup t = some x → ∃ u, a.tmps[t]? = some u ∧ x.rep R γ L u

/-- The blocks of B are as they were. -/
structure Kept (B : Nat → Prop) (w w' : World) : Prop where
  os : w'.os = w.os
  tape : w'.tape = w.tape
  output : w'.output = w.output
  size : w.heap.size ≤ w'.heap.size
  block : ∀ b, B b → w'.heap[b]? = w.heap[b]?
theorem Kept.refl (B : Nat → Prop) (w : World) : Kept B w w := ⟨rfl, rfl, rfl, Nat.le_refl _, fun _ _ => rfl⟩
theorem Kept.trans {B : Nat → Prop} {a b c : World} (h : Kept B a b) (k : Kept B b c) : Kept B a c :=
  ⟨k.os.trans h.os, k.tape.trans h.tape, k.output.trans h.output, Nat.le_trans h.size k.size, fun i hi => (k.block i hi).trans (h.block i hi)⟩
theorem Kept.mono {B B' : Nat → Prop} {w w' : World} (h : Kept B w w') (hB : ∀ b, B' b → B b) : Kept B' w w' := ⟨h.os, h.tape, h.output, h.size, fun k hk => h.block k (hB k hk)⟩
theorem Kept.below {n : Nat} {w w' : World} (h : Kept (· < n) w w') : Below n w w' := ⟨h.os, h.tape, h.output, h.size, h.block⟩
theorem Kept.of {n : Nat} {w w' : World} (h : Below n w w') : Kept (· < n) w w' := ⟨h.os, h.tape, h.output, h.size, h.block⟩
/-- What may have come between. -/
structure Ext (B : Nat → Prop) (R R' : PH) (w w' : World) : Prop where
  below : Kept B w w'
  sub : PH.sub R R'
  old : ∀ b o, B b → R' b o = R b o
theorem Ext.refl (B : Nat → Prop) (R : PH) (w : World) : Ext B R R w w := ⟨Kept.refl _ _, PH.sub_refl _, fun _ _ _ => rfl⟩
theorem Ext.trans {B : Nat → Prop} {R R' R'' : PH} {w w' w'' : World} (h : Ext B R R' w w') (g : Ext B R' R'' w' w'') : Ext B R R'' w w'' :=
  ⟨h.below.trans g.below, PH.sub_trans h.sub g.sub, fun b o hb => (g.old b o hb).trans (h.old b o hb)⟩

theorem lt_of_cell {w : World} {b o : Nat} {u : Value} (h : w.cell? ⟨b, o, none⟩ = some u) : b < w.heap.size := by
  unfold World.cell? at h
  simp only at h
  split at h
  · rename_i hb; exact (Array.getElem?_eq_some_iff.1 hb).1
  · cases h

/-- Moving on: trees stay; the objects' places may move only for tokens that have grown. -/
structure Mv (R R' : PH) (γ γ' : List Gh) (L L' : List Ob) : Prop where
  sub : PH.sub R R'
  len : L.length ≤ L'.length
  tok : ∀ (t : Nat) n' k, t < L.length → L'[t]? = some (.spare n' k) → ∃ n, L[t]? = some (.spare n k) ∧ n ≤ n' ∧ (n = n' → γ'[t]? = γ[t]?)
  row : ∀ (t : Nat) ver es' k, t < L.length → L'[t]? = some (.row ver es' k) → ∃ ver0 es, L[t]? = some (.row ver0 es k) ∧ ver0 ≤ ver ∧ (ver0 = ver → es.length = es'.length ∧ γ'[t]? = γ[t]?)
  ptr : ∀ (id : Nat) b, γ[id]? = some (.box b) → γ'[id]? = some (.box b)

theorem Cap.mv {R R' : PH} {γ γ' : List Gh} (hs : PH.sub R R') (hp : ∀ (id : Nat) b, γ[id]? = some (.box b) → γ'[id]? = some (.box b)) : ∀ {x : Cap} {v : Value}, x.rep R γ v → x.rep R' γ' v
  | .c _, _, hx => PRep.mono hs hx
  | .ptr id _, _, ⟨b, h1, h2⟩ => ⟨b, h1, hp id b h2⟩

theorem SV.mv {R R' : PH} {γ γ' : List Gh} {L L' : List Ob} (h : Mv R R' γ γ' L L') : ∀ {x : SV} {v : Value}, x.rep R γ L v → x.rep R' γ' L' v
  | .c _, _, hx => PRep.mono h.sub hx
  | .emp, _, hx => hx
  | .own es t, v, ⟨h1, hlt, h2⟩ => by
    refine ⟨PRep.mono h.sub h1, Nat.lt_of_lt_of_le hlt h.len, fun n' k e => ?_⟩
    obtain ⟨n, g1, g2, g3⟩ := h.tok t n' k hlt e
    obtain ⟨h3, h5, h4⟩ := h2 n k g1
    refine ⟨by omega, h5, fun e => ?_⟩
    have : n = n' := by omega
    rw [g3 this, ← this]
    exact h4 (by omega)
  | .ptr id off, v, ⟨b, h1, h2⟩ => ⟨b, h1, h.ptr id b h2⟩
  | .sl id ver lo n, v, ⟨h1, hlt, h2⟩ => by
    refine ⟨h1, Nat.lt_of_lt_of_le hlt h.len, fun ver' es' k e => ?_⟩
    obtain ⟨ver0, es, g1, g2, g3⟩ := h.row id ver' es' k hlt e
    obtain ⟨h3, h4⟩ := h2 ver0 es k g1
    refine ⟨by omega, fun e => ?_⟩
    obtain ⟨g4, g5⟩ := g3 (by omega)
    rw [g5, ← g4]
    exact h4 (by omega)
  | .ep id ver i o, v, ⟨h1, hlt, h2⟩ => by
    refine ⟨h1, Nat.lt_of_lt_of_le hlt h.len, fun ver' es' k e => ?_⟩
    obtain ⟨ver0, es, g1, g2, g3⟩ := h.row id ver' es' k hlt e
    obtain ⟨h3, h4⟩ := h2 ver0 es k g1
    refine ⟨by omega, fun e => ?_⟩
    obtain ⟨g4, g5⟩ := g3 (by omega)
    rw [g5, ← g4]
    exact h4 (by omega)
  | .mp id, v, ⟨b, h1, h2⟩ => ⟨b, h1, h.ptr id b h2⟩
  | .clo f caps, v, ⟨vs, h1, h2, h3⟩ => ⟨vs, h1, h2, fun j u x hu hx => Cap.mv h.sub h.ptr (h3 j u x hu hx)⟩

theorem PV.mono {R R' : PH} (h : PH.sub R R') : ∀ {p : PV} {v : Value}, p.rep R v → p.rep R' v
  | .one _, _, hx => PRep.mono h hx
  | .agg _, _, ⟨vs, h1, h2, h3⟩ => ⟨vs, h1, h2, fun j u x hu hx => PRep.mono h (h3 j u x hu hx)⟩
theorem CV.mono {R R' : PH} (h : PH.sub R R') : ∀ {p : CV} {v : Value}, p.rep R v → p.rep R' v
  | .val _, _, hx => PV.mono h hx
  | .tup _, _, ⟨vs, h1, h2, h3⟩ => ⟨vs, h1, h2, fun j u x hu hx => PV.mono h (h3 j u x hu hx)⟩
theorem AV.mv {R R' : PH} {γ γ' : List Gh} {L L' : List Ob} (h : Mv R R' γ γ' L L') : ∀ {x : AV} {v : Value}, x.rep R γ L v → x.rep R' γ' L' v
  | .one _, _, hx => SV.mv h hx
  | .agg _, _, ⟨vs, h1, h2, h3⟩ => ⟨vs, h1, h2, fun j u x hu hx => SV.mv h (h3 j u x hu hx)⟩
  | .tup _, _, ⟨vs, h1, h2, h3⟩ => ⟨vs, h1, h2, fun j u x hu hx => PV.mono h.sub (h3 j u x hu hx)⟩
  | .undef, _, hx => hx
theorem Mv.refl {R : PH} {γ : List Gh} {L : List Ob} : Mv R R γ γ L L := ⟨PH.sub_refl _, Nat.le_refl _, fun _ n _ _ h => ⟨n, h, Nat.le_refl _, fun _ => rfl⟩, fun _ ver es _ _ h => ⟨ver, es, h, Nat.le_refl _, fun _ => ⟨rfl, rfl⟩⟩, fun _ _ h => h⟩
theorem Mv.of_sub {R R' : PH} {γ : List Gh} {L : List Ob} (h : PH.sub R R') : Mv R R' γ γ L L := ⟨h, Nat.le_refl _, fun _ n _ _ h => ⟨n, h, Nat.le_refl _, fun _ => rfl⟩, fun _ ver es _ _ h => ⟨ver, es, h, Nat.le_refl _, fun _ => ⟨rfl, rfl⟩⟩, fun _ _ h => h⟩
theorem Mv.trans {R R' R'' : PH} {γ γ' γ'' : List Gh} {L L' L'' : List Ob} (h : Mv R R' γ γ' L L') (g : Mv R' R'' γ' γ'' L' L'') : Mv R R'' γ γ'' L L'' :=
  ⟨PH.sub_trans h.sub g.sub, Nat.le_trans h.len g.len, fun t n2 k hlt e => by
    obtain ⟨n1, b1, b2, b3⟩ := g.tok t n2 k (Nat.lt_of_lt_of_le hlt h.len) e
    obtain ⟨n, a1, a2, a3⟩ := h.tok t n1 k hlt b1
    exact ⟨n, a1, by omega, fun e => (b3 (by omega)).trans (a3 (by omega))⟩, fun t v e2 k hlt e => by
    obtain ⟨v1, e1, b1, b2, b3⟩ := g.row t v e2 k (Nat.lt_of_lt_of_le hlt h.len) e
    obtain ⟨v0, e0, a1, a2, a3⟩ := h.row t v1 e1 k hlt b1
    exact ⟨v0, e0, a1, by omega, fun e => ⟨(a3 (by omega)).1.trans (b3 (by omega)).1, (b3 (by omega)).2.trans (a3 (by omega)).2⟩⟩, fun id b e => g.ptr id b (h.ptr id b e)⟩
theorem TRep.mv {N : Nat} {R R' : PH} {γ γ' : List Gh} {L L' : List Ob} {T : Tm} {a : Act} (h : TRep N R γ L T a) (m : Mv R R' γ γ' L L') : TRep N R' γ' L' T a :=
  ⟨h.size, h.defers, fun t x e => let ⟨u, h1, h2⟩ := h.slot t x e; ⟨u, h1, AV.mv m h2⟩⟩

/-- The objects' own fact when only new persistent cells have come, outside their blocks. -/
theorem ObjOK.mv {R R' : PH} {γ γ' : List Gh} {L L' : List Ob} {w w' : World} {x : Ob} {g : Gh} (h : ObjOK R γ L w x g) (m : Mv R R' γ γ' L L')
    (hw : ∀ b, g.block = some b → w'.heap[b]? = w.heap[b]?) (hR : ∀ b o, g.block = some b → R b o = none → R' b o = none) : ObjOK R' γ' L' w' x g := by
  match x, g, h with
  | .box cs, .box b, ⟨⟨vs, E, h1, h2, h3⟩, h4⟩ => exact ⟨⟨vs, E, (hw b rfl).trans h1, h2, fun j u x hu hx => SV.mv m (h3 j u x hu hx)⟩, fun o => hR b o rfl (h4 o)⟩
  | .spare n k, .arr b c, ⟨⟨vs, E, h1, h2⟩, h3, h4, h5⟩ => exact ⟨⟨vs, E, (hw b rfl).trans h1, h2⟩, h3, h4, fun o ho => hR b o rfl (h5 o ho)⟩
  | .spare n k, .none, h => exact h
  | .row ver es k, .arr b c, ⟨⟨vs, E, h1, h2, h3⟩, h4, h5, h6, h7⟩ => exact ⟨⟨vs, E, ⟨(hw b rfl).trans h1.1, h1.2⟩, h2, fun i e j u x he hu hx => SV.mv m (h3 i e j u x he hu hx)⟩, h4, h5, h6, fun o => hR b o rfl (h7 o)⟩
  | .row ver es k, .none, h => exact h
  | .map kvs, .box b, ⟨⟨es, h1, h2, h3⟩, h4⟩ => exact ⟨⟨es, (hw b rfl).trans h1, h2, fun j e p he hp => ⟨(h3 j e p he hp).1, PRep.mono m.sub (h3 j e p he hp).2.1, AV.mv m (h3 j e p he hp).2.2⟩⟩, fun o => hR b o rfl (h4 o)⟩
  | .dead, .none, h => exact h
  | .dead, .box _, h => exact h

end Go.Proofs.YtnbnpnmkgemdeaaGreatDoor

namespace Go.Proofs.YtnbnpnmkgemdeaaGreatDoor
open Go.RowKit

def tsize (P : Program) (t : TypeId) : Option Nat := (P.info? t).map (·.size)
def tagg (P : Program) (t : TypeId) : Option Bool :=
  match P.underlying t with
  | some (.struct _) => some true
  | some (.array _ _) => some true
  | some _ => some false
  | none => none
def telem (P : Program) (t : TypeId) : Option TypeId :=
  match P.underlying t with
  | some (.slice e) => some e
  | _ => none
def tfield (P : Program) (s : TypeId) (i : Nat) : Option (Nat × TypeId) :=
  match P.underlying s with
  | some (.struct fs) => (fs[i]?).map fun f => (f.offset, f.type)
  | _ => none

def SV.ofVal : Value → Option SV
  | .bool b => some (.c (.bool b))
  | .int k n => some (.c (.int k n))
  | .string s => some (.c (.str s))
  | .slice none 0 0 => some .emp
  | .pointer none => some (.c (.nul .ptr))
  | .nilIface => some (.c (.nul .iface))
  | .map none => some (.c (.nul .map))
  | .nilFunc => some (.c (.nul .func))
  | _ => none
def svs : List Value → Option (List SV)
  | [] => some []
  | v :: vs => match SV.ofVal v, svs vs with
    | some x, some xs => some (x :: xs)
    | _, _ => none
def AV.ofVal : Value → Option AV
  | .agg vs => (svs vs.toList).map .agg
  | v => (SV.ofVal v).map .one

inductive Sc where
  | int (k : IntKind)
  | bool
  | str
  deriving DecidableEq
/-- What the walk asks of types, as a table. -/
structure TI where
  size : Nat → Option Nat
  agg : Nat → Option Bool
  elem : Nat → Option Nat
  field : Nat → Nat → Option (Nat × Nat)
  zero : Nat → Option AV
  bytes : Nat → Option Nat
  kind : Nat → Option TypeDesc
  struct : Nat → Bool
  zok : Nat → Bool
  eqs : Nat → Option (List Sc)
  owns : Nat → Bool
  dyn : Bool := false
  soft : Bool := false

def look (T : Tm) : Operand → Option AV
  | .tmp t => T.lookup t
  | .const v => AV.ofVal v
  | .global _ => none
  | .func f => some (.one (.c (.fn f [])))

def intOp (op : BinOp) (k : IntKind) (a b : Int) : Option (AC × Prop) :=
  match op with
  | .add => some (.int k (k.wrap (a + b)), True)
  | .sub => some (.int k (k.wrap (a - b)), True)
  | .mul => some (.int k (k.wrap (a * b)), True)
  | .quo => some (.int k (k.wrap (a.tdiv b)), b ≠ 0)
  | .rem => some (.int k (a.tmod b), b ≠ 0)
  | .eql => some (.bool (decide (a = b)), True)
  | .neq => some (.bool (decide (a ≠ b)), True)
  | .lss => some (.bool (decide (a < b)), True)
  | .leq => some (.bool (decide (a ≤ b)), True)
  | .gtr => some (.bool (decide (b < a)), True)
  | .geq => some (.bool (decide (b ≤ a)), True)
  | .and => some (.int k (k.wrap (BitVec.ofInt k.bits a &&& BitVec.ofInt k.bits b).toNat), True)
  | .or => some (.int k (k.wrap (BitVec.ofInt k.bits a ||| BitVec.ofInt k.bits b).toNat), True)
  | _ => none
def shOp (op : BinOp) (k : IntKind) (a b : Int) : Option (AC × Prop) :=
  match op with
  | .shl => some (.int k (k.wrap (a * 2 ^ (min b.toNat k.bits))), 0 ≤ b)
  | .shr => some (.int k (a.fdiv (2 ^ (min b.toNat k.bits))), 0 ≤ b)
  | _ => none

def strOp (op : BinOp) (a b : ByteArray) : Option (AC × Prop) :=
  match op with
  | .add => some (.str (a ++ b), a.size + b.size ≤ 9223372036854775807)
  | .eql => some (.bool (a.toList == b.toList), True)
  | .neq => some (.bool (!(a.toList == b.toList)), True)
  | .lss => some (.bool (Op.bytesLess a.toList b.toList), True)
  | .leq => some (.bool (Op.bytesLess a.toList b.toList || a.toList == b.toList), True)
  | .gtr => some (.bool (!(Op.bytesLess a.toList b.toList || a.toList == b.toList)), True)
  | .geq => some (.bool (!Op.bytesLess a.toList b.toList), True)
  | _ => none

theorem prep_bool {R : PH} {a b : Bool} (h : a = b) : PRep R (.bool a) (.bool b) := by rw [h]; exact .bool b

theorem run_binOp_int {P : Program} {w : World} {op : BinOp} {t : TypeId} {x y : Operand} {k : IntKind} {a b : Int} {r : AC} {φ : Prop} (h : intOp op k a b = some (r, φ)) (hφ : φ) :
    ∃ u, ((do eqGuard op t x y (.int k a) (.int k b); binOp op t (.int k a) (.int k b) : Sem Value)).run P w = .ok u w ∧ ∀ R, PRep R u r := by
  cases op <;> first | (injection h with h; injection h with h1 h2; subst h1 h2) | (exact nomatch h)
  all_goals
    refine ⟨_, by simp (config := {decide := true}) [eqGuard, binOp, Op.intArith, Op.intDiv, Op.intCmp, Op.intBits, go_sem, hφ]; rfl, fun R => ?_⟩
    first | constructor | (apply prep_bool; simp [bne]; rfl)
theorem run_binOp_sh {P : Program} {w : World} {op : BinOp} {t : TypeId} {x y : Operand} {k k' : IntKind} {a b : Int} {r : AC} {φ : Prop} (h : shOp op k a b = some (r, φ)) (hφ : φ) :
    ∃ u, ((do eqGuard op t x y (.int k a) (.int k' b); binOp op t (.int k a) (.int k' b) : Sem Value)).run P w = .ok u w ∧ ∀ R, PRep R u r := by
  cases op <;> first | (injection h with h; injection h with h1 h2; subst h1 h2) | (exact nomatch h)
  all_goals
    have hn : ¬ b < 0 := by omega
    refine ⟨_, by simp [eqGuard, binOp, Op.shift, go_sem, hn]; rfl, fun R => ?_⟩
    constructor
theorem run_binOp_str {P : Program} {w : World} {op : BinOp} {t : TypeId} {x y : Operand} {a b : ByteArray} {r : AC} {φ : Prop} (h : strOp op a b = some (r, φ)) (hφ : φ) :
    ∃ u, ((do eqGuard op t x y (.string a) (.string b); binOp op t (.string a) (.string b) : Sem Value)).run P w = .ok u w ∧ ∀ R, PRep R u r := by
  cases op <;> first | (injection h with h; injection h with h1 h2; subst h1 h2) | (exact nomatch h)
  case add =>
    refine ⟨.string (a ++ b), ?_, fun R => .str _⟩
    have : ¬ (((a.size + b.size : Nat) : Int) > IntKind.i64.max) := by
      show ¬ (((a.size + b.size : Nat) : Int) > 9223372036854775807)
      omega
    simp only [eqGuard, binOp, Op.stringOp, if_neg this]
    simp (config := {decide := true}) [go_sem]
  all_goals
    refine ⟨_, by simp (config := {decide := true}) [eqGuard, binOp, Op.stringOp, go_sem]; rfl, fun R => ?_⟩
    first | constructor | (apply prep_bool; simp)

/-- A closure that holds trees only. -/
def capsC : List Cap → Option (List AC)
  | [] => some []
  | .c x :: xs => (capsC xs).map (x :: ·)
  | _ => none
/-- What a value is without its rights. -/
def SV.norm : SV → Option AC
  | .c x => some x
  | .emp => some (.lst [])
  | .own es _ => some (.lst es)
  | .clo f caps => (capsC caps).map (.fn f)
  | _ => none
def normL : List SV → Option (List AC)
  | [] => some []
  | x :: xs => match x.norm, normL xs with
    | some y, some ys => some (y :: ys)
    | _, _ => none
def AV.norm : AV → Option PV
  | .one x => x.norm.map .one
  | .agg xs => (normL xs).map .agg
  | _ => none
def AV.cells : AV → Option (List SV)
  | .one x => some [x]
  | .agg xs => some xs
  | _ => none
def PV.av : PV → AV
  | .one x => .one (.c x)
  | .agg xs => .agg (xs.map .c)
def CV.av : CV → AV
  | .val p => p.av
  | .tup ps => .tup ps

section
variable {P : Program} {B : Nat → Prop} {R : PH} {γ : List Gh} {L : List Ob} {w : World}

theorem prep_nil (R : PH) (a : Option Addr) (c : Nat) : PRep R (.slice a 0 c) (.lst []) :=
  .lst a 0 c [] 0 (fun _ => Go.undef) 0 0 rfl (Nat.zero_le _) (fun _ h => nomatch h) (fun h => absurd h (by omega)) (fun j hj => absurd hj (by omega)) (fun i e j x h => by simp at h)

theorem capsC_len : ∀ {xs : List Cap} {ys : List AC}, capsC xs = some ys → xs.length = ys.length
  | [], ys, h => by injection h with h; subst h; rfl
  | .c x :: xs, ys, h => by
    cases hq : capsC xs with
    | none => simp [capsC, hq] at h
    | some zs => simp [capsC, hq] at h; subst h; simp [capsC_len hq]
  | .ptr _ _ :: xs, ys, h => by cases h
theorem capsC_get : ∀ {xs : List Cap} {ys : List AC}, capsC xs = some ys → ∀ (j : Nat) y, ys[j]? = some y → xs[j]? = some (.c y)
  | [], ys, h, j, y, hy => by injection h with h; subst h; simp at hy
  | .c x :: xs, ys, h, j, y, hy => by
    cases hq : capsC xs with
    | none => simp [capsC, hq] at h
    | some zs =>
      simp [capsC, hq] at h; subst h
      cases j with
      | zero => simpa using hy
      | succ j => simpa using capsC_get hq j y (by simpa using hy)
  | .ptr _ _ :: xs, ys, h, j, y, hy => by cases h
theorem SV.norm_rep {x : SV} {v : Value} {y : AC} (h : x.rep R γ L v) (hy : x.norm = some y) : PRep R v y := by
  cases x with
  | c z => injection hy with hy; subst hy; exact h
  | emp => injection hy with hy; subst hy; obtain ⟨a, rfl⟩ := h; exact prep_nil _ _ _
  | own es t => injection hy with hy; subst hy; exact h.1
  | ptr id off => cases hy
  | sl id ver lo n => cases hy
  | ep id ver i o => cases hy
  | mp id => cases hy
  | clo f caps =>
    cases hq : capsC caps with
    | none => simp [SV.norm, hq] at hy
    | some cs =>
      simp [SV.norm, hq] at hy; subst hy
      obtain ⟨vs, rfl, h2, h3⟩ := h
      refine .fn f vs cs (by rw [h2, capsC_len hq]) fun j v x hv hx => ?_
      exact h3 j v _ hv (capsC_get hq j x hx)

theorem normL_len : ∀ {xs : List SV} {ys : List AC}, normL xs = some ys → ys.length = xs.length
  | [], ys, h => by injection h with h; subst h; rfl
  | x :: xs, ys, h => by
    unfold normL at h
    split at h
    · rename_i y zs h1 h2
      injection h with h; subst h
      simp [normL_len h2]
    · cases h
theorem normL_get : ∀ {xs : List SV} {ys : List AC}, normL xs = some ys → ∀ (j : Nat) x y, xs[j]? = some x → ys[j]? = some y → x.norm = some y
  | [], ys, h, j, x, y, hx, hy => by simp at hx
  | x0 :: xs, ys, h, j, x, y, hx, hy => by
    unfold normL at h
    split at h
    · rename_i y0 zs h1 h2
      injection h with h; subst h
      cases j with
      | zero => simp at hx hy; subst hx hy; exact h1
      | succ j => exact normL_get h2 j x y (by simpa using hx) (by simpa using hy)
    · cases h

theorem AV.norm_rep {x : AV} {v : Value} {y : PV} (h : x.rep R γ L v) (hy : x.norm = some y) : y.rep R v := by
  cases x with
  | one x =>
    cases hn : x.norm with
    | none => simp [AV.norm, hn] at hy
    | some z =>
      simp [AV.norm, hn] at hy
      subst hy
      exact SV.norm_rep h hn
  | agg xs =>
    cases hn : normL xs with
    | none => simp [AV.norm, hn] at hy
    | some zs =>
      simp [AV.norm, hn] at hy
      subst hy
      obtain ⟨vs, h1, h2, h3⟩ := h
      refine ⟨vs, h1, by rw [h2, normL_len hn], fun j u y hu hy => ?_⟩
      have hj : j < xs.length := by rw [← h2]; exact (Array.getElem?_eq_some_iff.1 hu).1
      exact SV.norm_rep (h3 j u _ hu (List.getElem?_eq_getElem hj)) (normL_get hn j _ _ (List.getElem?_eq_getElem hj) hy)
  | tup ps => cases hy
  | undef => cases hy

theorem PV.av_rep {p : PV} {v : Value} (h : p.rep R v) : p.av.rep R γ L v := by
  cases p with
  | one x => exact h
  | agg xs =>
    obtain ⟨vs, h1, h2, h3⟩ := h
    refine ⟨vs, h1, by simp [h2], fun j u x hu hx => ?_⟩
    rw [List.getElem?_map] at hx
    cases hx' : xs[j]? with
    | none => simp [hx'] at hx
    | some y => simp [hx'] at hx; subst hx; exact h3 j u y hu hx'
theorem CV.av_rep {p : CV} {v : Value} (h : p.rep R v) : p.av.rep R γ L v := by
  cases p with
  | val p => exact PV.av_rep h
  | tup ps => exact h

/-- One cell each. -/
theorem PRep.one {v : Value} {x : AC} (h : PRep R v x) : v.cells = #[v] ∧ v.oneCell' = true := by
  cases h <;> first | exact ⟨rfl, rfl⟩ | (rename_i k h; subst h; cases k <;> exact ⟨rfl, rfl⟩)
theorem SV.rep_one {v : Value} {x : SV} (h : x.rep R γ L v) : v.cells = #[v] ∧ v.oneCell' = true := by
  cases x with
  | c x => exact PRep.one h
  | emp => obtain ⟨a, rfl⟩ := h; exact ⟨rfl, rfl⟩
  | own es t => exact PRep.one h.1
  | ptr id off => obtain ⟨b, rfl, _⟩ := h; exact ⟨rfl, rfl⟩
  | sl id ver lo n => exact h.1
  | ep id ver i o => exact h.1
  | mp id => obtain ⟨b, rfl, _⟩ := h; exact ⟨rfl, rfl⟩
  | clo f caps => obtain ⟨vs, rfl, _⟩ := h; exact ⟨rfl, rfl⟩

theorem SV.ofVal_rep {v : Value} {x : SV} (h : SV.ofVal v = some x) : x.rep R γ L v := by
  unfold SV.ofVal at h
  split at h <;> first | (cases h; done) | (injection h with h; subst h)
  · exact .bool _
  · exact .int _ _
  · exact .str _
  · exact ⟨_, rfl⟩
  · exact .nul _ _ rfl
  · exact .nul _ _ rfl
  · exact .nul _ _ rfl
  · exact .nul _ _ rfl
theorem svs_len : ∀ {vs : List Value} {xs : List SV}, svs vs = some xs → vs.length = xs.length
  | [], xs, h => by injection h with h; subst h; rfl
  | v :: vs, xs, h => by
    unfold svs at h
    split at h
    · rename_i h1 h2
      injection h with h; subst h
      simp [svs_len h2]
    · cases h
theorem svs_get : ∀ {vs : List Value} {xs : List SV}, svs vs = some xs → ∀ (j : Nat) u x, vs[j]? = some u → xs[j]? = some x → x.rep R γ L u
  | [], xs, h, j, u, x, hu, hx => by simp at hu
  | v :: vs, xs, h, j, u, x, hu, hx => by
    unfold svs at h
    split at h
    · rename_i h1 h2
      injection h with h; subst h
      cases j with
      | zero => simp at hu hx; subst hu hx; exact SV.ofVal_rep h1
      | succ j => exact svs_get h2 j u x (by simpa using hu) (by simpa using hx)
    · cases h
theorem AV.ofVal_rep {v : Value} {x : AV} (h : AV.ofVal v = some x) : x.rep R γ L v := by
  unfold AV.ofVal at h
  split at h
  · rename_i vs
    cases hs : svs vs.toList with
    | none => simp [hs] at h
    | some xs =>
      simp [hs] at h; subst h
      exact ⟨vs, rfl, by rw [← svs_len hs]; simp, fun j u x hu hx => svs_get hs j u x (by simpa using hu) hx⟩
  · rename_i hv
    cases hs : SV.ofVal v with
    | none => simp [hs] at h
    | some y => simp [hs] at h; subst h; exact SV.ofVal_rep hs
theorem look_rep {N : Nat} {T : Tm} {a : Act} (hT : TRep N R γ L T a) {x : Operand} {v : AV} (h : look T x = some v) : v.rep R γ L (a.eval x) := by
  cases x with
  | tmp t =>
    obtain ⟨u, h1, h2⟩ := hT.slot t v h
    have : a.eval (.tmp t) = u := by simp [Act.eval, Array.getD_eq_getD_getElem?, h1]
    rw [this]; exact h2
  | const c => exact AV.ofVal_rep h
  | global g => cases h
  | func f =>
    injection h with h; subst h
    exact .fn f #[] [] rfl (fun j v x hv => by simp at hv)
end
end Go.Proofs.YtnbnpnmkgemdeaaGreatDoor

namespace Go.Proofs.YtnbnpnmkgemdeaaGreatDoor
open Go.RowKit

/-- The scalars of a struct that is compared. -/
def scal : AC → Option Value
  | .bool b => some (.bool b)
  | .int k n => some (.int k n)
  | .str s => some (.string s)
  | _ => none
def scals : List SV → Option (List Value)
  | [] => some []
  | .c x :: xs => match scal x, scals xs with
    | some v, some vs => some (v :: vs)
    | _, _ => none
  | _ :: _ => none
def sameS : List SV → List SV → Bool
  | [], [] => true
  | .c (.bool a) :: xs, .c (.bool b) :: ys => (a == b) && sameS xs ys
  | .c (.int _ a) :: xs, .c (.int _ b) :: ys => decide (a = b) && sameS xs ys
  | .c (.str a) :: xs, .c (.str b) :: ys => (a.toList == b.toList) && sameS xs ys
  | _, _ => false
/-- How a struct type's comparison runs at these cells: owed where a comparison is met. -/
def EqRuns (P : Program) (t : TypeId) (xs ys : List SV) : Prop :=
  ∀ vs us, scals xs = some vs → scals ys = some us → ∀ w, (Op.equal t (.agg vs.toArray) (.agg us.toArray)).run P w = .ok (sameS xs ys) w

def fitsS : List Sc → List SV → Bool
  | [], [] => true
  | .int k :: sh, .c (.int k' _) :: xs => decide (k = k') && fitsS sh xs
  | .bool :: sh, .c (.bool _) :: xs => fitsS sh xs
  | .str :: sh, .c (.str _) :: xs => fitsS sh xs
  | _, _ => false
theorem fitsS_scals : ∀ {sh : List Sc} {xs : List SV}, fitsS sh xs = true → (scals xs).isSome
  | [], [], _ => rfl
  | .int k :: sh, .c (.int k' n) :: xs, h => by
    simp only [fitsS, Bool.and_eq_true] at h
    obtain ⟨vs, hv⟩ := Option.isSome_iff_exists.1 (fitsS_scals h.2)
    simp [scals, scal, hv]
  | .bool :: sh, .c (.bool b) :: xs, h => by
    obtain ⟨vs, hv⟩ := Option.isSome_iff_exists.1 (fitsS_scals (sh := sh) (xs := xs) h)
    simp [scals, scal, hv]
  | .str :: sh, .c (.str b) :: xs, h => by
    obtain ⟨vs, hv⟩ := Option.isSome_iff_exists.1 (fitsS_scals (sh := sh) (xs := xs) h)
    simp [scals, scal, hv]

def tstruct (P : Program) (t : TypeId) : Bool :=
  match P.underlying t with
  | some (.struct fs) => fs.all fun f => (tsize P f.type).isSome
  | _ => false
def zeroOf (P : Program) (t : TypeId) : Option AV := (P.info? t).bind fun i => i.zero.bind AV.ofVal

def popBin (ti : TI) (op : BinOp) (t : TypeId) : AV → AV → Option (AV × Prop)
  | .one (.c (.int k a)), .one (.c (.int k' b)) => match shOp op k a b with
    | some (r, φ) => some (.one (.c r), φ)
    | none => match decide (k = k'), intOp op k a b with
      | true, some (r, φ) => some (.one (.c r), φ)
      | _, _ => none
  | .one (.c (.str a)), .one (.c (.str b)) => match strOp op a b with
    | some (r, φ) => some (.one (.c r), φ)
    | none => none
  | .one (.c (.bool a)), .one (.c (.bool b)) => match op with
    | .eql => some (.one (.c (.bool (a == b))), ti.kind t = some .bool)
    | .neq => some (.one (.c (.bool (!(a == b)))), ti.kind t = some .bool)
    | _ => none
  | .agg xs, .agg ys => match ti.eqs t with
    | some sh => match op with
      | .eql => some (.one (.c (.bool (sameS xs ys))), fitsS sh xs = true ∧ fitsS sh ys = true)
      | .neq => some (.one (.c (.bool (!sameS xs ys))), fitsS sh xs = true ∧ fitsS sh ys = true)
      | _ => none
    | none => none
  | _, _ => none

def popLoad (ti : TI) (L : List Ob) (t : TypeId) : AV → Option (AV × Prop)
  | .one (.c (.ref cs)) => match ti.agg t, ti.size t with
    | some false, _ => match cs with
      | x :: _ => some (.one (.c x), True)
      | [] => none
    | some true, some n => some (.agg ((cs.take n).map .c), n ≤ cs.length)
    | _, _ => none
  | .one (.ptr id off) => match L[id]? with
    | some (.box cs) => match ti.agg t, ti.size t with
      | some false, _ => match cs[off]? with
        | some x => some (.one x, True)
        | none => none
      | some true, some n => some (.agg ((cs.drop off).take n), off + n ≤ cs.length)
      | _, _ => none
    | _ => none
  | .one (.ep id ver i o) => match L[id]? with
    | some (.row ver' es _) => match es[i]?, ti.agg t, ti.size t with
      | some e, some false, _ => match e[o]? with
        | some x => some (.one x, ver = ver')
        | none => none
      | some e, some true, some n => some (.agg ((e.drop o).take n), ver = ver' ∧ o + n ≤ e.length)
      | _, _, _ => none
    | _ => none
  | _ => none

def popFieldAddr (ti : TI) (s : TypeId) (i0 : Nat) : AV → Option (AV × Prop)
  | .one (.c (.ref cs)) => match ti.field s i0 with
    | some (o, t) => match ti.size t with
      | some (_ + 1) => some (.one (.c (.ref (cs.drop o))), o ≤ cs.length)
      | _ => none
    | none => none
  | .one (.ptr id off) => match ti.field s i0 with
    | some (o, t) => match ti.size t with
      | some (_ + 1) => some (.one (.ptr id (off + o)), True)
      | _ => none
    | none => none
  | _ => none

def popField (ti : TI) (s : TypeId) (i : Nat) : AV → Option (AV × Prop)
  | .agg xs => match ti.field s i with
    | some (o, t) => match ti.agg t, ti.size t with
      | some false, _ => match xs[o]? with
        | some x => some (.one x, True)
        | none => none
      | some true, some n => some (.agg ((xs.drop o).take n), o + n ≤ xs.length)
      | _, _ => none
    | none => none
  | _ => none

def listOf : AV → Option (List (List AC))
  | .one (.c (.lst es)) => some es
  | .one (.own es _) => some es
  | .one .emp => some []
  | _ => none

/-- A field of an element of a row that is written. -/
def popFieldRow (ti : TI) (L : List Ob) (s : TypeId) (i0 id ver i off : Nat) : Option (AV × Prop) :=
  match L[id]?, ti.field s i0 with
  | some (.row ver' _ _), some (o, t) => match ti.size t with
    | some (_ + 1) => some (.one (.ep id ver i (off + o)), ver = ver')
    | _ => none
  | _, _ => none
def popLenRow (ti : TI) (L : List Ob) (t : TypeId) (id ver n : Nat) : Option (AV × Prop) :=
  match L[id]? with
  | some (.row ver' _ _) => some (.one (.c (.int .i64 n)), ver = ver' ∧ (ti.elem t).isSome)
  | _ => none
/-- An element of a row that is written. -/
def popIndexRow (ti : TI) (L : List Ob) (t : TypeId) (id ver lo n : Nat) (ix : AV) : Option (AV × Prop) :=
  match L[id]?, ix, (ti.elem t).bind ti.size with
  | some (.row ver' _ k'), .one (.c (.int _ i)), some k => some (.one (.ep id ver (lo + i.toNat) 0), (ver = ver' ∧ k = k') ∧ 0 ≤ i ∧ i < n)
  | _, _, _ => none
def popIndexAddr (ti : TI) (t : TypeId) (x ix : AV) : Option (AV × Prop) :=
  match listOf x, ix, (ti.elem t).bind ti.size with
  | some es, .one (.c (.int _ i)), some k => match es[i.toNat]? with
    | some e => some (.one (.c (.ref e)), 0 ≤ i ∧ e.length = k)
    | none => none
  | _, _, _ => none

def popIndex (ti : TI) (t : TypeId) (x ix : AV) : Option (AV × Prop) :=
  match x, ix with
  | .one (.c (.str s)), .one (.c (.int _ i)) => match s[i.toNat]? with
    | some b => some (.one (.c (.int .u8 b.toNat)), 0 ≤ i ∧ ti.kind t = some .string)
    | none => none
  | _, _ => none

def bndOf (d : Nat) : Option AV → Option Int
  | none => some d
  | some (.one (.c (.int _ i))) => some i
  | _ => none

def popSlice (ti : TI) (L : List Ob) (t : TypeId) (x : AV) (lo hi : Option AV) : Option (AV × Prop) :=
  match x with
  | .one (.c (.str s)) => match bndOf 0 lo, bndOf s.size hi with
    | some l, some h => some (.one (.c (.str (s.extract l.toNat h.toNat))), 0 ≤ l ∧ l ≤ h ∧ h ≤ s.size ∧ ti.kind t = some .string)
    | _, _ => none
  | .one (.sl id ver lo0 n) => match L[id]?, (ti.elem t).bind ti.size with
    | some (.row ver' _ k'), some k => match bndOf 0 lo, bndOf n hi with
      | some l, some h => some (.one (.sl id ver (lo0 + l.toNat) (h.toNat - l.toNat)), ver = ver' ∧ k = k' ∧ 0 ≤ l ∧ l ≤ h ∧ h ≤ n)
      | _, _ => none
    | _, _ => none
  | _ => match listOf x, (ti.elem t).bind ti.size with
    | some es, some k => match bndOf 0 lo, bndOf es.length hi with
      | some l, some h => some (.one (.c (.lst ((es.take h.toNat).drop l.toNat))), 0 ≤ l ∧ l ≤ h ∧ h ≤ es.length ∧ ∀ e ∈ es, e.length = k)
      | _, _ => none
    | _, _ => none

def popLen (ti : TI) (t : TypeId) (x : AV) : Option (AV × Prop) :=
  match x with
  | .one (.c (.str s)) => some (.one (.c (.int .i64 s.size)), ti.kind t = some .string)
  | _ => match listOf x with
    | some es => some (.one (.c (.int .i64 es.length)), (ti.elem t).isSome)
    | none => none

def popMinMax (mx : Bool) : AV → AV → Option (AV × Prop)
  | .one (.c (.int k a)), .one (.c (.int _ b)) => some (.one (.c (.int k (if mx then (if b > a then b else a) else (if b < a then b else a)))), True)
  | _, _ => none

def splice (zs : List SV) (o : Nat) (xs : List SV) : List SV := zs.take o ++ xs ++ zs.drop (o + xs.length)
def popBuild (ti : TI) (t : TypeId) : List SV → List (Nat × Option AV) → Option (List SV × Prop)
  | zs, [] => some (zs, True)
  | zs, (i, v) :: ps => match v.bind AV.cells, ti.field t i with
    | some xs, some (o, ty) => match popBuild ti t (splice zs o xs) ps with
      | some (r, φ) => some (r, (ti.size ty = some xs.length ∧ o + xs.length ≤ zs.length) ∧ φ)
      | none => none
    | _, _ => none
def capsOf : List (Option AV) → Option (List AC)
  | [] => some []
  | some (.one y) :: xs => match y.norm, capsOf xs with
    | some z, some zs => some (z :: zs)
    | _, _ => none
  | _ => none

def pop (ti : TI) (ρ : Operand → Option AV) (L : List Ob) : Op → Option (AV × Prop)
  | .move x => match ρ x with
    | some v => some (v, True)
    | none => none
  | .assign x => match ρ x with
    | some v => some (v, True)
    | none => none
  | .pick c a b => match ρ c, ρ a, ρ b with
    | some (.one (.c (.bool t))), some va, some vb => some (if t = true then va else vb, True)
    | _, _, _ => none
  | .binOp op t x y _ => match ρ x, ρ y with
    | some va, some vb => popBin ti op t va vb
    | _, _ => none
  | .unOp op _ x => match op, ρ x with
    | .not, some (.one (.c (.bool b))) => some (.one (.c (.bool !b)), True)
    | .neg, some (.one (.c (.int k n))) => some (.one (.c (.int k (k.wrap (0 - n)))), True)
    | _, _ => none
  | .convert src dst x => match ρ x with
    | some (.one (.c (.int _ n))) => match ti.kind dst with
      | some (.int k) => some (.one (.c (.int k (k.wrap n))), (ti.kind src).isSome)
      | _ => none
    | some (.one (.c (.str s))) => some (.one (.c (.str s)), ti.kind dst = some .string ∧ (ti.kind src).isSome)
    | _ => none
  | .load t p => (ρ p).bind (popLoad ti L t)
  | .fieldAddr s x i => match ρ x with
    | some (.one (.ep id ver i0 off)) => popFieldRow ti L s i id ver i0 off
    | some vx => popFieldAddr ti s i vx
    | none => none
  | .field s x i => (ρ x).bind (popField ti s i)
  | .indexAddr t x ix => match ρ x, ρ ix with
    | some (.one (.sl id ver lo n)), some vi => popIndexRow ti L t id ver lo n vi
    | some vx, some vi => popIndexAddr ti t vx vi
    | _, _ => none
  | .index t x ix => match ρ x, ρ ix with
    | some vx, some vi => popIndex ti t vx vi
    | _, _ => none
  | .extract t i => match ρ t with
    | some (.tup ps) => match ps[i]? with
      | some p => some (p.av, True)
      | none => none
    | _ => none
  | .nilCheck x => match ρ x with
    | some (.one (.c (.ref cs))) => some (.one (.c (.ref cs)), True)
    | some (.one (.ptr id off)) => some (.one (.ptr id off), True)
    | some (.one (.ep id ver i o)) => match L[id]? with
      | some (.row ver' _ _) => some (.one (.ep id ver i o), ver = ver')
      | _ => none
    | some (.one (.clo f cs)) => some (.one (.clo f cs), True)
    | some (.one (.c (.fn f cs))) => some (.one (.c (.fn f cs)), True)
    | _ => none
  | .slice t x lo hi none => match ρ x, lo.map ρ, hi.map ρ with
    | some v, none, none => popSlice ti L t v none none
    | some v, some (some l), none => popSlice ti L t v (some l) none
    | some v, none, some (some h) => popSlice ti L t v none (some h)
    | some v, some (some l), some (some h) => popSlice ti L t v (some l) (some h)
    | _, _, _ => none
  | .call { callee := .builtin .len, args, argTypes } => match args.toList, argTypes.toList with
    | [x], [t] => match ρ x with
      | some (.one (.sl id ver _ n)) => popLenRow ti L t id ver n
      | some vx => popLen ti t vx
      | none => none
    | _, _ => none
  | .call { callee := .builtin .min, args, .. } => match args.toList.map ρ with
    | [some x, some y] => popMinMax false x y
    | _ => none
  | .call { callee := .builtin .max, args, .. } => match args.toList.map ρ with
    | [some x, some y] => popMinMax true x y
    | _ => none
  | .build t parts => match ti.zero t with
    | some (.agg zs) => match popBuild ti t zs (parts.toList.map fun p => (p.1, ρ p.2)) with
      | some (r, φ) => some (.agg r, ti.struct t = true ∧ φ)
      | none => none
    | _ => none
  | .makeFunc (.func f) first captured => match first.toList, capsOf (captured.toList.map ρ) with
    | [], some cs => some (.one (.c (.fn f cs)), True)
    | _, _ => none
  | _ => none


def tzero (P : Program) (t : TypeId) (k : Nat) : Prop := ∃ i z, P.info? t = some i ∧ i.zero = some z ∧ i.size = k ∧ z.cells.size = k
def tbytes (P : Program) (t : TypeId) : Option Nat := (P.info? t).map (·.bytes)
/-- The table is the program's. -/
structure TIok (P : Program) (ti : TI) : Prop where
  size : ∀ t n, ti.size t = some n → tsize P t = some n
  agg : ∀ t b, ti.agg t = some b → tagg P t = some b
  elem : ∀ t e, ti.elem t = some e → telem P t = some e
  field : ∀ s i r, ti.field s i = some r → tfield P s i = some r
  zero : ∀ t v, ti.zero t = some v → zeroOf P t = some v
  bytes : ∀ t n, ti.bytes t = some n → tbytes P t = some n
  kind : ∀ t d, ti.kind t = some d → P.underlying t = some d
  struct : ∀ t, ti.struct t = true → tstruct P t = true
  zok : ∀ t, ti.zok t = true → ∀ k, tsize P t = some k → tzero P t k
  eqs : ∀ t sh, ti.eqs t = some sh → P.eqGuardType P.depth t = false ∧ ∀ xs ys, fitsS sh xs = true → fitsS sh ys = true → EqRuns P t xs ys
theorem TIok.es {P : Program} {ti : TI} (h : TIok P ti) {t n : Nat} (e : (ti.elem t).bind ti.size = some n) : (telem P t).bind (tsize P) = some n := by
  cases he : ti.elem t with
  | none => simp [he] at e
  | some E => simp only [he, Option.bind_some] at e; rw [h.elem _ _ he]; exact h.size _ _ e

/-- An operation is carried out, over trees. -/
def OpTo (P : Program) (B : Nat → Prop) (R : PH) (γ : List Gh) (L : List Ob) (w : World) (s : Sem Next) (v : AV) : Prop :=
  ∃ u w' R', s.run P w = .ok (.value u) w' ∧ Inv B R' γ L w' ∧ Ext B R R' w w' ∧ v.rep R' γ L u

section
variable {P : Program} {B : Nat → Prop} {R : PH} {γ : List Gh} {L : List Ob} {w : World}
theorem OpTo.quiet (hi : Inv B R γ L w) {s : Sem Value} {v : AV} {u : Value} (h : s.run P w = .ok u w) (hr : v.rep R γ L u) : OpTo P B R γ L w (do pure (.value (← s))) v :=
  ⟨u, w, R, by simp [h], hi, Ext.refl _ _ _, hr⟩

theorem scals_of : ∀ {xs : List SV} {us : List Value}, (scals xs).isSome → us.length = xs.length → (∀ (j : Nat) u x, us[j]? = some u → xs[j]? = some x → x.rep R γ L u) → scals xs = some us
  | [], us, _, hl, _ => by cases us with | nil => rfl | cons => simp at hl
  | x :: xs, us, h, hl, hr => by
    cases us with
    | nil => simp at hl
    | cons u us =>
      have h0 := hr 0 u x rfl rfl
      cases x with
      | c y =>
        unfold scals at h ⊢
        cases hs : scals xs with
        | none => rw [hs] at h; cases y <;> simp [scal] at h
        | some vs =>
          have ih := scals_of (xs := xs) (us := us) (by simp [hs]) (by simpa using hl) fun j u x hu hx => hr (j + 1) u x (by simpa using hu) (by simpa using hx)
          rw [hs] at ih
          injection ih with ih
          subst ih
          cases y with
          | bool b => cases h0; rfl
          | int k n => cases h0; rfl
          | str s => cases h0; rfl
          | lst es => rw [hs] at h; simp [scal] at h
          | ref cs => rw [hs] at h; simp [scal] at h
          | fn f cs => rw [hs] at h; simp [scal] at h
          | nul k => rw [hs] at h; simp [scal] at h
      | emp => simp [scals] at h
      | own es t => simp [scals] at h
      | ptr id off => simp [scals] at h
      | sl id ver lo n => simp [scals] at h
      | ep id ver i o => simp [scals] at h
      | mp id => simp [scals] at h
      | clo f caps => simp [scals] at h

theorem run_equal_bool {t : TypeId} {a b : Bool} (h : P.underlying t = some .bool) : (Op.equal t (.bool a) (.bool b)).run P w = .ok (a == b) w := by
  have e : Op.maxDepth = 9999 + 1 := rfl
  unfold Op.equal
  rw [e, Op.equalIn]
  simp [underlying, program, Sem.run, h]

theorem popBin_sound {ti : TI} (hti : TIok P ti) (hi : Inv B R γ L w) {op : BinOp} {t : TypeId} {x y : Operand} {va vb v : AV} {φ : Prop} {u1 u2 : Value} (h1 : va.rep R γ L u1) (h2 : vb.rep R γ L u2)
    (h : popBin ti op t va vb = some (v, φ)) (hφ : φ) : ∃ u, ((do eqGuard op t x y u1 u2; binOp op t u1 u2 : Sem Value)).run P w = .ok u w ∧ v.rep R γ L u := by
  unfold popBin at h
  split at h
  · rename_i k a k' b
    cases h1; cases h2
    split at h
    · rename_i r ψ hop
      injection h with h; injection h with e1 e2
      subst e1 e2
      obtain ⟨u, hu1, hu2⟩ := run_binOp_sh (P := P) (w := w) (t := t) (x := x) (y := y) hop hφ
      exact ⟨u, hu1, hu2 R⟩
    · split at h
      · rename_i r ψ hkk hop
        injection h with h; injection h with e1 e2
        subst e1 e2
        have hkk := of_decide_eq_true hkk
        subst hkk
        obtain ⟨u, hu1, hu2⟩ := run_binOp_int (P := P) (w := w) (t := t) (x := x) (y := y) hop hφ
        exact ⟨u, hu1, hu2 R⟩
      · cases h
  · rename_i a b
    cases h1; cases h2
    split at h
    · rename_i r ψ hop
      injection h with h; injection h with e1 e2
      subst e1 e2
      obtain ⟨u, hu1, hu2⟩ := run_binOp_str (P := P) (w := w) (t := t) (x := x) (y := y) hop hφ
      exact ⟨u, hu1, hu2 R⟩
    · cases h
  · rename_i a b
    cases h1; cases h2
    split at h <;> first | (injection h with h; injection h with e1 e2; subst e1 e2) | (cases h; done)
    · exact ⟨.bool (a == b), by simp [eqGuard, binOp, run_equal_bool (hti.kind _ _ hφ)], .bool _⟩
    · exact ⟨.bool (!(a == b)), by simp [eqGuard, binOp, run_equal_bool (hti.kind _ _ hφ)], .bool _⟩
  · rename_i xs ys
    obtain ⟨vs, rfl, h1s, h1r⟩ := h1
    obtain ⟨us, rfl, h2s, h2r⟩ := h2
    split at h
    case h_2 => cases h
    rename_i sh hsh
    split at h <;> first | (injection h with h; injection h with e1 e2; subst e1 e2) | (cases h; done)
    all_goals
      obtain ⟨hf1, hf2⟩ := hφ
      obtain ⟨hg, hEE⟩ := hti.eqs _ _ hsh
      have hE := hEE xs ys hf1 hf2
      have hx := fitsS_scals hf1
      have hy := fitsS_scals hf2
      have ex := scals_of (us := vs.toList) hx (by simpa using h1s) fun j u x hu => h1r j u x (by simpa using hu)
      have ey := scals_of (us := us.toList) hy (by simpa using h2s) fun j u x hu => h2r j u x (by simpa using hu)
      have hrun := hE _ _ ex ey w
      simp only [Array.toArray_toList] at hrun
    · exact ⟨.bool (sameS xs ys), by simp [eqGuard, binOp, go_sem, hg, hrun], .bool _⟩
    · exact ⟨.bool (!sameS xs ys), by simp [eqGuard, binOp, go_sem, hg, hrun], .bool _⟩
  · cases h
end
end Go.Proofs.YtnbnpnmkgemdeaaGreatDoor

namespace Go.Proofs.YtnbnpnmkgemdeaaGreatDoor
open Go.RowKit

section
variable {P : Program} {ti : TI} {B : Nat → Prop} {R : PH} {γ : List Gh} {L : List Ob} {w : World}

theorem cell_of_block {b o : Nat} {vs : Array Value} {E : TypeId} {f : Nat × Nat} (h : w.heap[b]? = some (.cells vs E f)) : w.cell? ⟨b, o, none⟩ = vs[o]? := by
  simp [World.cell?, h]
theorem run_isAgg {t : TypeId} {c : Bool} (h : tagg P t = some c) : (isAgg t).run P w = .ok c w := by
  unfold tagg at h
  split at h <;> first | (cases h; done) | (injection h with h; subst h)
  · rename_i e; simp [isAgg, underlying, program, Sem.run, e]
  · rename_i e; simp [isAgg, underlying, program, Sem.run, e]
  · rename_i d h1 h2 e
    simp [isAgg, underlying, program, Sem.run, e]
theorem row_of_tagg {t : TypeId} (h : tagg P t = some true) : ∃ d, P.underlying t = some d ∧ d.isRow = true := by
  unfold tagg at h
  split at h <;> first | (cases h; done) | skip
  · rename_i e; exact ⟨_, e, rfl⟩
  · rename_i e; exact ⟨_, e, rfl⟩
theorem run_loadAt_one {t : TypeId} {b o : Nat} {u : Value} (h : tagg P t = some false) (hc : w.cell? ⟨b, o, none⟩ = some u) : (Instr.loadAt t (.pointer (some ⟨b, o, none⟩))).run P w = .ok u w := by
  simp [Instr.loadAt, Instr.sureAddr, loadVar, run_isAgg h, run_load, hc]
theorem run_loadAt_agg {t : TypeId} {b o n : Nat} {cs : List Value} (h : tagg P t = some true) (hn : tsize P t = some n) (hl : cs.length = n) (hc : ∀ (j : Nat) u, cs[j]? = some u → w.cell? ⟨b, o + j, none⟩ = some u) :
    (Instr.loadAt t (.pointer (some ⟨b, o, none⟩))).run P w = .ok (.agg cs.toArray) w := by
  obtain ⟨d, hd, hr⟩ := row_of_tagg h
  have := run_loadVar_mid (P := P) w b o t cs d hc hd hr (by rw [hl]; exact hn)
  simp [Instr.loadAt, Instr.sureAddr, this]

theorem popLoad_sound (hti : TIok P ti) (hi : Inv B R γ L w) {t : TypeId} {va v : AV} {φ : Prop} {u1 : Value} (h1 : va.rep R γ L u1) (h : popLoad ti L t va = some (v, φ)) (hφ : φ) :
    ∃ u, (Instr.loadAt t u1).run P w = .ok u w ∧ v.rep R γ L u := by
  unfold popLoad at h
  split at h
  · rename_i cs
    cases h1 with
    | ref b o cs cv hr he =>
      split at h
      · rename_i ht
        split at h
        · rename_i x rest
          injection h with h; injection h with e1 e2; subst e1 e2
          exact ⟨cv 0, run_loadAt_one (hti.agg _ _ ht) (by have := hr 0 (by simp); exact hi.val _ _ _ this), he 0 x rfl⟩
        · cases h
      · rename_i n ht hn
        injection h with h; injection h with e1 e2; subst e1 e2
        refine ⟨.agg ((List.range n).map cv).toArray, run_loadAt_agg (hti.agg _ _ ht) (hti.size _ _ hn) (by simp) ?_, _, rfl, by simp; omega, ?_⟩
        · intro j u hu
          rw [List.getElem?_map] at hu
          by_cases hj : j < n
          · rw [List.getElem?_range hj] at hu
            injection hu with hu; subst hu
            exact hi.val _ _ _ (hr j (by omega))
          · rw [List.getElem?_eq_none (by simp; omega)] at hu; cases hu
        · intro j u x hu hx
          simp only [List.getElem?_toArray, List.getElem?_map] at hu hx
          by_cases hj : j < n
          · rw [List.getElem?_range hj] at hu
            injection hu with hu; subst hu
            rw [List.getElem?_take, if_pos hj] at hx
            cases hy : cs[j]? with
            | none => simp [hy] at hx
            | some y => simp [hy] at hx; subst hx; exact he j y hy
          · rw [List.getElem?_eq_none (by simp; omega)] at hu; cases hu
      · cases h
  · rename_i id off
    obtain ⟨b, rfl, hg⟩ := h1
    split at h
    · rename_i cs hL
      obtain ⟨⟨vs, E, hb, hs, hv⟩, _⟩ := hi.obj id _ _ hL hg
      split at h
      · rename_i ht
        split at h
        case h_2 => cases h
        · rename_i x hc
          injection h with h; injection h with e1 e2; subst e1 e2
          have hlt : off < vs.size := by rw [hs]; exact (List.getElem?_eq_some_iff.1 hc).1
          have hu : vs[off]? = some vs[off] := Array.getElem?_eq_getElem hlt
          exact ⟨vs[off], run_loadAt_one (hti.agg _ _ ht) (by rw [cell_of_block hb]; exact hu), hv off _ x hu hc⟩
      · rename_i n ht hn
        injection h with h; injection h with e1 e2; subst e1 e2
        refine ⟨.agg ((vs.toList.drop off).take n).toArray, run_loadAt_agg (hti.agg _ _ ht) (hti.size _ _ hn) (by simp; omega) ?_, _, rfl, by simp; omega, ?_⟩
        · intro j u hu
          rw [cell_of_block hb]
          rw [List.getElem?_take] at hu
          split at hu
          · rw [List.getElem?_drop] at hu; simpa using hu
          · cases hu
        · intro j u x hu hx
          simp only [List.getElem?_toArray] at hu
          rw [List.getElem?_take] at hu hx
          split at hu
          · rename_i hj
            rw [if_pos hj] at hx
            rw [List.getElem?_drop] at hu hx
            exact hv (off + j) u x (by simpa using hu) hx
          · cases hu
      · cases h
    · cases h
  · rename_i id ver i o
    obtain ⟨_, hlt, h1⟩ := h1
    split at h
    case h_2 => cases h
    rename_i ver' es k hL
    split at h
    · rename_i e he ht
      split at h
      case h_2 => cases h
      rename_i x hx
      injection h with h; injection h with e1 e2; subst e1 e2
      subst hφ
      obtain ⟨hi2, g, hg, hat⟩ := (h1 _ es k hL).2 rfl
      have hob := hi.obj id _ _ hL hg
      match g, hat, hob with
      | .arr b c, hat, ⟨⟨vs, E, ⟨hb, hE65⟩, hs, hv⟩, hc, hk, hw, hR⟩ =>
        have hat : u1 = .pointer (some ⟨b, i * k + o, none⟩) := hat
        subst hat
        have ho : o < k := by rw [← hw e (List.mem_of_getElem? he)]; exact (List.getElem?_eq_some_iff.1 hx).1
        have hlt2 : i * k + o < vs.size := by
          rw [hs]
          have : (i + 1) * k ≤ c * k := Nat.mul_le_mul_right _ (by omega)
          rw [Nat.succ_mul] at this; omega
        have hu : vs[i * k + o]? = some vs[i * k + o] := Array.getElem?_eq_getElem hlt2
        exact ⟨vs[i * k + o], run_loadAt_one (hti.agg _ _ ht) (by rw [cell_of_block hb]; exact hu), hv i e o _ x he hu hx⟩
    · rename_i e n he ht hn
      injection h with h; injection h with e1 e2; subst e1 e2
      obtain ⟨hve, hle⟩ := hφ
      subst hve
      obtain ⟨hi2, g, hg, hat⟩ := (h1 _ es k hL).2 rfl
      have hob := hi.obj id _ _ hL hg
      match g, hat, hob with
      | .arr b c, hat, ⟨⟨vs, E, ⟨hb, hE65⟩, hs, hv⟩, hc, hk, hw, hR⟩ =>
        have hat : u1 = .pointer (some ⟨b, i * k + o, none⟩) := hat
        subst hat
        have hek := hw e (List.mem_of_getElem? he)
        have hlt2 : i * k + k ≤ vs.size := by
          rw [hs]
          have : (i + 1) * k ≤ c * k := Nat.mul_le_mul_right _ (by omega)
          rw [Nat.succ_mul] at this; omega
        refine ⟨.agg ((vs.toList.drop (i * k + o)).take n).toArray, run_loadAt_agg (hti.agg _ _ ht) (hti.size _ _ hn) (by simp; omega) ?_, _, rfl, by simp; omega, ?_⟩
        · intro j u hu
          rw [cell_of_block hb]
          rw [List.getElem?_take] at hu
          split at hu
          · rw [List.getElem?_drop] at hu; simpa using hu
          · cases hu
        · intro j u x hu hx
          simp only [List.getElem?_toArray] at hu
          rw [List.getElem?_take] at hu hx
          split at hu
          · rename_i hj
            rw [if_pos hj] at hx
            rw [List.getElem?_drop] at hu hx
            exact hv i e (o + j) u x he (by rw [← Nat.add_assoc]; simpa using hu) hx
          · cases hu
    · cases h
  · cases h

theorem tfield_parts {s : TypeId} {i o : Nat} {t : TypeId} (h : tfield P s i = some (o, t)) : ∃ fs f, P.underlying s = some (.struct fs) ∧ fs[i]? = some f ∧ f.offset = o ∧ f.type = t := by
  unfold tfield at h
  split at h
  · rename_i fs e
    cases hf : fs[i]? with
    | none => simp [hf] at h
    | some f =>
      simp [hf] at h
      exact ⟨fs, f, e, hf, h.1, h.2⟩
  · cases h
theorem run_sizeOf {t : TypeId} {n : Nat} (h : tsize P t = some n) : (sizeOf t).run P w = .ok n w := by
  unfold tsize at h
  cases hi : P.info? t with
  | none => simp [hi] at h
  | some i => simp [hi] at h; simp [sizeOf, typeInfo, program, Sem.run, hi, h]
theorem run_fieldAt {s : TypeId} {i o : Nat} {t : TypeId} {b f : Nat} (h : tfield P s i = some (o, t)) (h0 : tsize P t ≠ some 0) (h1 : (tsize P t).isSome) :
    (Instr.fieldAt s (.pointer (some ⟨b, f, none⟩)) i).run P w = .ok (.pointer (some ⟨b, f + o, none⟩)) w := by
  obtain ⟨fs, fd, e1, e2, e3, e4⟩ := tfield_parts h
  obtain ⟨n, hn⟩ := Option.isSome_iff_exists.1 h1
  have hn0 : n ≠ 0 := fun e => h0 (by rw [hn, e])
  subst e3 e4
  simp [Instr.fieldAt, underlying, program, Sem.run, e1, e2, Instr.sureAddr, fieldPlace, run_sizeOf hn, hn0, Addr.add_mid]

theorem popFieldAddr_sound (hti : TIok P ti) {s : TypeId} {i : Nat} {va v : AV} {φ : Prop} {u1 : Value} (h1 : va.rep R γ L u1) (h : popFieldAddr ti s i va = some (v, φ)) (hφ : φ) :
    ∃ u, (Instr.fieldAt s u1 i).run P w = .ok u w ∧ v.rep R γ L u := by
  unfold popFieldAddr at h
  split at h
  · rename_i cs
    cases h1 with
    | ref b o cs cv hr he =>
      split at h
      · rename_i o' t hf
        split at h
        case h_2 => cases h
        rename_i n hn
        injection h with h; injection h with e1 e2; subst e1 e2
        have hle := hφ
        have hn' := hti.size _ _ hn
        refine ⟨_, run_fieldAt (hti.field _ _ _ hf) (by rw [hn']; simp) (by rw [hn']; rfl), ?_⟩
        refine .ref b (o + o') _ (fun j => cv (o' + j)) (fun j hj => ?_) (fun j x hx => ?_)
        · rw [List.length_drop] at hj
          rw [Nat.add_assoc]; exact hr _ (by omega)
        · rw [List.getElem?_drop] at hx; exact he _ _ hx
      · cases h
  · rename_i id off
    obtain ⟨b, rfl, hg⟩ := h1
    split at h
    · rename_i o' t hf
      split at h
      case h_2 => cases h
      rename_i n hn
      injection h with h; injection h with e1 e2; subst e1 e2
      have hn' := hti.size _ _ hn
      exact ⟨_, run_fieldAt (hti.field _ _ _ hf) (by rw [hn']; simp) (by rw [hn']; rfl), b, rfl, hg⟩
    · cases h
  · cases h

theorem popField_sound (hti : TIok P ti) {s : TypeId} {i : Nat} {va v : AV} {φ : Prop} {u1 : Value} (h1 : va.rep R γ L u1) (h : popField ti s i va = some (v, φ)) (hφ : φ) :
    ∃ u, (Instr.field s u1 i).run P w = .ok u w ∧ v.rep R γ L u := by
  unfold popField at h
  split at h
  · rename_i xs
    obtain ⟨vs, rfl, hs, hv⟩ := h1
    split at h
    · rename_i o t hf
      obtain ⟨fs, fd, e1, e2, e3, e4⟩ := tfield_parts (hti.field _ _ _ hf)
      subst e3 e4
      split at h
      · rename_i ht
        split at h
        case h_2 => cases h
        · rename_i x hc
          injection h with h; injection h with e5 e6; subst e5 e6
          have hlt : fd.offset < vs.size := by rw [hs]; exact (List.getElem?_eq_some_iff.1 hc).1
          have hu : vs[fd.offset]? = some vs[fd.offset] := Array.getElem?_eq_getElem hlt
          exact ⟨vs[fd.offset], by simp [Instr.field, underlying, program, Sem.run, e1, e2, asAgg, part, run_isAgg (hti.agg _ _ ht), hu], hv _ _ x hu hc⟩
      · rename_i n ht hn
        injection h with h; injection h with e5 e6; subst e5 e6
        refine ⟨.agg (vs.extract fd.offset (fd.offset + n)), by simp [Instr.field, underlying, program, Sem.run, e1, e2, asAgg, part, run_isAgg (hti.agg _ _ ht), run_sizeOf (hti.size _ _ hn)], _, rfl, by simp; omega, ?_⟩
        intro j u x hu hx
        rw [Array.getElem?_extract] at hu
        split at hu
        · rw [List.getElem?_take] at hx
          split at hx
          · rw [List.getElem?_drop] at hx; exact hv _ u x hu hx
          · cases hx
        · cases hu
      · cases h
    · cases h
  · cases h

theorem listOf_rep {x : AV} {v : Value} {es : List (List AC)} (h : x.rep R γ L v) (he : listOf x = some es) : PRep R v (.lst es) := by
  unfold listOf at he
  split at he <;> first | (injection he with he; subst he) | (cases he; done)
  · exact h
  · exact h.1
  · obtain ⟨a, rfl⟩ := h; exact prep_nil _ _ _
theorem telem_parts {t : TypeId} {n : Nat} (h : (telem P t).bind (tsize P) = some n) : ∃ e, P.underlying t = some (.slice e) ∧ tsize P e = some n := by
  unfold telem at h
  split at h
  · rename_i e he; exact ⟨e, he, h⟩
  · cases h

theorem popIndexAddr_sound (hti : TIok P ti) {t : TypeId} {vx vi v : AV} {φ : Prop} {u1 u2 : Value} (h1 : vx.rep R γ L u1) (h2 : vi.rep R γ L u2) (h : popIndexAddr ti t vx vi = some (v, φ)) (hφ : φ) :
    ∃ u, (Instr.indexAt t u1 u2).run P w = .ok u w ∧ v.rep R γ L u := by
  unfold popIndexAddr at h
  split at h
  · rename_i es k0 i k hl ht
    have hp := listOf_rep h1 hl
    cases h2
    obtain ⟨E, hE, hk⟩ := telem_parts (hti.es ht)
    split at h
    · rename_i e he
      injection h with h; injection h with e1 e2; subst e1 e2
      cases hp with
      | lst a n c _ k' cv b o hn hc hkk ha hr hx =>
        have hlt : i.toNat < es.length := (List.getElem?_eq_some_iff.1 he).1
        have hmem : e ∈ es := List.mem_of_getElem? he
        obtain ⟨h0, hek⟩ := hφ
        have hkk' : k' = k := by rw [← hkk e hmem]; exact hek
        subst hkk'
        have ea := ha (by omega)
        subst ea
        have hi2 : i < (n : Int) := by omega
        refine ⟨.pointer (some ⟨b, o + i.toNat * k', none⟩), ?_, ?_⟩
        · simp [Instr.indexAt, asIntOf, underlying, program, Sem.run, hE, h0, hi2, run_sizeOf hk, Addr.add_mid]
        · refine .ref b _ e (fun j => cv (i.toNat * k' + j)) (fun j hj => ?_) (fun j x hxj => hx _ _ _ _ he hxj)
          rw [Nat.add_assoc]
          apply hr
          have h3 : i.toNat * k' + k' ≤ n * k' := by
            have : (i.toNat + 1) * k' ≤ n * k' := Nat.mul_le_mul_right _ (by omega)
            rw [Nat.succ_mul] at this; exact this
          omega
    · cases h
  · cases h

theorem popIndexRow_sound (hti : TIok P ti) (hi : Inv B R γ L w) {t : TypeId} {id ver lo n : Nat} {vi v : AV} {φ : Prop} {u1 u2 : Value} (h1 : (SV.sl id ver lo n).rep R γ L u1) (h2 : vi.rep R γ L u2) (h : popIndexRow ti L t id ver lo n vi = some (v, φ)) (hφ : φ) :
    ∃ u, (Instr.indexAt t u1 u2).run P w = .ok u w ∧ v.rep R γ L u := by
  unfold popIndexRow at h
  split at h
  case h_2 => cases h
  rename_i ver' es k' k0 i k hL ht
  injection h with h; injection h with e1 e2; subst e1 e2
  obtain ⟨⟨hv1, hv2⟩, h0, h3⟩ := hφ
  subst hv1 hv2
  cases h2
  obtain ⟨E, hE, hk⟩ := telem_parts (hti.es ht)
  obtain ⟨_, hlt, h1⟩ := h1
  obtain ⟨hle, g, hg, hat⟩ := (h1 _ es k hL).2 rfl
  match g, hat with
  | .none, ⟨_, hn, _⟩ => exact absurd h3 (by omega)
  | .arr b c, hat =>
    have hat : u1 = .slice (some ⟨b, lo * k, none⟩) n (c - lo) := by
      rcases hat with hat | ⟨_, hn, _⟩
      · exact hat
      · exact absurd h3 (by omega)
    subst hat
    refine ⟨.pointer (some ⟨b, lo * k + i.toNat * k, none⟩), ?_, ⟨rfl, rfl⟩, hlt, fun ver2 es' k2 e => ?_⟩
    · simp [Instr.indexAt, asIntOf, underlying, program, Sem.run, hE, h0, h3, run_sizeOf hk, Addr.add_mid]
    · rw [hL] at e; injection e with e; injection e with e0 e1 e2; subst e0 e1 e2; refine ⟨Nat.le_refl _, fun _ => ?_⟩
      refine ⟨by omega, .arr b c, hg, ?_⟩
      show Value.pointer _ = Value.pointer _
      rw [Nat.add_mul, Nat.add_zero]

theorem popFieldRow_sound (hti : TIok P ti) {s : TypeId} {i0 id ver i off : Nat} {v : AV} {φ : Prop} {u1 : Value} (h1 : (SV.ep id ver i off).rep R γ L u1) (h : popFieldRow ti L s i0 id ver i off = some (v, φ)) (hφ : φ) :
    ∃ u, (Instr.fieldAt s u1 i0).run P w = .ok u w ∧ v.rep R γ L u := by
  unfold popFieldRow at h
  split at h
  case h_2 => cases h
  rename_i ver' es k o t hL hf
  split at h
  case h_2 => cases h
  rename_i n hn
  injection h with h; injection h with e1 e2; subst e1 e2
  subst hφ
  obtain ⟨_, hlt, h1⟩ := h1
  obtain ⟨hle, g, hg, hat⟩ := (h1 _ es k hL).2 rfl
  have hn' := hti.size _ _ hn
  match g, hat with
  | .arr b c, hat =>
    have hat : u1 = .pointer (some ⟨b, i * k + off, none⟩) := hat
    subst hat
    refine ⟨_, run_fieldAt (hti.field _ _ _ hf) (by rw [hn']; simp) (by rw [hn']; rfl), ⟨rfl, rfl⟩, hlt, fun ver2 es' k2 e => ?_⟩
    rw [hL] at e; injection e with e; injection e with e0 e1 e2; subst e0 e1 e2; refine ⟨Nat.le_refl _, fun _ => ?_⟩
    refine ⟨hle, .arr b c, hg, ?_⟩
    show Value.pointer _ = Value.pointer _
    rw [Nat.add_assoc]

theorem popLenRow_sound (hti : TIok P ti) {t ty : TypeId} {id ver lo n : Nat} {v : AV} {φ : Prop} {u1 : Value} (h1 : (SV.sl id ver lo n).rep R γ L u1) (h : popLenRow ti L t id ver n = some (v, φ)) (hφ : φ) :
    ∃ u, (Builtin.len_ #[t] ty #[u1]).run P w = .ok u w ∧ v.rep R γ L u := by
  unfold popLenRow at h
  split at h
  case h_2 => cases h
  rename_i ver' es k hL
  injection h with h; injection h with e1 e2; subst e1 e2
  obtain ⟨hv, hφ⟩ := hφ
  subst hv
  obtain ⟨_, hlt, h1⟩ := h1
  obtain ⟨hle, g, hg, hat⟩ := (h1 _ es k hL).2 rfl
  have ⟨e, he⟩ : ∃ e, P.underlying t = some (.slice e) := by
    obtain ⟨e, he⟩ := Option.isSome_iff_exists.1 hφ
    have h2 := hti.elem _ _ he
    unfold telem at h2
    split at h2
    · rename_i e' he'; exact ⟨e', he'⟩
    · cases h2
  match g, hat with
  | .none, ⟨hu, hn, _⟩ =>
    subst hu hn
    exact ⟨.int .i64 (0 : Nat), by simp [Builtin.len_, underlying, program, Sem.run, he, goInt], .int _ _⟩
  | .arr b c, hat =>
    rcases hat with hat | ⟨_, hn, a, hu⟩
    case inr => subst hu hn; exact ⟨.int .i64 (0 : Nat), by simp [Builtin.len_, underlying, program, Sem.run, he, goInt], .int _ _⟩
    subst hat
    exact ⟨.int .i64 n, by simp [Builtin.len_, underlying, program, Sem.run, he, goInt], .int _ _⟩
end
end Go.Proofs.YtnbnpnmkgemdeaaGreatDoor

namespace Go.Proofs.YtnbnpnmkgemdeaaGreatDoor
open Go.RowKit

section
variable {P : Program} {ti : TI} {B : Nat → Prop} {R : PH} {γ : List Gh} {L : List Ob} {w : World}

theorem popIndex_sound (hti : TIok P ti) {t : TypeId} {vx vi v : AV} {φ : Prop} {u1 u2 : Value} (h1 : vx.rep R γ L u1) (h2 : vi.rep R γ L u2) (h : popIndex ti t vx vi = some (v, φ)) (hφ : φ) :
    ∃ u, (Instr.index t u1 u2).run P w = .ok u w ∧ v.rep R γ L u := by
  unfold popIndex at h
  split at h
  · rename_i s k i
    cases h1; cases h2
    split at h
    · rename_i b hb
      injection h with h; injection h with e1 e2; subst e1 e2
      obtain ⟨h0, hu⟩ := hφ
      exact ⟨.int .u8 b.toNat, by simp [Instr.index, asIntOf, underlying, program, Sem.run, hti.kind _ _ hu, h0, hb], .int _ _⟩
    · cases h
  · cases h

def ORep (R : PH) (γ : List Gh) (L : List Ob) : Option AV → Option Value → Prop
  | none, none => True
  | some x, some v => x.rep R γ L v
  | _, _ => False

theorem run_sliceBounds {s : Bool} {len cap : Nat} {lo hi : Option AV} {vlo vhi : Option Value} {l h : Int} (hlo : bndOf 0 lo = some l) (hhi : bndOf len hi = some h)
    (rlo : ORep R γ L lo vlo) (rhi : ORep R γ L hi vhi) (h0 : 0 ≤ l) (h1 : l ≤ h) (h2 : h ≤ cap) :
    (Instr.sliceBounds s len cap vlo vhi none).run P w = .ok (l.toNat, h.toNat, cap) w := by
  have e1 : ∀ (v : Value) (x : AV) (i : Int) (y : Nat) (c : BoundsCode), x.rep R γ L v → bndOf 0 (some x) = some i → 0 ≤ i → i ≤ y → (Instr.sliceBound v y c).run P w = .ok i.toNat w := by
    intro v x i y c hx hb g0 g1
    unfold bndOf at hb
    split at hb
    · rename_i e; cases e
    · rename_i e
      injection e with e; subst e
      injection hb with hb; subst hb
      cases hx
      simp [Instr.sliceBound, asIntOf, g0, g1]
    · cases hb
  match lo, vlo, rlo, hlo, hi, vhi, rhi, hhi with
  | none, none, _, hlo, none, none, _, hhi =>
    injection hlo with hlo; subst hlo
    injection hhi with hhi; subst hhi
    simp [Instr.sliceBounds]
  | some x, some v, rlo, hlo, none, none, _, hhi =>
    injection hhi with hhi; subst hhi
    simp [Instr.sliceBounds, e1 v x l len _ rlo hlo h0 (by omega)]
  | none, none, _, hlo, some y, some u, rhi, hhi =>
    injection hlo with hlo; subst hlo
    simp [Instr.sliceBounds, e1 u y h cap _ rhi (by cases y <;> first | exact hhi | (rename_i z; cases z <;> first | exact hhi | (rename_i q; cases q <;> exact hhi))) (by omega) h2]
  | some x, some v, rlo, hlo, some y, some u, rhi, hhi =>
    simp [Instr.sliceBounds, e1 u y h cap _ rhi (by cases y <;> first | exact hhi | (rename_i z; cases z <;> first | exact hhi | (rename_i q; cases q <;> exact hhi))) (by omega) h2, e1 v x l h.toNat _ rlo hlo h0 (by omega)]

theorem prep_drop {a : Option Addr} {n c l h : Nat} {es : List (List AC)} {k m : Nat} (hp : PRep R (.slice a n c) (.lst es)) (hlh : l ≤ h) (hh : h ≤ es.length) (hk : ∀ e ∈ es, e.length = k) (hm : m = c) :
    PRep R (.slice (if m = l then a else a.map (·.add (l * k))) (h - l) (m - l)) (.lst ((es.take h).drop l)) := by
  cases hp with
  | lst _ _ _ _ k' cv b o hn hc hkk ha hr hx =>
    subst hm
    have hlen : ((es.take h).drop l).length = h - l := by simp; omega
    by_cases hz : h - l = 0
    · rw [hz]
      have : (es.take h).drop l = [] := List.eq_nil_of_length_eq_zero (by omega)
      rw [this]; exact prep_nil _ _ _
    · have hpos : 0 < n := by omega
      have hkk' : k' = k := by
        have h0 : 0 < es.length := by omega
        rw [← hkk es[0] (List.getElem_mem h0), hk es[0] (List.getElem_mem h0)]
      subst hkk'
      have ea := ha hpos
      subst ea
      rw [if_neg (by omega)]
      refine .lst _ _ _ _ k' (fun j => cv (l * k' + j)) b (o + l * k') hlen (by omega) (fun e he => hk e (List.mem_of_mem_take (List.mem_of_mem_drop he))) (fun _ => by simp [Addr.add_mid]) (fun j hj => ?_) (fun i e j x he hxj => ?_)
      · rw [Nat.add_assoc]
        apply hr
        have : l * k' + (h - l) * k' = h * k' := by rw [← Nat.add_mul]; congr 1; omega
        have : h * k' ≤ n * k' := Nat.mul_le_mul_right _ (by omega)
        omega
      · rw [List.getElem?_drop, List.getElem?_take] at he
        split at he
        · have := hx _ _ _ _ he hxj
          rw [Nat.add_mul, Nat.add_assoc] at this
          exact this
        · cases he

theorem popSlice_sound (hti : TIok P ti) (hI : Inv B R γ L w) {t : TypeId} {vx v : AV} {lo hi : Option AV} {vlo vhi : Option Value} {φ : Prop} {u1 : Value} (h1 : vx.rep R γ L u1) (rlo : ORep R γ L lo vlo) (rhi : ORep R γ L hi vhi)
    (h : popSlice ti L t vx lo hi = some (v, φ)) (hφ : φ) : ∃ u, (Instr.sliceAt t u1 vlo vhi none).run P w = .ok u w ∧ v.rep R γ L u := by
  unfold popSlice at h
  split at h
  · rename_i s
    cases h1
    split at h
    · rename_i l h' hl hh
      injection h with h; injection h with e1 e2; subst e1 e2
      obtain ⟨a1, a2, a3, a4⟩ := hφ
      refine ⟨.string (s.extract l.toNat h'.toNat), ?_, .str _⟩
      have := run_sliceBounds (P := P) (w := w) (s := false) (cap := s.size) hl hh rlo rhi a1 a2 (by omega)
      simp [Instr.sliceAt, Instr.slice, underlying, program, Sem.run, hti.kind _ _ a4, this]
    · cases h
  · rename_i id ver lo0 n
    split at h
    case h_2 => cases h
    rename_i ver' es k' k hL ht
    split at h
    case h_2 => cases h
    rename_i l h' hl hh
    injection h with h; injection h with e1 e2; subst e1 e2
    obtain ⟨hv, hkk, a1, a2, a3⟩ := hφ
    subst hv hkk
    obtain ⟨E, hE, hk⟩ := telem_parts (hti.es ht)
    obtain ⟨_, hlt, h1⟩ := h1
    obtain ⟨hle, g, hg, hat⟩ := (h1 _ es k hL).2 rfl
    have hob := hI.obj id _ _ hL hg
    match g, hat, hob with
    | .none, ⟨hu, hn, hlo⟩, hob =>
      subst hu hn hlo
      have := run_sliceBounds (P := P) (w := w) (s := true) (cap := 0) hl hh rlo rhi a1 a2 (by omega)
      have e1 : l = 0 := by omega
      have e2 : h' = 0 := by omega
      subst e1 e2
      refine ⟨_, by simp [Instr.sliceAt, Instr.slice, underlying, program, Sem.run, hE, this, run_sizeOf hk]; rfl, ⟨rfl, rfl⟩, hlt, fun ver2 es2 k2 e => ?_⟩
      rw [hL] at e; injection e with e; injection e with e0 e1 e2; subst e0 e1 e2; refine ⟨Nat.le_refl _, fun _ => ?_⟩
      exact ⟨by simp, .none, hg, rfl, rfl, rfl⟩
    | .arr b c, hat, ⟨_, hc, _⟩ =>
      rcases hat with hat | ⟨hcl, hn, a, hu⟩
      case inr =>
        subst hu hn
        have := run_sliceBounds (P := P) (w := w) (s := true) (cap := 0) hl hh rlo rhi a1 a2 (by omega)
        have e1 : l = 0 := by omega
        have e2 : h' = 0 := by omega
        subst e1 e2
        refine ⟨_, by simp [Instr.sliceAt, Instr.slice, underlying, program, Sem.run, hE, this, run_sizeOf hk]; rfl, ⟨rfl, rfl⟩, hlt, fun ver2 es2 k2 e => ?_⟩
        rw [hL] at e; injection e with e; injection e with e0 e1 e2; subst e0 e1 e2; refine ⟨Nat.le_refl _, fun _ => ?_⟩
        exact ⟨by simpa using hle, .arr b c, hg, .inr ⟨by simpa using hcl, rfl, _, rfl⟩⟩
      subst hat
      have := run_sliceBounds (P := P) (w := w) (s := true) (cap := c - lo0) hl hh rlo rhi a1 a2 (by omega)
      refine ⟨_, by simp [Instr.sliceAt, Instr.slice, underlying, program, Sem.run, hE, this, run_sizeOf hk]; rfl, ⟨rfl, rfl⟩, hlt, fun ver2 es2 k2 e => ?_⟩
      rw [hL] at e; injection e with e; injection e with e0 e1 e2; subst e0 e1 e2; refine ⟨Nat.le_refl _, fun _ => ?_⟩
      refine ⟨by omega, .arr b c, hg, ?_⟩
      by_cases hm : c - lo0 = l.toNat
      · refine .inr ⟨by omega, by omega, some ⟨b, lo0 * k, none⟩, ?_⟩
        rw [if_pos hm, show h'.toNat - l.toNat = 0 from by omega, show c - lo0 - l.toNat = 0 from by omega]
      · refine .inl ?_
        rw [if_neg hm, Nat.add_mul, Nat.sub_add_eq]
        simp [Addr.add_mid]
  · split at h
    · rename_i es k hl ht
      have hp := listOf_rep h1 hl
      obtain ⟨E, hE, hk⟩ := telem_parts (hti.es ht)
      split at h
      · rename_i l h' hl hh
        injection h with h; injection h with e1 e2; subst e1 e2
        obtain ⟨a1, a2, a3, a4⟩ := hφ
        match u1, hp with
        | .slice a n c, hp =>
          have hn : es.length = n := by cases hp; assumption
          have hc : n ≤ c := by cases hp; assumption
          subst hn
          have := run_sliceBounds (P := P) (w := w) (s := true) (cap := c) hl hh rlo rhi a1 a2 (by omega)
          refine ⟨_, by simp [Instr.sliceAt, Instr.slice, underlying, program, Sem.run, hE, this, run_sizeOf hk]; rfl, ?_⟩
          have h3 : ((h' - l).toNat) = h'.toNat - l.toNat := by omega
          exact prep_drop (m := c) hp (by omega) (by omega) a4 rfl
      · cases h
    · cases h

theorem popLen_sound (hti : TIok P ti) {t ty : TypeId} {vx v : AV} {φ : Prop} {u1 : Value} (h1 : vx.rep R γ L u1) (h : popLen ti t vx = some (v, φ)) (hφ : φ) :
    ∃ u, (Builtin.len_ #[t] ty #[u1]).run P w = .ok u w ∧ v.rep R γ L u := by
  unfold popLen at h
  split at h
  · rename_i s
    cases h1
    injection h with h; injection h with e1 e2; subst e1 e2
    exact ⟨.int .i64 s.size, by simp [Builtin.len_, underlying, program, Sem.run, hti.kind _ _ hφ, goInt], .int _ _⟩
  · split at h
    case h_2 => cases h
    · rename_i es hl
      injection h with h; injection h with e1 e2; subst e1 e2
      have hp := listOf_rep h1 hl
      match u1, hp with
      | .slice a n c, hp =>
        have hn : es.length = n := by cases hp; assumption
        subst hn
        have ⟨e, he⟩ : ∃ e, P.underlying t = some (.slice e) := by
          obtain ⟨e, he⟩ := Option.isSome_iff_exists.1 hφ
          have h2 := hti.elem _ _ he
          unfold telem at h2
          split at h2
          · rename_i e' he'; exact ⟨e', he'⟩
          · cases h2
        exact ⟨.int .i64 es.length, by simp [Builtin.len_, underlying, program, Sem.run, he, goInt], .int _ _⟩

theorem popMinMax_sound {mx : Bool} {vx vy v : AV} {φ : Prop} {u1 u2 : Value} {ts : Array TypeId} {ty : TypeId} (h1 : vx.rep R γ L u1) (h2 : vy.rep R γ L u2) (h : popMinMax mx vx vy = some (v, φ)) :
    ∃ u, (if mx then Builtin.max_ ts ty #[u1, u2] else Builtin.min_ ts ty #[u1, u2]).run P w = .ok u w ∧ v.rep R γ L u := by
  unfold popMinMax at h
  split at h
  · rename_i k a k' b
    cases h1; cases h2
    injection h with h; injection h with e1 e2; subst e1 e2
    cases mx
    · exact ⟨.int k (if b < a then b else a), by simp [Builtin.min_, Builtin.min2], .int _ _⟩
    · exact ⟨.int k (if b > a then b else a), by simp [Builtin.max_, Builtin.max2], .int _ _⟩
  · cases h
end
end Go.Proofs.YtnbnpnmkgemdeaaGreatDoor

namespace Go.Proofs.YtnbnpnmkgemdeaaGreatDoor
open Go.RowKit

section
variable {P : Program} {ti : TI} {B : Nat → Prop} {R : PH} {γ : List Gh} {L : List Ob} {w : World}

theorem fold_size (off : Nat) : ∀ (l : List Value) (k : Nat) (cells : Array Value), ((l.zipIdx k).foldl (fun (cs : Array Value) (p : Value × Nat) => cs.setIfInBounds (off + p.2) p.1) cells).size = cells.size
  | [], _, _ => rfl
  | v :: l, k, cells => by rw [List.zipIdx_cons, List.foldl_cons, fold_size off l]; simp
theorem fold_get (off : Nat) : ∀ (l : List Value) (k : Nat) (cells : Array Value), off + k + l.length ≤ cells.size → ∀ i,
    ((l.zipIdx k).foldl (fun (cs : Array Value) (p : Value × Nat) => cs.setIfInBounds (off + p.2) p.1) cells)[i]? = if off + k ≤ i ∧ i < off + k + l.length then l[i - (off + k)]? else cells[i]?
  | [], k, cells, _, i => by
    rw [if_neg (by intro h; simp only [List.length_nil] at h; omega)]; rfl
  | v :: l, k, cells, h, i => by
    rw [List.length_cons] at h
    rw [List.zipIdx_cons, List.foldl_cons, fold_get off l (k + 1) _ (by simp; omega) i]
    by_cases h1 : off + (k + 1) ≤ i ∧ i < off + (k + 1) + l.length
    · rw [if_pos h1, if_pos (by simp; omega)]
      have : i - (off + k) = (i - (off + (k + 1))) + 1 := by omega
      rw [this, List.getElem?_cons_succ]
    · rw [if_neg h1]
      by_cases h2 : i = off + k
      · subst h2
        rw [if_pos (by simp)]
        simp [Array.getElem?_setIfInBounds]
        omega
      · rw [if_neg (by simp; omega)]
        simp only [Array.getElem?_setIfInBounds]
        rw [if_neg (by omega)]
theorem splice_len {zs xs : List SV} {o : Nat} (h : o + xs.length ≤ zs.length) : (splice zs o xs).length = zs.length := by
  simp [splice]; omega
theorem splice_get {zs xs : List SV} {o : Nat} (h : o + xs.length ≤ zs.length) (i : Nat) : (splice zs o xs)[i]? = if o ≤ i ∧ i < o + xs.length then xs[i - o]? else zs[i]? := by
  unfold splice
  by_cases h1 : i < o
  · rw [if_neg (by omega), List.getElem?_append_left (by simp; omega), List.getElem?_append_left (by simp; omega), List.getElem?_take, if_pos h1]
  · by_cases h2 : i < o + xs.length
    · rw [if_pos (by omega), List.getElem?_append_left (by simp; omega), List.getElem?_append_right (by simp; omega)]
      congr 1; simp; omega
    · rw [if_neg (by omega), List.getElem?_append_right (by simp; omega), List.getElem?_drop]
      congr 1; simp; omega

def CRep (R : PH) (γ : List Gh) (L : List Ob) (xs : List SV) (vs : Array Value) : Prop := vs.size = xs.length ∧ ∀ (j : Nat) u x, vs[j]? = some u → xs[j]? = some x → x.rep R γ L u

theorem cells_rep {v : AV} {u : Value} {xs : List SV} (h : v.rep R γ L u) (hc : v.cells = some xs) : CRep R γ L xs u.cells := by
  cases v with
  | one x =>
    injection hc with hc; subst hc
    have e := (SV.rep_one h).1
    rw [e]
    refine ⟨rfl, fun j u' x' hu hx => ?_⟩
    cases j with
    | zero => simp at hu hx; subst hu hx; exact h
    | succ j => simp at hu
  | agg ys =>
    injection hc with hc; subst hc
    obtain ⟨vs, rfl, h1, h2⟩ := h
    exact ⟨h1, h2⟩
  | tup ps => cases hc
  | undef => cases hc

theorem fill_rep (hti : TIok P ti) {t : TypeId} {places : Array (Nat × Nat)} (hpl : ∀ i o ty, tfield P t i = some (o, ty) → ∀ n, tsize P ty = some n → places[i]? = some (o, n)) :
    ∀ (ps : List (Nat × Option AV)) (us : List (Nat × Value)) (zs : List SV) (cells : Array Value) (r : List SV) (φ : Prop), us.length = ps.length →
      (∀ (j : Nat) p q, ps[j]? = some p → us[j]? = some q → p.1 = q.1 ∧ ∀ v, p.2 = some v → v.rep R γ L q.2) → CRep R γ L zs cells → popBuild ti t zs ps = some (r, φ) → φ →
      ∃ cells', Instr.fill (places[·]?) cells us = some cells' ∧ CRep R γ L r cells'
  | [], us, zs, cells, r, φ, hl, _, hz, h, _ => by
    cases us with
    | nil => injection h with h; injection h with e1 e2; subst e1; exact ⟨cells, rfl, hz⟩
    | cons => simp at hl
  | (i, v) :: ps, us, zs, cells, r, φ, hl, hr, hz, h, hφ => by
    cases us with
    | nil => simp at hl
    | cons q us =>
      obtain ⟨qi, qv⟩ := q
      have h0 := hr 0 _ _ rfl rfl
      obtain ⟨e0, hv⟩ := h0
      simp only at e0; subst e0
      unfold popBuild at h
      split at h
      · rename_i xs o ty hc hf
        split at h
        case h_2 => cases h
        · rename_i r' φ' hb
          injection h with h; injection h with e1 e2; subst e1 e2
          obtain ⟨⟨hs, hle⟩, hφ'⟩ := hφ
          cases v with
          | none => simp at hc
          | some v =>
            simp only [Option.bind_some] at hc
            have hq := cells_rep (hv v rfl) hc
            have hp := hpl i o ty (hti.field _ _ _ hf) _ (hti.size _ _ hs)
            have hsz : qv.cells.size = xs.length := hq.1
            have hfit : o + qv.cells.size ≤ cells.size := by rw [hsz, hz.1]; exact hle
            have step : CRep R γ L (splice zs o xs) (qv.cells.zipIdx.foldl (fun (cs : Array Value) (p : Value × Nat) => cs.setIfInBounds (o + p.2) p.1) cells) := by
              rw [← Array.foldl_toList, Array.toList_zipIdx]
              refine ⟨by rw [fold_size, splice_len hle]; exact hz.1, fun j u x hu hx => ?_⟩
              rw [fold_get o _ 0 _ (by simp; omega)] at hu
              rw [splice_get hle] at hx
              by_cases hj : o ≤ j ∧ j < o + xs.length
              · rw [if_pos hj] at hx
                rw [if_pos (by simp; omega)] at hu
                exact hq.2 (j - o) u x (by simpa using hu) hx
              · rw [if_neg hj] at hx
                rw [if_neg (by simp; omega)] at hu
                exact hz.2 j u x hu hx
            obtain ⟨cells', f1, f2⟩ := fill_rep hti hpl ps us _ _ r' φ' (by simpa using hl) (fun j p q hp hq => hr (j + 1) p q (by simpa using hp) (by simpa using hq)) step hb hφ'
            refine ⟨cells', ?_, f2⟩
            simp only [Instr.fill]
            rw [hp]
            simp only [hsz, ne_eq, not_true_eq_false, decide_false, Bool.false_or, gt_iff_lt, decide_eq_true_eq]
            rw [if_neg (by omega)]
            exact f1
      · cases h

theorem run_places : ∀ (fs : List Field), (∀ f ∈ fs, (tsize P f.type).isSome) → (fs.mapM (fun f => (do pure (f.offset, ← sizeOf f.type) : Sem (Nat × Nat)))).run P w = .ok (fs.map fun f => (f.offset, (tsize P f.type).getD 0)) w
  | [], _ => rfl
  | f :: fs, h => by
    obtain ⟨n, hn⟩ := Option.isSome_iff_exists.1 (h f (by simp))
    have ih := run_places fs fun g hg => h g (List.mem_cons_of_mem _ hg)
    rw [List.mapM_cons]
    simp only [Sem.run_bind, Sem.run_pure, run_sizeOf hn, Result.andThen_ok]
    rw [ih]
    simp [hn]
theorem popBuild_sound (hti : TIok P ti) {t : TypeId} {ps : List (Nat × Option AV)} {us : Array (Nat × Value)} {zs r : List SV} {φ : Prop} (ht : tstruct P t = true) (hz : zeroOf P t = some (.agg zs)) (hl : us.size = ps.length)
    (hr : ∀ (j : Nat) p q, ps[j]? = some p → us[j]? = some q → p.1 = q.1 ∧ ∀ v, p.2 = some v → v.rep R γ L q.2) (h : popBuild ti t zs ps = some (r, φ)) (hφ : φ) :
    ∃ u, (Instr.build t us).run P w = .ok u w ∧ (AV.agg r).rep R γ L u := by
  obtain ⟨fs, hu, ht⟩ : ∃ fs, P.underlying t = some (.struct fs) ∧ (fs.all fun f => (tsize P f.type).isSome) = true := by
    unfold tstruct at ht
    split at ht
    · rename_i fs hu; exact ⟨fs, hu, ht⟩
    · cases ht
  have hall : ∀ f ∈ fs.toList, (tsize P f.type).isSome := by
    intro f hf
    have := Array.all_eq_true'.1 ht f (by simpa using hf)
    exact this
  have hpl := run_places (P := P) (w := w) fs.toList hall
  have hzero : ∃ z, (zeroValue t).run P w = .ok z w ∧ CRep R γ L zs z.cells := by
    unfold zeroOf at hz
    cases hi : P.info? t with
    | none => simp [hi] at hz
    | some i =>
      simp only [hi, Option.bind_some] at hz
      cases hzz : i.zero with
      | none => simp [hzz] at hz
      | some z =>
        simp only [hzz, Option.bind_some] at hz
        refine ⟨z, by simp [zeroValue, typeInfo, program, Sem.run, hi, hzz], ?_⟩
        have := AV.ofVal_rep (R := R) (γ := γ) (L := L) hz
        exact cells_rep this rfl
  obtain ⟨z, hz1, hz2⟩ := hzero
  obtain ⟨cells', f1, f2⟩ := fill_rep hti (t := t) (places := (fs.toList.map fun f => (f.offset, (tsize P f.type).getD 0)).toArray) (by
    intro i o ty hf n hn
    obtain ⟨fs', fd, e1, e2, e3, e4⟩ := tfield_parts hf
    rw [hu] at e1
    injection e1 with e1; injection e1 with e1; subst e1
    subst e3 e4
    simp [e2, hn]) ps us.toList zs z.cells r φ (by simpa using hl) (fun j p q hp hq => hr j p q hp (by simpa using hq)) hz2 h hφ
  refine ⟨.agg cells', ?_, cells', rfl, f2.1, f2.2⟩
  have hm : (fs.mapM (fun f => (do pure (f.offset, ← sizeOf f.type) : Sem (Nat × Nat)))).run P w = .ok (fs.toList.map fun f => (f.offset, (tsize P f.type).getD 0)).toArray w := by
    rw [Array.mapM_eq_mapM_toList]
    simp only [Sem.run_map, hpl, Result.andThen_ok]
  unfold Instr.build
  simp only [Sem.run_bind, hz1, Result.andThen_ok, underlying, program, Sem.run, hu, Sem.run_pure]
  rw [hm]
  simp only [Result.andThen_ok]
  rw [f1]
  simp
end
end Go.Proofs.YtnbnpnmkgemdeaaGreatDoor

namespace Go.Proofs.YtnbnpnmkgemdeaaGreatDoor
open Go.RowKit

section
variable {P : Program} {ti : TI} {B : Nat → Prop} {R : PH} {γ : List Gh} {L : List Ob} {w : World}

theorem capsOf_rep {ρ : Operand → Option AV} {a : Act} (hρ : ∀ x v, ρ x = some v → v.rep R γ L (a.eval x)) : ∀ {xs : List Operand} {cs : List AC}, capsOf (xs.map ρ) = some cs →
    xs.length = cs.length ∧ ∀ (j : Nat) x y, xs[j]? = some x → cs[j]? = some y → PRep R (a.eval x) y
  | [], cs, h => by injection h with h; subst h; exact ⟨rfl, fun j x y hx => by simp at hx⟩
  | x :: xs, cs, h => by
    rw [List.map_cons] at h
    unfold capsOf at h
    split at h
    · rename_i heq; cases heq
    · rename_i y rest heq
      injection heq with e1 e2
      subst e2
      split at h
      · rename_i z zs hz hzs
        injection h with h; subst h
        obtain ⟨g1, g2⟩ := capsOf_rep hρ hzs
        refine ⟨by simp [g1], fun j x' y' hx hy => ?_⟩
        cases j with
        | zero => simp at hx hy; subst hx hy; exact SV.norm_rep (hρ _ _ e1) hz
        | succ j => exact g2 j x' y' (by simpa using hx) (by simpa using hy)
      · cases h
    · cases h

theorem two_of {ρ : Operand → Option AV} {args : Array Operand} {x y : AV} (h : args.toList.map ρ = [some x, some y]) : ∃ a b, args = #[a, b] ∧ ρ a = some x ∧ ρ b = some y := by
  obtain ⟨l⟩ := args
  match l, h with
  | [], h => cases h
  | [a], h => simp at h
  | [a, b], h => simp only [List.map_cons, List.map_nil, List.cons.injEq, and_true] at h; exact ⟨a, b, rfl, h⟩
  | a :: b :: c :: l, h => simp at h

theorem pop_sound (hti : TIok P ti) (hi : Inv B R γ L w) {a : Act} {ρ : Operand → Option AV} (hρ : ∀ x v, ρ x = some v → v.rep R γ L (a.eval x)) {o : Oper} {v : AV} {φ : Prop} (h : pop ti ρ L o.op = some (v, φ)) (hφ : φ) :
    OpTo P B R γ L w (execOp a.eval o) v := by
  obtain ⟨dst, op, type, pos, after, guard⟩ := o
  simp only at h
  unfold pop at h
  split at h
  · rename_i x
    split at h
    case h_2 => cases h
    · rename_i vx hx
      injection h with h; injection h with e1 e2; subst e1
      exact ⟨a.eval x, w, R, by simp [execOp], hi, Ext.refl _ _ _, hρ _ _ hx⟩
  · rename_i x
    split at h
    case h_2 => cases h
    · rename_i vx hx
      injection h with h; injection h with e1 e2; subst e1
      exact ⟨a.eval x, w, R, by simp [execOp], hi, Ext.refl _ _ _, hρ _ _ hx⟩
  · rename_i c x y
    split at h
    · rename_i t va vb hc hx hy
      injection h with h; injection h with e1 e2; subst e1
      have h1 := hρ _ _ hc
      generalize hcv : a.eval c = cv at h1
      cases h1
      refine ⟨if t = true then a.eval x else a.eval y, w, R, ?_, hi, Ext.refl _ _ _, ?_⟩
      · simp [execOp, hcv, asBool]
      · cases t
        · simpa using hρ _ _ hy
        · simpa using hρ _ _ hx
    · cases h
  · rename_i op' t x y yt
    split at h
    · rename_i va vb hx hy
      obtain ⟨u, h1, h2⟩ := popBin_sound (P := P) (x := x) (y := y) hti hi (hρ _ _ hx) (hρ _ _ hy) h hφ
      have := OpTo.quiet (P := P) (v := v) hi h1 h2
      simpa [execOp] using this
    · cases h
  · rename_i op' t x
    split at h
    · rename_i b hx
      injection h with h; injection h with e1 e2; subst e1
      have h1 := hρ _ _ hx
      generalize hcv : a.eval x = cv at h1
      cases h1
      exact ⟨.bool (!b), w, R, by simp [execOp, hcv, Op.unary], hi, Ext.refl _ _ _, .bool _⟩
    · rename_i k n hx
      injection h with h; injection h with e1 e2; subst e1
      have h1 := hρ _ _ hx
      generalize hcv : a.eval x = cv at h1
      cases h1
      exact ⟨.int k (k.wrap (0 - n)), w, R, by simp [execOp, hcv, Op.unary, Op.intArith], hi, Ext.refl _ _ _, .int _ _⟩
    · cases h
  · rename_i src ds x
    split at h
    · rename_i k n hx
      have h1 := hρ _ _ hx
      generalize hcv : a.eval x = cv at h1
      cases h1
      split at h
      · rename_i k' hd
        injection h with h; injection h with e1 e2; subst e1 e2
        obtain ⟨d, hd2⟩ := Option.isSome_iff_exists.1 hφ
        exact ⟨.int k' (k'.wrap n), w, R, by simp [execOp, hcv, convert, underlying, program, Sem.run, hti.kind _ _ hd, hti.kind _ _ hd2, Conv.intToInt], hi, Ext.refl _ _ _, .int _ _⟩
      · cases h
    · rename_i s hx
      have h1 := hρ _ _ hx
      generalize hcv : a.eval x = cv at h1
      cases h1
      injection h with h; injection h with e1 e2; subst e1 e2
      obtain ⟨hd, hs⟩ := hφ
      obtain ⟨d, hd2⟩ := Option.isSome_iff_exists.1 hs
      exact ⟨.string s, w, R, by simp [execOp, hcv, convert, underlying, program, Sem.run, hti.kind _ _ hd, hti.kind _ _ hd2], hi, Ext.refl _ _ _, .str _⟩
    · cases h
  · rename_i t p
    cases hx : ρ p with
    | none => simp [hx] at h
    | some vx =>
      rw [hx] at h
      obtain ⟨u, h1, h2⟩ := popLoad_sound hti hi (hρ _ _ hx) h hφ
      exact OpTo.quiet hi h1 h2
  · rename_i s x i
    split at h
    · rename_i id ver i0 off hx
      obtain ⟨u, h1, h2⟩ := popFieldRow_sound hti (w := w) (hρ _ _ hx) h hφ
      exact OpTo.quiet hi h1 h2
    case h_3 => cases h
    · rename_i vx hne hx
      obtain ⟨u, h1, h2⟩ := popFieldAddr_sound hti (w := w) (hρ _ _ hx) h hφ
      exact OpTo.quiet hi h1 h2
  · rename_i s x i
    cases hx : ρ x with
    | none => simp [hx] at h
    | some vx =>
      rw [hx] at h
      obtain ⟨u, h1, h2⟩ := popField_sound hti (w := w) (hρ _ _ hx) h hφ
      exact OpTo.quiet hi h1 h2
  · rename_i t x ix
    split at h
    · rename_i id ver lo n vi hx hy
      obtain ⟨u, h1, h2⟩ := popIndexRow_sound hti hi (hρ _ _ hx) (hρ _ _ hy) h hφ
      exact OpTo.quiet hi h1 h2
    · rename_i vx vi hne hx hy
      obtain ⟨u, h1, h2⟩ := popIndexAddr_sound hti (w := w) (hρ _ _ hx) (hρ _ _ hy) h hφ
      exact OpTo.quiet hi h1 h2
    · cases h
  · rename_i t x ix
    split at h
    · rename_i vx vi hx hy
      obtain ⟨u, h1, h2⟩ := popIndex_sound hti (w := w) (hρ _ _ hx) (hρ _ _ hy) h hφ
      exact OpTo.quiet hi h1 h2
    · cases h
  · rename_i t i
    split at h
    · rename_i ps hx
      split at h
      case h_2 => cases h
      · rename_i p hp
        injection h with h; injection h with e1 e2; subst e1
        obtain ⟨vs, h1, h2, h3⟩ := hρ _ _ hx
        have hlt : i < vs.size := by rw [h2]; exact (List.getElem?_eq_some_iff.1 hp).1
        have hu : vs[i]? = some vs[i] := Array.getElem?_eq_getElem hlt
        exact ⟨vs[i], w, R, by simp [execOp, h1, Instr.extract, hu], hi, Ext.refl _ _ _, PV.av_rep (h3 i _ p hu hp)⟩
    · cases h
  · rename_i x
    split at h
    · rename_i cs hx
      injection h with h; injection h with e1 e2; subst e1
      have h1 := hρ _ _ hx
      have h1' := h1
      generalize hcv : a.eval x = cv at h1
      cases h1
      exact ⟨_, w, R, by simp [execOp, hcv]; rfl, hi, Ext.refl _ _ _, by rw [← hcv]; exact h1'⟩
    · rename_i id off hx
      injection h with h; injection h with e1 e2; subst e1
      obtain ⟨b, h1, h2⟩ := hρ _ _ hx
      exact ⟨.pointer (some ⟨b, off, none⟩), w, R, by simp [execOp, h1], hi, Ext.refl _ _ _, b, rfl, h2⟩
    · rename_i id ver i o hx
      split at h
      case h_2 => cases h
      rename_i ver' es k hL
      injection h with h; injection h with e1 e2; subst e1 e2
      subst hφ
      have h1 := hρ _ _ hx
      obtain ⟨_, g, _, hat⟩ := (h1.2.2 _ es k hL).2 rfl
      match g, hat with
      | .arr b c, hat =>
        have hat : a.eval x = .pointer (some ⟨b, i * k + o, none⟩) := hat
        exact ⟨_, w, R, by simp [execOp, hat]; rfl, hi, Ext.refl _ _ _, by rw [← hat]; exact h1⟩
    · rename_i f cs hx
      injection h with h; injection h with e1 e2; subst e1
      have h1 := hρ _ _ hx
      obtain ⟨vs, hv, _⟩ := id h1
      exact ⟨_, w, R, by simp [execOp, hv]; rfl, hi, Ext.refl _ _ _, by rw [← hv]; exact h1⟩
    · rename_i f cs hx
      injection h with h; injection h with e1 e2; subst e1
      have h1 := hρ _ _ hx
      have h1' := h1
      generalize hcv : a.eval x = cv at h1
      cases h1
      exact ⟨_, w, R, by simp [execOp, hcv]; rfl, hi, Ext.refl _ _ _, by rw [← hcv]; exact h1'⟩
    · cases h
  · rename_i t x lo hi'
    split at h
    · rename_i vx hx hl hh
      obtain rfl : lo = none := by cases lo <;> simp at hl ⊢
      obtain rfl : hi' = none := by cases hi' <;> simp at hh ⊢
      obtain ⟨u, h1, h2⟩ := popSlice_sound hti hi (lo := none) (hi := none) (vlo := none) (vhi := none) (hρ _ _ hx) trivial trivial h hφ
      exact OpTo.quiet hi h1 h2
    · rename_i vx l hx hl hh
      obtain ⟨lo', rfl⟩ : ∃ l', lo = some l' := by cases lo <;> simp at hl ⊢
      obtain rfl : hi' = none := by cases hi' <;> simp at hh ⊢
      simp only [Option.map_some, Option.some.injEq] at hl
      obtain ⟨u, h1, h2⟩ := popSlice_sound hti hi (lo := some l) (hi := none) (vlo := some (a.eval lo')) (vhi := none) (hρ _ _ hx) (hρ _ _ hl) trivial h hφ
      exact OpTo.quiet hi h1 h2
    · rename_i vx l hx hl hh
      obtain rfl : lo = none := by cases lo <;> simp at hl ⊢
      obtain ⟨hi'', rfl⟩ : ∃ l', hi' = some l' := by cases hi' <;> simp at hh ⊢
      simp only [Option.map_some, Option.some.injEq] at hh
      obtain ⟨u, h1, h2⟩ := popSlice_sound hti hi (lo := none) (hi := some l) (vlo := none) (vhi := some (a.eval hi'')) (hρ _ _ hx) trivial (hρ _ _ hh) h hφ
      exact OpTo.quiet hi h1 h2
    · rename_i vx l l2 hx hl hh
      obtain ⟨lo', rfl⟩ : ∃ l', lo = some l' := by cases lo <;> simp at hl ⊢
      obtain ⟨hi'', rfl⟩ : ∃ l', hi' = some l' := by cases hi' <;> simp at hh ⊢
      simp only [Option.map_some, Option.some.injEq] at hl hh
      obtain ⟨u, h1, h2⟩ := popSlice_sound hti hi (lo := some l) (hi := some l2) (vlo := some (a.eval lo')) (vhi := some (a.eval hi'')) (hρ _ _ hx) (hρ _ _ hl) (hρ _ _ hh) h hφ
      exact OpTo.quiet hi h1 h2
    · cases h
  · rename_i args argTypes
    split at h
    · rename_i x t hx ht
      have e1 : args = #[x] := by cases args; simp_all
      have e2 : argTypes = #[t] := by cases argTypes; simp_all
      subst e1 e2
      split at h
      · rename_i id ver lo n hρx
        obtain ⟨u, h1, h2⟩ := popLenRow_sound hti (w := w) (ty := type) (hρ _ _ hρx) h hφ
        refine ⟨u, w, R, ?_, hi, Ext.refl _ _ _, h2⟩
        simp [execOp, resolve, invoke, builtin, h1]
      case h_3 => cases h
      · rename_i vx hne hρx
        obtain ⟨u, h1, h2⟩ := popLen_sound hti (w := w) (ty := type) (hρ _ _ hρx) h hφ
        refine ⟨u, w, R, ?_, hi, Ext.refl _ _ _, h2⟩
        simp [execOp, resolve, invoke, builtin, h1]
    · cases h
  · rename_i args argTypes
    split at h
    · rename_i vx vy hxy
      obtain ⟨x, y, rfl, hx2, hy2⟩ := two_of hxy
      · obtain ⟨u, h1, h2⟩ := popMinMax_sound (P := P) (w := w) (ts := argTypes) (ty := type) (hρ _ _ hx2) (hρ _ _ hy2) h
        refine ⟨u, w, R, ?_, hi, Ext.refl _ _ _, h2⟩
        simp only [Bool.false_eq_true, if_false] at h1
        simp [execOp, resolve, invoke, builtin, h1]
    · cases h
  · rename_i args argTypes
    split at h
    · rename_i vx vy hxy
      obtain ⟨x, y, rfl, hx2, hy2⟩ := two_of hxy
      · obtain ⟨u, h1, h2⟩ := popMinMax_sound (P := P) (w := w) (ts := argTypes) (ty := type) (hρ _ _ hx2) (hρ _ _ hy2) h
        refine ⟨u, w, R, ?_, hi, Ext.refl _ _ _, h2⟩
        simp only [if_true] at h1
        simp [execOp, resolve, invoke, builtin, h1]
    · cases h
  · rename_i t parts
    split at h
    · rename_i zs hz
      split at h
      case h_2 => cases h
      · rename_i r ψ hb
        injection h with h; injection h with e1 e2; subst e1 e2
        obtain ⟨hts, hr⟩ := hφ
        obtain ⟨u, h1, h2⟩ := popBuild_sound hti (w := w) (R := R) (γ := γ) (L := L) (us := parts.map fun p => (p.1, a.eval p.2)) (hti.struct _ hts) (hti.zero _ _ hz) (by simp) (by
          intro j p q hp hq
          rw [List.getElem?_map] at hp
          rw [Array.getElem?_map] at hq
          cases hj : parts[j]? with
          | none => simp [hj] at hq
          | some pj =>
            have : parts.toList[j]? = some pj := by simpa using hj
            rw [this] at hp
            rw [hj] at hq
            simp only [Option.map_some, Option.some.injEq] at hp hq
            subst hp hq
            exact ⟨rfl, fun v hv => hρ _ _ hv⟩) hb hr
        exact OpTo.quiet hi h1 h2
    · cases h
  · rename_i f first captured
    split at h
    · rename_i cs hf hc
      injection h with h; injection h with e1 e2; subst e1
      obtain ⟨g1, g2⟩ := capsOf_rep hρ hc
      have : first = #[] := by cases first; simp_all
      subst this
      refine ⟨.func (.func f) #[] (captured.map a.eval), w, R, by simp [execOp, Instr.makeFunc], hi, Ext.refl _ _ _, ?_⟩
      refine .fn f _ cs (by simpa using g1) (fun j u x hu hx => ?_)
      rw [Array.getElem?_map] at hu
      cases hj : captured[j]? with
      | none => simp [hj] at hu
      | some y =>
        rw [hj] at hu
        simp only [Option.map_some, Option.some.injEq] at hu
        subst hu
        exact g2 j y x (by simpa using hj) hx
    · cases h
  · cases h
end
end Go.Proofs.YtnbnpnmkgemdeaaGreatDoor

namespace Go.Proofs.YtnbnpnmkgemdeaaGreatDoor
open Go.RowKit Go.Great

def PV.cells : PV → List AC
  | .one x => [x]
  | .agg xs => xs
def elemsOf (ρ : Operand → Option AV) : List (Nat × Operand) → Nat → Option (List (List AC))
  | [], _ => some []
  | (i, x) :: ps, j => if i = j then match (ρ x).bind AV.norm, elemsOf ρ ps (j + 1) with
      | some p, some es => some (p.cells :: es)
      | _, _ => none
    else none
def popLit (ti : TI) (ρ : Operand → Option AV) (t : TypeId) (len : Nat) (parts : List (Nat × Operand)) : Option (AV × Prop) :=
  match elemsOf ρ parts 0, ti.elem t with
  | some es, some E => match ti.size E with
    | some k => if len = 0 then some (.one .emp, es = []) else some (.one (.c (.lst es)), es.length = len ∧ (∀ e ∈ es, e.length = k) ∧ 0 < k ∧ len * k ≤ 16777216 ∧ ti.zok E = true)
    | none => none
  | _, _ => none

def addF (R : PHf) (b : Nat) (f : Nat → Option Value) : PHf := fun b' o => match R b' o with
  | some u => some u
  | none => if b' = b then f o else none
def PH.add (R : PH) (b : Nat) (f : Nat → Option Value) : PH := ⟨addF R b f, R.tab.mono fun b' o u h => by unfold addF; rw [h]⟩
theorem PH.add_eq {R : PH} {b : Nat} {f : Nat → Option Value} (hR : ∀ o, R b o = none) (b' o : Nat) : (R.add b f) b' o = if b' = b then f o else R b' o := by
  show addF R b f b' o = _
  unfold addF
  by_cases e : b' = b
  · subst e; rw [hR, if_pos rfl]
  · rw [if_neg e]; cases R b' o <;> simp [e]

section
variable {P : Program} {ti : TI} {B : Nat → Prop} {R : PH} {γ : List Gh} {L : List Ob} {w : World}

theorem Inv.lt (hi : Inv B R γ L w) {b o : Nat} {u : Value} (h : R b o = some u) : b < w.heap.size := lt_of_cell (hi.val _ _ _ h)
theorem Inv.none_at (hi : Inv B R γ L w) (o : Nat) : R w.heap.size o = none := by
  cases h : R w.heap.size o with
  | none => rfl
  | some u => have := hi.lt h; omega
theorem sub_add (hi : Inv B R γ L w) (f : Nat → Option Value) : PH.sub R (R.add w.heap.size f) := by
  intro b o u h
  have := hi.lt h
  rw [PH.add_eq hi.none_at, if_neg (by omega)]; exact h
theorem heap_new (w : World) (o : Obj) : (w.alloc o).heap[w.heap.size]? = some o := by show (w.heap.push o)[w.heap.size]? = _; simp
theorem heap_old (w : World) (o : Obj) {b : Nat} (h : b < w.heap.size) : (w.alloc o).heap[b]? = w.heap[b]? := Below.heap_alloc w o b h

theorem Kept.alloc {B : Nat → Prop} {w : World} (h : ∀ b, B b → b < w.heap.size) (o : Obj) : Kept B w (w.alloc o) :=
  ⟨rfl, rfl, rfl, by simp, fun b hb => heap_old w o (h b hb)⟩
/-- A new block whose cells do not turn. -/
theorem Inv.pers (hi : Inv B R γ L w) (cells : Array Value) (E : TypeId) (f : Nat → Option Value) (hf : ∀ o u, f o = some u → cells[o]? = some u) : Inv B (R.add w.heap.size f) γ L (w.alloc (.cells cells E)) := by
  refine ⟨hi.len, fun b o u h => ?_, fun id x g hx hg => ?_, hi.inj, fun i g b hg hb => ?_, ?_⟩
  · rw [PH.add_eq hi.none_at] at h
    split at h
    · rename_i e; subst e
      rw [cell_of_block (heap_new w _)]
      exact hf o u h
    · have := hi.lt h
      have h2 := hi.val _ _ _ h
      rw [← h2]
      exact World.cell?_of_block (w := w) (heap_old w _ this)
  · refine (hi.obj id x g hx hg).mv (Mv.of_sub (sub_add hi _)) (fun b hb => heap_old w _ (hi.new id g b hg hb).2) (fun b o hb h => ?_)
    have := (hi.new id g b hg hb).2
    rw [PH.add_eq hi.none_at, if_neg (by omega)]; exact h
  · have := hi.new i g b hg hb
    exact ⟨this.1, by simp; omega⟩
  · intro b hb; have := hi.bsz b hb; simp; omega
theorem Ext.pers (hi : Inv B R γ L w) (o : Obj) (f : Nat → Option Value) : Ext B R (R.add w.heap.size f) w (w.alloc o) := by
  refine ⟨Kept.alloc hi.bsz o, sub_add hi f, fun b o hb => ?_⟩
  have := hi.bsz b hb
  rw [PH.add_eq hi.none_at, if_neg (by omega)]

theorem PV.cells_rep {p : PV} {u : Value} (h : p.rep R u) : u.cells.size = p.cells.length ∧ ∀ (j : Nat) v x, u.cells[j]? = some v → p.cells[j]? = some x → PRep R v x := by
  cases p with
  | one x =>
    have e := (PRep.one h).1
    rw [e]
    refine ⟨rfl, fun j v y hv hy => ?_⟩
    cases j with
    | zero => simp [PV.cells] at hv hy; subst hv hy; exact h
    | succ j => simp at hv
  | agg xs =>
    obtain ⟨vs, rfl, h1, h2⟩ := h
    exact ⟨h1, h2⟩

theorem elemsOf_rep {ρ : Operand → Option AV} {a : Act} (hρ : ∀ x v, ρ x = some v → v.rep R γ L (a.eval x)) : ∀ (ps : List (Nat × Operand)) (j : Nat) (es : List (List AC)), elemsOf ρ ps j = some es →
    ∃ vs : List Value, (ps.map fun p => (p.1, a.eval p.2)) = (vs.zipIdx j).map (fun x => (x.2, x.1)) ∧ vs.length = es.length ∧
      (∀ (i : Nat) v e, vs[i]? = some v → es[i]? = some e → v.cells.size = e.length ∧ ∀ (q : Nat) u x, v.cells[q]? = some u → e[q]? = some x → PRep R u x)
  | [], j, es, h => by injection h with h; subst h; exact ⟨[], rfl, rfl, fun i v e hv => by simp at hv⟩
  | (i, x) :: ps, j, es, h => by
    unfold elemsOf at h
    split at h
    · rename_i hij
      subst hij
      split at h
      · rename_i p es' hp hes
        injection h with h; subst h
        obtain ⟨vs, h1, h2, h3⟩ := elemsOf_rep hρ ps (i + 1) es' hes
        cases hx : ρ x with
        | none => simp [hx] at hp
        | some vx =>
          simp only [hx, Option.bind_some] at hp
          have hr := PV.cells_rep (AV.norm_rep (hρ _ _ hx) hp)
          refine ⟨a.eval x :: vs, by simp [List.zipIdx_cons, h1], by simp [h2], fun q v e hv he => ?_⟩
          cases q with
          | zero => simp at hv he; subst hv he; exact hr
          | succ q => exact h3 q v e (by simpa using hv) (by simpa using he)
      · cases h
    · cases h

theorem flat_get (k : Nat) : ∀ (vs : List Value), (∀ v ∈ vs, v.cells.size = k) → ∀ (i : Nat) (v : Value), vs[i]? = some v → ∀ j, j < k → (vs.flatMap fun v => v.cells.toList)[i * k + j]? = v.cells[j]?
  | [], _, i, v, h, j, hj => by simp at h
  | y :: l, hk, 0, v, h, j, hj => by
    simp at h; subst h
    rw [List.flatMap_cons, List.getElem?_append_left (by simp; rw [hk y (by simp)]; omega)]; simp
  | y :: l, hk, i + 1, v, h, j, hj => by
    have h' : l[i]? = some v := by simpa using h
    have hy := hk y (by simp)
    rw [List.flatMap_cons, List.getElem?_append_right (by simp; rw [hy, Nat.succ_mul]; omega), ← flat_get k l (fun u hu => hk u (List.mem_cons_of_mem _ hu)) i v h' j hj]
    congr 1; simp; rw [hy, Nat.succ_mul]; omega
theorem flat_len (k : Nat) : ∀ (vs : List Value), (∀ v ∈ vs, v.cells.size = k) → (vs.flatMap fun v => v.cells.toList).length = vs.length * k
  | [], _ => by simp
  | y :: l, hk => by
    rw [List.flatMap_cons, List.length_append, flat_len k l fun u hu => hk u (List.mem_cons_of_mem _ hu), List.length_cons, Nat.succ_mul]
    simp; rw [hk y (by simp)]; omega

theorem popLit_sound (hti : TIok P ti) (hi : Inv B R γ L w) {a : Act} {ρ : Operand → Option AV} (hρ : ∀ x v, ρ x = some v → v.rep R γ L (a.eval x)) {t : TypeId} {len : Nat} {parts : Array (Nat × Operand)} {v : AV} {φ : Prop}
    (h : popLit ti ρ t len parts.toList = some (v, φ)) (hφ : φ) :
    ∃ u w' R', (Instr.buildSlice t len (parts.map fun p => (p.1, a.eval p.2))).run P w = .ok u w' ∧ Inv B R' γ L w' ∧ Ext B R R' w w' ∧ v.rep R' γ L u := by
  unfold popLit at h
  split at h
  · rename_i es E hes hE
    split at h
    · rename_i k hk
      have hE := hti.elem _ _ hE
      have hk := hti.size _ _ hk
      have hu : P.underlying t = some (.slice E) := by
        unfold telem at hE
        split at hE
        · rename_i e he; injection hE with hE; subst hE; exact he
        · cases hE
      obtain ⟨vs, e1, e2, e3⟩ := elemsOf_rep hρ _ _ _ hes
      have hparts : (parts.map fun p => (p.1, a.eval p.2)).toList = (vs.zipIdx 0).map fun x => (x.2, x.1) := by rw [Array.toList_map, e1]
      split at h
      · rename_i hl0
        injection h with h; injection h with g1 g2; subst g1 g2
        subst hl0
        have hvs : vs = [] := List.eq_nil_of_length_eq_zero (by rw [e2, hφ]; rfl)
        subst hvs
        refine ⟨.slice (some ⟨w.heap.size, 0, none⟩) 0 0, w.alloc (.cells #[] E), R.add w.heap.size (fun _ => none), ?_, hi.pers _ _ _ (fun o u h => by cases h), Ext.pers hi _ _, _, rfl⟩
        have hz : (sizeOf E).run P w = .ok k w := run_sizeOf hk
        have hp0 : parts = #[] := by
          have : parts.toList = [] := by simpa using e1
          cases parts; simp_all
        subst hp0
        simp [Instr.buildSlice, underlying, program, Sem.run, hu, hz, Instr.fill, newRow]
        have e0 : (Array.map (fun (_ : Nat) => (default : Value)) (Array.range 0)) = #[] := by simp
        rw [e0]
      · rename_i hl0
        injection h with h; injection h with g1 g2; subst g1 g2
        obtain ⟨hlen, hek, hk0, hsm, hzk⟩ := hφ
        obtain ⟨i, z, hi1, hi2, hi3, hi4⟩ := hti.zok _ hzk _ hk
        have hcs : ∀ v ∈ vs, v.cells.size = k := by
          intro v hv
          obtain ⟨q, hq⟩ := List.mem_iff_getElem?.1 hv
          have hlt : q < es.length := by rw [← e2]; exact (List.getElem?_eq_some_iff.1 hq).1
          have he : es[q]? = some es[q] := List.getElem?_eq_getElem hlt
          rw [(e3 q v _ hq he).1]
          exact hek _ (List.getElem_mem hlt)
        have hne : ¬ len * i.size = 0 := by
          rw [hi3]
          intro e
          rcases Nat.mul_eq_zero.1 e with e | e <;> omega
        have hrun := run_buildSlice (P := P) w t E len (parts.map fun p => (p.1, a.eval p.2)) (vs.flatMap fun v => v.cells.toList).toArray i z hu hi1 hi2 (by rw [hi3]; omega) hne (by
          rw [hparts, hi3]
          exact Go.Great.fill_whole hk0 vs _ hcs (by simp; rw [e2, hlen]))
        refine ⟨_, _, R.add w.heap.size (fun o => (vs.flatMap fun v => v.cells.toList).toArray[o]?), hrun, hi.pers _ _ _ (fun o u h => h), Ext.pers hi _ _, ?_⟩
        have hsub := sub_add hi (fun o => (vs.flatMap fun v => v.cells.toList).toArray[o]?)
        refine .lst _ len len es k (fun j => ((vs.flatMap fun v => v.cells.toList)[j]?).getD Go.undef) w.heap.size 0 hlen (Nat.le_refl _) hek (fun _ => rfl) (fun j hj => ?_) (fun q e j x he hx => ?_)
        · rw [PH.add_eq hi.none_at, if_pos rfl]
          have : j < (vs.flatMap fun v => v.cells.toList).length := by rw [flat_len k vs hcs, e2, hlen]; exact hj
          simp [List.getElem?_eq_getElem this]
        · have hqlt : q < vs.length := by rw [e2]; exact (List.getElem?_eq_some_iff.1 he).1
          have hv : vs[q]? = some vs[q] := List.getElem?_eq_getElem hqlt
          have hjk : j < k := by rw [← hek e (List.mem_of_getElem? he)]; exact (List.getElem?_eq_some_iff.1 hx).1
          have h3 := e3 q _ e hv he
          rw [flat_get k vs hcs q _ hv j hjk]
          have hju : j < vs[q].cells.size := by rw [h3.1]; exact (List.getElem?_eq_some_iff.1 hx).1
          rw [Array.getElem?_eq_getElem hju]
          exact PRep.mono hsub (h3.2 j _ x (Array.getElem?_eq_getElem hju) hx)
    · cases h
  · cases h
end
end Go.Proofs.YtnbnpnmkgemdeaaGreatDoor

namespace Go.Proofs.YtnbnpnmkgemdeaaGreatDoor
open Go.RowKit

/-- append onto a slice without room, or onto one whose room is the function's own. -/
def lopApp (ti : TI) (L : List Ob) (t tx : TypeId) (s x : AV) : Option (AV × List Ob × Prop) :=
  match listOf x, ti.elem t with
  | some xs, some E => match ti.size E, ti.bytes E with
    | some k, some by_ => match s with
      | .one .emp => some (.one (.own xs L.length), L ++ [.spare xs.length k], (ti.elem tx).isSome ∧ 0 < k ∧ ti.zok E = true ∧ (∀ e ∈ xs, e.length = k) ∧ xs.length * by_ ≤ 140737488355328 ∧ xs.length ≤ 140737488355328)
      | .one (.own es i) => match L[i]? with
        | some (.spare n k') => some (.one (.own (es ++ xs) i), L.set i (.spare (n + xs.length) k), (ti.elem tx).isSome ∧ k' = k ∧ es.length = n ∧ (ti.zok E = true ∧ 0 < k) ∧ (∀ e ∈ xs, e.length = k) ∧ (n + xs.length) * by_ ≤ 140737488355328 ∧ n + xs.length ≤ 140737488355328)
        | _ => none
      | _ => none
    | _, _ => none
  | _, _ => none

def lop (ti : TI) (ρ : Operand → Option AV) (L : List Ob) : Op → Option (AV × List Ob × Prop)
  | .alloc E => match (ti.zero E).bind AV.cells with
    | some zs => some (.one (.ptr L.length 0), L ++ [.box zs], True)
    | none => none
  | .box _ x => match (ρ x).bind AV.cells with
    | some xs => some (.one (.ptr L.length 0), L ++ [.box xs], True)
    | none => none
  | .store t p x => match ρ p, (ρ x).bind AV.cells with
    | some (.one (.ptr id off)), some xs => match L[id]? with
      | some (.box cs) => some (.undef, L.set id (.box (splice cs off xs)), off + xs.length ≤ cs.length ∧ ti.size t = some xs.length)
      | _ => none
    | some (.one (.ep id ver i o)), some xs => match L[id]? with
      | some (.row ver' es k) => match es[i]? with
        | some e => some (.undef, L.set id (.row ver' (es.set i (splice e o xs)) k), ver = ver' ∧ o + xs.length ≤ e.length ∧ ti.size t = some xs.length)
        | none => none
      | _ => none
    | _, _ => none
  | .call { callee := .builtin .append, args, argTypes } => match args.toList, argTypes.toList with
    | [s, x], [t, tx] => match ρ s, ρ x with
      | some vs, some vx => lopApp ti L t tx vs vx
      | _, _ => none
    | _, _ => none
  | _ => none

/-- Such an operation is carried out. -/
def LopTo (P : Program) (B : Nat → Prop) (R : PH) (γ : List Gh) (L L' : List Ob) (w : World) (s : Sem Next) (v : AV) : Prop :=
  ∃ w' R' γ', (((∃ u, s.run P w = .ok (.value u) w' ∧ v.rep R' γ' L' u) ∨ (s.run P w = .ok .skip w' ∧ v = .undef))) ∧ Inv B R' γ' L' w' ∧ Ext B R R' w w' ∧ Mv R R' γ γ' L L'

section
variable {P : Program} {B : Nat → Prop} {R : PH} {γ : List Gh} {L : List Ob} {w : World}

theorem Mv.push (g : Gh) (x : Ob) (hl : γ.length = L.length) : Mv R R γ (γ ++ [g]) L (L ++ [x]) := by
  refine ⟨PH.sub_refl _, by simp, fun t n k hlt h => ⟨n, ?_, Nat.le_refl _, fun _ => ?_⟩, fun t ver es k hlt h => ⟨ver, es, ?_, Nat.le_refl _, fun _ => ⟨rfl, ?_⟩⟩, fun id b h => ?_⟩
  · rw [List.getElem?_append_left hlt] at h; exact h
  · rw [List.getElem?_append_left (by rw [hl]; exact hlt)]
  · rw [List.getElem?_append_left hlt] at h; exact h
  · rw [List.getElem?_append_left (by rw [hl]; exact hlt)]
  · rw [List.getElem?_append_left (List.getElem?_eq_some_iff.1 h).1]; exact h

/-- A new object in a new block. -/
theorem Inv.push (hi : Inv B R γ L w) (x : Ob) (g : Gh) (o : Obj) (hg : g.block = some w.heap.size) (hx : ObjOK R (γ ++ [g]) (L ++ [x]) (w.alloc o) x g) : Inv B R (γ ++ [g]) (L ++ [x]) (w.alloc o) := by
  refine ⟨by simp [hi.len], fun b o' u h => ?_, fun id y h hy hh => ?_, fun i j gi gj h1 h2 hne b hb => ?_, fun i h b hh hb => ?_, ?_⟩
  · have := hi.lt h
    rw [← hi.val _ _ _ h]
    exact World.cell?_of_block (w := w) (heap_old w _ this)
  · by_cases hid : id < L.length
    · rw [List.getElem?_append_left hid] at hy
      rw [List.getElem?_append_left (by rw [hi.len]; exact hid)] at hh
      exact (hi.obj id y h hy hh).mv (Mv.push g x hi.len) (fun b hb => heap_old w _ (hi.new id h b hh hb).2) (fun _ _ _ h => h)
    · have hid' : id = L.length := by have := (List.getElem?_eq_some_iff.1 hy).1; simp at this; omega
      subst hid'
      rw [List.getElem?_append_right (by omega)] at hy
      rw [List.getElem?_append_right (by rw [hi.len]; omega), hi.len] at hh
      simp at hy hh; subst hy hh
      exact hx
  · have bnd : ∀ i h, (γ ++ [g])[i]? = some h → (i < γ.length ∧ γ[i]? = some h) ∨ (i = γ.length ∧ h = g) := by
      intro i h hh
      by_cases hid : i < γ.length
      · rw [List.getElem?_append_left hid] at hh; exact .inl ⟨hid, hh⟩
      · have : i = γ.length := by have := (List.getElem?_eq_some_iff.1 hh).1; simp at this; omega
        subst this
        rw [List.getElem?_append_right (by omega)] at hh
        simp at hh
        exact .inr ⟨rfl, hh.symm⟩
    rcases bnd i gi h1 with ⟨a1, a2⟩ | ⟨a1, a2⟩ <;> rcases bnd j gj h2 with ⟨b1, b2⟩ | ⟨b1, b2⟩
    · exact hi.inj i j gi gj a2 b2 hne b hb
    · subst b2; have := (hi.new i gi b a2 hb).2; rw [hg]; intro e; injection e with e; omega
    · subst a2; rw [hg] at hb; injection hb with hb; subst hb
      intro e; have := (hi.new j gj _ b2 e).2; omega
    · omega
  · by_cases hid : i < γ.length
    · rw [List.getElem?_append_left hid] at hh
      have := hi.new i h b hh hb
      exact ⟨this.1, by simp; omega⟩
    · have : i = γ.length := by have := (List.getElem?_eq_some_iff.1 hh).1; simp at this; omega
      subst this
      rw [List.getElem?_append_right (by omega)] at hh
      simp at hh; subst hh
      rw [hg] at hb; injection hb with hb; subst hb
      exact ⟨fun hB => by have := hi.bsz _ hB; omega, by simp⟩
  · intro b hb; have := hi.bsz b hb; simp; omega

theorem box_sound (hi : Inv B R γ L w) {xs : List SV} {vs : Array Value} (E : TypeId) (h : CRep R γ L xs vs) :
    Inv B R (γ ++ [.box w.heap.size]) (L ++ [.box xs]) (w.alloc (.cells vs E)) ∧ (SV.ptr L.length 0).rep R (γ ++ [.box w.heap.size]) (L ++ [.box xs]) (.pointer (some ⟨w.heap.size, 0, none⟩)) := by
  refine ⟨hi.push _ _ _ rfl ⟨⟨vs, E, heap_new w _, h.1, fun j u x hu hx => SV.mv (Mv.push _ _ hi.len) (h.2 j u x hu hx)⟩, fun o => hi.none_at o⟩, w.heap.size, rfl, ?_⟩
  rw [List.getElem?_append_right (by rw [hi.len]; omega), hi.len]; simp

theorem heap_setCells (b : Nat) (E : TypeId) (f : Nat × Nat) : ∀ (vs : List Value) (o : Nat) (w : World) (cs : Array Value), w.heap[b]? = some (.cells cs E f) → o + vs.length ≤ cs.size →
    ∃ cs', (w.setCells b o vs).heap[b]? = some (.cells cs' E f) ∧ cs'.size = cs.size ∧ ∀ i, cs'[i]? = if o ≤ i ∧ i < o + vs.length then vs[i - o]? else cs[i]?
  | [], o, w, cs, h, _ => ⟨cs, h, rfl, fun i => by rw [if_neg (by intro h; simp only [List.length_nil] at h; omega)]⟩
  | v :: vs, o, w, cs, h, hl => by
    rw [List.length_cons] at hl
    have h1 : (w.setCell ⟨b, o, none⟩ v).heap[b]? = some (.cells (cs.setIfInBounds o v) E f) := by
      simp [World.setCell, Array.getElem?_modify, h]
    obtain ⟨cs', g1, g2, g3⟩ := heap_setCells b E f vs (o + 1) _ _ h1 (by simp; omega)
    refine ⟨cs', g1, by rw [g2]; simp, fun i => ?_⟩
    rw [g3 i]
    by_cases c1 : o + 1 ≤ i ∧ i < o + 1 + vs.length
    · rw [if_pos c1, if_pos (by simp; omega)]
      have : i - o = (i - (o + 1)) + 1 := by omega
      rw [this, List.getElem?_cons_succ]
    · rw [if_neg c1]
      by_cases c2 : i = o
      · subst c2
        rw [if_pos (by simp)]
        rw [Array.getElem?_setIfInBounds_self_of_lt (by omega)]
        simp
      · rw [if_neg (by simp; omega), Array.getElem?_setIfInBounds_ne (by omega)]
theorem heap_setCells_ne (b : Nat) {b' : Nat} (hne : b' ≠ b) : ∀ (vs : List Value) (o : Nat) (w : World), (w.setCells b o vs).heap[b']? = w.heap[b']?
  | [], _, _ => rfl
  | v :: vs, o, w => (heap_setCells_ne b hne vs (o + 1) _).trans (Below.heap_setCell w _ v b' hne)
theorem size_setCells' (b : Nat) : ∀ (vs : List Value) (o : Nat) (w : World), (w.setCells b o vs).heap.size = w.heap.size
  | [], _, _ => rfl
  | v :: vs, o, w => (size_setCells' b vs (o + 1) _).trans (by simp [World.setCell])
theorem below_setCells' {B : Nat → Prop} {b : Nat} (hb : ¬ B b) : ∀ (vs : List Value) (o : Nat) (w : World), Kept B w (w.setCells b o vs)
  | [], _, _ => Kept.refl _ _
  | v :: vs, o, w => (⟨rfl, rfl, rfl, by simp [World.setCell], fun b' hb' => Below.heap_setCell w ⟨b, o, none⟩ v b' (fun e => hb (by have e' : b' = b := e; rw [← e']; exact hb'))⟩ : Kept B w (w.setCell ⟨b, o, none⟩ v)).trans (below_setCells' hb vs (o + 1) _)

/-- An object's place is looked at anew, the others stay. -/
theorem Inv.turn (hi : Inv B R γ L w) {id : Nat} {x x' : Ob} {g : Gh} {b : Nat} (hx : L[id]? = some x) (hg : γ[id]? = some g) (hb : g.block = some b) {R' : PH} {w' : World} (hm : Mv R R' γ γ L (L.set id x'))
    (hw : ∀ b', b' ≠ b → w'.heap[b']? = w.heap[b']?) (hs : w'.heap.size = w.heap.size) (hR : ∀ b' o, b' ≠ b → R' b' o = R b' o) (hv : ∀ o u, R' b o = some u → w'.cell? ⟨b, o, none⟩ = some u)
    (hobj : ObjOK R' γ (L.set id x') w' x' g) : Inv B R' γ (L.set id x') w' := by
  refine ⟨by simp [hi.len], fun b' o u h => ?_, fun i y h hy hh => ?_, hi.inj, fun i h b' hh hb' => by rw [hs]; exact hi.new i h b' hh hb', by rw [hs]; exact hi.bsz⟩
  · by_cases hbb : b' = b
    · subst hbb; exact hv o u h
    · rw [hR b' o hbb] at h
      rw [← hi.val _ _ _ h]
      exact World.cell?_of_block (w := w) (hw b' hbb)
  · by_cases hid : i = id
    · subst hid
      rw [List.getElem?_set_self (List.getElem?_eq_some_iff.1 hx).1] at hy
      injection hy with hy; subst hy
      rw [hg] at hh; injection hh with hh; subst hh
      exact hobj
    · rw [List.getElem?_set_ne (Ne.symm hid)] at hy
      have hne : ∀ b', h.block = some b' → b' ≠ b := fun b' hb' e => hi.inj i id h g hh hg hid b' hb' (by rw [hb, e])
      exact (hi.obj i y h hy hh).mv hm (fun b' hb' => hw b' (hne b' hb')) (fun b' o hb' e => by rw [hR b' o (hne b' hb')]; exact e)

theorem store_sound (hi : Inv B R γ L w) {id off : Nat} {cs xs : List SV} {b : Nat} {u : Value} {t : TypeId} (hL : L[id]? = some (.box cs)) (hg : γ[id]? = some (.box b)) (hu : CRep R γ L xs u.cells) (h1 : ∀ c ∈ u.cells, c.oneCell' = true)
    (hle : off + xs.length ≤ cs.length) (ht : tsize P t = some xs.length) :
    ∃ w', (Instr.storeAt t (.pointer (some ⟨b, off, none⟩)) u).run P w = .ok () w' ∧ Inv B R γ (L.set id (.box (splice cs off xs))) w' ∧ Ext B R R w w' ∧ Mv R R γ γ L (L.set id (.box (splice cs off xs))) := by
  obtain ⟨⟨vs, E, hb, hs, hv⟩, hR⟩ := hi.obj id _ _ hL hg
  have hsz : u.cells.size = xs.length := hu.1
  have hthere : ∀ j, j < u.cells.toList.length → (w.cell? ⟨b, off + 0 + j, none⟩).isSome = true := by
    intro j hj
    rw [cell_of_block hb]
    have : off + 0 + j < vs.size := by simp at hj; omega
    rw [Array.getElem?_eq_getElem this]; rfl
  have hfz : ∀ j, j < u.cells.toList.length → w.frozen? ⟨b, off + 0 + j, none⟩ = false := by
    intro j _
    simp [World.frozen?, hb]
  have hrun := run_storeCells_cells (P := P) b off u.cells.toList 0 w hthere hfz (fun v hv => h1 v (by simpa using hv))
  obtain ⟨cs', g1, g2, g3⟩ := heap_setCells b E (0, 0) u.cells.toList off w vs hb (by simp; omega)
  have hm : Mv R R γ γ L (L.set id (.box (splice cs off xs))) := by
    refine ⟨PH.sub_refl _, by simp, fun t' n k hlt h => ⟨n, ?_, Nat.le_refl _, fun _ => rfl⟩, fun t' ver es k hlt h => ⟨ver, es, ?_, Nat.le_refl _, fun _ => ⟨rfl, rfl⟩⟩, fun _ _ h => h⟩
    all_goals
      have : t' ≠ id := by rintro rfl; rw [List.getElem?_set_self hlt] at h; cases h
      rw [List.getElem?_set_ne (Ne.symm this)] at h; exact h
  refine ⟨w.setCells b off u.cells.toList, ?_, ?_, ?_, hm⟩
  · have hst : (storeVar t ⟨b, off, none⟩ u).run P w = .ok () (w.setCells b off u.cells.toList) := by
      unfold storeVar
      simp [run_sizeOf ht, hsz]
      simpa using hrun
    simp [Instr.storeAt, Instr.sureAddr, hst]
  · refine hi.turn hL hg rfl hm (fun b' hne => heap_setCells_ne b hne _ _ _) (size_setCells' _ _ _ _) (fun _ _ _ => rfl) (fun o u h => by rw [hR o] at h; cases h) ?_
    refine ⟨⟨cs', E, g1, by rw [g2, splice_len hle, hs], fun j v x hv' hx => ?_⟩, hR⟩
    rw [g3 j] at hv'
    rw [splice_get hle] at hx
    by_cases hj : off ≤ j ∧ j < off + xs.length
    · rw [if_pos hj] at hx
      rw [if_pos (by simp; omega)] at hv'
      exact SV.mv hm (hu.2 (j - off) v x (by simpa using hv') hx)
    · rw [if_neg hj] at hx
      rw [if_neg (by simp; omega)] at hv'
      exact SV.mv hm (hv j v x hv' hx)
  · refine ⟨below_setCells' (hi.new id _ b hg rfl).1 _ _ _, PH.sub_refl _, fun _ _ _ => rfl⟩

/-- Two places of a row are the same only if element and cell are. -/
theorem place_eq {k i j a b : Nat} (ha : a < k) (hb : b < k) (h : i * k + a = j * k + b) : i = j ∧ a = b := by
  have h1 : (i * k + a) % k = a := by rw [Nat.add_comm, Nat.add_mul_mod_self_right, Nat.mod_eq_of_lt ha]
  have h2 : (j * k + b) % k = b := by rw [Nat.add_comm, Nat.add_mul_mod_self_right, Nat.mod_eq_of_lt hb]
  have hab : a = b := by rw [← h1, ← h2, h]
  subst hab
  have : i * k = j * k := by omega
  exact ⟨Nat.eq_of_mul_eq_mul_right (by omega) this, rfl⟩

theorem storeRow_sound (hi : Inv B R γ L w) {id ver i o k : Nat} {es : List (List SV)} {e xs : List SV} {u u1 : Value} {t : TypeId} (hL : L[id]? = some (.row ver es k)) (h1 : (SV.ep id ver i o).rep R γ L u1) (he : es[i]? = some e) (hu : CRep R γ L xs u.cells) (h1c : ∀ c ∈ u.cells, c.oneCell' = true)
    (hle : o + xs.length ≤ e.length) (ht : tsize P t = some xs.length) :
    ∃ w', (Instr.storeAt t u1 u).run P w = .ok () w' ∧ Inv B R γ (L.set id (.row ver (es.set i (splice e o xs)) k)) w' ∧ Ext B R R w w' ∧ Mv R R γ γ L (L.set id (.row ver (es.set i (splice e o xs)) k)) := by
  obtain ⟨_, hlt, h1⟩ := h1
  obtain ⟨hil, g, hg, hat⟩ := (h1 _ es k hL).2 rfl
  have hob := hi.obj id _ _ hL hg
  match g, hg, hat, hob with
  | .arr b c, hg, hat, ⟨⟨vs, E, ⟨hb, hE65⟩, hs, hv⟩, hc, hk, hw, hR⟩ =>
    have hat : u1 = .pointer (some ⟨b, i * k + o, none⟩) := hat
    subst hat
    have hek := hw e (List.mem_of_getElem? he)
    have hlt2 : i * k + k ≤ vs.size := by
      rw [hs]
      have : (i + 1) * k ≤ c * k := Nat.mul_le_mul_right _ (by omega)
      rw [Nat.succ_mul] at this; omega
    have hsz : u.cells.size = xs.length := hu.1
    have hthere : ∀ j, j < u.cells.toList.length → (w.cell? ⟨b, (i * k + o) + 0 + j, none⟩).isSome = true := by
      intro j hj
      rw [cell_of_block hb]
      have : (i * k + o) + 0 + j < vs.size := by simp at hj; omega
      rw [Array.getElem?_eq_getElem this]; rfl
    have hfz : ∀ j, j < u.cells.toList.length → w.frozen? ⟨b, (i * k + o) + 0 + j, none⟩ = false := by
      intro j _
      simp [World.frozen?, hb]
    have hrun := run_storeCells_cells (P := P) b (i * k + o) u.cells.toList 0 w hthere hfz (fun v hv => h1c v (by simpa using hv))
    obtain ⟨cs', g1, g2, g3⟩ := heap_setCells b E (0, 0) u.cells.toList (i * k + o) w vs hb (by simp; omega)
    have hm : Mv R R γ γ L (L.set id (.row ver (es.set i (splice e o xs)) k)) := by
      refine ⟨PH.sub_refl _, by simp, fun t' n k hlt h => ⟨n, ?_, Nat.le_refl _, fun _ => rfl⟩, fun t' ver' es' k' hlt h => ?_, fun _ _ h => h⟩
      · have : t' ≠ id := by rintro rfl; rw [List.getElem?_set_self hlt] at h; cases h
        rw [List.getElem?_set_ne (Ne.symm this)] at h; exact h
      · by_cases hid : t' = id
        · subst hid
          rw [List.getElem?_set_self hlt] at h; injection h with h; injection h with q1 q2 q3; subst q1 q2 q3
          exact ⟨_, es, hL, Nat.le_refl _, fun _ => ⟨by simp, rfl⟩⟩
        · rw [List.getElem?_set_ne (Ne.symm hid)] at h; exact ⟨_, es', h, Nat.le_refl _, fun _ => ⟨rfl, rfl⟩⟩
    refine ⟨w.setCells b (i * k + o) u.cells.toList, ?_, ?_, ?_, hm⟩
    · have hst : (storeVar t ⟨b, i * k + o, none⟩ u).run P w = .ok () (w.setCells b (i * k + o) u.cells.toList) := by
        unfold storeVar
        simp [run_sizeOf ht, hsz]
        simpa using hrun
      simp [Instr.storeAt, Instr.sureAddr, hst]
    · refine hi.turn hL hg rfl hm (fun b' hne => heap_setCells_ne b hne _ _ _) (size_setCells' _ _ _ _) (fun _ _ _ => rfl) (fun o u h => by rw [hR o] at h; cases h) ?_
      refine ⟨⟨cs', E, ⟨g1, hE65⟩, by rw [g2, hs], fun i' e' j v x he' hv' hx => ?_⟩, by simpa using hc, hk, fun e' he' => ?_, hR⟩
      · rw [g3] at hv'
        have hi'l : i' < es.length := by have := (List.getElem?_eq_some_iff.1 he').1; simpa using this
        have hjk : j < k := by
          by_cases hii : i' = i
          · subst hii
            rw [List.getElem?_set_self hi'l] at he'; injection he' with he'; subst he'
            have := (List.getElem?_eq_some_iff.1 hx).1
            rw [splice_len hle] at this; omega
          · rw [List.getElem?_set_ne (Ne.symm hii)] at he'
            rw [← hw e' (List.mem_of_getElem? he')]; exact (List.getElem?_eq_some_iff.1 hx).1
        by_cases hii : i' = i
        · subst hii
          rw [List.getElem?_set_self hi'l] at he'; injection he' with he'; subst he'
          rw [splice_get hle] at hx
          by_cases hj : o ≤ j ∧ j < o + xs.length
          · rw [if_pos hj] at hx
            rw [if_pos (by simp; omega)] at hv'
            refine SV.mv hm (hu.2 (j - o) v x ?_ hx)
            have : i' * k + j - (i' * k + o) = j - o := by omega
            rw [this] at hv'
            simpa using hv'
          · rw [if_neg hj] at hx
            rw [if_neg (by simp; omega)] at hv'
            exact SV.mv hm (hv i' e j v x he hv' hx)
        · rw [List.getElem?_set_ne (Ne.symm hii)] at he'
          rw [if_neg] at hv'
          · exact SV.mv hm (hv i' e' j v x he' hv' hx)
          · intro hcc
            simp at hcc
            have := place_eq (k := k) (i := i') (j := i) (a := j) (b := i' * k + j - i * k) hjk (by omega) (by omega)
            exact hii this.1
      · rcases List.mem_or_eq_of_mem_set he' with h | h
        · exact hw e' h
        · rw [h, splice_len hle]; exact hek
    · refine ⟨below_setCells' (hi.new id _ b hg rfl).1 _ _ _, PH.sub_refl _, fun _ _ _ => rfl⟩
end
end Go.Proofs.YtnbnpnmkgemdeaaGreatDoor

namespace Go.Proofs.YtnbnpnmkgemdeaaGreatDoor
open Go.RowKit

section
variable {P : Program} {B : Nat → Prop} {R : PH} {γ : List Gh} {L : List Ob} {w : World}

theorem idx_lt {i j k n : Nat} (hi : i < n) (hj : j < k) : i * k + j < n * k := by
  have : (i + 1) * k ≤ n * k := Nat.mul_le_mul_right _ hi
  rw [Nat.succ_mul] at this; omega

/-- The cells of a slice that reads as a tree. -/
structure Cells (R : PH) (k : Nat) (es : List (List AC)) (news : List Value) : Prop where
  len : news.length = es.length * k
  wide : ∀ e ∈ es, e.length = k
  get : ∀ (i : Nat) e (j : Nat) y, es[i]? = some e → e[j]? = some y → ∃ u, news[i * k + j]? = some u ∧ PRep R u y

theorem Cells.one {k : Nat} {es : List (List AC)} {news : List Value} (h : Cells R k es news) : ∀ u ∈ news, u.oneCell' = true := by
  intro u hu
  obtain ⟨q, hq⟩ := List.mem_iff_getElem?.1 hu
  have hlt := (List.getElem?_eq_some_iff.1 hq).1
  rw [h.len] at hlt
  have hk : 0 < k := by
    rcases Nat.eq_zero_or_pos k with e | e
    · subst e; simp at hlt
    · exact e
  have h1 : q / k < es.length := Nat.div_lt_of_lt_mul (by rw [Nat.mul_comm]; exact hlt)
  have h2 : q % k < k := Nat.mod_lt _ hk
  have he : es[q / k]? = some es[q / k] := List.getElem?_eq_getElem h1
  have hj : q % k < es[q / k].length := by rw [h.wide _ (List.getElem_mem h1)]; exact h2
  obtain ⟨u', hu', hp⟩ := h.get _ _ (q % k) _ he (List.getElem?_eq_getElem hj)
  rw [Nat.div_add_mod' q k, hq] at hu'
  injection hu' with hu'; subst hu'
  exact hp.one.2

theorem lst_cells {v : Value} {es : List (List AC)} {k : Nat} (h : PRep R v (.lst es)) (hk : ∀ e ∈ es, e.length = k) :
    ∃ a c news, v = .slice a es.length c ∧ es.length ≤ c ∧ Cells R k es news ∧ (0 < es.length → ∃ b o, a = some ⟨b, o, none⟩ ∧ ∀ (j : Nat) u, news[j]? = some u → R b (o + j) = some u) := by
  cases h with
  | lst a n c _ k' cv b o hn hc hkk ha hr hx =>
    subst hn
    by_cases hz : es.length = 0
    · have : es = [] := List.eq_nil_of_length_eq_zero hz
      subst this
      exact ⟨a, c, [], rfl, hc, ⟨by simp, by simp, fun i e j y he => by simp at he⟩, fun h => absurd h (by simp)⟩
    · have hkk' : k' = k := by
        have h0 : 0 < es.length := by omega
        rw [← hkk es[0] (List.getElem_mem h0), hk es[0] (List.getElem_mem h0)]
      subst hkk'
      refine ⟨a, c, (List.range (es.length * k')).map cv, rfl, hc, ⟨by simp, hk, fun i e j y he hy => ⟨cv (i * k' + j), ?_, hx i e j y he hy⟩⟩, fun hp => ⟨b, o, ha hp, fun j u hu => ?_⟩⟩
      · have h1 := (List.getElem?_eq_some_iff.1 he).1
        have h2 : j < k' := by rw [← hk e (List.mem_of_getElem? he)]; exact (List.getElem?_eq_some_iff.1 hy).1
        rw [List.getElem?_map, List.getElem?_range (idx_lt h1 h2)]; rfl
      · rw [List.getElem?_map] at hu
        by_cases hj : j < es.length * k'
        · rw [List.getElem?_range hj] at hu
          injection hu with hu; subst hu
          exact hr j hj
        · rw [List.getElem?_eq_none (by simp; omega)] at hu; cases hu

theorem prep_mk {es : List (List AC)} {k : Nat} {news : List Value} (h : Cells R k es news) (b o c : Nat) (hc : es.length ≤ c) (hR : ∀ (j : Nat) u, news[j]? = some u → R b (o + j) = some u) :
    PRep R (.slice (some ⟨b, o, none⟩) es.length c) (.lst es) := by
  refine .lst _ _ _ es k (fun j => (news[j]?).getD Go.undef) b o rfl hc h.wide (fun _ => rfl) (fun j hj => ?_) (fun i e j y he hy => ?_)
  · have hlt : j < news.length := by rw [h.len]; exact hj
    have e : news[j]? = some news[j] := List.getElem?_eq_getElem hlt
    rw [hR j _ e, e]; rfl
  · obtain ⟨u, h1, h2⟩ := h.get i e j y he hy
    rw [h1]; exact h2

theorem Cells.mono {R' : PH} (hs : PH.sub R R') {es : List (List AC)} {k : Nat} {news : List Value} (h : Cells R k es news) : Cells R' k es news :=
  ⟨h.len, h.wide, fun i e j y he hy => let ⟨u, h1, h2⟩ := h.get i e j y he hy; ⟨u, h1, PRep.mono hs h2⟩⟩
theorem Cells.app {es xs : List (List AC)} {k : Nat} {olds news : List Value} (h : Cells R k es olds) (g : Cells R k xs news) : Cells R k (es ++ xs) (olds ++ news) := by
  refine ⟨by simp [h.len, g.len, Nat.add_mul], fun e he => ?_, fun i e j y he hy => ?_⟩
  · rcases List.mem_append.1 he with he | he
    · exact h.wide e he
    · exact g.wide e he
  · have hj : j < k := by
      rw [← show e.length = k from ?_]
      · exact (List.getElem?_eq_some_iff.1 hy).1
      · rcases List.mem_append.1 (List.mem_of_getElem? he) with he | he
        · exact h.wide e he
        · exact g.wide e he
    by_cases hi : i < es.length
    · rw [List.getElem?_append_left hi] at he
      obtain ⟨u, h1, h2⟩ := h.get i e j y he hy
      exact ⟨u, by rw [List.getElem?_append_left (List.getElem?_eq_some_iff.1 h1).1]; exact h1, h2⟩
    · rw [List.getElem?_append_right (by omega)] at he
      obtain ⟨u, h1, h2⟩ := g.get (i - es.length) e j y he hy
      refine ⟨u, ?_, h2⟩
      have hle : es.length * k ≤ i * k := Nat.mul_le_mul_right _ (by omega)
      rw [List.getElem?_append_right (by rw [h.len]; omega), h.len]
      have : i * k + j - es.length * k = (i - es.length) * k + j := by rw [Nat.sub_mul]; omega
      rw [this]; exact h1

theorem src_of {tx E' : TypeId} {k : Nat} (htx : P.underlying tx = some (.slice E')) (hi : Inv B R γ L w) {x : Value} {xs : List (List AC)} (h : PRep R x (.lst xs)) (hk : ∀ e ∈ xs, e.length = k) :
    ∃ news, Src P k tx x xs.length news w ∧ Cells R k xs news := by
  obtain ⟨a, c, news, rfl, hc, hcells, hR⟩ := lst_cells h hk
  refine ⟨news, ?_, hcells⟩
  cases a with
  | none =>
    have h0 : xs.length = 0 := by
      rcases Nat.eq_zero_or_pos xs.length with e | e
      · exact e
      · obtain ⟨b, o, e1, _⟩ := hR e; cases e1
    have hn : news = [] := List.eq_nil_of_length_eq_zero (by rw [hcells.len, h0]; simp)
    rw [h0, hn]
    exact Src.ofNil w htx c
  | some ad =>
    refine Src.ofSlice w htx ad xs.length c news hcells.len (fun j u hu => ?_) hcells.one
    have hp : 0 < xs.length := by
      rcases Nat.eq_zero_or_pos xs.length with e | e
      · have : news = [] := List.eq_nil_of_length_eq_zero (by rw [hcells.len, e]; simp)
        rw [this] at hu; simp at hu
      · exact e
    obtain ⟨b, o, e1, e2⟩ := hR hp
    injection e1 with e1; subst e1
    rw [Addr.add_mid]
    exact hi.val _ _ _ (e2 j u hu)

/-- An object moves to a new block. -/
theorem Inv.move (hi : Inv B R γ L w) {i n k n' c : Nat} (hx : L[i]? = some (.spare n k)) (hn : n < n') (hnc : n' ≤ c) (hk : 0 < k) (cells : Array Value) (E : TypeId) (hcs : cells.size = c * k) (f : Nat → Option Value) (hf : ∀ o u, f o = some u → cells[o]? = some u)
    (hf' : ∀ o, n' * k ≤ o → f o = none) :
    Inv B (R.add w.heap.size f) (γ.set i (.arr w.heap.size c)) (L.set i (.spare n' k)) (w.drew.alloc (.cells cells E)) ∧ Mv R (R.add w.heap.size f) γ (γ.set i (.arr w.heap.size c)) L (L.set i (.spare n' k)) := by
  have hlt : i < L.length := (List.getElem?_eq_some_iff.1 hx).1
  have hm : Mv R (R.add w.heap.size f) γ (γ.set i (.arr w.heap.size c)) L (L.set i (.spare n' k)) := by
    refine ⟨sub_add hi f, by simp, fun t m k' hlt' h => ?_, fun t ver es k' hlt' h => ?_, fun id b h => ?_⟩
    · by_cases ht : t = i
      · subst ht
        rw [List.getElem?_set_self hlt] at h; injection h with h; injection h with h1 h2; subst h1 h2
        exact ⟨n, hx, by omega, fun e => by omega⟩
      · rw [List.getElem?_set_ne (Ne.symm ht)] at h
        exact ⟨m, h, Nat.le_refl _, fun _ => by rw [List.getElem?_set_ne (Ne.symm ht)]⟩
    · by_cases ht : t = i
      · subst ht
        rw [List.getElem?_set_self hlt] at h; injection h with h; cases h
      · rw [List.getElem?_set_ne (Ne.symm ht)] at h
        exact ⟨ver, es, h, Nat.le_refl _, fun _ => ⟨rfl, by rw [List.getElem?_set_ne (Ne.symm ht)]⟩⟩
    · have : id ≠ i := by
        rintro rfl
        have := hi.obj id _ _ hx h
        exact this
      rw [List.getElem?_set_ne (Ne.symm this)]; exact h
  have gcase : ∀ j h, (γ.set i (Gh.arr w.heap.size c))[j]? = some h → (j = i ∧ h = .arr w.heap.size c) ∨ (j ≠ i ∧ γ[j]? = some h) := by
    intro j h hh
    by_cases hj : j = i
    · subst hj
      rw [List.getElem?_set_self (by rw [hi.len]; exact hlt)] at hh
      injection hh with hh
      exact .inl ⟨rfl, hh.symm⟩
    · rw [List.getElem?_set_ne (Ne.symm hj)] at hh
      exact .inr ⟨hj, hh⟩
  have hold : ∀ b, b < w.heap.size → (w.drew.alloc (.cells cells E)).heap[b]? = w.heap[b]? := fun b hb => heap_old w.drew _ hb
  refine ⟨⟨by simp [hi.len], fun b o u h => ?_, fun id y h hy hh => ?_, fun j1 j2 g1 g2 h1 h2 hne b hb => ?_, fun j h b hh hb => ?_, ?_⟩, hm⟩
  · rw [PH.add_eq hi.none_at] at h
    split at h
    · rename_i e; subst e
      have this : (w.drew.alloc (.cells cells E)).heap[w.heap.size]? = some (.cells cells E) := heap_new w.drew (.cells cells E)
      rw [cell_of_block this]
      exact hf o u h
    · have := hi.lt h
      rw [← hi.val _ _ _ h]
      exact World.cell?_of_block (w := w) (hold b this)
  · rcases gcase id h hh with ⟨rfl, rfl⟩ | ⟨hne, hh'⟩
    · rw [List.getElem?_set_self hlt] at hy
      injection hy with hy; subst hy
      refine ⟨⟨cells, E, heap_new w.drew _, hcs⟩, hnc, hk, fun o ho => ?_⟩
      rw [PH.add_eq hi.none_at, if_pos rfl]; exact hf' o ho
    · rw [List.getElem?_set_ne (Ne.symm hne)] at hy
      refine (hi.obj id y h hy hh').mv hm (fun b hb => hold b (hi.new id h b hh' hb).2) (fun b o hb e => ?_)
      have := (hi.new id h b hh' hb).2
      rw [PH.add_eq hi.none_at, if_neg (by omega)]; exact e
  · rcases gcase j1 g1 h1 with ⟨a1, rfl⟩ | ⟨a1, a2⟩ <;> rcases gcase j2 g2 h2 with ⟨b1, rfl⟩ | ⟨b1, b2⟩
    · omega
    · simp only [Gh.block, Option.some.injEq] at hb
      subst hb
      intro e; have := (hi.new j2 g2 _ b2 e).2; omega
    · have := (hi.new j1 g1 b a2 hb).2
      simp only [Gh.block, ne_eq, Option.some.injEq]; omega
    · exact hi.inj j1 j2 g1 g2 a2 b2 hne b hb
  · have e : (w.drew.alloc (.cells cells E)).heap.size = w.heap.size + 1 := by show (w.heap.push _).size = _; simp
    rcases gcase j h hh with ⟨_, rfl⟩ | ⟨_, b2⟩
    · simp only [Gh.block, Option.some.injEq] at hb; subst hb
      exact ⟨fun hB => by have := hi.bsz _ hB; omega, by omega⟩
    · have := hi.new j h b b2 hb
      exact ⟨this.1, by omega⟩
  · have e : (w.drew.alloc (.cells cells E)).heap.size = w.heap.size + 1 := by show (w.heap.push _).size = _; simp
    intro b hb
    have := hi.bsz b hb
    omega

theorem app_own (hi : Inv B R γ L w) {t tx ty E E' : TypeId} {k by_ : Nat} {es xs : List (List AC)} {i n : Nat} {v x : Value} (ht : P.underlying t = some (.slice E)) (htx : P.underlying tx = some (.slice E')) (hk0 : 0 < k) (hz : tzero P E k) (hby : tbytes P E = some by_)
    (hL : L[i]? = some (.spare n k)) (hv : (SV.own es i).rep R γ L v) (hn : es.length = n) (hx : PRep R x (.lst xs)) (hxk : ∀ e ∈ xs, e.length = k)
    (hb1 : (n + xs.length) * by_ ≤ 140737488355328) (hb2 : n + xs.length ≤ 140737488355328) :
    ∃ u w' R' γ', (Builtin.append_ #[t, tx] ty #[v, x]).run P w = .ok u w' ∧ Inv B R' γ' (L.set i (.spare (n + xs.length) k)) w' ∧ Ext B R R' w w' ∧ Mv R R' γ γ' L (L.set i (.spare (n + xs.length) k)) ∧
      (SV.own (es ++ xs) i).rep R' γ' (L.set i (.spare (n + xs.length) k)) u := by
  obtain ⟨inf, z, hinf, hzz, hisz, hzc⟩ := hz
  have hbytes : inf.bytes = by_ := by unfold tbytes at hby; rw [hinf] at hby; simpa using hby
  obtain ⟨hpv, _, hall0⟩ := hv
  obtain ⟨_, hek, hlk⟩ := hall0 n k hL
  obtain ⟨g, hg, hlink⟩ := hlk hn
  have hlt : i < L.length := (List.getElem?_eq_some_iff.1 hL).1
  obtain ⟨news, hsrc, hnews⟩ := src_of (P := P) (k := k) htx hi hx hxk
  have hsrc' : Src P inf.size tx x xs.length news w := by rw [hisz]; exact hsrc
  have hobj := hi.obj i _ _ hL hg
  -- growing
  have grow : ∀ (a : Option Addr) (c : Nat), v = .slice a n c → c < n + xs.length → 0 < k → ∃ u w' R' γ', (Builtin.append_ #[t, tx] ty #[v, x]).run P w = .ok u w' ∧ Inv B R' γ' (L.set i (.spare (n + xs.length) k)) w' ∧ Ext B R R' w w' ∧ Mv R R' γ γ' L (L.set i (.spare (n + xs.length) k)) ∧
      (SV.own (es ++ xs) i).rep R' γ' (L.set i (.spare (n + xs.length) k)) u := by
    intro a c hva hc hk
    obtain ⟨a', c', olds, hv', hcc, holds, hRo⟩ := lst_cells hpv hek
    rw [hva] at hv'
    injection hv' with q1 q2 q3
    subst q1 q3
    have hpos : 0 < xs.length := by omega
    have hfc : (Builtin.firstCells inf.size n (.slice a n c)).run P w.drew = .ok olds.toArray w.drew := by
      rw [hisz]
      cases a with
      | none =>
        have h0 : es.length = 0 := by
          rcases Nat.eq_zero_or_pos es.length with e | e
          · exact e
          · obtain ⟨b, o, e1, _⟩ := hRo e; cases e1
        have : olds = [] := List.eq_nil_of_length_eq_zero (by rw [holds.len, h0]; simp)
        rw [this]
        exact run_firstCells_none w.drew k n n c
      | some ad =>
        refine run_firstCells_some w.drew k n ad n c olds (by rw [holds.len, hn]) (fun j u hu => ?_)
        have hp : 0 < es.length := by
          rcases Nat.eq_zero_or_pos es.length with e | e
          · have : olds = [] := List.eq_nil_of_length_eq_zero (by rw [holds.len, e]; simp)
            rw [this] at hu; simp at hu
          · exact e
        obtain ⟨b, o, e1, e2⟩ := hRo hp
        injection e1 with e1; subst e1
        rw [Addr.add_mid]
        exact hi.val _ _ _ (e2 j u hu)
    have hrun := run_append_grow_src (P := P) (w := w) t tx ty E inf z ht hinf hzz a n c olds hfc x xs.length news hsrc' hc (by omega) (by
      have h2 := nextslicecap_le hc
      have h3 : Builtin.nextslicecap (n + xs.length) c * inf.bytes ≤ 2 * (n + xs.length) * inf.bytes := Nat.mul_le_mul_right _ h2
      rw [hbytes] at h3 ⊢
      rw [Nat.mul_assoc] at h3
      omega)
    have hcap := grownCap_ge w (n + xs.length) c E
    generalize grownCap w (n + xs.length) c E = cap at hrun hcap
    have hall := holds.app hnews
    have hall_len : (olds ++ news).length = (n + xs.length) * k := by rw [hall.len, List.length_append, hn]
    obtain ⟨hI, hM⟩ := hi.move hL (n' := n + xs.length) (c := cap) (by omega) hcap hk ((olds ++ news).toArray ++ Builtin.zeroCells z.cells (cap - (n + xs.length))) E
      (by rw [Array.size_append, size_zeroCells, hzc]; simp only [List.size_toArray]; rw [hall_len, ← Nat.add_mul]; congr 1; omega) (fun o => if o < (n + xs.length) * k then (olds ++ news)[o]? else none)
      (fun o u h => by
        split at h
        · rename_i hlt2
          rw [Array.getElem?_append_left (by simp only [List.size_toArray]; omega)]
          simpa using h
        · cases h) (fun o ho => by rw [if_neg (by omega)])
    refine ⟨_, _, _, _, by rw [hva]; exact hrun, hI, ?_, hM, ?_, by simpa using hlt, fun n2 k2 e2 => ?_⟩
    · exact ⟨⟨rfl, rfl, rfl, by show w.heap.size ≤ (w.heap.push _).size; simp, fun b hb => heap_old w.drew _ (hi.bsz b hb)⟩, hM.sub, fun b o hb => by have := hi.bsz b hb; rw [PH.add_eq hi.none_at, if_neg (by omega)]⟩
    · have := prep_mk (R := R.add w.heap.size (fun o => if o < (n + xs.length) * k then (olds ++ news)[o]? else none)) (hall.mono hM.sub) w.heap.size 0 cap (by rw [List.length_append, hn]; exact hcap) (fun j u hu => by
        have hj := (List.getElem?_eq_some_iff.1 hu).1
        rw [hall_len] at hj
        rw [PH.add_eq hi.none_at, if_pos rfl, Nat.zero_add]
        show (if j < (n + xs.length) * k then (olds ++ news)[j]? else none) = some u
        rw [if_pos hj]; exact hu)
      rw [List.length_append, hn] at this
      exact this
    · rw [List.getElem?_set_self hlt] at e2; injection e2 with e2; injection e2 with e3 e4; subst e3 e4
      exact ⟨by simp [hn], hall.wide, fun _ => ⟨.arr w.heap.size cap, List.getElem?_set_self (by rw [hi.len]; exact hlt), rfl⟩⟩
  match g, hlink, hobj with
  | .none, ⟨a, hva⟩, hobj =>
    have hn0 : n = 0 := hobj
    subst hn0
    by_cases hm : xs.length = 0
    · have hx0 : xs = [] := List.eq_nil_of_length_eq_zero hm
      have he0 : es = [] := List.eq_nil_of_length_eq_zero hn
      subst hx0 he0
      have hnn : news = [] := List.eq_nil_of_length_eq_zero (by rw [hnews.len]; simp)
      rw [hnn] at hsrc'
      have hrun := run_append_nothing (P := P) w t tx ty E inf ht hinf a 0 0 (Nat.le_refl _) x hsrc'
      have hset : L.set i (.spare (0 + ([] : List (List AC)).length) k) = L := by
        apply List.ext_getElem?
        intro j
        by_cases hj : j = i
        · subst hj; rw [List.getElem?_set_self hlt, hL]; rfl
        · rw [List.getElem?_set_ne (Ne.symm hj)]
      rw [hset]
      exact ⟨v, w, R, γ, by rw [hva]; exact hrun, hi, Ext.refl _ _ _, Mv.refl, by simpa using hpv, hlt, fun n2 k2 e2 => by
        rw [hL] at e2; injection e2 with e2; injection e2 with e3 e4; subst e3 e4
        exact ⟨by simp, by simp, fun _ => ⟨.none, hg, a, hva⟩⟩⟩
    · exact grow a 0 hva (by omega) hk0
  | .arr b c, hva, ⟨⟨vs, E2, hb, hsz⟩, hnc, hk, hRn⟩ =>
    by_cases hroom : n + xs.length ≤ c
    · have hle : (n + xs.length) * k ≤ c * k := Nat.mul_le_mul_right _ hroom
      have hnl : news.length = xs.length * k := hnews.len
      have hadd : n * k + news.length = (n + xs.length) * k := by rw [hnl, Nat.add_mul]
      have hrun := run_append_room_src (P := P) (w := w) t tx ty E inf ht hinf b 0 n c x xs.length news hsrc' hroom
        (fun j hj => by
          rw [hisz, cell_of_block hb]
          have : 0 + n * k + j < vs.size := by omega
          rw [Array.getElem?_eq_getElem this]; rfl)
        (fun j hj => by simp [World.frozen?, hb])
      rw [hisz, Nat.zero_add] at hrun
      obtain ⟨cs', g1, g2, g3⟩ := heap_setCells b E2 (0, 0) news (n * k) w vs hb (by omega)
      have hsub0 : ∀ b' o u, R b' o = some u → (fun b' o => if b' = b ∧ n * k ≤ o ∧ o < (n + xs.length) * k then news[o - n * k]? else R b' o) b' o = some u := by
        intro b' o u h
        by_cases hc2 : b' = b ∧ n * k ≤ o ∧ o < (n + xs.length) * k
        · exfalso
          obtain ⟨rfl, h2, _⟩ := hc2
          rw [hRn o h2] at h; cases h
        · simp only [hc2, if_false]; exact h
      obtain ⟨R', hR'⟩ : ∃ R' : PH, ∀ b' o, R' b' o = if b' = b ∧ n * k ≤ o ∧ o < (n + xs.length) * k then news[o - n * k]? else R b' o := ⟨R.put _ hsub0, fun _ _ => rfl⟩
      have hsub : PH.sub R R' := fun b' o u h => by rw [hR']; exact hsub0 b' o u h
      have hM : Mv R R' γ γ L (L.set i (.spare (n + xs.length) k)) := by
        refine ⟨hsub, by simp, fun t' m k' hlt' h => ?_, fun t' ver es k' hlt' h => ?_, fun _ _ h => h⟩
        · by_cases ht' : t' = i
          · subst ht'
            rw [List.getElem?_set_self hlt] at h; injection h with h; injection h with h1 h2; subst h1 h2
            exact ⟨n, hL, by omega, fun _ => rfl⟩
          · rw [List.getElem?_set_ne (Ne.symm ht')] at h
            exact ⟨m, h, Nat.le_refl _, fun _ => rfl⟩
        · by_cases ht' : t' = i
          · subst ht'
            rw [List.getElem?_set_self hlt] at h; injection h with h; cases h
          · rw [List.getElem?_set_ne (Ne.symm ht')] at h
            exact ⟨ver, es, h, Nat.le_refl _, fun _ => ⟨rfl, rfl⟩⟩
      obtain ⟨a', c', olds, hv', hcc, holds, hRo⟩ := lst_cells hpv hek
      have hv2 : v = .slice (some ⟨b, 0, none⟩) n c := hva
      rw [hv2] at hv'
      injection hv' with q1 q2 q3
      subst q1 q3
      refine ⟨_, w.setCells b (n * k) news, _, γ, by rw [hv2]; exact hrun, ?_, ?_, hM, ?_, by simpa using hlt, fun n2 k2 e2 => ?_⟩
      · refine hi.turn hL hg rfl hM (fun b' hne => heap_setCells_ne b hne _ _ _) (size_setCells' _ _ _ _) (fun b' o hne => by rw [hR']; simp [hne]) (fun o u h => ?_) ?_
        · rw [hR'] at h
          rw [cell_of_block g1, g3 o]
          by_cases hc2 : n * k ≤ o ∧ o < (n + xs.length) * k
          · simp only [hc2, and_self, if_true] at h
            rw [if_pos (by omega)]; exact h
          · rw [if_neg (by omega)]
            have h' : R b o = some u := by
              have : ¬ (b = b ∧ n * k ≤ o ∧ o < (n + xs.length) * k) := fun hh => hc2 hh.2
              rw [if_neg this] at h; exact h
            have := hi.val _ _ _ h'
            rw [cell_of_block hb] at this
            exact this
        · refine ⟨⟨cs', E2, g1, by rw [g2]; exact hsz⟩, hroom, hk, fun o ho => ?_⟩
          have hc2 : ¬ (b = b ∧ n * k ≤ o ∧ o < (n + xs.length) * k) := fun hh => by omega
          rw [hR', if_neg hc2]
          exact hRn o (by rw [Nat.add_mul] at ho; omega)
      · refine ⟨below_setCells' (hi.new i _ b hg rfl).1 _ _ _, hsub, fun b' o hb' => ?_⟩
        have hnB := (hi.new i _ b hg rfl).1
        have hc2 : ¬ (b' = b ∧ n * k ≤ o ∧ o < (n + xs.length) * k) := fun hh => hnB (by rw [← hh.1]; exact hb')
        rw [hR']; simp only [hc2, if_false]
      · have := prep_mk ((holds.app hnews).mono hsub) b 0 c (by rw [List.length_append, hn]; exact hroom) (fun j u hu => by
          rw [Nat.zero_add]
          by_cases hj : j < olds.length
          · rw [List.getElem?_append_left hj] at hu
            have hp : 0 < es.length := by
              rcases Nat.eq_zero_or_pos es.length with e | e
              · rw [holds.len, e] at hj; simp at hj
              · exact e
            obtain ⟨b2, o2, e1, e2⟩ := hRo hp
            injection e1 with e1; injection e1 with e1 e3; subst e1 e3
            have h5 := e2 j u hu
            rw [Nat.zero_add] at h5
            exact hsub _ _ _ h5
          · rw [List.getElem?_append_right (by omega)] at hu
            have hj2 := (List.getElem?_eq_some_iff.1 hu).1
            have ho : olds.length = n * k := by rw [holds.len, hn]
            have hc2 : b = b ∧ n * k ≤ j ∧ j < (n + xs.length) * k := ⟨rfl, by omega, by omega⟩
            rw [hR']; simp only [hc2, and_self, if_true]
            rw [← ho]; exact hu)
        rw [List.length_append, hn] at this
        exact this
      · rw [List.getElem?_set_self hlt] at e2; injection e2 with e2; injection e2 with e3 e4; subst e3 e4
        exact ⟨by simp [hn], (holds.app hnews).wide, fun _ => ⟨.arr b c, hg, rfl⟩⟩
    · exact grow _ c hva (by omega) hk
end
end Go.Proofs.YtnbnpnmkgemdeaaGreatDoor

namespace Go.Proofs.YtnbnpnmkgemdeaaGreatDoor
open Go.RowKit

/-- The caller's number of the callee's object i. -/
def rid (σ : List Nat) (i : Nat) : Nat := σ.getD i 0
def Cap.ren (σ : List Nat) : Cap → Cap
  | .c x => .c x
  | .ptr id off => .ptr (rid σ id) off
def SV.ren (σ : List Nat) : SV → SV
  | .c x => .c x
  | .emp => .emp
  | .own es t => .own es (rid σ t)
  | .ptr id off => .ptr (rid σ id) off
  | .sl id ver lo n => .sl (rid σ id) ver lo n
  | .ep id ver i o => .ep (rid σ id) ver i o
  | .mp id => .mp (rid σ id)
  | .clo f caps => .clo f (caps.map (Cap.ren σ))
def AV.ren (σ : List Nat) : AV → AV
  | .one x => .one (x.ren σ)
  | .agg xs => .agg (xs.map (SV.ren σ))
  | .tup ps => .tup ps
  | .undef => .undef
def Ob.ren (σ : List Nat) : Ob → Ob
  | .box cs => .box (cs.map (SV.ren σ))
  | .spare n k => .spare n k
  | .row ver es k => .row ver (es.map (List.map (SV.ren σ))) k
  | .map kvs => .map (kvs.map fun p => (p.1, p.2.ren σ))
  | .dead => .dead

def Cap.below (n : Nat) : Cap → Prop
  | .ptr id _ => id < n
  | _ => True
def SV.below (n : Nat) : SV → Prop
  | .own _ t => t < n
  | .ptr id _ => id < n
  | .sl id _ _ _ => id < n
  | .ep id _ _ _ => id < n
  | .mp id => id < n
  | .clo _ caps => ∀ x ∈ caps, x.below n
  | _ => True
def AV.below (n : Nat) : AV → Prop
  | .one x => x.below n
  | .agg xs => ∀ x ∈ xs, x.below n
  | _ => True
def Ob.below (n : Nat) : Ob → Prop
  | .box cs => ∀ x ∈ cs, x.below n
  | .row _ es _ => ∀ e ∈ es, ∀ x ∈ e, x.below n
  | .map kvs => ∀ p ∈ kvs, p.2.below n
  | _ => True

/-- The callee's objects among the caller's. -/
structure Emb (σ : List Nat) (γ0 : List Gh) (L0 : List Ob) (γ : List Gh) (L : List Ob) : Prop where
  glen : γ0.length = L0.length
  gh : ∀ i, i < L0.length → γ[rid σ i]? = γ0[i]?
  ob : ∀ (i : Nat) x, L0[i]? = some x → L[rid σ i]? = some (x.ren σ)

section
variable {P : Program} {B : Nat → Prop} {R : PH} {γ0 γ : List Gh} {L0 L : List Ob} {w : World} {σ : List Nat}

theorem Emb.lt (h : Emb σ γ0 L0 γ L) {i : Nat} (hi : i < L0.length) : rid σ i < L.length :=
  (List.getElem?_eq_some_iff.1 (h.ob i _ (List.getElem?_eq_getElem hi))).1
theorem Emb.spare (h : Emb σ γ0 L0 γ L) {i n k : Nat} (hi : i < L0.length) (e : L[rid σ i]? = some (.spare n k)) : L0[i]? = some (.spare n k) := by
  have h0 := List.getElem?_eq_getElem hi
  rw [h0]
  have h1 := h.ob i _ h0
  rw [e] at h1
  injection h1 with h1
  cases hx : L0[i] <;> rw [hx] at h1 <;> simp [Ob.ren] at h1
  rw [h1.1, h1.2]
theorem Emb.row (h : Emb σ γ0 L0 γ L) {i ver k : Nat} {es : List (List SV)} (hi : i < L0.length) (e : L[rid σ i]? = some (.row ver es k)) : ∃ es0, L0[i]? = some (.row ver es0 k) ∧ es0.length = es.length := by
  have h0 := List.getElem?_eq_getElem hi
  have h1 := h.ob i _ h0
  rw [e] at h1
  injection h1 with h1
  cases hx : L0[i] <;> rw [hx] at h1 <;> simp [Ob.ren] at h1
  rename_i ver' es' k'
  obtain ⟨a, b, c⟩ := h1
  subst a b c
  exact ⟨es', by rw [h0, hx], by simp⟩
theorem Emb.gbox (h : Emb σ γ0 L0 γ L) {i : Nat} {g : Gh} (e : γ0[i]? = some g) : γ[rid σ i]? = some g := by
  rw [h.gh i (by rw [← h.glen]; exact (List.getElem?_eq_some_iff.1 e).1)]; exact e

theorem Cap.up (h : Emb σ γ0 L0 γ L) {x : Cap} {v : Value} (hx : x.rep R γ0 v) : (x.ren σ).rep R γ v := by
  cases x with
  | c y => exact hx
  | ptr id off => obtain ⟨b, h1, h2⟩ := hx; exact ⟨b, h1, h.gbox h2⟩
theorem SV.up (h : Emb σ γ0 L0 γ L) {x : SV} {v : Value} (hx : x.rep R γ0 L0 v) : (x.ren σ).rep R γ L v := by
  cases x with
  | c y => exact hx
  | emp => exact hx
  | own es t =>
    obtain ⟨h1, hlt, h2⟩ := hx
    refine ⟨h1, h.lt hlt, fun n k e => ?_⟩
    rw [h.gh t hlt]
    exact h2 n k (h.spare hlt e)
  | ptr id off => obtain ⟨b, h1, h2⟩ := hx; exact ⟨b, h1, h.gbox h2⟩
  | sl id ver lo n =>
    obtain ⟨h1, hlt, h2⟩ := hx
    refine ⟨h1, h.lt hlt, fun ver' es k e => ?_⟩
    obtain ⟨es0, g1, g2⟩ := h.row hlt e
    rw [h.gh id hlt, ← g2]
    exact h2 ver' es0 k g1
  | ep id ver i o =>
    obtain ⟨h1, hlt, h2⟩ := hx
    refine ⟨h1, h.lt hlt, fun ver' es k e => ?_⟩
    obtain ⟨es0, g1, g2⟩ := h.row hlt e
    rw [h.gh id hlt, ← g2]
    exact h2 ver' es0 k g1
  | mp id => obtain ⟨b, h1, h2⟩ := hx; exact ⟨b, h1, h.gbox h2⟩
  | clo f caps =>
    obtain ⟨vs, h1, h2, h3⟩ := hx
    refine ⟨vs, h1, by simpa using h2, fun j u x hu hx => ?_⟩
    rw [List.getElem?_map] at hx
    cases hq : caps[j]? with
    | none => simp [hq] at hx
    | some y => simp [hq] at hx; subst hx; exact Cap.up h (h3 j u y hu hq)
theorem AV.up (h : Emb σ γ0 L0 γ L) {x : AV} {v : Value} (hx : x.rep R γ0 L0 v) : (x.ren σ).rep R γ L v := by
  cases x with
  | one x => exact SV.up h hx
  | agg xs =>
    obtain ⟨vs, h1, h2, h3⟩ := hx
    refine ⟨vs, h1, by simpa using h2, fun j u x hu hx => ?_⟩
    rw [List.getElem?_map] at hx
    cases hq : xs[j]? with
    | none => simp [hq] at hx
    | some y => simp [hq] at hx; subst hx; exact SV.up h (h3 j u y hu hq)
  | tup ps => exact hx
  | undef => exact hx
theorem ObjOK.up (h : Emb σ γ0 L0 γ L) {x : Ob} {g : Gh} (hx : ObjOK R γ0 L0 w x g) : ObjOK R γ L w (x.ren σ) g := by
  match x, g, hx with
  | .box cs, .box b, ⟨⟨vs, E, h1, h2, h3⟩, h4⟩ =>
    refine ⟨⟨vs, E, h1, by simpa using h2, fun j u x hu hx => ?_⟩, h4⟩
    rw [List.getElem?_map] at hx
    cases hq : cs[j]? with
    | none => simp [hq] at hx
    | some y => simp [hq] at hx; subst hx; exact SV.up h (h3 j u y hu hq)
  | .spare n k, .arr b c, h => exact h
  | .spare n k, .none, h => exact h
  | .row ver es k, .arr b c, ⟨⟨vs, E, h1, h2, h3⟩, h4, h5, h6, h7⟩ =>
    refine ⟨⟨vs, E, h1, h2, fun i e j u x he hu hx => ?_⟩, by simpa using h4, h5, fun e he => ?_, h7⟩
    · rw [List.getElem?_map] at he
      cases hq : es[i]? with
      | none => simp [hq] at he
      | some y =>
        simp [hq] at he; subst he
        rw [List.getElem?_map] at hx
        cases hq2 : y[j]? with
        | none => simp [hq2] at hx
        | some z => simp [hq2] at hx; subst hx; exact SV.up h (h3 i y j u z hq hu hq2)
    · obtain ⟨y, hy, rfl⟩ := List.mem_map.1 he
      simpa using h6 y hy
  | .row ver es k, .none, h => have h : es = [] := h; subst h; rfl
  | .map kvs, .box b, ⟨⟨es, h1, h2, h3⟩, h4⟩ =>
    refine ⟨⟨es, h1, by simpa using h2, fun j e p he hp => ?_⟩, h4⟩
    rw [List.getElem?_map] at hp
    cases hq : kvs[j]? with
    | none => simp [hq] at hp
    | some y => simp [hq] at hp; subst hp; exact ⟨(h3 j e y he hq).1, (h3 j e y he hq).2.1, AV.up h (h3 j e y he hq).2.2⟩
  | .dead, .none, h => exact h
  | .dead, .box _, h => exact h
theorem Cap.down (h : Emb σ γ0 L0 γ L) {x : Cap} {v : Value} (hx : (x.ren σ).rep R γ v) (hb : x.below L0.length) : x.rep R γ0 v := by
  cases x with
  | c y => exact hx
  | ptr id off => obtain ⟨b, h1, h2⟩ := hx; exact ⟨b, h1, by rw [← h.gh id hb]; exact h2⟩
theorem SV.down (h : Emb σ γ0 L0 γ L) {x : SV} {v : Value} (hx : (x.ren σ).rep R γ L v) (hb : x.below L0.length) : x.rep R γ0 L0 v := by
  cases x with
  | c y => exact hx
  | emp => exact hx
  | own es t =>
    obtain ⟨h1, _, h2⟩ := hx
    have hlt : t < L0.length := hb
    refine ⟨h1, hlt, fun n k e => ?_⟩
    rw [← h.gh t hlt]
    exact h2 n k (h.ob t _ e)
  | ptr id off => obtain ⟨b, h1, h2⟩ := hx; exact ⟨b, h1, by rw [← h.gh id hb]; exact h2⟩
  | sl id ver lo n =>
    obtain ⟨h1, _, h2⟩ := hx
    have hlt : id < L0.length := hb
    refine ⟨h1, hlt, fun ver' es k e => ?_⟩
    have := h2 ver' _ k (h.ob id _ e)
    rw [← h.gh id hlt]
    simpa using this
  | ep id ver i o =>
    obtain ⟨h1, _, h2⟩ := hx
    have hlt : id < L0.length := hb
    refine ⟨h1, hlt, fun ver' es k e => ?_⟩
    have := h2 ver' _ k (h.ob id _ e)
    rw [← h.gh id hlt]
    simpa using this
  | mp id => obtain ⟨b, h1, h2⟩ := hx; exact ⟨b, h1, by rw [← h.gh id hb]; exact h2⟩
  | clo f caps =>
    obtain ⟨vs, h1, h2, h3⟩ := hx
    exact ⟨vs, h1, by simpa using h2, fun j u x hu hx => Cap.down h (h3 j u _ hu (by rw [List.getElem?_map, hx]; rfl)) (hb x (List.mem_of_getElem? hx))⟩
theorem AV.down (h : Emb σ γ0 L0 γ L) {x : AV} {v : Value} (hx : (x.ren σ).rep R γ L v) (hb : x.below L0.length) : x.rep R γ0 L0 v := by
  cases x with
  | one x => exact SV.down h hx hb
  | agg xs =>
    obtain ⟨vs, h1, h2, h3⟩ := hx
    exact ⟨vs, h1, by simpa using h2, fun j u x hu hx => SV.down h (h3 j u _ hu (by rw [List.getElem?_map, hx]; rfl)) (hb x (List.mem_of_getElem? hx))⟩
  | tup ps => exact hx
  | undef => exact hx
theorem ObjOK.down (h : Emb σ γ0 L0 γ L) {x : Ob} {g : Gh} (hx : ObjOK R γ L w (x.ren σ) g) (hb : x.below L0.length) : ObjOK R γ0 L0 w x g := by
  match x, g, hx, hb with
  | .box cs, .box b, ⟨⟨vs, E, h1, h2, h3⟩, h4⟩, hb =>
    exact ⟨⟨vs, E, h1, by simpa using h2, fun j u x hu hx => SV.down h (h3 j u _ hu (by rw [List.getElem?_map, hx]; rfl)) (hb x (List.mem_of_getElem? hx))⟩, h4⟩
  | .spare n k, .arr b c, h, _ => exact h
  | .spare n k, .none, h, _ => exact h
  | .row ver es k, .arr b c, ⟨⟨vs, E, h1, h2, h3⟩, h4, h5, h6, h7⟩, hb =>
    refine ⟨⟨vs, E, h1, h2, fun i e j u x he hu hx => ?_⟩, by simpa using h4, h5, fun e he => ?_, h7⟩
    · exact SV.down h (h3 i (e.map (SV.ren σ)) j u _ (by rw [List.getElem?_map, he]; rfl) hu (by rw [List.getElem?_map, hx]; rfl)) (hb e (List.mem_of_getElem? he) x (List.mem_of_getElem? hx))
    · simpa using h6 _ (List.mem_map_of_mem he)
  | .row ver es k, .none, h, _ => have h : es.map _ = [] := h; exact List.map_eq_nil_iff.1 h
  | .map kvs, .box b, ⟨⟨es, h1, h2, h3⟩, h4⟩, hb =>
    refine ⟨⟨es, h1, by simpa using h2, fun j e p he hp => ?_⟩, h4⟩
    have := h3 j e _ he (by rw [List.getElem?_map, hp]; rfl)
    exact ⟨this.1, this.2.1, AV.down h this.2.2 (hb p (List.mem_of_getElem? hp))⟩
  | .dead, .none, h, _ => exact h
  | .dead, .box _, h, _ => exact h

/-- What the callee has to leave alone: all that lay there but the places of the objects it was handed. -/
def Outside (γ0 : List Gh) (w : World) (b : Nat) : Prop := b < w.heap.size ∧ ∀ (i : Nat) g, γ0[i]? = some g → g.block ≠ some b

theorem frame_in (hi : Inv B R γ L w) (h : Emb σ γ0 L0 γ L) (hinj : ∀ i j, i < L0.length → j < L0.length → rid σ i = rid σ j → i = j) (hb : ∀ x ∈ L0, x.below L0.length) : Inv (Outside γ0 w) R γ0 L0 w := by
  refine ⟨h.glen, hi.val, fun id x g hx hg => ?_, fun i j gi gj h1 h2 hne b hb => ?_, fun i g b hg hb => ⟨fun ho => ho.2 i g hg hb, (hi.new _ g b (h.gbox hg) hb).2⟩, fun b hb => hb.1⟩
  · exact ObjOK.down h (hi.obj _ _ g (h.ob id x hx) (h.gbox hg)) (hb x (List.mem_of_getElem? hx))
  · have b1 : i < L0.length := by rw [← h.glen]; exact (List.getElem?_eq_some_iff.1 h1).1
    have b2 : j < L0.length := by rw [← h.glen]; exact (List.getElem?_eq_some_iff.1 h2).1
    exact hi.inj _ _ gi gj (h.gbox h1) (h.gbox h2) (fun e => hne (hinj i j b1 b2 e)) b hb

/-- After the call: the callee's objects are put back among the caller's. -/
theorem frame_out (hi : Inv B R γ L w) (h : Emb σ γ0 L0 γ L) {R' : PH} {w' : World} {σ' : List Nat} {γ1 γ' : List Gh} {L1 L' : List Ob} (h1 : Inv (Outside γ0 w) R' γ1 L1 w') (he : Ext (Outside γ0 w) R R' w w') (hm : Mv R R' γ0 γ1 L0 L1)
    (h' : Emb σ' γ1 L1 γ' L') (hσ : ∀ i, i < L0.length → rid σ' i = rid σ i) (hlen : L.length ≤ L'.length) (hgl : γ'.length = L'.length)
    (inj' : ∀ i j, i < L1.length → j < L1.length → rid σ' i = rid σ' j → i = j)
    (all : ∀ j, j < L'.length → (∃ i, i < L1.length ∧ rid σ' i = j) ∨ (j < L.length ∧ (∀ i, i < L0.length → rid σ i ≠ j) ∧ L'[j]? = L[j]? ∧ γ'[j]? = γ[j]?))
    (new' : ∀ i, L0.length ≤ i → i < L1.length → L.length ≤ rid σ' i) :
    Inv B R' γ' L' w' ∧ Ext B R R' w w' ∧ Mv R R' γ γ' L L' := by
  have hBO : ∀ b, B b → Outside γ0 w b := fun b hb => ⟨hi.bsz b hb, fun i g hg e => (hi.new _ g b (h.gbox hg) e).1 hb⟩
  have hE : Ext B R R' w w' := ⟨he.below.mono hBO, he.sub, fun b o hb => he.old b o (hBO b hb)⟩
  have oth : ∀ j g b, (∀ i, i < L0.length → rid σ i ≠ j) → γ[j]? = some g → g.block = some b → Outside γ0 w b := by
    intro j g b hj hg hb
    refine ⟨(hi.new j g b hg hb).2, fun i g0 hg0 e => ?_⟩
    have b1 : i < L0.length := by rw [← h.glen]; exact (List.getElem?_eq_some_iff.1 hg0).1
    exact hi.inj j _ g g0 hg (h.gbox hg0) (fun e => hj i b1 e.symm) b hb e
  have hmv : Mv R R' γ γ' L L' := by
    have old : ∀ t, t < L.length → (∃ i, i < L0.length ∧ rid σ i = t) ∨ (L'[t]? = L[t]? ∧ γ'[t]? = γ[t]?) := by
      intro t ht
      rcases all t (Nat.lt_of_lt_of_le ht hlen) with ⟨i, hi1, hi2⟩ | ⟨_, _, a, b⟩
      · by_cases hi0 : i < L0.length
        · exact .inl ⟨i, hi0, by rw [← hσ i hi0]; exact hi2⟩
        · have := new' i (by omega) hi1; omega
      · exact .inr ⟨a, b⟩
    refine ⟨he.sub, hlen, fun t n' k ht e => ?_, fun t ver es' k ht e => ?_, fun id b hg => ?_⟩
    · rcases old t ht with ⟨i, hi0, rfl⟩ | ⟨a, b⟩
      · have hi1 : i < L1.length := Nat.lt_of_lt_of_le hi0 hm.len
        rw [← hσ i hi0] at e
        obtain ⟨n, g1, g2, g3⟩ := hm.tok i n' k hi0 (h'.spare hi1 e)
        exact ⟨n, h.ob i _ g1, g2, fun q => by rw [h.gh i hi0, ← hσ i hi0, h'.gh i hi1]; exact g3 q⟩
      · exact ⟨n', by rw [← a]; exact e, Nat.le_refl _, fun _ => b⟩
    · rcases old t ht with ⟨i, hi0, rfl⟩ | ⟨a, b⟩
      · have hi1 : i < L1.length := Nat.lt_of_lt_of_le hi0 hm.len
        rw [← hσ i hi0] at e
        obtain ⟨es1, q1, q2⟩ := h'.row hi1 e
        obtain ⟨ver0, es, g1, g2, g3⟩ := hm.row i ver es1 k hi0 q1
        exact ⟨ver0, _, h.ob i _ g1, g2, fun q => ⟨by have := (g3 q).1; simp; omega, by rw [h.gh i hi0, ← hσ i hi0, h'.gh i hi1]; exact (g3 q).2⟩⟩
      · exact ⟨ver, es', by rw [← a]; exact e, Nat.le_refl _, fun _ => ⟨rfl, b⟩⟩
    · have ht : id < L.length := by rw [← hi.len]; exact (List.getElem?_eq_some_iff.1 hg).1
      rcases old id ht with ⟨i, hi0, rfl⟩ | ⟨a, b'⟩
      · have hi1 : i < L1.length := Nat.lt_of_lt_of_le hi0 hm.len
        rw [← hσ i hi0, h'.gh i hi1]
        exact hm.ptr i b (by rw [← h.gh i hi0]; exact hg)
      · rw [b']; exact hg
  have back : ∀ j g, γ'[j]? = some g → (∃ i, i < L1.length ∧ rid σ' i = j ∧ γ1[i]? = some g) ∨ (j < L.length ∧ (∀ i, i < L0.length → rid σ i ≠ j) ∧ L'[j]? = L[j]? ∧ γ[j]? = some g) := by
    intro j g hg
    have hj : j < L'.length := by rw [← hgl]; exact (List.getElem?_eq_some_iff.1 hg).1
    rcases all j hj with ⟨i, a, rfl⟩ | ⟨a, b, c, d⟩
    · exact .inl ⟨i, a, rfl, by rw [← h'.gh i a]; exact hg⟩
    · exact .inr ⟨a, b, c, by rw [← d]; exact hg⟩
  refine ⟨⟨hgl, h1.val, fun j x g hx hg => ?_, fun j1 j2 g1 g2 q1 q2 hne b hb => ?_, fun j g b hg hb => ?_, fun b hb => Nat.lt_of_lt_of_le (hi.bsz b hb) he.below.size⟩, hE, hmv⟩
  · rcases back j g hg with ⟨i, a, rfl, c⟩ | ⟨a, b, c, d⟩
    · have hy := List.getElem?_eq_getElem a
      rw [h'.ob i _ hy] at hx
      injection hx with hx; subst hx
      exact ObjOK.up h' (h1.obj i _ g hy c)
    · exact (hi.obj j x g (by rw [← c]; exact hx) d).mv hmv (fun b' hb' => he.below.block b' (oth j g b' b d hb')) (fun b' o hb' e => by rw [he.old b' o (oth j g b' b d hb')]; exact e)
  · rcases back j1 g1 q1 with ⟨i1, a1, r1, c1⟩ | ⟨a1, b1, _, d1⟩ <;> rcases back j2 g2 q2 with ⟨i2, a2, r2, c2⟩ | ⟨a2, b2, _, d2⟩
    · exact h1.inj i1 i2 g1 g2 c1 c2 (fun e => hne (by rw [← r1, ← r2, e])) b hb
    · intro e; exact (h1.new i1 g1 b c1 hb).1 (oth j2 g2 b b2 d2 e)
    · intro e; exact (h1.new i2 g2 b c2 e).1 (oth j1 g1 b b1 d1 hb)
    · exact hi.inj j1 j2 g1 g2 d1 d2 hne b hb
  · rcases back j g hg with ⟨i, a, _, c⟩ | ⟨a, b', _, d⟩
    · exact ⟨fun hB => (h1.new i g b c hb).1 (hBO b hB), (h1.new i g b c hb).2⟩
    · have := hi.new j g b d hb
      exact ⟨this.1, Nat.lt_of_lt_of_le this.2 he.below.size⟩
end
end Go.Proofs.YtnbnpnmkgemdeaaGreatDoor

namespace Go.Proofs.YtnbnpnmkgemdeaaGreatDoor
open Go.RowKit

def setAll {α : Type} : List α → List Nat → List α → List α
  | l, i :: σ, x :: xs => setAll (l.set i x) σ xs
  | l, _, _ => l
theorem setAll_length {α : Type} : ∀ (σ : List Nat) (l xs : List α), (setAll l σ xs).length = l.length
  | [], l, xs => by cases xs <;> rfl
  | i :: σ, l, [] => rfl
  | i :: σ, l, x :: xs => by rw [setAll, setAll_length σ]; simp
theorem setAll_other {α : Type} : ∀ (σ : List Nat) (l xs : List α) (j : Nat), (∀ i ∈ σ, i ≠ j) → (setAll l σ xs)[j]? = l[j]?
  | [], l, xs, j, _ => by cases xs <;> rfl
  | i :: σ, l, [], j, _ => rfl
  | i :: σ, l, x :: xs, j, h => by
    rw [setAll, setAll_other σ _ xs j (fun k hk => h k (List.mem_cons_of_mem _ hk)), List.getElem?_set_ne (h i (List.mem_cons_self ..))]
theorem setAll_at {α : Type} : ∀ (σ : List Nat) (l xs : List α) (i s : Nat), σ.Nodup → (∀ k ∈ σ, k < l.length) → σ[i]? = some s → i < xs.length → (setAll l σ xs)[s]? = xs[i]?
  | [], l, xs, i, s, _, _, h, _ => by simp at h
  | k :: σ, l, [], i, s, _, _, _, h => by simp at h
  | k :: σ, l, x :: xs, i, s, hn, hb, h, hi => by
    rw [setAll]
    have hn' := List.nodup_cons.1 hn
    cases i with
    | zero =>
      simp at h; subst h
      rw [setAll_other σ _ xs k (fun q hq e => hn'.1 (by rw [← e]; exact hq)), List.getElem?_set_self (hb k (List.mem_cons_self ..))]
      rfl
    | succ i =>
      rw [setAll_at σ (l.set k x) xs i s hn'.2 (fun q hq => by simpa using hb q (List.mem_cons_of_mem _ hq)) (by simpa using h) (by simpa using hi)]
      simp
theorem nodup_get : ∀ {σ : List Nat} {i j s : Nat}, σ.Nodup → σ[i]? = some s → σ[j]? = some s → i = j
  | [], i, j, s, _, h, _ => by simp at h
  | k :: σ, 0, 0, s, _, _, _ => rfl
  | k :: σ, 0, j + 1, s, hn, h1, h2 => by
    simp at h1 h2; subst h1
    exact absurd (List.mem_of_getElem? h2) (List.nodup_cons.1 hn).1
  | k :: σ, i + 1, 0, s, hn, h1, h2 => by
    simp at h1 h2; subst h2
    exact absurd (List.mem_of_getElem? h1) (List.nodup_cons.1 hn).1
  | k :: σ, i + 1, j + 1, s, hn, h1, h2 => by
    have h3 : σ[i]? = some s := by simpa using h1
    have h4 : σ[j]? = some s := by simpa using h2
    have := nodup_get (List.nodup_cons.1 hn).2 h3 h4
    omega
def newIds (n m : Nat) : List Nat := (List.range m).map (n + ·)
def outIds (σ : List Nat) (n m : Nat) : List Nat := σ ++ newIds n (m - σ.length)
def join {α : Type} (σ : List Nat) (l xs : List α) : List α := setAll l σ xs ++ xs.drop σ.length
def joinL (σ : List Nat) (L L1 : List Ob) : List Ob := join σ L (L1.map (Ob.ren (outIds σ L.length L1.length)))

theorem rid_old {σ : List Nat} {n m i : Nat} (hi : i < σ.length) : rid (outIds σ n m) i = rid σ i := by
  unfold rid outIds
  rw [List.getD_eq_getElem?_getD, List.getD_eq_getElem?_getD, List.getElem?_append_left hi]
theorem rid_at {σ : List Nat} {i : Nat} (hi : i < σ.length) : σ[i]? = some (rid σ i) := by
  unfold rid
  rw [List.getD_eq_getElem?_getD, List.getElem?_eq_getElem hi]; rfl
theorem rid_new {σ : List Nat} {n m i : Nat} (hi : σ.length ≤ i) (hm : i < m) : rid (outIds σ n m) i = n + (i - σ.length) := by
  unfold rid outIds newIds
  rw [List.getD_eq_getElem?_getD, List.getElem?_append_right hi, List.getElem?_map, List.getElem?_range (by omega)]; rfl
theorem join_at {α : Type} {σ : List Nat} {l xs : List α} {n i : Nat} (hl : l.length = n) (hn : σ.Nodup) (hb : ∀ k ∈ σ, k < l.length) (hi : i < xs.length) : (join σ l xs)[rid (outIds σ n xs.length) i]? = xs[i]? := by
  unfold join
  by_cases h : i < σ.length
  · rw [rid_old h, List.getElem?_append_left (by rw [setAll_length]; exact hb _ (List.mem_of_getElem? (rid_at h)))]
    exact setAll_at σ l xs i _ hn hb (rid_at h) hi
  · rw [rid_new (by omega) hi, List.getElem?_append_right (by rw [setAll_length]; omega), setAll_length, List.getElem?_drop]
    congr 1; omega
theorem join_length {α : Type} (σ : List Nat) (l xs : List α) : (join σ l xs).length = l.length + (xs.length - σ.length) := by
  unfold join; rw [List.length_append, setAll_length, List.length_drop]
theorem join_other {α : Type} {σ : List Nat} {l xs : List α} {j : Nat} (hj : j < l.length) (h : ∀ i ∈ σ, i ≠ j) : (join σ l xs)[j]? = l[j]? := by
  unfold join
  rw [List.getElem?_append_left (by rw [setAll_length]; exact hj)]
  exact setAll_other σ l xs j h

section
variable {P : Program} {B : Nat → Prop} {R : PH} {γ : List Gh} {L0 L : List Ob} {w : World} {σ : List Nat}
def subG (σ : List Nat) (γ : List Gh) : List Gh := σ.map fun i => γ.getD i .none
theorem emb_in (hi : Inv B R γ L w) (hlen : σ.length = L0.length) (hob : ∀ (i : Nat) x, L0[i]? = some x → L[rid σ i]? = some (x.ren σ)) : Emb σ (subG σ γ) L0 γ L := by
  refine ⟨by simp [subG, hlen], fun i h => ?_, hob⟩
  have hlt : rid σ i < γ.length := by rw [hi.len]; exact (List.getElem?_eq_some_iff.1 (hob i _ (List.getElem?_eq_getElem h))).1
  unfold subG
  rw [List.getElem?_map, rid_at (by omega)]
  simp only [Option.map_some]
  rw [List.getD_eq_getElem?_getD, List.getElem?_eq_getElem hlt]; rfl
theorem frame_join (hi : Inv B R γ L w) (hlen : σ.length = L0.length) (hnd : σ.Nodup) (hob : ∀ (i : Nat) x, L0[i]? = some x → L[rid σ i]? = some (x.ren σ)) {R' : PH} {w' : World} {γ1 : List Gh} {L1 : List Ob} (h1 : Inv (Outside (subG σ γ) w) R' γ1 L1 w') (he : Ext (Outside (subG σ γ) w) R R' w w') (hm : Mv R R' (subG σ γ) γ1 L0 L1) :
    Inv B R' (join σ γ γ1) (joinL σ L L1) w' ∧ Ext B R R' w w' ∧ Mv R R' γ (join σ γ γ1) L (joinL σ L L1) ∧ Emb (outIds σ L.length L1.length) γ1 L1 (join σ γ γ1) (joinL σ L L1) := by
  have hemb := emb_in hi hlen hob
  have hbl : ∀ k ∈ σ, k < L.length := by
    intro k hk
    obtain ⟨i, hi', rfl⟩ := List.getElem_of_mem hk
    have : rid σ i = σ[i] := by have := rid_at (σ := σ) hi'; rw [List.getElem?_eq_getElem hi'] at this; injection this with this; exact this.symm
    rw [← this]; exact hemb.lt (by omega)
  have hbg : ∀ k ∈ σ, k < γ.length := fun k hk => by rw [hi.len]; exact hbl k hk
  have hle : L0.length ≤ L1.length := hm.len
  have e1 : Emb (outIds σ L.length L1.length) γ1 L1 (join σ γ γ1) (joinL σ L L1) := by
    refine ⟨h1.len, fun i h => ?_, fun i x hx => ?_⟩
    · have := join_at (σ := σ) (l := γ) (xs := γ1) (n := L.length) (i := i) hi.len hnd hbg (by rw [h1.len]; exact h)
      rw [h1.len] at this; exact this
    · have hlt := (List.getElem?_eq_some_iff.1 hx).1
      have := join_at (σ := σ) (l := L) (xs := L1.map (Ob.ren (outIds σ L.length L1.length))) (n := L.length) (i := i) rfl hnd hbl (by simpa using hlt)
      rw [List.length_map] at this
      unfold joinL
      rw [this, List.getElem?_map, hx]; rfl
  have hL' : (joinL σ L L1).length = L.length + (L1.length - σ.length) := by unfold joinL; rw [join_length, List.length_map]
  have hinj : ∀ i j, i < L1.length → j < L1.length → rid (outIds σ L.length L1.length) i = rid (outIds σ L.length L1.length) j → i = j := by
    intro i j hi1 hj1 e
    by_cases a : i < σ.length <;> by_cases b : j < σ.length
    · rw [rid_old a, rid_old b] at e
      have h1 := rid_at a
      have h2 := rid_at b
      rw [← e] at h2
      exact nodup_get hnd h1 h2
    · rw [rid_old a, rid_new (by omega) hj1] at e
      have := hbl _ (List.mem_of_getElem? (rid_at a)); omega
    · rw [rid_old b, rid_new (by omega) hi1] at e
      have := hbl _ (List.mem_of_getElem? (rid_at b)); omega
    · rw [rid_new (by omega) hi1, rid_new (by omega) hj1] at e; omega
  have hall : ∀ j, j < (joinL σ L L1).length → (∃ i, i < L1.length ∧ rid (outIds σ L.length L1.length) i = j) ∨ (j < L.length ∧ (∀ i, i < L0.length → rid σ i ≠ j) ∧ (joinL σ L L1)[j]? = L[j]? ∧ (join σ γ γ1)[j]? = γ[j]?) := by
    intro j hj
    rw [hL'] at hj
    by_cases hjL : j < L.length
    · by_cases hjs : j ∈ σ
      · obtain ⟨i, hi', hq⟩ := List.getElem_of_mem hjs
        refine .inl ⟨i, by omega, ?_⟩
        rw [rid_old hi']
        have := rid_at (σ := σ) hi'; rw [List.getElem?_eq_getElem hi'] at this; injection this with this; rw [← this]; exact hq
      · have hne : ∀ i ∈ σ, i ≠ j := fun i hi' e => hjs (by rw [← e]; exact hi')
        refine .inr ⟨hjL, fun i hi0 e => hjs (by rw [← e]; exact List.mem_of_getElem? (rid_at (by omega))), join_other hjL hne, join_other (by rw [hi.len]; exact hjL) hne⟩
    · exact .inl ⟨σ.length + (j - L.length), by omega, by rw [rid_new (by omega) (by omega)]; omega⟩
  obtain ⟨a, b, c⟩ := frame_out hi hemb h1 he hm e1 (fun i hi0 => rid_old (by omega)) (by rw [hL']; omega) (by rw [join_length, hL', hi.len, h1.len]) hinj hall (fun i hi0 hi1 => by rw [rid_new (by omega) hi1]; omega)
  exact ⟨a, b, c, e1⟩
end
end Go.Proofs.YtnbnpnmkgemdeaaGreatDoor

namespace Go.Proofs.YtnbnpnmkgemdeaaGreatDoor
open Go.RowKit

/-- The function number f, called at these trees, returns this tree, and turns nothing that was there. -/
def Pure (P : Program) (f : FuncId) (args : List PV) (r : CV) : Prop :=
  (∃ fn, P.funcs[f]? = some fn ∧ fn.body.isSome = true ∧ (fn.name == "runtime.NumGoroutine") = false) ∧
  ∀ (R : PH) (w : World) (vs : Array Value), (∀ b o u, R b o = some u → w.cell? ⟨b, o, none⟩ = some u) → vs.size = args.length → (∀ (j : Nat) v p, vs[j]? = some v → args[j]? = some p → p.rep R v) →
    Calls P f vs w fun e w' => ∃ v R', e = .returned v ∧ Ext (· < w.heap.size) R R' w w' ∧ (∀ b o u, R' b o = some u → w'.cell? ⟨b, o, none⟩ = some u) ∧ r.rep R' v

/-- A slice whose spare room is the call's own, lying at g. -/
def OwnV (R : PH) (w : World) (es : List (List AC)) (k : Nat) (v : Value) : Gh → Prop
  | .none => es = [] ∧ ∃ a, v = .slice a 0 0
  | .arr b c => v = .slice (some ⟨b, 0, none⟩) es.length c ∧ (∃ vs E, w.heap[b]? = some (.cells vs E (0, 0)) ∧ vs.size = c * k) ∧ es.length ≤ c ∧ 0 < k ∧ ∀ o, es.length * k ≤ o → R b o = none
  | .box _ => False
/-- The function number f takes over the row es and hands back the row es'. -/
def PureO (P : Program) (f : FuncId) (es : List (List AC)) (k : Nat) (args : List PV) (es' : List (List AC)) : Prop :=
  (∃ fn, P.funcs[f]? = some fn ∧ fn.body.isSome = true ∧ (fn.name == "runtime.NumGoroutine") = false) ∧
  ∀ (R : PH) (w : World) (v : Value) (vs : Array Value) (g : Gh), (∀ b o u, R b o = some u → w.cell? ⟨b, o, none⟩ = some u) → PRep R v (.lst es) → (∀ e ∈ es, e.length = k) → OwnV R w es k v g → vs.size = args.length → (∀ (j : Nat) v p, vs[j]? = some v → args[j]? = some p → p.rep R v) →
    Calls P f (#[v] ++ vs) w fun e w' => ∃ v' R' g', e = .returned v' ∧ Ext (fun b => b < w.heap.size ∧ g.block ≠ some b) R R' w w' ∧ (∀ b o u, R' b o = some u → w'.cell? ⟨b, o, none⟩ = some u) ∧
      PRep R' v' (.lst es') ∧ (∀ e ∈ es', e.length = k) ∧ OwnV R' w' es' k v' g' ∧ ∀ b, g'.block = some b → w.heap.size ≤ b ∨ g.block = some b

/-- The function number f, handed the objects L0 and the values args, leaves the objects L1 (the first of them those it was handed) and returns r. -/
def Run (P : Program) (f : FuncId) (L0 : List Ob) (args : List AV) (L1 : List Ob) (r : AV) : Prop :=
  (∃ fn, P.funcs[f]? = some fn ∧ fn.body.isSome = true ∧ (fn.name == "runtime.NumGoroutine") = false) ∧
  ∀ (B : Nat → Prop) (R : PH) (γ : List Gh) (w : World) (vs : Array Value), Inv B R γ L0 w → vs.size = args.length → (∀ (j : Nat) v p, vs[j]? = some v → args[j]? = some p → p.rep R γ L0 v) →
    Calls P f vs w fun e w' => ∃ v R' γ', e = .returned v ∧ Inv B R' γ' L1 w' ∧ Ext B R R' w w' ∧ Mv R R' γ γ' L0 L1 ∧ r.rep R' γ' L1 v
structure RunFits (σ : List Nat) (L0 : List Ob) (args : List AV) (L : List Ob) : Prop where
  len : σ.length = L0.length
  nd : σ.Nodup
  ob : ∀ (i : Nat) x, L0[i]? = some x → L[rid σ i]? = some (x.ren σ)
  obb : ∀ x ∈ L0, x.below L0.length
  argb : ∀ x ∈ args, x.below L0.length
def avs (ρ : Operand → Option AV) : List Operand → Option (List AV)
  | [] => some []
  | x :: xs => match ρ x, avs ρ xs with
    | some v, some vs => some (v :: vs)
    | _, _ => none
def Cap.av : Cap → AV
  | .c x => .one (.c x)
  | .ptr id off => .one (.ptr id off)
def callR (ti : TI) : Operand → Bool
  | .func f => ti.owns f
  | .tmp _ => ti.dyn
  | _ => false
def callOpR (ti : TI) (ρ : Operand → Option AV) : Op → Option (FuncId × List AV)
  | .call { callee := .value f, args, .. } => match callR ti f, ρ f, avs ρ args.toList with
    | true, some (.one (.c (.fn g cs))), some vs => some (g, vs ++ cs.map fun x => .one (.c x))
    | true, some (.one (.clo g caps)), some vs => some (g, vs ++ caps.map Cap.av)
    | _, _, _ => none
  | _ => none

def putT (T : Tm) : Option Tmp → AV → Tm
  | some d, v => (d, v) :: T
  | none, _ => T
def dOK (N : Nat) : Option Tmp → Prop
  | some d => d < N
  | none => True
def normArgs (ρ : Operand → Option AV) : List Operand → Option (List PV)
  | [] => some []
  | x :: xs => match (ρ x).bind AV.norm, normArgs ρ xs with
    | some p, some ps => some (p :: ps)
    | _, _ => none

def litOp (ti : TI) (ρ : Operand → Option AV) : Op → Option (AV × Prop)
  | .buildSlice t len parts => popLit ti ρ t len parts.toList
  | _ => none
def callOp (ρ : Operand → Option AV) : Op → Option (FuncId × List PV)
  | .call { callee := .value f, args, .. } => match ρ f with
    | some (.one (.c (.fn g cs))) => (normArgs ρ args.toList).map fun ps => (g, ps ++ cs.map .one)
    | _ => none
  | _ => none
def callOpO (ti : TI) (ρ : Operand → Option AV) : Op → Option (FuncId × List (List AC) × Option Nat × List PV)
  | .call { callee := .value (.func f), args, .. } => match ti.owns f, args.toList with
    | true, x :: xs => match ρ x, normArgs ρ xs with
      | some (.one (.own es t)), some ps => some (f, es, some t, ps)
      | some (.one .emp), some ps => some (f, [], none, ps)
      | _, _ => none
    | _, _ => none
  | _ => none
/-- Operations that make or turn objects of the function. -/
def lKind (ti : TI) : Op → Bool
  | .alloc _ => true
  | .box _ _ => true
  | .store _ _ _ => true
  | .call { callee := .builtin b, .. } => match b with
    | .append => true
    | .unsafeString => true
    | .unsafeSliceData => true
    | .copy => true
    | .clear => true
    | .delete => true
    | _ => false
  | .call { callee := .value f, .. } => callR ti f
  | .makeSlice _ _ _ => true
  | .makeMap _ _ => true
  | .lookup _ _ _ _ => ti.dyn
  | .buildSlice _ _ _ => ti.dyn
  | .makeFunc _ _ _ => ti.dyn
  | .mapUpdate _ _ _ _ => true
  | .mapEntry _ _ _ => true
  | .entryStore _ _ _ _ => true
  | .insert _ _ _ _ => true
  | .binOp _ t _ _ _ => match ti.kind t with
    | some (.pointer _) => true
    | some (.map _ _) => true
    | some (.func _ _ _) => true
    | some (.slice _) => true
    | _ => false
  | .convert s d _ => match ti.kind d, ti.kind s with
    | some .unsafePointer, _ => true
    | _, some .unsafePointer => true
    | _, _ => false
  | _ => false
/-- Operations that may pass others in a region that draws its order: 1 makes an object, 2 appends, 3 stores, 4 only looks. -/
def sk : Op → Nat
  | .alloc _ => 1
  | .box _ _ => 1
  | .call { callee := .builtin .append, .. } => 2
  | .store _ _ _ => 3
  | .call { callee := .builtin .unsafeSliceData, .. } => 4
  | .lookup _ _ _ _ => 4
  | .makeFunc _ _ _ => 4
  | .binOp _ _ _ _ _ => 4
  | .convert _ _ _ => 4
  | _ => 0
/-- An operation that makes or turns objects, told by what it does. -/
def Sop (P : Program) (ρ : Operand → Option AV) (L : List Ob) (op : Op) (v : AV) (L' : List Ob) : Prop :=
  ∀ (B : Nat → Prop) (R : PH) (γ : List Gh) (w : World) (ev : Operand → Value) (o : Oper), o.op = op → Inv B R γ L w → (∀ x, x ∈ op.operands → ∀ v, ρ x = some v → v.rep R γ L (ev x)) → ((∀ f, ev (.func f) = .func (.func f) #[] #[]) ∧ ∀ v, ev (.const v) = v) → LopTo P B R γ L L' w (execOp ev o) v
/-- An operation is carried out, in one of eight ways. -/
def awOp (P : Program) (ti : TI) (ρ : Operand → Option AV) (L : List Ob) (K : AV → List Ob → Prop) (op : Op) : Prop :=
  (∃ v φ, pop ti ρ L op = some (v, φ) ∧ φ ∧ K v L) ∨ (∃ v φ, litOp ti ρ op = some (v, φ) ∧ φ ∧ K v L) ∨
  (∃ v L' φ, lop ti ρ L op = some (v, L', φ) ∧ φ ∧ K v L') ∨ (∃ g ps r, callOp ρ op = some (g, ps) ∧ Pure P g ps r ∧ K r.av L) ∨
  (∃ g es t k ps es' , callOpO ti ρ op = some (g, es, some t, ps) ∧ L[t]? = some (.spare es.length k) ∧ PureO P g es k ps es' ∧ K (.one (.own es' L.length)) (L.set t .dead ++ [.spare es'.length k])) ∨
  (∃ g k ps es' , callOpO ti ρ op = some (g, [], none, ps) ∧ PureO P g [] k ps es' ∧ K (.one (.own es' L.length)) (L ++ [.spare es'.length k])) ∨
  (∃ σ g L0 args L1 r, callOpR ti ρ op = some (g, args.map (AV.ren σ)) ∧ RunFits σ L0 args L ∧ Run P g L0 args L1 r ∧ K (r.ren (outIds σ L.length L1.length)) (joinL σ L L1)) ∨
  (∃ v L', (lKind ti op = true ∧ (ti.soft = true → sk op = 0 ∨ (sk op = 4 ∧ L' = L))) ∧ Sop P ρ L op v L' ∧ K v L')

def gd (ds : List (Option Tmp)) (T : Tm) (A B : Prop) : Option (Nat × Bool) → Prop
  | none => A
  | some (j, want) => match ds[j]? with
    | some (some d) => match T.lookup d with
      | some (.one (.c (.bool b))) => (b = want → A) ∧ (b = (!want) → B)
      | some .undef => B
      | _ => False
    | _ => False

def awOps (P : Program) (ti : TI) (N : Nat) (ds : List (Option Tmp)) (K : Tm → List Ob → Prop) : List Oper → Tm → List Ob → Prop
  | [], T, L => K T L
  | o :: rest, T, L => dOK N o.dst ∧ gd ds T (awOp P ti (look T) L (fun v L' => awOps P ti N ds K rest (putT T o.dst v) L') o.op) (awOps P ti N ds K rest (putT T o.dst .undef) L) o.guard

section
variable {P : Program} {ti : TI} {B : Nat → Prop} {N : Nat} {R : PH} {γ : List Gh} {L : List Ob} {w : World}

theorem Inv.tok (hi : Inv B R γ L w) (k : Nat) : Inv B R (γ ++ [.none]) (L ++ [.spare 0 k]) w := by
  have gcase : ∀ j h, (γ ++ [Gh.none])[j]? = some h → (j = γ.length ∧ h = .none) ∨ (j < γ.length ∧ γ[j]? = some h) := by
    intro j h hh
    by_cases hid : j < γ.length
    · rw [List.getElem?_append_left hid] at hh; exact .inr ⟨hid, hh⟩
    · have : j = γ.length := by have := (List.getElem?_eq_some_iff.1 hh).1; simp at this; omega
      subst this
      rw [List.getElem?_append_right (by omega)] at hh
      simp at hh
      exact .inl ⟨rfl, hh.symm⟩
  refine ⟨by simp [hi.len], hi.val, fun id y h hy hh => ?_, fun j1 j2 g1 g2 h1 h2 hne b hb => ?_, fun j h b hh hb => ?_, hi.bsz⟩
  · rcases gcase id h hh with ⟨rfl, rfl⟩ | ⟨hlt, hh'⟩
    · rw [List.getElem?_append_right (by rw [hi.len]; omega), hi.len] at hy
      simp at hy; subst hy; rfl
    · rw [List.getElem?_append_left (by rw [← hi.len]; exact hlt)] at hy
      exact (hi.obj id y h hy hh').mv (Mv.push _ _ hi.len) (fun _ _ => rfl) (fun _ _ _ h => h)
  · rcases gcase j1 g1 h1 with ⟨_, rfl⟩ | ⟨_, a2⟩
    · cases hb
    · rcases gcase j2 g2 h2 with ⟨_, rfl⟩ | ⟨_, b2⟩
      · intro e; cases e
      · exact hi.inj j1 j2 g1 g2 a2 b2 hne b hb
  · rcases gcase j h hh with ⟨_, rfl⟩ | ⟨_, a2⟩
    · cases hb
    · exact hi.new j h b a2 hb

theorem lopApp_sound (hti : TIok P ti) (hi : Inv B R γ L w) {t tx ty : TypeId} {s x : AV} {us ux : Value} (hs : s.rep R γ L us) (hx : x.rep R γ L ux) {v : AV} {L' : List Ob} {φ : Prop} (h : lopApp ti L t tx s x = some (v, L', φ)) (hφ : φ) :
    ∃ u w' R' γ', (Builtin.append_ #[t, tx] ty #[us, ux]).run P w = .ok u w' ∧ Inv B R' γ' L' w' ∧ Ext B R R' w w' ∧ Mv R R' γ γ' L L' ∧ v.rep R' γ' L' u := by
  unfold lopApp at h
  split at h
  · rename_i xs E hxs hE
    have hpx := listOf_rep hx hxs
    have hE := hti.elem _ _ hE
    have ht : P.underlying t = some (.slice E) := by
      unfold telem at hE
      split at hE
      · rename_i e he; injection hE with hE; subst hE; exact he
      · cases hE
    have htx : (ti.elem tx).isSome → ∃ E', P.underlying tx = some (.slice E') := by
      intro h
      obtain ⟨e, he⟩ := Option.isSome_iff_exists.1 h
      have h := hti.elem _ _ he
      unfold telem at h
      split at h
      · rename_i e he; exact ⟨e, he⟩
      · cases h
    split at h
    · rename_i k by_ hk hb
      have hk := hti.size _ _ hk
      have hb := hti.bytes _ _ hb
      split at h
      · injection h with h; injection h with e1 e2; injection e2 with e2 e3; subst e1 e2 e3
        obtain ⟨h1, h2, h3, h4, h5, h6⟩ := hφ
        obtain ⟨E', hE'⟩ := htx h1
        obtain ⟨a, rfl⟩ := hs
        have hi1 := hi.tok k
        have hm1 : Mv R R γ (γ ++ [.none]) L (L ++ [.spare 0 k]) := Mv.push _ _ hi.len
        have hL1 : (L ++ [Ob.spare 0 k])[L.length]? = some (.spare 0 k) := by simp
        have hv1 : (SV.own [] L.length).rep R (γ ++ [.none]) (L ++ [.spare 0 k]) (.slice a 0 0) :=
          ⟨prep_nil _ _ _, by simp, fun n2 k2 _ => ⟨by simp, by simp, fun _ => ⟨.none, by rw [← hi.len]; simp, a, by simp⟩⟩⟩
        obtain ⟨u, w', R', γ', a1, a2, a3, a4, a5⟩ := app_own (P := P) (ty := ty) hi1 ht hE' h2 (hti.zok _ h3 _ hk) hb hL1 hv1 rfl hpx h4 (by simpa using h5) (by simpa using h6)
        have hset : (L ++ [Ob.spare 0 k]).set L.length (.spare (0 + xs.length) k) = L ++ [.spare xs.length k] := by simp
        rw [hset] at a2 a4 a5
        exact ⟨u, w', R', γ', a1, a2, a3, hm1.trans a4, by rw [List.nil_append] at a5; exact a5⟩
      · rename_i es i
        split at h
        · rename_i n k' hL
          injection h with h; injection h with e1 e2; injection e2 with e2 e3; subst e1 e2 e3
          obtain ⟨h1, h2, h3, h4, h5, h6, h7⟩ := hφ
          obtain ⟨E', hE'⟩ := htx h1
          subst h2
          obtain ⟨u, w', R', γ', a1, a2, a3, a4, a5⟩ := app_own (P := P) (ty := ty) hi ht hE' h4.2 (hti.zok _ h4.1 _ hk) hb hL hs h3 hpx h5 h6 h7
          exact ⟨u, w', R', γ', a1, a2, a3, a4, a5⟩
        · cases h
      · cases h
    · cases h
  · cases h

theorem Inv.later (hi : Inv B R γ L w) {R' : PH} {w' : World} (he : Ext (· < w.heap.size) R R' w w') (hv : ∀ b o u, R' b o = some u → w'.cell? ⟨b, o, none⟩ = some u) : Inv B R' γ L w' ∧ Ext B R R' w w' := by
  refine ⟨⟨hi.len, hv, fun id x g hx hg => ?_, hi.inj, fun i g b hg hb => ?_, fun b hb => Nat.lt_of_lt_of_le (hi.bsz b hb) he.below.size⟩, he.below.mono hi.bsz, he.sub, fun b o hb => he.old b o (hi.bsz b hb)⟩
  · refine (hi.obj id x g hx hg).mv (Mv.of_sub he.sub) (fun b hb => he.below.block b (hi.new id g b hg hb).2) (fun b o hb e => ?_)
    rw [he.old b o (hi.new id g b hg hb).2]; exact e
  · have h1 := hi.new i g b hg hb
    have := he.below.size
    exact ⟨h1.1, by omega⟩

theorem normArgs_rep {ρ : Operand → Option AV} {a : Act} (hρ : ∀ x v, ρ x = some v → v.rep R γ L (a.eval x)) : ∀ {xs : List Operand} {ps : List PV}, normArgs ρ xs = some ps →
    xs.length = ps.length ∧ ∀ (j : Nat) x p, xs[j]? = some x → ps[j]? = some p → p.rep R (a.eval x)
  | [], ps, h => by injection h with h; subst h; exact ⟨rfl, fun j x p hx => by simp at hx⟩
  | x :: xs, ps, h => by
    unfold normArgs at h
    split at h
    · rename_i p ps' hp hps
      injection h with h; subst h
      obtain ⟨g1, g2⟩ := normArgs_rep hρ hps
      refine ⟨by simp [g1], fun j y q hy hq => ?_⟩
      cases j with
      | zero =>
        simp at hy hq; subst hy hq
        cases hx : ρ x with
        | none => simp [hx] at hp
        | some vx => simp only [hx, Option.bind_some] at hp; exact AV.norm_rep (hρ _ _ hx) hp
      | succ j => exact g2 j y q (by simpa using hy) (by simpa using hq)
    · cases h

theorem litOp_sound (hti : TIok P ti) (hi : Inv B R γ L w) {a : Act} {ρ : Operand → Option AV} (hρ : ∀ x v, ρ x = some v → v.rep R γ L (a.eval x)) {o : Oper} {v : AV} {φ : Prop} (h : litOp ti ρ o.op = some (v, φ)) (hφ : φ) : OpTo P B R γ L w (execOp a.eval o) v := by
  obtain ⟨dst, op, type, pos, after, guard⟩ := o
  simp only at h
  unfold litOp at h
  split at h
  · rename_i t len parts
    obtain ⟨u, w', R', h1, h2, h3, h4⟩ := popLit_sound hti hi hρ h hφ
    refine ⟨u, w', R', ?_, h2, h3, h4⟩
    simp only [execOp, Sem.run_bind]
    rw [h1]; rfl
  · cases h

theorem lop_sound (hti : TIok P ti) (hi : Inv B R γ L w) {a : Act} {ρ : Operand → Option AV} (hρ : ∀ x v, ρ x = some v → v.rep R γ L (a.eval x)) {o : Oper} {v : AV} {L' : List Ob} {φ : Prop} (h : lop ti ρ L o.op = some (v, L', φ)) (hφ : φ) : LopTo P B R γ L L' w (execOp a.eval o) v := by
  have viaBox : ∀ {xs : List SV} {vs : Array Value} (E : TypeId), CRep R γ L xs vs → (execOp a.eval o).run P w = .ok (.value (.pointer (some ⟨w.heap.size, 0, none⟩))) (w.alloc (.cells vs E)) → LopTo P B R γ L (L ++ [.box xs]) w (execOp a.eval o) (.one (.ptr L.length 0)) := by
    intro xs vs E hc hr
    obtain ⟨h1, h2⟩ := box_sound hi E hc
    exact ⟨_, R, _, .inl ⟨_, hr, h2⟩, h1, ⟨Kept.alloc hi.bsz _, PH.sub_refl _, fun _ _ _ => rfl⟩, Mv.push _ _ hi.len⟩
  obtain ⟨dst, op, type, pos, after, guard⟩ := o
  simp only at h viaBox
  unfold lop at h
  split at h
  · rename_i E
    split at h
    · rename_i zs hz
      injection h with h; injection h with e1 e2; injection e2 with e2 e3; subst e1 e2
      cases hz0 : ti.zero E with
      | none => simp [hz0] at hz
      | some za0 =>
        simp only [hz0, Option.bind_some] at hz
        have hzz0 := hti.zero _ _ hz0
        unfold zeroOf at hzz0
        cases hinf : P.info? E with
        | none => simp [hinf] at hzz0
        | some inf =>
          simp only [hinf, Option.bind_some] at hzz0
          cases hzz : inf.zero with
          | none => simp [hzz] at hzz0
          | some z =>
            simp only [hzz, Option.bind_some] at hzz0
            refine viaBox E (cells_rep (AV.ofVal_rep hzz0) hz) ?_
            simp [execOp, Instr.alloc, zeroValue, typeInfo, program, Sem.run, hinf, hzz, newVar, newRow]
    · cases h
  · rename_i E x
    split at h
    · rename_i xs hx
      injection h with h; injection h with e1 e2; injection e2 with e2 e3; subst e1 e2
      cases hrx : ρ x with
      | none => simp [hrx] at hx
      | some vx =>
        simp only [hrx, Option.bind_some] at hx
        refine viaBox E (cells_rep (hρ _ _ hrx) hx) ?_
        simp [execOp, Instr.box, newVar, newRow]
    · cases h
  · rename_i t p x
    split at h
    · rename_i id off xs hrp hx
      split at h
      · rename_i cs hL
        injection h with h; injection h with e1 e2; injection e2 with e2 e3; subst e1 e2 e3
        obtain ⟨b, hpv, hg⟩ := hρ _ _ hrp
        cases hrx : ρ x with
        | none => simp [hrx] at hx
        | some vx =>
          simp only [hrx, Option.bind_some] at hx
          have hc := cells_rep (hρ _ _ hrx) hx
          have h1 : ∀ c ∈ (a.eval x).cells, c.oneCell' = true := by
            intro c hc'
            obtain ⟨j, hj⟩ := Array.mem_iff_getElem?.1 hc'
            have hlt : j < xs.length := by rw [← hc.1]; exact (Array.getElem?_eq_some_iff.1 hj).1
            exact (SV.rep_one (hc.2 j c _ hj (List.getElem?_eq_getElem hlt))).2
          obtain ⟨w', g1, g2, g3, g4⟩ := store_sound (P := P) (t := t) hi hL hg hc h1 hφ.1 (hti.size _ _ hφ.2)
          have hr : (execOp a.eval { dst, op := .store t p x, type, pos, after, guard }).run P w = .ok .skip w' := by
            simp only [execOp, Sem.run_bind, hpv]
            rw [g1]; rfl
          exact ⟨w', R, γ, .inr ⟨hr, rfl⟩, g2, g3, g4⟩
      · cases h
    · rename_i id ver i o xs hrp hx
      split at h
      · rename_i ver' es k hL
        split at h
        case h_2 => cases h
        rename_i e he
        injection h with h; injection h with e1 e2; injection e2 with e2 e3; subst e1 e2 e3
        obtain ⟨hve, hle, hts⟩ := hφ
        subst hve
        have hpv := hρ _ _ hrp
        cases hrx : ρ x with
        | none => simp [hrx] at hx
        | some vx =>
          simp only [hrx, Option.bind_some] at hx
          have hc := cells_rep (hρ _ _ hrx) hx
          have h1 : ∀ c ∈ (a.eval x).cells, c.oneCell' = true := by
            intro c hc'
            obtain ⟨j, hj⟩ := Array.mem_iff_getElem?.1 hc'
            have hlt : j < xs.length := by rw [← hc.1]; exact (Array.getElem?_eq_some_iff.1 hj).1
            exact (SV.rep_one (hc.2 j c _ hj (List.getElem?_eq_getElem hlt))).2
          obtain ⟨w', g1, g2, g3, g4⟩ := storeRow_sound (P := P) (t := t) hi hL hpv he hc h1 hle (hti.size _ _ hts)
          have hr : (execOp a.eval { dst, op := .store t p x, type, pos, after, guard }).run P w = .ok .skip w' := by
            simp only [execOp, Sem.run_bind]
            rw [g1]; rfl
          exact ⟨w', R, γ, .inr ⟨hr, rfl⟩, g2, g3, g4⟩
      · cases h
    · cases h
  · rename_i args argTypes
    split at h
    · rename_i s x t tx ha ht
      split at h
      · rename_i vs vx hs hx
        obtain ⟨u, w', R', γ', g1, g2, g3, g4, g5⟩ := lopApp_sound (P := P) (ty := type) hti hi (hρ _ _ hs) (hρ _ _ hx) h hφ
        have e1 : args = #[s, x] := by cases args; simp_all
        have e2 : argTypes = #[t, tx] := by cases argTypes; simp_all
        subst e1 e2
        refine ⟨w', R', γ', .inl ⟨u, ?_, g5⟩, g2, g3, g4⟩
        simp [execOp, resolve, invoke, builtin, g1]
      · cases h
    · cases h
  · cases h

theorem callOpO_parts {ρ : Operand → Option AV} {op : Op} {f : FuncId} {es : List (List AC)} {t : Nat} {ps : List PV} (h : callOpO ti ρ op = some (f, es, some t, ps)) :
    ∃ args ts x xs, op = .call { callee := .value (.func f), args, argTypes := ts } ∧ args.toList = x :: xs ∧ ρ x = some (.one (.own es t)) ∧ normArgs ρ xs = some ps := by
  unfold callOpO at h
  split at h
  · rename_i f' args ts
    split at h
    · rename_i x xs ho hxs
      split at h
      · rename_i es' t' ps' hx hps
        injection h with h; injection h with e1 e2; injection e2 with e2 e3; injection e3 with e3 e4; injection e3 with e3
        subst e1 e2 e3 e4
        exact ⟨args, ts, x, xs, rfl, hxs, hx, hps⟩
      · rename_i ps' hx hps
        injection h with h; injection h with e1 e2; injection e2 with e2 e3; injection e3 with e3 e4; cases e3
      · cases h
    · cases h
  · cases h
theorem callOpO_parts' {ρ : Operand → Option AV} {op : Op} {f : FuncId} {ps : List PV} (h : callOpO ti ρ op = some (f, [], none, ps)) :
    ∃ args ts x xs, op = .call { callee := .value (.func f), args, argTypes := ts } ∧ args.toList = x :: xs ∧ ρ x = some (.one .emp) ∧ normArgs ρ xs = some ps := by
  unfold callOpO at h
  split at h
  · rename_i f' args ts
    split at h
    · rename_i x xs ho hxs
      split at h
      · rename_i es' t' ps' hx hps
        injection h with h; injection h with e1 e2; injection e2 with e2 e3; injection e3 with e3 e4; cases e3
      · rename_i ps' hx hps
        injection h with h; injection h with e1 e2; injection e2 with e2 e3; injection e3 with e3 e4
        subst e1 e4
        exact ⟨args, ts, x, xs, rfl, hxs, hx, hps⟩
      · cases h
    · cases h
  · cases h
theorem run_enter {f : FuncId} {fn : Func} {a : Act} {dst : Option Tmp} {type : TypeId} {pos : String} {after : Array Edge} {guard : Option (Nat × Bool)} {args : Array Operand} {argTypes : Array TypeId} (hfn : P.funcs[f]? = some fn) (hbody : fn.body.isSome = true) (hname : (fn.name == "runtime.NumGoroutine") = false) :
    (execOp a.eval { dst, op := .call { callee := .value (.func f), args, argTypes }, type, pos, after, guard }).run P w = .ok (.enter f (args.map a.eval)) w := by
  have hb : fn.body.isNone = false := by cases hbb : fn.body <;> simp_all
  simp only [execOp, resolve, Act.eval, Deferred.ofValue, Sem.run_bind, Sem.run_pure, Result.andThen_ok, invoke, callFunc, program, Sem.run]
  simp [hfn, hname, hb]
/-- A row that a call has made: a new token for it. -/
theorem give (hi : Inv B R γ L w) {k n' s : Nat} {g' : Gh} {es' : List (List AC)} {v' : Value} (hB : ∀ b, B b → b < s) (hold : ∀ (i : Nat) h b, γ[i]? = some h → h.block = some b → b < s) (hp : PRep R v' (.lst es')) (hw' : ∀ e ∈ es', e.length = k) (ho : OwnV R w es' k v' g') (hgb : ∀ b, g'.block = some b → s ≤ b) (hn : es'.length = n') :
    ∃ γ', Inv B R γ' (L ++ [.spare n' k]) w ∧ Mv R R γ γ' L (L ++ [.spare n' k]) ∧ (SV.own es' L.length).rep R γ' (L ++ [.spare n' k]) v' := by
  subst hn
  have gcase : ∀ j h, (γ ++ [g'])[j]? = some h → (j < γ.length ∧ γ[j]? = some h) ∨ (j = γ.length ∧ h = g') := by
    intro j h hh
    by_cases hj : j < γ.length
    · rw [List.getElem?_append_left hj] at hh; exact .inl ⟨hj, hh⟩
    · have : j = γ.length := by have := (List.getElem?_eq_some_iff.1 hh).1; simp at this; omega
      subst this
      rw [List.getElem?_append_right (by omega)] at hh
      simp at hh
      exact .inr ⟨rfl, hh.symm⟩
  have hm : Mv R R γ (γ ++ [g']) L (L ++ [.spare es'.length k]) := Mv.push _ _ hi.len
  refine ⟨γ ++ [g'], ⟨by simp [hi.len], hi.val, fun id x h hx hh => ?_, fun j1 j2 g1 g2 h1 h2 hne b hb => ?_, fun j h b hh hb => ?_, hi.bsz⟩, hm, hp, by simp, fun n2 k2 e2 => ?_⟩
  · rcases gcase id h hh with ⟨hj, hh'⟩ | ⟨rfl, rfl⟩
    · rw [List.getElem?_append_left (by rw [← hi.len]; exact hj)] at hx
      exact (hi.obj id x h hx hh').mv hm (fun _ _ => rfl) (fun _ _ _ h => h)
    · rw [List.getElem?_append_right (by rw [hi.len]; omega)] at hx
      simp [hi.len] at hx; subst hx
      match h, ho with
      | .none, ⟨h0, _⟩ => rw [h0]; rfl
      | .arr b c, ⟨_, ⟨vs, E, a1, a2⟩, a3, a4, a5⟩ => exact ⟨⟨vs, E, a1, a2⟩, a3, a4, a5⟩
  · rcases gcase j1 g1 h1 with ⟨a1, a3⟩ | ⟨a1, rfl⟩ <;> rcases gcase j2 g2 h2 with ⟨b1, b3⟩ | ⟨b1, rfl⟩
    · exact hi.inj j1 j2 g1 g2 a3 b3 hne b hb
    · intro e; have h1 := hgb b e; have h2 := hold j1 g1 b a3 hb; omega
    · intro e; have h1 := hgb b hb; have h2 := hold j2 g2 b b3 e; omega
    · omega
  · rcases gcase j h hh with ⟨a1, a3⟩ | ⟨a1, rfl⟩
    · exact hi.new j h b a3 hb
    · have hsz : b < w.heap.size := by
        match h, ho, hb with
        | .arr b' c, ⟨_, ⟨vs, E, a1, _⟩, _⟩, hb => injection hb with hb; subst hb; exact (Array.getElem?_eq_some_iff.1 a1).1
      exact ⟨fun hBb => by have h1 := hB b hBb; have h2 := hgb b hb; omega, hsz⟩
  · rw [List.getElem?_append_right (by omega)] at e2
    simp at e2
    obtain ⟨rfl, rfl⟩ := e2
    refine ⟨Nat.le_refl _, hw', fun _ => ⟨g', ?_, ?_⟩⟩
    · rw [List.getElem?_append_right (by rw [hi.len]; omega)]; simp [hi.len]
    · match g', ho with
      | .none, ⟨h0, ha⟩ => exact ha
      | .arr b c, ⟨h0, _⟩ => exact h0
/-- Behind a call that took a row over. -/
theorem takeover (hi : Inv B R γ L w) {t n k n' : Nat} {g g' : Gh} {R' : PH} {w' : World} {es' : List (List AC)} {v' : Value} (hL : L[t]? = some (.spare n k)) (hg : γ[t]? = some g) (he : Ext (fun b => b < w.heap.size ∧ g.block ≠ some b) R R' w w')
    (hv : ∀ b o u, R' b o = some u → w'.cell? ⟨b, o, none⟩ = some u) (hp : PRep R' v' (.lst es')) (hw' : ∀ e ∈ es', e.length = k) (ho : OwnV R' w' es' k v' g') (hgb : ∀ b, g'.block = some b → w.heap.size ≤ b ∨ g.block = some b) (hn : es'.length = n') :
    ∃ γ', Inv B R' γ' (L.set t .dead ++ [.spare n' k]) w' ∧ Ext B R R' w w' ∧ Mv R R' γ γ' L (L.set t .dead ++ [.spare n' k]) ∧ (SV.own es' L.length).rep R' γ' (L.set t .dead ++ [.spare n' k]) v' := by
  subst hn
  have hlt : t < L.length := (List.getElem?_eq_some_iff.1 hL).1
  have hltg : t < γ.length := by rw [hi.len]; exact hlt
  have hgnb : g ≠ .none → ∀ b, g.block = some b → b < w.heap.size ∧ ¬ B b := fun _ b hb => ⟨(hi.new t g b hg hb).2, (hi.new t g b hg hb).1⟩
  have gcase : ∀ j h, (γ.set t Gh.none ++ [g'])[j]? = some h → (j = t ∧ h = .none) ∨ (j < γ.length ∧ j ≠ t ∧ γ[j]? = some h) ∨ (j = γ.length ∧ h = g') := by
    intro j h hh
    by_cases hj : j < γ.length
    · rw [List.getElem?_append_left (by simpa using hj)] at hh
      by_cases hjt : j = t
      · subst hjt; rw [List.getElem?_set_self hltg] at hh; injection hh with hh; exact .inl ⟨rfl, hh.symm⟩
      · rw [List.getElem?_set_ne (Ne.symm hjt)] at hh; exact .inr (.inl ⟨hj, hjt, hh⟩)
    · have : j = γ.length := by have := (List.getElem?_eq_some_iff.1 hh).1; simp at this; omega
      subst this
      rw [List.getElem?_append_right (by simp)] at hh
      simp at hh
      exact .inr (.inr ⟨rfl, hh.symm⟩)
  have hm : Mv R R' γ (γ.set t .none ++ [g']) L (L.set t .dead ++ [.spare es'.length k]) := by
    refine ⟨he.sub, by simp, fun t' n' k' hlt' h => ?_, fun t' ver es0 k' hlt' h => ?_, fun id b h => ?_⟩
    · rw [List.getElem?_append_left (by simpa using hlt')] at h
      by_cases htt : t' = t
      · subst htt; rw [List.getElem?_set_self hlt] at h; cases h
      · rw [List.getElem?_set_ne (Ne.symm htt)] at h
        exact ⟨n', h, Nat.le_refl _, fun _ => by rw [List.getElem?_append_left (by simp; rw [hi.len]; exact hlt'), List.getElem?_set_ne (Ne.symm htt)]⟩
    · rw [List.getElem?_append_left (by simpa using hlt')] at h
      by_cases htt : t' = t
      · subst htt; rw [List.getElem?_set_self hlt] at h; cases h
      · rw [List.getElem?_set_ne (Ne.symm htt)] at h
        exact ⟨ver, es0, h, Nat.le_refl _, fun _ => ⟨rfl, by rw [List.getElem?_append_left (by simp; rw [hi.len]; exact hlt'), List.getElem?_set_ne (Ne.symm htt)]⟩⟩
    · have hne : id ≠ t := by
        rintro rfl
        exact hi.obj id _ _ hL h
      rw [List.getElem?_append_left (by simp; exact (List.getElem?_eq_some_iff.1 h).1), List.getElem?_set_ne (Ne.symm hne)]; exact h
  have keep : ∀ j h b, j ≠ t → γ[j]? = some h → h.block = some b → b < w.heap.size ∧ g.block ≠ some b := fun j h b hne hh hb => ⟨(hi.new j h b hh hb).2, hi.inj j t h g hh hg hne b hb⟩
  refine ⟨γ.set t .none ++ [g'], ⟨by simp [hi.len], hv, fun id x h hx hh => ?_, fun j1 j2 g1 g2 h1 h2 hne b hb => ?_, fun j h b hh hb => ?_, fun b hb => Nat.lt_of_lt_of_le (hi.bsz b hb) he.below.size⟩, ?_, hm, hp, by simp, fun n2 k2 e2 => ?_⟩
  · rcases gcase id h hh with ⟨rfl, rfl⟩ | ⟨hj, hne, hh'⟩ | ⟨rfl, rfl⟩
    · rw [List.getElem?_append_left (by simpa using hlt), List.getElem?_set_self hlt] at hx
      injection hx with hx; subst hx; trivial
    · rw [List.getElem?_append_left (by simp; rw [← hi.len]; exact hj), List.getElem?_set_ne (Ne.symm hne)] at hx
      exact (hi.obj id x h hx hh').mv hm (fun b hb => he.below.block b (keep id h b hne hh' hb)) (fun b o hb e => by rw [he.old b o (keep id h b hne hh' hb)]; exact e)
    · rw [List.getElem?_append_right (by simp [hi.len])] at hx
      simp [hi.len] at hx; subst hx
      match h, ho with
      | .none, ⟨h0, _⟩ => rw [h0]; rfl
      | .arr b c, ⟨_, ⟨vs, E, a1, a2⟩, a3, a4, a5⟩ => exact ⟨⟨vs, E, a1, a2⟩, a3, a4, a5⟩
  · rcases gcase j1 g1 h1 with ⟨_, rfl⟩ | ⟨a1, a2, a3⟩ | ⟨a1, rfl⟩
    · cases hb
    · rcases gcase j2 g2 h2 with ⟨_, rfl⟩ | ⟨b1, b2, b3⟩ | ⟨b1, rfl⟩
      · intro e; cases e
      · exact hi.inj j1 j2 g1 g2 a3 b3 hne b hb
      · intro e
        rcases hgb b e with h | h
        · have := (hi.new j1 g1 b a3 hb).2; omega
        · exact (keep j1 g1 b a2 a3 hb).2 h
    · rcases gcase j2 g2 h2 with ⟨_, rfl⟩ | ⟨b1, b2, b3⟩ | ⟨b1, rfl⟩
      · intro e; cases e
      · intro e
        rcases hgb b hb with h | h
        · have := (hi.new j2 g2 b b3 e).2; omega
        · exact (keep j2 g2 b b2 b3 e).2 h
      · omega
  · rcases gcase j h hh with ⟨_, rfl⟩ | ⟨a1, a2, a3⟩ | ⟨a1, rfl⟩
    · cases hb
    · have := hi.new j h b a3 hb
      exact ⟨this.1, Nat.lt_of_lt_of_le this.2 he.below.size⟩
    · have hsz : b < w'.heap.size := by
        match h, ho, hb with
        | .arr b' c, ⟨_, ⟨vs, E, a1, _⟩, _⟩, hb => injection hb with hb; subst hb; exact (Array.getElem?_eq_some_iff.1 a1).1
      refine ⟨fun hB => ?_, hsz⟩
      rcases hgb b hb with h' | h'
      · have := hi.bsz b hB; omega
      · exact (hi.new t g b hg h').1 hB
  · exact ⟨he.below.mono fun b hB => ⟨hi.bsz b hB, fun e => (hi.new t g b hg e).1 hB⟩, he.sub, fun b o hB => he.old b o ⟨hi.bsz b hB, fun e => (hi.new t g b hg e).1 hB⟩⟩
  · rw [List.getElem?_append_right (by simp)] at e2
    simp at e2
    obtain ⟨rfl, rfl⟩ := e2
    refine ⟨Nat.le_refl _, hw', fun _ => ⟨g', ?_, ?_⟩⟩
    · rw [List.getElem?_append_right (by simp [hi.len])]; simp [hi.len]
    · match g', ho with
      | .none, ⟨h0, ha⟩ => exact ha
      | .arr b c, ⟨h0, _⟩ => exact h0

theorem avs_rep {ρ : Operand → Option AV} {a : Act} (hρ : ∀ x v, ρ x = some v → v.rep R γ L (a.eval x)) : ∀ {xs : List Operand} {vs : List AV}, avs ρ xs = some vs → xs.length = vs.length ∧ ∀ (j : Nat) y v, xs[j]? = some y → vs[j]? = some v → v.rep R γ L (a.eval y)
  | [], vs, h => by injection h with h; subst h; exact ⟨rfl, fun j y v hy => by simp at hy⟩
  | x :: xs, vs, h => by
    unfold avs at h
    split at h
    · rename_i v0 vs0 h1 h2
      injection h with h; subst h
      obtain ⟨g1, g2⟩ := avs_rep hρ h2
      refine ⟨by simp [g1], fun j y v hy hv => ?_⟩
      cases j with
      | zero => simp at hy hv; subst hy hv; exact hρ _ _ h1
      | succ j => exact g2 j y v (by simpa using hy) (by simpa using hv)
    · cases h
/-- Such a call's function and values. -/
theorem callOpR_parts {ρ : Operand → Option AV} {a : Act} (hρ : ∀ x v, ρ x = some v → v.rep R γ L (a.eval x)) {op : Op} {g : FuncId} {as : List AV} (h : callOpR ti ρ op = some (g, as)) :
    ∃ f args ts caps, op = .call { callee := .value f, args, argTypes := ts } ∧ a.eval f = .func (.func g) #[] caps ∧ (args.map a.eval ++ caps).size = as.length ∧ ∀ (j : Nat) v p, (args.map a.eval ++ caps)[j]? = some v → as[j]? = some p → p.rep R γ L v := by
  have fin : ∀ (args : Array Operand) (vs : List AV) (caps : Array Value) (cs : List AV), avs ρ args.toList = some vs → caps.size = cs.length → (∀ (j : Nat) v p, caps[j]? = some v → cs[j]? = some p → p.rep R γ L v) →
      (args.map a.eval ++ caps).size = (vs ++ cs).length ∧ ∀ (j : Nat) v p, (args.map a.eval ++ caps)[j]? = some v → (vs ++ cs)[j]? = some p → p.rep R γ L v := by
    intro args vs caps cs hv hc hr
    obtain ⟨g1, g2⟩ := avs_rep hρ hv
    have g1' : args.size = vs.length := by simpa using g1
    refine ⟨by simp; omega, fun j v p hv hp => ?_⟩
    by_cases hj : j < vs.length
    · rw [List.getElem?_append_left hj] at hp
      rw [Array.getElem?_append_left (by simp; omega), Array.getElem?_map] at hv
      cases hq : args[j]? with
      | none => simp [hq] at hv
      | some y => rw [hq] at hv; simp only [Option.map_some, Option.some.injEq] at hv; subst hv; exact g2 j y p (by simpa using hq) hp
    · rw [List.getElem?_append_right (by omega)] at hp
      rw [Array.getElem?_append_right (by simp; omega)] at hv
      simp only [Array.size_map] at hv
      rw [g1'] at hv
      exact hr _ v p hv hp
  unfold callOpR at h
  split at h
  case h_2 => cases h
  rename_i f args ts
  split at h
  · rename_i g0 cs vs _ hf hv
    injection h with h; injection h with e1 e2; subst e1 e2
    have hfv := hρ _ _ hf
    generalize hev : a.eval f = fv at hfv
    cases hfv with
    | fn _ caps _ hs he =>
      refine ⟨f, args, ts, caps, rfl, hev, fin args vs caps _ hv (by simpa using hs) fun j v p h1 h2 => ?_⟩
      rw [List.getElem?_map] at h2
      cases hq : cs[j]? with
      | none => simp [hq] at h2
      | some y => simp [hq] at h2; subst h2; exact he j v y h1 hq
  · rename_i g0 caps vs _ hf hv
    injection h with h; injection h with e1 e2; subst e1 e2
    obtain ⟨us, h1, h2, h3⟩ := hρ _ _ hf
    refine ⟨f, args, ts, us, rfl, h1, fin args vs us _ hv (by simpa using h2) fun j v p q1 q2 => ?_⟩
    rw [List.getElem?_map] at q2
    cases hq : caps[j]? with
    | none => simp [hq] at q2
    | some y =>
      simp [hq] at q2; subst q2
      have := h3 j v y q1 hq
      cases y with
      | c y => exact this
      | ptr id off => exact this
  · cases h

theorem awOp_sound (hti : TIok P ti) (hi : Inv B R γ L w) {a : Act} {ρ : Operand → Option AV} (hρ : ∀ x v, ρ x = some v → v.rep R γ L (a.eval x)) {o : Oper} {K : AV → List Ob → Prop} {next : Act → World → Prop} {Q : Exit → Act → World → Prop}
    (h : awOp P ti ρ L K o.op)
    (hK : ∀ v L' R' γ' w' u, K v L' → Inv B R' γ' L' w' → Ext B R R' w w' → Mv R R' γ γ' L L' → v.rep R' γ' L' u → next (a.put o.dst u) w') : o.wp P a w next Q := by
  rcases h with ⟨v, φ, hp, hφ, hk⟩ | ⟨v, φ, hp, hφ, hk⟩ | ⟨v, L', φ, hp, hφ, hk⟩ | ⟨g, ps, r, hc, hP, hk⟩ | ⟨g, es, t, k, ps, es', hc, hLt, hP, hk⟩ | ⟨g, k, ps, es', hc, hP, hk⟩ | ⟨σ, g, L0, as, L1, r, hc, hF, hP, hk⟩ | ⟨v, L', _, hs, hk⟩
  · obtain ⟨u, w', R', h1, h2, h3, h4⟩ := pop_sound hti hi hρ hp hφ
    unfold Oper.wp
    rw [h1]
    exact hK v L R' γ w' u hk h2 h3 (Mv.of_sub h3.sub) h4
  · obtain ⟨u, w', R', h1, h2, h3, h4⟩ := litOp_sound hti hi hρ hp hφ
    unfold Oper.wp
    rw [h1]
    exact hK v L R' γ w' u hk h2 h3 (Mv.of_sub h3.sub) h4
  · obtain ⟨w', R', γ', h1, h2, h3, h4⟩ := lop_sound hti hi hρ hp hφ
    unfold Oper.wp
    rcases h1 with ⟨u, h1, h5⟩ | ⟨h1, rfl⟩
    · rw [h1]
      exact hK v L' R' γ' w' u hk h2 h3 h4 h5
    · rw [h1]
      exact hK .undef L' R' γ' w' Go.undef hk h2 h3 h4 rfl
  · obtain ⟨dst, op, type, pos, after, guard⟩ := o
    simp only at hc hK
    unfold callOp at hc
    split at hc
    · rename_i f args argTypes
      split at hc
      · rename_i g0 cs hf
        cases hps : normArgs ρ args.toList with
        | none => simp [hps] at hc
        | some ps0 =>
          rw [hps] at hc
          injection hc with hc; injection hc with e1 e2; subst e1 e2
          obtain ⟨⟨fn, hfn, hbody, hname⟩, hcall⟩ := hP
          have hfv := hρ _ _ hf
          generalize hev : a.eval f = fv at hfv
          cases hfv with
          | fn _ caps _ hs he =>
            obtain ⟨g1, g2⟩ := normArgs_rep hρ hps
            have hr : (execOp a.eval { dst, op := .call { callee := .value f, args, argTypes }, type, pos, after, guard }).run P w = .ok (.enter g0 (args.map a.eval ++ caps)) w := by
              have hb : fn.body.isNone = false := by cases hbb : fn.body <;> simp_all
              simp only [execOp, resolve, hev, Deferred.ofValue, Sem.run_bind, Sem.run_pure, Result.andThen_ok, invoke, callFunc, program, Sem.run]
              simp [hfn, hname, hb]
            unfold Oper.wp
            rw [hr]
            refine (hcall R w (args.map a.eval ++ caps) hi.val (by simp [hs]; simpa using g1) (fun j v p hv hp => ?_)).mono (fun e w' hh => ?_)
            · by_cases hj : j < ps0.length
              · rw [List.getElem?_append_left hj] at hp
                rw [Array.getElem?_append_left (by simp; have := g1; simp at this; omega), Array.getElem?_map] at hv
                cases hq : args[j]? with
                | none => simp [hq] at hv
                | some y =>
                  rw [hq] at hv; simp only [Option.map_some, Option.some.injEq] at hv; subst hv
                  exact g2 j y p (by simpa using hq) hp
              · have hg1 : args.size = ps0.length := by simpa using g1
                rw [List.getElem?_append_right (by omega), List.getElem?_map] at hp
                rw [Array.getElem?_append_right (by simp; omega)] at hv
                simp only [Array.size_map] at hv
                rw [hg1] at hv
                cases hq : cs[j - ps0.length]? with
                | none => simp [hq] at hp
                | some y =>
                  rw [hq] at hp; simp only [Option.map_some, Option.some.injEq] at hp; subst hp
                  exact he _ v y hv hq
            · obtain ⟨v, R', rfl, h1, h2, h3⟩ := hh
              obtain ⟨i1, i2⟩ := hi.later h1 h2
              exact hK r.av L R' γ w' v hk i1 i2 (Mv.of_sub h1.sub) (CV.av_rep h3)
      · cases hc
    · cases hc
  · obtain ⟨dst, op, type, pos, after, guard⟩ := o
    simp only at hc hK
    obtain ⟨args, argTypes, x, xs, rfl, hxs, hx, hps⟩ := callOpO_parts hc
    obtain ⟨⟨fn, hfn, hbody, hname⟩, hcall⟩ := hP
    obtain ⟨g1, g2⟩ := normArgs_rep hρ hps
    have hxv := hρ _ _ hx
    obtain ⟨hpv, hlt, hall⟩ := hxv
    obtain ⟨_, hwide, hlink⟩ := hall _ _ hLt
    obtain ⟨gh, hgh, hlk⟩ := hlink rfl
    have hob := hi.obj t _ _ hLt hgh
    have hown : OwnV R w es k (a.eval x) gh := by
      match gh, hlk, hob with
      | .none, hlk, hob => exact ⟨List.eq_nil_of_length_eq_zero hob, hlk⟩
      | .arr b c, hlk, ⟨a1, a2, a3, a4⟩ => exact ⟨hlk, a1, a2, a3, a4⟩
    have hr := run_enter (P := P) (w := w) (a := a) (dst := dst) (type := type) (pos := pos) (after := after) (guard := guard) (args := args) (argTypes := argTypes) hfn hbody hname
    unfold Oper.wp
    rw [hr]
    have hargs : args.map a.eval = #[a.eval x] ++ (xs.map a.eval).toArray := by
      cases args; simp at hxs; subst hxs; simp
    rw [hargs]
    refine (hcall R w (a.eval x) (xs.map a.eval).toArray gh hi.val hpv hwide hown (by simpa using g1) (fun j v p hv hp => ?_)).mono (fun e w' hh => ?_)
    · simp only [List.getElem?_toArray, List.getElem?_map] at hv
      cases hq : xs[j]? with
      | none => simp [hq] at hv
      | some y => rw [hq] at hv; simp only [Option.map_some, Option.some.injEq] at hv; subst hv; exact g2 j y p hq hp
    · obtain ⟨v', R', g', rfl, h1, h2, h3, h4, h5, h6⟩ := hh
      obtain ⟨γ', i1, i2, i3, i4⟩ := takeover hi hLt hgh h1 h2 h3 h4 h5 h6 rfl
      exact hK _ _ R' γ' w' v' hk i1 i2 i3 i4
  · obtain ⟨dst, op, type, pos, after, guard⟩ := o
    simp only at hc hK
    obtain ⟨args, argTypes, x, xs, rfl, hxs, hx, hps⟩ := callOpO_parts' hc
    obtain ⟨⟨fn, hfn, hbody, hname⟩, hcall⟩ := hP
    -- the slice without room gets a token first
    have hi1 := hi.tok k
    have hm1 : Mv R R γ (γ ++ [.none]) L (L ++ [.spare 0 k]) := Mv.push _ _ hi.len
    obtain ⟨g1, g2⟩ := normArgs_rep hρ hps
    obtain ⟨ad, hxv⟩ := hρ _ _ hx
    have hr := run_enter (P := P) (w := w) (a := a) (dst := dst) (type := type) (pos := pos) (after := after) (guard := guard) (args := args) (argTypes := argTypes) hfn hbody hname
    unfold Oper.wp
    rw [hr]
    have hargs : args.map a.eval = #[a.eval x] ++ (xs.map a.eval).toArray := by
      cases args; simp at hxs; subst hxs; simp
    rw [hargs]
    refine (hcall R w (a.eval x) (xs.map a.eval).toArray .none hi.val (by rw [hxv]; exact prep_nil _ _ _) (by simp) ⟨rfl, ad, hxv⟩ (by simpa using g1) (fun j v p hv hp => ?_)).mono (fun e w' hh => ?_)
    · simp only [List.getElem?_toArray, List.getElem?_map] at hv
      cases hq : xs[j]? with
      | none => simp [hq] at hv
      | some y => rw [hq] at hv; simp only [Option.map_some, Option.some.injEq] at hv; subst hv; exact g2 j y p hq hp
    · obtain ⟨v', R', g', rfl, h1, h2, h3, h4, h5, h6⟩ := hh
      have hE : Ext (· < w.heap.size) R R' w w' := ⟨h1.below.mono fun b hb => ⟨hb, by intro e; cases e⟩, h1.sub, fun b o hb => h1.old b o ⟨hb, by intro e; cases e⟩⟩
      obtain ⟨j1, j2⟩ := hi.later hE h2
      obtain ⟨γ', i1, i2, i3⟩ := give (n' := es'.length) j1 (hB := fun b hb => Nat.lt_of_lt_of_le (hi.bsz b hb) (Nat.le_refl _)) (s := w.heap.size) (fun i h b hh hb => (hi.new i h b hh hb).2) h3 h4 h5 (fun b hb => (h6 b hb).resolve_right (by intro e; cases e)) rfl
      exact hK _ _ R' γ' w' v' hk i1 j2 ((Mv.of_sub h1.sub).trans i2) i3

  · obtain ⟨dst, op, type, pos, after, guard⟩ := o
    simp only at hc hK
    obtain ⟨f, args, ts, caps, rfl, hev, hsz, hrep⟩ := callOpR_parts hρ hc
    obtain ⟨⟨fn, hfn, hbody, hname⟩, hcall⟩ := hP
    have hr : (execOp a.eval { dst, op := .call { callee := .value f, args, argTypes := ts }, type, pos, after, guard }).run P w = .ok (.enter g (args.map a.eval ++ caps)) w := by
      have hb : fn.body.isNone = false := by cases hbb : fn.body <;> simp_all
      simp only [execOp, resolve, hev, Deferred.ofValue, Sem.run_bind, Sem.run_pure, Result.andThen_ok, invoke, callFunc, program, Sem.run]
      simp [hfn, hname, hb]
    unfold Oper.wp
    rw [hr]
    have hemb := emb_in hi hF.len hF.ob
    have hinj : ∀ i j, i < L0.length → j < L0.length → rid σ i = rid σ j → i = j := by
      intro i j hi1 hj1 e
      have h1 := rid_at (σ := σ) (i := i) (by rw [hF.len]; exact hi1)
      have h2 := rid_at (σ := σ) (i := j) (by rw [hF.len]; exact hj1)
      rw [← e] at h2
      exact nodup_get hF.nd h1 h2
    refine (hcall _ R (subG σ γ) w (args.map a.eval ++ caps) (frame_in hi hemb hinj hF.obb) (by simpa using hsz) (fun j v p hv hp => ?_)).mono (fun e w' hh => ?_)
    · exact AV.down hemb (hrep j v _ hv (by rw [List.getElem?_map, hp]; rfl)) (hF.argb p (List.mem_of_getElem? hp))
    · obtain ⟨v, R', γ1, rfl, h1, h2, h3, h4⟩ := hh
      obtain ⟨i1, i2, i3, i4⟩ := frame_join hi hF.len hF.nd hF.ob h1 h2 h3
      exact hK _ _ R' _ w' v hk i1 i2 i3 (AV.up i4 h4)
  · obtain ⟨w', R', γ', h1, h2, h3, h4⟩ := hs B R γ w a.eval o rfl hi (fun x _ => hρ x) ⟨fun _ => rfl, fun _ => rfl⟩
    unfold Oper.wp
    rcases h1 with ⟨u, h1, h5⟩ | ⟨h1, rfl⟩
    · rw [h1]
      exact hK v L' R' γ' w' u hk h2 h3 h4 h5
    · rw [h1]
      exact hK .undef L' R' γ' w' Go.undef hk h2 h3 h4 rfl

theorem trep_put {T : Tm} {a : Act} (hT : TRep N R γ L T a) {d : Option Tmp} {v : AV} {u : Value} (hd : dOK N d) (hv : v.rep R γ L u) : TRep N R γ L (putT T d v) (a.put d u) := by
  cases d with
  | none => exact hT
  | some d =>
    have hd' : d < N := hd
    refine ⟨by simp [Act.put, hT.size], hT.defers, fun t x h => ?_⟩
    simp only [putT, List.lookup_cons] at h
    by_cases htd : t = d
    · subst htd
      simp at h; subst h
      exact ⟨u, by simp only [Act.put]; exact Array.getElem?_setIfInBounds_self_of_lt (by rw [hT.size]; exact hd'), hv⟩
    · have : (t == d) = false := by simpa using htd
      rw [this] at h
      obtain ⟨u', h1, h2⟩ := hT.slot t x h
      exact ⟨u', by simp only [Act.put]; rw [Array.getElem?_setIfInBounds_ne (Ne.symm htd)]; exact h1, h2⟩

theorem gd_sound {ops : Array Oper} {ds : List (Option Tmp)} (hds : ∀ j : Nat, (ops[j]?).map (·.dst) = ds[j]?) {T : Tm} {a : Act} (hT : TRep N R γ L T a) {o : Oper} {A B' : Prop} (h : gd ds T A B' o.guard) :
    (Region.wanted o (yielded ops a.tmps) = true ∧ A) ∨ (Region.wanted o (yielded ops a.tmps) = false ∧ B') := by
  cases hg : o.guard with
  | none =>
    rw [hg] at h
    exact .inl ⟨by simp [Region.wanted, hg], h⟩
  | some p =>
    obtain ⟨j, want⟩ := p
    rw [hg] at h
    simp only [gd] at h
    split at h
    · rename_i d hd
      have hd' : (ops[j]?).bind (·.dst) = some d := by
        have := hds j
        rw [hd] at this
        cases ho : ops[j]? with
        | none => simp [ho] at this
        | some o' => simpa [ho] using this
      split at h
      · rename_i b hb
        obtain ⟨u, h1, h2⟩ := hT.slot d _ hb
        cases h2
        have hy : yielded ops a.tmps j = some b := by simp [yielded, hd', h1]
        by_cases hbw : b = want
        · exact .inl ⟨by simp [Region.wanted, hg, hy, hbw], h.1 hbw⟩
        · exact .inr ⟨by simp [Region.wanted, hg, hy, hbw], h.2 (by cases b <;> cases want <;> simp_all)⟩
      · rename_i hb
        obtain ⟨u, h1, h2⟩ := hT.slot d _ hb
        have h2' : u = Go.undef := h2
        subst h2'
        have hy : yielded ops a.tmps j = none := by simp [yielded, hd', h1, Go.undef]
        exact .inr ⟨by simp [Region.wanted, hg, hy], h⟩
      · exact h.elim
    · exact h.elim

theorem awOps_sound (hti : TIok P ti) {ops : Array Oper} {ds : List (Option Tmp)} (hds : ∀ j : Nat, (ops[j]?).map (·.dst) = ds[j]?) {K : Tm → List Ob → Prop} {Q : Exit → Act → World → Prop} : ∀ (l : List Oper) (R : PH) (γ : List Gh) (L : List Ob) (T : Tm) (a : Act) (w : World), awOps P ti N ds K l T L → Inv B R γ L w → TRep N R γ L T a →
    (∀ T' L' R' γ' w' a', K T' L' → Inv B R' γ' L' w' → TRep N R' γ' L' T' a' → Ext B R R' w w' → Mv R R' γ γ' L L' → Q .normal a' w') → wpList P ops Q l a w
  | [], R, γ, L, T, a, w, h, hi, hT, hQ => hQ T L R γ w a h hi hT (Ext.refl _ _ _) Mv.refl
  | o :: rest, R, γ, L, T, a, w, h, hi, hT, hQ => by
    obtain ⟨hd, hg⟩ := h
    unfold wpList
    rcases gd_sound hds hT hg with ⟨hw, hA⟩ | ⟨hw, hB⟩
    · rw [if_pos hw]
      refine .inl (awOp_sound hti hi (fun x v hx => look_rep hT hx) hA fun v L' R' γ' w' u hk h1 h2 h3 h4 => ?_)
      exact awOps_sound hti hds rest R' γ' L' _ _ w' hk h1 (trep_put (hT.mv h3) hd h4) fun T2 L2 R2 γ2 w2 a2 k1 k2 k3 k4 k5 => hQ T2 L2 R2 γ2 w2 a2 k1 k2 k3 (h2.trans k4) (h3.trans k5)
    · rw [if_neg (by rw [hw]; decide)]
      exact awOps_sound hti hds rest R γ L _ _ w hB hi (trep_put hT hd rfl) hQ
end
end Go.Proofs.YtnbnpnmkgemdeaaGreatDoor
