/- A reading of memory as trees: values, and the operations that turn nothing. No condition. -/
import Derived.WalkKit
import Derived.Orders
import Derived.Deep.MidRow
import Derived.Deep.AppendSrc
import Derived.Great.BuildSlice
namespace Go.Proofs.Ytllenmkmompjpaa

section
open Go.RowKit

/-- One cell that reads as a tree and does not turn. -/
inductive AC where
  | bool (b : Bool)
  | int (k : IntKind) (n : Int)
  | str (s : ByteArray)
  | lst (es : List (List AC))
  | ref (cs : List AC)
  | fn (f : FuncId) (caps : List AC)
  deriving Inhabited

/-- The cells that do not turn, with what they hold. -/
abbrev PH := Nat → Nat → Option Value
def PH.sub (R R' : PH) : Prop := ∀ b o u, R b o = some u → R' b o = some u
theorem PH.sub_refl (R : PH) : PH.sub R R := fun _ _ _ h => h
theorem PH.sub_trans {R R' R'' : PH} (h : PH.sub R R') (g : PH.sub R' R'') : PH.sub R R'' := fun b o u e => g b o u (h b o u e)

inductive PRep (R : PH) : Value → AC → Prop
  | bool (b : Bool) : PRep R (.bool b) (.bool b)
  | int (k : IntKind) (n : Int) : PRep R (.int k n) (.int k n)
  | str (s : ByteArray) : PRep R (.string s) (.str s)
  | lst (a : Option Addr) (n c : Nat) (es : List (List AC)) (k : Nat) (cv : Nat → Value) (b o : Nat) (hn : es.length = n) (hc : n ≤ c)
      (hk : ∀ e ∈ es, e.length = k) (ha : 0 < n → a = some ⟨b, o, none⟩) (hr : ∀ j, j < n * k → R b (o + j) = some (cv j))
      (he : ∀ (i : Nat) e (j : Nat) x, es[i]? = some e → e[j]? = some x → PRep R (cv (i * k + j)) x) : PRep R (.slice a n c) (.lst es)
  | ref (b o : Nat) (cs : List AC) (cv : Nat → Value) (hr : ∀ j, j < cs.length → R b (o + j) = some (cv j))
      (he : ∀ (j : Nat) x, cs[j]? = some x → PRep R (cv j) x) : PRep R (.pointer (some ⟨b, o, none⟩)) (.ref cs)
  | fn (f : FuncId) (caps : Array Value) (cs : List AC) (hs : caps.size = cs.length)
      (he : ∀ (j : Nat) v x, caps[j]? = some v → cs[j]? = some x → PRep R v x) : PRep R (.func (.func f) #[] caps) (.fn f cs)

theorem PRep.mono {R R' : PH} (h : PH.sub R R') : ∀ {v x}, PRep R v x → PRep R' v x := by
  intro v x hx
  induction hx with
  | bool b => exact .bool b
  | int k n => exact .int k n
  | str s => exact .str s
  | lst a n c es k cv b o hn hc hk ha hr _ ih => exact .lst a n c es k cv b o hn hc hk ha (fun j hj => h _ _ _ (hr j hj)) ih
  | ref b o cs cv hr _ ih => exact .ref b o cs cv (fun j hj => h _ _ _ (hr j hj)) ih
  | fn f caps cs hs _ ih => exact .fn f caps cs hs ih

/-- A value of a slot, of one cell: a tree; a slice without room; a slice whose spare room is the function's own; a pointer to a variable of the function. -/
inductive SV where
  | c (x : AC)
  | emp
  | own (es : List (List AC)) (t : Nat)
  | ptr (id off : Nat)
  deriving Inhabited

inductive PV where
  | one (x : AC)
  | agg (xs : List AC)
  deriving Inhabited

inductive CV where
  | val (p : PV)
  | tup (ps : List PV)
  deriving Inhabited

inductive AV where
  | one (x : SV)
  | agg (xs : List SV)
  | tup (ps : List PV)
  | undef
  deriving Inhabited

/-- An object of the running function: a variable in memory; the right to append to a row of n elements. -/
inductive Ob where
  | box (cs : List SV)
  | spare (n k : Nat)
  | dead
  deriving Inhabited

/-- Where it lies. -/
inductive Gh where
  | none
  | box (b : Nat)
  | arr (b c : Nat)

def Gh.block : Gh → Option Nat
  | .none => Option.none
  | .box b => some b
  | .arr b _ => some b

def Link (n : Nat) (v : Value) : Gh → Prop
  | .none => ∃ a, v = .slice a 0 0
  | .arr b c => v = .slice (some ⟨b, 0, Option.none⟩) n c
  | .box _ => False

def SV.rep (R : PH) (γ : List Gh) (L : List Ob) : SV → Value → Prop
  | .c x, v => PRep R v x
  | .emp, v => ∃ a, v = .slice a 0 0
  | .own es t, v => PRep R v (.lst es) ∧ t < L.length ∧ ∀ n k, L[t]? = some (.spare n k) → es.length ≤ n ∧ (∀ e ∈ es, e.length = k) ∧ (es.length = n → ∃ g, γ[t]? = some g ∧ Link n v g)
  | .ptr id off, v => ∃ b, v = .pointer (some ⟨b, off, none⟩) ∧ γ[id]? = some (.box b)

def PV.rep (R : PH) : PV → Value → Prop
  | .one x, v => PRep R v x
  | .agg xs, v => ∃ vs : Array Value, v = .agg vs ∧ vs.size = xs.length ∧ ∀ (j : Nat) u x, vs[j]? = some u → xs[j]? = some x → PRep R u x

def CV.rep (R : PH) : CV → Value → Prop
  | .val p, v => p.rep R v
  | .tup ps, v => ∃ vs : Array Value, v = .tuple vs ∧ vs.size = ps.length ∧ ∀ (j : Nat) u p, vs[j]? = some u → ps[j]? = some p → p.rep R u

def AV.rep (R : PH) (γ : List Gh) (L : List Ob) : AV → Value → Prop
  | .one x, v => x.rep R γ L v
  | .agg xs, v => ∃ vs : Array Value, v = .agg vs ∧ vs.size = xs.length ∧ ∀ (j : Nat) u x, vs[j]? = some u → xs[j]? = some x → x.rep R γ L u
  | .tup ps, v => ∃ vs : Array Value, v = .tuple vs ∧ vs.size = ps.length ∧ ∀ (j : Nat) u p, vs[j]? = some u → ps[j]? = some p → p.rep R u
  | .undef, v => v = Go.undef

def ObjOK (R : PH) (γ : List Gh) (L : List Ob) (w : World) : Ob → Gh → Prop
  | .box cs, .box b => (∃ vs E, w.heap[b]? = some (.cells vs E (0, 0)) ∧ vs.size = cs.length ∧ ∀ (j : Nat) u x, vs[j]? = some u → cs[j]? = some x → x.rep R γ L u) ∧ ∀ o, R b o = none
  | .spare n k, .arr b c => (∃ vs E, w.heap[b]? = some (.cells vs E (0, 0)) ∧ vs.size = c * k) ∧ n ≤ c ∧ 0 < k ∧ ∀ o, n * k ≤ o → R b o = none
  | .spare n _, .none => n = 0
  | .dead, .none => True
  | _, _ => False

structure Inv (B : Nat → Prop) (R : PH) (γ : List Gh) (L : List Ob) (w : World) : Prop where
  len : γ.length = L.length
  val : ∀ b o u, R b o = some u → w.cell? ⟨b, o, none⟩ = some u
  obj : ∀ (id : Nat) x g, L[id]? = some x → γ[id]? = some g → ObjOK R γ L w x g
  inj : ∀ (i j : Nat) gi gj, γ[i]? = some gi → γ[j]? = some gj → i ≠ j → ∀ b, gi.block = some b → gj.block ≠ some b
  new : ∀ (i : Nat) g b, γ[i]? = some g → g.block = some b → ¬ B b ∧ b < w.heap.size
  bsz : ∀ b, B b → b < w.heap.size

/-- The slots that are known. -/
abbrev Tm := List (Nat × AV)
structure TRep (N : Nat) (R : PH) (γ : List Gh) (L : List Ob) (T : Tm) (a : Act) : Prop where
  size : a.tmps.size = N
  defers : a.defers = []
  slot : ∀ (t : Nat) x, T.lookup t = some x → ∃ u, a.tmps[t]? = some u ∧ x.rep R γ L u

/-- The blocks of B are as they were. -/
structure Kept (B : Nat → Prop) (w w' : World) : Prop where
  os : w'.os = w.os
  tape : w'.tape = w.tape
  output : w'.output = w.output
  size : w.heap.size ≤ w'.heap.size
  block : ∀ b, B b → w'.heap[b]? = w.heap[b]?
theorem Kept.refl (B : Nat → Prop) (w : World) : Kept B w w := ⟨rfl, rfl, rfl, Nat.le_refl _, fun _ _ => rfl⟩
theorem Kept.trans {B : Nat → Prop} {a b c : World} (h : Kept B a b) (k : Kept B b c) : Kept B a c :=
  ⟨k.os.trans h.os, k.tape.trans h.tape, k.output.trans h.output, Nat.le_trans h.size k.size, fun i hi => (k.block i hi).trans (h.block i hi)⟩
theorem Kept.mono {B B' : Nat → Prop} {w w' : World} (h : Kept B w w') (hB : ∀ b, B' b → B b) : Kept B' w w' := ⟨h.os, h.tape, h.output, h.size, fun k hk => h.block k (hB k hk)⟩
theorem Kept.below {n : Nat} {w w' : World} (h : Kept (· < n) w w') : Below n w w' := ⟨h.os, h.tape, h.output, h.size, h.block⟩
theorem Kept.of {n : Nat} {w w' : World} (h : Below n w w') : Kept (· < n) w w' := ⟨h.os, h.tape, h.output, h.size, h.block⟩
/-- What may have come between. -/
structure Ext (B : Nat → Prop) (R R' : PH) (w w' : World) : Prop where
  below : Kept B w w'
  sub : PH.sub R R'
  old : ∀ b o, B b → R' b o = R b o
theorem Ext.refl (B : Nat → Prop) (R : PH) (w : World) : Ext B R R w w := ⟨Kept.refl _ _, PH.sub_refl _, fun _ _ _ => rfl⟩
theorem Ext.trans {B : Nat → Prop} {R R' R'' : PH} {w w' w'' : World} (h : Ext B R R' w w') (g : Ext B R' R'' w' w'') : Ext B R R'' w w'' :=
  ⟨h.below.trans g.below, PH.sub_trans h.sub g.sub, fun b o hb => (g.old b o hb).trans (h.old b o hb)⟩

theorem lt_of_cell {w : World} {b o : Nat} {u : Value} (h : w.cell? ⟨b, o, none⟩ = some u) : b < w.heap.size := by
  unfold World.cell? at h
  simp only at h
  split at h
  · rename_i hb; exact (Array.getElem?_eq_some_iff.1 hb).1
  · cases h

/-- Moving on: trees stay; the objects' places may move only for tokens that have grown. -/
structure Mv (R R' : PH) (γ γ' : List Gh) (L L' : List Ob) : Prop where
  sub : PH.sub R R'
  len : L.length ≤ L'.length
  tok : ∀ (t : Nat) n' k, t < L.length → L'[t]? = some (.spare n' k) → ∃ n, L[t]? = some (.spare n k) ∧ n ≤ n' ∧ (n = n' → γ'[t]? = γ[t]?)
  ptr : ∀ (id : Nat) b, γ[id]? = some (.box b) → γ'[id]? = some (.box b)

theorem SV.mv {R R' : PH} {γ γ' : List Gh} {L L' : List Ob} (h : Mv R R' γ γ' L L') : ∀ {x : SV} {v : Value}, x.rep R γ L v → x.rep R' γ' L' v
  | .c _, _, hx => PRep.mono h.sub hx
  | .emp, _, hx => hx
  | .own es t, v, ⟨h1, hlt, h2⟩ => by
    refine ⟨PRep.mono h.sub h1, Nat.lt_of_lt_of_le hlt h.len, fun n' k e => ?_⟩
    obtain ⟨n, g1, g2, g3⟩ := h.tok t n' k hlt e
    obtain ⟨h3, h5, h4⟩ := h2 n k g1
    refine ⟨by omega, h5, fun e => ?_⟩
    have : n = n' := by omega
    rw [g3 this, ← this]
    exact h4 (by omega)
  | .ptr id off, v, ⟨b, h1, h2⟩ => ⟨b, h1, h.ptr id b h2⟩

theorem PV.mono {R R' : PH} (h : PH.sub R R') : ∀ {p : PV} {v : Value}, p.rep R v → p.rep R' v
  | .one _, _, hx => PRep.mono h hx
  | .agg _, _, ⟨vs, h1, h2, h3⟩ => ⟨vs, h1, h2, fun j u x hu hx => PRep.mono h (h3 j u x hu hx)⟩
theorem CV.mono {R R' : PH} (h : PH.sub R R') : ∀ {p : CV} {v : Value}, p.rep R v → p.rep R' v
  | .val _, _, hx => PV.mono h hx
  | .tup _, _, ⟨vs, h1, h2, h3⟩ => ⟨vs, h1, h2, fun j u x hu hx => PV.mono h (h3 j u x hu hx)⟩
theorem AV.mv {R R' : PH} {γ γ' : List Gh} {L L' : List Ob} (h : Mv R R' γ γ' L L') : ∀ {x : AV} {v : Value}, x.rep R γ L v → x.rep R' γ' L' v
  | .one _, _, hx => SV.mv h hx
  | .agg _, _, ⟨vs, h1, h2, h3⟩ => ⟨vs, h1, h2, fun j u x hu hx => SV.mv h (h3 j u x hu hx)⟩
  | .tup _, _, ⟨vs, h1, h2, h3⟩ => ⟨vs, h1, h2, fun j u x hu hx => PV.mono h.sub (h3 j u x hu hx)⟩
  | .undef, _, hx => hx
theorem Mv.refl {R : PH} {γ : List Gh} {L : List Ob} : Mv R R γ γ L L := ⟨PH.sub_refl _, Nat.le_refl _, fun _ n _ _ h => ⟨n, h, Nat.le_refl _, fun _ => rfl⟩, fun _ _ h => h⟩
theorem Mv.of_sub {R R' : PH} {γ : List Gh} {L : List Ob} (h : PH.sub R R') : Mv R R' γ γ L L := ⟨h, Nat.le_refl _, fun _ n _ _ h => ⟨n, h, Nat.le_refl _, fun _ => rfl⟩, fun _ _ h => h⟩
theorem Mv.trans {R R' R'' : PH} {γ γ' γ'' : List Gh} {L L' L'' : List Ob} (h : Mv R R' γ γ' L L') (g : Mv R' R'' γ' γ'' L' L'') : Mv R R'' γ γ'' L L'' :=
  ⟨PH.sub_trans h.sub g.sub, Nat.le_trans h.len g.len, fun t n2 k hlt e => by
    obtain ⟨n1, b1, b2, b3⟩ := g.tok t n2 k (Nat.lt_of_lt_of_le hlt h.len) e
    obtain ⟨n, a1, a2, a3⟩ := h.tok t n1 k hlt b1
    exact ⟨n, a1, by omega, fun e => (b3 (by omega)).trans (a3 (by omega))⟩, fun id b e => g.ptr id b (h.ptr id b e)⟩
theorem TRep.mv {N : Nat} {R R' : PH} {γ γ' : List Gh} {L L' : List Ob} {T : Tm} {a : Act} (h : TRep N R γ L T a) (m : Mv R R' γ γ' L L') : TRep N R' γ' L' T a :=
  ⟨h.size, h.defers, fun t x e => let ⟨u, h1, h2⟩ := h.slot t x e; ⟨u, h1, AV.mv m h2⟩⟩

/-- The objects' own fact when only new persistent cells have come, outside their blocks. -/
theorem ObjOK.mv {R R' : PH} {γ γ' : List Gh} {L L' : List Ob} {w w' : World} {x : Ob} {g : Gh} (h : ObjOK R γ L w x g) (m : Mv R R' γ γ' L L')
    (hw : ∀ b, g.block = some b → w'.heap[b]? = w.heap[b]?) (hR : ∀ b o, g.block = some b → R b o = none → R' b o = none) : ObjOK R' γ' L' w' x g := by
  match x, g, h with
  | .box cs, .box b, ⟨⟨vs, E, h1, h2, h3⟩, h4⟩ => exact ⟨⟨vs, E, (hw b rfl).trans h1, h2, fun j u x hu hx => SV.mv m (h3 j u x hu hx)⟩, fun o => hR b o rfl (h4 o)⟩
  | .spare n k, .arr b c, ⟨⟨vs, E, h1, h2⟩, h3, h4, h5⟩ => exact ⟨⟨vs, E, (hw b rfl).trans h1, h2⟩, h3, h4, fun o ho => hR b o rfl (h5 o ho)⟩
  | .spare n k, .none, h => exact h
  | .dead, .none, h => exact h
end

section
open Go.RowKit

def tsize (P : Program) (t : TypeId) : Option Nat := (P.info? t).map (·.size)
def tagg (P : Program) (t : TypeId) : Option Bool :=
  match P.underlying t with
  | some (.struct _) => some true
  | some (.array _ _) => some true
  | some _ => some false
  | none => none
def telem (P : Program) (t : TypeId) : Option TypeId :=
  match P.underlying t with
  | some (.slice e) => some e
  | _ => none
def tfield (P : Program) (s : TypeId) (i : Nat) : Option (Nat × TypeId) :=
  match P.underlying s with
  | some (.struct fs) => (fs[i]?).map fun f => (f.offset, f.type)
  | _ => none

def SV.ofVal : Value → Option SV
  | .bool b => some (.c (.bool b))
  | .int k n => some (.c (.int k n))
  | .string s => some (.c (.str s))
  | .slice none 0 0 => some .emp
  | _ => none
def svs : List Value → Option (List SV)
  | [] => some []
  | v :: vs => match SV.ofVal v, svs vs with
    | some x, some xs => some (x :: xs)
    | _, _ => none
def AV.ofVal : Value → Option AV
  | .agg vs => (svs vs.toList).map .agg
  | v => (SV.ofVal v).map .one

inductive Sc where
  | int (k : IntKind)
  | bool
  | str
  deriving DecidableEq
/-- What the walk asks of types, as a table. -/
structure TI where
  size : Nat → Option Nat
  agg : Nat → Option Bool
  elem : Nat → Option Nat
  field : Nat → Nat → Option (Nat × Nat)
  zero : Nat → Option AV
  bytes : Nat → Option Nat
  kind : Nat → Option TypeDesc
  struct : Nat → Bool
  zok : Nat → Bool
  eqs : Nat → Option (List Sc)
  owns : Nat → Bool

def look (T : Tm) : Operand → Option AV
  | .tmp t => T.lookup t
  | .const v => AV.ofVal v
  | .global _ => none
  | .func f => some (.one (.c (.fn f [])))

def intOp (op : BinOp) (k : IntKind) (a b : Int) : Option (AC × Prop) :=
  match op with
  | .add => some (.int k (k.wrap (a + b)), True)
  | .sub => some (.int k (k.wrap (a - b)), True)
  | .mul => some (.int k (k.wrap (a * b)), True)
  | .quo => some (.int k (k.wrap (a.tdiv b)), b ≠ 0)
  | .rem => some (.int k (a.tmod b), b ≠ 0)
  | .eql => some (.bool (decide (a = b)), True)
  | .neq => some (.bool (decide (a ≠ b)), True)
  | .lss => some (.bool (decide (a < b)), True)
  | .leq => some (.bool (decide (a ≤ b)), True)
  | .gtr => some (.bool (decide (b < a)), True)
  | .geq => some (.bool (decide (b ≤ a)), True)
  | _ => none

def strOp (op : BinOp) (a b : ByteArray) : Option (AC × Prop) :=
  match op with
  | .add => some (.str (a ++ b), a.size + b.size ≤ 9223372036854775807)
  | .eql => some (.bool (a.toList == b.toList), True)
  | .neq => some (.bool (!(a.toList == b.toList)), True)
  | .lss => some (.bool (Op.bytesLess a.toList b.toList), True)
  | .leq => some (.bool (Op.bytesLess a.toList b.toList || a.toList == b.toList), True)
  | .gtr => some (.bool (!(Op.bytesLess a.toList b.toList || a.toList == b.toList)), True)
  | .geq => some (.bool (!Op.bytesLess a.toList b.toList), True)
  | _ => none

theorem prep_bool {R : PH} {a b : Bool} (h : a = b) : PRep R (.bool a) (.bool b) := by rw [h]; exact .bool b

theorem run_binOp_int {P : Program} {w : World} {op : BinOp} {t : TypeId} {x y : Operand} {k : IntKind} {a b : Int} {r : AC} {φ : Prop} (h : intOp op k a b = some (r, φ)) (hφ : φ) :
    ∃ u, ((do eqGuard op t x y (.int k a) (.int k b); binOp op t (.int k a) (.int k b) : Sem Value)).run P w = .ok u w ∧ ∀ R, PRep R u r := by
  cases op <;> first | (injection h with h; injection h with h1 h2; subst h1 h2) | (exact nomatch h)
  all_goals
    refine ⟨_, by simp (config := {decide := true}) [eqGuard, binOp, Op.intArith, Op.intDiv, Op.intCmp, go_sem, hφ]; rfl, fun R => ?_⟩
    first | constructor | (apply prep_bool; simp [bne]; rfl)
theorem run_binOp_str {P : Program} {w : World} {op : BinOp} {t : TypeId} {x y : Operand} {a b : ByteArray} {r : AC} {φ : Prop} (h : strOp op a b = some (r, φ)) (hφ : φ) :
    ∃ u, ((do eqGuard op t x y (.string a) (.string b); binOp op t (.string a) (.string b) : Sem Value)).run P w = .ok u w ∧ ∀ R, PRep R u r := by
  cases op <;> first | (injection h with h; injection h with h1 h2; subst h1 h2) | (exact nomatch h)
  case add =>
    refine ⟨.string (a ++ b), ?_, fun R => .str _⟩
    have : ¬ (((a.size + b.size : Nat) : Int) > IntKind.i64.max) := by
      show ¬ (((a.size + b.size : Nat) : Int) > 9223372036854775807)
      omega
    simp only [eqGuard, binOp, Op.stringOp, if_neg this]
    simp (config := {decide := true}) [go_sem]
  all_goals
    refine ⟨_, by simp (config := {decide := true}) [eqGuard, binOp, Op.stringOp, go_sem]; rfl, fun R => ?_⟩
    first | constructor | (apply prep_bool; simp)

/-- What a value is without its rights. -/
def SV.norm : SV → Option AC
  | .c x => some x
  | .emp => some (.lst [])
  | .own es _ => some (.lst es)
  | .ptr _ _ => none
def normL : List SV → Option (List AC)
  | [] => some []
  | x :: xs => match x.norm, normL xs with
    | some y, some ys => some (y :: ys)
    | _, _ => none
def AV.norm : AV → Option PV
  | .one x => x.norm.map .one
  | .agg xs => (normL xs).map .agg
  | _ => none
def AV.cells : AV → Option (List SV)
  | .one x => some [x]
  | .agg xs => some xs
  | _ => none
def PV.av : PV → AV
  | .one x => .one (.c x)
  | .agg xs => .agg (xs.map .c)
def CV.av : CV → AV
  | .val p => p.av
  | .tup ps => .tup ps

section
variable {P : Program} {B : Nat → Prop} {R : PH} {γ : List Gh} {L : List Ob} {w : World}

theorem prep_nil (R : PH) (a : Option Addr) (c : Nat) : PRep R (.slice a 0 c) (.lst []) :=
  .lst a 0 c [] 0 (fun _ => Go.undef) 0 0 rfl (Nat.zero_le _) (fun _ h => nomatch h) (fun h => absurd h (by omega)) (fun j hj => absurd hj (by omega)) (fun i e j x h => by simp at h)

theorem SV.norm_rep {x : SV} {v : Value} {y : AC} (h : x.rep R γ L v) (hy : x.norm = some y) : PRep R v y := by
  cases x with
  | c z => injection hy with hy; subst hy; exact h
  | emp => injection hy with hy; subst hy; obtain ⟨a, rfl⟩ := h; exact prep_nil _ _ _
  | own es t => injection hy with hy; subst hy; exact h.1
  | ptr id off => cases hy

theorem normL_len : ∀ {xs : List SV} {ys : List AC}, normL xs = some ys → ys.length = xs.length
  | [], ys, h => by injection h with h; subst h; rfl
  | x :: xs, ys, h => by
    unfold normL at h
    split at h
    · rename_i y zs h1 h2
      injection h with h; subst h
      simp [normL_len h2]
    · cases h
theorem normL_get : ∀ {xs : List SV} {ys : List AC}, normL xs = some ys → ∀ (j : Nat) x y, xs[j]? = some x → ys[j]? = some y → x.norm = some y
  | [], ys, h, j, x, y, hx, hy => by simp at hx
  | x0 :: xs, ys, h, j, x, y, hx, hy => by
    unfold normL at h
    split at h
    · rename_i y0 zs h1 h2
      injection h with h; subst h
      cases j with
      | zero => simp at hx hy; subst hx hy; exact h1
      | succ j => exact normL_get h2 j x y (by simpa using hx) (by simpa using hy)
    · cases h

theorem AV.norm_rep {x : AV} {v : Value} {y : PV} (h : x.rep R γ L v) (hy : x.norm = some y) : y.rep R v := by
  cases x with
  | one x =>
    cases hn : x.norm with
    | none => simp [AV.norm, hn] at hy
    | some z =>
      simp [AV.norm, hn] at hy
      subst hy
      exact SV.norm_rep h hn
  | agg xs =>
    cases hn : normL xs with
    | none => simp [AV.norm, hn] at hy
    | some zs =>
      simp [AV.norm, hn] at hy
      subst hy
      obtain ⟨vs, h1, h2, h3⟩ := h
      refine ⟨vs, h1, by rw [h2, normL_len hn], fun j u y hu hy => ?_⟩
      have hj : j < xs.length := by rw [← h2]; exact (Array.getElem?_eq_some_iff.1 hu).1
      exact SV.norm_rep (h3 j u _ hu (List.getElem?_eq_getElem hj)) (normL_get hn j _ _ (List.getElem?_eq_getElem hj) hy)
  | tup ps => cases hy
  | undef => cases hy

theorem PV.av_rep {p : PV} {v : Value} (h : p.rep R v) : p.av.rep R γ L v := by
  cases p with
  | one x => exact h
  | agg xs =>
    obtain ⟨vs, h1, h2, h3⟩ := h
    refine ⟨vs, h1, by simp [h2], fun j u x hu hx => ?_⟩
    rw [List.getElem?_map] at hx
    cases hx' : xs[j]? with
    | none => simp [hx'] at hx
    | some y => simp [hx'] at hx; subst hx; exact h3 j u y hu hx'
theorem CV.av_rep {p : CV} {v : Value} (h : p.rep R v) : p.av.rep R γ L v := by
  cases p with
  | val p => exact PV.av_rep h
  | tup ps => exact h

/-- One cell each. -/
theorem PRep.one {v : Value} {x : AC} (h : PRep R v x) : v.cells = #[v] ∧ v.oneCell' = true := by cases h <;> exact ⟨rfl, rfl⟩
theorem SV.rep_one {v : Value} {x : SV} (h : x.rep R γ L v) : v.cells = #[v] ∧ v.oneCell' = true := by
  cases x with
  | c x => exact PRep.one h
  | emp => obtain ⟨a, rfl⟩ := h; exact ⟨rfl, rfl⟩
  | own es t => exact PRep.one h.1
  | ptr id off => obtain ⟨b, rfl, _⟩ := h; exact ⟨rfl, rfl⟩

theorem SV.ofVal_rep {v : Value} {x : SV} (h : SV.ofVal v = some x) : x.rep R γ L v := by
  unfold SV.ofVal at h
  split at h <;> first | (cases h; done) | (injection h with h; subst h)
  · exact .bool _
  · exact .int _ _
  · exact .str _
  · exact ⟨_, rfl⟩
theorem svs_len : ∀ {vs : List Value} {xs : List SV}, svs vs = some xs → vs.length = xs.length
  | [], xs, h => by injection h with h; subst h; rfl
  | v :: vs, xs, h => by
    unfold svs at h
    split at h
    · rename_i h1 h2
      injection h with h; subst h
      simp [svs_len h2]
    · cases h
theorem svs_get : ∀ {vs : List Value} {xs : List SV}, svs vs = some xs → ∀ (j : Nat) u x, vs[j]? = some u → xs[j]? = some x → x.rep R γ L u
  | [], xs, h, j, u, x, hu, hx => by simp at hu
  | v :: vs, xs, h, j, u, x, hu, hx => by
    unfold svs at h
    split at h
    · rename_i h1 h2
      injection h with h; subst h
      cases j with
      | zero => simp at hu hx; subst hu hx; exact SV.ofVal_rep h1
      | succ j => exact svs_get h2 j u x (by simpa using hu) (by simpa using hx)
    · cases h
theorem AV.ofVal_rep {v : Value} {x : AV} (h : AV.ofVal v = some x) : x.rep R γ L v := by
  unfold AV.ofVal at h
  split at h
  · rename_i vs
    cases hs : svs vs.toList with
    | none => simp [hs] at h
    | some xs =>
      simp [hs] at h; subst h
      exact ⟨vs, rfl, by rw [← svs_len hs]; simp, fun j u x hu hx => svs_get hs j u x (by simpa using hu) hx⟩
  · rename_i hv
    cases hs : SV.ofVal v with
    | none => simp [hs] at h
    | some y => simp [hs] at h; subst h; exact SV.ofVal_rep hs
theorem look_rep {N : Nat} {T : Tm} {a : Act} (hT : TRep N R γ L T a) {x : Operand} {v : AV} (h : look T x = some v) : v.rep R γ L (a.eval x) := by
  cases x with
  | tmp t =>
    obtain ⟨u, h1, h2⟩ := hT.slot t v h
    have : a.eval (.tmp t) = u := by simp [Act.eval, Array.getD_eq_getD_getElem?, h1]
    rw [this]; exact h2
  | const c => exact AV.ofVal_rep h
  | global g => cases h
  | func f =>
    injection h with h; subst h
    exact .fn f #[] [] rfl (fun j v x hv => by simp at hv)
end
end

section
open Go.RowKit

/-- The scalars of a struct that is compared. -/
def scal : AC → Option Value
  | .bool b => some (.bool b)
  | .int k n => some (.int k n)
  | .str s => some (.string s)
  | _ => none
def scals : List SV → Option (List Value)
  | [] => some []
  | .c x :: xs => match scal x, scals xs with
    | some v, some vs => some (v :: vs)
    | _, _ => none
  | _ :: _ => none
def sameS : List SV → List SV → Bool
  | [], [] => true
  | .c (.bool a) :: xs, .c (.bool b) :: ys => (a == b) && sameS xs ys
  | .c (.int _ a) :: xs, .c (.int _ b) :: ys => decide (a = b) && sameS xs ys
  | .c (.str a) :: xs, .c (.str b) :: ys => (a.toList == b.toList) && sameS xs ys
  | _, _ => false
/-- How a struct type's comparison runs at these cells: owed where a comparison is met. -/
def EqRuns (P : Program) (t : TypeId) (xs ys : List SV) : Prop :=
  ∀ vs us, scals xs = some vs → scals ys = some us → ∀ w, (Op.equal t (.agg vs.toArray) (.agg us.toArray)).run P w = .ok (sameS xs ys) w

def fitsS : List Sc → List SV → Bool
  | [], [] => true
  | .int k :: sh, .c (.int k' _) :: xs => decide (k = k') && fitsS sh xs
  | .bool :: sh, .c (.bool _) :: xs => fitsS sh xs
  | .str :: sh, .c (.str _) :: xs => fitsS sh xs
  | _, _ => false
theorem fitsS_scals : ∀ {sh : List Sc} {xs : List SV}, fitsS sh xs = true → (scals xs).isSome
  | [], [], _ => rfl
  | .int k :: sh, .c (.int k' n) :: xs, h => by
    simp only [fitsS, Bool.and_eq_true] at h
    obtain ⟨vs, hv⟩ := Option.isSome_iff_exists.1 (fitsS_scals h.2)
    simp [scals, scal, hv]
  | .bool :: sh, .c (.bool b) :: xs, h => by
    obtain ⟨vs, hv⟩ := Option.isSome_iff_exists.1 (fitsS_scals (sh := sh) (xs := xs) h)
    simp [scals, scal, hv]
  | .str :: sh, .c (.str b) :: xs, h => by
    obtain ⟨vs, hv⟩ := Option.isSome_iff_exists.1 (fitsS_scals (sh := sh) (xs := xs) h)
    simp [scals, scal, hv]

def tstruct (P : Program) (t : TypeId) : Bool :=
  match P.underlying t with
  | some (.struct fs) => fs.all fun f => (tsize P f.type).isSome
  | _ => false
def zeroOf (P : Program) (t : TypeId) : Option AV := (P.info? t).bind fun i => i.zero.bind AV.ofVal

def popBin (ti : TI) (op : BinOp) (t : TypeId) : AV → AV → Option (AV × Prop)
  | .one (.c (.int k a)), .one (.c (.int k' b)) => match decide (k = k'), intOp op k a b with
    | true, some (r, φ) => some (.one (.c r), φ)
    | _, _ => none
  | .one (.c (.str a)), .one (.c (.str b)) => match strOp op a b with
    | some (r, φ) => some (.one (.c r), φ)
    | none => none
  | .one (.c (.bool a)), .one (.c (.bool b)) => match op with
    | .eql => some (.one (.c (.bool (a == b))), ti.kind t = some .bool)
    | .neq => some (.one (.c (.bool (!(a == b)))), ti.kind t = some .bool)
    | _ => none
  | .agg xs, .agg ys => match ti.eqs t with
    | some sh => match op with
      | .eql => some (.one (.c (.bool (sameS xs ys))), fitsS sh xs = true ∧ fitsS sh ys = true)
      | .neq => some (.one (.c (.bool (!sameS xs ys))), fitsS sh xs = true ∧ fitsS sh ys = true)
      | _ => none
    | none => none
  | _, _ => none

def popLoad (ti : TI) (L : List Ob) (t : TypeId) : AV → Option (AV × Prop)
  | .one (.c (.ref cs)) => match ti.agg t, ti.size t with
    | some false, _ => match cs with
      | x :: _ => some (.one (.c x), True)
      | [] => none
    | some true, some n => some (.agg ((cs.take n).map .c), n ≤ cs.length)
    | _, _ => none
  | .one (.ptr id off) => match L[id]? with
    | some (.box cs) => match ti.agg t, ti.size t with
      | some false, _ => match cs[off]? with
        | some x => some (.one x, True)
        | none => none
      | some true, some n => some (.agg ((cs.drop off).take n), off + n ≤ cs.length)
      | _, _ => none
    | _ => none
  | _ => none

def popFieldAddr (ti : TI) (s : TypeId) (i : Nat) : AV → Option (AV × Prop)
  | .one (.c (.ref cs)) => match ti.field s i with
    | some (o, t) => match ti.size t with
      | some (_ + 1) => some (.one (.c (.ref (cs.drop o))), o ≤ cs.length)
      | _ => none
    | none => none
  | .one (.ptr id off) => match ti.field s i with
    | some (o, t) => match ti.size t with
      | some (_ + 1) => some (.one (.ptr id (off + o)), True)
      | _ => none
    | none => none
  | _ => none

def popField (ti : TI) (s : TypeId) (i : Nat) : AV → Option (AV × Prop)
  | .agg xs => match ti.field s i with
    | some (o, t) => match ti.agg t, ti.size t with
      | some false, _ => match xs[o]? with
        | some x => some (.one x, True)
        | none => none
      | some true, some n => some (.agg ((xs.drop o).take n), o + n ≤ xs.length)
      | _, _ => none
    | none => none
  | _ => none

def listOf : AV → Option (List (List AC))
  | .one (.c (.lst es)) => some es
  | .one (.own es _) => some es
  | .one .emp => some []
  | _ => none

def popIndexAddr (ti : TI) (t : TypeId) (x ix : AV) : Option (AV × Prop) :=
  match listOf x, ix, (ti.elem t).bind ti.size with
  | some es, .one (.c (.int _ i)), some k => match es[i.toNat]? with
    | some e => some (.one (.c (.ref e)), 0 ≤ i ∧ e.length = k)
    | none => none
  | _, _, _ => none

def popIndex (ti : TI) (t : TypeId) (x ix : AV) : Option (AV × Prop) :=
  match x, ix with
  | .one (.c (.str s)), .one (.c (.int _ i)) => match s[i.toNat]? with
    | some b => some (.one (.c (.int .u8 b.toNat)), 0 ≤ i ∧ ti.kind t = some .string)
    | none => none
  | _, _ => none

def bndOf (d : Nat) : Option AV → Option Int
  | none => some d
  | some (.one (.c (.int _ i))) => some i
  | _ => none

def popSlice (ti : TI) (t : TypeId) (x : AV) (lo hi : Option AV) : Option (AV × Prop) :=
  match x with
  | .one (.c (.str s)) => match bndOf 0 lo, bndOf s.size hi with
    | some l, some h => some (.one (.c (.str (s.extract l.toNat h.toNat))), 0 ≤ l ∧ l ≤ h ∧ h ≤ s.size ∧ ti.kind t = some .string)
    | _, _ => none
  | _ => match listOf x, (ti.elem t).bind ti.size with
    | some es, some k => match bndOf 0 lo, bndOf es.length hi with
      | some l, some h => some (.one (.c (.lst ((es.take h.toNat).drop l.toNat))), 0 ≤ l ∧ l ≤ h ∧ h ≤ es.length ∧ ∀ e ∈ es, e.length = k)
      | _, _ => none
    | _, _ => none

def popLen (ti : TI) (t : TypeId) (x : AV) : Option (AV × Prop) :=
  match x with
  | .one (.c (.str s)) => some (.one (.c (.int .i64 s.size)), ti.kind t = some .string)
  | _ => match listOf x with
    | some es => some (.one (.c (.int .i64 es.length)), (ti.elem t).isSome)
    | none => none

def popMinMax (mx : Bool) : AV → AV → Option (AV × Prop)
  | .one (.c (.int k a)), .one (.c (.int _ b)) => some (.one (.c (.int k (if mx then (if b > a then b else a) else (if b < a then b else a)))), True)
  | _, _ => none

def splice (zs : List SV) (o : Nat) (xs : List SV) : List SV := zs.take o ++ xs ++ zs.drop (o + xs.length)
def popBuild (ti : TI) (t : TypeId) : List SV → List (Nat × Option AV) → Option (List SV × Prop)
  | zs, [] => some (zs, True)
  | zs, (i, v) :: ps => match v.bind AV.cells, ti.field t i with
    | some xs, some (o, ty) => match popBuild ti t (splice zs o xs) ps with
      | some (r, φ) => some (r, (ti.size ty = some xs.length ∧ o + xs.length ≤ zs.length) ∧ φ)
      | none => none
    | _, _ => none
def capsOf : List (Option AV) → Option (List AC)
  | [] => some []
  | some (.one y) :: xs => match y.norm, capsOf xs with
    | some z, some zs => some (z :: zs)
    | _, _ => none
  | _ => none

def pop (ti : TI) (ρ : Operand → Option AV) (L : List Ob) : Op → Option (AV × Prop)
  | .move x => match ρ x with
    | some v => some (v, True)
    | none => none
  | .assign x => match ρ x with
    | some v => some (v, True)
    | none => none
  | .pick c a b => match ρ c, ρ a, ρ b with
    | some (.one (.c (.bool t))), some va, some vb => some (if t = true then va else vb, True)
    | _, _, _ => none
  | .binOp op t x y _ => match ρ x, ρ y with
    | some va, some vb => popBin ti op t va vb
    | _, _ => none
  | .unOp op _ x => match op, ρ x with
    | .not, some (.one (.c (.bool b))) => some (.one (.c (.bool !b)), True)
    | .neg, some (.one (.c (.int k n))) => some (.one (.c (.int k (k.wrap (0 - n)))), True)
    | _, _ => none
  | .convert src dst x => match ρ x with
    | some (.one (.c (.int _ n))) => match ti.kind dst with
      | some (.int k) => some (.one (.c (.int k (k.wrap n))), (ti.kind src).isSome)
      | _ => none
    | some (.one (.c (.str s))) => some (.one (.c (.str s)), ti.kind dst = some .string ∧ (ti.kind src).isSome)
    | _ => none
  | .load t p => (ρ p).bind (popLoad ti L t)
  | .fieldAddr s x i => (ρ x).bind (popFieldAddr ti s i)
  | .field s x i => (ρ x).bind (popField ti s i)
  | .indexAddr t x ix => match ρ x, ρ ix with
    | some vx, some vi => popIndexAddr ti t vx vi
    | _, _ => none
  | .index t x ix => match ρ x, ρ ix with
    | some vx, some vi => popIndex ti t vx vi
    | _, _ => none
  | .extract t i => match ρ t with
    | some (.tup ps) => match ps[i]? with
      | some p => some (p.av, True)
      | none => none
    | _ => none
  | .nilCheck x => match ρ x with
    | some (.one (.c (.ref cs))) => some (.one (.c (.ref cs)), True)
    | some (.one (.ptr id off)) => some (.one (.ptr id off), True)
    | some (.one (.c (.fn f cs))) => some (.one (.c (.fn f cs)), True)
    | _ => none
  | .slice t x lo hi none => match ρ x, lo.map ρ, hi.map ρ with
    | some v, none, none => popSlice ti t v none none
    | some v, some (some l), none => popSlice ti t v (some l) none
    | some v, none, some (some h) => popSlice ti t v none (some h)
    | some v, some (some l), some (some h) => popSlice ti t v (some l) (some h)
    | _, _, _ => none
  | .call { callee := .builtin .len, args, argTypes } => match args.toList, argTypes.toList with
    | [x], [t] => (ρ x).bind (popLen ti t)
    | _, _ => none
  | .call { callee := .builtin .min, args, .. } => match args.toList.map ρ with
    | [some x, some y] => popMinMax false x y
    | _ => none
  | .call { callee := .builtin .max, args, .. } => match args.toList.map ρ with
    | [some x, some y] => popMinMax true x y
    | _ => none
  | .build t parts => match ti.zero t with
    | some (.agg zs) => match popBuild ti t zs (parts.toList.map fun p => (p.1, ρ p.2)) with
      | some (r, φ) => some (.agg r, ti.struct t = true ∧ φ)
      | none => none
    | _ => none
  | .makeFunc (.func f) first captured => match first.toList, capsOf (captured.toList.map ρ) with
    | [], some cs => some (.one (.c (.fn f cs)), True)
    | _, _ => none
  | _ => none


def tzero (P : Program) (t : TypeId) (k : Nat) : Prop := ∃ i z, P.info? t = some i ∧ i.zero = some z ∧ i.size = k ∧ z.cells.size = k
def tbytes (P : Program) (t : TypeId) : Option Nat := (P.info? t).map (·.bytes)
/-- The table is the program's. -/
structure TIok (P : Program) (ti : TI) : Prop where
  size : ∀ t n, ti.size t = some n → tsize P t = some n
  agg : ∀ t b, ti.agg t = some b → tagg P t = some b
  elem : ∀ t e, ti.elem t = some e → telem P t = some e
  field : ∀ s i r, ti.field s i = some r → tfield P s i = some r
  zero : ∀ t v, ti.zero t = some v → zeroOf P t = some v
  bytes : ∀ t n, ti.bytes t = some n → tbytes P t = some n
  kind : ∀ t d, ti.kind t = some d → P.underlying t = some d
  struct : ∀ t, ti.struct t = true → tstruct P t = true
  zok : ∀ t, ti.zok t = true → ∀ k, tsize P t = some k → tzero P t k
  eqs : ∀ t sh, ti.eqs t = some sh → P.eqGuardType P.depth t = false ∧ ∀ xs ys, fitsS sh xs = true → fitsS sh ys = true → EqRuns P t xs ys
theorem TIok.es {P : Program} {ti : TI} (h : TIok P ti) {t n : Nat} (e : (ti.elem t).bind ti.size = some n) : (telem P t).bind (tsize P) = some n := by
  cases he : ti.elem t with
  | none => simp [he] at e
  | some E => simp only [he, Option.bind_some] at e; rw [h.elem _ _ he]; exact h.size _ _ e

/-- An operation is carried out, over trees. -/
def OpTo (P : Program) (B : Nat → Prop) (R : PH) (γ : List Gh) (L : List Ob) (w : World) (s : Sem Next) (v : AV) : Prop :=
  ∃ u w' R', s.run P w = .ok (.value u) w' ∧ Inv B R' γ L w' ∧ Ext B R R' w w' ∧ v.rep R' γ L u

section
variable {P : Program} {B : Nat → Prop} {R : PH} {γ : List Gh} {L : List Ob} {w : World}
theorem OpTo.quiet (hi : Inv B R γ L w) {s : Sem Value} {v : AV} {u : Value} (h : s.run P w = .ok u w) (hr : v.rep R γ L u) : OpTo P B R γ L w (do pure (.value (← s))) v :=
  ⟨u, w, R, by simp [h], hi, Ext.refl _ _ _, hr⟩

theorem scals_of : ∀ {xs : List SV} {us : List Value}, (scals xs).isSome → us.length = xs.length → (∀ (j : Nat) u x, us[j]? = some u → xs[j]? = some x → x.rep R γ L u) → scals xs = some us
  | [], us, _, hl, _ => by cases us with | nil => rfl | cons => simp at hl
  | x :: xs, us, h, hl, hr => by
    cases us with
    | nil => simp at hl
    | cons u us =>
      have h0 := hr 0 u x rfl rfl
      cases x with
      | c y =>
        unfold scals at h ⊢
        cases hs : scals xs with
        | none => rw [hs] at h; cases y <;> simp [scal] at h
        | some vs =>
          have ih := scals_of (xs := xs) (us := us) (by simp [hs]) (by simpa using hl) fun j u x hu hx => hr (j + 1) u x (by simpa using hu) (by simpa using hx)
          rw [hs] at ih
          injection ih with ih
          subst ih
          cases y with
          | bool b => cases h0; rfl
          | int k n => cases h0; rfl
          | str s => cases h0; rfl
          | lst es => rw [hs] at h; simp [scal] at h
          | ref cs => rw [hs] at h; simp [scal] at h
          | fn f cs => rw [hs] at h; simp [scal] at h
      | emp => simp [scals] at h
      | own es t => simp [scals] at h
      | ptr id off => simp [scals] at h

theorem run_equal_bool {t : TypeId} {a b : Bool} (h : P.underlying t = some .bool) : (Op.equal t (.bool a) (.bool b)).run P w = .ok (a == b) w := by
  have e : Op.maxDepth = 9999 + 1 := rfl
  unfold Op.equal
  rw [e, Op.equalIn]
  simp [underlying, program, Sem.run, h]

theorem popBin_sound {ti : TI} (hti : TIok P ti) (hi : Inv B R γ L w) {op : BinOp} {t : TypeId} {x y : Operand} {va vb v : AV} {φ : Prop} {u1 u2 : Value} (h1 : va.rep R γ L u1) (h2 : vb.rep R γ L u2)
    (h : popBin ti op t va vb = some (v, φ)) (hφ : φ) : ∃ u, ((do eqGuard op t x y u1 u2; binOp op t u1 u2 : Sem Value)).run P w = .ok u w ∧ v.rep R γ L u := by
  unfold popBin at h
  split at h
  · rename_i k a k' b
    cases h1; cases h2
    split at h
    · rename_i r ψ hkk hop
      injection h with h; injection h with e1 e2
      subst e1 e2
      have hkk := of_decide_eq_true hkk
      subst hkk
      obtain ⟨u, hu1, hu2⟩ := run_binOp_int (P := P) (w := w) (t := t) (x := x) (y := y) hop hφ
      exact ⟨u, hu1, hu2 R⟩
    · cases h
  · rename_i a b
    cases h1; cases h2
    split at h
    · rename_i r ψ hop
      injection h with h; injection h with e1 e2
      subst e1 e2
      obtain ⟨u, hu1, hu2⟩ := run_binOp_str (P := P) (w := w) (t := t) (x := x) (y := y) hop hφ
      exact ⟨u, hu1, hu2 R⟩
    · cases h
  · rename_i a b
    cases h1; cases h2
    split at h <;> first | (injection h with h; injection h with e1 e2; subst e1 e2) | (cases h; done)
    · exact ⟨.bool (a == b), by simp [eqGuard, binOp, run_equal_bool (hti.kind _ _ hφ)], .bool _⟩
    · exact ⟨.bool (!(a == b)), by simp [eqGuard, binOp, run_equal_bool (hti.kind _ _ hφ)], .bool _⟩
  · rename_i xs ys
    obtain ⟨vs, rfl, h1s, h1r⟩ := h1
    obtain ⟨us, rfl, h2s, h2r⟩ := h2
    split at h
    case h_2 => cases h
    rename_i sh hsh
    split at h <;> first | (injection h with h; injection h with e1 e2; subst e1 e2) | (cases h; done)
    all_goals
      obtain ⟨hf1, hf2⟩ := hφ
      obtain ⟨hg, hEE⟩ := hti.eqs _ _ hsh
      have hE := hEE xs ys hf1 hf2
      have hx := fitsS_scals hf1
      have hy := fitsS_scals hf2
      have ex := scals_of (us := vs.toList) hx (by simpa using h1s) fun j u x hu => h1r j u x (by simpa using hu)
      have ey := scals_of (us := us.toList) hy (by simpa using h2s) fun j u x hu => h2r j u x (by simpa using hu)
      have hrun := hE _ _ ex ey w
      simp only [Array.toArray_toList] at hrun
    · exact ⟨.bool (sameS xs ys), by simp [eqGuard, binOp, go_sem, hg, hrun], .bool _⟩
    · exact ⟨.bool (!sameS xs ys), by simp [eqGuard, binOp, go_sem, hg, hrun], .bool _⟩
  · cases h
end
end

section
open Go.RowKit

section
variable {P : Program} {ti : TI} {B : Nat → Prop} {R : PH} {γ : List Gh} {L : List Ob} {w : World}

theorem cell_of_block {b o : Nat} {vs : Array Value} {E : TypeId} {f : Nat × Nat} (h : w.heap[b]? = some (.cells vs E f)) : w.cell? ⟨b, o, none⟩ = vs[o]? := by
  simp [World.cell?, h]
theorem run_isAgg {t : TypeId} {c : Bool} (h : tagg P t = some c) : (isAgg t).run P w = .ok c w := by
  unfold tagg at h
  split at h <;> first | (cases h; done) | (injection h with h; subst h)
  · rename_i e; simp [isAgg, underlying, program, Sem.run, e]
  · rename_i e; simp [isAgg, underlying, program, Sem.run, e]
  · rename_i d h1 h2 e
    simp [isAgg, underlying, program, Sem.run, e]
theorem row_of_tagg {t : TypeId} (h : tagg P t = some true) : ∃ d, P.underlying t = some d ∧ d.isRow = true := by
  unfold tagg at h
  split at h <;> first | (cases h; done) | skip
  · rename_i e; exact ⟨_, e, rfl⟩
  · rename_i e; exact ⟨_, e, rfl⟩
theorem run_loadAt_one {t : TypeId} {b o : Nat} {u : Value} (h : tagg P t = some false) (hc : w.cell? ⟨b, o, none⟩ = some u) : (Instr.loadAt t (.pointer (some ⟨b, o, none⟩))).run P w = .ok u w := by
  simp [Instr.loadAt, Instr.sureAddr, loadVar, run_isAgg h, run_load, hc]
theorem run_loadAt_agg {t : TypeId} {b o n : Nat} {cs : List Value} (h : tagg P t = some true) (hn : tsize P t = some n) (hl : cs.length = n) (hc : ∀ (j : Nat) u, cs[j]? = some u → w.cell? ⟨b, o + j, none⟩ = some u) :
    (Instr.loadAt t (.pointer (some ⟨b, o, none⟩))).run P w = .ok (.agg cs.toArray) w := by
  obtain ⟨d, hd, hr⟩ := row_of_tagg h
  have := run_loadVar_mid (P := P) w b o t cs d hc hd hr (by rw [hl]; exact hn)
  simp [Instr.loadAt, Instr.sureAddr, this]

theorem popLoad_sound (hti : TIok P ti) (hi : Inv B R γ L w) {t : TypeId} {va v : AV} {φ : Prop} {u1 : Value} (h1 : va.rep R γ L u1) (h : popLoad ti L t va = some (v, φ)) (hφ : φ) :
    ∃ u, (Instr.loadAt t u1).run P w = .ok u w ∧ v.rep R γ L u := by
  unfold popLoad at h
  split at h
  · rename_i cs
    cases h1 with
    | ref b o cs cv hr he =>
      split at h
      · rename_i ht
        split at h
        · rename_i x rest
          injection h with h; injection h with e1 e2; subst e1 e2
          exact ⟨cv 0, run_loadAt_one (hti.agg _ _ ht) (by have := hr 0 (by simp); exact hi.val _ _ _ this), he 0 x rfl⟩
        · cases h
      · rename_i n ht hn
        injection h with h; injection h with e1 e2; subst e1 e2
        refine ⟨.agg ((List.range n).map cv).toArray, run_loadAt_agg (hti.agg _ _ ht) (hti.size _ _ hn) (by simp) ?_, _, rfl, by simp; omega, ?_⟩
        · intro j u hu
          rw [List.getElem?_map] at hu
          by_cases hj : j < n
          · rw [List.getElem?_range hj] at hu
            injection hu with hu; subst hu
            exact hi.val _ _ _ (hr j (by omega))
          · rw [List.getElem?_eq_none (by simp; omega)] at hu; cases hu
        · intro j u x hu hx
          simp only [List.getElem?_toArray, List.getElem?_map] at hu hx
          by_cases hj : j < n
          · rw [List.getElem?_range hj] at hu
            injection hu with hu; subst hu
            rw [List.getElem?_take, if_pos hj] at hx
            cases hy : cs[j]? with
            | none => simp [hy] at hx
            | some y => simp [hy] at hx; subst hx; exact he j y hy
          · rw [List.getElem?_eq_none (by simp; omega)] at hu; cases hu
      · cases h
  · rename_i id off
    obtain ⟨b, rfl, hg⟩ := h1
    split at h
    · rename_i cs hL
      obtain ⟨⟨vs, E, hb, hs, hv⟩, _⟩ := hi.obj id _ _ hL hg
      split at h
      · rename_i ht
        split at h
        case h_2 => cases h
        · rename_i x hc
          injection h with h; injection h with e1 e2; subst e1 e2
          have hlt : off < vs.size := by rw [hs]; exact (List.getElem?_eq_some_iff.1 hc).1
          have hu : vs[off]? = some vs[off] := Array.getElem?_eq_getElem hlt
          exact ⟨vs[off], run_loadAt_one (hti.agg _ _ ht) (by rw [cell_of_block hb]; exact hu), hv off _ x hu hc⟩
      · rename_i n ht hn
        injection h with h; injection h with e1 e2; subst e1 e2
        refine ⟨.agg ((vs.toList.drop off).take n).toArray, run_loadAt_agg (hti.agg _ _ ht) (hti.size _ _ hn) (by simp; omega) ?_, _, rfl, by simp; omega, ?_⟩
        · intro j u hu
          rw [cell_of_block hb]
          rw [List.getElem?_take] at hu
          split at hu
          · rw [List.getElem?_drop] at hu; simpa using hu
          · cases hu
        · intro j u x hu hx
          simp only [List.getElem?_toArray] at hu
          rw [List.getElem?_take] at hu hx
          split at hu
          · rename_i hj
            rw [if_pos hj] at hx
            rw [List.getElem?_drop] at hu hx
            exact hv (off + j) u x (by simpa using hu) hx
          · cases hu
      · cases h
    · cases h
  · cases h

theorem tfield_parts {s : TypeId} {i o : Nat} {t : TypeId} (h : tfield P s i = some (o, t)) : ∃ fs f, P.underlying s = some (.struct fs) ∧ fs[i]? = some f ∧ f.offset = o ∧ f.type = t := by
  unfold tfield at h
  split at h
  · rename_i fs e
    cases hf : fs[i]? with
    | none => simp [hf] at h
    | some f =>
      simp [hf] at h
      exact ⟨fs, f, e, hf, h.1, h.2⟩
  · cases h
theorem run_sizeOf {t : TypeId} {n : Nat} (h : tsize P t = some n) : (sizeOf t).run P w = .ok n w := by
  unfold tsize at h
  cases hi : P.info? t with
  | none => simp [hi] at h
  | some i => simp [hi] at h; simp [sizeOf, typeInfo, program, Sem.run, hi, h]
theorem run_fieldAt {s : TypeId} {i o : Nat} {t : TypeId} {b f : Nat} (h : tfield P s i = some (o, t)) (h0 : tsize P t ≠ some 0) (h1 : (tsize P t).isSome) :
    (Instr.fieldAt s (.pointer (some ⟨b, f, none⟩)) i).run P w = .ok (.pointer (some ⟨b, f + o, none⟩)) w := by
  obtain ⟨fs, fd, e1, e2, e3, e4⟩ := tfield_parts h
  obtain ⟨n, hn⟩ := Option.isSome_iff_exists.1 h1
  have hn0 : n ≠ 0 := fun e => h0 (by rw [hn, e])
  subst e3 e4
  simp [Instr.fieldAt, underlying, program, Sem.run, e1, e2, Instr.sureAddr, fieldPlace, run_sizeOf hn, hn0, Addr.add_mid]

theorem popFieldAddr_sound (hti : TIok P ti) {s : TypeId} {i : Nat} {va v : AV} {φ : Prop} {u1 : Value} (h1 : va.rep R γ L u1) (h : popFieldAddr ti s i va = some (v, φ)) (hφ : φ) :
    ∃ u, (Instr.fieldAt s u1 i).run P w = .ok u w ∧ v.rep R γ L u := by
  unfold popFieldAddr at h
  split at h
  · rename_i cs
    cases h1 with
    | ref b o cs cv hr he =>
      split at h
      · rename_i o' t hf
        split at h
        case h_2 => cases h
        rename_i n hn
        injection h with h; injection h with e1 e2; subst e1 e2
        have hle := hφ
        have hn' := hti.size _ _ hn
        refine ⟨_, run_fieldAt (hti.field _ _ _ hf) (by rw [hn']; simp) (by rw [hn']; rfl), ?_⟩
        refine .ref b (o + o') _ (fun j => cv (o' + j)) (fun j hj => ?_) (fun j x hx => ?_)
        · rw [List.length_drop] at hj
          rw [Nat.add_assoc]; exact hr _ (by omega)
        · rw [List.getElem?_drop] at hx; exact he _ _ hx
      · cases h
  · rename_i id off
    obtain ⟨b, rfl, hg⟩ := h1
    split at h
    · rename_i o' t hf
      split at h
      case h_2 => cases h
      rename_i n hn
      injection h with h; injection h with e1 e2; subst e1 e2
      have hn' := hti.size _ _ hn
      exact ⟨_, run_fieldAt (hti.field _ _ _ hf) (by rw [hn']; simp) (by rw [hn']; rfl), b, rfl, hg⟩
    · cases h
  · cases h

theorem popField_sound (hti : TIok P ti) {s : TypeId} {i : Nat} {va v : AV} {φ : Prop} {u1 : Value} (h1 : va.rep R γ L u1) (h : popField ti s i va = some (v, φ)) (hφ : φ) :
    ∃ u, (Instr.field s u1 i).run P w = .ok u w ∧ v.rep R γ L u := by
  unfold popField at h
  split at h
  · rename_i xs
    obtain ⟨vs, rfl, hs, hv⟩ := h1
    split at h
    · rename_i o t hf
      obtain ⟨fs, fd, e1, e2, e3, e4⟩ := tfield_parts (hti.field _ _ _ hf)
      subst e3 e4
      split at h
      · rename_i ht
        split at h
        case h_2 => cases h
        · rename_i x hc
          injection h with h; injection h with e5 e6; subst e5 e6
          have hlt : fd.offset < vs.size := by rw [hs]; exact (List.getElem?_eq_some_iff.1 hc).1
          have hu : vs[fd.offset]? = some vs[fd.offset] := Array.getElem?_eq_getElem hlt
          exact ⟨vs[fd.offset], by simp [Instr.field, underlying, program, Sem.run, e1, e2, asAgg, part, run_isAgg (hti.agg _ _ ht), hu], hv _ _ x hu hc⟩
      · rename_i n ht hn
        injection h with h; injection h with e5 e6; subst e5 e6
        refine ⟨.agg (vs.extract fd.offset (fd.offset + n)), by simp [Instr.field, underlying, program, Sem.run, e1, e2, asAgg, part, run_isAgg (hti.agg _ _ ht), run_sizeOf (hti.size _ _ hn)], _, rfl, by simp; omega, ?_⟩
        intro j u x hu hx
        rw [Array.getElem?_extract] at hu
        split at hu
        · rw [List.getElem?_take] at hx
          split at hx
          · rw [List.getElem?_drop] at hx; exact hv _ u x hu hx
          · cases hx
        · cases hu
      · cases h
    · cases h
  · cases h

theorem listOf_rep {x : AV} {v : Value} {es : List (List AC)} (h : x.rep R γ L v) (he : listOf x = some es) : PRep R v (.lst es) := by
  unfold listOf at he
  split at he <;> first | (injection he with he; subst he) | (cases he; done)
  · exact h
  · exact h.1
  · obtain ⟨a, rfl⟩ := h; exact prep_nil _ _ _
theorem telem_parts {t : TypeId} {n : Nat} (h : (telem P t).bind (tsize P) = some n) : ∃ e, P.underlying t = some (.slice e) ∧ tsize P e = some n := by
  unfold telem at h
  split at h
  · rename_i e he; exact ⟨e, he, h⟩
  · cases h

theorem popIndexAddr_sound (hti : TIok P ti) {t : TypeId} {vx vi v : AV} {φ : Prop} {u1 u2 : Value} (h1 : vx.rep R γ L u1) (h2 : vi.rep R γ L u2) (h : popIndexAddr ti t vx vi = some (v, φ)) (hφ : φ) :
    ∃ u, (Instr.indexAt t u1 u2).run P w = .ok u w ∧ v.rep R γ L u := by
  unfold popIndexAddr at h
  split at h
  · rename_i es k0 i k hl ht
    have hp := listOf_rep h1 hl
    cases h2
    obtain ⟨E, hE, hk⟩ := telem_parts (hti.es ht)
    split at h
    · rename_i e he
      injection h with h; injection h with e1 e2; subst e1 e2
      cases hp with
      | lst a n c _ k' cv b o hn hc hkk ha hr hx =>
        have hlt : i.toNat < es.length := (List.getElem?_eq_some_iff.1 he).1
        have hmem : e ∈ es := List.mem_of_getElem? he
        obtain ⟨h0, hek⟩ := hφ
        have hkk' : k' = k := by rw [← hkk e hmem]; exact hek
        subst hkk'
        have ea := ha (by omega)
        subst ea
        have hi2 : i < (n : Int) := by omega
        refine ⟨.pointer (some ⟨b, o + i.toNat * k', none⟩), ?_, ?_⟩
        · simp [Instr.indexAt, asIntOf, underlying, program, Sem.run, hE, h0, hi2, run_sizeOf hk, Addr.add_mid]
        · refine .ref b _ e (fun j => cv (i.toNat * k' + j)) (fun j hj => ?_) (fun j x hxj => hx _ _ _ _ he hxj)
          rw [Nat.add_assoc]
          apply hr
          have h3 : i.toNat * k' + k' ≤ n * k' := by
            have : (i.toNat + 1) * k' ≤ n * k' := Nat.mul_le_mul_right _ (by omega)
            rw [Nat.succ_mul] at this; exact this
          omega
    · cases h
  · cases h
end
end

section
open Go.RowKit

section
variable {P : Program} {ti : TI} {B : Nat → Prop} {R : PH} {γ : List Gh} {L : List Ob} {w : World}

theorem popIndex_sound (hti : TIok P ti) {t : TypeId} {vx vi v : AV} {φ : Prop} {u1 u2 : Value} (h1 : vx.rep R γ L u1) (h2 : vi.rep R γ L u2) (h : popIndex ti t vx vi = some (v, φ)) (hφ : φ) :
    ∃ u, (Instr.index t u1 u2).run P w = .ok u w ∧ v.rep R γ L u := by
  unfold popIndex at h
  split at h
  · rename_i s k i
    cases h1; cases h2
    split at h
    · rename_i b hb
      injection h with h; injection h with e1 e2; subst e1 e2
      obtain ⟨h0, hu⟩ := hφ
      exact ⟨.int .u8 b.toNat, by simp [Instr.index, asIntOf, underlying, program, Sem.run, hti.kind _ _ hu, h0, hb], .int _ _⟩
    · cases h
  · cases h

def ORep (R : PH) (γ : List Gh) (L : List Ob) : Option AV → Option Value → Prop
  | none, none => True
  | some x, some v => x.rep R γ L v
  | _, _ => False

theorem run_sliceBounds {s : Bool} {len cap : Nat} {lo hi : Option AV} {vlo vhi : Option Value} {l h : Int} (hlo : bndOf 0 lo = some l) (hhi : bndOf len hi = some h)
    (rlo : ORep R γ L lo vlo) (rhi : ORep R γ L hi vhi) (h0 : 0 ≤ l) (h1 : l ≤ h) (h2 : h ≤ cap) :
    (Instr.sliceBounds s len cap vlo vhi none).run P w = .ok (l.toNat, h.toNat, cap) w := by
  have e1 : ∀ (v : Value) (x : AV) (i : Int) (y : Nat) (c : BoundsCode), x.rep R γ L v → bndOf 0 (some x) = some i → 0 ≤ i → i ≤ y → (Instr.sliceBound v y c).run P w = .ok i.toNat w := by
    intro v x i y c hx hb g0 g1
    unfold bndOf at hb
    split at hb
    · rename_i e; cases e
    · rename_i e
      injection e with e; subst e
      injection hb with hb; subst hb
      cases hx
      simp [Instr.sliceBound, asIntOf, g0, g1]
    · cases hb
  match lo, vlo, rlo, hlo, hi, vhi, rhi, hhi with
  | none, none, _, hlo, none, none, _, hhi =>
    injection hlo with hlo; subst hlo
    injection hhi with hhi; subst hhi
    simp [Instr.sliceBounds]
  | some x, some v, rlo, hlo, none, none, _, hhi =>
    injection hhi with hhi; subst hhi
    simp [Instr.sliceBounds, e1 v x l len _ rlo hlo h0 (by omega)]
  | none, none, _, hlo, some y, some u, rhi, hhi =>
    injection hlo with hlo; subst hlo
    simp [Instr.sliceBounds, e1 u y h cap _ rhi (by cases y <;> first | exact hhi | (rename_i z; cases z <;> first | exact hhi | (rename_i q; cases q <;> exact hhi))) (by omega) h2]
  | some x, some v, rlo, hlo, some y, some u, rhi, hhi =>
    simp [Instr.sliceBounds, e1 u y h cap _ rhi (by cases y <;> first | exact hhi | (rename_i z; cases z <;> first | exact hhi | (rename_i q; cases q <;> exact hhi))) (by omega) h2, e1 v x l h.toNat _ rlo hlo h0 (by omega)]

theorem prep_drop {a : Option Addr} {n c l h : Nat} {es : List (List AC)} {k m : Nat} (hp : PRep R (.slice a n c) (.lst es)) (hlh : l ≤ h) (hh : h ≤ es.length) (hk : ∀ e ∈ es, e.length = k) (hm : m = c) :
    PRep R (.slice (if m = l then a else a.map (·.add (l * k))) (h - l) (m - l)) (.lst ((es.take h).drop l)) := by
  cases hp with
  | lst _ _ _ _ k' cv b o hn hc hkk ha hr hx =>
    subst hm
    have hlen : ((es.take h).drop l).length = h - l := by simp; omega
    by_cases hz : h - l = 0
    · rw [hz]
      have : (es.take h).drop l = [] := List.eq_nil_of_length_eq_zero (by omega)
      rw [this]; exact prep_nil _ _ _
    · have hpos : 0 < n := by omega
      have hkk' : k' = k := by
        have h0 : 0 < es.length := by omega
        rw [← hkk es[0] (List.getElem_mem h0), hk es[0] (List.getElem_mem h0)]
      subst hkk'
      have ea := ha hpos
      subst ea
      rw [if_neg (by omega)]
      refine .lst _ _ _ _ k' (fun j => cv (l * k' + j)) b (o + l * k') hlen (by omega) (fun e he => hk e (List.mem_of_mem_take (List.mem_of_mem_drop he))) (fun _ => by simp [Addr.add_mid]) (fun j hj => ?_) (fun i e j x he hxj => ?_)
      · rw [Nat.add_assoc]
        apply hr
        have : l * k' + (h - l) * k' = h * k' := by rw [← Nat.add_mul]; congr 1; omega
        have : h * k' ≤ n * k' := Nat.mul_le_mul_right _ (by omega)
        omega
      · rw [List.getElem?_drop, List.getElem?_take] at he
        split at he
        · have := hx _ _ _ _ he hxj
          rw [Nat.add_mul, Nat.add_assoc] at this
          exact this
        · cases he

theorem popSlice_sound (hti : TIok P ti) {t : TypeId} {vx v : AV} {lo hi : Option AV} {vlo vhi : Option Value} {φ : Prop} {u1 : Value} (h1 : vx.rep R γ L u1) (rlo : ORep R γ L lo vlo) (rhi : ORep R γ L hi vhi)
    (h : popSlice ti t vx lo hi = some (v, φ)) (hφ : φ) : ∃ u, (Instr.sliceAt t u1 vlo vhi none).run P w = .ok u w ∧ v.rep R γ L u := by
  unfold popSlice at h
  split at h
  · rename_i s
    cases h1
    split at h
    · rename_i l h' hl hh
      injection h with h; injection h with e1 e2; subst e1 e2
      obtain ⟨a1, a2, a3, a4⟩ := hφ
      refine ⟨.string (s.extract l.toNat h'.toNat), ?_, .str _⟩
      have := run_sliceBounds (P := P) (w := w) (s := false) (cap := s.size) hl hh rlo rhi a1 a2 (by omega)
      simp [Instr.sliceAt, Instr.slice, underlying, program, Sem.run, hti.kind _ _ a4, this]
    · cases h
  · split at h
    · rename_i es k hl ht
      have hp := listOf_rep h1 hl
      obtain ⟨E, hE, hk⟩ := telem_parts (hti.es ht)
      split at h
      · rename_i l h' hl hh
        injection h with h; injection h with e1 e2; subst e1 e2
        obtain ⟨a1, a2, a3, a4⟩ := hφ
        match u1, hp with
        | .slice a n c, hp =>
          have hn : es.length = n := by cases hp; assumption
          have hc : n ≤ c := by cases hp; assumption
          subst hn
          have := run_sliceBounds (P := P) (w := w) (s := true) (cap := c) hl hh rlo rhi a1 a2 (by omega)
          refine ⟨_, by simp [Instr.sliceAt, Instr.slice, underlying, program, Sem.run, hE, this, run_sizeOf hk]; rfl, ?_⟩
          have h3 : ((h' - l).toNat) = h'.toNat - l.toNat := by omega
          exact prep_drop (m := c) hp (by omega) (by omega) a4 rfl
      · cases h
    · cases h

theorem popLen_sound (hti : TIok P ti) {t ty : TypeId} {vx v : AV} {φ : Prop} {u1 : Value} (h1 : vx.rep R γ L u1) (h : popLen ti t vx = some (v, φ)) (hφ : φ) :
    ∃ u, (Builtin.len_ #[t] ty #[u1]).run P w = .ok u w ∧ v.rep R γ L u := by
  unfold popLen at h
  split at h
  · rename_i s
    cases h1
    injection h with h; injection h with e1 e2; subst e1 e2
    exact ⟨.int .i64 s.size, by simp [Builtin.len_, underlying, program, Sem.run, hti.kind _ _ hφ, goInt], .int _ _⟩
  · split at h
    case h_2 => cases h
    · rename_i es hl
      injection h with h; injection h with e1 e2; subst e1 e2
      have hp := listOf_rep h1 hl
      match u1, hp with
      | .slice a n c, hp =>
        have hn : es.length = n := by cases hp; assumption
        subst hn
        have ⟨e, he⟩ : ∃ e, P.underlying t = some (.slice e) := by
          obtain ⟨e, he⟩ := Option.isSome_iff_exists.1 hφ
          have h2 := hti.elem _ _ he
          unfold telem at h2
          split at h2
          · rename_i e' he'; exact ⟨e', he'⟩
          · cases h2
        exact ⟨.int .i64 es.length, by simp [Builtin.len_, underlying, program, Sem.run, he, goInt], .int _ _⟩

theorem popMinMax_sound {mx : Bool} {vx vy v : AV} {φ : Prop} {u1 u2 : Value} {ts : Array TypeId} {ty : TypeId} (h1 : vx.rep R γ L u1) (h2 : vy.rep R γ L u2) (h : popMinMax mx vx vy = some (v, φ)) :
    ∃ u, (if mx then Builtin.max_ ts ty #[u1, u2] else Builtin.min_ ts ty #[u1, u2]).run P w = .ok u w ∧ v.rep R γ L u := by
  unfold popMinMax at h
  split at h
  · rename_i k a k' b
    cases h1; cases h2
    injection h with h; injection h with e1 e2; subst e1 e2
    cases mx
    · exact ⟨.int k (if b < a then b else a), by simp [Builtin.min_, Builtin.min2], .int _ _⟩
    · exact ⟨.int k (if b > a then b else a), by simp [Builtin.max_, Builtin.max2], .int _ _⟩
  · cases h
end
end

section
open Go.RowKit

section
variable {P : Program} {ti : TI} {B : Nat → Prop} {R : PH} {γ : List Gh} {L : List Ob} {w : World}

theorem fold_size (off : Nat) : ∀ (l : List Value) (k : Nat) (cells : Array Value), ((l.zipIdx k).foldl (fun (cs : Array Value) (p : Value × Nat) => cs.setIfInBounds (off + p.2) p.1) cells).size = cells.size
  | [], _, _ => rfl
  | v :: l, k, cells => by rw [List.zipIdx_cons, List.foldl_cons, fold_size off l]; simp
theorem fold_get (off : Nat) : ∀ (l : List Value) (k : Nat) (cells : Array Value), off + k + l.length ≤ cells.size → ∀ i,
    ((l.zipIdx k).foldl (fun (cs : Array Value) (p : Value × Nat) => cs.setIfInBounds (off + p.2) p.1) cells)[i]? = if off + k ≤ i ∧ i < off + k + l.length then l[i - (off + k)]? else cells[i]?
  | [], k, cells, _, i => by
    rw [if_neg (by intro h; simp only [List.length_nil] at h; omega)]; rfl
  | v :: l, k, cells, h, i => by
    rw [List.length_cons] at h
    rw [List.zipIdx_cons, List.foldl_cons, fold_get off l (k + 1) _ (by simp; omega) i]
    by_cases h1 : off + (k + 1) ≤ i ∧ i < off + (k + 1) + l.length
    · rw [if_pos h1, if_pos (by simp; omega)]
      have : i - (off + k) = (i - (off + (k + 1))) + 1 := by omega
      rw [this, List.getElem?_cons_succ]
    · rw [if_neg h1]
      by_cases h2 : i = off + k
      · subst h2
        rw [if_pos (by simp)]
        simp [Array.getElem?_setIfInBounds]
        omega
      · rw [if_neg (by simp; omega)]
        simp only [Array.getElem?_setIfInBounds]
        rw [if_neg (by omega)]
theorem splice_len {zs xs : List SV} {o : Nat} (h : o + xs.length ≤ zs.length) : (splice zs o xs).length = zs.length := by
  simp [splice]; omega
theorem splice_get {zs xs : List SV} {o : Nat} (h : o + xs.length ≤ zs.length) (i : Nat) : (splice zs o xs)[i]? = if o ≤ i ∧ i < o + xs.length then xs[i - o]? else zs[i]? := by
  unfold splice
  by_cases h1 : i < o
  · rw [if_neg (by omega), List.getElem?_append_left (by simp; omega), List.getElem?_append_left (by simp; omega), List.getElem?_take, if_pos h1]
  · by_cases h2 : i < o + xs.length
    · rw [if_pos (by omega), List.getElem?_append_left (by simp; omega), List.getElem?_append_right (by simp; omega)]
      congr 1; simp; omega
    · rw [if_neg (by omega), List.getElem?_append_right (by simp; omega), List.getElem?_drop]
      congr 1; simp; omega

def CRep (R : PH) (γ : List Gh) (L : List Ob) (xs : List SV) (vs : Array Value) : Prop := vs.size = xs.length ∧ ∀ (j : Nat) u x, vs[j]? = some u → xs[j]? = some x → x.rep R γ L u

theorem cells_rep {v : AV} {u : Value} {xs : List SV} (h : v.rep R γ L u) (hc : v.cells = some xs) : CRep R γ L xs u.cells := by
  cases v with
  | one x =>
    injection hc with hc; subst hc
    have e := (SV.rep_one h).1
    rw [e]
    refine ⟨rfl, fun j u' x' hu hx => ?_⟩
    cases j with
    | zero => simp at hu hx; subst hu hx; exact h
    | succ j => simp at hu
  | agg ys =>
    injection hc with hc; subst hc
    obtain ⟨vs, rfl, h1, h2⟩ := h
    exact ⟨h1, h2⟩
  | tup ps => cases hc
  | undef => cases hc

theorem fill_rep (hti : TIok P ti) {t : TypeId} {places : Array (Nat × Nat)} (hpl : ∀ i o ty, tfield P t i = some (o, ty) → ∀ n, tsize P ty = some n → places[i]? = some (o, n)) :
    ∀ (ps : List (Nat × Option AV)) (us : List (Nat × Value)) (zs : List SV) (cells : Array Value) (r : List SV) (φ : Prop), us.length = ps.length →
      (∀ (j : Nat) p q, ps[j]? = some p → us[j]? = some q → p.1 = q.1 ∧ ∀ v, p.2 = some v → v.rep R γ L q.2) → CRep R γ L zs cells → popBuild ti t zs ps = some (r, φ) → φ →
      ∃ cells', Instr.fill (places[·]?) cells us = some cells' ∧ CRep R γ L r cells'
  | [], us, zs, cells, r, φ, hl, _, hz, h, _ => by
    cases us with
    | nil => injection h with h; injection h with e1 e2; subst e1; exact ⟨cells, rfl, hz⟩
    | cons => simp at hl
  | (i, v) :: ps, us, zs, cells, r, φ, hl, hr, hz, h, hφ => by
    cases us with
    | nil => simp at hl
    | cons q us =>
      obtain ⟨qi, qv⟩ := q
      have h0 := hr 0 _ _ rfl rfl
      obtain ⟨e0, hv⟩ := h0
      simp only at e0; subst e0
      unfold popBuild at h
      split at h
      · rename_i xs o ty hc hf
        split at h
        case h_2 => cases h
        · rename_i r' φ' hb
          injection h with h; injection h with e1 e2; subst e1 e2
          obtain ⟨⟨hs, hle⟩, hφ'⟩ := hφ
          cases v with
          | none => simp at hc
          | some v =>
            simp only [Option.bind_some] at hc
            have hq := cells_rep (hv v rfl) hc
            have hp := hpl i o ty (hti.field _ _ _ hf) _ (hti.size _ _ hs)
            have hsz : qv.cells.size = xs.length := hq.1
            have hfit : o + qv.cells.size ≤ cells.size := by rw [hsz, hz.1]; exact hle
            have step : CRep R γ L (splice zs o xs) (qv.cells.zipIdx.foldl (fun (cs : Array Value) (p : Value × Nat) => cs.setIfInBounds (o + p.2) p.1) cells) := by
              rw [← Array.foldl_toList, Array.toList_zipIdx]
              refine ⟨by rw [fold_size, splice_len hle]; exact hz.1, fun j u x hu hx => ?_⟩
              rw [fold_get o _ 0 _ (by simp; omega)] at hu
              rw [splice_get hle] at hx
              by_cases hj : o ≤ j ∧ j < o + xs.length
              · rw [if_pos hj] at hx
                rw [if_pos (by simp; omega)] at hu
                exact hq.2 (j - o) u x (by simpa using hu) hx
              · rw [if_neg hj] at hx
                rw [if_neg (by simp; omega)] at hu
                exact hz.2 j u x hu hx
            obtain ⟨cells', f1, f2⟩ := fill_rep hti hpl ps us _ _ r' φ' (by simpa using hl) (fun j p q hp hq => hr (j + 1) p q (by simpa using hp) (by simpa using hq)) step hb hφ'
            refine ⟨cells', ?_, f2⟩
            simp only [Instr.fill]
            rw [hp]
            simp only [hsz, ne_eq, not_true_eq_false, decide_false, Bool.false_or, gt_iff_lt, decide_eq_true_eq]
            rw [if_neg (by omega)]
            exact f1
      · cases h

theorem run_places : ∀ (fs : List Field), (∀ f ∈ fs, (tsize P f.type).isSome) → (fs.mapM (fun f => (do pure (f.offset, ← sizeOf f.type) : Sem (Nat × Nat)))).run P w = .ok (fs.map fun f => (f.offset, (tsize P f.type).getD 0)) w
  | [], _ => rfl
  | f :: fs, h => by
    obtain ⟨n, hn⟩ := Option.isSome_iff_exists.1 (h f (by simp))
    have ih := run_places fs fun g hg => h g (List.mem_cons_of_mem _ hg)
    rw [List.mapM_cons]
    simp only [Sem.run_bind, Sem.run_pure, run_sizeOf hn, Result.andThen_ok]
    rw [ih]
    simp [hn]
theorem popBuild_sound (hti : TIok P ti) {t : TypeId} {ps : List (Nat × Option AV)} {us : Array (Nat × Value)} {zs r : List SV} {φ : Prop} (ht : tstruct P t = true) (hz : zeroOf P t = some (.agg zs)) (hl : us.size = ps.length)
    (hr : ∀ (j : Nat) p q, ps[j]? = some p → us[j]? = some q → p.1 = q.1 ∧ ∀ v, p.2 = some v → v.rep R γ L q.2) (h : popBuild ti t zs ps = some (r, φ)) (hφ : φ) :
    ∃ u, (Instr.build t us).run P w = .ok u w ∧ (AV.agg r).rep R γ L u := by
  obtain ⟨fs, hu, ht⟩ : ∃ fs, P.underlying t = some (.struct fs) ∧ (fs.all fun f => (tsize P f.type).isSome) = true := by
    unfold tstruct at ht
    split at ht
    · rename_i fs hu; exact ⟨fs, hu, ht⟩
    · cases ht
  have hall : ∀ f ∈ fs.toList, (tsize P f.type).isSome := by
    intro f hf
    have := Array.all_eq_true'.1 ht f (by simpa using hf)
    exact this
  have hpl := run_places (P := P) (w := w) fs.toList hall
  have hzero : ∃ z, (zeroValue t).run P w = .ok z w ∧ CRep R γ L zs z.cells := by
    unfold zeroOf at hz
    cases hi : P.info? t with
    | none => simp [hi] at hz
    | some i =>
      simp only [hi, Option.bind_some] at hz
      cases hzz : i.zero with
      | none => simp [hzz] at hz
      | some z =>
        simp only [hzz, Option.bind_some] at hz
        refine ⟨z, by simp [zeroValue, typeInfo, program, Sem.run, hi, hzz], ?_⟩
        have := AV.ofVal_rep (R := R) (γ := γ) (L := L) hz
        exact cells_rep this rfl
  obtain ⟨z, hz1, hz2⟩ := hzero
  obtain ⟨cells', f1, f2⟩ := fill_rep hti (t := t) (places := (fs.toList.map fun f => (f.offset, (tsize P f.type).getD 0)).toArray) (by
    intro i o ty hf n hn
    obtain ⟨fs', fd, e1, e2, e3, e4⟩ := tfield_parts hf
    rw [hu] at e1
    injection e1 with e1; injection e1 with e1; subst e1
    subst e3 e4
    simp [e2, hn]) ps us.toList zs z.cells r φ (by simpa using hl) (fun j p q hp hq => hr j p q hp (by simpa using hq)) hz2 h hφ
  refine ⟨.agg cells', ?_, cells', rfl, f2.1, f2.2⟩
  have hm : (fs.mapM (fun f => (do pure (f.offset, ← sizeOf f.type) : Sem (Nat × Nat)))).run P w = .ok (fs.toList.map fun f => (f.offset, (tsize P f.type).getD 0)).toArray w := by
    rw [Array.mapM_eq_mapM_toList]
    simp only [Sem.run_map, hpl, Result.andThen_ok]
  unfold Instr.build
  simp only [Sem.run_bind, hz1, Result.andThen_ok, underlying, program, Sem.run, hu, Sem.run_pure]
  rw [hm]
  simp only [Result.andThen_ok]
  rw [f1]
  simp
end
end

section
open Go.RowKit

section
variable {P : Program} {ti : TI} {B : Nat → Prop} {R : PH} {γ : List Gh} {L : List Ob} {w : World}

theorem capsOf_rep {ρ : Operand → Option AV} {a : Act} (hρ : ∀ x v, ρ x = some v → v.rep R γ L (a.eval x)) : ∀ {xs : List Operand} {cs : List AC}, capsOf (xs.map ρ) = some cs →
    xs.length = cs.length ∧ ∀ (j : Nat) x y, xs[j]? = some x → cs[j]? = some y → PRep R (a.eval x) y
  | [], cs, h => by injection h with h; subst h; exact ⟨rfl, fun j x y hx => by simp at hx⟩
  | x :: xs, cs, h => by
    rw [List.map_cons] at h
    unfold capsOf at h
    split at h
    · rename_i heq; cases heq
    · rename_i y rest heq
      injection heq with e1 e2
      subst e2
      split at h
      · rename_i z zs hz hzs
        injection h with h; subst h
        obtain ⟨g1, g2⟩ := capsOf_rep hρ hzs
        refine ⟨by simp [g1], fun j x' y' hx hy => ?_⟩
        cases j with
        | zero => simp at hx hy; subst hx hy; exact SV.norm_rep (hρ _ _ e1) hz
        | succ j => exact g2 j x' y' (by simpa using hx) (by simpa using hy)
      · cases h
    · cases h

theorem two_of {ρ : Operand → Option AV} {args : Array Operand} {x y : AV} (h : args.toList.map ρ = [some x, some y]) : ∃ a b, args = #[a, b] ∧ ρ a = some x ∧ ρ b = some y := by
  obtain ⟨l⟩ := args
  match l, h with
  | [], h => cases h
  | [a], h => simp at h
  | [a, b], h => simp only [List.map_cons, List.map_nil, List.cons.injEq, and_true] at h; exact ⟨a, b, rfl, h⟩
  | a :: b :: c :: l, h => simp at h

theorem pop_sound (hti : TIok P ti) (hi : Inv B R γ L w) {a : Act} {ρ : Operand → Option AV} (hρ : ∀ x v, ρ x = some v → v.rep R γ L (a.eval x)) {o : Oper} {v : AV} {φ : Prop} (h : pop ti ρ L o.op = some (v, φ)) (hφ : φ) :
    OpTo P B R γ L w (execOp a.eval o) v := by
  obtain ⟨dst, op, type, pos, after, guard⟩ := o
  simp only at h
  unfold pop at h
  split at h
  · rename_i x
    split at h
    case h_2 => cases h
    · rename_i vx hx
      injection h with h; injection h with e1 e2; subst e1
      exact ⟨a.eval x, w, R, by simp [execOp], hi, Ext.refl _ _ _, hρ _ _ hx⟩
  · rename_i x
    split at h
    case h_2 => cases h
    · rename_i vx hx
      injection h with h; injection h with e1 e2; subst e1
      exact ⟨a.eval x, w, R, by simp [execOp], hi, Ext.refl _ _ _, hρ _ _ hx⟩
  · rename_i c x y
    split at h
    · rename_i t va vb hc hx hy
      injection h with h; injection h with e1 e2; subst e1
      have h1 := hρ _ _ hc
      generalize hcv : a.eval c = cv at h1
      cases h1
      refine ⟨if t = true then a.eval x else a.eval y, w, R, ?_, hi, Ext.refl _ _ _, ?_⟩
      · simp [execOp, hcv, asBool]
      · cases t
        · simpa using hρ _ _ hy
        · simpa using hρ _ _ hx
    · cases h
  · rename_i op' t x y yt
    split at h
    · rename_i va vb hx hy
      obtain ⟨u, h1, h2⟩ := popBin_sound (P := P) (x := x) (y := y) hti hi (hρ _ _ hx) (hρ _ _ hy) h hφ
      have := OpTo.quiet (P := P) (v := v) hi h1 h2
      simpa [execOp] using this
    · cases h
  · rename_i op' t x
    split at h
    · rename_i b hx
      injection h with h; injection h with e1 e2; subst e1
      have h1 := hρ _ _ hx
      generalize hcv : a.eval x = cv at h1
      cases h1
      exact ⟨.bool (!b), w, R, by simp [execOp, hcv, Op.unary], hi, Ext.refl _ _ _, .bool _⟩
    · rename_i k n hx
      injection h with h; injection h with e1 e2; subst e1
      have h1 := hρ _ _ hx
      generalize hcv : a.eval x = cv at h1
      cases h1
      exact ⟨.int k (k.wrap (0 - n)), w, R, by simp [execOp, hcv, Op.unary, Op.intArith], hi, Ext.refl _ _ _, .int _ _⟩
    · cases h
  · rename_i src ds x
    split at h
    · rename_i k n hx
      have h1 := hρ _ _ hx
      generalize hcv : a.eval x = cv at h1
      cases h1
      split at h
      · rename_i k' hd
        injection h with h; injection h with e1 e2; subst e1 e2
        obtain ⟨d, hd2⟩ := Option.isSome_iff_exists.1 hφ
        exact ⟨.int k' (k'.wrap n), w, R, by simp [execOp, hcv, convert, underlying, program, Sem.run, hti.kind _ _ hd, hti.kind _ _ hd2, Conv.intToInt], hi, Ext.refl _ _ _, .int _ _⟩
      · cases h
    · rename_i s hx
      have h1 := hρ _ _ hx
      generalize hcv : a.eval x = cv at h1
      cases h1
      injection h with h; injection h with e1 e2; subst e1 e2
      obtain ⟨hd, hs⟩ := hφ
      obtain ⟨d, hd2⟩ := Option.isSome_iff_exists.1 hs
      exact ⟨.string s, w, R, by simp [execOp, hcv, convert, underlying, program, Sem.run, hti.kind _ _ hd, hti.kind _ _ hd2], hi, Ext.refl _ _ _, .str _⟩
    · cases h
  · rename_i t p
    cases hx : ρ p with
    | none => simp [hx] at h
    | some vx =>
      rw [hx] at h
      obtain ⟨u, h1, h2⟩ := popLoad_sound hti hi (hρ _ _ hx) h hφ
      exact OpTo.quiet hi h1 h2
  · rename_i s x i
    cases hx : ρ x with
    | none => simp [hx] at h
    | some vx =>
      rw [hx] at h
      obtain ⟨u, h1, h2⟩ := popFieldAddr_sound hti (w := w) (hρ _ _ hx) h hφ
      exact OpTo.quiet hi h1 h2
  · rename_i s x i
    cases hx : ρ x with
    | none => simp [hx] at h
    | some vx =>
      rw [hx] at h
      obtain ⟨u, h1, h2⟩ := popField_sound hti (w := w) (hρ _ _ hx) h hφ
      exact OpTo.quiet hi h1 h2
  · rename_i t x ix
    split at h
    · rename_i vx vi hx hy
      obtain ⟨u, h1, h2⟩ := popIndexAddr_sound hti (w := w) (hρ _ _ hx) (hρ _ _ hy) h hφ
      exact OpTo.quiet hi h1 h2
    · cases h
  · rename_i t x ix
    split at h
    · rename_i vx vi hx hy
      obtain ⟨u, h1, h2⟩ := popIndex_sound hti (w := w) (hρ _ _ hx) (hρ _ _ hy) h hφ
      exact OpTo.quiet hi h1 h2
    · cases h
  · rename_i t i
    split at h
    · rename_i ps hx
      split at h
      case h_2 => cases h
      · rename_i p hp
        injection h with h; injection h with e1 e2; subst e1
        obtain ⟨vs, h1, h2, h3⟩ := hρ _ _ hx
        have hlt : i < vs.size := by rw [h2]; exact (List.getElem?_eq_some_iff.1 hp).1
        have hu : vs[i]? = some vs[i] := Array.getElem?_eq_getElem hlt
        exact ⟨vs[i], w, R, by simp [execOp, h1, Instr.extract, hu], hi, Ext.refl _ _ _, PV.av_rep (h3 i _ p hu hp)⟩
    · cases h
  · rename_i x
    split at h
    · rename_i cs hx
      injection h with h; injection h with e1 e2; subst e1
      have h1 := hρ _ _ hx
      have h1' := h1
      generalize hcv : a.eval x = cv at h1
      cases h1
      exact ⟨_, w, R, by simp [execOp, hcv]; rfl, hi, Ext.refl _ _ _, by rw [← hcv]; exact h1'⟩
    · rename_i id off hx
      injection h with h; injection h with e1 e2; subst e1
      obtain ⟨b, h1, h2⟩ := hρ _ _ hx
      exact ⟨.pointer (some ⟨b, off, none⟩), w, R, by simp [execOp, h1], hi, Ext.refl _ _ _, b, rfl, h2⟩
    · rename_i f cs hx
      injection h with h; injection h with e1 e2; subst e1
      have h1 := hρ _ _ hx
      have h1' := h1
      generalize hcv : a.eval x = cv at h1
      cases h1
      exact ⟨_, w, R, by simp [execOp, hcv]; rfl, hi, Ext.refl _ _ _, by rw [← hcv]; exact h1'⟩
    · cases h
  · rename_i t x lo hi'
    split at h
    · rename_i vx hx hl hh
      obtain rfl : lo = none := by cases lo <;> simp at hl ⊢
      obtain rfl : hi' = none := by cases hi' <;> simp at hh ⊢
      obtain ⟨u, h1, h2⟩ := popSlice_sound hti (w := w) (lo := none) (hi := none) (vlo := none) (vhi := none) (hρ _ _ hx) trivial trivial h hφ
      exact OpTo.quiet hi h1 h2
    · rename_i vx l hx hl hh
      obtain ⟨lo', rfl⟩ : ∃ l', lo = some l' := by cases lo <;> simp at hl ⊢
      obtain rfl : hi' = none := by cases hi' <;> simp at hh ⊢
      simp only [Option.map_some, Option.some.injEq] at hl
      obtain ⟨u, h1, h2⟩ := popSlice_sound hti (w := w) (lo := some l) (hi := none) (vlo := some (a.eval lo')) (vhi := none) (hρ _ _ hx) (hρ _ _ hl) trivial h hφ
      exact OpTo.quiet hi h1 h2
    · rename_i vx l hx hl hh
      obtain rfl : lo = none := by cases lo <;> simp at hl ⊢
      obtain ⟨hi'', rfl⟩ : ∃ l', hi' = some l' := by cases hi' <;> simp at hh ⊢
      simp only [Option.map_some, Option.some.injEq] at hh
      obtain ⟨u, h1, h2⟩ := popSlice_sound hti (w := w) (lo := none) (hi := some l) (vlo := none) (vhi := some (a.eval hi'')) (hρ _ _ hx) trivial (hρ _ _ hh) h hφ
      exact OpTo.quiet hi h1 h2
    · rename_i vx l l2 hx hl hh
      obtain ⟨lo', rfl⟩ : ∃ l', lo = some l' := by cases lo <;> simp at hl ⊢
      obtain ⟨hi'', rfl⟩ : ∃ l', hi' = some l' := by cases hi' <;> simp at hh ⊢
      simp only [Option.map_some, Option.some.injEq] at hl hh
      obtain ⟨u, h1, h2⟩ := popSlice_sound hti (w := w) (lo := some l) (hi := some l2) (vlo := some (a.eval lo')) (vhi := some (a.eval hi'')) (hρ _ _ hx) (hρ _ _ hl) (hρ _ _ hh) h hφ
      exact OpTo.quiet hi h1 h2
    · cases h
  · rename_i args argTypes
    split at h
    · rename_i x t hx ht
      cases hρx : ρ x with
      | none => simp [hρx] at h
      | some vx =>
        rw [hρx] at h
        obtain ⟨u, h1, h2⟩ := popLen_sound hti (w := w) (ty := type) (hρ _ _ hρx) h hφ
        have e1 : args = #[x] := by cases args; simp_all
        have e2 : argTypes = #[t] := by cases argTypes; simp_all
        subst e1 e2
        refine ⟨u, w, R, ?_, hi, Ext.refl _ _ _, h2⟩
        simp [execOp, resolve, invoke, builtin, h1]
    · cases h
  · rename_i args argTypes
    split at h
    · rename_i vx vy hxy
      obtain ⟨x, y, rfl, hx2, hy2⟩ := two_of hxy
      · obtain ⟨u, h1, h2⟩ := popMinMax_sound (P := P) (w := w) (ts := argTypes) (ty := type) (hρ _ _ hx2) (hρ _ _ hy2) h
        refine ⟨u, w, R, ?_, hi, Ext.refl _ _ _, h2⟩
        simp only [Bool.false_eq_true, if_false] at h1
        simp [execOp, resolve, invoke, builtin, h1]
    · cases h
  · rename_i args argTypes
    split at h
    · rename_i vx vy hxy
      obtain ⟨x, y, rfl, hx2, hy2⟩ := two_of hxy
      · obtain ⟨u, h1, h2⟩ := popMinMax_sound (P := P) (w := w) (ts := argTypes) (ty := type) (hρ _ _ hx2) (hρ _ _ hy2) h
        refine ⟨u, w, R, ?_, hi, Ext.refl _ _ _, h2⟩
        simp only [if_true] at h1
        simp [execOp, resolve, invoke, builtin, h1]
    · cases h
  · rename_i t parts
    split at h
    · rename_i zs hz
      split at h
      case h_2 => cases h
      · rename_i r ψ hb
        injection h with h; injection h with e1 e2; subst e1 e2
        obtain ⟨hts, hr⟩ := hφ
        obtain ⟨u, h1, h2⟩ := popBuild_sound hti (w := w) (R := R) (γ := γ) (L := L) (us := parts.map fun p => (p.1, a.eval p.2)) (hti.struct _ hts) (hti.zero _ _ hz) (by simp) (by
          intro j p q hp hq
          rw [List.getElem?_map] at hp
          rw [Array.getElem?_map] at hq
          cases hj : parts[j]? with
          | none => simp [hj] at hq
          | some pj =>
            have : parts.toList[j]? = some pj := by simpa using hj
            rw [this] at hp
            rw [hj] at hq
            simp only [Option.map_some, Option.some.injEq] at hp hq
            subst hp hq
            exact ⟨rfl, fun v hv => hρ _ _ hv⟩) hb hr
        exact OpTo.quiet hi h1 h2
    · cases h
  · rename_i f first captured
    split at h
    · rename_i cs hf hc
      injection h with h; injection h with e1 e2; subst e1
      obtain ⟨g1, g2⟩ := capsOf_rep hρ hc
      have : first = #[] := by cases first; simp_all
      subst this
      refine ⟨.func (.func f) #[] (captured.map a.eval), w, R, by simp [execOp, Instr.makeFunc], hi, Ext.refl _ _ _, ?_⟩
      refine .fn f _ cs (by simpa using g1) (fun j u x hu hx => ?_)
      rw [Array.getElem?_map] at hu
      cases hj : captured[j]? with
      | none => simp [hj] at hu
      | some y =>
        rw [hj] at hu
        simp only [Option.map_some, Option.some.injEq] at hu
        subst hu
        exact g2 j y x (by simpa using hj) hx
    · cases h
  · cases h
end
end

end Go.Proofs.Ytllenmkmompjpaa
