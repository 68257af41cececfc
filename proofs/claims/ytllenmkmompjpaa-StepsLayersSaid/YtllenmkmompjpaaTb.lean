/- A reading of memory as trees: the operations that make and turn objects; code; contracts. No condition. -/
import Derived.Test.YtllenmkmompjpaaTa
import Derived.Great.FillDense
import Derived.Deep.Upon
import Derived.LoopN
namespace Go.Proofs.Ytllenmkmompjpaa

section
open Go.RowKit Go.Great

def PV.cells : PV → List AC
  | .one x => [x]
  | .agg xs => xs
def elemsOf (ρ : Operand → Option AV) : List (Nat × Operand) → Nat → Option (List (List AC))
  | [], _ => some []
  | (i, x) :: ps, j => if i = j then match (ρ x).bind AV.norm, elemsOf ρ ps (j + 1) with
      | some p, some es => some (p.cells :: es)
      | _, _ => none
    else none
def popLit (ti : TI) (ρ : Operand → Option AV) (t : TypeId) (len : Nat) (parts : List (Nat × Operand)) : Option (AV × Prop) :=
  match elemsOf ρ parts 0, ti.elem t with
  | some es, some E => match ti.size E with
    | some k => if len = 0 then some (.one .emp, es = []) else some (.one (.c (.lst es)), es.length = len ∧ (∀ e ∈ es, e.length = k) ∧ 0 < k ∧ len * k ≤ 16777216 ∧ ti.zok E = true)
    | none => none
  | _, _ => none

def PH.add (R : PH) (b : Nat) (f : Nat → Option Value) : PH := fun b' o => if b' = b then f o else R b' o

section
variable {P : Program} {ti : TI} {B : Nat → Prop} {R : PH} {γ : List Gh} {L : List Ob} {w : World}

theorem Inv.lt (hi : Inv B R γ L w) {b o : Nat} {u : Value} (h : R b o = some u) : b < w.heap.size := lt_of_cell (hi.val _ _ _ h)
theorem Inv.none_at (hi : Inv B R γ L w) (o : Nat) : R w.heap.size o = none := by
  cases h : R w.heap.size o with
  | none => rfl
  | some u => have := hi.lt h; omega
theorem sub_add (hi : Inv B R γ L w) (f : Nat → Option Value) : PH.sub R (R.add w.heap.size f) := by
  intro b o u h
  have := hi.lt h
  unfold PH.add
  rw [if_neg (by omega)]; exact h
theorem heap_new (w : World) (o : Obj) : (w.alloc o).heap[w.heap.size]? = some o := by show (w.heap.push o)[w.heap.size]? = _; simp
theorem heap_old (w : World) (o : Obj) {b : Nat} (h : b < w.heap.size) : (w.alloc o).heap[b]? = w.heap[b]? := Below.heap_alloc w o b h

theorem Kept.alloc {B : Nat → Prop} {w : World} (h : ∀ b, B b → b < w.heap.size) (o : Obj) : Kept B w (w.alloc o) :=
  ⟨rfl, rfl, rfl, by simp, fun b hb => heap_old w o (h b hb)⟩
/-- A new block whose cells do not turn. -/
theorem Inv.pers (hi : Inv B R γ L w) (cells : Array Value) (E : TypeId) (f : Nat → Option Value) (hf : ∀ o u, f o = some u → cells[o]? = some u) : Inv B (R.add w.heap.size f) γ L (w.alloc (.cells cells E)) := by
  refine ⟨hi.len, fun b o u h => ?_, fun id x g hx hg => ?_, hi.inj, fun i g b hg hb => ?_, ?_⟩
  · unfold PH.add at h
    split at h
    · rename_i e; subst e
      rw [cell_of_block (heap_new w _)]
      exact hf o u h
    · have := hi.lt h
      have h2 := hi.val _ _ _ h
      rw [← h2]
      exact World.cell?_of_block (w := w) (heap_old w _ this)
  · refine (hi.obj id x g hx hg).mv (Mv.of_sub (sub_add hi _)) (fun b hb => heap_old w _ (hi.new id g b hg hb).2) (fun b o hb h => ?_)
    have := (hi.new id g b hg hb).2
    unfold PH.add
    rw [if_neg (by omega)]; exact h
  · have := hi.new i g b hg hb
    exact ⟨this.1, by simp; omega⟩
  · intro b hb; have := hi.bsz b hb; simp; omega
theorem Ext.pers (hi : Inv B R γ L w) (o : Obj) (f : Nat → Option Value) : Ext B R (R.add w.heap.size f) w (w.alloc o) := by
  refine ⟨Kept.alloc hi.bsz o, sub_add hi f, fun b o hb => ?_⟩
  have := hi.bsz b hb
  unfold PH.add
  rw [if_neg (by omega)]

theorem PV.cells_rep {p : PV} {u : Value} (h : p.rep R u) : u.cells.size = p.cells.length ∧ ∀ (j : Nat) v x, u.cells[j]? = some v → p.cells[j]? = some x → PRep R v x := by
  cases p with
  | one x =>
    have e := (PRep.one h).1
    rw [e]
    refine ⟨rfl, fun j v y hv hy => ?_⟩
    cases j with
    | zero => simp [PV.cells] at hv hy; subst hv hy; exact h
    | succ j => simp at hv
  | agg xs =>
    obtain ⟨vs, rfl, h1, h2⟩ := h
    exact ⟨h1, h2⟩

theorem elemsOf_rep {ρ : Operand → Option AV} {a : Act} (hρ : ∀ x v, ρ x = some v → v.rep R γ L (a.eval x)) : ∀ (ps : List (Nat × Operand)) (j : Nat) (es : List (List AC)), elemsOf ρ ps j = some es →
    ∃ vs : List Value, (ps.map fun p => (p.1, a.eval p.2)) = (vs.zipIdx j).map (fun x => (x.2, x.1)) ∧ vs.length = es.length ∧
      (∀ (i : Nat) v e, vs[i]? = some v → es[i]? = some e → v.cells.size = e.length ∧ ∀ (q : Nat) u x, v.cells[q]? = some u → e[q]? = some x → PRep R u x)
  | [], j, es, h => by injection h with h; subst h; exact ⟨[], rfl, rfl, fun i v e hv => by simp at hv⟩
  | (i, x) :: ps, j, es, h => by
    unfold elemsOf at h
    split at h
    · rename_i hij
      subst hij
      split at h
      · rename_i p es' hp hes
        injection h with h; subst h
        obtain ⟨vs, h1, h2, h3⟩ := elemsOf_rep hρ ps (i + 1) es' hes
        cases hx : ρ x with
        | none => simp [hx] at hp
        | some vx =>
          simp only [hx, Option.bind_some] at hp
          have hr := PV.cells_rep (AV.norm_rep (hρ _ _ hx) hp)
          refine ⟨a.eval x :: vs, by simp [List.zipIdx_cons, h1], by simp [h2], fun q v e hv he => ?_⟩
          cases q with
          | zero => simp at hv he; subst hv he; exact hr
          | succ q => exact h3 q v e (by simpa using hv) (by simpa using he)
      · cases h
    · cases h

theorem flat_get (k : Nat) : ∀ (vs : List Value), (∀ v ∈ vs, v.cells.size = k) → ∀ (i : Nat) (v : Value), vs[i]? = some v → ∀ j, j < k → (vs.flatMap fun v => v.cells.toList)[i * k + j]? = v.cells[j]?
  | [], _, i, v, h, j, hj => by simp at h
  | y :: l, hk, 0, v, h, j, hj => by
    simp at h; subst h
    rw [List.flatMap_cons, List.getElem?_append_left (by simp; rw [hk y (by simp)]; omega)]; simp
  | y :: l, hk, i + 1, v, h, j, hj => by
    have h' : l[i]? = some v := by simpa using h
    have hy := hk y (by simp)
    rw [List.flatMap_cons, List.getElem?_append_right (by simp; rw [hy, Nat.succ_mul]; omega), ← flat_get k l (fun u hu => hk u (List.mem_cons_of_mem _ hu)) i v h' j hj]
    congr 1; simp; rw [hy, Nat.succ_mul]; omega
theorem flat_len (k : Nat) : ∀ (vs : List Value), (∀ v ∈ vs, v.cells.size = k) → (vs.flatMap fun v => v.cells.toList).length = vs.length * k
  | [], _ => by simp
  | y :: l, hk => by
    rw [List.flatMap_cons, List.length_append, flat_len k l fun u hu => hk u (List.mem_cons_of_mem _ hu), List.length_cons, Nat.succ_mul]
    simp; rw [hk y (by simp)]; omega

theorem popLit_sound (hti : TIok P ti) (hi : Inv B R γ L w) {a : Act} {ρ : Operand → Option AV} (hρ : ∀ x v, ρ x = some v → v.rep R γ L (a.eval x)) {t : TypeId} {len : Nat} {parts : Array (Nat × Operand)} {v : AV} {φ : Prop}
    (h : popLit ti ρ t len parts.toList = some (v, φ)) (hφ : φ) :
    ∃ u w' R', (Instr.buildSlice t len (parts.map fun p => (p.1, a.eval p.2))).run P w = .ok u w' ∧ Inv B R' γ L w' ∧ Ext B R R' w w' ∧ v.rep R' γ L u := by
  unfold popLit at h
  split at h
  · rename_i es E hes hE
    split at h
    · rename_i k hk
      have hE := hti.elem _ _ hE
      have hk := hti.size _ _ hk
      have hu : P.underlying t = some (.slice E) := by
        unfold telem at hE
        split at hE
        · rename_i e he; injection hE with hE; subst hE; exact he
        · cases hE
      obtain ⟨vs, e1, e2, e3⟩ := elemsOf_rep hρ _ _ _ hes
      have hparts : (parts.map fun p => (p.1, a.eval p.2)).toList = (vs.zipIdx 0).map fun x => (x.2, x.1) := by rw [Array.toList_map, e1]
      split at h
      · rename_i hl0
        injection h with h; injection h with g1 g2; subst g1 g2
        subst hl0
        have hvs : vs = [] := List.eq_nil_of_length_eq_zero (by rw [e2, hφ]; rfl)
        subst hvs
        refine ⟨.slice (some ⟨w.heap.size, 0, none⟩) 0 0, w.alloc (.cells #[] E), R.add w.heap.size (fun _ => none), ?_, hi.pers _ _ _ (fun o u h => by cases h), Ext.pers hi _ _, _, rfl⟩
        have hz : (sizeOf E).run P w = .ok k w := run_sizeOf hk
        have hp0 : parts = #[] := by
          have : parts.toList = [] := by simpa using e1
          cases parts; simp_all
        subst hp0
        simp [Instr.buildSlice, underlying, program, Sem.run, hu, hz, Instr.fill, newRow]
        have e0 : (Array.map (fun (_ : Nat) => (default : Value)) (Array.range 0)) = #[] := by simp
        rw [e0]
      · rename_i hl0
        injection h with h; injection h with g1 g2; subst g1 g2
        obtain ⟨hlen, hek, hk0, hsm, hzk⟩ := hφ
        obtain ⟨i, z, hi1, hi2, hi3, hi4⟩ := hti.zok _ hzk _ hk
        have hcs : ∀ v ∈ vs, v.cells.size = k := by
          intro v hv
          obtain ⟨q, hq⟩ := List.mem_iff_getElem?.1 hv
          have hlt : q < es.length := by rw [← e2]; exact (List.getElem?_eq_some_iff.1 hq).1
          have he : es[q]? = some es[q] := List.getElem?_eq_getElem hlt
          rw [(e3 q v _ hq he).1]
          exact hek _ (List.getElem_mem hlt)
        have hne : ¬ len * i.size = 0 := by
          rw [hi3]
          intro e
          rcases Nat.mul_eq_zero.1 e with e | e <;> omega
        have hrun := run_buildSlice (P := P) w t E len (parts.map fun p => (p.1, a.eval p.2)) (vs.flatMap fun v => v.cells.toList).toArray i z hu hi1 hi2 (by rw [hi3]; omega) hne (by
          rw [hparts, hi3]
          exact Go.Great.fill_whole hk0 vs _ hcs (by simp; rw [e2, hlen]))
        refine ⟨_, _, R.add w.heap.size (fun o => (vs.flatMap fun v => v.cells.toList).toArray[o]?), hrun, hi.pers _ _ _ (fun o u h => h), Ext.pers hi _ _, ?_⟩
        have hsub := sub_add hi (fun o => (vs.flatMap fun v => v.cells.toList).toArray[o]?)
        refine .lst _ len len es k (fun j => ((vs.flatMap fun v => v.cells.toList)[j]?).getD Go.undef) w.heap.size 0 hlen (Nat.le_refl _) hek (fun _ => rfl) (fun j hj => ?_) (fun q e j x he hx => ?_)
        · unfold PH.add
          rw [if_pos rfl]
          have : j < (vs.flatMap fun v => v.cells.toList).length := by rw [flat_len k vs hcs, e2, hlen]; exact hj
          simp [List.getElem?_eq_getElem this]
        · have hqlt : q < vs.length := by rw [e2]; exact (List.getElem?_eq_some_iff.1 he).1
          have hv : vs[q]? = some vs[q] := List.getElem?_eq_getElem hqlt
          have hjk : j < k := by rw [← hek e (List.mem_of_getElem? he)]; exact (List.getElem?_eq_some_iff.1 hx).1
          have h3 := e3 q _ e hv he
          rw [flat_get k vs hcs q _ hv j hjk]
          have hju : j < vs[q].cells.size := by rw [h3.1]; exact (List.getElem?_eq_some_iff.1 hx).1
          rw [Array.getElem?_eq_getElem hju]
          exact PRep.mono hsub (h3.2 j _ x (Array.getElem?_eq_getElem hju) hx)
    · cases h
  · cases h
end
end

section
open Go.RowKit

/-- append onto a slice without room, or onto one whose room is the function's own. -/
def lopApp (ti : TI) (L : List Ob) (t tx : TypeId) (s x : AV) : Option (AV × List Ob × Prop) :=
  match listOf x, ti.elem t with
  | some xs, some E => match ti.size E, ti.bytes E with
    | some k, some by_ => match s with
      | .one .emp => some (.one (.own xs L.length), L ++ [.spare xs.length k], (ti.elem tx).isSome ∧ 0 < k ∧ ti.zok E = true ∧ (∀ e ∈ xs, e.length = k) ∧ xs.length * by_ ≤ 140737488355328 ∧ xs.length ≤ 140737488355328)
      | .one (.own es i) => match L[i]? with
        | some (.spare n k') => some (.one (.own (es ++ xs) i), L.set i (.spare (n + xs.length) k), (ti.elem tx).isSome ∧ k' = k ∧ es.length = n ∧ (ti.zok E = true ∧ 0 < k) ∧ (∀ e ∈ xs, e.length = k) ∧ (n + xs.length) * by_ ≤ 140737488355328 ∧ n + xs.length ≤ 140737488355328)
        | _ => none
      | _ => none
    | _, _ => none
  | _, _ => none

def lop (ti : TI) (ρ : Operand → Option AV) (L : List Ob) : Op → Option (AV × List Ob × Prop)
  | .alloc E => match (ti.zero E).bind AV.cells with
    | some zs => some (.one (.ptr L.length 0), L ++ [.box zs], True)
    | none => none
  | .box _ x => match (ρ x).bind AV.cells with
    | some xs => some (.one (.ptr L.length 0), L ++ [.box xs], True)
    | none => none
  | .store t p x => match ρ p, (ρ x).bind AV.cells with
    | some (.one (.ptr id off)), some xs => match L[id]? with
      | some (.box cs) => some (.undef, L.set id (.box (splice cs off xs)), off + xs.length ≤ cs.length ∧ ti.size t = some xs.length)
      | _ => none
    | _, _ => none
  | .call { callee := .builtin .append, args, argTypes } => match args.toList, argTypes.toList with
    | [s, x], [t, tx] => match ρ s, ρ x with
      | some vs, some vx => lopApp ti L t tx vs vx
      | _, _ => none
    | _, _ => none
  | _ => none

/-- Such an operation is carried out. -/
def LopTo (P : Program) (B : Nat → Prop) (R : PH) (γ : List Gh) (L L' : List Ob) (w : World) (s : Sem Next) (v : AV) : Prop :=
  ∃ w' R' γ', (((∃ u, s.run P w = .ok (.value u) w' ∧ v.rep R' γ' L' u) ∨ (s.run P w = .ok .skip w' ∧ v = .undef))) ∧ Inv B R' γ' L' w' ∧ Ext B R R' w w' ∧ Mv R R' γ γ' L L'

section
variable {P : Program} {B : Nat → Prop} {R : PH} {γ : List Gh} {L : List Ob} {w : World}

theorem Mv.push (g : Gh) (x : Ob) (hl : γ.length = L.length) : Mv R R γ (γ ++ [g]) L (L ++ [x]) := by
  refine ⟨PH.sub_refl _, by simp, fun t n k hlt h => ⟨n, ?_, Nat.le_refl _, fun _ => ?_⟩, fun id b h => ?_⟩
  · rw [List.getElem?_append_left hlt] at h; exact h
  · rw [List.getElem?_append_left (by rw [hl]; exact hlt)]
  · rw [List.getElem?_append_left (List.getElem?_eq_some_iff.1 h).1]; exact h

/-- A new object in a new block. -/
theorem Inv.push (hi : Inv B R γ L w) (x : Ob) (g : Gh) (o : Obj) (hg : g.block = some w.heap.size) (hx : ObjOK R (γ ++ [g]) (L ++ [x]) (w.alloc o) x g) : Inv B R (γ ++ [g]) (L ++ [x]) (w.alloc o) := by
  refine ⟨by simp [hi.len], fun b o' u h => ?_, fun id y h hy hh => ?_, fun i j gi gj h1 h2 hne b hb => ?_, fun i h b hh hb => ?_, ?_⟩
  · have := hi.lt h
    rw [← hi.val _ _ _ h]
    exact World.cell?_of_block (w := w) (heap_old w _ this)
  · by_cases hid : id < L.length
    · rw [List.getElem?_append_left hid] at hy
      rw [List.getElem?_append_left (by rw [hi.len]; exact hid)] at hh
      exact (hi.obj id y h hy hh).mv (Mv.push g x hi.len) (fun b hb => heap_old w _ (hi.new id h b hh hb).2) (fun _ _ _ h => h)
    · have hid' : id = L.length := by have := (List.getElem?_eq_some_iff.1 hy).1; simp at this; omega
      subst hid'
      rw [List.getElem?_append_right (by omega)] at hy
      rw [List.getElem?_append_right (by rw [hi.len]; omega), hi.len] at hh
      simp at hy hh; subst hy hh
      exact hx
  · have bnd : ∀ i h, (γ ++ [g])[i]? = some h → (i < γ.length ∧ γ[i]? = some h) ∨ (i = γ.length ∧ h = g) := by
      intro i h hh
      by_cases hid : i < γ.length
      · rw [List.getElem?_append_left hid] at hh; exact .inl ⟨hid, hh⟩
      · have : i = γ.length := by have := (List.getElem?_eq_some_iff.1 hh).1; simp at this; omega
        subst this
        rw [List.getElem?_append_right (by omega)] at hh
        simp at hh
        exact .inr ⟨rfl, hh.symm⟩
    rcases bnd i gi h1 with ⟨a1, a2⟩ | ⟨a1, a2⟩ <;> rcases bnd j gj h2 with ⟨b1, b2⟩ | ⟨b1, b2⟩
    · exact hi.inj i j gi gj a2 b2 hne b hb
    · subst b2; have := (hi.new i gi b a2 hb).2; rw [hg]; intro e; injection e with e; omega
    · subst a2; rw [hg] at hb; injection hb with hb; subst hb
      intro e; have := (hi.new j gj _ b2 e).2; omega
    · omega
  · by_cases hid : i < γ.length
    · rw [List.getElem?_append_left hid] at hh
      have := hi.new i h b hh hb
      exact ⟨this.1, by simp; omega⟩
    · have : i = γ.length := by have := (List.getElem?_eq_some_iff.1 hh).1; simp at this; omega
      subst this
      rw [List.getElem?_append_right (by omega)] at hh
      simp at hh; subst hh
      rw [hg] at hb; injection hb with hb; subst hb
      exact ⟨fun hB => by have := hi.bsz _ hB; omega, by simp⟩
  · intro b hb; have := hi.bsz b hb; simp; omega

theorem box_sound (hi : Inv B R γ L w) {xs : List SV} {vs : Array Value} (E : TypeId) (h : CRep R γ L xs vs) :
    Inv B R (γ ++ [.box w.heap.size]) (L ++ [.box xs]) (w.alloc (.cells vs E)) ∧ (SV.ptr L.length 0).rep R (γ ++ [.box w.heap.size]) (L ++ [.box xs]) (.pointer (some ⟨w.heap.size, 0, none⟩)) := by
  refine ⟨hi.push _ _ _ rfl ⟨⟨vs, E, heap_new w _, h.1, fun j u x hu hx => SV.mv (Mv.push _ _ hi.len) (h.2 j u x hu hx)⟩, fun o => hi.none_at o⟩, w.heap.size, rfl, ?_⟩
  rw [List.getElem?_append_right (by rw [hi.len]; omega), hi.len]; simp

theorem heap_setCells (b : Nat) (E : TypeId) (f : Nat × Nat) : ∀ (vs : List Value) (o : Nat) (w : World) (cs : Array Value), w.heap[b]? = some (.cells cs E f) → o + vs.length ≤ cs.size →
    ∃ cs', (w.setCells b o vs).heap[b]? = some (.cells cs' E f) ∧ cs'.size = cs.size ∧ ∀ i, cs'[i]? = if o ≤ i ∧ i < o + vs.length then vs[i - o]? else cs[i]?
  | [], o, w, cs, h, _ => ⟨cs, h, rfl, fun i => by rw [if_neg (by intro h; simp only [List.length_nil] at h; omega)]⟩
  | v :: vs, o, w, cs, h, hl => by
    rw [List.length_cons] at hl
    have h1 : (w.setCell ⟨b, o, none⟩ v).heap[b]? = some (.cells (cs.setIfInBounds o v) E f) := by
      simp [World.setCell, Array.getElem?_modify, h]
    obtain ⟨cs', g1, g2, g3⟩ := heap_setCells b E f vs (o + 1) _ _ h1 (by simp; omega)
    refine ⟨cs', g1, by rw [g2]; simp, fun i => ?_⟩
    rw [g3 i]
    by_cases c1 : o + 1 ≤ i ∧ i < o + 1 + vs.length
    · rw [if_pos c1, if_pos (by simp; omega)]
      have : i - o = (i - (o + 1)) + 1 := by omega
      rw [this, List.getElem?_cons_succ]
    · rw [if_neg c1]
      by_cases c2 : i = o
      · subst c2
        rw [if_pos (by simp)]
        rw [Array.getElem?_setIfInBounds_self_of_lt (by omega)]
        simp
      · rw [if_neg (by simp; omega), Array.getElem?_setIfInBounds_ne (by omega)]
theorem heap_setCells_ne (b : Nat) {b' : Nat} (hne : b' ≠ b) : ∀ (vs : List Value) (o : Nat) (w : World), (w.setCells b o vs).heap[b']? = w.heap[b']?
  | [], _, _ => rfl
  | v :: vs, o, w => (heap_setCells_ne b hne vs (o + 1) _).trans (Below.heap_setCell w _ v b' hne)
theorem size_setCells' (b : Nat) : ∀ (vs : List Value) (o : Nat) (w : World), (w.setCells b o vs).heap.size = w.heap.size
  | [], _, _ => rfl
  | v :: vs, o, w => (size_setCells' b vs (o + 1) _).trans (by simp [World.setCell])
theorem below_setCells' {B : Nat → Prop} {b : Nat} (hb : ¬ B b) : ∀ (vs : List Value) (o : Nat) (w : World), Kept B w (w.setCells b o vs)
  | [], _, _ => Kept.refl _ _
  | v :: vs, o, w => (⟨rfl, rfl, rfl, by simp [World.setCell], fun b' hb' => Below.heap_setCell w ⟨b, o, none⟩ v b' (fun e => hb (by have e' : b' = b := e; rw [← e']; exact hb'))⟩ : Kept B w (w.setCell ⟨b, o, none⟩ v)).trans (below_setCells' hb vs (o + 1) _)

/-- An object's place is looked at anew, the others stay. -/
theorem Inv.turn (hi : Inv B R γ L w) {id : Nat} {x x' : Ob} {g : Gh} {b : Nat} (hx : L[id]? = some x) (hg : γ[id]? = some g) (hb : g.block = some b) {R' : PH} {w' : World} (hm : Mv R R' γ γ L (L.set id x'))
    (hw : ∀ b', b' ≠ b → w'.heap[b']? = w.heap[b']?) (hs : w'.heap.size = w.heap.size) (hR : ∀ b' o, b' ≠ b → R' b' o = R b' o) (hv : ∀ o u, R' b o = some u → w'.cell? ⟨b, o, none⟩ = some u)
    (hobj : ObjOK R' γ (L.set id x') w' x' g) : Inv B R' γ (L.set id x') w' := by
  refine ⟨by simp [hi.len], fun b' o u h => ?_, fun i y h hy hh => ?_, hi.inj, fun i h b' hh hb' => by rw [hs]; exact hi.new i h b' hh hb', by rw [hs]; exact hi.bsz⟩
  · by_cases hbb : b' = b
    · subst hbb; exact hv o u h
    · rw [hR b' o hbb] at h
      rw [← hi.val _ _ _ h]
      exact World.cell?_of_block (w := w) (hw b' hbb)
  · by_cases hid : i = id
    · subst hid
      rw [List.getElem?_set_self (List.getElem?_eq_some_iff.1 hx).1] at hy
      injection hy with hy; subst hy
      rw [hg] at hh; injection hh with hh; subst hh
      exact hobj
    · rw [List.getElem?_set_ne (Ne.symm hid)] at hy
      have hne : ∀ b', h.block = some b' → b' ≠ b := fun b' hb' e => hi.inj i id h g hh hg hid b' hb' (by rw [hb, e])
      exact (hi.obj i y h hy hh).mv hm (fun b' hb' => hw b' (hne b' hb')) (fun b' o hb' e => by rw [hR b' o (hne b' hb')]; exact e)

theorem store_sound (hi : Inv B R γ L w) {id off : Nat} {cs xs : List SV} {b : Nat} {u : Value} {t : TypeId} (hL : L[id]? = some (.box cs)) (hg : γ[id]? = some (.box b)) (hu : CRep R γ L xs u.cells) (h1 : ∀ c ∈ u.cells, c.oneCell' = true)
    (hle : off + xs.length ≤ cs.length) (ht : tsize P t = some xs.length) :
    ∃ w', (Instr.storeAt t (.pointer (some ⟨b, off, none⟩)) u).run P w = .ok () w' ∧ Inv B R γ (L.set id (.box (splice cs off xs))) w' ∧ Ext B R R w w' ∧ Mv R R γ γ L (L.set id (.box (splice cs off xs))) := by
  obtain ⟨⟨vs, E, hb, hs, hv⟩, hR⟩ := hi.obj id _ _ hL hg
  have hsz : u.cells.size = xs.length := hu.1
  have hthere : ∀ j, j < u.cells.toList.length → (w.cell? ⟨b, off + 0 + j, none⟩).isSome = true := by
    intro j hj
    rw [cell_of_block hb]
    have : off + 0 + j < vs.size := by simp at hj; omega
    rw [Array.getElem?_eq_getElem this]; rfl
  have hfz : ∀ j, j < u.cells.toList.length → w.frozen? ⟨b, off + 0 + j, none⟩ = false := by
    intro j _
    simp [World.frozen?, hb]
  have hrun := run_storeCells_cells (P := P) b off u.cells.toList 0 w hthere hfz (fun v hv => h1 v (by simpa using hv))
  obtain ⟨cs', g1, g2, g3⟩ := heap_setCells b E (0, 0) u.cells.toList off w vs hb (by simp; omega)
  have hm : Mv R R γ γ L (L.set id (.box (splice cs off xs))) := by
    refine ⟨PH.sub_refl _, by simp, fun t' n k hlt h => ⟨n, ?_, Nat.le_refl _, fun _ => rfl⟩, fun _ _ h => h⟩
    have : t' ≠ id := by rintro rfl; rw [List.getElem?_set_self hlt] at h; cases h
    rw [List.getElem?_set_ne (Ne.symm this)] at h; exact h
  refine ⟨w.setCells b off u.cells.toList, ?_, ?_, ?_, hm⟩
  · have hst : (storeVar t ⟨b, off, none⟩ u).run P w = .ok () (w.setCells b off u.cells.toList) := by
      unfold storeVar
      simp [run_sizeOf ht, hsz]
      simpa using hrun
    simp [Instr.storeAt, Instr.sureAddr, hst]
  · refine hi.turn hL hg rfl hm (fun b' hne => heap_setCells_ne b hne _ _ _) (size_setCells' _ _ _ _) (fun _ _ _ => rfl) (fun o u h => by rw [hR o] at h; cases h) ?_
    refine ⟨⟨cs', E, g1, by rw [g2, splice_len hle, hs], fun j v x hv' hx => ?_⟩, hR⟩
    rw [g3 j] at hv'
    rw [splice_get hle] at hx
    by_cases hj : off ≤ j ∧ j < off + xs.length
    · rw [if_pos hj] at hx
      rw [if_pos (by simp; omega)] at hv'
      exact SV.mv hm (hu.2 (j - off) v x (by simpa using hv') hx)
    · rw [if_neg hj] at hx
      rw [if_neg (by simp; omega)] at hv'
      exact SV.mv hm (hv j v x hv' hx)
  · refine ⟨below_setCells' (hi.new id _ b hg rfl).1 _ _ _, PH.sub_refl _, fun _ _ _ => rfl⟩
end
end

section
open Go.RowKit

section
variable {P : Program} {B : Nat → Prop} {R : PH} {γ : List Gh} {L : List Ob} {w : World}

theorem idx_lt {i j k n : Nat} (hi : i < n) (hj : j < k) : i * k + j < n * k := by
  have : (i + 1) * k ≤ n * k := Nat.mul_le_mul_right _ hi
  rw [Nat.succ_mul] at this; omega

/-- The cells of a slice that reads as a tree. -/
structure Cells (R : PH) (k : Nat) (es : List (List AC)) (news : List Value) : Prop where
  len : news.length = es.length * k
  wide : ∀ e ∈ es, e.length = k
  get : ∀ (i : Nat) e (j : Nat) y, es[i]? = some e → e[j]? = some y → ∃ u, news[i * k + j]? = some u ∧ PRep R u y

theorem Cells.one {k : Nat} {es : List (List AC)} {news : List Value} (h : Cells R k es news) : ∀ u ∈ news, u.oneCell' = true := by
  intro u hu
  obtain ⟨q, hq⟩ := List.mem_iff_getElem?.1 hu
  have hlt := (List.getElem?_eq_some_iff.1 hq).1
  rw [h.len] at hlt
  have hk : 0 < k := by
    rcases Nat.eq_zero_or_pos k with e | e
    · subst e; simp at hlt
    · exact e
  have h1 : q / k < es.length := Nat.div_lt_of_lt_mul (by rw [Nat.mul_comm]; exact hlt)
  have h2 : q % k < k := Nat.mod_lt _ hk
  have he : es[q / k]? = some es[q / k] := List.getElem?_eq_getElem h1
  have hj : q % k < es[q / k].length := by rw [h.wide _ (List.getElem_mem h1)]; exact h2
  obtain ⟨u', hu', hp⟩ := h.get _ _ (q % k) _ he (List.getElem?_eq_getElem hj)
  rw [Nat.div_add_mod' q k, hq] at hu'
  injection hu' with hu'; subst hu'
  exact hp.one.2

theorem lst_cells {v : Value} {es : List (List AC)} {k : Nat} (h : PRep R v (.lst es)) (hk : ∀ e ∈ es, e.length = k) :
    ∃ a c news, v = .slice a es.length c ∧ es.length ≤ c ∧ Cells R k es news ∧ (0 < es.length → ∃ b o, a = some ⟨b, o, none⟩ ∧ ∀ (j : Nat) u, news[j]? = some u → R b (o + j) = some u) := by
  cases h with
  | lst a n c _ k' cv b o hn hc hkk ha hr hx =>
    subst hn
    by_cases hz : es.length = 0
    · have : es = [] := List.eq_nil_of_length_eq_zero hz
      subst this
      exact ⟨a, c, [], rfl, hc, ⟨by simp, by simp, fun i e j y he => by simp at he⟩, fun h => absurd h (by simp)⟩
    · have hkk' : k' = k := by
        have h0 : 0 < es.length := by omega
        rw [← hkk es[0] (List.getElem_mem h0), hk es[0] (List.getElem_mem h0)]
      subst hkk'
      refine ⟨a, c, (List.range (es.length * k')).map cv, rfl, hc, ⟨by simp, hk, fun i e j y he hy => ⟨cv (i * k' + j), ?_, hx i e j y he hy⟩⟩, fun hp => ⟨b, o, ha hp, fun j u hu => ?_⟩⟩
      · have h1 := (List.getElem?_eq_some_iff.1 he).1
        have h2 : j < k' := by rw [← hk e (List.mem_of_getElem? he)]; exact (List.getElem?_eq_some_iff.1 hy).1
        rw [List.getElem?_map, List.getElem?_range (idx_lt h1 h2)]; rfl
      · rw [List.getElem?_map] at hu
        by_cases hj : j < es.length * k'
        · rw [List.getElem?_range hj] at hu
          injection hu with hu; subst hu
          exact hr j hj
        · rw [List.getElem?_eq_none (by simp; omega)] at hu; cases hu

theorem prep_mk {es : List (List AC)} {k : Nat} {news : List Value} (h : Cells R k es news) (b o c : Nat) (hc : es.length ≤ c) (hR : ∀ (j : Nat) u, news[j]? = some u → R b (o + j) = some u) :
    PRep R (.slice (some ⟨b, o, none⟩) es.length c) (.lst es) := by
  refine .lst _ _ _ es k (fun j => (news[j]?).getD Go.undef) b o rfl hc h.wide (fun _ => rfl) (fun j hj => ?_) (fun i e j y he hy => ?_)
  · have hlt : j < news.length := by rw [h.len]; exact hj
    have e : news[j]? = some news[j] := List.getElem?_eq_getElem hlt
    rw [hR j _ e, e]; rfl
  · obtain ⟨u, h1, h2⟩ := h.get i e j y he hy
    rw [h1]; exact h2

theorem Cells.mono {R' : PH} (hs : PH.sub R R') {es : List (List AC)} {k : Nat} {news : List Value} (h : Cells R k es news) : Cells R' k es news :=
  ⟨h.len, h.wide, fun i e j y he hy => let ⟨u, h1, h2⟩ := h.get i e j y he hy; ⟨u, h1, PRep.mono hs h2⟩⟩
theorem Cells.app {es xs : List (List AC)} {k : Nat} {olds news : List Value} (h : Cells R k es olds) (g : Cells R k xs news) : Cells R k (es ++ xs) (olds ++ news) := by
  refine ⟨by simp [h.len, g.len, Nat.add_mul], fun e he => ?_, fun i e j y he hy => ?_⟩
  · rcases List.mem_append.1 he with he | he
    · exact h.wide e he
    · exact g.wide e he
  · have hj : j < k := by
      rw [← show e.length = k from ?_]
      · exact (List.getElem?_eq_some_iff.1 hy).1
      · rcases List.mem_append.1 (List.mem_of_getElem? he) with he | he
        · exact h.wide e he
        · exact g.wide e he
    by_cases hi : i < es.length
    · rw [List.getElem?_append_left hi] at he
      obtain ⟨u, h1, h2⟩ := h.get i e j y he hy
      exact ⟨u, by rw [List.getElem?_append_left (List.getElem?_eq_some_iff.1 h1).1]; exact h1, h2⟩
    · rw [List.getElem?_append_right (by omega)] at he
      obtain ⟨u, h1, h2⟩ := g.get (i - es.length) e j y he hy
      refine ⟨u, ?_, h2⟩
      have hle : es.length * k ≤ i * k := Nat.mul_le_mul_right _ (by omega)
      rw [List.getElem?_append_right (by rw [h.len]; omega), h.len]
      have : i * k + j - es.length * k = (i - es.length) * k + j := by rw [Nat.sub_mul]; omega
      rw [this]; exact h1

theorem src_of {tx E' : TypeId} {k : Nat} (htx : P.underlying tx = some (.slice E')) (hi : Inv B R γ L w) {x : Value} {xs : List (List AC)} (h : PRep R x (.lst xs)) (hk : ∀ e ∈ xs, e.length = k) :
    ∃ news, Src P k tx x xs.length news w ∧ Cells R k xs news := by
  obtain ⟨a, c, news, rfl, hc, hcells, hR⟩ := lst_cells h hk
  refine ⟨news, ?_, hcells⟩
  cases a with
  | none =>
    have h0 : xs.length = 0 := by
      rcases Nat.eq_zero_or_pos xs.length with e | e
      · exact e
      · obtain ⟨b, o, e1, _⟩ := hR e; cases e1
    have hn : news = [] := List.eq_nil_of_length_eq_zero (by rw [hcells.len, h0]; simp)
    rw [h0, hn]
    exact Src.ofNil w htx c
  | some ad =>
    refine Src.ofSlice w htx ad xs.length c news hcells.len (fun j u hu => ?_) hcells.one
    have hp : 0 < xs.length := by
      rcases Nat.eq_zero_or_pos xs.length with e | e
      · have : news = [] := List.eq_nil_of_length_eq_zero (by rw [hcells.len, e]; simp)
        rw [this] at hu; simp at hu
      · exact e
    obtain ⟨b, o, e1, e2⟩ := hR hp
    injection e1 with e1; subst e1
    rw [Addr.add_mid]
    exact hi.val _ _ _ (e2 j u hu)

/-- An object moves to a new block. -/
theorem Inv.move (hi : Inv B R γ L w) {i n k n' c : Nat} (hx : L[i]? = some (.spare n k)) (hn : n < n') (hnc : n' ≤ c) (hk : 0 < k) (cells : Array Value) (E : TypeId) (hcs : cells.size = c * k) (f : Nat → Option Value) (hf : ∀ o u, f o = some u → cells[o]? = some u)
    (hf' : ∀ o, n' * k ≤ o → f o = none) :
    Inv B (R.add w.heap.size f) (γ.set i (.arr w.heap.size c)) (L.set i (.spare n' k)) (w.drew.alloc (.cells cells E)) ∧ Mv R (R.add w.heap.size f) γ (γ.set i (.arr w.heap.size c)) L (L.set i (.spare n' k)) := by
  have hlt : i < L.length := (List.getElem?_eq_some_iff.1 hx).1
  have hm : Mv R (R.add w.heap.size f) γ (γ.set i (.arr w.heap.size c)) L (L.set i (.spare n' k)) := by
    refine ⟨sub_add hi f, by simp, fun t m k' hlt' h => ?_, fun id b h => ?_⟩
    · by_cases ht : t = i
      · subst ht
        rw [List.getElem?_set_self hlt] at h; injection h with h; injection h with h1 h2; subst h1 h2
        exact ⟨n, hx, by omega, fun e => by omega⟩
      · rw [List.getElem?_set_ne (Ne.symm ht)] at h
        exact ⟨m, h, Nat.le_refl _, fun _ => by rw [List.getElem?_set_ne (Ne.symm ht)]⟩
    · have : id ≠ i := by
        rintro rfl
        have := hi.obj id _ _ hx h
        exact this
      rw [List.getElem?_set_ne (Ne.symm this)]; exact h
  have gcase : ∀ j h, (γ.set i (Gh.arr w.heap.size c))[j]? = some h → (j = i ∧ h = .arr w.heap.size c) ∨ (j ≠ i ∧ γ[j]? = some h) := by
    intro j h hh
    by_cases hj : j = i
    · subst hj
      rw [List.getElem?_set_self (by rw [hi.len]; exact hlt)] at hh
      injection hh with hh
      exact .inl ⟨rfl, hh.symm⟩
    · rw [List.getElem?_set_ne (Ne.symm hj)] at hh
      exact .inr ⟨hj, hh⟩
  have hold : ∀ b, b < w.heap.size → (w.drew.alloc (.cells cells E)).heap[b]? = w.heap[b]? := fun b hb => heap_old w.drew _ hb
  refine ⟨⟨by simp [hi.len], fun b o u h => ?_, fun id y h hy hh => ?_, fun j1 j2 g1 g2 h1 h2 hne b hb => ?_, fun j h b hh hb => ?_, ?_⟩, hm⟩
  · unfold PH.add at h
    split at h
    · rename_i e; subst e
      have this : (w.drew.alloc (.cells cells E)).heap[w.heap.size]? = some (.cells cells E) := heap_new w.drew (.cells cells E)
      rw [cell_of_block this]
      exact hf o u h
    · have := hi.lt h
      rw [← hi.val _ _ _ h]
      exact World.cell?_of_block (w := w) (hold b this)
  · rcases gcase id h hh with ⟨rfl, rfl⟩ | ⟨hne, hh'⟩
    · rw [List.getElem?_set_self hlt] at hy
      injection hy with hy; subst hy
      refine ⟨⟨cells, E, heap_new w.drew _, hcs⟩, hnc, hk, fun o ho => ?_⟩
      unfold PH.add
      rw [if_pos rfl]; exact hf' o ho
    · rw [List.getElem?_set_ne (Ne.symm hne)] at hy
      refine (hi.obj id y h hy hh').mv hm (fun b hb => hold b (hi.new id h b hh' hb).2) (fun b o hb e => ?_)
      have := (hi.new id h b hh' hb).2
      unfold PH.add
      rw [if_neg (by omega)]; exact e
  · rcases gcase j1 g1 h1 with ⟨a1, rfl⟩ | ⟨a1, a2⟩ <;> rcases gcase j2 g2 h2 with ⟨b1, rfl⟩ | ⟨b1, b2⟩
    · omega
    · simp only [Gh.block, Option.some.injEq] at hb
      subst hb
      intro e; have := (hi.new j2 g2 _ b2 e).2; omega
    · have := (hi.new j1 g1 b a2 hb).2
      simp only [Gh.block, ne_eq, Option.some.injEq]; omega
    · exact hi.inj j1 j2 g1 g2 a2 b2 hne b hb
  · have e : (w.drew.alloc (.cells cells E)).heap.size = w.heap.size + 1 := by show (w.heap.push _).size = _; simp
    rcases gcase j h hh with ⟨_, rfl⟩ | ⟨_, b2⟩
    · simp only [Gh.block, Option.some.injEq] at hb; subst hb
      exact ⟨fun hB => by have := hi.bsz _ hB; omega, by omega⟩
    · have := hi.new j h b b2 hb
      exact ⟨this.1, by omega⟩
  · have e : (w.drew.alloc (.cells cells E)).heap.size = w.heap.size + 1 := by show (w.heap.push _).size = _; simp
    intro b hb
    have := hi.bsz b hb
    omega

theorem app_own (hi : Inv B R γ L w) {t tx ty E E' : TypeId} {k by_ : Nat} {es xs : List (List AC)} {i n : Nat} {v x : Value} (ht : P.underlying t = some (.slice E)) (htx : P.underlying tx = some (.slice E')) (hk0 : 0 < k) (hz : tzero P E k) (hby : tbytes P E = some by_)
    (hL : L[i]? = some (.spare n k)) (hv : (SV.own es i).rep R γ L v) (hn : es.length = n) (hx : PRep R x (.lst xs)) (hxk : ∀ e ∈ xs, e.length = k)
    (hb1 : (n + xs.length) * by_ ≤ 140737488355328) (hb2 : n + xs.length ≤ 140737488355328) :
    ∃ u w' R' γ', (Builtin.append_ #[t, tx] ty #[v, x]).run P w = .ok u w' ∧ Inv B R' γ' (L.set i (.spare (n + xs.length) k)) w' ∧ Ext B R R' w w' ∧ Mv R R' γ γ' L (L.set i (.spare (n + xs.length) k)) ∧
      (SV.own (es ++ xs) i).rep R' γ' (L.set i (.spare (n + xs.length) k)) u := by
  obtain ⟨inf, z, hinf, hzz, hisz, hzc⟩ := hz
  have hbytes : inf.bytes = by_ := by unfold tbytes at hby; rw [hinf] at hby; simpa using hby
  obtain ⟨hpv, _, hall0⟩ := hv
  obtain ⟨_, hek, hlk⟩ := hall0 n k hL
  obtain ⟨g, hg, hlink⟩ := hlk hn
  have hlt : i < L.length := (List.getElem?_eq_some_iff.1 hL).1
  obtain ⟨news, hsrc, hnews⟩ := src_of (P := P) (k := k) htx hi hx hxk
  have hsrc' : Src P inf.size tx x xs.length news w := by rw [hisz]; exact hsrc
  have hobj := hi.obj i _ _ hL hg
  -- growing
  have grow : ∀ (a : Option Addr) (c : Nat), v = .slice a n c → c < n + xs.length → 0 < k → ∃ u w' R' γ', (Builtin.append_ #[t, tx] ty #[v, x]).run P w = .ok u w' ∧ Inv B R' γ' (L.set i (.spare (n + xs.length) k)) w' ∧ Ext B R R' w w' ∧ Mv R R' γ γ' L (L.set i (.spare (n + xs.length) k)) ∧
      (SV.own (es ++ xs) i).rep R' γ' (L.set i (.spare (n + xs.length) k)) u := by
    intro a c hva hc hk
    obtain ⟨a', c', olds, hv', hcc, holds, hRo⟩ := lst_cells hpv hek
    rw [hva] at hv'
    injection hv' with q1 q2 q3
    subst q1 q3
    have hpos : 0 < xs.length := by omega
    have hfc : (Builtin.firstCells inf.size n (.slice a n c)).run P w.drew = .ok olds.toArray w.drew := by
      rw [hisz]
      cases a with
      | none =>
        have h0 : es.length = 0 := by
          rcases Nat.eq_zero_or_pos es.length with e | e
          · exact e
          · obtain ⟨b, o, e1, _⟩ := hRo e; cases e1
        have : olds = [] := List.eq_nil_of_length_eq_zero (by rw [holds.len, h0]; simp)
        rw [this]
        exact run_firstCells_none w.drew k n n c
      | some ad =>
        refine run_firstCells_some w.drew k n ad n c olds (by rw [holds.len, hn]) (fun j u hu => ?_)
        have hp : 0 < es.length := by
          rcases Nat.eq_zero_or_pos es.length with e | e
          · have : olds = [] := List.eq_nil_of_length_eq_zero (by rw [holds.len, e]; simp)
            rw [this] at hu; simp at hu
          · exact e
        obtain ⟨b, o, e1, e2⟩ := hRo hp
        injection e1 with e1; subst e1
        rw [Addr.add_mid]
        exact hi.val _ _ _ (e2 j u hu)
    have hrun := run_append_grow_src (P := P) (w := w) t tx ty E inf z ht hinf hzz a n c olds hfc x xs.length news hsrc' hc (by omega) (by
      have h2 := nextslicecap_le hc
      have h3 : Builtin.nextslicecap (n + xs.length) c * inf.bytes ≤ 2 * (n + xs.length) * inf.bytes := Nat.mul_le_mul_right _ h2
      rw [hbytes] at h3 ⊢
      rw [Nat.mul_assoc] at h3
      omega)
    have hcap := grownCap_ge w (n + xs.length) c E
    generalize grownCap w (n + xs.length) c E = cap at hrun hcap
    have hall := holds.app hnews
    have hall_len : (olds ++ news).length = (n + xs.length) * k := by rw [hall.len, List.length_append, hn]
    obtain ⟨hI, hM⟩ := hi.move hL (n' := n + xs.length) (c := cap) (by omega) hcap hk ((olds ++ news).toArray ++ Builtin.zeroCells z.cells (cap - (n + xs.length))) E
      (by rw [Array.size_append, size_zeroCells, hzc]; simp only [List.size_toArray]; rw [hall_len, ← Nat.add_mul]; congr 1; omega) (fun o => if o < (n + xs.length) * k then (olds ++ news)[o]? else none)
      (fun o u h => by
        split at h
        · rename_i hlt2
          rw [Array.getElem?_append_left (by simp only [List.size_toArray]; omega)]
          simpa using h
        · cases h) (fun o ho => by rw [if_neg (by omega)])
    refine ⟨_, _, _, _, by rw [hva]; exact hrun, hI, ?_, hM, ?_, by simpa using hlt, fun n2 k2 e2 => ?_⟩
    · exact ⟨⟨rfl, rfl, rfl, by show w.heap.size ≤ (w.heap.push _).size; simp, fun b hb => heap_old w.drew _ (hi.bsz b hb)⟩, hM.sub, fun b o hb => by have := hi.bsz b hb; unfold PH.add; rw [if_neg (by omega)]⟩
    · have := prep_mk (R := R.add w.heap.size (fun o => if o < (n + xs.length) * k then (olds ++ news)[o]? else none)) (hall.mono hM.sub) w.heap.size 0 cap (by rw [List.length_append, hn]; exact hcap) (fun j u hu => by
        have hj := (List.getElem?_eq_some_iff.1 hu).1
        rw [hall_len] at hj
        unfold PH.add
        rw [if_pos rfl, Nat.zero_add]
        show (if j < (n + xs.length) * k then (olds ++ news)[j]? else none) = some u
        rw [if_pos hj]; exact hu)
      rw [List.length_append, hn] at this
      exact this
    · rw [List.getElem?_set_self hlt] at e2; injection e2 with e2; injection e2 with e3 e4; subst e3 e4
      exact ⟨by simp [hn], hall.wide, fun _ => ⟨.arr w.heap.size cap, List.getElem?_set_self (by rw [hi.len]; exact hlt), rfl⟩⟩
  match g, hlink, hobj with
  | .none, ⟨a, hva⟩, hobj =>
    have hn0 : n = 0 := hobj
    subst hn0
    by_cases hm : xs.length = 0
    · have hx0 : xs = [] := List.eq_nil_of_length_eq_zero hm
      have he0 : es = [] := List.eq_nil_of_length_eq_zero hn
      subst hx0 he0
      have hnn : news = [] := List.eq_nil_of_length_eq_zero (by rw [hnews.len]; simp)
      rw [hnn] at hsrc'
      have hrun := run_append_nothing (P := P) w t tx ty E inf ht hinf a 0 0 (Nat.le_refl _) x hsrc'
      have hset : L.set i (.spare (0 + ([] : List (List AC)).length) k) = L := by
        apply List.ext_getElem?
        intro j
        by_cases hj : j = i
        · subst hj; rw [List.getElem?_set_self hlt, hL]; rfl
        · rw [List.getElem?_set_ne (Ne.symm hj)]
      rw [hset]
      exact ⟨v, w, R, γ, by rw [hva]; exact hrun, hi, Ext.refl _ _ _, Mv.refl, by simpa using hpv, hlt, fun n2 k2 e2 => by
        rw [hL] at e2; injection e2 with e2; injection e2 with e3 e4; subst e3 e4
        exact ⟨by simp, by simp, fun _ => ⟨.none, hg, a, hva⟩⟩⟩
    · exact grow a 0 hva (by omega) hk0
  | .arr b c, hva, ⟨⟨vs, E2, hb, hsz⟩, hnc, hk, hRn⟩ =>
    by_cases hroom : n + xs.length ≤ c
    · have hle : (n + xs.length) * k ≤ c * k := Nat.mul_le_mul_right _ hroom
      have hnl : news.length = xs.length * k := hnews.len
      have hadd : n * k + news.length = (n + xs.length) * k := by rw [hnl, Nat.add_mul]
      have hrun := run_append_room_src (P := P) (w := w) t tx ty E inf ht hinf b 0 n c x xs.length news hsrc' hroom
        (fun j hj => by
          rw [hisz, cell_of_block hb]
          have : 0 + n * k + j < vs.size := by omega
          rw [Array.getElem?_eq_getElem this]; rfl)
        (fun j hj => by simp [World.frozen?, hb])
      rw [hisz, Nat.zero_add] at hrun
      obtain ⟨cs', g1, g2, g3⟩ := heap_setCells b E2 (0, 0) news (n * k) w vs hb (by omega)
      have hsub : PH.sub R (fun b' o => if b' = b ∧ n * k ≤ o ∧ o < (n + xs.length) * k then news[o - n * k]? else R b' o) := by
        intro b' o u h
        by_cases hc2 : b' = b ∧ n * k ≤ o ∧ o < (n + xs.length) * k
        · exfalso
          obtain ⟨rfl, h2, _⟩ := hc2
          rw [hRn o h2] at h; cases h
        · simp only [hc2, if_false]; exact h
      have hM : Mv R (fun b' o => if b' = b ∧ n * k ≤ o ∧ o < (n + xs.length) * k then news[o - n * k]? else R b' o) γ γ L (L.set i (.spare (n + xs.length) k)) := by
        refine ⟨hsub, by simp, fun t' m k' hlt' h => ?_, fun _ _ h => h⟩
        by_cases ht' : t' = i
        · subst ht'
          rw [List.getElem?_set_self hlt] at h; injection h with h; injection h with h1 h2; subst h1 h2
          exact ⟨n, hL, by omega, fun _ => rfl⟩
        · rw [List.getElem?_set_ne (Ne.symm ht')] at h
          exact ⟨m, h, Nat.le_refl _, fun _ => rfl⟩
      obtain ⟨a', c', olds, hv', hcc, holds, hRo⟩ := lst_cells hpv hek
      have hv2 : v = .slice (some ⟨b, 0, none⟩) n c := hva
      rw [hv2] at hv'
      injection hv' with q1 q2 q3
      subst q1 q3
      refine ⟨_, w.setCells b (n * k) news, _, γ, by rw [hv2]; exact hrun, ?_, ?_, hM, ?_, by simpa using hlt, fun n2 k2 e2 => ?_⟩
      · refine hi.turn hL hg rfl hM (fun b' hne => heap_setCells_ne b hne _ _ _) (size_setCells' _ _ _ _) (fun b' o hne => by simp [hne]) (fun o u h => ?_) ?_
        · rw [cell_of_block g1, g3 o]
          by_cases hc2 : n * k ≤ o ∧ o < (n + xs.length) * k
          · simp only [hc2, and_self, if_true] at h
            rw [if_pos (by omega)]; exact h
          · rw [if_neg (by omega)]
            have h' : R b o = some u := by
              have : ¬ (b = b ∧ n * k ≤ o ∧ o < (n + xs.length) * k) := fun hh => hc2 hh.2
              rw [if_neg this] at h; exact h
            have := hi.val _ _ _ h'
            rw [cell_of_block hb] at this
            exact this
        · refine ⟨⟨cs', E2, g1, by rw [g2]; exact hsz⟩, hroom, hk, fun o ho => ?_⟩
          have hc2 : ¬ (b = b ∧ n * k ≤ o ∧ o < (n + xs.length) * k) := fun hh => by omega
          show (if b = b ∧ n * k ≤ o ∧ o < (n + xs.length) * k then news[o - n * k]? else R b o) = none
          rw [if_neg hc2]
          exact hRn o (by rw [Nat.add_mul] at ho; omega)
      · refine ⟨below_setCells' (hi.new i _ b hg rfl).1 _ _ _, hsub, fun b' o hb' => ?_⟩
        have hnB := (hi.new i _ b hg rfl).1
        have hc2 : ¬ (b' = b ∧ n * k ≤ o ∧ o < (n + xs.length) * k) := fun hh => hnB (by rw [← hh.1]; exact hb')
        simp only [hc2, if_false]
      · have := prep_mk ((holds.app hnews).mono hsub) b 0 c (by rw [List.length_append, hn]; exact hroom) (fun j u hu => by
          rw [Nat.zero_add]
          by_cases hj : j < olds.length
          · rw [List.getElem?_append_left hj] at hu
            have hp : 0 < es.length := by
              rcases Nat.eq_zero_or_pos es.length with e | e
              · rw [holds.len, e] at hj; simp at hj
              · exact e
            obtain ⟨b2, o2, e1, e2⟩ := hRo hp
            injection e1 with e1; injection e1 with e1 e3; subst e1 e3
            have h5 := e2 j u hu
            rw [Nat.zero_add] at h5
            exact hsub _ _ _ h5
          · rw [List.getElem?_append_right (by omega)] at hu
            have hj2 := (List.getElem?_eq_some_iff.1 hu).1
            have ho : olds.length = n * k := by rw [holds.len, hn]
            have hc2 : b = b ∧ n * k ≤ j ∧ j < (n + xs.length) * k := ⟨rfl, by omega, by omega⟩
            simp only [hc2, and_self, if_true]
            rw [← ho]; exact hu)
        rw [List.length_append, hn] at this
        exact this
      · rw [List.getElem?_set_self hlt] at e2; injection e2 with e2; injection e2 with e3 e4; subst e3 e4
        exact ⟨by simp [hn], (holds.app hnews).wide, fun _ => ⟨.arr b c, hg, rfl⟩⟩
    · exact grow _ c hva (by omega) hk
end
end

section
open Go.RowKit

/-- The function number f, called at these trees, returns this tree, and turns nothing that was there. -/
def Pure (P : Program) (f : FuncId) (args : List PV) (r : CV) : Prop :=
  (∃ fn, P.funcs[f]? = some fn ∧ fn.body.isSome = true ∧ (fn.name == "runtime.NumGoroutine") = false) ∧
  ∀ (R : PH) (w : World) (vs : Array Value), (∀ b o u, R b o = some u → w.cell? ⟨b, o, none⟩ = some u) → vs.size = args.length → (∀ (j : Nat) v p, vs[j]? = some v → args[j]? = some p → p.rep R v) →
    Calls P f vs w fun e w' => ∃ v R', e = .returned v ∧ Ext (· < w.heap.size) R R' w w' ∧ (∀ b o u, R' b o = some u → w'.cell? ⟨b, o, none⟩ = some u) ∧ r.rep R' v

/-- A slice whose spare room is the call's own, lying at g. -/
def OwnV (R : PH) (w : World) (es : List (List AC)) (k : Nat) (v : Value) : Gh → Prop
  | .none => es = [] ∧ ∃ a, v = .slice a 0 0
  | .arr b c => v = .slice (some ⟨b, 0, none⟩) es.length c ∧ (∃ vs E, w.heap[b]? = some (.cells vs E (0, 0)) ∧ vs.size = c * k) ∧ es.length ≤ c ∧ 0 < k ∧ ∀ o, es.length * k ≤ o → R b o = none
  | .box _ => False
/-- The function number f takes over the row es and hands back the row es'. -/
def PureO (P : Program) (f : FuncId) (es : List (List AC)) (k : Nat) (args : List PV) (es' : List (List AC)) : Prop :=
  (∃ fn, P.funcs[f]? = some fn ∧ fn.body.isSome = true ∧ (fn.name == "runtime.NumGoroutine") = false) ∧
  ∀ (R : PH) (w : World) (v : Value) (vs : Array Value) (g : Gh), (∀ b o u, R b o = some u → w.cell? ⟨b, o, none⟩ = some u) → PRep R v (.lst es) → (∀ e ∈ es, e.length = k) → OwnV R w es k v g → vs.size = args.length → (∀ (j : Nat) v p, vs[j]? = some v → args[j]? = some p → p.rep R v) →
    Calls P f (#[v] ++ vs) w fun e w' => ∃ v' R' g', e = .returned v' ∧ Ext (fun b => b < w.heap.size ∧ g.block ≠ some b) R R' w w' ∧ (∀ b o u, R' b o = some u → w'.cell? ⟨b, o, none⟩ = some u) ∧
      PRep R' v' (.lst es') ∧ (∀ e ∈ es', e.length = k) ∧ OwnV R' w' es' k v' g' ∧ ∀ b, g'.block = some b → w.heap.size ≤ b ∨ g.block = some b

def putT (T : Tm) : Option Tmp → AV → Tm
  | some d, v => (d, v) :: T
  | none, _ => T
def dOK (N : Nat) : Option Tmp → Prop
  | some d => d < N
  | none => True
def normArgs (ρ : Operand → Option AV) : List Operand → Option (List PV)
  | [] => some []
  | x :: xs => match (ρ x).bind AV.norm, normArgs ρ xs with
    | some p, some ps => some (p :: ps)
    | _, _ => none

def litOp (ti : TI) (ρ : Operand → Option AV) : Op → Option (AV × Prop)
  | .buildSlice t len parts => popLit ti ρ t len parts.toList
  | _ => none
def callOp (ρ : Operand → Option AV) : Op → Option (FuncId × List PV)
  | .call { callee := .value f, args, .. } => match ρ f with
    | some (.one (.c (.fn g cs))) => (normArgs ρ args.toList).map fun ps => (g, ps ++ cs.map .one)
    | _ => none
  | _ => none
def callOpO (ti : TI) (ρ : Operand → Option AV) : Op → Option (FuncId × List (List AC) × Option Nat × List PV)
  | .call { callee := .value (.func f), args, .. } => match ti.owns f, args.toList with
    | true, x :: xs => match ρ x, normArgs ρ xs with
      | some (.one (.own es t)), some ps => some (f, es, some t, ps)
      | some (.one .emp), some ps => some (f, [], none, ps)
      | _, _ => none
    | _, _ => none
  | _ => none
/-- An operation is carried out, in one of five ways. -/
def awOp (P : Program) (ti : TI) (ρ : Operand → Option AV) (L : List Ob) (K : AV → List Ob → Prop) (op : Op) : Prop :=
  (∃ v φ, pop ti ρ L op = some (v, φ) ∧ φ ∧ K v L) ∨ (∃ v φ, litOp ti ρ op = some (v, φ) ∧ φ ∧ K v L) ∨
  (∃ v L' φ, lop ti ρ L op = some (v, L', φ) ∧ φ ∧ K v L') ∨ (∃ g ps r, callOp ρ op = some (g, ps) ∧ Pure P g ps r ∧ K r.av L) ∨
  (∃ g es t k ps es' , callOpO ti ρ op = some (g, es, some t, ps) ∧ L[t]? = some (.spare es.length k) ∧ PureO P g es k ps es' ∧ K (.one (.own es' L.length)) (L.set t .dead ++ [.spare es'.length k])) ∨
  (∃ g k ps es' , callOpO ti ρ op = some (g, [], none, ps) ∧ PureO P g [] k ps es' ∧ K (.one (.own es' L.length)) (L ++ [.spare es'.length k]))

def gd (ds : List (Option Tmp)) (T : Tm) (A B : Prop) : Option (Nat × Bool) → Prop
  | none => A
  | some (j, want) => match ds[j]? with
    | some (some d) => match T.lookup d with
      | some (.one (.c (.bool b))) => (b = want → A) ∧ (b = (!want) → B)
      | some .undef => B
      | _ => False
    | _ => False

def awOps (P : Program) (ti : TI) (N : Nat) (ds : List (Option Tmp)) (K : Tm → List Ob → Prop) : List Oper → Tm → List Ob → Prop
  | [], T, L => K T L
  | o :: rest, T, L => dOK N o.dst ∧ gd ds T (awOp P ti (look T) L (fun v L' => awOps P ti N ds K rest (putT T o.dst v) L') o.op) (awOps P ti N ds K rest (putT T o.dst .undef) L) o.guard

section
variable {P : Program} {ti : TI} {B : Nat → Prop} {N : Nat} {R : PH} {γ : List Gh} {L : List Ob} {w : World}

theorem Inv.tok (hi : Inv B R γ L w) (k : Nat) : Inv B R (γ ++ [.none]) (L ++ [.spare 0 k]) w := by
  have gcase : ∀ j h, (γ ++ [Gh.none])[j]? = some h → (j = γ.length ∧ h = .none) ∨ (j < γ.length ∧ γ[j]? = some h) := by
    intro j h hh
    by_cases hid : j < γ.length
    · rw [List.getElem?_append_left hid] at hh; exact .inr ⟨hid, hh⟩
    · have : j = γ.length := by have := (List.getElem?_eq_some_iff.1 hh).1; simp at this; omega
      subst this
      rw [List.getElem?_append_right (by omega)] at hh
      simp at hh
      exact .inl ⟨rfl, hh.symm⟩
  refine ⟨by simp [hi.len], hi.val, fun id y h hy hh => ?_, fun j1 j2 g1 g2 h1 h2 hne b hb => ?_, fun j h b hh hb => ?_, hi.bsz⟩
  · rcases gcase id h hh with ⟨rfl, rfl⟩ | ⟨hlt, hh'⟩
    · rw [List.getElem?_append_right (by rw [hi.len]; omega), hi.len] at hy
      simp at hy; subst hy; rfl
    · rw [List.getElem?_append_left (by rw [← hi.len]; exact hlt)] at hy
      exact (hi.obj id y h hy hh').mv (Mv.push _ _ hi.len) (fun _ _ => rfl) (fun _ _ _ h => h)
  · rcases gcase j1 g1 h1 with ⟨_, rfl⟩ | ⟨_, a2⟩
    · cases hb
    · rcases gcase j2 g2 h2 with ⟨_, rfl⟩ | ⟨_, b2⟩
      · intro e; cases e
      · exact hi.inj j1 j2 g1 g2 a2 b2 hne b hb
  · rcases gcase j h hh with ⟨_, rfl⟩ | ⟨_, a2⟩
    · cases hb
    · exact hi.new j h b a2 hb

theorem lopApp_sound (hti : TIok P ti) (hi : Inv B R γ L w) {t tx ty : TypeId} {s x : AV} {us ux : Value} (hs : s.rep R γ L us) (hx : x.rep R γ L ux) {v : AV} {L' : List Ob} {φ : Prop} (h : lopApp ti L t tx s x = some (v, L', φ)) (hφ : φ) :
    ∃ u w' R' γ', (Builtin.append_ #[t, tx] ty #[us, ux]).run P w = .ok u w' ∧ Inv B R' γ' L' w' ∧ Ext B R R' w w' ∧ Mv R R' γ γ' L L' ∧ v.rep R' γ' L' u := by
  unfold lopApp at h
  split at h
  · rename_i xs E hxs hE
    have hpx := listOf_rep hx hxs
    have hE := hti.elem _ _ hE
    have ht : P.underlying t = some (.slice E) := by
      unfold telem at hE
      split at hE
      · rename_i e he; injection hE with hE; subst hE; exact he
      · cases hE
    have htx : (ti.elem tx).isSome → ∃ E', P.underlying tx = some (.slice E') := by
      intro h
      obtain ⟨e, he⟩ := Option.isSome_iff_exists.1 h
      have h := hti.elem _ _ he
      unfold telem at h
      split at h
      · rename_i e he; exact ⟨e, he⟩
      · cases h
    split at h
    · rename_i k by_ hk hb
      have hk := hti.size _ _ hk
      have hb := hti.bytes _ _ hb
      split at h
      · injection h with h; injection h with e1 e2; injection e2 with e2 e3; subst e1 e2 e3
        obtain ⟨h1, h2, h3, h4, h5, h6⟩ := hφ
        obtain ⟨E', hE'⟩ := htx h1
        obtain ⟨a, rfl⟩ := hs
        have hi1 := hi.tok k
        have hm1 : Mv R R γ (γ ++ [.none]) L (L ++ [.spare 0 k]) := Mv.push _ _ hi.len
        have hL1 : (L ++ [Ob.spare 0 k])[L.length]? = some (.spare 0 k) := by simp
        have hv1 : (SV.own [] L.length).rep R (γ ++ [.none]) (L ++ [.spare 0 k]) (.slice a 0 0) :=
          ⟨prep_nil _ _ _, by simp, fun n2 k2 _ => ⟨by simp, by simp, fun _ => ⟨.none, by rw [← hi.len]; simp, a, by simp⟩⟩⟩
        obtain ⟨u, w', R', γ', a1, a2, a3, a4, a5⟩ := app_own (P := P) (ty := ty) hi1 ht hE' h2 (hti.zok _ h3 _ hk) hb hL1 hv1 rfl hpx h4 (by simpa using h5) (by simpa using h6)
        have hset : (L ++ [Ob.spare 0 k]).set L.length (.spare (0 + xs.length) k) = L ++ [.spare xs.length k] := by simp
        rw [hset] at a2 a4 a5
        exact ⟨u, w', R', γ', a1, a2, a3, hm1.trans a4, by rw [List.nil_append] at a5; exact a5⟩
      · rename_i es i
        split at h
        · rename_i n k' hL
          injection h with h; injection h with e1 e2; injection e2 with e2 e3; subst e1 e2 e3
          obtain ⟨h1, h2, h3, h4, h5, h6, h7⟩ := hφ
          obtain ⟨E', hE'⟩ := htx h1
          subst h2
          obtain ⟨u, w', R', γ', a1, a2, a3, a4, a5⟩ := app_own (P := P) (ty := ty) hi ht hE' h4.2 (hti.zok _ h4.1 _ hk) hb hL hs h3 hpx h5 h6 h7
          exact ⟨u, w', R', γ', a1, a2, a3, a4, a5⟩
        · cases h
      · cases h
    · cases h
  · cases h

theorem Inv.later (hi : Inv B R γ L w) {R' : PH} {w' : World} (he : Ext (· < w.heap.size) R R' w w') (hv : ∀ b o u, R' b o = some u → w'.cell? ⟨b, o, none⟩ = some u) : Inv B R' γ L w' ∧ Ext B R R' w w' := by
  refine ⟨⟨hi.len, hv, fun id x g hx hg => ?_, hi.inj, fun i g b hg hb => ?_, fun b hb => Nat.lt_of_lt_of_le (hi.bsz b hb) he.below.size⟩, he.below.mono hi.bsz, he.sub, fun b o hb => he.old b o (hi.bsz b hb)⟩
  · refine (hi.obj id x g hx hg).mv (Mv.of_sub he.sub) (fun b hb => he.below.block b (hi.new id g b hg hb).2) (fun b o hb e => ?_)
    rw [he.old b o (hi.new id g b hg hb).2]; exact e
  · have h1 := hi.new i g b hg hb
    have := he.below.size
    exact ⟨h1.1, by omega⟩

theorem normArgs_rep {ρ : Operand → Option AV} {a : Act} (hρ : ∀ x v, ρ x = some v → v.rep R γ L (a.eval x)) : ∀ {xs : List Operand} {ps : List PV}, normArgs ρ xs = some ps →
    xs.length = ps.length ∧ ∀ (j : Nat) x p, xs[j]? = some x → ps[j]? = some p → p.rep R (a.eval x)
  | [], ps, h => by injection h with h; subst h; exact ⟨rfl, fun j x p hx => by simp at hx⟩
  | x :: xs, ps, h => by
    unfold normArgs at h
    split at h
    · rename_i p ps' hp hps
      injection h with h; subst h
      obtain ⟨g1, g2⟩ := normArgs_rep hρ hps
      refine ⟨by simp [g1], fun j y q hy hq => ?_⟩
      cases j with
      | zero =>
        simp at hy hq; subst hy hq
        cases hx : ρ x with
        | none => simp [hx] at hp
        | some vx => simp only [hx, Option.bind_some] at hp; exact AV.norm_rep (hρ _ _ hx) hp
      | succ j => exact g2 j y q (by simpa using hy) (by simpa using hq)
    · cases h

theorem litOp_sound (hti : TIok P ti) (hi : Inv B R γ L w) {a : Act} {ρ : Operand → Option AV} (hρ : ∀ x v, ρ x = some v → v.rep R γ L (a.eval x)) {o : Oper} {v : AV} {φ : Prop} (h : litOp ti ρ o.op = some (v, φ)) (hφ : φ) : OpTo P B R γ L w (execOp a.eval o) v := by
  obtain ⟨dst, op, type, pos, after, guard⟩ := o
  simp only at h
  unfold litOp at h
  split at h
  · rename_i t len parts
    obtain ⟨u, w', R', h1, h2, h3, h4⟩ := popLit_sound hti hi hρ h hφ
    refine ⟨u, w', R', ?_, h2, h3, h4⟩
    simp only [execOp, Sem.run_bind]
    rw [h1]; rfl
  · cases h

theorem lop_sound (hti : TIok P ti) (hi : Inv B R γ L w) {a : Act} {ρ : Operand → Option AV} (hρ : ∀ x v, ρ x = some v → v.rep R γ L (a.eval x)) {o : Oper} {v : AV} {L' : List Ob} {φ : Prop} (h : lop ti ρ L o.op = some (v, L', φ)) (hφ : φ) : LopTo P B R γ L L' w (execOp a.eval o) v := by
  have viaBox : ∀ {xs : List SV} {vs : Array Value} (E : TypeId), CRep R γ L xs vs → (execOp a.eval o).run P w = .ok (.value (.pointer (some ⟨w.heap.size, 0, none⟩))) (w.alloc (.cells vs E)) → LopTo P B R γ L (L ++ [.box xs]) w (execOp a.eval o) (.one (.ptr L.length 0)) := by
    intro xs vs E hc hr
    obtain ⟨h1, h2⟩ := box_sound hi E hc
    exact ⟨_, R, _, .inl ⟨_, hr, h2⟩, h1, ⟨Kept.alloc hi.bsz _, PH.sub_refl _, fun _ _ _ => rfl⟩, Mv.push _ _ hi.len⟩
  obtain ⟨dst, op, type, pos, after, guard⟩ := o
  simp only at h viaBox
  unfold lop at h
  split at h
  · rename_i E
    split at h
    · rename_i zs hz
      injection h with h; injection h with e1 e2; injection e2 with e2 e3; subst e1 e2
      cases hz0 : ti.zero E with
      | none => simp [hz0] at hz
      | some za0 =>
        simp only [hz0, Option.bind_some] at hz
        have hzz0 := hti.zero _ _ hz0
        unfold zeroOf at hzz0
        cases hinf : P.info? E with
        | none => simp [hinf] at hzz0
        | some inf =>
          simp only [hinf, Option.bind_some] at hzz0
          cases hzz : inf.zero with
          | none => simp [hzz] at hzz0
          | some z =>
            simp only [hzz, Option.bind_some] at hzz0
            refine viaBox E (cells_rep (AV.ofVal_rep hzz0) hz) ?_
            simp [execOp, Instr.alloc, zeroValue, typeInfo, program, Sem.run, hinf, hzz, newVar, newRow]
    · cases h
  · rename_i E x
    split at h
    · rename_i xs hx
      injection h with h; injection h with e1 e2; injection e2 with e2 e3; subst e1 e2
      cases hrx : ρ x with
      | none => simp [hrx] at hx
      | some vx =>
        simp only [hrx, Option.bind_some] at hx
        refine viaBox E (cells_rep (hρ _ _ hrx) hx) ?_
        simp [execOp, Instr.box, newVar, newRow]
    · cases h
  · rename_i t p x
    split at h
    · rename_i id off xs hrp hx
      split at h
      · rename_i cs hL
        injection h with h; injection h with e1 e2; injection e2 with e2 e3; subst e1 e2 e3
        obtain ⟨b, hpv, hg⟩ := hρ _ _ hrp
        cases hrx : ρ x with
        | none => simp [hrx] at hx
        | some vx =>
          simp only [hrx, Option.bind_some] at hx
          have hc := cells_rep (hρ _ _ hrx) hx
          have h1 : ∀ c ∈ (a.eval x).cells, c.oneCell' = true := by
            intro c hc'
            obtain ⟨j, hj⟩ := Array.mem_iff_getElem?.1 hc'
            have hlt : j < xs.length := by rw [← hc.1]; exact (Array.getElem?_eq_some_iff.1 hj).1
            exact (SV.rep_one (hc.2 j c _ hj (List.getElem?_eq_getElem hlt))).2
          obtain ⟨w', g1, g2, g3, g4⟩ := store_sound (P := P) (t := t) hi hL hg hc h1 hφ.1 (hti.size _ _ hφ.2)
          have hr : (execOp a.eval { dst, op := .store t p x, type, pos, after, guard }).run P w = .ok .skip w' := by
            simp only [execOp, Sem.run_bind, hpv]
            rw [g1]; rfl
          exact ⟨w', R, γ, .inr ⟨hr, rfl⟩, g2, g3, g4⟩
      · cases h
    · cases h
  · rename_i args argTypes
    split at h
    · rename_i s x t tx ha ht
      split at h
      · rename_i vs vx hs hx
        obtain ⟨u, w', R', γ', g1, g2, g3, g4, g5⟩ := lopApp_sound (P := P) (ty := type) hti hi (hρ _ _ hs) (hρ _ _ hx) h hφ
        have e1 : args = #[s, x] := by cases args; simp_all
        have e2 : argTypes = #[t, tx] := by cases argTypes; simp_all
        subst e1 e2
        refine ⟨w', R', γ', .inl ⟨u, ?_, g5⟩, g2, g3, g4⟩
        simp [execOp, resolve, invoke, builtin, g1]
      · cases h
    · cases h
  · cases h

theorem callOpO_parts {ρ : Operand → Option AV} {op : Op} {f : FuncId} {es : List (List AC)} {t : Nat} {ps : List PV} (h : callOpO ti ρ op = some (f, es, some t, ps)) :
    ∃ args ts x xs, op = .call { callee := .value (.func f), args, argTypes := ts } ∧ args.toList = x :: xs ∧ ρ x = some (.one (.own es t)) ∧ normArgs ρ xs = some ps := by
  unfold callOpO at h
  split at h
  · rename_i f' args ts
    split at h
    · rename_i x xs ho hxs
      split at h
      · rename_i es' t' ps' hx hps
        injection h with h; injection h with e1 e2; injection e2 with e2 e3; injection e3 with e3 e4; injection e3 with e3
        subst e1 e2 e3 e4
        exact ⟨args, ts, x, xs, rfl, hxs, hx, hps⟩
      · rename_i ps' hx hps
        injection h with h; injection h with e1 e2; injection e2 with e2 e3; injection e3 with e3 e4; cases e3
      · cases h
    · cases h
  · cases h
theorem callOpO_parts' {ρ : Operand → Option AV} {op : Op} {f : FuncId} {ps : List PV} (h : callOpO ti ρ op = some (f, [], none, ps)) :
    ∃ args ts x xs, op = .call { callee := .value (.func f), args, argTypes := ts } ∧ args.toList = x :: xs ∧ ρ x = some (.one .emp) ∧ normArgs ρ xs = some ps := by
  unfold callOpO at h
  split at h
  · rename_i f' args ts
    split at h
    · rename_i x xs ho hxs
      split at h
      · rename_i es' t' ps' hx hps
        injection h with h; injection h with e1 e2; injection e2 with e2 e3; injection e3 with e3 e4; cases e3
      · rename_i ps' hx hps
        injection h with h; injection h with e1 e2; injection e2 with e2 e3; injection e3 with e3 e4
        subst e1 e4
        exact ⟨args, ts, x, xs, rfl, hxs, hx, hps⟩
      · cases h
    · cases h
  · cases h
theorem run_enter {f : FuncId} {fn : Func} {a : Act} {dst : Option Tmp} {type : TypeId} {pos : String} {after : Array Edge} {guard : Option (Nat × Bool)} {args : Array Operand} {argTypes : Array TypeId} (hfn : P.funcs[f]? = some fn) (hbody : fn.body.isSome = true) (hname : (fn.name == "runtime.NumGoroutine") = false) :
    (execOp a.eval { dst, op := .call { callee := .value (.func f), args, argTypes }, type, pos, after, guard }).run P w = .ok (.enter f (args.map a.eval)) w := by
  have hb : fn.body.isNone = false := by cases hbb : fn.body <;> simp_all
  simp only [execOp, resolve, Act.eval, Deferred.ofValue, Sem.run_bind, Sem.run_pure, Result.andThen_ok, invoke, callFunc, program, Sem.run]
  simp [hfn, hname, hb]
/-- A row that a call has made: a new token for it. -/
theorem give (hi : Inv B R γ L w) {k n' s : Nat} {g' : Gh} {es' : List (List AC)} {v' : Value} (hB : ∀ b, B b → b < s) (hold : ∀ (i : Nat) h b, γ[i]? = some h → h.block = some b → b < s) (hp : PRep R v' (.lst es')) (hw' : ∀ e ∈ es', e.length = k) (ho : OwnV R w es' k v' g') (hgb : ∀ b, g'.block = some b → s ≤ b) (hn : es'.length = n') :
    ∃ γ', Inv B R γ' (L ++ [.spare n' k]) w ∧ Mv R R γ γ' L (L ++ [.spare n' k]) ∧ (SV.own es' L.length).rep R γ' (L ++ [.spare n' k]) v' := by
  subst hn
  have gcase : ∀ j h, (γ ++ [g'])[j]? = some h → (j < γ.length ∧ γ[j]? = some h) ∨ (j = γ.length ∧ h = g') := by
    intro j h hh
    by_cases hj : j < γ.length
    · rw [List.getElem?_append_left hj] at hh; exact .inl ⟨hj, hh⟩
    · have : j = γ.length := by have := (List.getElem?_eq_some_iff.1 hh).1; simp at this; omega
      subst this
      rw [List.getElem?_append_right (by omega)] at hh
      simp at hh
      exact .inr ⟨rfl, hh.symm⟩
  have hm : Mv R R γ (γ ++ [g']) L (L ++ [.spare es'.length k]) := Mv.push _ _ hi.len
  refine ⟨γ ++ [g'], ⟨by simp [hi.len], hi.val, fun id x h hx hh => ?_, fun j1 j2 g1 g2 h1 h2 hne b hb => ?_, fun j h b hh hb => ?_, hi.bsz⟩, hm, hp, by simp, fun n2 k2 e2 => ?_⟩
  · rcases gcase id h hh with ⟨hj, hh'⟩ | ⟨rfl, rfl⟩
    · rw [List.getElem?_append_left (by rw [← hi.len]; exact hj)] at hx
      exact (hi.obj id x h hx hh').mv hm (fun _ _ => rfl) (fun _ _ _ h => h)
    · rw [List.getElem?_append_right (by rw [hi.len]; omega)] at hx
      simp [hi.len] at hx; subst hx
      match h, ho with
      | .none, ⟨h0, _⟩ => rw [h0]; rfl
      | .arr b c, ⟨_, ⟨vs, E, a1, a2⟩, a3, a4, a5⟩ => exact ⟨⟨vs, E, a1, a2⟩, a3, a4, a5⟩
  · rcases gcase j1 g1 h1 with ⟨a1, a3⟩ | ⟨a1, rfl⟩ <;> rcases gcase j2 g2 h2 with ⟨b1, b3⟩ | ⟨b1, rfl⟩
    · exact hi.inj j1 j2 g1 g2 a3 b3 hne b hb
    · intro e; have h1 := hgb b e; have h2 := hold j1 g1 b a3 hb; omega
    · intro e; have h1 := hgb b hb; have h2 := hold j2 g2 b b3 e; omega
    · omega
  · rcases gcase j h hh with ⟨a1, a3⟩ | ⟨a1, rfl⟩
    · exact hi.new j h b a3 hb
    · have hsz : b < w.heap.size := by
        match h, ho, hb with
        | .arr b' c, ⟨_, ⟨vs, E, a1, _⟩, _⟩, hb => injection hb with hb; subst hb; exact (Array.getElem?_eq_some_iff.1 a1).1
      exact ⟨fun hBb => by have h1 := hB b hBb; have h2 := hgb b hb; omega, hsz⟩
  · rw [List.getElem?_append_right (by omega)] at e2
    simp at e2
    obtain ⟨rfl, rfl⟩ := e2
    refine ⟨Nat.le_refl _, hw', fun _ => ⟨g', ?_, ?_⟩⟩
    · rw [List.getElem?_append_right (by rw [hi.len]; omega)]; simp [hi.len]
    · match g', ho with
      | .none, ⟨h0, ha⟩ => exact ha
      | .arr b c, ⟨h0, _⟩ => exact h0
/-- Behind a call that took a row over. -/
theorem takeover (hi : Inv B R γ L w) {t n k n' : Nat} {g g' : Gh} {R' : PH} {w' : World} {es' : List (List AC)} {v' : Value} (hL : L[t]? = some (.spare n k)) (hg : γ[t]? = some g) (he : Ext (fun b => b < w.heap.size ∧ g.block ≠ some b) R R' w w')
    (hv : ∀ b o u, R' b o = some u → w'.cell? ⟨b, o, none⟩ = some u) (hp : PRep R' v' (.lst es')) (hw' : ∀ e ∈ es', e.length = k) (ho : OwnV R' w' es' k v' g') (hgb : ∀ b, g'.block = some b → w.heap.size ≤ b ∨ g.block = some b) (hn : es'.length = n') :
    ∃ γ', Inv B R' γ' (L.set t .dead ++ [.spare n' k]) w' ∧ Ext B R R' w w' ∧ Mv R R' γ γ' L (L.set t .dead ++ [.spare n' k]) ∧ (SV.own es' L.length).rep R' γ' (L.set t .dead ++ [.spare n' k]) v' := by
  subst hn
  have hlt : t < L.length := (List.getElem?_eq_some_iff.1 hL).1
  have hltg : t < γ.length := by rw [hi.len]; exact hlt
  have hgnb : g ≠ .none → ∀ b, g.block = some b → b < w.heap.size ∧ ¬ B b := fun _ b hb => ⟨(hi.new t g b hg hb).2, (hi.new t g b hg hb).1⟩
  have gcase : ∀ j h, (γ.set t Gh.none ++ [g'])[j]? = some h → (j = t ∧ h = .none) ∨ (j < γ.length ∧ j ≠ t ∧ γ[j]? = some h) ∨ (j = γ.length ∧ h = g') := by
    intro j h hh
    by_cases hj : j < γ.length
    · rw [List.getElem?_append_left (by simpa using hj)] at hh
      by_cases hjt : j = t
      · subst hjt; rw [List.getElem?_set_self hltg] at hh; injection hh with hh; exact .inl ⟨rfl, hh.symm⟩
      · rw [List.getElem?_set_ne (Ne.symm hjt)] at hh; exact .inr (.inl ⟨hj, hjt, hh⟩)
    · have : j = γ.length := by have := (List.getElem?_eq_some_iff.1 hh).1; simp at this; omega
      subst this
      rw [List.getElem?_append_right (by simp)] at hh
      simp at hh
      exact .inr (.inr ⟨rfl, hh.symm⟩)
  have hm : Mv R R' γ (γ.set t .none ++ [g']) L (L.set t .dead ++ [.spare es'.length k]) := by
    refine ⟨he.sub, by simp, fun t' n' k' hlt' h => ?_, fun id b h => ?_⟩
    · rw [List.getElem?_append_left (by simpa using hlt')] at h
      by_cases htt : t' = t
      · subst htt; rw [List.getElem?_set_self hlt] at h; cases h
      · rw [List.getElem?_set_ne (Ne.symm htt)] at h
        exact ⟨n', h, Nat.le_refl _, fun _ => by rw [List.getElem?_append_left (by simp; rw [hi.len]; exact hlt'), List.getElem?_set_ne (Ne.symm htt)]⟩
    · have hne : id ≠ t := by
        rintro rfl
        exact hi.obj id _ _ hL h
      rw [List.getElem?_append_left (by simp; exact (List.getElem?_eq_some_iff.1 h).1), List.getElem?_set_ne (Ne.symm hne)]; exact h
  have keep : ∀ j h b, j ≠ t → γ[j]? = some h → h.block = some b → b < w.heap.size ∧ g.block ≠ some b := fun j h b hne hh hb => ⟨(hi.new j h b hh hb).2, hi.inj j t h g hh hg hne b hb⟩
  refine ⟨γ.set t .none ++ [g'], ⟨by simp [hi.len], hv, fun id x h hx hh => ?_, fun j1 j2 g1 g2 h1 h2 hne b hb => ?_, fun j h b hh hb => ?_, fun b hb => Nat.lt_of_lt_of_le (hi.bsz b hb) he.below.size⟩, ?_, hm, hp, by simp, fun n2 k2 e2 => ?_⟩
  · rcases gcase id h hh with ⟨rfl, rfl⟩ | ⟨hj, hne, hh'⟩ | ⟨rfl, rfl⟩
    · rw [List.getElem?_append_left (by simpa using hlt), List.getElem?_set_self hlt] at hx
      injection hx with hx; subst hx; trivial
    · rw [List.getElem?_append_left (by simp; rw [← hi.len]; exact hj), List.getElem?_set_ne (Ne.symm hne)] at hx
      exact (hi.obj id x h hx hh').mv hm (fun b hb => he.below.block b (keep id h b hne hh' hb)) (fun b o hb e => by rw [he.old b o (keep id h b hne hh' hb)]; exact e)
    · rw [List.getElem?_append_right (by simp [hi.len])] at hx
      simp [hi.len] at hx; subst hx
      match h, ho with
      | .none, ⟨h0, _⟩ => rw [h0]; rfl
      | .arr b c, ⟨_, ⟨vs, E, a1, a2⟩, a3, a4, a5⟩ => exact ⟨⟨vs, E, a1, a2⟩, a3, a4, a5⟩
  · rcases gcase j1 g1 h1 with ⟨_, rfl⟩ | ⟨a1, a2, a3⟩ | ⟨a1, rfl⟩
    · cases hb
    · rcases gcase j2 g2 h2 with ⟨_, rfl⟩ | ⟨b1, b2, b3⟩ | ⟨b1, rfl⟩
      · intro e; cases e
      · exact hi.inj j1 j2 g1 g2 a3 b3 hne b hb
      · intro e
        rcases hgb b e with h | h
        · have := (hi.new j1 g1 b a3 hb).2; omega
        · exact (keep j1 g1 b a2 a3 hb).2 h
    · rcases gcase j2 g2 h2 with ⟨_, rfl⟩ | ⟨b1, b2, b3⟩ | ⟨b1, rfl⟩
      · intro e; cases e
      · intro e
        rcases hgb b hb with h | h
        · have := (hi.new j2 g2 b b3 e).2; omega
        · exact (keep j2 g2 b b2 b3 e).2 h
      · omega
  · rcases gcase j h hh with ⟨_, rfl⟩ | ⟨a1, a2, a3⟩ | ⟨a1, rfl⟩
    · cases hb
    · have := hi.new j h b a3 hb
      exact ⟨this.1, Nat.lt_of_lt_of_le this.2 he.below.size⟩
    · have hsz : b < w'.heap.size := by
        match h, ho, hb with
        | .arr b' c, ⟨_, ⟨vs, E, a1, _⟩, _⟩, hb => injection hb with hb; subst hb; exact (Array.getElem?_eq_some_iff.1 a1).1
      refine ⟨fun hB => ?_, hsz⟩
      rcases hgb b hb with h' | h'
      · have := hi.bsz b hB; omega
      · exact (hi.new t g b hg h').1 hB
  · exact ⟨he.below.mono fun b hB => ⟨hi.bsz b hB, fun e => (hi.new t g b hg e).1 hB⟩, he.sub, fun b o hB => he.old b o ⟨hi.bsz b hB, fun e => (hi.new t g b hg e).1 hB⟩⟩
  · rw [List.getElem?_append_right (by simp)] at e2
    simp at e2
    obtain ⟨rfl, rfl⟩ := e2
    refine ⟨Nat.le_refl _, hw', fun _ => ⟨g', ?_, ?_⟩⟩
    · rw [List.getElem?_append_right (by simp [hi.len])]; simp [hi.len]
    · match g', ho with
      | .none, ⟨h0, ha⟩ => exact ha
      | .arr b c, ⟨h0, _⟩ => exact h0

theorem awOp_sound (hti : TIok P ti) (hi : Inv B R γ L w) {a : Act} {ρ : Operand → Option AV} (hρ : ∀ x v, ρ x = some v → v.rep R γ L (a.eval x)) {o : Oper} {K : AV → List Ob → Prop} {next : Act → World → Prop} {Q : Exit → Act → World → Prop}
    (h : awOp P ti ρ L K o.op)
    (hK : ∀ v L' R' γ' w' u, K v L' → Inv B R' γ' L' w' → Ext B R R' w w' → Mv R R' γ γ' L L' → v.rep R' γ' L' u → next (a.put o.dst u) w') : o.wp P a w next Q := by
  rcases h with ⟨v, φ, hp, hφ, hk⟩ | ⟨v, φ, hp, hφ, hk⟩ | ⟨v, L', φ, hp, hφ, hk⟩ | ⟨g, ps, r, hc, hP, hk⟩ | ⟨g, es, t, k, ps, es', hc, hLt, hP, hk⟩ | ⟨g, k, ps, es', hc, hP, hk⟩
  · obtain ⟨u, w', R', h1, h2, h3, h4⟩ := pop_sound hti hi hρ hp hφ
    unfold Oper.wp
    rw [h1]
    exact hK v L R' γ w' u hk h2 h3 (Mv.of_sub h3.sub) h4
  · obtain ⟨u, w', R', h1, h2, h3, h4⟩ := litOp_sound hti hi hρ hp hφ
    unfold Oper.wp
    rw [h1]
    exact hK v L R' γ w' u hk h2 h3 (Mv.of_sub h3.sub) h4
  · obtain ⟨w', R', γ', h1, h2, h3, h4⟩ := lop_sound hti hi hρ hp hφ
    unfold Oper.wp
    rcases h1 with ⟨u, h1, h5⟩ | ⟨h1, rfl⟩
    · rw [h1]
      exact hK v L' R' γ' w' u hk h2 h3 h4 h5
    · rw [h1]
      exact hK .undef L' R' γ' w' Go.undef hk h2 h3 h4 rfl
  · obtain ⟨dst, op, type, pos, after, guard⟩ := o
    simp only at hc hK
    unfold callOp at hc
    split at hc
    · rename_i f args argTypes
      split at hc
      · rename_i g0 cs hf
        cases hps : normArgs ρ args.toList with
        | none => simp [hps] at hc
        | some ps0 =>
          rw [hps] at hc
          injection hc with hc; injection hc with e1 e2; subst e1 e2
          obtain ⟨⟨fn, hfn, hbody, hname⟩, hcall⟩ := hP
          have hfv := hρ _ _ hf
          generalize hev : a.eval f = fv at hfv
          cases hfv with
          | fn _ caps _ hs he =>
            obtain ⟨g1, g2⟩ := normArgs_rep hρ hps
            have hr : (execOp a.eval { dst, op := .call { callee := .value f, args, argTypes }, type, pos, after, guard }).run P w = .ok (.enter g0 (args.map a.eval ++ caps)) w := by
              have hb : fn.body.isNone = false := by cases hbb : fn.body <;> simp_all
              simp only [execOp, resolve, hev, Deferred.ofValue, Sem.run_bind, Sem.run_pure, Result.andThen_ok, invoke, callFunc, program, Sem.run]
              simp [hfn, hname, hb]
            unfold Oper.wp
            rw [hr]
            refine (hcall R w (args.map a.eval ++ caps) hi.val (by simp [hs]; simpa using g1) (fun j v p hv hp => ?_)).mono (fun e w' hh => ?_)
            · by_cases hj : j < ps0.length
              · rw [List.getElem?_append_left hj] at hp
                rw [Array.getElem?_append_left (by simp; have := g1; simp at this; omega), Array.getElem?_map] at hv
                cases hq : args[j]? with
                | none => simp [hq] at hv
                | some y =>
                  rw [hq] at hv; simp only [Option.map_some, Option.some.injEq] at hv; subst hv
                  exact g2 j y p (by simpa using hq) hp
              · have hg1 : args.size = ps0.length := by simpa using g1
                rw [List.getElem?_append_right (by omega), List.getElem?_map] at hp
                rw [Array.getElem?_append_right (by simp; omega)] at hv
                simp only [Array.size_map] at hv
                rw [hg1] at hv
                cases hq : cs[j - ps0.length]? with
                | none => simp [hq] at hp
                | some y =>
                  rw [hq] at hp; simp only [Option.map_some, Option.some.injEq] at hp; subst hp
                  exact he _ v y hv hq
            · obtain ⟨v, R', rfl, h1, h2, h3⟩ := hh
              obtain ⟨i1, i2⟩ := hi.later h1 h2
              exact hK r.av L R' γ w' v hk i1 i2 (Mv.of_sub h1.sub) (CV.av_rep h3)
      · cases hc
    · cases hc
  · obtain ⟨dst, op, type, pos, after, guard⟩ := o
    simp only at hc hK
    obtain ⟨args, argTypes, x, xs, rfl, hxs, hx, hps⟩ := callOpO_parts hc
    obtain ⟨⟨fn, hfn, hbody, hname⟩, hcall⟩ := hP
    obtain ⟨g1, g2⟩ := normArgs_rep hρ hps
    have hxv := hρ _ _ hx
    obtain ⟨hpv, hlt, hall⟩ := hxv
    obtain ⟨_, hwide, hlink⟩ := hall _ _ hLt
    obtain ⟨gh, hgh, hlk⟩ := hlink rfl
    have hob := hi.obj t _ _ hLt hgh
    have hown : OwnV R w es k (a.eval x) gh := by
      match gh, hlk, hob with
      | .none, hlk, hob => exact ⟨List.eq_nil_of_length_eq_zero hob, hlk⟩
      | .arr b c, hlk, ⟨a1, a2, a3, a4⟩ => exact ⟨hlk, a1, a2, a3, a4⟩
    have hr := run_enter (P := P) (w := w) (a := a) (dst := dst) (type := type) (pos := pos) (after := after) (guard := guard) (args := args) (argTypes := argTypes) hfn hbody hname
    unfold Oper.wp
    rw [hr]
    have hargs : args.map a.eval = #[a.eval x] ++ (xs.map a.eval).toArray := by
      cases args; simp at hxs; subst hxs; simp
    rw [hargs]
    refine (hcall R w (a.eval x) (xs.map a.eval).toArray gh hi.val hpv hwide hown (by simpa using g1) (fun j v p hv hp => ?_)).mono (fun e w' hh => ?_)
    · simp only [List.getElem?_toArray, List.getElem?_map] at hv
      cases hq : xs[j]? with
      | none => simp [hq] at hv
      | some y => rw [hq] at hv; simp only [Option.map_some, Option.some.injEq] at hv; subst hv; exact g2 j y p hq hp
    · obtain ⟨v', R', g', rfl, h1, h2, h3, h4, h5, h6⟩ := hh
      obtain ⟨γ', i1, i2, i3, i4⟩ := takeover hi hLt hgh h1 h2 h3 h4 h5 h6 rfl
      exact hK _ _ R' γ' w' v' hk i1 i2 i3 i4
  · obtain ⟨dst, op, type, pos, after, guard⟩ := o
    simp only at hc hK
    obtain ⟨args, argTypes, x, xs, rfl, hxs, hx, hps⟩ := callOpO_parts' hc
    obtain ⟨⟨fn, hfn, hbody, hname⟩, hcall⟩ := hP
    -- the slice without room gets a token first
    have hi1 := hi.tok k
    have hm1 : Mv R R γ (γ ++ [.none]) L (L ++ [.spare 0 k]) := Mv.push _ _ hi.len
    obtain ⟨g1, g2⟩ := normArgs_rep hρ hps
    obtain ⟨ad, hxv⟩ := hρ _ _ hx
    have hr := run_enter (P := P) (w := w) (a := a) (dst := dst) (type := type) (pos := pos) (after := after) (guard := guard) (args := args) (argTypes := argTypes) hfn hbody hname
    unfold Oper.wp
    rw [hr]
    have hargs : args.map a.eval = #[a.eval x] ++ (xs.map a.eval).toArray := by
      cases args; simp at hxs; subst hxs; simp
    rw [hargs]
    refine (hcall R w (a.eval x) (xs.map a.eval).toArray .none hi.val (by rw [hxv]; exact prep_nil _ _ _) (by simp) ⟨rfl, ad, hxv⟩ (by simpa using g1) (fun j v p hv hp => ?_)).mono (fun e w' hh => ?_)
    · simp only [List.getElem?_toArray, List.getElem?_map] at hv
      cases hq : xs[j]? with
      | none => simp [hq] at hv
      | some y => rw [hq] at hv; simp only [Option.map_some, Option.some.injEq] at hv; subst hv; exact g2 j y p hq hp
    · obtain ⟨v', R', g', rfl, h1, h2, h3, h4, h5, h6⟩ := hh
      have hE : Ext (· < w.heap.size) R R' w w' := ⟨h1.below.mono fun b hb => ⟨hb, by intro e; cases e⟩, h1.sub, fun b o hb => h1.old b o ⟨hb, by intro e; cases e⟩⟩
      obtain ⟨j1, j2⟩ := hi.later hE h2
      obtain ⟨γ', i1, i2, i3⟩ := give (n' := es'.length) j1 (hB := fun b hb => Nat.lt_of_lt_of_le (hi.bsz b hb) (Nat.le_refl _)) (s := w.heap.size) (fun i h b hh hb => (hi.new i h b hh hb).2) h3 h4 h5 (fun b hb => (h6 b hb).resolve_right (by intro e; cases e)) rfl
      exact hK _ _ R' γ' w' v' hk i1 j2 ((Mv.of_sub h1.sub).trans i2) i3

theorem trep_put {T : Tm} {a : Act} (hT : TRep N R γ L T a) {d : Option Tmp} {v : AV} {u : Value} (hd : dOK N d) (hv : v.rep R γ L u) : TRep N R γ L (putT T d v) (a.put d u) := by
  cases d with
  | none => exact hT
  | some d =>
    have hd' : d < N := hd
    refine ⟨by simp [Act.put, hT.size], hT.defers, fun t x h => ?_⟩
    simp only [putT, List.lookup_cons] at h
    by_cases htd : t = d
    · subst htd
      simp at h; subst h
      exact ⟨u, by simp only [Act.put]; exact Array.getElem?_setIfInBounds_self_of_lt (by rw [hT.size]; exact hd'), hv⟩
    · have : (t == d) = false := by simpa using htd
      rw [this] at h
      obtain ⟨u', h1, h2⟩ := hT.slot t x h
      exact ⟨u', by simp only [Act.put]; rw [Array.getElem?_setIfInBounds_ne (Ne.symm htd)]; exact h1, h2⟩

theorem gd_sound {ops : Array Oper} {ds : List (Option Tmp)} (hds : ∀ j : Nat, (ops[j]?).map (·.dst) = ds[j]?) {T : Tm} {a : Act} (hT : TRep N R γ L T a) {o : Oper} {A B' : Prop} (h : gd ds T A B' o.guard) :
    (Region.wanted o (yielded ops a.tmps) = true ∧ A) ∨ (Region.wanted o (yielded ops a.tmps) = false ∧ B') := by
  cases hg : o.guard with
  | none =>
    rw [hg] at h
    exact .inl ⟨by simp [Region.wanted, hg], h⟩
  | some p =>
    obtain ⟨j, want⟩ := p
    rw [hg] at h
    simp only [gd] at h
    split at h
    · rename_i d hd
      have hd' : (ops[j]?).bind (·.dst) = some d := by
        have := hds j
        rw [hd] at this
        cases ho : ops[j]? with
        | none => simp [ho] at this
        | some o' => simpa [ho] using this
      split at h
      · rename_i b hb
        obtain ⟨u, h1, h2⟩ := hT.slot d _ hb
        cases h2
        have hy : yielded ops a.tmps j = some b := by simp [yielded, hd', h1]
        by_cases hbw : b = want
        · exact .inl ⟨by simp [Region.wanted, hg, hy, hbw], h.1 hbw⟩
        · exact .inr ⟨by simp [Region.wanted, hg, hy, hbw], h.2 (by cases b <;> cases want <;> simp_all)⟩
      · rename_i hb
        obtain ⟨u, h1, h2⟩ := hT.slot d _ hb
        have h2' : u = Go.undef := h2
        subst h2'
        have hy : yielded ops a.tmps j = none := by simp [yielded, hd', h1, Go.undef]
        exact .inr ⟨by simp [Region.wanted, hg, hy], h⟩
      · exact h.elim
    · exact h.elim

theorem awOps_sound (hti : TIok P ti) {ops : Array Oper} {ds : List (Option Tmp)} (hds : ∀ j : Nat, (ops[j]?).map (·.dst) = ds[j]?) {K : Tm → List Ob → Prop} {Q : Exit → Act → World → Prop} : ∀ (l : List Oper) (R : PH) (γ : List Gh) (L : List Ob) (T : Tm) (a : Act) (w : World), awOps P ti N ds K l T L → Inv B R γ L w → TRep N R γ L T a →
    (∀ T' L' R' γ' w' a', K T' L' → Inv B R' γ' L' w' → TRep N R' γ' L' T' a' → Ext B R R' w w' → Q .normal a' w') → wpList P ops Q l a w
  | [], R, γ, L, T, a, w, h, hi, hT, hQ => hQ T L R γ w a h hi hT (Ext.refl _ _ _)
  | o :: rest, R, γ, L, T, a, w, h, hi, hT, hQ => by
    obtain ⟨hd, hg⟩ := h
    unfold wpList
    rcases gd_sound hds hT hg with ⟨hw, hA⟩ | ⟨hw, hB⟩
    · rw [if_pos hw]
      refine .inl (awOp_sound hti hi (fun x v hx => look_rep hT hx) hA fun v L' R' γ' w' u hk h1 h2 h3 h4 => ?_)
      exact awOps_sound hti hds rest R' γ' L' _ _ w' hk h1 (trep_put (hT.mv h3) hd h4) fun T2 L2 R2 γ2 w2 a2 k1 k2 k3 k4 => hQ T2 L2 R2 γ2 w2 a2 k1 k2 k3 (h2.trans k4)
    · rw [if_neg (by rw [hw]; decide)]
      exact awOps_sound hti hds rest R γ L _ _ w hB hi (trep_put hT hd rfl) hQ
end
end

section
open Go.RowKit

inductive AX where
  | normal
  | exit (id : Nat)
  | ret
  deriving DecidableEq
def AX.ex : AX → Exit
  | .normal => .normal
  | .exit id => .exit id
  | .ret => .ret

def AwPost (N : Nat) (B : Nat → Prop) (Q : AX → Tm → List Ob → Prop) (R : PH) (w : World) (e : Exit) (a' : Act) (w' : World) : Prop :=
  ∃ x T' L' R' γ', e = x.ex ∧ Q x T' L' ∧ Inv B R' γ' L' w' ∧ TRep N R' γ' L' T' a' ∧ Ext B R R' w w'
/-- The code c, begun at the slots T and the objects L, ends so that Q holds. -/
def Aw (P : Program) (N : Nat) (c : Code) (Q : AX → Tm → List Ob → Prop) (T : Tm) (L : List Ob) : Prop :=
  ∀ B R γ w a, Inv B R γ L w → TRep N R γ L T a → c.wp P (AwPost N B Q R w) a w

@[reducible] def AX.then (A : Tm → List Ob → Prop) (Q : AX → Tm → List Ob → Prop) : AX → Tm → List Ob → Prop
  | .normal, T, L => A T L
  | e, T, L => Q e T L
@[reducible] def AX.inBlock (id : Nat) (Q : AX → Tm → List Ob → Prop) : AX → Tm → List Ob → Prop
  | .exit j, T, L => if j = id then Q .normal T L else Q (.exit j) T L
  | e, T, L => Q e T L

section
variable {P : Program} {ti : TI} {N : Nat} {Q : AX → Tm → List Ob → Prop} {T : Tm} {L : List Ob}

theorem Aw.mono {c : Code} {Q' : AX → Tm → List Ob → Prop} (h : Aw P N c Q T L) (hq : ∀ x T L, Q x T L → Q' x T L) : Aw P N c Q' T L :=
  fun B R γ w a hi hT => wp_mono (h B R γ w a hi hT) fun _ _ _ ⟨x, T', L', R', γ', e, q, r⟩ => ⟨x, T', L', R', γ', e, hq _ _ _ q, r⟩
theorem AwPost.ext {B : Nat → Prop} {R R1 : PH} {w w1 : World} {e : Exit} {a' : Act} {w' : World} (h : AwPost N B Q R1 w1 e a' w') (he : Ext B R R1 w w1) : AwPost N B Q R w e a' w' :=
  let ⟨x, T', L', R', γ', h1, h2, h3, h4, h5⟩ := h; ⟨x, T', L', R', γ', h1, h2, h3, h4, he.trans h5⟩

theorem aw_skip (h : Q .normal T L) : Aw P N .skip Q T L := fun _ R γ w a hi hT => wp_skip ⟨.normal, T, L, R, γ, rfl, h, hi, hT, Ext.refl _ _ _⟩
theorem aw_label {l : Nat} (h : Q .normal T L) : Aw P N (.label l) Q T L := fun _ R γ w a hi hT => wp_label ⟨.normal, T, L, R, γ, rfl, h, hi, hT, Ext.refl _ _ _⟩
theorem aw_ret (h : Q .ret T L) : Aw P N .ret Q T L := fun _ R γ w a hi hT => wp_ret ⟨.ret, T, L, R, γ, rfl, h, hi, hT, Ext.refl _ _ _⟩
theorem aw_exit {id : Nat} (h : Q (.exit id) T L) : Aw P N (.exit id) Q T L := fun _ R γ w a hi hT => wp_exit ⟨.exit id, T, L, R, γ, rfl, h, hi, hT, Ext.refl _ _ _⟩
theorem aw_seq {x y : Code} (h : Aw P N x (AX.then (Aw P N y Q) Q) T L) : Aw P N (.seq x y) Q T L := by
  intro B R γ w a hi hT
  refine wp_seq (wp_mono (h B R γ w a hi hT) ?_)
  rintro e a1 w1 ⟨x, T1, L1, R1, γ1, rfl, q, i1, t1, e1⟩
  cases x with
  | normal => exact wp_mono (q B R1 γ1 w1 a1 i1 t1) fun _ _ _ hh => hh.ext e1
  | exit id => exact ⟨.exit id, T1, L1, R1, γ1, rfl, q, i1, t1, e1⟩
  | ret => exact ⟨.ret, T1, L1, R1, γ1, rfl, q, i1, t1, e1⟩
theorem aw_cond {c : Operand} {x y : Code} {b : Bool} (hc : look T c = some (.one (.c (.bool b)))) (h1 : b = true → Aw P N x Q T L) (h2 : b = false → Aw P N y Q T L) : Aw P N (.cond c x y) Q T L := by
  intro B R γ w a hi hT
  have hv := look_rep hT hc
  have he : a.eval c = .bool b := by
    generalize a.eval c = v at hv
    cases hv; rfl
  exact wp_cond_split he (fun e => h1 e B R γ w a hi hT) (fun e => h2 e B R γ w a hi hT)
theorem aw_block {id : Nat} {c : Code} (h : Aw P N c (AX.inBlock id Q) T L) : Aw P N (.block id c) Q T L := by
  intro B R γ w a hi hT
  refine wp_block (wp_mono (h B R γ w a hi hT) ?_)
  rintro e a1 w1 ⟨x, T1, L1, R1, γ1, rfl, q, i1, t1, e1⟩
  cases x with
  | normal => exact ⟨.normal, T1, L1, R1, γ1, rfl, q, i1, t1, e1⟩
  | ret => exact ⟨.ret, T1, L1, R1, γ1, rfl, q, i1, t1, e1⟩
  | exit j =>
    simp only [AX.inBlock] at q
    by_cases hj : j = id
    · subst hj
      rw [if_pos rfl] at q
      show Exit.inBlock j _ (.exit j) a1 w1
      simp only [Exit.inBlock, if_true]
      exact ⟨.normal, T1, L1, R1, γ1, rfl, q, i1, t1, e1⟩
    · rw [if_neg hj] at q
      show Exit.inBlock id _ (.exit j) a1 w1
      simp only [Exit.inBlock, if_neg hj]
      exact ⟨.exit j, T1, L1, R1, γ1, rfl, q, i1, t1, e1⟩
theorem dsts {l : List Oper} {ds : List (Option Tmp)} (hds : l.map (·.dst) = ds) (j : Nat) : (l.toArray[j]?).map (·.dst) = ds[j]? := by rw [← hds]; simp
theorem aw_region (hti : TIok P ti) {id : Nat} {l : List Oper} (ds : List (Option Tmp)) (hds : l.map (·.dst) = ds) (h : awOps P ti N ds (Q .normal) l T L) : Aw P N (.region id l.toArray false) Q T L := by
  intro B R γ w a hi hT
  refine wp_region_lit (awOps_sound hti (dsts hds) l R γ L T a w h hi hT ?_)
  intro T' L' R' γ' w' a' hk h1 h2 h3
  exact ⟨.normal, T', L', R', γ', rfl, hk, h1, h2, h3⟩

/-- Fewer slots, fewer objects. -/
def SV.below (n : Nat) : SV → Prop
  | .own _ t => t < n
  | .ptr id _ => id < n
  | _ => True
def AV.below (n : Nat) : AV → Prop
  | .one x => x.below n
  | .agg xs => ∀ x ∈ xs, x.below n
  | _ => True
def Ob.below (n : Nat) : Ob → Prop
  | .box cs => ∀ x ∈ cs, x.below n
  | _ => True
structure Fits (T' : Tm) (L' : List Ob) (T : Tm) (L : List Ob) : Prop where
  slots : ∀ p ∈ T, T'.lookup p.1 = some p.2
  pre : ∃ G, L' = L ++ G
  below : ∀ p ∈ T, p.2.below L.length
  objs : ∀ x ∈ L, x.below L.length

theorem SV.cut {R : PH} {γ : List Gh} {L G : List Ob} (hl : γ.length = (L ++ G).length) {x : SV} {v : Value} (h : x.rep R γ (L ++ G) v) (hb : x.below L.length) : x.rep R (γ.take L.length) L v := by
  cases x with
  | c y => exact h
  | emp => exact h
  | own es t =>
    obtain ⟨h1, _, h2⟩ := h
    have ht : t < L.length := hb
    refine ⟨h1, ht, fun n k e0 => ?_⟩
    obtain ⟨h3, h4, h5⟩ := h2 n k (by rw [List.getElem?_append_left ht]; exact e0)
    refine ⟨h3, h4, fun e => ?_⟩
    obtain ⟨g, g1, g2⟩ := h5 e
    exact ⟨g, by rw [List.getElem?_take, if_pos ht]; exact g1, g2⟩
  | ptr id off =>
    obtain ⟨b, h1, h2⟩ := h
    have ht : id < L.length := hb
    exact ⟨b, h1, by rw [List.getElem?_take, if_pos ht]; exact h2⟩
theorem AV.cut {R : PH} {γ : List Gh} {L G : List Ob} (hl : γ.length = (L ++ G).length) {x : AV} {v : Value} (h : x.rep R γ (L ++ G) v) (hb : x.below L.length) : x.rep R (γ.take L.length) L v := by
  cases x with
  | one x => exact SV.cut hl h hb
  | agg xs =>
    obtain ⟨vs, h1, h2, h3⟩ := h
    exact ⟨vs, h1, h2, fun j u x hu hx => SV.cut hl (h3 j u x hu hx) (hb x (List.mem_of_getElem? hx))⟩
  | tup ps => exact h
  | undef => exact h
theorem lookup_mem : ∀ {T : Tm} {t : Nat} {x : AV}, T.lookup t = some x → (t, x) ∈ T
  | (k, y) :: T, t, x, h => by
    rw [List.lookup_cons] at h
    by_cases e : t = k
    · subst e; simp at h; subst h; exact List.mem_cons_self ..
    · have : (t == k) = false := by simpa using e
      rw [this] at h
      exact List.mem_cons_of_mem _ (lookup_mem h)
theorem Fits.sound {T' : Tm} {L' : List Ob} (hf : Fits T' L' T L) {B : Nat → Prop} {R : PH} {γ : List Gh} {w : World} {a : Act} (hi : Inv B R γ L' w) (hT : TRep N R γ L' T' a) : ∃ γ', Inv B R γ' L w ∧ TRep N R γ' L T a := by
  obtain ⟨G, rfl⟩ := hf.pre
  have hl : γ.length = (L ++ G).length := hi.len
  have hlen : (γ.take L.length).length = L.length := by rw [List.length_take, hl]; simp
  have get : ∀ (i : Nat) g, (γ.take L.length)[i]? = some g → i < L.length ∧ γ[i]? = some g := by
    intro i g hg
    rw [List.getElem?_take] at hg
    split at hg
    · rename_i h; exact ⟨h, hg⟩
    · cases hg
  refine ⟨γ.take L.length, ⟨hlen, hi.val, fun id x g hx hg => ?_, fun i j gi gj h1 h2 => hi.inj i j gi gj (get i gi h1).2 (get j gj h2).2, fun i g b hg => hi.new i g b (get i g hg).2, hi.bsz⟩, ⟨hT.size, hT.defers, fun t x h => ?_⟩⟩
  · obtain ⟨hlt, hg'⟩ := get id g hg
    have hobj := hi.obj id x g (by rw [List.getElem?_append_left hlt]; exact hx) hg'
    have hb := hf.objs x (List.mem_of_getElem? hx)
    match x, g, hobj, hb with
    | .box cs, .box b, ⟨⟨vs, E, h1, h2, h3⟩, h4⟩, hb => exact ⟨⟨vs, E, h1, h2, fun j u x hu hx => SV.cut hl (h3 j u x hu hx) (hb x (List.mem_of_getElem? hx))⟩, h4⟩
    | .spare n k, .arr b c, hobj, _ => exact hobj
    | .spare n k, .none, hobj, _ => exact hobj
    | .dead, .none, hobj, _ => exact hobj
  · have hm := lookup_mem h
    obtain ⟨u, h1, h2⟩ := hT.slot t x (hf.slots (t, x) hm)
    exact ⟨u, h1, AV.cut hl h2 (hf.below (t, x) hm)⟩
theorem aw_fit {c : Code} {T1 : Tm} {L1 : List Ob} (hf : Fits T L T1 L1) (h : Aw P N c Q T1 L1) : Aw P N c Q T L := by
  intro B R γ w a hi hT
  obtain ⟨γ', i1, t1⟩ := hf.sound hi hT
  exact h B R γ' w a i1 t1

/-- A slice without room gets the right to grow. -/
theorem aw_tok {c : Code} (t k : Nat) (ht : T.lookup t = some (.one .emp)) (h : Aw P N c Q ((t, .one (.own [] L.length)) :: T) (L ++ [.spare 0 k])) : Aw P N c Q T L := by
  intro B R γ w a hi hT
  have hm : Mv R R γ (γ ++ [.none]) L (L ++ [.spare 0 k]) := Mv.push _ _ hi.len
  refine h B R (γ ++ [.none]) w a (hi.tok k) ⟨hT.size, hT.defers, fun t' x hx => ?_⟩
  rw [List.lookup_cons] at hx
  by_cases e : t' = t
  · subst e
    simp at hx; subst hx
    obtain ⟨u, h1, b, rfl⟩ := hT.slot t' _ ht
    exact ⟨_, h1, prep_nil _ _ _, by simp, fun n2 k2 _ => ⟨by simp, by simp, fun _ => ⟨.none, by rw [← hi.len]; simp, b, by simp⟩⟩⟩
  · have : (t' == t) = false := by simpa using e
    rw [this] at hx
    exact (hT.mv hm).slot t' x hx
/-- .. in a variable in memory. -/
theorem aw_tokBox {c : Code} (id j k : Nat) {cs : List SV} (hid : L[id]? = some (.box cs)) (hj : cs[j]? = some .emp) (h : Aw P N c Q T (L.set id (.box (cs.set j (.own [] L.length))) ++ [.spare 0 k])) : Aw P N c Q T L := by
  intro B R γ w a hi hT
  have hlt := (List.getElem?_eq_some_iff.1 hid).1
  have hm : Mv R R γ (γ ++ [.none]) L (L.set id (.box (cs.set j (.own [] L.length))) ++ [.spare 0 k]) := by
    refine ⟨PH.sub_refl _, by simp, fun t n k' hlt' e => ⟨n, ?_, Nat.le_refl _, fun _ => ?_⟩, fun i b e => ?_⟩
    · rw [List.getElem?_append_left (by simpa using hlt')] at e
      have hne : t ≠ id := by rintro rfl; rw [List.getElem?_set_self hlt'] at e; cases e
      rw [List.getElem?_set_ne (Ne.symm hne)] at e; exact e
    · rw [List.getElem?_append_left (by rw [hi.len]; exact hlt')]
    · rw [List.getElem?_append_left (List.getElem?_eq_some_iff.1 e).1]; exact e
  refine h B R (γ ++ [.none]) w a ?_ (hT.mv hm)
  have gcase : ∀ j h, (γ ++ [Gh.none])[j]? = some h → (j = γ.length ∧ h = .none) ∨ (j < γ.length ∧ γ[j]? = some h) := by
    intro j h hh
    by_cases hid : j < γ.length
    · rw [List.getElem?_append_left hid] at hh; exact .inr ⟨hid, hh⟩
    · have : j = γ.length := by have := (List.getElem?_eq_some_iff.1 hh).1; simp at this; omega
      subst this
      rw [List.getElem?_append_right (by omega)] at hh
      simp at hh
      exact .inl ⟨rfl, hh.symm⟩
  have it := hi.tok k
  refine ⟨by simp [hi.len], hi.val, fun i y g hy hg => ?_, it.inj, it.new, hi.bsz⟩
  rcases gcase i g hg with ⟨rfl, rfl⟩ | ⟨hl2, hg'⟩
  · rw [List.getElem?_append_right (by simp [hi.len])] at hy
    simp [hi.len] at hy; subst hy; rfl
  · rw [List.getElem?_append_left (by simp; rw [← hi.len]; exact hl2)] at hy
    by_cases hii : i = id
    · subst hii
      rw [List.getElem?_set_self hlt] at hy
      injection hy with hy; subst hy
      have hob := hi.obj i _ _ hid hg'
      match g, hob with
      | .box b, ⟨⟨vs, E, h1, h2, h3⟩, h4⟩ =>
        refine ⟨⟨vs, E, h1, by simp [h2], fun q u x hu hx => ?_⟩, h4⟩
        by_cases hq : q = j
        · subst hq
          rw [List.getElem?_set_self (List.getElem?_eq_some_iff.1 hj).1] at hx
          injection hx with hx; subst hx
          obtain ⟨ad, rfl⟩ := h3 q u _ hu hj
          exact ⟨prep_nil _ _ _, by simp, fun n2 k2 _ => ⟨by simp, by simp, fun _ => ⟨.none, by rw [← hi.len]; simp, ad, by simp⟩⟩⟩
        · rw [List.getElem?_set_ne (Ne.symm hq)] at hx
          exact SV.mv hm (h3 q u x hu hx)
    · rw [List.getElem?_set_ne (Ne.symm hii)] at hy
      exact (hi.obj i y g hy hg').mv hm (fun _ _ => rfl) (fun _ _ _ h => h)

/-- A loop: the states s at its head, with the slots TT s and the objects LL s. -/
theorem aw_loop {σ : Type} {c : Code} (TT : σ → Tm) (LL : σ → List Ob) (ok : σ → Prop) (μ : σ → Nat) (s0 : σ) (h0 : ok s0) (hf : Fits T L (TT s0) (LL s0))
    (round : ∀ s, ok s → Aw P N c (AX.then (fun T' L' => ∃ s', ok s' ∧ μ s' < μ s ∧ Fits T' L' (TT s') (LL s')) Q) (TT s) (LL s)) : Aw P N (.loop c) Q T L := by
  intro B R0 γ0 w0 a0 hi hT
  obtain ⟨γ1, i1, t1⟩ := hf.sound hi hT
  have key : ∀ n s R γ a w, μ s < n → ok s → Inv B R γ (LL s) w → TRep N R γ (LL s) (TT s) a → Ext B R0 R w0 w → Code.rounds P c (AwPost N B Q R0 w0) n a w := by
    intro n
    induction n with
    | zero => intro s R γ a w h; omega
    | succ n ih =>
      intro s R γ a w hlt hok hI ht he
      rw [rounds_succ]
      refine wp_mono (round s hok B R γ w a hI ht) ?_
      rintro e a1 w1 ⟨x, T1, L1, R1, γ2, rfl, q, j1, k1, e1⟩
      cases x with
      | normal =>
        obtain ⟨s', ok', hlt', hfit⟩ := q
        obtain ⟨γ3, j2, k2⟩ := hfit.sound j1 k1
        exact ih s' R1 γ3 a1 w1 (by omega) ok' j2 k2 (he.trans e1)
      | exit id => exact ⟨.exit id, T1, L1, R1, γ2, rfl, q, j1, k1, he.trans e1⟩
      | ret => exact ⟨.ret, T1, L1, R1, γ2, rfl, q, j1, k1, he.trans e1⟩
  exact wp_loop_rounds (μ s0 + 1) (key _ s0 R0 γ1 a0 w0 (by omega) h0 i1 t1 (Ext.refl _ _ _))

/-- The results of a function, over trees. -/
def resOne (ti : TI) (T : Tm) (L : List Ob) : ResultVar → Option (PV × Prop)
  | .tmp t => ((T.lookup t).bind AV.norm).map fun p => (p, True)
  | .cell a t => match T.lookup a with
    | some (.one (.ptr id off)) => match popLoad ti L t (.one (.ptr id off)) with
      | some (v, φ) => v.norm.map fun p => (p, φ)
      | none => none
    | _ => none
def resAll (ti : TI) (T : Tm) (L : List Ob) : List ResultVar → Option (List PV × Prop)
  | [] => some ([], True)
  | r :: rs => match resOne ti T L r, resAll ti T L rs with
    | some (p, φ), some (ps, ψ) => some (p :: ps, φ ∧ ψ)
    | _, _ => none
def cvOf : List PV → CV
  | [p] => .val p
  | ps => .tup ps
def Res (ti : TI) (rs : List ResultVar) (T : Tm) (L : List Ob) (r : CV) : Prop :=
  match resAll ti T L rs with
  | some (ps, φ) => φ ∧ cvOf ps = r
  | none => False

def resSem (tmps : Array Value) : ResultVar → Sem Value
  | .tmp t => pure (tmps.getD t Go.undef)
  | .cell ad t => do loadVar t (← asAddr (tmps.getD ad Go.undef))
theorem results_eq (fn : Func) (tmps : Array Value) : results fn tmps = (do let vs ← fn.results.mapM (resSem tmps); pure (if h : vs.size = 1 then vs[0] else .tuple vs)) := by
  unfold results
  congr
theorem resOne_sound (hti : TIok P ti) {B : Nat → Prop} {R : PH} {γ : List Gh} {w : World} {a : Act} (hi : Inv B R γ L w) (hT : TRep N R γ L T a) {rv : ResultVar} {p : PV} {φ : Prop} (h : resOne ti T L rv = some (p, φ)) (hφ : φ) :
    ∃ u, (resSem a.tmps rv).run P w = .ok u w ∧ p.rep R u := by
  cases rv with
  | tmp t =>
    simp only [resOne] at h
    cases hl : T.lookup t with
    | none => simp [hl] at h
    | some x =>
      simp only [hl, Option.bind_some] at h
      cases hn : x.norm with
      | none => simp [hn] at h
      | some q =>
        simp only [hn, Option.map_some, Option.some.injEq, Prod.mk.injEq] at h
        obtain ⟨rfl, _⟩ := h
        obtain ⟨u, h1, h2⟩ := hT.slot t x hl
        exact ⟨u, by simp [resSem, Array.getD_eq_getD_getElem?, h1], AV.norm_rep h2 hn⟩
  | cell ad t =>
    simp only [resOne] at h
    split at h
    · rename_i id off hl
      split at h
      · rename_i v ψ hp
        cases hn : v.norm with
        | none => simp [hn] at h
        | some q =>
          simp only [hn, Option.map_some, Option.some.injEq, Prod.mk.injEq] at h
          obtain ⟨rfl, h2⟩ := h
          subst h2
          obtain ⟨u, h1, hu⟩ := hT.slot ad _ hl
          obtain ⟨b, rfl, hg⟩ := hu
          obtain ⟨u', r1, r2⟩ := popLoad_sound hti hi (va := .one (.ptr id off)) (u1 := .pointer (some ⟨b, off, none⟩)) ⟨b, rfl, hg⟩ hp hφ
          refine ⟨u', ?_, AV.norm_rep r2 hn⟩
          simp only [Instr.loadAt, Instr.sureAddr] at r1
          simpa [resSem, Array.getD_eq_getD_getElem?, h1, asAddr] using r1
      · cases h
    · cases h
theorem resAll_sound (hti : TIok P ti) {B : Nat → Prop} {R : PH} {γ : List Gh} {w : World} {a : Act} (hi : Inv B R γ L w) (hT : TRep N R γ L T a) : ∀ {rs : List ResultVar} {ps : List PV} {φ : Prop}, resAll ti T L rs = some (ps, φ) → φ →
    ∃ us : List Value, (rs.mapM (resSem a.tmps)).run P w = .ok us w ∧ us.length = ps.length ∧ ∀ (j : Nat) u p, us[j]? = some u → ps[j]? = some p → p.rep R u
  | [], ps, φ, h, _ => by
    simp only [resAll, Option.some.injEq, Prod.mk.injEq] at h
    obtain ⟨rfl, _⟩ := h
    exact ⟨[], rfl, rfl, fun j u p hu => by simp at hu⟩
  | r :: rs, ps, φ, h, hφ => by
    unfold resAll at h
    split at h
    · rename_i p ψ ps' χ h1 h2
      simp only [Option.some.injEq, Prod.mk.injEq] at h
      obtain ⟨rfl, rfl⟩ := h
      obtain ⟨u, r1, r2⟩ := resOne_sound hti hi hT h1 hφ.1
      obtain ⟨us, s1, s2, s3⟩ := resAll_sound hti hi hT h2 hφ.2
      refine ⟨u :: us, ?_, by simp [s2], fun j v q hv hq => ?_⟩
      · rw [List.mapM_cons]
        simp only [Sem.run_bind, r1, Result.andThen_ok, s1, Sem.run_pure]
      · cases j with
        | zero => simp at hv hq; subst hv hq; exact r2
        | succ j => exact s3 j v q (by simpa using hv) (by simpa using hq)
    · cases h
theorem Res.sound (hti : TIok P ti) {B : Nat → Prop} {R : PH} {γ : List Gh} {w : World} {a : Act} (hi : Inv B R γ L w) (hT : TRep N R γ L T a) {fn : Func} {r : CV} (h : Res ti fn.results.toList T L r) :
    ∃ v, (results fn a.tmps).run P w = .ok v w ∧ r.rep R v := by
  unfold Res at h
  split at h
  · rename_i ps φ hp
    obtain ⟨hφ, rfl⟩ := h
    obtain ⟨us, s1, s2, s3⟩ := resAll_sound hti hi hT hp hφ
    have hm : (fn.results.mapM (resSem a.tmps)).run P w = .ok us.toArray w := by
      rw [Array.mapM_eq_mapM_toList]
      simp only [Sem.run_map, s1, Result.andThen_ok]
    refine ⟨if h : us.toArray.size = 1 then us.toArray[0] else .tuple us.toArray, ?_, ?_⟩
    · rw [results_eq]
      simp only [Sem.run_bind]
      rw [hm]
      rfl
    · match us, ps, s2, s3 with
      | [u], [p], _, s3 => exact s3 0 u p rfl rfl
      | [], [], _, _ => exact ⟨#[], rfl, rfl, fun j u p hu => by simp at hu⟩
      | u1 :: u2 :: us, p1 :: p2 :: ps, s2, s3 =>
        rw [dif_neg (by simp)]
        exact ⟨_, rfl, by simpa using s2, fun j u p hu hp => s3 j u p (by simpa using hu) hp⟩
  · exact h.elim

def argT : Nat → List PV → Tm
  | _, [] => []
  | i, p :: ps => (i, p.av) :: argT (i + 1) ps
theorem argT_lookup : ∀ (ps : List PV) (i t : Nat) (x : AV), (argT i ps).lookup t = some x → ∃ p, ps[t - i]? = some p ∧ x = p.av ∧ i ≤ t
  | [], i, t, x, h => by simp [argT] at h
  | p :: ps, i, t, x, h => by
    rw [argT, List.lookup_cons] at h
    by_cases e : t = i
    · subst e
      simp at h; subst h
      exact ⟨p, by simp, rfl, Nat.le_refl _⟩
    · have : (t == i) = false := by simpa using e
      rw [this] at h
      obtain ⟨q, h1, h2, h3⟩ := argT_lookup ps (i + 1) t x h
      refine ⟨q, ?_, h2, by omega⟩
      have : t - i = (t - (i + 1)) + 1 := by omega
      rw [this, List.getElem?_cons_succ]; exact h1

/-- A function's contract out of its body. -/
theorem pure_of_aw (hti : TIok P ti) {f : FuncId} {fn : Func} {c : Code} {args : List PV} {r : CV} (hf : P.funcs[f]? = some fn) (hb : fn.body = some c) (hname : (fn.name == "runtime.NumGoroutine") = false) (hN : fn.ntmps = N) (hlen : args.length ≤ N)
    (h : Aw P N c (fun x T L => (x = .normal ∨ x = .ret) ∧ Res ti fn.results.toList T L r) (argT 0 args) []) : Pure P f args r := by
  refine ⟨⟨fn, hf, by rw [hb]; rfl, hname⟩, fun R w vs hR hs hv => ?_⟩
  refine calls_of_wp hf hb ?_
  have hi : Inv (· < w.heap.size) R [] [] w := ⟨rfl, hR, fun id x g hx => by simp at hx, fun i j gi gj h => by simp at h, fun i g b h => by simp at h, fun _ h => h⟩
  have hT : TRep N R [] [] (argT 0 args) { tmps := vs ++ Array.replicate (fn.ntmps - vs.size) Go.undef, defers := [] } := by
    refine ⟨by simp; omega, rfl, fun t x ht => ?_⟩
    obtain ⟨p, h1, rfl, _⟩ := argT_lookup args 0 t x ht
    rw [Nat.sub_zero] at h1
    have hlt : t < vs.size := by rw [hs]; exact (List.getElem?_eq_some_iff.1 h1).1
    have hu : vs[t]? = some vs[t] := Array.getElem?_eq_getElem hlt
    exact ⟨vs[t], by rw [Array.getElem?_append_left hlt]; exact hu, PV.av_rep (hv t _ p hu h1)⟩
  refine wp_mono (h (· < w.heap.size) R [] w _ hi hT) ?_
  rintro e a' w' ⟨x, T', L', R', γ', rfl, ⟨hx, hres⟩, i1, t1, e1⟩
  obtain ⟨v, h1, h2⟩ := Res.sound hti i1 t1 hres
  rcases hx with rfl | rfl
  · exact ⟨t1.defers, v, h1, v, R', rfl, e1, i1.val, h2⟩
  · exact ⟨t1.defers, v, h1, v, R', rfl, e1, i1.val, h2⟩

/-- The one result is a row of the function's own. -/
def ResO (rs : List ResultVar) (T : Tm) (L : List Ob) (es' : List (List AC)) (k : Nat) : Prop :=
  match rs with
  | [.tmp t] => match T.lookup t with
    | some (.one (.own es i)) => es = es' ∧ L[i]? = some (.spare es'.length k)
    | some (.one .emp) => es' = []
    | _ => False
  | _ => False
theorem pureO_of_aw {f : FuncId} {fn : Func} {c : Code} {args : List PV} {es es' : List (List AC)} {k : Nat} (hf : P.funcs[f]? = some fn) (hb : fn.body = some c) (hname : (fn.name == "runtime.NumGoroutine") = false) (hN : fn.ntmps = N) (hlen : args.length + 1 ≤ N)
    (h : Aw P N c (fun x T L => (x = .normal ∨ x = .ret) ∧ ResO fn.results.toList T L es' k) ((0, .one (.own es 0)) :: argT 1 args) [.spare es.length k]) : PureO P f es k args es' := by
  refine ⟨⟨fn, hf, by rw [hb]; rfl, hname⟩, fun R w v vs g hR hpv hwide hown hs hv => ?_⟩
  refine calls_of_wp hf hb ?_
  have hgsz : ∀ b, g.block = some b → b < w.heap.size := by
    intro b hb
    match g, hown, hb with
    | .arr b' c, ⟨_, ⟨vs, E, a1, _⟩, _⟩, hb => injection hb with hb; subst hb; exact (Array.getElem?_eq_some_iff.1 a1).1
  have one : ∀ (j : Nat) h, [g][j]? = some h → j = 0 ∧ h = g := by
    intro j h hh
    cases j with
    | zero => simp at hh; exact ⟨rfl, hh.symm⟩
    | succ j => simp at hh
  have hi : Inv (fun b => b < w.heap.size ∧ g.block ≠ some b) R [g] [.spare es.length k] w := by
    refine ⟨rfl, hR, fun id x h hx hh => ?_, fun i j gi gj h1 h2 hne => ?_, fun i h b hh hb => ?_, fun _ h => h.1⟩
    · obtain ⟨rfl, rfl⟩ := one id h hh
      simp at hx; subst hx
      match h, hown with
      | .none, ⟨h0, _⟩ => rw [h0]; rfl
      | .arr b c, ⟨_, ⟨vs, E, a1, a2⟩, a3, a4, a5⟩ => exact ⟨⟨vs, E, a1, a2⟩, a3, a4, a5⟩
    · have := (one i gi h1).1; have := (one j gj h2).1; omega
    · obtain ⟨rfl, rfl⟩ := one i h hh
      exact ⟨fun hB => hB.2 hb, hgsz b hb⟩
  have hT : TRep N R [g] [.spare es.length k] ((0, .one (.own es 0)) :: argT 1 args) { tmps := (#[v] ++ vs) ++ Array.replicate (fn.ntmps - (#[v] ++ vs).size) Go.undef, defers := [] } := by
    refine ⟨by simp; omega, rfl, fun t x ht => ?_⟩
    rw [List.lookup_cons] at ht
    by_cases e : t = 0
    · subst e
      simp at ht; subst ht
      refine ⟨v, by rw [Array.getElem?_append_left (by simp; omega), Array.getElem?_append_left (by simp)]; rfl, hpv, by simp, fun n2 k2 e2 => ?_⟩
      simp at e2
      obtain ⟨rfl, rfl⟩ := e2
      refine ⟨Nat.le_refl _, hwide, fun _ => ⟨g, rfl, ?_⟩⟩
      match g, hown with
      | .none, ⟨h0, ha⟩ => exact ha
      | .arr b c, ⟨h0, _⟩ => exact h0
    · have : (t == 0) = false := by simpa using e
      rw [this] at ht
      obtain ⟨p, h1, rfl, h2⟩ := argT_lookup args 1 t x ht
      have hlt : t - 1 < vs.size := by rw [hs]; exact (List.getElem?_eq_some_iff.1 h1).1
      have hu : vs[t - 1]? = some vs[t - 1] := Array.getElem?_eq_getElem hlt
      refine ⟨vs[t - 1], ?_, PV.av_rep (hv (t - 1) _ p hu h1)⟩
      rw [Array.getElem?_append_left (by simp; omega), Array.getElem?_append_right (by simp; omega)]
      simp
  refine wp_mono (h _ R [g] w _ hi hT) ?_
  rintro e a' w' ⟨x, T', L', R', γ', rfl, ⟨hx, hres⟩, i1, t1, e1⟩
  unfold ResO at hres
  split at hres
  case h_2 => exact hres.elim
  rename_i t hrs
  have hrs' : fn.results = #[.tmp t] := by cases hfr : fn.results; rw [hfr] at hrs; simp_all
  have hval : ∀ u, a'.tmps[t]? = some u → (results fn a'.tmps).run P w' = .ok u w' := by
    intro u hu
    rw [results_eq, hrs']
    simp [resSem, Array.getD_eq_getD_getElem?, hu]
  have fin : ∀ u g', a'.tmps[t]? = some u → PRep R' u (.lst es') → (∀ e ∈ es', e.length = k) → OwnV R' w' es' k u g' → (∀ b, g'.block = some b → w.heap.size ≤ b ∨ g.block = some b) → bodyPost P fn (fun e w' => ∃ v' R' g', e = .returned v' ∧ Ext (fun b => b < w.heap.size ∧ g.block ≠ some b) R R' w w' ∧ (∀ b o u, R' b o = some u → w'.cell? ⟨b, o, none⟩ = some u) ∧
      PRep R' v' (.lst es') ∧ (∀ e ∈ es', e.length = k) ∧ OwnV R' w' es' k v' g' ∧ ∀ b, g'.block = some b → w.heap.size ≤ b ∨ g.block = some b) x.ex a' w' := by
    intro u g' hu hp hw ho hb
    rcases hx with rfl | rfl
    · exact ⟨t1.defers, u, hval u hu, u, R', g', rfl, e1, i1.val, hp, hw, ho, hb⟩
    · exact ⟨t1.defers, u, hval u hu, u, R', g', rfl, e1, i1.val, hp, hw, ho, hb⟩
  split at hres
  · rename_i es0 i hl
    obtain ⟨rfl, hLi⟩ := hres
    obtain ⟨u, hu, hp, hlt, hall⟩ := t1.slot t _ hl
    obtain ⟨_, hw, hlk⟩ := hall _ _ hLi
    obtain ⟨g', hg', hlink⟩ := hlk rfl
    have hob := i1.obj i _ _ hLi hg'
    refine fin u g' hu hp hw ?_ ?_
    · match g', hlink, hob with
      | .none, hlk, hob => exact ⟨List.eq_nil_of_length_eq_zero hob, hlk⟩
      | .arr b c, hlk, ⟨a1, a2, a3, a4⟩ => exact ⟨hlk, a1, a2, a3, a4⟩
    · intro b hb
      have := (i1.new i g' b hg' hb).1
      by_cases hlt2 : b < w.heap.size
      · right
        by_cases hge : g.block = some b
        · exact hge
        · exact absurd ⟨hlt2, hge⟩ this
      · left; omega
  · rename_i hl
    subst hres
    obtain ⟨u, hu, ad, rfl⟩ := t1.slot t _ hl
    exact fin _ .none hu (prep_nil _ _ _) (by simp) ⟨rfl, ad, rfl⟩ (by intro b hb; cases hb)
  · exact hres.elim
end
end

end Go.Proofs.Ytllenmkmompjpaa
