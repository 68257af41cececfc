/- A reading of memory as trees: regions that draw their order; steps of a walk. No condition. -/
import Derived.Test.YtllenmkmompjpaaTb
import Derived.IntWalk
namespace Go.Proofs.Ytllenmkmompjpaa

section
open Go.RowKit

/-- Operations that make or turn objects of the function. -/
def lKind (ti : TI) : Op → Bool
  | .alloc _ => true
  | .box _ _ => true
  | .store _ _ _ => true
  | .call { callee := .builtin .append, .. } => true
  | .call { callee := .value (.func f), .. } => ti.owns f
  | _ => false

section
variable {P : Program} {ti : TI} {L : List Ob}

theorem elemsOf_congr {ρ ρ' : Operand → Option AV} : ∀ (ps : List (Nat × Operand)) (j : Nat), (∀ p ∈ ps, ρ p.2 = ρ' p.2) → elemsOf ρ ps j = elemsOf ρ' ps j
  | [], _, _ => rfl
  | (i, x) :: ps, j, h => by
    have h1 : ρ x = ρ' x := h (i, x) (by simp)
    have h2 := elemsOf_congr ps (j + 1) fun p hp => h p (List.mem_cons_of_mem _ hp)
    simp only [elemsOf, h1, h2]
theorem normArgs_congr {ρ ρ' : Operand → Option AV} : ∀ (xs : List Operand), (∀ x ∈ xs, ρ x = ρ' x) → normArgs ρ xs = normArgs ρ' xs
  | [], _ => rfl
  | x :: xs, h => by
    have h1 : ρ x = ρ' x := h x (by simp)
    have h2 := normArgs_congr xs fun y hy => h y (List.mem_cons_of_mem _ hy)
    simp only [normArgs, h1, h2]

theorem pop_congr {ρ ρ' : Operand → Option AV} {op : Op} (h : ∀ x, x ∈ op.operands → ρ x = ρ' x) : pop ti ρ L op = pop ti ρ' L op := by
  unfold pop
  split
  · rename_i x; rw [h x (by simp [Op.operands])]
  · rename_i x; rw [h x (by simp [Op.operands])]
  · rename_i c x y; rw [h c (by simp [Op.operands]), h x (by simp [Op.operands]), h y (by simp [Op.operands])]
  · rename_i o t x y yt; rw [h x (by simp [Op.operands]), h y (by simp [Op.operands])]
  · rename_i o t x; rw [h x (by simp [Op.operands])]
  · rename_i s d x; rw [h x (by simp [Op.operands])]
  · rename_i t x; rw [h x (by simp [Op.operands])]
  · rename_i s x i; rw [h x (by simp [Op.operands])]
  · rename_i s x i; rw [h x (by simp [Op.operands])]
  · rename_i t x y; rw [h x (by simp [Op.operands]), h y (by simp [Op.operands])]
  · rename_i t x y; rw [h x (by simp [Op.operands]), h y (by simp [Op.operands])]
  · rename_i x i; rw [h x (by simp [Op.operands])]
  · rename_i x; rw [h x (by simp [Op.operands])]
  · rename_i t x lo hi
    have h1 : lo.map ρ = lo.map ρ' := by cases lo with | none => rfl | some y => simp [h y (by simp [Op.operands])]
    have h2 : hi.map ρ = hi.map ρ' := by cases hi with | none => rfl | some y => simp [h y (by simp [Op.operands])]
    rw [h x (by simp [Op.operands]), h1, h2]
  · rename_i args ts
    split
    · rename_i x t hx ht
      rw [h x (by simp [Op.operands, Call.operands]; rw [← Array.mem_toList_iff, hx]; simp)]
    · rfl
  · rename_i args ts
    have : args.toList.map ρ = args.toList.map ρ' := List.map_congr_left fun x hx => h x (by simp [Op.operands, Call.operands]; simpa using hx)
    rw [this]
  · rename_i args ts
    have : args.toList.map ρ = args.toList.map ρ' := List.map_congr_left fun x hx => h x (by simp [Op.operands, Call.operands]; simpa using hx)
    rw [this]
  · rename_i t parts
    have : (parts.toList.map fun p => (p.1, ρ p.2)) = parts.toList.map fun p => (p.1, ρ' p.2) := List.map_congr_left fun p hp => by
      rw [h p.2 (by simp only [Op.operands, List.mem_toArray]; exact List.mem_map_of_mem hp)]
    rw [this]
  · rename_i f first captured
    have : captured.toList.map ρ = captured.toList.map ρ' := List.map_congr_left fun x hx => h x (by simp [Op.operands]; exact .inr (by simpa using hx))
    rw [this]
  · rfl

theorem lop_kind {ρ : Operand → Option AV} {op : Op} {r : AV × List Ob × Prop} (h : lop ti ρ L op = some r) : lKind ti op = true := by
  unfold lop at h
  split at h
  · rfl
  · rfl
  · rfl
  · rfl
  · cases h
theorem callOpO_kind {ρ : Operand → Option AV} {op : Op} {r : FuncId × List (List AC) × Option Nat × List PV} (h : callOpO ti ρ op = some r) : lKind ti op = true := by
  unfold callOpO at h
  split at h
  · rename_i f args ts
    split at h
    · rename_i x xs ho hxs; exact ho
    · cases h
  · cases h
theorem litOp_congr {ρ ρ' : Operand → Option AV} {op : Op} (h : ∀ x, x ∈ op.operands → ρ x = ρ' x) : litOp ti ρ op = litOp ti ρ' op := by
  unfold litOp
  split
  · rename_i t len parts
    unfold popLit
    rw [elemsOf_congr parts.toList 0 fun p hp => h p.2 (by simp only [Op.operands, List.mem_toArray]; exact List.mem_map_of_mem hp)]
  · rfl
theorem callOp_congr {ρ ρ' : Operand → Option AV} {op : Op} (h : ∀ x, x ∈ op.operands → ρ x = ρ' x) : callOp ρ op = callOp ρ' op := by
  unfold callOp
  split
  · rename_i f args ts
    have h1 : ρ f = ρ' f := h f (by simp [Op.operands, Call.operands])
    have h2 : normArgs ρ args.toList = normArgs ρ' args.toList := normArgs_congr _ fun x hx => h x (by simp [Op.operands, Call.operands]; exact .inr (by simpa using hx))
    rw [h1, h2]
  · rfl
theorem awOp_congr {ρ ρ' : Operand → Option AV} {op : Op} {K : AV → List Ob → Prop} (hl : lKind ti op = false) (h : ∀ x, x ∈ op.operands → ρ x = ρ' x) (ha : awOp P ti ρ L K op) : awOp P ti ρ' L K op := by
  rcases ha with ha | ha | ⟨v, L', φ, hp, _⟩ | ha | ⟨g, es, t, k, ps, es', hc, _⟩ | ⟨g, k, ps, es', hc, _⟩
  · rw [pop_congr h] at ha; exact .inl ha
  · rw [litOp_congr h] at ha; exact .inr (.inl ha)
  · rw [lop_kind hp] at hl; cases hl
  · rw [callOp_congr h] at ha; exact .inr (.inr (.inr (.inl ha)))
  · rw [callOpO_kind hc] at hl; cases hl
  · rw [callOpO_kind hc] at hl; cases hl
/-- One value, and the objects as they were. -/
theorem awOp_val {ρ : Operand → Option AV} {op : Op} {K : AV → List Ob → Prop} (hl : lKind ti op = false) (ha : awOp P ti ρ L K op) : ∃ v, awOp P ti ρ L (fun v' L' => v' = v ∧ L' = L) op ∧ K v L := by
  rcases ha with ⟨v, φ, hp, hφ, hk⟩ | ⟨v, φ, hp, hφ, hk⟩ | ⟨v, L', φ, hp, _⟩ | ⟨g, ps, r, hc, hP, hk⟩ | ⟨g, es, t, k, ps, es', hc, _⟩ | ⟨g, k, ps, es', hc, _⟩
  · exact ⟨v, .inl ⟨v, φ, hp, hφ, rfl, rfl⟩, hk⟩
  · exact ⟨v, .inr (.inl ⟨v, φ, hp, hφ, rfl, rfl⟩), hk⟩
  · rw [lop_kind hp] at hl; cases hl
  · exact ⟨r.av, .inr (.inr (.inr (.inl ⟨g, ps, r, hc, hP, rfl, rfl⟩))), hk⟩
  · rw [callOpO_kind hc] at hl; cases hl
  · rw [callOpO_kind hc] at hl; cases hl
end
end

section
open Go.RowKit

def maskOf (acc : List Nat) (o : Oper) : Nat := o.after.toList.foldl (fun s e => if Region.binds .any e then s ||| 2 ^ e.on ||| acc.getD e.on 0 else s) 0
def masks : List Oper → List Nat → List Nat
  | [], acc => acc
  | o :: rest, acc => masks rest (acc ++ [maskOf acc o])
def namesOf (ops : Array Oper) (o : Oper) : List Tmp := o.looksAt ops ++ o.dst.toList
/-- What is asked of a region that draws its order: its first m operations turn no object; the others follow one another. -/
def drawOK (ti : TI) (l : List Oper) (m : Nat) : Bool :=
  let ms := masks l []
  (l.zipIdx.all fun p => p.1.after.toList.all fun e => !Region.binds .any e || decide (e.on < p.2)) &&
  ((l.take m).all fun o => !lKind ti o.op) &&
  ((List.range l.length).all fun i => decide (i < m) || (List.range i).all fun j => (ms.getD i 0).testBit j) &&
  ((l.take m).zipIdx.all fun p => (l.take m).zipIdx.all fun q => decide (p.2 = q.2) || (match p.1.dst with
    | some d => !(namesOf l.toArray q.1).contains d || (p.1.dst != q.1.dst && (if p.2 < q.2 then (ms.getD q.2 0).testBit p.2 else (ms.getD p.2 0).testBit q.2))
    | none => true)) &&
  decide (m ≤ l.length)

inductive Anc (l : List Oper) : Nat → Nat → Prop
  | edge {i : Nat} {o : Oper} {e : Edge} (h : l[i]? = some o) (he : e ∈ o.after.toList) (hb : Region.binds .any e = true) : Anc l i e.on
  | step {i j : Nat} {o : Oper} {e : Edge} (h : l[i]? = some o) (he : e ∈ o.after.toList) (hb : Region.binds .any e = true) (h2 : Anc l e.on j) : Anc l i j

theorem foldl_bit (acc : List Nat) (j : Nat) : ∀ (es : List Edge) (s : Nat), (es.foldl (fun s e => if Region.binds .any e then s ||| 2 ^ e.on ||| acc.getD e.on 0 else s) s).testBit j = true →
    s.testBit j = true ∨ ∃ e ∈ es, Region.binds .any e = true ∧ (e.on = j ∨ (acc.getD e.on 0).testBit j = true)
  | [], s, h => .inl h
  | e :: es, s, h => by
    rw [List.foldl_cons] at h
    rcases foldl_bit acc j es _ h with h1 | ⟨e', h1, h2⟩
    · by_cases hb : Region.binds .any e = true
      · rw [if_pos hb, Nat.testBit_or, Nat.testBit_or] at h1
        simp only [Bool.or_eq_true, Nat.testBit_two_pow, decide_eq_true_eq] at h1
        rcases h1 with (h1 | h1) | h1
        · exact .inl h1
        · exact .inr ⟨e, by simp, hb, .inl h1⟩
        · exact .inr ⟨e, by simp, hb, .inr h1⟩
      · rw [if_neg hb] at h1; exact .inl h1
    · exact .inr ⟨e', List.mem_cons_of_mem _ h1, h2⟩
theorem masks_spec (l : List Oper) : ∀ (rest : List Oper) (acc : List Nat), (∀ q, l[acc.length + q]? = rest[q]?) → (∀ i j, i < acc.length → (acc.getD i 0).testBit j = true → Anc l i j) →
    ∀ i j, ((masks rest acc).getD i 0).testBit j = true → Anc l i j
  | [], acc, _, h, i, j, hb => by
    by_cases hi : i < acc.length
    · exact h i j hi hb
    · have hb' : (acc.getD i 0).testBit j = true := hb
      rw [List.getD_eq_getElem?_getD, List.getElem?_eq_none (by omega)] at hb'
      simp at hb'
  | o :: rest, acc, hl, h, i, j, hb => by
    refine masks_spec l rest (acc ++ [maskOf acc o]) (fun q => ?_) (fun i j hi hb => ?_) i j hb
    · have := hl (q + 1)
      simp only [List.getElem?_cons_succ] at this
      rw [← this]; congr 1; simp; omega
    · by_cases hi2 : i < acc.length
      · rw [List.getD_eq_getElem?_getD, List.getElem?_append_left hi2, ← List.getD_eq_getElem?_getD] at hb
        exact h i j hi2 hb
      · have : i = acc.length := by simp at hi; omega
        subst this
        rw [List.getD_eq_getElem?_getD, List.getElem?_append_right (by omega)] at hb
        simp only [Nat.sub_self, List.getElem?_cons_zero, Option.getD_some] at hb
        have ho : l[acc.length]? = some o := by simpa using hl 0
        rcases foldl_bit acc j _ _ hb with h0 | ⟨e, he, hbd, h1 | h1⟩
        · simp at h0
        · subst h1; exact .edge ho he hbd
        · by_cases hlt : e.on < acc.length
          · exact .step ho he hbd (h e.on j hlt h1)
          · rw [List.getD_eq_getElem?_getD, List.getElem?_eq_none (by omega)] at h1
            simp at h1

/-- The checks, apart. -/
structure Draw (ti : TI) (l : List Oper) (m : Nat) : Prop where
  back : ∀ (i : Nat) o, l[i]? = some o → ∀ e ∈ o.after.toList, Region.binds .any e = true → e.on < i
  still : ∀ (i : Nat) o, i < m → l[i]? = some o → lKind ti o.op = false
  forced : ∀ i j, m ≤ i → i < l.length → j < i → Anc l i j
  apart : ∀ (i j : Nat) o o' d, i < m → j < m → i ≠ j → l[i]? = some o → l[j]? = some o' → o.dst = some d → d ∈ namesOf l.toArray o' → o'.dst ≠ some d ∧ (if i < j then Anc l j i else Anc l i j)
  le : m ≤ l.length
theorem draw_of {ti : TI} {l : List Oper} {m : Nat} (h : drawOK ti l m = true) : Draw ti l m := by
  unfold drawOK at h
  simp only [Bool.and_eq_true, decide_eq_true_eq] at h
  obtain ⟨⟨⟨⟨h1, h2⟩, h3⟩, h4⟩, h5⟩ := h
  have hspec := masks_spec l l [] (fun q => by simp) (fun i j hi => by simp at hi)
  have zi : ∀ {l' : List Oper} (i : Nat) o, l'[i]? = some o → (o, i) ∈ l'.zipIdx := by
    intro l' i o ho
    rw [List.mem_iff_getElem?]
    exact ⟨i, by simp [List.getElem?_zipIdx, ho]⟩
  refine ⟨fun i o ho e he hb => ?_, fun i o hi ho => ?_, fun i j hm hi hj => ?_, fun i j o o' d hi hj hne ho ho' hd hn => ?_, h5⟩
  · have := List.all_eq_true.1 (List.all_eq_true.1 h1 (o, i) (zi i o ho)) e he
    simpa [hb] using this
  · have hmem : o ∈ l.take m := List.mem_of_getElem? (show (l.take m)[i]? = some o by rw [List.getElem?_take, if_pos hi]; exact ho)
    have := List.all_eq_true.1 h2 o hmem
    simpa using this
  · have := List.all_eq_true.1 h3 i (by simpa using hi)
    simp only [Bool.or_eq_true, decide_eq_true_eq] at this
    rcases this with this | this
    · omega
    · exact hspec i j (List.all_eq_true.1 this j (by simpa using hj))
  · have m1 := zi (l' := l.take m) i o (by rw [List.getElem?_take, if_pos hi]; exact ho)
    have m2 := zi (l' := l.take m) j o' (by rw [List.getElem?_take, if_pos hj]; exact ho')
    have := List.all_eq_true.1 (List.all_eq_true.1 h4 _ m1) _ m2
    simp only [hne, decide_false, Bool.false_or, hd] at this
    have hc : (namesOf l.toArray o').contains d = true := by simpa using hn
    rw [hc] at this
    simp only [Bool.not_true, Bool.false_or, Bool.and_eq_true, bne_iff_ne, ne_eq] at this
    refine ⟨fun e => this.1 e.symm, ?_⟩
    by_cases hij : i < j
    · rw [if_pos hij] at this ⊢
      exact hspec j i this.2
    · rw [if_neg hij] at this ⊢
      exact hspec i j this.2

/-- The operations that are done: closed downward. -/
structure Done (l : List Oper) (listed : Array Bool) : Prop where
  size : listed.size = l.length
  down : ∀ (i : Nat) o, l[i]? = some o → listed[i]? = some true → ∀ e ∈ o.after.toList, Region.binds .any e = true → listed[e.on]? = some true
theorem Done.anc {l : List Oper} {listed : Array Bool} (h : Done l listed) {i j : Nat} (ha : Anc l i j) (hd : ∀ o, l[i]? = some o → ∀ e ∈ o.after.toList, Region.binds .any e = true → listed[e.on]? = some true) : listed[j]? = some true := by
  induction ha with
  | edge ho he hb => exact hd _ ho _ he hb
  | step ho he hb _ ih => exact ih fun o ho' => h.down _ o ho' (hd _ ho _ he hb)
theorem ready_iff {ti : TI} {l : List Oper} {m : Nat} {listed : Array Bool} (hD : Draw ti l m) (h : Done l listed) (i : Nat) : i ∈ Region.ready .any l.toArray listed ↔ i < l.length ∧ listed[i]? = some false ∧ ∀ o, l[i]? = some o → ∀ e ∈ o.after.toList, Region.binds .any e = true → listed[e.on]? = some true := by
  unfold Region.ready
  rw [List.mem_filter, List.mem_range]
  simp only [List.size_toArray, Bool.and_eq_true]
  constructor
  · rintro ⟨hi, h1, h2⟩
    have hlt : i < listed.size := by rw [h.size]; exact hi
    have e1 : listed[i]? = some listed[i] := Array.getElem?_eq_getElem hlt
    refine ⟨hi, ?_, fun o ho e he hb => ?_⟩
    · rw [Array.getD_eq_getD_getElem?, e1] at h1
      simp at h1
      rw [e1, h1]
    · simp only [List.getElem?_toArray, ho, Option.map_some, Option.getD_some] at h2
      have := Array.all_eq_true'.1 h2 e (by simpa using he)
      rw [hb] at this
      have hlt2 : e.on < listed.size := by rw [h.size]; have := hD.back i o ho e he hb; omega
      have e2 : listed[e.on]? = some listed[e.on] := Array.getElem?_eq_getElem hlt2
      rw [Array.getD_eq_getD_getElem?, e2] at this
      simp at this
      rw [e2, this]
  · rintro ⟨hi, h1, h2⟩
    refine ⟨hi, by simp [Array.getD_eq_getD_getElem?, h1], ?_⟩
    have ho : l[i]? = some l[i] := List.getElem?_eq_getElem hi
    simp only [List.getElem?_toArray, ho, Option.map_some, Option.getD_some]
    rw [Array.all_eq_true']
    intro e he
    by_cases hb : Region.binds .any e = true
    · simp [hb, Array.getD_eq_getD_getElem?, h2 _ ho e (by simpa using he) hb]
    · simp [hb]
theorem Done.put {l : List Oper} {listed : Array Bool} (h : Done l listed) {i : Nat} (hi : ∀ o, l[i]? = some o → ∀ e ∈ o.after.toList, Region.binds .any e = true → listed[e.on]? = some true) : Done l (listed.setIfInBounds i true) := by
  refine ⟨by simp [h.size], fun j o ho hj e he hb => ?_⟩
  have key : listed[e.on]? = some true := by
    by_cases hij : j = i
    · subst hij; exact hi o ho e he hb
    · rw [Array.getElem?_setIfInBounds_ne (Ne.symm hij)] at hj
      exact h.down j o ho hj e he hb
  by_cases hx : e.on = i
  · rw [hx, Array.getElem?_setIfInBounds_self_of_lt (by rw [hx] at key; exact (Array.getElem?_eq_some_iff.1 key).1)]
  · rw [Array.getElem?_setIfInBounds_ne (Ne.symm hx)]; exact key
end

section
open Go.RowKit

def gdv (ds : List (Option Tmp)) (T : Tm) : Option (Nat × Bool) → Option Bool
  | none => some true
  | some (j, want) => match ds[j]? with
    | some (some d) => match T.lookup d with
      | some (.one (.c (.bool b))) => some (b == want)
      | some .undef => some false
      | _ => none
    | _ => none
theorem gd_gdv {ds : List (Option Tmp)} {T : Tm} {A B : Prop} {g : Option (Nat × Bool)} (h : gd ds T A B g) : (gdv ds T g = some true ∧ A) ∨ (gdv ds T g = some false ∧ B) := by
  cases g with
  | none => exact .inl ⟨rfl, h⟩
  | some p =>
    obtain ⟨j, want⟩ := p
    simp only [gd] at h
    simp only [gdv]
    split at h
    · rename_i d hd
      simp only [hd]
      split at h
      · rename_i b hb
        simp only [hb]
        by_cases hbw : b = want
        · exact .inl ⟨by simp [hbw], h.1 hbw⟩
        · exact .inr ⟨by simp [hbw], h.2 (by cases b <;> cases want <;> simp_all)⟩
      · rename_i hb
        simp only [hb]
        exact .inr ⟨by simp, h⟩
      · exact h.elim
    · exact h.elim

def tat : List Oper → List AV → Tm → Nat → Tm
  | o :: l, v :: vs, T, i + 1 => tat l vs (putT T o.dst v) i
  | _, _, T, _ => T
theorem putT_lookup_ne {T : Tm} {d : Option Tmp} {v : AV} {t : Nat} (h : d ≠ some t) : (putT T d v).lookup t = T.lookup t := by
  cases d with
  | none => rfl
  | some d =>
    have : (t == d) = false := by simp; intro e; exact h (by rw [e])
    simp [putT, List.lookup_cons, this]
theorem tat_old {t : Nat} : ∀ (l : List Oper) (vs : List AV) (T : Tm) (i : Nat), (∀ j o, j < i → l[j]? = some o → o.dst ≠ some t) → (tat l vs T i).lookup t = T.lookup t
  | o :: l, v :: vs, T, i + 1, h => by
    rw [tat, tat_old l vs _ i fun j o' hj ho => h (j + 1) o' (by omega) (by simpa using ho), putT_lookup_ne (h 0 o (by omega) rfl)]
  | [], _, _, _, _ => by simp [tat]
  | _ :: _, [], _, _, _ => by simp [tat]
  | _ :: _, _ :: _, _, 0, _ => by simp [tat]
theorem tat_new {t : Nat} : ∀ (l : List Oper) (vs : List AV) (T : Tm) (i j : Nat) (o : Oper) (v : AV), j < i → l[j]? = some o → o.dst = some t → vs[j]? = some v → (∀ k o', j < k → k < i → l[k]? = some o' → o'.dst ≠ some t) → (∀ k, k < i → k ≤ j → k < vs.length) → (tat l vs T i).lookup t = some v
  | [], _, _, _, _, _, _, _, h, _, _, _, _ => by simp at h
  | _ :: _, [], _, _, _, _, _, _, _, _, h, _, _ => by simp at h
  | _ :: _, _ :: _, _, 0, _, _, _, h, _, _, _, _, _ => by omega
  | o0 :: l, v0 :: vs, T, i + 1, 0, o, v, _, ho, hd, hv, hk, _ => by
    simp at ho hv; subst ho hv
    rw [tat, tat_old l vs _ i fun j o' hj ho' => hk (j + 1) o' (by omega) (by omega) (by simpa using ho'), hd]
    simp [putT, List.lookup_cons]
  | o0 :: l, v0 :: vs, T, i + 1, j + 1, o, v, hj, ho, hd, hv, hk, hl => by
    rw [tat]
    exact tat_new l vs _ i j o v (by omega) (by simpa using ho) hd (by simpa using hv) (fun k o' h1 h2 h3 => hk (k + 1) o' (by omega) (by omega) (by simpa using h3)) (fun k h1 h2 => by have := hl (k + 1) (by omega) (by omega); simpa using this)

section
variable {P : Program} {ti : TI} {B : Nat → Prop} {N : Nat} {γ : List Gh} {L : List Ob}

/-- What the text's own order yields, for the first m operations. -/
theorem trace {ds : List (Option Tmp)} {K : Tm → List Ob → Prop} : ∀ (m : Nat) (l : List Oper) (T : Tm), m ≤ l.length → (∀ (i : Nat) o, i < m → l[i]? = some o → lKind ti o.op = false) → awOps P ti N ds K l T L →
    ∃ vs : List AV, vs.length = m ∧ (∀ (i : Nat) o, i < m → l[i]? = some o → dOK N o.dst ∧ ∃ v, vs[i]? = some v ∧
      ((gdv ds (tat l vs T i) o.guard = some true ∧ awOp P ti (look (tat l vs T i)) L (fun v' L' => v' = v ∧ L' = L) o.op) ∨ (gdv ds (tat l vs T i) o.guard = some false ∧ v = .undef))) ∧
      awOps P ti N ds K (l.drop m) (tat l vs T m) L
  | 0, l, T, _, _, h => ⟨[], rfl, fun i o hi => by omega, by cases l <;> simpa [tat] using h⟩
  | m + 1, [], T, hm, _, h => by simp at hm
  | m + 1, o :: l, T, hm, hp, h => by
    obtain ⟨hd, hg⟩ := h
    have go : ∀ v, ((gdv ds T o.guard = some true ∧ awOp P ti (look T) L (fun v' L' => v' = v ∧ L' = L) o.op) ∨ (gdv ds T o.guard = some false ∧ v = .undef)) → awOps P ti N ds K l (putT T o.dst v) L → ∃ vs : List AV, vs.length = m + 1 ∧ (∀ (i : Nat) o', i < m + 1 → (o :: l)[i]? = some o' → dOK N o'.dst ∧ ∃ v, vs[i]? = some v ∧
      ((gdv ds (tat (o :: l) vs T i) o'.guard = some true ∧ awOp P ti (look (tat (o :: l) vs T i)) L (fun v' L' => v' = v ∧ L' = L) o'.op) ∨ (gdv ds (tat (o :: l) vs T i) o'.guard = some false ∧ v = .undef))) ∧
      awOps P ti N ds K ((o :: l).drop (m + 1)) (tat (o :: l) vs T (m + 1)) L := by
      intro v hv hr
      obtain ⟨vs, h1, h2, h3⟩ := trace m l (putT T o.dst v) (by simpa using hm) (fun i o' hi ho => hp (i + 1) o' (by omega) (by simpa using ho)) hr
      refine ⟨v :: vs, by simp [h1], fun i o' hi ho => ?_, by simpa [tat] using h3⟩
      cases i with
      | zero =>
        simp at ho; subst ho
        exact ⟨hd, v, rfl, by simpa [tat] using hv⟩
      | succ i =>
        obtain ⟨g1, v', g2, g3⟩ := h2 i o' (by omega) (by simpa using ho)
        exact ⟨g1, v', by simpa using g2, by simpa [tat] using g3⟩
    rcases gd_gdv hg with ⟨h1, h2⟩ | ⟨h1, h2⟩
    · obtain ⟨v, g1, g2⟩ := awOp_val (hp 0 o (by omega) rfl) h2
      exact go v (.inl ⟨h1, g1⟩) g2
    · exact go .undef (.inr ⟨h1, rfl⟩) h2

theorem gdv_sound {ops : Array Oper} {ds : List (Option Tmp)} (hds : ∀ j : Nat, (ops[j]?).map (·.dst) = ds[j]?) {T : Tm} {R : PH} {a : Act} {o : Oper} {b : Bool} (hs : ∀ d x, d ∈ o.looksAt ops → T.lookup d = some x → ∃ u, a.tmps[d]? = some u ∧ x.rep R γ L u) (h : gdv ds T o.guard = some b) : Region.wanted o (yielded ops a.tmps) = b := by
  cases hg : o.guard with
  | none => rw [hg] at h; injection h with h; subst h; simp [Region.wanted, hg]
  | some p =>
    obtain ⟨j, want⟩ := p
    rw [hg] at h
    simp only [gdv] at h
    split at h
    · rename_i d hd0
      have hd : (ops[j]?).bind (·.dst) = some d := by
        have := hds j
        rw [hd0] at this
        cases ho : ops[j]? with
        | none => simp [ho] at this
        | some o' => simpa [ho] using this
      have hmem : d ∈ o.looksAt ops := by
        unfold Oper.looksAt
        rw [hg]
        simp [hd]
      split at h
      · rename_i b' hb
        injection h with h; subst h
        obtain ⟨u, h1, h2⟩ := hs d _ hmem hb
        cases h2
        have hy : yielded ops a.tmps j = some b' := by simp [yielded, hd, h1]
        simp [Region.wanted, hg, hy]
      · rename_i hb
        injection h with h; subst h
        obtain ⟨u, h1, h2⟩ := hs d _ hmem hb
        have h2' : u = Go.undef := h2
        subst h2'
        have hy : yielded ops a.tmps j = none := by simp [yielded, hd, h1, Go.undef]
        simp [Region.wanted, hg, hy]
      · cases h
    · cases h

/-- Behind the first part: one operation after the other. -/
theorem suffix_any (hti : TIok P ti) {l : List Oper} {m : Nat} {ds : List (Option Tmp)} (hds : l.map (·.dst) = ds) (hD : Draw ti l m) {K : Tm → List Ob → Prop} {Q : Exit → Act → World → Prop} : ∀ (q s fuel : Nat) (listed : Array Bool) (R : PH) (γ : List Gh) (L : List Ob) (T : Tm) (a : Act) (w : World), s + q = l.length → q ≤ fuel → m ≤ s → Done l listed →
    (∀ i, i < s → listed[i]? = some true) → (∀ i, s ≤ i → i < l.length → listed[i]? = some false) → awOps P ti N ds K (l.drop s) T L → Inv B R γ L w → TRep N R γ L T a →
    (∀ T' L' R' γ' w' a', K T' L' → Inv B R' γ' L' w' → TRep N R' γ' L' T' a' → Ext B R R' w w' → Q .normal a' w') → wpAny P .any l.toArray Q fuel listed a w
  | 0, s, fuel, listed, R, γ, L, T, a, w, hs, _, _, hdone, htrue, _, h, hi, hT, hQ => by
    have hs' : s = l.length := by omega
    subst hs'
    rw [List.drop_of_length_le (Nat.le_refl _)] at h
    have hq := hQ T L R γ w a h hi hT (Ext.refl _ _ _)
    have hnil : Region.ready .any l.toArray listed = [] := by
      apply List.eq_nil_iff_forall_not_mem.2
      intro i hmem
      obtain ⟨h1, h2, _⟩ := (ready_iff hD hdone i).1 hmem
      rw [htrue i h1] at h2; cases h2
    cases fuel with
    | zero => exact ⟨hnil, hq⟩
    | succ f => exact ⟨fun _ => hq, fun i hmem => by rw [hnil] at hmem; cases hmem⟩
  | q + 1, s, fuel, listed, R, γ, L, T, a, w, hs, hf, hm, hdone, htrue, hfalse, h, hi, hT, hQ => by
    obtain ⟨f, rfl⟩ : ∃ f, fuel = f + 1 := ⟨fuel - 1, by omega⟩
    have hlt : s < l.length := by omega
    have ho : l[s]? = some l[s] := List.getElem?_eq_getElem hlt
    rw [List.drop_eq_getElem_cons hlt] at h
    obtain ⟨hd, hg⟩ := h
    have hedges : ∀ o, l[s]? = some o → ∀ e ∈ o.after.toList, Region.binds .any e = true → listed[e.on]? = some true := fun o ho e he hb => htrue _ (hD.back s o ho e he hb)
    have hsr : s ∈ Region.ready .any l.toArray listed := (ready_iff hD hdone s).2 ⟨hlt, hfalse s (Nat.le_refl _) hlt, hedges⟩
    refine ⟨fun hnil => (by rw [hnil] at hsr; cases hsr), fun i hmem => ?_⟩
    obtain ⟨h1, h2, h3⟩ := (ready_iff hD hdone i).1 hmem
    have his : i = s := by
      rcases Nat.lt_trichotomy i s with hlt' | heq | hgt
      · rw [htrue i hlt'] at h2; cases h2
      · exact heq
      · have := hdone.anc (hD.forced i s (by omega) h1 hgt) h3
        rw [hfalse s (Nat.le_refl _) hlt] at this; cases this
    subst his
    have hdone' := hdone.put h3
    have htrue' : ∀ j, j < i + 1 → (listed.setIfInBounds i true)[j]? = some true := by
      intro j hj
      by_cases hji : j = i
      · subst hji; exact Array.getElem?_setIfInBounds_self_of_lt (by rw [hdone.size]; exact hlt)
      · rw [Array.getElem?_setIfInBounds_ne (Ne.symm hji)]; exact htrue j (by omega)
    have hfalse' : ∀ j, i + 1 ≤ j → j < l.length → (listed.setIfInBounds i true)[j]? = some false := by
      intro j hj hl
      rw [Array.getElem?_setIfInBounds_ne (by omega)]; exact hfalse j (by omega) hl
    unfold wpOp
    simp only [List.getElem?_toArray, ho]
    rcases gd_sound (dsts hds) hT hg with ⟨hw, hA⟩ | ⟨hw, hB⟩
    · rw [if_pos hw]
      refine .inl (awOp_sound hti hi (fun x v hx => look_rep hT hx) hA fun v L' R' γ' w' u hk k1 k2 k3 k4 => ?_)
      exact suffix_any hti hds hD q (i + 1) f _ R' γ' L' _ _ w' (by omega) (by omega) (by omega) hdone' htrue' hfalse' hk k1 (trep_put (hT.mv k3) hd k4) fun T2 L2 R2 γ2 w2 a2 q1 q2 q3 q4 => hQ T2 L2 R2 γ2 w2 a2 q1 q2 q3 (k2.trans q4)
    · rw [if_neg (by rw [hw]; decide)]
      exact suffix_any hti hds hD q (i + 1) f _ R γ L _ _ w (by omega) (by omega) (by omega) hdone' htrue' hfalse' hB hi (trep_put hT hd rfl) hQ

theorem countP_lt {α : Type} {p q : α → Bool} : ∀ (l : List α), (∀ x ∈ l, q x = true → p x = true) → (∃ x ∈ l, p x = true ∧ q x = false) → l.countP q < l.countP p
  | [], _, ⟨x, hx, _⟩ => by cases hx
  | y :: l, h, ⟨x, hx, h1, h2⟩ => by
    have hle : l.countP q ≤ l.countP p := List.countP_mono_left fun z hz => h z (List.mem_cons_of_mem _ hz)
    rw [List.countP_cons, List.countP_cons]
    rcases List.mem_cons.1 hx with rfl | hx
    · rw [h1, h2]; simp; omega
    · have := countP_lt l (fun z hz => h z (List.mem_cons_of_mem _ hz)) ⟨x, hx, h1, h2⟩
      have hy := h y (by simp)
      cases hq : q y <;> cases hp : p y <;> simp_all <;> omega

def cntB (n : Nat) (listed : Array Bool) : Nat := (List.range n).countP fun i => listed[i]? == some false

structure Mid (l : List Oper) (m N : Nat) (B : Nat → Prop) (γ : List Gh) (L : List Ob) (T : Tm) (vs : List AV) (R0 : PH) (w0 : World) (listed : Array Bool) (R : PH) (a : Act) (w : World) : Prop where
  inv : Inv B R γ L w
  size : a.tmps.size = N
  defers : a.defers = []
  done : Done l listed
  late : ∀ i, m ≤ i → i < l.length → listed[i]? = some false
  fresh : ∀ (i : Nat) o d v, i < m → listed[i]? = some true → l[i]? = some o → o.dst = some d → vs[i]? = some v → ∃ u, a.tmps[d]? = some u ∧ v.rep R γ L u
  old : ∀ t x, T.lookup t = some x → (∀ (i : Nat) o, i < m → listed[i]? = some true → l[i]? = some o → o.dst ≠ some t) → ∃ u, a.tmps[t]? = some u ∧ x.rep R γ L u
  ext : Ext B R0 R w0 w

open Classical in
theorem prefix_any (hti : TIok P ti) {l : List Oper} {m : Nat} {ds : List (Option Tmp)} (hds : l.map (·.dst) = ds) (hD : Draw ti l m) {K : Tm → List Ob → Prop} {Q : Exit → Act → World → Prop} {T : Tm} {vs : List AV} {R0 : PH} {w0 : World} (hvl : vs.length = m)
    (htr : ∀ (i : Nat) o, i < m → l[i]? = some o → dOK N o.dst ∧ ∃ v, vs[i]? = some v ∧
      ((gdv ds (tat l vs T i) o.guard = some true ∧ awOp P ti (look (tat l vs T i)) L (fun v' L' => v' = v ∧ L' = L) o.op) ∨ (gdv ds (tat l vs T i) o.guard = some false ∧ v = .undef)))
    (hsuf : awOps P ti N ds K (l.drop m) (tat l vs T m) L)
    (hQ : ∀ T' L' R' γ' w' a', K T' L' → Inv B R' γ' L' w' → TRep N R' γ' L' T' a' → Ext B R0 R' w0 w' → Q .normal a' w') :
    ∀ (fuel : Nat) (listed : Array Bool) (R : PH) (γ : List Gh) (a : Act) (w : World), cntB l.length listed ≤ fuel → Mid l m N B γ L T vs R0 w0 listed R a w → wpAny P .any l.toArray Q fuel listed a w := by
  have uniq : ∀ (i j : Nat) o o' d, i < m → j < m → l[i]? = some o → l[j]? = some o' → o.dst = some d → o'.dst = some d → i = j := by
    intro i j o o' d hi hj ho ho' hd hd'
    by_cases hne : i = j
    · exact hne
    · exfalso
      exact (hD.apart i j o o' d hi hj hne ho ho' hd (by unfold namesOf; simp [hd'])).1 hd'
  -- what the slots hold, as the text's own order has them, at an operation that is ready
  have slots : ∀ (listed : Array Bool) (R : PH) (γ : List Gh) (a : Act) (w : World), Mid l m N B γ L T vs R0 w0 listed R a w → ∀ (i : Nat) o, i < m → l[i]? = some o → listed[i]? = some false →
      (∀ o', l[i]? = some o' → ∀ e ∈ o'.after.toList, Region.binds .any e = true → listed[e.on]? = some true) → ∀ t x, t ∈ namesOf l.toArray o → (tat l vs T i).lookup t = some x → ∃ u, a.tmps[t]? = some u ∧ x.rep R γ L u := by
    intro listed R γ a w M i o hi ho hli hed t x hmem hx
    by_cases hex : ∃ (j : Nat) (o' : Oper), j < i ∧ l[j]? = some o' ∧ o'.dst = some t
    · obtain ⟨j, o', hj, ho', hd'⟩ := hex
      have hanc := (hD.apart j i o' o t (by omega) hi (by omega) ho' ho hd' hmem).2
      rw [if_pos hj] at hanc
      have hlj := M.done.anc hanc hed
      have hjv : vs[j]? = some vs[j] := List.getElem?_eq_getElem (by omega)
      have := tat_new l vs T i j o' vs[j] hj ho' hd' hjv (fun k o2 h1 h2 h3 hd2 => by
        have := uniq j k o' o2 t (by omega) (by omega) ho' h3 hd' hd2
        omega) (fun k _ _ => by omega)
      rw [hx] at this
      injection this with this
      subst this
      exact M.fresh j o' t _ (by omega) hlj ho' hd' hjv
    · have hno : ∀ j o', j < i → l[j]? = some o' → o'.dst ≠ some t := fun j o' h1 h2 h3 => hex ⟨j, o', h1, h2, h3⟩
      rw [tat_old l vs T i hno] at hx
      refine M.old t x hx fun k o' hk hlk hok hdk => ?_
      by_cases hki : k < i
      · exact hno k o' hki hok hdk
      · by_cases hke : k = i
        · subst hke; rw [hli] at hlk; cases hlk
        · have hanc := (hD.apart k i o' o t hk hi hke hok ho hdk hmem).2
          rw [if_neg hki] at hanc
          have := M.done.anc hanc (fun o2 h2 => M.done.down k o2 h2 hlk)
          rw [hli] at this; cases this
  intro fuel
  induction fuel with
  | zero =>
    intro listed R γ a w hc M
    have hall : ∀ i, i < l.length → listed[i]? = some true := by
      intro i hi
      have hlt : i < listed.size := by rw [M.done.size]; exact hi
      cases hb : listed[i] with
      | true => rw [Array.getElem?_eq_getElem hlt, hb]
      | false =>
        exfalso
        have : 0 < cntB l.length listed := List.countP_pos_iff.2 ⟨i, by simpa using hi, by rw [Array.getElem?_eq_getElem hlt, hb]; rfl⟩
        omega
    have hm : m = l.length := by
      rcases Nat.lt_or_ge m l.length with h | h
      · have := M.late m (Nat.le_refl _) h; rw [hall m h] at this; cases this
      · have := hD.le; omega
    refine suffix_any hti hds hD 0 m 0 listed R γ L (tat l vs T m) a w (by omega) (Nat.le_refl _) (Nat.le_refl _) M.done (fun i hi => hall i (by omega)) M.late hsuf M.inv ⟨M.size, M.defers, fun t x hx => ?_⟩ (fun T' L' R' γ' w' a' q1 q2 q3 q4 => hQ T' L' R' γ' w' a' q1 q2 q3 (M.ext.trans q4))
    by_cases hex : ∃ (j : Nat) (o' : Oper), j < m ∧ l[j]? = some o' ∧ o'.dst = some t
    · obtain ⟨j, o', hj, ho', hd'⟩ := hex
      have hjv : vs[j]? = some vs[j] := List.getElem?_eq_getElem (by omega)
      have := tat_new l vs T m j o' vs[j] hj ho' hd' hjv (fun k o2 h1 h2 h3 hd2 => by
        have := uniq j k o' o2 t (by omega) (by omega) ho' h3 hd' hd2
        omega) (fun k _ _ => by omega)
      rw [hx] at this
      injection this with this
      subst this
      exact M.fresh j o' t _ hj (hall j (by omega)) ho' hd' hjv
    · have hno : ∀ j o', j < m → l[j]? = some o' → o'.dst ≠ some t := fun j o' h1 h2 h3 => hex ⟨j, o', h1, h2, h3⟩
      rw [tat_old l vs T m hno] at hx
      exact M.old t x hx fun k o' hk _ hok hdk => hno k o' hk hok hdk
  | succ fuel ih =>
    intro listed R γ a w hc M
    by_cases hfull : ∀ i, i < m → listed[i]? = some true
    · have hq : l.length - m ≤ fuel + 1 := by
        have h1 : (l.length - m) ≤ cntB l.length listed := by
          have h2 : ((List.range l.length).filter fun i => listed[i]? == some false).length = cntB l.length listed := by unfold cntB; rw [List.countP_eq_length_filter]
          have h3 : (List.range' m (l.length - m)).length ≤ ((List.range l.length).filter fun i => listed[i]? == some false).length := by
            refine List.Nodup.length_le_of_subset (List.nodup_range' ..) ?_
            intro i hi
            rw [List.mem_range'_1] at hi
            rw [List.mem_filter]
            exact ⟨by simp; omega, by rw [M.late i (by omega) (by omega)]; rfl⟩
          rw [List.length_range'] at h3
          omega
        omega
      refine suffix_any hti hds hD (l.length - m) m (fuel + 1) listed R γ L (tat l vs T m) a w (by have := hD.le; omega) hq (Nat.le_refl _) M.done hfull M.late hsuf M.inv ⟨M.size, M.defers, fun t x hx => ?_⟩ (fun T' L' R' γ' w' a' q1 q2 q3 q4 => hQ T' L' R' γ' w' a' q1 q2 q3 (M.ext.trans q4))
      by_cases hex : ∃ (j : Nat) (o' : Oper), j < m ∧ l[j]? = some o' ∧ o'.dst = some t
      · obtain ⟨j, o', hj, ho', hd'⟩ := hex
        have hjv : vs[j]? = some vs[j] := List.getElem?_eq_getElem (by omega)
        have := tat_new l vs T m j o' vs[j] hj ho' hd' hjv (fun k o2 h1 h2 h3 hd2 => by
          have := uniq j k o' o2 t (by omega) (by omega) ho' h3 hd' hd2
          omega) (fun k _ _ => by omega)
        rw [hx] at this
        injection this with this
        subst this
        exact M.fresh j o' t _ hj (hfull j hj) ho' hd' hjv
      · have hno : ∀ j o', j < m → l[j]? = some o' → o'.dst ≠ some t := fun j o' h1 h2 h3 => hex ⟨j, o', h1, h2, h3⟩
        rw [tat_old l vs T m hno] at hx
        exact M.old t x hx fun k o' hk _ hok hdk => hno k o' hk hok hdk
    · -- some operation of the first part is not done: only such are ready
      have hbool : ∀ i, i < l.length → listed[i]? = some true ∨ listed[i]? = some false := by
        intro i hi
        have hlt : i < listed.size := by rw [M.done.size]; exact hi
        rw [Array.getElem?_eq_getElem hlt]
        cases listed[i] <;> simp
      have hmle := hD.le
      refine ⟨fun hnil => ?_, fun i hmem => ?_⟩
      · exfalso
        apply hfull
        intro i
        induction i using Nat.strongRecOn with
        | ind i ihi =>
          intro hi
          rcases hbool i (by omega) with h | h
          · exact h
          · exfalso
            have : i ∈ Region.ready .any l.toArray listed := (ready_iff hD M.done i).2 ⟨by omega, h, fun o ho e he hb => ihi e.on (hD.back i o ho e he hb) (by have := hD.back i o ho e he hb; omega)⟩
            rw [hnil] at this; cases this
      · obtain ⟨h1, h2, h3⟩ := (ready_iff hD M.done i).1 hmem
        have him : i < m := by
          rcases Nat.lt_or_ge i m with h | h
          · exact h
          · exfalso
            apply hfull
            intro j hj
            exact M.done.anc (hD.forced i j h h1 (by omega)) h3
        have ho : l[i]? = some l[i] := List.getElem?_eq_getElem h1
        obtain ⟨hd, v, hv, hstep⟩ := htr i _ him ho
        have hsl := slots listed R γ a w M i _ him ho h2 h3
        have hcnt : cntB l.length (listed.setIfInBounds i true) ≤ fuel := by
          have : cntB l.length (listed.setIfInBounds i true) < cntB l.length listed := by
            unfold cntB
            refine countP_lt _ (fun x hx hq => ?_) ⟨i, by simpa using h1, by rw [h2]; rfl, by rw [Array.getElem?_setIfInBounds_self_of_lt (by rw [M.done.size]; exact h1)]; rfl⟩
            by_cases hxi : x = i
            · subst hxi; rw [h2]; rfl
            · rw [Array.getElem?_setIfInBounds_ne (Ne.symm hxi)] at hq; exact hq
          omega
        have hput : ∀ (R' : PH) (γ' : List Gh) (w' : World) (u : Value), Inv B R' γ' L w' → Ext B R R' w w' → Mv R R' γ γ' L L → v.rep R' γ' L u → Mid l m N B γ' L T vs R0 w0 (listed.setIfInBounds i true) R' (a.put l[i].dst u) w' := by
          intro R' γ' w' u hi' he' hmv hu
          have hsz : (a.put l[i].dst u).tmps.size = N := by cases hdd : l[i].dst <;> simp [Act.put, M.size]
          have keep : ∀ t, l[i].dst ≠ some t → (a.put l[i].dst u).tmps[t]? = a.tmps[t]? := by
            intro t ht
            cases hdd : l[i].dst with
            | none => rfl
            | some d => simp only [Act.put]; rw [Array.getElem?_setIfInBounds_ne (by intro e; exact ht (by rw [hdd, e]))]
          refine ⟨hi', hsz, by cases hdd : l[i].dst <;> exact M.defers, M.done.put h3, fun j hj hjl => ?_, fun j o d v' hj hlj hoj hdj hvj => ?_, fun t x hx hno => ?_, M.ext.trans he'⟩
          · rw [Array.getElem?_setIfInBounds_ne (by omega)]; exact M.late j hj hjl
          · by_cases hji : j = i
            · subst hji
              rw [ho] at hoj; injection hoj with hoj; subst hoj
              rw [hv] at hvj; injection hvj with hvj; subst hvj
              have hdN : d < N := by have := hd; rw [hdj] at this; exact this
              refine ⟨u, ?_, hu⟩
              rw [hdj]
              simp only [Act.put]
              exact Array.getElem?_setIfInBounds_self_of_lt (by rw [M.size]; exact hdN)
            · rw [Array.getElem?_setIfInBounds_ne (Ne.symm hji)] at hlj
              obtain ⟨u', g1, g2⟩ := M.fresh j o d v' hj hlj hoj hdj hvj
              refine ⟨u', ?_, AV.mv hmv g2⟩
              rw [keep d (fun e => hji (uniq j i o _ d hj him hoj ho hdj e))]
              exact g1
          · have hni : l[i].dst ≠ some t := hno i _ him (Array.getElem?_setIfInBounds_self_of_lt (by rw [M.done.size]; exact h1)) ho
            obtain ⟨u', g1, g2⟩ := M.old t x hx fun k o hk hlk hok => hno k o hk (by
              by_cases hki : k = i
              · subst hki; rw [h2] at hlk; cases hlk
              · rw [Array.getElem?_setIfInBounds_ne (Ne.symm hki)]; exact hlk) hok
            exact ⟨u', by rw [keep t hni]; exact g1, AV.mv hmv g2⟩
        unfold wpOp
        simp only [List.getElem?_toArray, ho]
        have hlook : ∀ d x, d ∈ l[i].looksAt l.toArray → (tat l vs T i).lookup d = some x → ∃ u, a.tmps[d]? = some u ∧ x.rep R γ L u := fun d x hd hx => hsl d x (by unfold namesOf; exact List.mem_append_left _ hd) hx
        rcases hstep with ⟨hw, hop⟩ | ⟨hw, rfl⟩
        · rw [if_pos (gdv_sound (dsts hds) hlook hw)]
          refine .inl ?_
          -- the operands as the text's own order has them
          have hop' := awOp_congr (ρ' := fun x => if x ∈ l[i].op.operands then look (tat l vs T i) x else none) (hD.still i _ him ho) (fun x hx => by simp only [hx, if_true]) hop
          refine awOp_sound hti M.inv (fun x v' hx => ?_) hop' ?_
          · by_cases hxo : x ∈ l[i].op.operands
            · simp only [hxo, if_true] at hx
              cases x with
              | tmp t =>
                obtain ⟨u, g1, g2⟩ := hlook t v' (by unfold Oper.looksAt; exact List.mem_append_left _ (List.mem_filterMap.2 ⟨.tmp t, by simpa using hxo, rfl⟩)) hx
                have : a.eval (.tmp t) = u := by simp [Act.eval, Array.getD_eq_getD_getElem?, g1]
                rw [this]; exact g2
              | const c => exact AV.ofVal_rep hx
              | global g => cases hx
              | func f =>
                injection hx with hx; subst hx
                exact .fn f #[] [] rfl (fun j v x hv => by simp at hv)
            · simp only [hxo, if_false] at hx; cases hx
          · rintro v' L' R' γ' w' u ⟨rfl, rfl⟩ k1 k2 k3 k4
            exact ih _ R' γ' _ w' hcnt (hput R' γ' w' u k1 k2 k3 k4)
        · rw [if_neg (by rw [gdv_sound (dsts hds) hlook hw]; decide)]
          exact ih _ R γ _ w hcnt (hput R γ w Go.undef M.inv (Ext.refl _ _ _) Mv.refl rfl)

/-- A region that draws its order. -/
theorem aw_draw (hti : TIok P ti) {Q : AX → Tm → List Ob → Prop} {T : Tm} {id : Nat} {l : List Oper} (m : Nat) (ds : List (Option Tmp)) (hds : l.map (·.dst) = ds) (hmix : P.follows .mixedOrders = true) (hc : drawOK ti l m = true) (h : awOps P ti N ds (Q .normal) l T L) : Aw P N (.region id l.toArray true) Q T L := by
  intro B R γ w a hi hT
  have hD := draw_of hc
  obtain ⟨vs, h1, h2, h3⟩ := trace m l T hD.le hD.still h
  have hiD : Inv B R γ L { w with drawn := w.drawn + 1 } := ⟨hi.len, hi.val, fun id x g hx hg => (hi.obj id x g hx hg).mv Mv.refl (fun _ _ => rfl) (fun _ _ _ h => h), hi.inj, hi.new, hi.bsz⟩
  have heD : Ext B R R w { w with drawn := w.drawn + 1 } := ⟨⟨rfl, rfl, rfl, Nat.le_refl _, fun _ _ => rfl⟩, PH.sub_refl _, fun _ _ _ => rfl⟩
  refine wp_region_any hmix ?_
  have hsz : l.toArray.size = l.length := by simp
  rw [hsz]
  refine prefix_any hti hds (B := B) hD h1 h2 h3 (R0 := R) (w0 := w) ?_ l.length (Array.replicate l.length false) R γ a { w with drawn := w.drawn + 1 } ?_ ?_
  · intro T' L' R' γ' w' a' q1 q2 q3 q4
    exact ⟨.normal, T', L', R', γ', rfl, q1, q2, q3, q4⟩
  · unfold cntB
    exact Nat.le_trans List.countP_le_length (by simp)
  · have hf : ∀ i : Nat, i < l.length → (Array.replicate l.length false)[i]? = some false := fun i hi => by simp [hi]
    have ht : ∀ i : Nat, (Array.replicate l.length false)[i]? ≠ some true := by
      intro i e
      by_cases hi : i < l.length
      · rw [hf i hi] at e; cases e
      · rw [Array.getElem?_eq_none (by simp; omega)] at e; cases e
    exact ⟨hiD, hT.size, hT.defers, ⟨by simp, fun i o _ e => absurd e (ht i)⟩, fun i _ hi => hf i hi, fun i o d v _ e => absurd e (ht i), fun t x hx _ => hT.slot t x hx, heD⟩
end
end

section
open Go.RowKit

/-- The Bool on which a guarded operation hangs. -/
def gdb (ds : List (Option Tmp)) (T : Tm) : Option (Nat × Bool) → Option Bool
  | none => none
  | some (j, _) => match ds[j]? with
    | some (some d) => match T.lookup d with
      | some (.one (.c (.bool b))) => some b
      | _ => none
    | _ => none

section
variable {P : Program} {ti : TI} {N : Nat} {ds : List (Option Tmp)} {K : Tm → List Ob → Prop} {o : Oper} {rest : List Oper} {T : Tm} {L : List Ob}

theorem gd_true {A B : Prop} {g : Option (Nat × Bool)} (h : gdv ds T g = some true) (ha : A) : gd ds T A B g := by
  cases g with
  | none => exact ha
  | some p =>
    obtain ⟨j, want⟩ := p
    simp only [gdv] at h
    simp only [gd]
    split at h
    · rename_i d hd
      simp only [hd]
      split at h
      · rename_i b hb
        simp only [hb]
        refine ⟨fun _ => ha, fun e => ?_⟩
        subst e
        cases want <;> simp at h
      · cases h
      · cases h
    · cases h
theorem gd_false {A B : Prop} {g : Option (Nat × Bool)} (h : gdv ds T g = some false) (hb : B) : gd ds T A B g := by
  cases g with
  | none => cases h
  | some p =>
    obtain ⟨j, want⟩ := p
    simp only [gdv] at h
    simp only [gd]
    split at h
    · rename_i d hd
      simp only [hd]
      split at h
      · rename_i b hbb
        simp only [hbb]
        refine ⟨fun e => ?_, fun _ => hb⟩
        subst e
        cases b <;> simp at h
      · rename_i hbb
        simp only [hbb]
        exact hb
      · cases h
    · cases h

theorem dOK_some {d : Nat} (hd : o.dst = some d) (hN : Nat.blt d N = true) : dOK N o.dst := by
  rw [hd]; show d < N; exact Nat.blt_eq ▸ hN
theorem st_nil (h : K T L) : awOps P ti N ds K [] T L := h
theorem st_pop {v : AV} {φ : Prop} {d : Nat} (hd : o.dst = some d) (hN : Nat.blt d N = true) (hg : gdv ds T o.guard = some true) (hp : pop ti (look T) L o.op = some (v, φ)) (hφ : φ) (h : awOps P ti N ds K rest ((d, v) :: T) L) : awOps P ti N ds K (o :: rest) T L :=
  ⟨dOK_some hd hN, gd_true hg (.inl ⟨v, φ, hp, hφ, by rw [hd]; exact h⟩)⟩
theorem st_lit {v : AV} {φ : Prop} {d : Nat} (hd : o.dst = some d) (hN : Nat.blt d N = true) (hg : gdv ds T o.guard = some true) (hp : litOp ti (look T) o.op = some (v, φ)) (hφ : φ) (h : awOps P ti N ds K rest ((d, v) :: T) L) : awOps P ti N ds K (o :: rest) T L :=
  ⟨dOK_some hd hN, gd_true hg (.inr (.inl ⟨v, φ, hp, hφ, by rw [hd]; exact h⟩))⟩
theorem st_lop {v : AV} {L' : List Ob} {φ : Prop} {d : Nat} (hd : o.dst = some d) (hN : Nat.blt d N = true) (hg : gdv ds T o.guard = some true) (hp : lop ti (look T) L o.op = some (v, L', φ)) (hφ : φ) (h : awOps P ti N ds K rest ((d, v) :: T) L') : awOps P ti N ds K (o :: rest) T L :=
  ⟨dOK_some hd hN, gd_true hg (.inr (.inr (.inl ⟨v, L', φ, hp, hφ, by rw [hd]; exact h⟩)))⟩
theorem st_store {v : AV} {L' : List Ob} {φ : Prop} (hd : o.dst = none) (hg : gdv ds T o.guard = some true) (hp : lop ti (look T) L o.op = some (v, L', φ)) (hφ : φ) (h : awOps P ti N ds K rest T L') : awOps P ti N ds K (o :: rest) T L :=
  ⟨by rw [hd]; trivial, gd_true hg (.inr (.inr (.inl ⟨v, L', φ, hp, hφ, by rw [hd]; exact h⟩)))⟩
theorem st_call {g : FuncId} {ps : List PV} {r : CV} {d : Nat} {v : AV} (hd : o.dst = some d) (hN : Nat.blt d N = true) (hg : gdv ds T o.guard = some true) (hp : callOp (look T) o.op = some (g, ps)) (hc : Pure P g ps r) (hv : r.av = v) (h : awOps P ti N ds K rest ((d, v) :: T) L) : awOps P ti N ds K (o :: rest) T L :=
  ⟨dOK_some hd hN, gd_true hg (.inr (.inr (.inr (.inl ⟨g, ps, r, hp, hc, by rw [hd, hv]; exact h⟩))))⟩
theorem st_call0 {g : FuncId} {ps : List PV} {r : CV} (hd : o.dst = none) (hg : gdv ds T o.guard = some true) (hp : callOp (look T) o.op = some (g, ps)) (hc : Pure P g ps r) (h : awOps P ti N ds K rest T L) : awOps P ti N ds K (o :: rest) T L :=
  ⟨by rw [hd]; trivial, gd_true hg (.inr (.inr (.inr (.inl ⟨g, ps, r, hp, hc, by rw [hd]; exact h⟩))))⟩
theorem st_take {g : FuncId} {es es' : List (List AC)} {t k d : Nat} {ps : List PV} (hd : o.dst = some d) (hN : Nat.blt d N = true) (hg : gdv ds T o.guard = some true) (hp : callOpO ti (look T) o.op = some (g, es, some t, ps)) (hL : L[t]? = some (.spare es.length k)) (hc : PureO P g es k ps es')
    (h : awOps P ti N ds K rest ((d, .one (.own es' L.length)) :: T) (L.set t .dead ++ [.spare es'.length k])) : awOps P ti N ds K (o :: rest) T L :=
  ⟨dOK_some hd hN, gd_true hg (.inr (.inr (.inr (.inr (.inl ⟨g, es, t, k, ps, es', hp, hL, hc, by rw [hd]; exact h⟩)))))⟩
theorem st_take0 {g : FuncId} {es' : List (List AC)} {k d : Nat} {ps : List PV} (hd : o.dst = some d) (hN : Nat.blt d N = true) (hg : gdv ds T o.guard = some true) (hp : callOpO ti (look T) o.op = some (g, [], none, ps)) (hc : PureO P g [] k ps es')
    (h : awOps P ti N ds K rest ((d, .one (.own es' L.length)) :: T) (L ++ [.spare es'.length k])) : awOps P ti N ds K (o :: rest) T L :=
  ⟨dOK_some hd hN, gd_true hg (.inr (.inr (.inr (.inr (.inr ⟨g, k, ps, es', hp, hc, by rw [hd]; exact h⟩)))))⟩
theorem st_skip {d : Nat} (hd : o.dst = some d) (hN : Nat.blt d N = true) (hg : gdv ds T o.guard = some false) (h : awOps P ti N ds K rest ((d, .undef) :: T) L) : awOps P ti N ds K (o :: rest) T L :=
  ⟨dOK_some hd hN, gd_false hg (by rw [hd]; exact h)⟩
theorem st_skip0 (hd : o.dst = none) (hg : gdv ds T o.guard = some false) (h : awOps P ti N ds K rest T L) : awOps P ti N ds K (o :: rest) T L :=
  ⟨by rw [hd]; trivial, gd_false hg (by rw [hd]; exact h)⟩
theorem st_if {b : Bool} (_ : gdb ds T o.guard = some b) (h1 : b = true → awOps P ti N ds K (o :: rest) T L) (h2 : b = false → awOps P ti N ds K (o :: rest) T L) : awOps P ti N ds K (o :: rest) T L := by
  cases hb : b
  · exact h2 hb
  · exact h1 hb
end

theorem lookup_all {β : Type} {l : List (Nat × β)} {Pr : Nat → β → Prop} (h : ∀ p ∈ l, Pr p.1 p.2) : ∀ t v, l.lookup t = some v → Pr t v := by
  intro t v hv
  induction l with
  | nil => cases hv
  | cons p l ih =>
    obtain ⟨k, x⟩ := p
    rw [List.lookup_cons] at hv
    by_cases e : t = k
    · subst e; simp at hv; subst hv; exact h (t, x) (by simp)
    · have : (t == k) = false := by simpa using e
      rw [this] at hv
      exact ih (fun p hp => h p (List.mem_cons_of_mem _ hp)) hv
theorem all_of {α : Type} {l : List α} {f : α → Bool} {Pr : α → Prop} (h : l.all f = true) (hf : ∀ x, f x = true → Pr x) : ∀ x ∈ l, Pr x := fun x hx => hf x (List.all_eq_true.1 h x hx)

def TI.of (sz : List (Nat × Nat)) (ag : List (Nat × Bool)) (el : List (Nat × Nat)) (fl : List (Nat × List (Nat × Nat))) (ze : List (Nat × AV)) (bt : List (Nat × Nat)) (ki : List (Nat × TypeDesc)) (st zo : List Nat) (eq : List (Nat × List Sc)) (ow : List Nat) : TI where
  size := fun t => sz.lookup t
  agg := fun t => ag.lookup t
  elem := fun t => el.lookup t
  field := fun s i => match fl.lookup s with
    | some fs => fs[i]?
    | none => none
  zero := fun t => ze.lookup t
  bytes := fun t => bt.lookup t
  kind := fun t => ki.lookup t
  struct := fun t => st.contains t
  zok := fun t => zo.contains t
  eqs := fun t => eq.lookup t
  owns := fun f => ow.contains f
def zokB (P : Program) (t : TypeId) : Bool :=
  match P.info? t with
  | some i => match i.zero with
    | some z => z.cells.size == i.size
    | none => false
  | none => false
theorem zok_of {P : Program} {t : TypeId} (h : zokB P t = true) : ∀ k, tsize P t = some k → tzero P t k := by
  intro k hk
  unfold zokB at h
  unfold tsize at hk
  split at h
  · rename_i i hi
    split at h
    · rename_i z hz
      rw [hi] at hk
      simp at hk
      simp at h
      exact ⟨i, z, hi, hz, hk, by rw [h, hk]⟩
    · cases h
  · cases h
theorem TI.of_ok {P : Program} {sz : List (Nat × Nat)} {ag : List (Nat × Bool)} {el : List (Nat × Nat)} {fl : List (Nat × List (Nat × Nat))} {ze : List (Nat × AV)} {bt : List (Nat × Nat)} {ki : List (Nat × TypeDesc)} {st zo : List Nat} {eq : List (Nat × List Sc)} {ow : List Nat}
    (h1 : (sz.all fun p => tsize P p.1 == some p.2) = true) (h2 : (ag.all fun p => tagg P p.1 == some p.2) = true) (h3 : (el.all fun p => telem P p.1 == some p.2) = true)
    (h4 : (fl.all fun p => (List.range p.2.length).all fun i => tfield P p.1 i == p.2[i]?) = true) (h5 : ∀ p ∈ ze, zeroOf P p.1 = some p.2) (h6 : (bt.all fun p => tbytes P p.1 == some p.2) = true) (h7 : ∀ p ∈ ki, P.underlying p.1 = some p.2)
    (h8 : (st.all fun t => tstruct P t) = true) (h9 : (zo.all fun t => zokB P t) = true)
    (h10 : ∀ p ∈ eq, P.eqGuardType P.depth p.1 = false ∧ ∀ xs ys, fitsS p.2 xs = true → fitsS p.2 ys = true → EqRuns P p.1 xs ys) : TIok P (TI.of sz ag el fl ze bt ki st zo eq ow) := by
  refine ⟨lookup_all (all_of h1 fun p hp => by simpa using hp), lookup_all (all_of h2 fun p hp => by simpa using hp), lookup_all (all_of h3 fun p hp => by simpa using hp), fun s i r h => ?_, lookup_all h5, lookup_all (all_of h6 fun p hp => by simpa using hp), lookup_all h7, fun t h => ?_, fun t h => ?_, lookup_all h10⟩
  · simp only [TI.of] at h
    split at h
    · rename_i fs hf
      have := lookup_all (Pr := fun s fs => ((List.range fs.length).all fun i => tfield P s i == fs[i]?) = true) (all_of h4 fun p hp => hp) s fs hf
      have hi : i < fs.length := (List.getElem?_eq_some_iff.1 h).1
      have h2 := List.all_eq_true.1 this i (by simpa using hi)
      rw [← h]; simpa using h2
    · cases h
  · exact List.all_eq_true.1 h8 t (by simpa [TI.of] using h)
  · exact zok_of (List.all_eq_true.1 h9 t (by simpa [TI.of] using h))
end

section
open Go.RowKit
section
variable {P : Program} {ti : TI} {N : Nat} {Q : AX → Tm → List Ob → Prop} {T : Tm} {L : List Ob}
def drawM (ti : TI) (l : List Oper) : Nat := (l.takeWhile fun o => !lKind ti o.op).length
theorem aw_drawn (hti : TIok P ti) {id : Nat} {l : List Oper} (ds : List (Option Tmp)) (hds : l.map (·.dst) = ds) (hmix : P.follows .mixedOrders = true) (hc : drawOK ti l (drawM ti l) = true) (h : awOps P ti N ds (Q .normal) l T L) : Aw P N (.region id l.toArray true) Q T L :=
  aw_draw hti _ ds hds hmix hc h
theorem res_of {rs : List ResultVar} {ps : List PV} {φ : Prop} {r : CV} (h : resAll ti T L rs = some (ps, φ)) (hφ : φ) (e : cvOf ps = r) : Res ti rs T L r := by
  unfold Res
  rw [h]
  exact ⟨hφ, e⟩
theorem end_ret {rs : List ResultVar} {r : CV} (h : Res ti rs T L r) : (AX.ret = AX.normal ∨ AX.ret = AX.ret) ∧ Res ti rs T L r := ⟨.inr rfl, h⟩
theorem end_normal {rs : List ResultVar} {r : CV} (h : Res ti rs T L r) : (AX.normal = AX.normal ∨ AX.normal = AX.ret) ∧ Res ti rs T L r := ⟨.inl rfl, h⟩
end
/-- Trees of plain data. -/
def vBool (b : Bool) : CV := .val (.one (.bool b))
def vInt (n : Int) : CV := .val (.one (.int .i64 n))
theorem vBool_eq {a b : Bool} (h : a = b) : CV.val (.one (.bool a)) = vBool b := by rw [h]; rfl
theorem vInt_eq {a b : Int} (h : a = b) : CV.val (.one (.int .i64 a)) = vInt b := by rw [h]; rfl
end

section
open Go.RowKit

def slotsOK (T' : Tm) : Tm → Prop
  | [] => True
  | (t, x) :: T => T'.lookup t = some x ∧ slotsOK T' T
def belowT (n : Nat) : Tm → Prop
  | [] => True
  | (_, x) :: T => x.below n ∧ belowT n T
def belowL (n : Nat) : List Ob → Prop
  | [] => True
  | x :: L => x.below n ∧ belowL n L
theorem fits_mk {T' T : Tm} {L' L : List Ob} (h1 : slotsOK T' T) (G : List Ob) (h2 : L' = L ++ G) (h3 : belowT L.length T) (h4 : belowL L.length L) : Fits T' L' T L := by
  refine ⟨fun p hp => ?_, ⟨G, h2⟩, fun p hp => ?_, fun x hx => ?_⟩
  · clear h3 h2
    induction T with
    | nil => cases hp
    | cons q T ih =>
      rcases List.mem_cons.1 hp with rfl | hp
      · exact h1.1
      · exact ih h1.2 hp
  · clear h1 h2
    induction T with
    | nil => cases hp
    | cons q T ih =>
      rcases List.mem_cons.1 hp with rfl | hp
      · exact h3.1
      · exact ih h3.2 hp
  · clear h1 h2 h3
    generalize hn : L.length = n at h4
    clear hn
    induction L with
    | nil => cases hx
    | cons q L ih =>
      rcases List.mem_cons.1 hx with rfl | hx
      · exact h4.1
      · exact ih hx h4.2
theorem slot_int {k : IntKind} {a b : Int} (h : a = b) : some (AV.one (.c (.int k a))) = some (AV.one (.c (.int k b))) := by rw [h]
theorem slot_lst {a b : List (List AC)} (h : a = b) : some (AV.one (.c (.lst a))) = some (AV.one (.c (.lst b))) := by rw [h]
theorem slot_own {a b : List (List AC)} {t : Nat} (h : a = b) : some (AV.one (.own a t)) = some (AV.one (.own b t)) := by rw [h]
theorem slot_bool {a b : Bool} (h : a = b) : some (AV.one (.c (.bool a))) = some (AV.one (.c (.bool b))) := by rw [h]
theorem wrap_in {x : Int} (h : -9223372036854775808 ≤ x ∧ x ≤ 9223372036854775807) : IntKind.i64.wrap x = x := IntWalk.i64_in x (by omega)
theorem wrap_eq {x y : Int} (h : x = y) (hb : -9223372036854775808 ≤ y ∧ y ≤ 9223372036854775807) : IntKind.i64.wrap x = y := by rw [h]; exact wrap_in hb
theorem idx_map {α : Type} {l : List α} {f : α → List AC} {i : Nat} {x : α} (h : l[i]? = some x) : (l.map f)[((i : Nat) : Int).toNat]? = some (f x) := by
  rw [Int.toNat_natCast, List.getElem?_map, h]; rfl
theorem idx_at {es : List (List AC)} {i : Int} {n : Nat} {e : List AC} (hi : i = n) (h : es[n]? = some e) : es[i.toNat]? = some e := by
  rw [hi, Int.toNat_natCast]; exact h
theorem get_of_lt {α : Type} {l : List α} {i : Nat} (h : i < l.length) : ∃ x, l[i]? = some x := ⟨l[i], List.getElem?_eq_getElem h⟩
theorem take_succ {α : Type} {l : List α} {i : Nat} {x : α} (h : l[i]? = some x) : l.take (i + 1) = l.take i ++ [x] := by
  obtain ⟨hi, rfl⟩ := List.getElem?_eq_some_iff.1 h
  rw [List.take_succ_eq_append_getElem hi]
section
variable {P : Program} {ti : TI} {N : Nat} {ds : List (Option Tmp)} {K : Tm → List Ob → Prop} {o : Oper} {rest : List Oper} {T : Tm} {L : List Ob}
theorem pop_idx {ρ : Operand → Option AV} {t : TypeId} {x ix : Operand} {vx : AV} {es : List (List AC)} {k0 : IntKind} {i : Int} {k : Nat} {e : List AC} (hx : ρ x = some vx) (hl : listOf vx = some es) (hi : ρ ix = some (.one (.c (.int k0 i)))) (hk : (ti.elem t).bind ti.size = some k) (he : es[i.toNat]? = some e) :
    pop ti ρ L (.indexAddr t x ix) = some (.one (.c (.ref e)), 0 ≤ i ∧ e.length = k) := by
  simp only [pop, hx, hi, popIndexAddr, hl, hk, he]
/-- An element of a slice, at an index that is not a numeral. -/
theorem st_idx {t : TypeId} {x ix : Operand} {vx : AV} {es : List (List AC)} {k0 : IntKind} {i : Int} {k d : Nat} {e : List AC} (hd : o.dst = some d) (hN : Nat.blt d N = true) (hg : gdv ds T o.guard = some true) (ho : o.op = .indexAddr t x ix) (hx : look T x = some vx) (hl : listOf vx = some es) (hi : look T ix = some (.one (.c (.int k0 i))))
    (hk : (ti.elem t).bind ti.size = some k) (he : es[i.toNat]? = some e) (hφ : 0 ≤ i ∧ e.length = k) (h : awOps P ti N ds K rest ((d, .one (.c (.ref e))) :: T) L) : awOps P ti N ds K (o :: rest) T L :=
  st_pop hd hN hg (by rw [ho]; exact pop_idx hx hl hi hk he) hφ h
/-- A slot's value without its rights. -/
theorem aw_norm {Q : AX → Tm → List Ob → Prop} {c : Code} (t : Nat) {x : SV} {y : AC} (ht : T.lookup t = some (.one x)) (hy : x.norm = some y) (h : Aw P N c Q ((t, .one (.c y)) :: T) L) : Aw P N c Q T L := by
  intro B R γ w a hi hT
  refine h B R γ w a hi ⟨hT.size, hT.defers, fun t' z hz => ?_⟩
  rw [List.lookup_cons] at hz
  by_cases e : t' = t
  · subst e
    simp at hz; subst hz
    obtain ⟨u, h1, h2⟩ := hT.slot t' _ ht
    exact ⟨u, h1, SV.norm_rep h2 hy⟩
  · have : (t' == t) = false := by simpa using e
    rw [this] at hz
    exact hT.slot t' z hz
end
end

end Go.Proofs.Ytllenmkmompjpaa
