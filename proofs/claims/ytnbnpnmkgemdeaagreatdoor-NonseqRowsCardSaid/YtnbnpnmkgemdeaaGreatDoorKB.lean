/- Parts of the proof, joined (U12 U12b U13 U14 U15 U14b U15b U16 U17 U18 U19 U20 U21 U22 U23 U24 U25 E0). No condition. -/
import Derived.Test.YtnbnpnmkgemdeaaGreatDoorKA
import Derived.LoopN
import Derived.IntWalk
import Derived.MapFrom
import Derived.Laws.MakeOwn
import Derived.Lib.UnsafeStr
import Derived.Lib.Builder
import Derived.Laws.StructEq
set_option linter.unusedSimpArgs false
set_option linter.unusedVariables false
namespace Go.Proofs.YtnbnpnmkgemdeaaGreatDoor
open Go.RowKit

inductive AX where
  | normal
  | exit (id : Nat)
  | ret
  deriving DecidableEq
def AX.ex : AX → Exit
  | .normal => .normal
  | .exit id => .exit id
  | .ret => .ret

/-- The first n0 objects have moved only as they may. -/
structure MvN (n0 : Nat) (R R' : PH) (γ γ' : List Gh) (L L' : List Ob) : Prop where
  lo : n0 ≤ L.length
  lo' : n0 ≤ L'.length
  mv : Mv R R' (γ.take n0) γ' (L.take n0) L'
theorem Mv.cutL {n0 : Nat} {R R' : PH} {γ γ' : List Gh} {L L' : List Ob} (h : Mv R R' γ γ' L L') : Mv R R' (γ.take n0) γ' (L.take n0) L' := by
  refine ⟨h.sub, by simp; have := h.len; omega, fun t n k hlt e => ?_, fun t ver es k hlt e => ?_, fun id b e => ?_⟩
  · have hlt' : t < n0 ∧ t < L.length := by rw [List.length_take] at hlt; omega
    obtain ⟨m, a, b, c⟩ := h.tok t n k hlt'.2 e
    exact ⟨m, by rw [List.getElem?_take, if_pos hlt'.1]; exact a, b, fun q => by rw [List.getElem?_take, if_pos hlt'.1]; exact c q⟩
  · have hlt' : t < n0 ∧ t < L.length := by rw [List.length_take] at hlt; omega
    obtain ⟨v0, m, a, b, c⟩ := h.row t ver es k hlt'.2 e
    exact ⟨v0, m, by rw [List.getElem?_take, if_pos hlt'.1]; exact a, b, fun q => ⟨(c q).1, by rw [List.getElem?_take, if_pos hlt'.1]; exact (c q).2⟩⟩
  · rw [List.getElem?_take] at e
    split at e
    · exact h.ptr id b e
    · cases e
theorem Mv.cutR {n : Nat} {R R' : PH} {γ γ' : List Gh} {L L' : List Ob} (h : Mv R R' γ γ' L L') (hg : γ.length = L.length) (hn : L.length ≤ n) : Mv R R' γ (γ'.take n) L (L'.take n) := by
  refine ⟨h.sub, by simp; have := h.len; omega, fun t m k hlt e => ?_, fun t ver es k hlt e => ?_, fun id b e => ?_⟩
  · rw [List.getElem?_take, if_pos (by omega)] at e
    rw [List.getElem?_take, if_pos (by omega)]
    exact h.tok t m k hlt e
  · rw [List.getElem?_take, if_pos (by omega)] at e
    rw [List.getElem?_take, if_pos (by omega)]
    exact h.row t ver es k hlt e
  · have := (List.getElem?_eq_some_iff.1 e).1
    rw [List.getElem?_take, if_pos (by omega)]
    exact h.ptr id b e
theorem MvN.of {n0 : Nat} {R R' : PH} {γ γ' : List Gh} {L L' : List Ob} (hn : n0 ≤ L.length) (h : Mv R R' γ γ' L L') : MvN n0 R R' γ γ' L L' := ⟨hn, Nat.le_trans hn h.len, h.cutL⟩
theorem MvN.trans {n0 : Nat} {R R' R'' : PH} {γ γ' γ'' : List Gh} {L L' L'' : List Ob} (hg : γ.length = L.length) (h : MvN n0 R R' γ γ' L L') (g : MvN n0 R' R'' γ' γ'' L' L'') : MvN n0 R R'' γ γ'' L L'' := by
  refine ⟨h.lo, g.lo', Mv.trans (h.mv.cutR (n := n0) (by simp [hg]) (by simp; omega)) g.mv⟩
/-- Objects beyond are cut off. -/
theorem MvN.cut {n0 : Nat} {R : PH} {γ : List Gh} {L G : List Ob} (hg : γ.length = (L ++ G).length) (hn : n0 ≤ L.length) : MvN n0 R R γ (γ.take L.length) (L ++ G) L := by
  refine ⟨by simp; omega, hn, ?_⟩
  have := (Mv.refl (R := R) (γ := γ) (L := L ++ G)).cutL (n0 := n0)
  have := this.cutR (n := L.length) (by simp at hg ⊢; omega) (by simp; omega)
  simpa using this
def AwPost (N n0 : Nat) (B : Nat → Prop) (Q : AX → Tm → List Ob → Prop) (R : PH) (w : World) (γ : List Gh) (L : List Ob) (e : Exit) (a' : Act) (w' : World) : Prop :=
  ∃ x T' L' R' γ', e = x.ex ∧ Q x T' L' ∧ Inv B R' γ' L' w' ∧ TRep N R' γ' L' T' a' ∧ Ext B R R' w w' ∧ MvN n0 R R' γ γ' L L'
/-- The code c, begun at the slots T and the objects L, ends so that Q holds. -/
def Aw (P : Program) (N n0 : Nat) (c : Code) (Q : AX → Tm → List Ob → Prop) (T : Tm) (L : List Ob) : Prop :=
  n0 ≤ L.length → ∀ B R γ w a, Inv B R γ L w → TRep N R γ L T a → c.wp P (AwPost N n0 B Q R w γ L) a w

@[reducible] def AX.then (A : Tm → List Ob → Prop) (Q : AX → Tm → List Ob → Prop) : AX → Tm → List Ob → Prop
  | .normal, T, L => A T L
  | e, T, L => Q e T L
@[reducible] def AX.inBlock (id : Nat) (Q : AX → Tm → List Ob → Prop) : AX → Tm → List Ob → Prop
  | .exit j, T, L => if j = id then Q .normal T L else Q (.exit j) T L
  | e, T, L => Q e T L

section
variable {P : Program} {ti : TI} {N n0 : Nat} {Q : AX → Tm → List Ob → Prop} {T : Tm} {L : List Ob}

theorem Aw.mono {c : Code} {Q' : AX → Tm → List Ob → Prop} (h : Aw P N n0 c Q T L) (hq : ∀ x T L, Q x T L → Q' x T L) : Aw P N n0 c Q' T L :=
  fun hn B R γ w a hi hT => wp_mono (h hn B R γ w a hi hT) fun _ _ _ ⟨x, T', L', R', γ', e, q, r⟩ => ⟨x, T', L', R', γ', e, hq _ _ _ q, r⟩
theorem AwPost.ext {B : Nat → Prop} {R R1 : PH} {w w1 : World} {γ γ1 : List Gh} {L1 : List Ob} {e : Exit} {a' : Act} {w' : World} (h : AwPost N n0 B Q R1 w1 γ1 L1 e a' w') (he : Ext B R R1 w w1) (hg : γ.length = L.length) (hm : MvN n0 R R1 γ γ1 L L1) : AwPost N n0 B Q R w γ L e a' w' :=
  let ⟨x, T', L', R', γ', h1, h2, h3, h4, h5, h6⟩ := h; ⟨x, T', L', R', γ', h1, h2, h3, h4, he.trans h5, hm.trans hg h6⟩

theorem aw_skip (h : Q .normal T L) : Aw P N n0 .skip Q T L := fun hn _ R γ w a hi hT => wp_skip ⟨.normal, T, L, R, γ, rfl, h, hi, hT, Ext.refl _ _ _, MvN.of hn Mv.refl⟩
theorem aw_label {l : Nat} (h : Q .normal T L) : Aw P N n0 (.label l) Q T L := fun hn _ R γ w a hi hT => wp_label ⟨.normal, T, L, R, γ, rfl, h, hi, hT, Ext.refl _ _ _, MvN.of hn Mv.refl⟩
theorem aw_ret (h : Q .ret T L) : Aw P N n0 .ret Q T L := fun hn _ R γ w a hi hT => wp_ret ⟨.ret, T, L, R, γ, rfl, h, hi, hT, Ext.refl _ _ _, MvN.of hn Mv.refl⟩
theorem aw_exit {id : Nat} (h : Q (.exit id) T L) : Aw P N n0 (.exit id) Q T L := fun hn _ R γ w a hi hT => wp_exit ⟨.exit id, T, L, R, γ, rfl, h, hi, hT, Ext.refl _ _ _, MvN.of hn Mv.refl⟩
theorem aw_seq {x y : Code} (h : Aw P N n0 x (AX.then (Aw P N n0 y Q) Q) T L) : Aw P N n0 (.seq x y) Q T L := by
  intro hn B R γ w a hi hT
  refine wp_seq (wp_mono (h hn B R γ w a hi hT) ?_)
  rintro e a1 w1 ⟨x, T1, L1, R1, γ1, rfl, q, i1, t1, e1, m1⟩
  cases x with
  | normal => exact wp_mono (q m1.lo' B R1 γ1 w1 a1 i1 t1) fun _ _ _ hh => hh.ext e1 hi.len m1
  | exit id => exact ⟨.exit id, T1, L1, R1, γ1, rfl, q, i1, t1, e1, m1⟩
  | ret => exact ⟨.ret, T1, L1, R1, γ1, rfl, q, i1, t1, e1, m1⟩
theorem aw_cond {c : Operand} {x y : Code} {b : Bool} (hc : look T c = some (.one (.c (.bool b)))) (h1 : b = true → Aw P N n0 x Q T L) (h2 : b = false → Aw P N n0 y Q T L) : Aw P N n0 (.cond c x y) Q T L := by
  intro hn B R γ w a hi hT
  have hv := look_rep hT hc
  have he : a.eval c = .bool b := by
    generalize a.eval c = v at hv
    cases hv; rfl
  exact wp_cond_split he (fun e => h1 e hn B R γ w a hi hT) (fun e => h2 e hn B R γ w a hi hT)
theorem aw_block {id : Nat} {c : Code} (h : Aw P N n0 c (AX.inBlock id Q) T L) : Aw P N n0 (.block id c) Q T L := by
  intro hn B R γ w a hi hT
  refine wp_block (wp_mono (h hn B R γ w a hi hT) ?_)
  rintro e a1 w1 ⟨x, T1, L1, R1, γ1, rfl, q, i1, t1, e1, m1⟩
  cases x with
  | normal => exact ⟨.normal, T1, L1, R1, γ1, rfl, q, i1, t1, e1, m1⟩
  | ret => exact ⟨.ret, T1, L1, R1, γ1, rfl, q, i1, t1, e1, m1⟩
  | exit j =>
    simp only [AX.inBlock] at q
    by_cases hj : j = id
    · subst hj
      rw [if_pos rfl] at q
      show Exit.inBlock j _ (.exit j) a1 w1
      simp only [Exit.inBlock, if_true]
      exact ⟨.normal, T1, L1, R1, γ1, rfl, q, i1, t1, e1, m1⟩
    · rw [if_neg hj] at q
      show Exit.inBlock id _ (.exit j) a1 w1
      simp only [Exit.inBlock, if_neg hj]
      exact ⟨.exit j, T1, L1, R1, γ1, rfl, q, i1, t1, e1, m1⟩
theorem dsts {l : List Oper} {ds : List (Option Tmp)} (hds : l.map (·.dst) = ds) (j : Nat) : (l.toArray[j]?).map (·.dst) = ds[j]? := by rw [← hds]; simp
theorem aw_region (hti : TIok P ti) {id : Nat} {l : List Oper} (ds : List (Option Tmp)) (hds : l.map (·.dst) = ds) (h : awOps P ti N ds (Q .normal) l T L) : Aw P N n0 (.region id l.toArray false) Q T L := by
  intro hn B R γ w a hi hT
  refine wp_region_lit (awOps_sound hti (dsts hds) l R γ L T a w h hi hT ?_)
  intro T' L' R' γ' w' a' hk h1 h2 h3 h4
  exact ⟨.normal, T', L', R', γ', rfl, hk, h1, h2, h3, MvN.of hn h4⟩

/-- Fewer slots, fewer objects. -/
structure Fits (T' : Tm) (L' : List Ob) (T : Tm) (L : List Ob) : Prop where
  slots : ∀ p ∈ T, T'.lookup p.1 = some p.2
  pre : ∃ G, L' = L ++ G
  below : ∀ p ∈ T, p.2.below L.length
  objs : ∀ x ∈ L, x.below L.length

theorem SV.cut {R : PH} {γ : List Gh} {L G : List Ob} (hl : γ.length = (L ++ G).length) {x : SV} {v : Value} (h : x.rep R γ (L ++ G) v) (hb : x.below L.length) : x.rep R (γ.take L.length) L v := by
  cases x with
  | c y => exact h
  | emp => exact h
  | own es t =>
    obtain ⟨h1, _, h2⟩ := h
    have ht : t < L.length := hb
    refine ⟨h1, ht, fun n k e0 => ?_⟩
    obtain ⟨h3, h4, h5⟩ := h2 n k (by rw [List.getElem?_append_left ht]; exact e0)
    refine ⟨h3, h4, fun e => ?_⟩
    obtain ⟨g, g1, g2⟩ := h5 e
    exact ⟨g, by rw [List.getElem?_take, if_pos ht]; exact g1, g2⟩
  | ptr id off =>
    obtain ⟨b, h1, h2⟩ := h
    have ht : id < L.length := hb
    exact ⟨b, h1, by rw [List.getElem?_take, if_pos ht]; exact h2⟩
  | sl id ver lo n =>
    obtain ⟨h0, _, h2⟩ := h
    have ht : id < L.length := hb
    refine ⟨h0, ht, fun ver' es k e0 => ?_⟩
    rw [List.getElem?_take, if_pos ht]
    exact h2 ver' es k (by rw [List.getElem?_append_left ht]; exact e0)
  | ep id ver i o =>
    obtain ⟨h0, _, h2⟩ := h
    have ht : id < L.length := hb
    refine ⟨h0, ht, fun ver' es k e0 => ?_⟩
    rw [List.getElem?_take, if_pos ht]
    exact h2 ver' es k (by rw [List.getElem?_append_left ht]; exact e0)
  | mp id =>
    obtain ⟨b, h1, h2⟩ := h
    have ht : id < L.length := hb
    exact ⟨b, h1, by rw [List.getElem?_take, if_pos ht]; exact h2⟩
  | clo f caps =>
    obtain ⟨vs, h1, h2, h3⟩ := h
    refine ⟨vs, h1, h2, fun j u x hu hx => ?_⟩
    have hr := h3 j u x hu hx
    have hbx : x.below L.length := hb x (List.mem_of_getElem? hx)
    cases x with
    | c y => exact hr
    | ptr id off =>
      obtain ⟨b, g1, g2⟩ := hr
      have ht : id < L.length := hbx
      exact ⟨b, g1, by rw [List.getElem?_take, if_pos ht]; exact g2⟩
theorem AV.cut {R : PH} {γ : List Gh} {L G : List Ob} (hl : γ.length = (L ++ G).length) {x : AV} {v : Value} (h : x.rep R γ (L ++ G) v) (hb : x.below L.length) : x.rep R (γ.take L.length) L v := by
  cases x with
  | one x => exact SV.cut hl h hb
  | agg xs =>
    obtain ⟨vs, h1, h2, h3⟩ := h
    exact ⟨vs, h1, h2, fun j u x hu hx => SV.cut hl (h3 j u x hu hx) (hb x (List.mem_of_getElem? hx))⟩
  | tup ps => exact h
  | undef => exact h
theorem lookup_mem : ∀ {T : Tm} {t : Nat} {x : AV}, T.lookup t = some x → (t, x) ∈ T
  | (k, y) :: T, t, x, h => by
    rw [List.lookup_cons] at h
    by_cases e : t = k
    · subst e; simp at h; subst h; exact List.mem_cons_self ..
    · have : (t == k) = false := by simpa using e
      rw [this] at h
      exact List.mem_cons_of_mem _ (lookup_mem h)
theorem Fits.sound {T' : Tm} {L' : List Ob} (hf : Fits T' L' T L) {B : Nat → Prop} {R : PH} {γ : List Gh} {w : World} {a : Act} (hi : Inv B R γ L' w) (hT : TRep N R γ L' T' a) : Inv B R (γ.take L.length) L w ∧ TRep N R (γ.take L.length) L T a := by
  obtain ⟨G, rfl⟩ := hf.pre
  have hl : γ.length = (L ++ G).length := hi.len
  have hlen : (γ.take L.length).length = L.length := by rw [List.length_take, hl]; simp
  have get : ∀ (i : Nat) g, (γ.take L.length)[i]? = some g → i < L.length ∧ γ[i]? = some g := by
    intro i g hg
    rw [List.getElem?_take] at hg
    split at hg
    · rename_i h; exact ⟨h, hg⟩
    · cases hg
  refine ⟨⟨hlen, hi.val, fun id x g hx hg => ?_, fun i j gi gj h1 h2 => hi.inj i j gi gj (get i gi h1).2 (get j gj h2).2, fun i g b hg => hi.new i g b (get i g hg).2, hi.bsz⟩, ⟨hT.size, hT.defers, fun t x h => ?_⟩⟩
  · obtain ⟨hlt, hg'⟩ := get id g hg
    have hobj := hi.obj id x g (by rw [List.getElem?_append_left hlt]; exact hx) hg'
    have hb := hf.objs x (List.mem_of_getElem? hx)
    match x, g, hobj, hb with
    | .box cs, .box b, ⟨⟨vs, E, h1, h2, h3⟩, h4⟩, hb => exact ⟨⟨vs, E, h1, h2, fun j u x hu hx => SV.cut hl (h3 j u x hu hx) (hb x (List.mem_of_getElem? hx))⟩, h4⟩
    | .spare n k, .arr b c, hobj, _ => exact hobj
    | .spare n k, .none, hobj, _ => exact hobj
    | .row ver es k, .arr b c, ⟨⟨vs, E, h1, h2, h3⟩, h4⟩, hb => exact ⟨⟨vs, E, h1, h2, fun i e j u x he hu hx => SV.cut hl (h3 i e j u x he hu hx) (hb e (List.mem_of_getElem? he) x (List.mem_of_getElem? hx))⟩, h4⟩
    | .row ver es k, .none, hobj, _ => exact hobj
    | .map kvs, .box b, ⟨⟨es, h1, h2, h3⟩, h4⟩, hb => exact ⟨⟨es, h1, h2, fun j e p he hp => ⟨(h3 j e p he hp).1, (h3 j e p he hp).2.1, AV.cut hl (h3 j e p he hp).2.2 (hb p (List.mem_of_getElem? hp))⟩⟩, h4⟩
    | .dead, .none, hobj, _ => exact hobj
    | .dead, .box _, hobj, _ => exact hobj
  · have hm := lookup_mem h
    obtain ⟨u, h1, h2⟩ := hT.slot t x (hf.slots (t, x) hm)
    exact ⟨u, h1, AV.cut hl h2 (hf.below (t, x) hm)⟩
theorem Fits.mvn {T' : Tm} {L' : List Ob} (hf : Fits T' L' T L) {B : Nat → Prop} {R : PH} {γ : List Gh} {w : World} (hi : Inv B R γ L' w) (hn : n0 ≤ L.length) : MvN n0 R R γ (γ.take L.length) L' L := by
  obtain ⟨G, rfl⟩ := hf.pre
  exact MvN.cut hi.len hn
theorem aw_fit {c : Code} {T1 : Tm} {L1 : List Ob} (hn1 : n0 ≤ L1.length) (hf : Fits T L T1 L1) (h : Aw P N n0 c Q T1 L1) : Aw P N n0 c Q T L := by
  intro hn B R γ w a hi hT
  obtain ⟨i1, t1⟩ := hf.sound hi hT
  exact wp_mono (h hn1 B R _ w a i1 t1) fun _ _ _ hh => hh.ext (Ext.refl _ _ _) hi.len (hf.mvn hi hn1)

/-- A slice without room gets the right to grow. -/
theorem aw_tok {c : Code} (t k : Nat) (ht : T.lookup t = some (.one .emp)) (h : Aw P N n0 c Q ((t, .one (.own [] L.length)) :: T) (L ++ [.spare 0 k])) : Aw P N n0 c Q T L := by
  intro hn B R γ w a hi hT
  have hm : Mv R R γ (γ ++ [.none]) L (L ++ [.spare 0 k]) := Mv.push _ _ hi.len
  refine wp_mono (h (by simp; omega) B R (γ ++ [.none]) w a (hi.tok k) ?_) fun _ _ _ hh => hh.ext (Ext.refl _ _ _) hi.len (MvN.of hn hm)
  refine ⟨hT.size, hT.defers, fun t' x hx => ?_⟩
  rw [List.lookup_cons] at hx
  by_cases e : t' = t
  · subst e
    simp at hx; subst hx
    obtain ⟨u, h1, b, rfl⟩ := hT.slot t' _ ht
    exact ⟨_, h1, prep_nil _ _ _, by simp, fun n2 k2 _ => ⟨by simp, by simp, fun _ => ⟨.none, by rw [← hi.len]; simp, b, by simp⟩⟩⟩
  · have : (t' == t) = false := by simpa using e
    rw [this] at hx
    exact (hT.mv hm).slot t' x hx
/-- .. in a variable in memory. -/
theorem aw_tokBox {c : Code} (id j k : Nat) {cs : List SV} (hid : L[id]? = some (.box cs)) (hj : cs[j]? = some .emp) (h : Aw P N n0 c Q T (L.set id (.box (cs.set j (.own [] L.length))) ++ [.spare 0 k])) : Aw P N n0 c Q T L := by
  intro hn B R γ w a hi hT
  have hlt := (List.getElem?_eq_some_iff.1 hid).1
  have hm : Mv R R γ (γ ++ [.none]) L (L.set id (.box (cs.set j (.own [] L.length))) ++ [.spare 0 k]) := by
    refine ⟨PH.sub_refl _, by simp, fun t n k' hlt' e => ⟨n, ?_, Nat.le_refl _, fun _ => ?_⟩, fun t ver es0 k' hlt' e => ⟨ver, es0, ?_, Nat.le_refl _, fun _ => ⟨rfl, ?_⟩⟩, fun i b e => ?_⟩
    · rw [List.getElem?_append_left (by simpa using hlt')] at e
      have hne : t ≠ id := by rintro rfl; rw [List.getElem?_set_self hlt'] at e; cases e
      rw [List.getElem?_set_ne (Ne.symm hne)] at e; exact e
    · rw [List.getElem?_append_left (by rw [hi.len]; exact hlt')]
    · rw [List.getElem?_append_left (by simpa using hlt')] at e
      have hne : t ≠ id := by rintro rfl; rw [List.getElem?_set_self hlt'] at e; cases e
      rw [List.getElem?_set_ne (Ne.symm hne)] at e; exact e
    · rw [List.getElem?_append_left (by rw [hi.len]; exact hlt')]
    · rw [List.getElem?_append_left (List.getElem?_eq_some_iff.1 e).1]; exact e
  refine wp_mono (h (by simp; omega) B R (γ ++ [.none]) w a ?_ (hT.mv hm)) fun _ _ _ hh => hh.ext (Ext.refl _ _ _) hi.len (MvN.of hn hm)
  have gcase : ∀ j h, (γ ++ [Gh.none])[j]? = some h → (j = γ.length ∧ h = .none) ∨ (j < γ.length ∧ γ[j]? = some h) := by
    intro j h hh
    by_cases hid : j < γ.length
    · rw [List.getElem?_append_left hid] at hh; exact .inr ⟨hid, hh⟩
    · have : j = γ.length := by have := (List.getElem?_eq_some_iff.1 hh).1; simp at this; omega
      subst this
      rw [List.getElem?_append_right (by omega)] at hh
      simp at hh
      exact .inl ⟨rfl, hh.symm⟩
  have it := hi.tok k
  refine ⟨by simp [hi.len], hi.val, fun i y g hy hg => ?_, it.inj, it.new, hi.bsz⟩
  rcases gcase i g hg with ⟨rfl, rfl⟩ | ⟨hl2, hg'⟩
  · rw [List.getElem?_append_right (by simp [hi.len])] at hy
    simp [hi.len] at hy; subst hy; rfl
  · rw [List.getElem?_append_left (by simp; rw [← hi.len]; exact hl2)] at hy
    by_cases hii : i = id
    · subst hii
      rw [List.getElem?_set_self hlt] at hy
      injection hy with hy; subst hy
      have hob := hi.obj i _ _ hid hg'
      match g, hob with
      | .box b, ⟨⟨vs, E, h1, h2, h3⟩, h4⟩ =>
        refine ⟨⟨vs, E, h1, by simp [h2], fun q u x hu hx => ?_⟩, h4⟩
        by_cases hq : q = j
        · subst hq
          rw [List.getElem?_set_self (List.getElem?_eq_some_iff.1 hj).1] at hx
          injection hx with hx; subst hx
          obtain ⟨ad, rfl⟩ := h3 q u _ hu hj
          exact ⟨prep_nil _ _ _, by simp, fun n2 k2 _ => ⟨by simp, by simp, fun _ => ⟨.none, by rw [← hi.len]; simp, ad, by simp⟩⟩⟩
        · rw [List.getElem?_set_ne (Ne.symm hq)] at hx
          exact SV.mv hm (h3 q u x hu hx)
    · rw [List.getElem?_set_ne (Ne.symm hii)] at hy
      exact (hi.obj i y g hy hg').mv hm (fun _ _ => rfl) (fun _ _ _ h => h)

/-- A loop: the states s at its head, with the slots TT s and the objects LL s. -/
theorem aw_loop {σ : Type} {c : Code} (TT : σ → Tm) (LL : σ → List Ob) (ok : σ → Prop) (μ : σ → Nat) (s0 : σ) (h0 : ok s0) (hn1 : ∀ s, ok s → n0 ≤ (LL s).length) (hf : Fits T L (TT s0) (LL s0))
    (round : ∀ s, ok s → Aw P N n0 c (AX.then (fun T' L' => ∃ s', ok s' ∧ μ s' < μ s ∧ Fits T' L' (TT s') (LL s')) Q) (TT s) (LL s)) : Aw P N n0 (.loop c) Q T L := by
  intro hn B R0 γ0 w0 a0 hi hT
  obtain ⟨i1, t1⟩ := hf.sound hi hT
  have key : ∀ n s R γ a w, μ s < n → ok s → Inv B R γ (LL s) w → TRep N R γ (LL s) (TT s) a → Ext B R0 R w0 w → MvN n0 R0 R γ0 γ L (LL s) → Code.rounds P c (AwPost N n0 B Q R0 w0 γ0 L) n a w := by
    intro n
    induction n with
    | zero => intro s R γ a w h; omega
    | succ n ih =>
      intro s R γ a w hlt hok hI ht he hmv
      rw [rounds_succ]
      refine wp_mono (round s hok (hn1 s hok) B R γ w a hI ht) ?_
      rintro e a1 w1 ⟨x, T1, L1, R1, γ2, rfl, q, j1, k1, e1, m1⟩
      cases x with
      | normal =>
        obtain ⟨s', ok', hlt', hfit⟩ := q
        obtain ⟨j2, k2⟩ := hfit.sound j1 k1
        exact ih s' R1 _ a1 w1 (by omega) ok' j2 k2 (he.trans e1) ((hmv.trans hi.len m1).trans hi.len (hfit.mvn j1 (hn1 s' ok')))
      | exit id => exact ⟨.exit id, T1, L1, R1, γ2, rfl, q, j1, k1, he.trans e1, hmv.trans hi.len m1⟩
      | ret => exact ⟨.ret, T1, L1, R1, γ2, rfl, q, j1, k1, he.trans e1, hmv.trans hi.len m1⟩
  exact wp_loop_rounds (μ s0 + 1) (key _ s0 R0 _ a0 w0 (by omega) h0 i1 t1 (Ext.refl _ _ _) (hf.mvn hi (hn1 s0 h0)))

/-- The results of a function, over trees. -/
def resOne (ti : TI) (T : Tm) (L : List Ob) : ResultVar → Option (PV × Prop)
  | .tmp t => ((T.lookup t).bind AV.norm).map fun p => (p, True)
  | .cell a t => match T.lookup a with
    | some (.one (.ptr id off)) => match popLoad ti L t (.one (.ptr id off)) with
      | some (v, φ) => v.norm.map fun p => (p, φ)
      | none => none
    | _ => none
def resAll (ti : TI) (T : Tm) (L : List Ob) : List ResultVar → Option (List PV × Prop)
  | [] => some ([], True)
  | r :: rs => match resOne ti T L r, resAll ti T L rs with
    | some (p, φ), some (ps, ψ) => some (p :: ps, φ ∧ ψ)
    | _, _ => none
def cvOf : List PV → CV
  | [p] => .val p
  | ps => .tup ps
def Res (ti : TI) (rs : List ResultVar) (T : Tm) (L : List Ob) (r : CV) : Prop :=
  match resAll ti T L rs with
  | some (ps, φ) => φ ∧ cvOf ps = r
  | none => False

def resSem (tmps : Array Value) : ResultVar → Sem Value
  | .tmp t => pure (tmps.getD t Go.undef)
  | .cell ad t => do loadVar t (← asAddr (tmps.getD ad Go.undef))
theorem results_eq (fn : Func) (tmps : Array Value) : results fn tmps = (do let vs ← fn.results.mapM (resSem tmps); pure (if h : vs.size = 1 then vs[0] else .tuple vs)) := by
  unfold results
  congr
theorem resOne_sound (hti : TIok P ti) {B : Nat → Prop} {R : PH} {γ : List Gh} {w : World} {a : Act} (hi : Inv B R γ L w) (hT : TRep N R γ L T a) {rv : ResultVar} {p : PV} {φ : Prop} (h : resOne ti T L rv = some (p, φ)) (hφ : φ) :
    ∃ u, (resSem a.tmps rv).run P w = .ok u w ∧ p.rep R u := by
  cases rv with
  | tmp t =>
    simp only [resOne] at h
    cases hl : T.lookup t with
    | none => simp [hl] at h
    | some x =>
      simp only [hl, Option.bind_some] at h
      cases hn : x.norm with
      | none => simp [hn] at h
      | some q =>
        simp only [hn, Option.map_some, Option.some.injEq, Prod.mk.injEq] at h
        obtain ⟨rfl, _⟩ := h
        obtain ⟨u, h1, h2⟩ := hT.slot t x hl
        exact ⟨u, by simp [resSem, Array.getD_eq_getD_getElem?, h1], AV.norm_rep h2 hn⟩
  | cell ad t =>
    simp only [resOne] at h
    split at h
    · rename_i id off hl
      split at h
      · rename_i v ψ hp
        cases hn : v.norm with
        | none => simp [hn] at h
        | some q =>
          simp only [hn, Option.map_some, Option.some.injEq, Prod.mk.injEq] at h
          obtain ⟨rfl, h2⟩ := h
          subst h2
          obtain ⟨u, h1, hu⟩ := hT.slot ad _ hl
          obtain ⟨b, rfl, hg⟩ := hu
          obtain ⟨u', r1, r2⟩ := popLoad_sound hti hi (va := .one (.ptr id off)) (u1 := .pointer (some ⟨b, off, none⟩)) ⟨b, rfl, hg⟩ hp hφ
          refine ⟨u', ?_, AV.norm_rep r2 hn⟩
          simp only [Instr.loadAt, Instr.sureAddr] at r1
          simpa [resSem, Array.getD_eq_getD_getElem?, h1, asAddr] using r1
      · cases h
    · cases h
theorem resAll_sound (hti : TIok P ti) {B : Nat → Prop} {R : PH} {γ : List Gh} {w : World} {a : Act} (hi : Inv B R γ L w) (hT : TRep N R γ L T a) : ∀ {rs : List ResultVar} {ps : List PV} {φ : Prop}, resAll ti T L rs = some (ps, φ) → φ →
    ∃ us : List Value, (rs.mapM (resSem a.tmps)).run P w = .ok us w ∧ us.length = ps.length ∧ ∀ (j : Nat) u p, us[j]? = some u → ps[j]? = some p → p.rep R u
  | [], ps, φ, h, _ => by
    simp only [resAll, Option.some.injEq, Prod.mk.injEq] at h
    obtain ⟨rfl, _⟩ := h
    exact ⟨[], rfl, rfl, fun j u p hu => by simp at hu⟩
  | r :: rs, ps, φ, h, hφ => by
    unfold resAll at h
    split at h
    · rename_i p ψ ps' χ h1 h2
      simp only [Option.some.injEq, Prod.mk.injEq] at h
      obtain ⟨rfl, rfl⟩ := h
      obtain ⟨u, r1, r2⟩ := resOne_sound hti hi hT h1 hφ.1
      obtain ⟨us, s1, s2, s3⟩ := resAll_sound hti hi hT h2 hφ.2
      refine ⟨u :: us, ?_, by simp [s2], fun j v q hv hq => ?_⟩
      · rw [List.mapM_cons]
        simp only [Sem.run_bind, r1, Result.andThen_ok, s1, Sem.run_pure]
      · cases j with
        | zero => simp at hv hq; subst hv hq; exact r2
        | succ j => exact s3 j v q (by simpa using hv) (by simpa using hq)
    · cases h
theorem Res.sound (hti : TIok P ti) {B : Nat → Prop} {R : PH} {γ : List Gh} {w : World} {a : Act} (hi : Inv B R γ L w) (hT : TRep N R γ L T a) {fn : Func} {r : CV} (h : Res ti fn.results.toList T L r) :
    ∃ v, (results fn a.tmps).run P w = .ok v w ∧ r.rep R v := by
  unfold Res at h
  split at h
  · rename_i ps φ hp
    obtain ⟨hφ, rfl⟩ := h
    obtain ⟨us, s1, s2, s3⟩ := resAll_sound hti hi hT hp hφ
    have hm : (fn.results.mapM (resSem a.tmps)).run P w = .ok us.toArray w := by
      rw [Array.mapM_eq_mapM_toList]
      simp only [Sem.run_map, s1, Result.andThen_ok]
    refine ⟨if h : us.toArray.size = 1 then us.toArray[0] else .tuple us.toArray, ?_, ?_⟩
    · rw [results_eq]
      simp only [Sem.run_bind]
      rw [hm]
      rfl
    · match us, ps, s2, s3 with
      | [u], [p], _, s3 => exact s3 0 u p rfl rfl
      | [], [], _, _ => exact ⟨#[], rfl, rfl, fun j u p hu => by simp at hu⟩
      | u1 :: u2 :: us, p1 :: p2 :: ps, s2, s3 =>
        rw [dif_neg (by simp)]
        exact ⟨_, rfl, by simpa using s2, fun j u p hu hp => s3 j u p (by simpa using hu) hp⟩
  · exact h.elim

def argT : Nat → List PV → Tm
  | _, [] => []
  | i, p :: ps => (i, p.av) :: argT (i + 1) ps
theorem argT_lookup : ∀ (ps : List PV) (i t : Nat) (x : AV), (argT i ps).lookup t = some x → ∃ p, ps[t - i]? = some p ∧ x = p.av ∧ i ≤ t
  | [], i, t, x, h => by simp [argT] at h
  | p :: ps, i, t, x, h => by
    rw [argT, List.lookup_cons] at h
    by_cases e : t = i
    · subst e
      simp at h; subst h
      exact ⟨p, by simp, rfl, Nat.le_refl _⟩
    · have : (t == i) = false := by simpa using e
      rw [this] at h
      obtain ⟨q, h1, h2, h3⟩ := argT_lookup ps (i + 1) t x h
      refine ⟨q, ?_, h2, by omega⟩
      have : t - i = (t - (i + 1)) + 1 := by omega
      rw [this, List.getElem?_cons_succ]; exact h1

/-- A function's contract out of its body. -/
theorem pure_of_aw (hti : TIok P ti) {f : FuncId} {fn : Func} {c : Code} {args : List PV} {r : CV} (hf : P.funcs[f]? = some fn) (hb : fn.body = some c) (hname : (fn.name == "runtime.NumGoroutine") = false) (hN : fn.ntmps = N) (hlen : args.length ≤ N)
    (h : Aw P N 0 c (fun x T L => (x = .normal ∨ x = .ret) ∧ Res ti fn.results.toList T L r) (argT 0 args) []) : Pure P f args r := by
  refine ⟨⟨fn, hf, by rw [hb]; rfl, hname⟩, fun R w vs hR hs hv => ?_⟩
  refine calls_of_wp hf hb ?_
  have hi : Inv (· < w.heap.size) R [] [] w := ⟨rfl, hR, fun id x g hx => by simp at hx, fun i j gi gj h => by simp at h, fun i g b h => by simp at h, fun _ h => h⟩
  have hT : TRep N R [] [] (argT 0 args) { tmps := vs ++ Array.replicate (fn.ntmps - vs.size) Go.undef, defers := [] } := by
    refine ⟨by simp; omega, rfl, fun t x ht => ?_⟩
    obtain ⟨p, h1, rfl, _⟩ := argT_lookup args 0 t x ht
    rw [Nat.sub_zero] at h1
    have hlt : t < vs.size := by rw [hs]; exact (List.getElem?_eq_some_iff.1 h1).1
    have hu : vs[t]? = some vs[t] := Array.getElem?_eq_getElem hlt
    exact ⟨vs[t], by rw [Array.getElem?_append_left hlt]; exact hu, PV.av_rep (hv t _ p hu h1)⟩
  refine wp_mono (h (Nat.zero_le _) (· < w.heap.size) R [] w _ hi hT) ?_
  rintro e a' w' ⟨x, T', L', R', γ', rfl, ⟨hx, hres⟩, i1, t1, e1, _⟩
  obtain ⟨v, h1, h2⟩ := Res.sound hti i1 t1 hres
  rcases hx with rfl | rfl
  · exact ⟨t1.defers, v, h1, v, R', rfl, e1, i1.val, h2⟩
  · exact ⟨t1.defers, v, h1, v, R', rfl, e1, i1.val, h2⟩

/-- The one result is a row of the function's own. -/
def ResO (rs : List ResultVar) (T : Tm) (L : List Ob) (es' : List (List AC)) (k : Nat) : Prop :=
  match rs with
  | [.tmp t] => match T.lookup t with
    | some (.one (.own es i)) => es = es' ∧ L[i]? = some (.spare es'.length k)
    | some (.one .emp) => es' = []
    | _ => False
  | _ => False
theorem pureO_of_aw {f : FuncId} {fn : Func} {c : Code} {args : List PV} {es es' : List (List AC)} {k : Nat} (hf : P.funcs[f]? = some fn) (hb : fn.body = some c) (hname : (fn.name == "runtime.NumGoroutine") = false) (hN : fn.ntmps = N) (hlen : args.length + 1 ≤ N)
    (h : Aw P N 0 c (fun x T L => (x = .normal ∨ x = .ret) ∧ ResO fn.results.toList T L es' k) ((0, .one (.own es 0)) :: argT 1 args) [.spare es.length k]) : PureO P f es k args es' := by
  refine ⟨⟨fn, hf, by rw [hb]; rfl, hname⟩, fun R w v vs g hR hpv hwide hown hs hv => ?_⟩
  refine calls_of_wp hf hb ?_
  have hgsz : ∀ b, g.block = some b → b < w.heap.size := by
    intro b hb
    match g, hown, hb with
    | .arr b' c, ⟨_, ⟨vs, E, a1, _⟩, _⟩, hb => injection hb with hb; subst hb; exact (Array.getElem?_eq_some_iff.1 a1).1
  have one : ∀ (j : Nat) h, [g][j]? = some h → j = 0 ∧ h = g := by
    intro j h hh
    cases j with
    | zero => simp at hh; exact ⟨rfl, hh.symm⟩
    | succ j => simp at hh
  have hi : Inv (fun b => b < w.heap.size ∧ g.block ≠ some b) R [g] [.spare es.length k] w := by
    refine ⟨rfl, hR, fun id x h hx hh => ?_, fun i j gi gj h1 h2 hne => ?_, fun i h b hh hb => ?_, fun _ h => h.1⟩
    · obtain ⟨rfl, rfl⟩ := one id h hh
      simp at hx; subst hx
      match h, hown with
      | .none, ⟨h0, _⟩ => rw [h0]; rfl
      | .arr b c, ⟨_, ⟨vs, E, a1, a2⟩, a3, a4, a5⟩ => exact ⟨⟨vs, E, a1, a2⟩, a3, a4, a5⟩
    · have := (one i gi h1).1; have := (one j gj h2).1; omega
    · obtain ⟨rfl, rfl⟩ := one i h hh
      exact ⟨fun hB => hB.2 hb, hgsz b hb⟩
  have hT : TRep N R [g] [.spare es.length k] ((0, .one (.own es 0)) :: argT 1 args) { tmps := (#[v] ++ vs) ++ Array.replicate (fn.ntmps - (#[v] ++ vs).size) Go.undef, defers := [] } := by
    refine ⟨by simp; omega, rfl, fun t x ht => ?_⟩
    rw [List.lookup_cons] at ht
    by_cases e : t = 0
    · subst e
      simp at ht; subst ht
      refine ⟨v, by rw [Array.getElem?_append_left (by simp; omega), Array.getElem?_append_left (by simp)]; rfl, hpv, by simp, fun n2 k2 e2 => ?_⟩
      simp at e2
      obtain ⟨rfl, rfl⟩ := e2
      refine ⟨Nat.le_refl _, hwide, fun _ => ⟨g, rfl, ?_⟩⟩
      match g, hown with
      | .none, ⟨h0, ha⟩ => exact ha
      | .arr b c, ⟨h0, _⟩ => exact h0
    · have : (t == 0) = false := by simpa using e
      rw [this] at ht
      obtain ⟨p, h1, rfl, h2⟩ := argT_lookup args 1 t x ht
      have hlt : t - 1 < vs.size := by rw [hs]; exact (List.getElem?_eq_some_iff.1 h1).1
      have hu : vs[t - 1]? = some vs[t - 1] := Array.getElem?_eq_getElem hlt
      refine ⟨vs[t - 1], ?_, PV.av_rep (hv (t - 1) _ p hu h1)⟩
      rw [Array.getElem?_append_left (by simp; omega), Array.getElem?_append_right (by simp; omega)]
      simp
  refine wp_mono (h (Nat.zero_le _) _ R [g] w _ hi hT) ?_
  rintro e a' w' ⟨x, T', L', R', γ', rfl, ⟨hx, hres⟩, i1, t1, e1, _⟩
  unfold ResO at hres
  split at hres
  case h_2 => exact hres.elim
  rename_i t hrs
  have hrs' : fn.results = #[.tmp t] := by cases hfr : fn.results; rw [hfr] at hrs; simp_all
  have hval : ∀ u, a'.tmps[t]? = some u → (results fn a'.tmps).run P w' = .ok u w' := by
    intro u hu
    rw [results_eq, hrs']
    simp [resSem, Array.getD_eq_getD_getElem?, hu]
  have fin : ∀ u g', a'.tmps[t]? = some u → PRep R' u (.lst es') → (∀ e ∈ es', e.length = k) → OwnV R' w' es' k u g' → (∀ b, g'.block = some b → w.heap.size ≤ b ∨ g.block = some b) → bodyPost P fn (fun e w' => ∃ v' R' g', e = .returned v' ∧ Ext (fun b => b < w.heap.size ∧ g.block ≠ some b) R R' w w' ∧ (∀ b o u, R' b o = some u → w'.cell? ⟨b, o, none⟩ = some u) ∧
      PRep R' v' (.lst es') ∧ (∀ e ∈ es', e.length = k) ∧ OwnV R' w' es' k v' g' ∧ ∀ b, g'.block = some b → w.heap.size ≤ b ∨ g.block = some b) x.ex a' w' := by
    intro u g' hu hp hw ho hb
    rcases hx with rfl | rfl
    · exact ⟨t1.defers, u, hval u hu, u, R', g', rfl, e1, i1.val, hp, hw, ho, hb⟩
    · exact ⟨t1.defers, u, hval u hu, u, R', g', rfl, e1, i1.val, hp, hw, ho, hb⟩
  split at hres
  · rename_i es0 i hl
    obtain ⟨rfl, hLi⟩ := hres
    obtain ⟨u, hu, hp, hlt, hall⟩ := t1.slot t _ hl
    obtain ⟨_, hw, hlk⟩ := hall _ _ hLi
    obtain ⟨g', hg', hlink⟩ := hlk rfl
    have hob := i1.obj i _ _ hLi hg'
    refine fin u g' hu hp hw ?_ ?_
    · match g', hlink, hob with
      | .none, hlk, hob => exact ⟨List.eq_nil_of_length_eq_zero hob, hlk⟩
      | .arr b c, hlk, ⟨a1, a2, a3, a4⟩ => exact ⟨hlk, a1, a2, a3, a4⟩
    · intro b hb
      have := (i1.new i g' b hg' hb).1
      by_cases hlt2 : b < w.heap.size
      · right
        by_cases hge : g.block = some b
        · exact hge
        · exact absurd ⟨hlt2, hge⟩ this
      · left; omega
  · rename_i hl
    subst hres
    obtain ⟨u, hu, ad, rfl⟩ := t1.slot t _ hl
    exact fin _ .none hu (prep_nil _ _ _) (by simp) ⟨rfl, ad, rfl⟩ (by intro b hb; cases hb)
  · exact hres.elim
end
end Go.Proofs.YtnbnpnmkgemdeaaGreatDoor

namespace Go.Proofs.YtnbnpnmkgemdeaaGreatDoor
open Go.RowKit
section
variable {P : Program} {ti : TI} {N n0 : Nat} {T : Tm} {L : List Ob}

/-- What the function returns: one value in a slot, or trees. -/
def RunVal (ti : TI) (rs : List ResultVar) (T : Tm) (L : List Ob) (r : AV) : Prop :=
  (∃ t, rs = [.tmp t] ∧ T.lookup t = some r) ∨ (∃ q, Res ti rs T L q ∧ r = q.av)
structure RunRes (ti : TI) (rs : List ResultVar) (n0 : Nat) (L1 : List Ob) (r : AV) (T : Tm) (L : List Ob) : Prop where
  val : RunVal ti rs T L r
  pre : ∃ G, L = L1 ++ G
  lo : n0 ≤ L1.length
  obb : ∀ x ∈ L1, x.below L1.length
  vb : r.below L1.length
theorem RunVal.sound (hti : TIok P ti) {B : Nat → Prop} {R : PH} {γ : List Gh} {w : World} {a : Act} (hi : Inv B R γ L w) (hT : TRep N R γ L T a) {fn : Func} {r : AV} (h : RunVal ti fn.results.toList T L r) :
    ∃ v, (results fn a.tmps).run P w = .ok v w ∧ r.rep R γ L v := by
  rcases h with ⟨t, hr, ht⟩ | ⟨q, hr, rfl⟩
  · obtain ⟨u, h1, h2⟩ := hT.slot t r ht
    refine ⟨u, ?_, h2⟩
    have e : fn.results = #[.tmp t] := by cases h : fn.results; rw [h] at hr; simp at hr; rw [hr]
    rw [results_eq, e]
    simp [resSem, h1]
  · obtain ⟨v, h1, h2⟩ := Res.sound hti hi hT hr
    exact ⟨v, h1, CV.av_rep h2⟩
def argA : Nat → List AV → Tm
  | _, [] => []
  | i, p :: ps => (i, p) :: argA (i + 1) ps
theorem argA_lookup : ∀ (ps : List AV) (i t : Nat) (x : AV), (argA i ps).lookup t = some x → ps[t - i]? = some x ∧ i ≤ t
  | [], i, t, x, h => by simp [argA] at h
  | p :: ps, i, t, x, h => by
    rw [argA, List.lookup_cons] at h
    by_cases e : t = i
    · subst e
      simp at h; subst h
      exact ⟨by simp, Nat.le_refl _⟩
    · have : (t == i) = false := by simpa using e
      rw [this] at h
      obtain ⟨h1, h3⟩ := argA_lookup ps (i + 1) t x h
      refine ⟨?_, by omega⟩
      have : t - i = (t - (i + 1)) + 1 := by omega
      rw [this, List.getElem?_cons_succ]; exact h1

theorem run_of_aw (hti : TIok P ti) {f : FuncId} {fn : Func} {c : Code} {args : List AV} {L0 L1 : List Ob} {r : AV} (hf : P.funcs[f]? = some fn) (hb : fn.body = some c) (hname : (fn.name == "runtime.NumGoroutine") = false) (hN : fn.ntmps = N) (hlen : args.length ≤ N)
    (h : Aw P N L0.length c (fun x T L => (x = .normal ∨ x = .ret) ∧ RunRes ti fn.results.toList L0.length L1 r T L) (argA 0 args) L0) : Run P f L0 args L1 r := by
  refine ⟨⟨fn, hf, by rw [hb]; rfl, hname⟩, fun B R γ w vs hi hs hv => ?_⟩
  refine calls_of_wp hf hb ?_
  have hT : TRep N R γ L0 (argA 0 args) { tmps := vs ++ Array.replicate (fn.ntmps - vs.size) Go.undef, defers := [] } := by
    refine ⟨by simp; omega, rfl, fun t x ht => ?_⟩
    obtain ⟨h1, _⟩ := argA_lookup args 0 t x ht
    rw [Nat.sub_zero] at h1
    have hlt : t < vs.size := by rw [hs]; exact (List.getElem?_eq_some_iff.1 h1).1
    have hu : vs[t]? = some vs[t] := Array.getElem?_eq_getElem hlt
    exact ⟨vs[t], by rw [Array.getElem?_append_left hlt]; exact hu, hv t _ x hu h1⟩
  refine wp_mono (h (Nat.le_refl _) B R γ w _ hi hT) ?_
  rintro e a' w' ⟨x, T', L', R', γ', rfl, ⟨hx, hres⟩, i1, t1, e1, m1⟩
  obtain ⟨v, h1, h2⟩ := RunVal.sound hti i1 t1 hres.val
  obtain ⟨G, rfl⟩ := hres.pre
  have hfit : Fits ([] : Tm) (L1 ++ G) [] L1 := ⟨fun p hp => (by cases hp), ⟨G, rfl⟩, fun p hp => (by cases hp), hres.obb⟩
  have hnil : TRep N R' γ' (L1 ++ G) ([] : Tm) a' := ⟨t1.size, t1.defers, fun t x hx => by simp at hx⟩
  obtain ⟨j1, _⟩ := hfit.sound i1 hnil
  have hmv := m1.trans hi.len (hfit.mvn i1 hres.lo)
  have hmv' : Mv R R' γ (γ'.take L1.length) L0 L1 := by
    have := hmv.mv
    rw [List.take_of_length_le (Nat.le_refl _), List.take_of_length_le (by rw [hi.len]; exact Nat.le_refl _)] at this
    exact this
  have hrep := AV.cut i1.len h2 hres.vb
  rcases hx with rfl | rfl
  · exact ⟨t1.defers, v, h1, v, R', _, rfl, j1, e1, hmv', hrep⟩
  · exact ⟨t1.defers, v, h1, v, R', _, rfl, j1, e1, hmv', hrep⟩
end
end Go.Proofs.YtnbnpnmkgemdeaaGreatDoor

namespace Go.Proofs.YtnbnpnmkgemdeaaGreatDoor
open Go.RowKit

section
variable {P : Program} {ti : TI} {L : List Ob}

theorem elemsOf_congr {ρ ρ' : Operand → Option AV} : ∀ (ps : List (Nat × Operand)) (j : Nat), (∀ p ∈ ps, ρ p.2 = ρ' p.2) → elemsOf ρ ps j = elemsOf ρ' ps j
  | [], _, _ => rfl
  | (i, x) :: ps, j, h => by
    have h1 : ρ x = ρ' x := h (i, x) (by simp)
    have h2 := elemsOf_congr ps (j + 1) fun p hp => h p (List.mem_cons_of_mem _ hp)
    simp only [elemsOf, h1, h2]
theorem normArgs_congr {ρ ρ' : Operand → Option AV} : ∀ (xs : List Operand), (∀ x ∈ xs, ρ x = ρ' x) → normArgs ρ xs = normArgs ρ' xs
  | [], _ => rfl
  | x :: xs, h => by
    have h1 : ρ x = ρ' x := h x (by simp)
    have h2 := normArgs_congr xs fun y hy => h y (List.mem_cons_of_mem _ hy)
    simp only [normArgs, h1, h2]

theorem pop_congr {ρ ρ' : Operand → Option AV} {op : Op} (h : ∀ x, x ∈ op.operands → ρ x = ρ' x) : pop ti ρ L op = pop ti ρ' L op := by
  unfold pop
  split
  · rename_i x; rw [h x (by simp [Op.operands])]
  · rename_i x; rw [h x (by simp [Op.operands])]
  · rename_i c x y; rw [h c (by simp [Op.operands]), h x (by simp [Op.operands]), h y (by simp [Op.operands])]
  · rename_i o t x y yt; rw [h x (by simp [Op.operands]), h y (by simp [Op.operands])]
  · rename_i o t x; rw [h x (by simp [Op.operands])]
  · rename_i s d x; rw [h x (by simp [Op.operands])]
  · rename_i t x; rw [h x (by simp [Op.operands])]
  · rename_i s x i; rw [h x (by simp [Op.operands])]
  · rename_i s x i; rw [h x (by simp [Op.operands])]
  · rename_i t x y; rw [h x (by simp [Op.operands]), h y (by simp [Op.operands])]
  · rename_i t x y; rw [h x (by simp [Op.operands]), h y (by simp [Op.operands])]
  · rename_i x i; rw [h x (by simp [Op.operands])]
  · rename_i x; rw [h x (by simp [Op.operands])]
  · rename_i t x lo hi
    have h1 : lo.map ρ = lo.map ρ' := by cases lo with | none => rfl | some y => simp [h y (by simp [Op.operands])]
    have h2 : hi.map ρ = hi.map ρ' := by cases hi with | none => rfl | some y => simp [h y (by simp [Op.operands])]
    rw [h x (by simp [Op.operands]), h1, h2]
  · rename_i args ts
    split
    · rename_i x t hx ht
      rw [h x (by simp [Op.operands, Call.operands]; rw [← Array.mem_toList_iff, hx]; simp)]
    · rfl
  · rename_i args ts
    have : args.toList.map ρ = args.toList.map ρ' := List.map_congr_left fun x hx => h x (by simp [Op.operands, Call.operands]; simpa using hx)
    rw [this]
  · rename_i args ts
    have : args.toList.map ρ = args.toList.map ρ' := List.map_congr_left fun x hx => h x (by simp [Op.operands, Call.operands]; simpa using hx)
    rw [this]
  · rename_i t parts
    have : (parts.toList.map fun p => (p.1, ρ p.2)) = parts.toList.map fun p => (p.1, ρ' p.2) := List.map_congr_left fun p hp => by
      rw [h p.2 (by simp only [Op.operands, List.mem_toArray]; exact List.mem_map_of_mem hp)]
    rw [this]
  · rename_i f first captured
    have : captured.toList.map ρ = captured.toList.map ρ' := List.map_congr_left fun x hx => h x (by simp [Op.operands]; exact .inr (by simpa using hx))
    rw [this]
  · rfl

theorem lop_kind {ρ : Operand → Option AV} {op : Op} {r : AV × List Ob × Prop} (h : lop ti ρ L op = some r) : lKind ti op = true := by
  unfold lop at h
  split at h
  · rfl
  · rfl
  · rfl
  · rfl
  · cases h
theorem callOpO_kind {ρ : Operand → Option AV} {op : Op} {r : FuncId × List (List AC) × Option Nat × List PV} (h : callOpO ti ρ op = some r) : lKind ti op = true := by
  unfold callOpO at h
  split at h
  · rename_i f args ts
    split at h
    · rename_i x xs ho hxs; exact ho
    · cases h
  · cases h
theorem litOp_congr {ρ ρ' : Operand → Option AV} {op : Op} (h : ∀ x, x ∈ op.operands → ρ x = ρ' x) : litOp ti ρ op = litOp ti ρ' op := by
  unfold litOp
  split
  · rename_i t len parts
    unfold popLit
    rw [elemsOf_congr parts.toList 0 fun p hp => h p.2 (by simp only [Op.operands, List.mem_toArray]; exact List.mem_map_of_mem hp)]
  · rfl
theorem callOp_congr {ρ ρ' : Operand → Option AV} {op : Op} (h : ∀ x, x ∈ op.operands → ρ x = ρ' x) : callOp ρ op = callOp ρ' op := by
  unfold callOp
  split
  · rename_i f args ts
    have h1 : ρ f = ρ' f := h f (by simp [Op.operands, Call.operands])
    have h2 : normArgs ρ args.toList = normArgs ρ' args.toList := normArgs_congr _ fun x hx => h x (by simp [Op.operands, Call.operands]; exact .inr (by simpa using hx))
    rw [h1, h2]
  · rfl
theorem callOpR_kind {ρ : Operand → Option AV} {op : Op} {r : FuncId × List AV} (h : callOpR ti ρ op = some r) : lKind ti op = true := by
  unfold callOpR at h
  split at h
  case h_2 => cases h
  split at h
  · rename_i hc _ _; exact hc
  · rename_i hc _ _; exact hc
  · cases h
theorem awOp_congr {ρ ρ' : Operand → Option AV} {op : Op} {K : AV → List Ob → Prop} (hl : lKind ti op = false) (h : ∀ x, x ∈ op.operands → ρ x = ρ' x) (ha : awOp P ti ρ L K op) : awOp P ti ρ' L K op := by
  rcases ha with ha | ha | ⟨v, L', φ, hp, _⟩ | ha | ⟨g, es, t, k, ps, es', hc, _⟩ | ⟨g, k, ps, es', hc, _⟩ | ⟨σ, g, L0, as, L1, r, hc, _⟩ | ⟨v, L', hk, _⟩
  · rw [pop_congr h] at ha; exact .inl ha
  · rw [litOp_congr h] at ha; exact .inr (.inl ha)
  · rw [lop_kind hp] at hl; cases hl
  · rw [callOp_congr h] at ha; exact .inr (.inr (.inr (.inl ha)))
  · rw [callOpO_kind hc] at hl; cases hl
  · rw [callOpO_kind hc] at hl; cases hl
  · rw [callOpR_kind hc] at hl; cases hl
  · rw [hk.1] at hl; cases hl
/-- One value, and the objects as they were. -/
theorem awOp_val {ρ : Operand → Option AV} {op : Op} {K : AV → List Ob → Prop} (hl : lKind ti op = false) (ha : awOp P ti ρ L K op) : ∃ v, awOp P ti ρ L (fun v' L' => v' = v ∧ L' = L) op ∧ K v L := by
  rcases ha with ⟨v, φ, hp, hφ, hk⟩ | ⟨v, φ, hp, hφ, hk⟩ | ⟨v, L', φ, hp, _⟩ | ⟨g, ps, r, hc, hP, hk⟩ | ⟨g, es, t, k, ps, es', hc, _⟩ | ⟨g, k, ps, es', hc, _⟩ | ⟨σ, g, L0, as, L1, r, hc, _⟩ | ⟨v, L', hk, _⟩
  · exact ⟨v, .inl ⟨v, φ, hp, hφ, rfl, rfl⟩, hk⟩
  · exact ⟨v, .inr (.inl ⟨v, φ, hp, hφ, rfl, rfl⟩), hk⟩
  · rw [lop_kind hp] at hl; cases hl
  · exact ⟨r.av, .inr (.inr (.inr (.inl ⟨g, ps, r, hc, hP, rfl, rfl⟩))), hk⟩
  · rw [callOpO_kind hc] at hl; cases hl
  · rw [callOpO_kind hc] at hl; cases hl
  · rw [callOpR_kind hc] at hl; cases hl
  · rw [hk.1] at hl; cases hl
end
end Go.Proofs.YtnbnpnmkgemdeaaGreatDoor

namespace Go.Proofs.YtnbnpnmkgemdeaaGreatDoor
open Go.RowKit

def maskOf (acc : List Nat) (o : Oper) : Nat := o.after.toList.foldl (fun s e => if Region.binds .any e then s ||| 2 ^ e.on ||| acc.getD e.on 0 else s) 0
def masks : List Oper → List Nat → List Nat
  | [], acc => acc
  | o :: rest, acc => masks rest (acc ++ [maskOf acc o])
def namesOf (ops : Array Oper) (o : Oper) : List Tmp := o.looksAt ops ++ o.dst.toList
/-- What is asked of a region that draws its order: its first m operations turn no object; the others follow one another. -/
def drawOK (ti : TI) (l : List Oper) (m : Nat) : Bool :=
  let ms := masks l []
  (l.zipIdx.all fun p => p.1.after.toList.all fun e => !Region.binds .any e || decide (e.on < p.2)) &&
  ((l.take m).all fun o => !lKind ti o.op) &&
  ((List.range l.length).all fun i => decide (i < m) || (List.range i).all fun j => (ms.getD i 0).testBit j) &&
  ((l.take m).zipIdx.all fun p => (l.take m).zipIdx.all fun q => decide (p.2 = q.2) || (match p.1.dst with
    | some d => !(namesOf l.toArray q.1).contains d || (p.1.dst != q.1.dst && (if p.2 < q.2 then (ms.getD q.2 0).testBit p.2 else (ms.getD p.2 0).testBit q.2))
    | none => true)) &&
  decide (m ≤ l.length)

inductive Anc (l : List Oper) : Nat → Nat → Prop
  | edge {i : Nat} {o : Oper} {e : Edge} (h : l[i]? = some o) (he : e ∈ o.after.toList) (hb : Region.binds .any e = true) : Anc l i e.on
  | step {i j : Nat} {o : Oper} {e : Edge} (h : l[i]? = some o) (he : e ∈ o.after.toList) (hb : Region.binds .any e = true) (h2 : Anc l e.on j) : Anc l i j

theorem foldl_bit (acc : List Nat) (j : Nat) : ∀ (es : List Edge) (s : Nat), (es.foldl (fun s e => if Region.binds .any e then s ||| 2 ^ e.on ||| acc.getD e.on 0 else s) s).testBit j = true →
    s.testBit j = true ∨ ∃ e ∈ es, Region.binds .any e = true ∧ (e.on = j ∨ (acc.getD e.on 0).testBit j = true)
  | [], s, h => .inl h
  | e :: es, s, h => by
    rw [List.foldl_cons] at h
    rcases foldl_bit acc j es _ h with h1 | ⟨e', h1, h2⟩
    · by_cases hb : Region.binds .any e = true
      · rw [if_pos hb, Nat.testBit_or, Nat.testBit_or] at h1
        simp only [Bool.or_eq_true, Nat.testBit_two_pow, decide_eq_true_eq] at h1
        rcases h1 with (h1 | h1) | h1
        · exact .inl h1
        · exact .inr ⟨e, by simp, hb, .inl h1⟩
        · exact .inr ⟨e, by simp, hb, .inr h1⟩
      · rw [if_neg hb] at h1; exact .inl h1
    · exact .inr ⟨e', List.mem_cons_of_mem _ h1, h2⟩
theorem masks_spec (l : List Oper) : ∀ (rest : List Oper) (acc : List Nat), (∀ q, l[acc.length + q]? = rest[q]?) → (∀ i j, i < acc.length → (acc.getD i 0).testBit j = true → Anc l i j) →
    ∀ i j, ((masks rest acc).getD i 0).testBit j = true → Anc l i j
  | [], acc, _, h, i, j, hb => by
    by_cases hi : i < acc.length
    · exact h i j hi hb
    · have hb' : (acc.getD i 0).testBit j = true := hb
      rw [List.getD_eq_getElem?_getD, List.getElem?_eq_none (by omega)] at hb'
      simp at hb'
  | o :: rest, acc, hl, h, i, j, hb => by
    refine masks_spec l rest (acc ++ [maskOf acc o]) (fun q => ?_) (fun i j hi hb => ?_) i j hb
    · have := hl (q + 1)
      simp only [List.getElem?_cons_succ] at this
      rw [← this]; congr 1; simp; omega
    · by_cases hi2 : i < acc.length
      · rw [List.getD_eq_getElem?_getD, List.getElem?_append_left hi2, ← List.getD_eq_getElem?_getD] at hb
        exact h i j hi2 hb
      · have : i = acc.length := by simp at hi; omega
        subst this
        rw [List.getD_eq_getElem?_getD, List.getElem?_append_right (by omega)] at hb
        simp only [Nat.sub_self, List.getElem?_cons_zero, Option.getD_some] at hb
        have ho : l[acc.length]? = some o := by simpa using hl 0
        rcases foldl_bit acc j _ _ hb with h0 | ⟨e, he, hbd, h1 | h1⟩
        · simp at h0
        · subst h1; exact .edge ho he hbd
        · by_cases hlt : e.on < acc.length
          · exact .step ho he hbd (h e.on j hlt h1)
          · rw [List.getD_eq_getElem?_getD, List.getElem?_eq_none (by omega)] at h1
            simp at h1

/-- The checks, apart. -/
structure Draw (ti : TI) (l : List Oper) (m : Nat) : Prop where
  back : ∀ (i : Nat) o, l[i]? = some o → ∀ e ∈ o.after.toList, Region.binds .any e = true → e.on < i
  still : ∀ (i : Nat) o, i < m → l[i]? = some o → lKind ti o.op = false
  forced : ∀ i j, m ≤ i → i < l.length → j < i → Anc l i j
  apart : ∀ (i j : Nat) o o' d, i < m → j < m → i ≠ j → l[i]? = some o → l[j]? = some o' → o.dst = some d → d ∈ namesOf l.toArray o' → o'.dst ≠ some d ∧ (if i < j then Anc l j i else Anc l i j)
  le : m ≤ l.length
theorem draw_of {ti : TI} {l : List Oper} {m : Nat} (h : drawOK ti l m = true) : Draw ti l m := by
  unfold drawOK at h
  simp only [Bool.and_eq_true, decide_eq_true_eq] at h
  obtain ⟨⟨⟨⟨h1, h2⟩, h3⟩, h4⟩, h5⟩ := h
  have hspec := masks_spec l l [] (fun q => by simp) (fun i j hi => by simp at hi)
  have zi : ∀ {l' : List Oper} (i : Nat) o, l'[i]? = some o → (o, i) ∈ l'.zipIdx := by
    intro l' i o ho
    rw [List.mem_iff_getElem?]
    exact ⟨i, by simp [List.getElem?_zipIdx, ho]⟩
  refine ⟨fun i o ho e he hb => ?_, fun i o hi ho => ?_, fun i j hm hi hj => ?_, fun i j o o' d hi hj hne ho ho' hd hn => ?_, h5⟩
  · have := List.all_eq_true.1 (List.all_eq_true.1 h1 (o, i) (zi i o ho)) e he
    simpa [hb] using this
  · have hmem : o ∈ l.take m := List.mem_of_getElem? (show (l.take m)[i]? = some o by rw [List.getElem?_take, if_pos hi]; exact ho)
    have := List.all_eq_true.1 h2 o hmem
    simpa using this
  · have := List.all_eq_true.1 h3 i (by simpa using hi)
    simp only [Bool.or_eq_true, decide_eq_true_eq] at this
    rcases this with this | this
    · omega
    · exact hspec i j (List.all_eq_true.1 this j (by simpa using hj))
  · have m1 := zi (l' := l.take m) i o (by rw [List.getElem?_take, if_pos hi]; exact ho)
    have m2 := zi (l' := l.take m) j o' (by rw [List.getElem?_take, if_pos hj]; exact ho')
    have := List.all_eq_true.1 (List.all_eq_true.1 h4 _ m1) _ m2
    simp only [hne, decide_false, Bool.false_or, hd] at this
    have hc : (namesOf l.toArray o').contains d = true := by simpa using hn
    rw [hc] at this
    simp only [Bool.not_true, Bool.false_or, Bool.and_eq_true, bne_iff_ne, ne_eq] at this
    refine ⟨fun e => this.1 e.symm, ?_⟩
    by_cases hij : i < j
    · rw [if_pos hij] at this ⊢
      exact hspec j i this.2
    · rw [if_neg hij] at this ⊢
      exact hspec i j this.2

/-- The operations that are done: closed downward. -/
structure Done (l : List Oper) (listed : Array Bool) : Prop where
  size : listed.size = l.length
  down : ∀ (i : Nat) o, l[i]? = some o → listed[i]? = some true → ∀ e ∈ o.after.toList, Region.binds .any e = true → listed[e.on]? = some true
theorem Done.anc {l : List Oper} {listed : Array Bool} (h : Done l listed) {i j : Nat} (ha : Anc l i j) (hd : ∀ o, l[i]? = some o → ∀ e ∈ o.after.toList, Region.binds .any e = true → listed[e.on]? = some true) : listed[j]? = some true := by
  induction ha with
  | edge ho he hb => exact hd _ ho _ he hb
  | step ho he hb _ ih => exact ih fun o ho' => h.down _ o ho' (hd _ ho _ he hb)
theorem ready_iff {ti : TI} {l : List Oper} {m : Nat} {listed : Array Bool} (hD : Draw ti l m) (h : Done l listed) (i : Nat) : i ∈ Region.ready .any l.toArray listed ↔ i < l.length ∧ listed[i]? = some false ∧ ∀ o, l[i]? = some o → ∀ e ∈ o.after.toList, Region.binds .any e = true → listed[e.on]? = some true := by
  unfold Region.ready
  rw [List.mem_filter, List.mem_range]
  simp only [List.size_toArray, Bool.and_eq_true]
  constructor
  · rintro ⟨hi, h1, h2⟩
    have hlt : i < listed.size := by rw [h.size]; exact hi
    have e1 : listed[i]? = some listed[i] := Array.getElem?_eq_getElem hlt
    refine ⟨hi, ?_, fun o ho e he hb => ?_⟩
    · rw [Array.getD_eq_getD_getElem?, e1] at h1
      simp at h1
      rw [e1, h1]
    · simp only [List.getElem?_toArray, ho, Option.map_some, Option.getD_some] at h2
      have := Array.all_eq_true'.1 h2 e (by simpa using he)
      rw [hb] at this
      have hlt2 : e.on < listed.size := by rw [h.size]; have := hD.back i o ho e he hb; omega
      have e2 : listed[e.on]? = some listed[e.on] := Array.getElem?_eq_getElem hlt2
      rw [Array.getD_eq_getD_getElem?, e2] at this
      simp at this
      rw [e2, this]
  · rintro ⟨hi, h1, h2⟩
    refine ⟨hi, by simp [Array.getD_eq_getD_getElem?, h1], ?_⟩
    have ho : l[i]? = some l[i] := List.getElem?_eq_getElem hi
    simp only [List.getElem?_toArray, ho, Option.map_some, Option.getD_some]
    rw [Array.all_eq_true']
    intro e he
    by_cases hb : Region.binds .any e = true
    · simp [hb, Array.getD_eq_getD_getElem?, h2 _ ho e (by simpa using he) hb]
    · simp [hb]
theorem Done.put {l : List Oper} {listed : Array Bool} (h : Done l listed) {i : Nat} (hi : ∀ o, l[i]? = some o → ∀ e ∈ o.after.toList, Region.binds .any e = true → listed[e.on]? = some true) : Done l (listed.setIfInBounds i true) := by
  refine ⟨by simp [h.size], fun j o ho hj e he hb => ?_⟩
  have key : listed[e.on]? = some true := by
    by_cases hij : j = i
    · subst hij; exact hi o ho e he hb
    · rw [Array.getElem?_setIfInBounds_ne (Ne.symm hij)] at hj
      exact h.down j o ho hj e he hb
  by_cases hx : e.on = i
  · rw [hx, Array.getElem?_setIfInBounds_self_of_lt (by rw [hx] at key; exact (Array.getElem?_eq_some_iff.1 key).1)]
  · rw [Array.getElem?_setIfInBounds_ne (Ne.symm hx)]; exact key
end Go.Proofs.YtnbnpnmkgemdeaaGreatDoor

namespace Go.Proofs.YtnbnpnmkgemdeaaGreatDoor
open Go.RowKit

def gdv (ds : List (Option Tmp)) (T : Tm) : Option (Nat × Bool) → Option Bool
  | none => some true
  | some (j, want) => match ds[j]? with
    | some (some d) => match T.lookup d with
      | some (.one (.c (.bool b))) => some (b == want)
      | some .undef => some false
      | _ => none
    | _ => none
theorem gd_gdv {ds : List (Option Tmp)} {T : Tm} {A B : Prop} {g : Option (Nat × Bool)} (h : gd ds T A B g) : (gdv ds T g = some true ∧ A) ∨ (gdv ds T g = some false ∧ B) := by
  cases g with
  | none => exact .inl ⟨rfl, h⟩
  | some p =>
    obtain ⟨j, want⟩ := p
    simp only [gd] at h
    simp only [gdv]
    split at h
    · rename_i d hd
      simp only [hd]
      split at h
      · rename_i b hb
        simp only [hb]
        by_cases hbw : b = want
        · exact .inl ⟨by simp [hbw], h.1 hbw⟩
        · exact .inr ⟨by simp [hbw], h.2 (by cases b <;> cases want <;> simp_all)⟩
      · rename_i hb
        simp only [hb]
        exact .inr ⟨by simp, h⟩
      · exact h.elim
    · exact h.elim

def tat : List Oper → List AV → Tm → Nat → Tm
  | o :: l, v :: vs, T, i + 1 => tat l vs (putT T o.dst v) i
  | _, _, T, _ => T
theorem putT_lookup_ne {T : Tm} {d : Option Tmp} {v : AV} {t : Nat} (h : d ≠ some t) : (putT T d v).lookup t = T.lookup t := by
  cases d with
  | none => rfl
  | some d =>
    have : (t == d) = false := by simp; intro e; exact h (by rw [e])
    simp [putT, List.lookup_cons, this]
theorem tat_old {t : Nat} : ∀ (l : List Oper) (vs : List AV) (T : Tm) (i : Nat), (∀ j o, j < i → l[j]? = some o → o.dst ≠ some t) → (tat l vs T i).lookup t = T.lookup t
  | o :: l, v :: vs, T, i + 1, h => by
    rw [tat, tat_old l vs _ i fun j o' hj ho => h (j + 1) o' (by omega) (by simpa using ho), putT_lookup_ne (h 0 o (by omega) rfl)]
  | [], _, _, _, _ => by simp [tat]
  | _ :: _, [], _, _, _ => by simp [tat]
  | _ :: _, _ :: _, _, 0, _ => by simp [tat]
theorem tat_new {t : Nat} : ∀ (l : List Oper) (vs : List AV) (T : Tm) (i j : Nat) (o : Oper) (v : AV), j < i → l[j]? = some o → o.dst = some t → vs[j]? = some v → (∀ k o', j < k → k < i → l[k]? = some o' → o'.dst ≠ some t) → (∀ k, k < i → k ≤ j → k < vs.length) → (tat l vs T i).lookup t = some v
  | [], _, _, _, _, _, _, _, h, _, _, _, _ => by simp at h
  | _ :: _, [], _, _, _, _, _, _, _, _, h, _, _ => by simp at h
  | _ :: _, _ :: _, _, 0, _, _, _, h, _, _, _, _, _ => by omega
  | o0 :: l, v0 :: vs, T, i + 1, 0, o, v, _, ho, hd, hv, hk, _ => by
    simp at ho hv; subst ho hv
    rw [tat, tat_old l vs _ i fun j o' hj ho' => hk (j + 1) o' (by omega) (by omega) (by simpa using ho'), hd]
    simp [putT, List.lookup_cons]
  | o0 :: l, v0 :: vs, T, i + 1, j + 1, o, v, hj, ho, hd, hv, hk, hl => by
    rw [tat]
    exact tat_new l vs _ i j o v (by omega) (by simpa using ho) hd (by simpa using hv) (fun k o' h1 h2 h3 => hk (k + 1) o' (by omega) (by omega) (by simpa using h3)) (fun k h1 h2 => by have := hl (k + 1) (by omega) (by omega); simpa using this)

section
variable {P : Program} {ti : TI} {B : Nat → Prop} {N n0 : Nat} {γ : List Gh} {L : List Ob}

/-- What the text's own order yields, for the first m operations. -/
theorem trace {ds : List (Option Tmp)} {K : Tm → List Ob → Prop} : ∀ (m : Nat) (l : List Oper) (T : Tm), m ≤ l.length → (∀ (i : Nat) o, i < m → l[i]? = some o → lKind ti o.op = false) → awOps P ti N ds K l T L →
    ∃ vs : List AV, vs.length = m ∧ (∀ (i : Nat) o, i < m → l[i]? = some o → dOK N o.dst ∧ ∃ v, vs[i]? = some v ∧
      ((gdv ds (tat l vs T i) o.guard = some true ∧ awOp P ti (look (tat l vs T i)) L (fun v' L' => v' = v ∧ L' = L) o.op) ∨ (gdv ds (tat l vs T i) o.guard = some false ∧ v = .undef))) ∧
      awOps P ti N ds K (l.drop m) (tat l vs T m) L
  | 0, l, T, _, _, h => ⟨[], rfl, fun i o hi => by omega, by cases l <;> simpa [tat] using h⟩
  | m + 1, [], T, hm, _, h => by simp at hm
  | m + 1, o :: l, T, hm, hp, h => by
    obtain ⟨hd, hg⟩ := h
    have go : ∀ v, ((gdv ds T o.guard = some true ∧ awOp P ti (look T) L (fun v' L' => v' = v ∧ L' = L) o.op) ∨ (gdv ds T o.guard = some false ∧ v = .undef)) → awOps P ti N ds K l (putT T o.dst v) L → ∃ vs : List AV, vs.length = m + 1 ∧ (∀ (i : Nat) o', i < m + 1 → (o :: l)[i]? = some o' → dOK N o'.dst ∧ ∃ v, vs[i]? = some v ∧
      ((gdv ds (tat (o :: l) vs T i) o'.guard = some true ∧ awOp P ti (look (tat (o :: l) vs T i)) L (fun v' L' => v' = v ∧ L' = L) o'.op) ∨ (gdv ds (tat (o :: l) vs T i) o'.guard = some false ∧ v = .undef))) ∧
      awOps P ti N ds K ((o :: l).drop (m + 1)) (tat (o :: l) vs T (m + 1)) L := by
      intro v hv hr
      obtain ⟨vs, h1, h2, h3⟩ := trace m l (putT T o.dst v) (by simpa using hm) (fun i o' hi ho => hp (i + 1) o' (by omega) (by simpa using ho)) hr
      refine ⟨v :: vs, by simp [h1], fun i o' hi ho => ?_, by simpa [tat] using h3⟩
      cases i with
      | zero =>
        simp at ho; subst ho
        exact ⟨hd, v, rfl, by simpa [tat] using hv⟩
      | succ i =>
        obtain ⟨g1, v', g2, g3⟩ := h2 i o' (by omega) (by simpa using ho)
        exact ⟨g1, v', by simpa using g2, by simpa [tat] using g3⟩
    rcases gd_gdv hg with ⟨h1, h2⟩ | ⟨h1, h2⟩
    · obtain ⟨v, g1, g2⟩ := awOp_val (hp 0 o (by omega) rfl) h2
      exact go v (.inl ⟨h1, g1⟩) g2
    · exact go .undef (.inr ⟨h1, rfl⟩) h2

theorem gdv_sound {ops : Array Oper} {ds : List (Option Tmp)} (hds : ∀ j : Nat, (ops[j]?).map (·.dst) = ds[j]?) {T : Tm} {R : PH} {a : Act} {o : Oper} {b : Bool} (hs : ∀ d x, d ∈ o.looksAt ops → T.lookup d = some x → ∃ u, a.tmps[d]? = some u ∧ x.rep R γ L u) (h : gdv ds T o.guard = some b) : Region.wanted o (yielded ops a.tmps) = b := by
  cases hg : o.guard with
  | none => rw [hg] at h; injection h with h; subst h; simp [Region.wanted, hg]
  | some p =>
    obtain ⟨j, want⟩ := p
    rw [hg] at h
    simp only [gdv] at h
    split at h
    · rename_i d hd0
      have hd : (ops[j]?).bind (·.dst) = some d := by
        have := hds j
        rw [hd0] at this
        cases ho : ops[j]? with
        | none => simp [ho] at this
        | some o' => simpa [ho] using this
      have hmem : d ∈ o.looksAt ops := by
        unfold Oper.looksAt
        rw [hg]
        simp [hd]
      split at h
      · rename_i b' hb
        injection h with h; subst h
        obtain ⟨u, h1, h2⟩ := hs d _ hmem hb
        cases h2
        have hy : yielded ops a.tmps j = some b' := by simp [yielded, hd, h1]
        simp [Region.wanted, hg, hy]
      · rename_i hb
        injection h with h; subst h
        obtain ⟨u, h1, h2⟩ := hs d _ hmem hb
        have h2' : u = Go.undef := h2
        subst h2'
        have hy : yielded ops a.tmps j = none := by simp [yielded, hd, h1, Go.undef]
        simp [Region.wanted, hg, hy]
      · cases h
    · cases h

/-- Behind the first part: one operation after the other. -/
theorem suffix_any (hti : TIok P ti) {l : List Oper} {m : Nat} {ds : List (Option Tmp)} (hds : l.map (·.dst) = ds) (hD : Draw ti l m) {K : Tm → List Ob → Prop} {Q : Exit → Act → World → Prop} : ∀ (q s fuel : Nat) (listed : Array Bool) (R : PH) (γ : List Gh) (L : List Ob) (T : Tm) (a : Act) (w : World), s + q = l.length → q ≤ fuel → m ≤ s → Done l listed →
    (∀ i, i < s → listed[i]? = some true) → (∀ i, s ≤ i → i < l.length → listed[i]? = some false) → awOps P ti N ds K (l.drop s) T L → Inv B R γ L w → TRep N R γ L T a →
    (∀ T' L' R' γ' w' a', K T' L' → Inv B R' γ' L' w' → TRep N R' γ' L' T' a' → Ext B R R' w w' → Mv R R' γ γ' L L' → Q .normal a' w') → wpAny P .any l.toArray Q fuel listed a w
  | 0, s, fuel, listed, R, γ, L, T, a, w, hs, _, _, hdone, htrue, _, h, hi, hT, hQ => by
    have hs' : s = l.length := by omega
    subst hs'
    rw [List.drop_of_length_le (Nat.le_refl _)] at h
    have hq := hQ T L R γ w a h hi hT (Ext.refl _ _ _) Mv.refl
    have hnil : Region.ready .any l.toArray listed = [] := by
      apply List.eq_nil_iff_forall_not_mem.2
      intro i hmem
      obtain ⟨h1, h2, _⟩ := (ready_iff hD hdone i).1 hmem
      rw [htrue i h1] at h2; cases h2
    cases fuel with
    | zero => exact ⟨hnil, hq⟩
    | succ f => exact ⟨fun _ => hq, fun i hmem => by rw [hnil] at hmem; cases hmem⟩
  | q + 1, s, fuel, listed, R, γ, L, T, a, w, hs, hf, hm, hdone, htrue, hfalse, h, hi, hT, hQ => by
    obtain ⟨f, rfl⟩ : ∃ f, fuel = f + 1 := ⟨fuel - 1, by omega⟩
    have hlt : s < l.length := by omega
    have ho : l[s]? = some l[s] := List.getElem?_eq_getElem hlt
    rw [List.drop_eq_getElem_cons hlt] at h
    obtain ⟨hd, hg⟩ := h
    have hedges : ∀ o, l[s]? = some o → ∀ e ∈ o.after.toList, Region.binds .any e = true → listed[e.on]? = some true := fun o ho e he hb => htrue _ (hD.back s o ho e he hb)
    have hsr : s ∈ Region.ready .any l.toArray listed := (ready_iff hD hdone s).2 ⟨hlt, hfalse s (Nat.le_refl _) hlt, hedges⟩
    refine ⟨fun hnil => (by rw [hnil] at hsr; cases hsr), fun i hmem => ?_⟩
    obtain ⟨h1, h2, h3⟩ := (ready_iff hD hdone i).1 hmem
    have his : i = s := by
      rcases Nat.lt_trichotomy i s with hlt' | heq | hgt
      · rw [htrue i hlt'] at h2; cases h2
      · exact heq
      · have := hdone.anc (hD.forced i s (by omega) h1 hgt) h3
        rw [hfalse s (Nat.le_refl _) hlt] at this; cases this
    subst his
    have hdone' := hdone.put h3
    have htrue' : ∀ j, j < i + 1 → (listed.setIfInBounds i true)[j]? = some true := by
      intro j hj
      by_cases hji : j = i
      · subst hji; exact Array.getElem?_setIfInBounds_self_of_lt (by rw [hdone.size]; exact hlt)
      · rw [Array.getElem?_setIfInBounds_ne (Ne.symm hji)]; exact htrue j (by omega)
    have hfalse' : ∀ j, i + 1 ≤ j → j < l.length → (listed.setIfInBounds i true)[j]? = some false := by
      intro j hj hl
      rw [Array.getElem?_setIfInBounds_ne (by omega)]; exact hfalse j (by omega) hl
    unfold wpOp
    simp only [List.getElem?_toArray, ho]
    rcases gd_sound (dsts hds) hT hg with ⟨hw, hA⟩ | ⟨hw, hB⟩
    · rw [if_pos hw]
      refine .inl (awOp_sound hti hi (fun x v hx => look_rep hT hx) hA fun v L' R' γ' w' u hk k1 k2 k3 k4 => ?_)
      exact suffix_any hti hds hD q (i + 1) f _ R' γ' L' _ _ w' (by omega) (by omega) (by omega) hdone' htrue' hfalse' hk k1 (trep_put (hT.mv k3) hd k4) fun T2 L2 R2 γ2 w2 a2 q1 q2 q3 q4 q5 => hQ T2 L2 R2 γ2 w2 a2 q1 q2 q3 (k2.trans q4) (k3.trans q5)
    · rw [if_neg (by rw [hw]; decide)]
      exact suffix_any hti hds hD q (i + 1) f _ R γ L _ _ w (by omega) (by omega) (by omega) hdone' htrue' hfalse' hB hi (trep_put hT hd rfl) hQ

theorem countP_lt {α : Type} {p q : α → Bool} : ∀ (l : List α), (∀ x ∈ l, q x = true → p x = true) → (∃ x ∈ l, p x = true ∧ q x = false) → l.countP q < l.countP p
  | [], _, ⟨x, hx, _⟩ => by cases hx
  | y :: l, h, ⟨x, hx, h1, h2⟩ => by
    have hle : l.countP q ≤ l.countP p := List.countP_mono_left fun z hz => h z (List.mem_cons_of_mem _ hz)
    rw [List.countP_cons, List.countP_cons]
    rcases List.mem_cons.1 hx with rfl | hx
    · rw [h1, h2]; simp; omega
    · have := countP_lt l (fun z hz => h z (List.mem_cons_of_mem _ hz)) ⟨x, hx, h1, h2⟩
      have hy := h y (by simp)
      cases hq : q y <;> cases hp : p y <;> simp_all <;> omega

def cntB (n : Nat) (listed : Array Bool) : Nat := (List.range n).countP fun i => listed[i]? == some false

structure Mid (l : List Oper) (m N : Nat) (B : Nat → Prop) (γ : List Gh) (L : List Ob) (T : Tm) (vs : List AV) (R0 : PH) (γ0 : List Gh) (w0 : World) (listed : Array Bool) (R : PH) (a : Act) (w : World) : Prop where
  inv : Inv B R γ L w
  size : a.tmps.size = N
  defers : a.defers = []
  done : Done l listed
  late : ∀ i, m ≤ i → i < l.length → listed[i]? = some false
  fresh : ∀ (i : Nat) o d v, i < m → listed[i]? = some true → l[i]? = some o → o.dst = some d → vs[i]? = some v → ∃ u, a.tmps[d]? = some u ∧ v.rep R γ L u
  old : ∀ t x, T.lookup t = some x → (∀ (i : Nat) o, i < m → listed[i]? = some true → l[i]? = some o → o.dst ≠ some t) → ∃ u, a.tmps[t]? = some u ∧ x.rep R γ L u
  ext : Ext B R0 R w0 w
  mv : Mv R0 R γ0 γ L L

open Classical in
theorem prefix_any (hti : TIok P ti) {l : List Oper} {m : Nat} {ds : List (Option Tmp)} (hds : l.map (·.dst) = ds) (hD : Draw ti l m) {K : Tm → List Ob → Prop} {Q : Exit → Act → World → Prop} {T : Tm} {vs : List AV} {R0 : PH} {γ0 : List Gh} {w0 : World} (hvl : vs.length = m)
    (htr : ∀ (i : Nat) o, i < m → l[i]? = some o → dOK N o.dst ∧ ∃ v, vs[i]? = some v ∧
      ((gdv ds (tat l vs T i) o.guard = some true ∧ awOp P ti (look (tat l vs T i)) L (fun v' L' => v' = v ∧ L' = L) o.op) ∨ (gdv ds (tat l vs T i) o.guard = some false ∧ v = .undef)))
    (hsuf : awOps P ti N ds K (l.drop m) (tat l vs T m) L)
    (hQ : ∀ T' L' R' γ' w' a', K T' L' → Inv B R' γ' L' w' → TRep N R' γ' L' T' a' → Ext B R0 R' w0 w' → Mv R0 R' γ0 γ' L L' → Q .normal a' w') :
    ∀ (fuel : Nat) (listed : Array Bool) (R : PH) (γ : List Gh) (a : Act) (w : World), cntB l.length listed ≤ fuel → Mid l m N B γ L T vs R0 γ0 w0 listed R a w → wpAny P .any l.toArray Q fuel listed a w := by
  have uniq : ∀ (i j : Nat) o o' d, i < m → j < m → l[i]? = some o → l[j]? = some o' → o.dst = some d → o'.dst = some d → i = j := by
    intro i j o o' d hi hj ho ho' hd hd'
    by_cases hne : i = j
    · exact hne
    · exfalso
      exact (hD.apart i j o o' d hi hj hne ho ho' hd (by unfold namesOf; simp [hd'])).1 hd'
  -- what the slots hold, as the text's own order has them, at an operation that is ready
  have slots : ∀ (listed : Array Bool) (R : PH) (γ : List Gh) (a : Act) (w : World), Mid l m N B γ L T vs R0 γ0 w0 listed R a w → ∀ (i : Nat) o, i < m → l[i]? = some o → listed[i]? = some false →
      (∀ o', l[i]? = some o' → ∀ e ∈ o'.after.toList, Region.binds .any e = true → listed[e.on]? = some true) → ∀ t x, t ∈ namesOf l.toArray o → (tat l vs T i).lookup t = some x → ∃ u, a.tmps[t]? = some u ∧ x.rep R γ L u := by
    intro listed R γ a w M i o hi ho hli hed t x hmem hx
    by_cases hex : ∃ (j : Nat) (o' : Oper), j < i ∧ l[j]? = some o' ∧ o'.dst = some t
    · obtain ⟨j, o', hj, ho', hd'⟩ := hex
      have hanc := (hD.apart j i o' o t (by omega) hi (by omega) ho' ho hd' hmem).2
      rw [if_pos hj] at hanc
      have hlj := M.done.anc hanc hed
      have hjv : vs[j]? = some vs[j] := List.getElem?_eq_getElem (by omega)
      have := tat_new l vs T i j o' vs[j] hj ho' hd' hjv (fun k o2 h1 h2 h3 hd2 => by
        have := uniq j k o' o2 t (by omega) (by omega) ho' h3 hd' hd2
        omega) (fun k _ _ => by omega)
      rw [hx] at this
      injection this with this
      subst this
      exact M.fresh j o' t _ (by omega) hlj ho' hd' hjv
    · have hno : ∀ j o', j < i → l[j]? = some o' → o'.dst ≠ some t := fun j o' h1 h2 h3 => hex ⟨j, o', h1, h2, h3⟩
      rw [tat_old l vs T i hno] at hx
      refine M.old t x hx fun k o' hk hlk hok hdk => ?_
      by_cases hki : k < i
      · exact hno k o' hki hok hdk
      · by_cases hke : k = i
        · subst hke; rw [hli] at hlk; cases hlk
        · have hanc := (hD.apart k i o' o t hk hi hke hok ho hdk hmem).2
          rw [if_neg hki] at hanc
          have := M.done.anc hanc (fun o2 h2 => M.done.down k o2 h2 hlk)
          rw [hli] at this; cases this
  intro fuel
  induction fuel with
  | zero =>
    intro listed R γ a w hc M
    have hall : ∀ i, i < l.length → listed[i]? = some true := by
      intro i hi
      have hlt : i < listed.size := by rw [M.done.size]; exact hi
      cases hb : listed[i] with
      | true => rw [Array.getElem?_eq_getElem hlt, hb]
      | false =>
        exfalso
        have : 0 < cntB l.length listed := List.countP_pos_iff.2 ⟨i, by simpa using hi, by rw [Array.getElem?_eq_getElem hlt, hb]; rfl⟩
        omega
    have hm : m = l.length := by
      rcases Nat.lt_or_ge m l.length with h | h
      · have := M.late m (Nat.le_refl _) h; rw [hall m h] at this; cases this
      · have := hD.le; omega
    refine suffix_any hti hds hD 0 m 0 listed R γ L (tat l vs T m) a w (by omega) (Nat.le_refl _) (Nat.le_refl _) M.done (fun i hi => hall i (by omega)) M.late hsuf M.inv ⟨M.size, M.defers, fun t x hx => ?_⟩ (fun T' L' R' γ' w' a' q1 q2 q3 q4 q5 => hQ T' L' R' γ' w' a' q1 q2 q3 (M.ext.trans q4) (M.mv.trans q5))
    by_cases hex : ∃ (j : Nat) (o' : Oper), j < m ∧ l[j]? = some o' ∧ o'.dst = some t
    · obtain ⟨j, o', hj, ho', hd'⟩ := hex
      have hjv : vs[j]? = some vs[j] := List.getElem?_eq_getElem (by omega)
      have := tat_new l vs T m j o' vs[j] hj ho' hd' hjv (fun k o2 h1 h2 h3 hd2 => by
        have := uniq j k o' o2 t (by omega) (by omega) ho' h3 hd' hd2
        omega) (fun k _ _ => by omega)
      rw [hx] at this
      injection this with this
      subst this
      exact M.fresh j o' t _ hj (hall j (by omega)) ho' hd' hjv
    · have hno : ∀ j o', j < m → l[j]? = some o' → o'.dst ≠ some t := fun j o' h1 h2 h3 => hex ⟨j, o', h1, h2, h3⟩
      rw [tat_old l vs T m hno] at hx
      exact M.old t x hx fun k o' hk _ hok hdk => hno k o' hk hok hdk
  | succ fuel ih =>
    intro listed R γ a w hc M
    by_cases hfull : ∀ i, i < m → listed[i]? = some true
    · have hq : l.length - m ≤ fuel + 1 := by
        have h1 : (l.length - m) ≤ cntB l.length listed := by
          have h2 : ((List.range l.length).filter fun i => listed[i]? == some false).length = cntB l.length listed := by unfold cntB; rw [List.countP_eq_length_filter]
          have h3 : (List.range' m (l.length - m)).length ≤ ((List.range l.length).filter fun i => listed[i]? == some false).length := by
            refine List.Nodup.length_le_of_subset (List.nodup_range' ..) ?_
            intro i hi
            rw [List.mem_range'_1] at hi
            rw [List.mem_filter]
            exact ⟨by simp; omega, by rw [M.late i (by omega) (by omega)]; rfl⟩
          rw [List.length_range'] at h3
          omega
        omega
      refine suffix_any hti hds hD (l.length - m) m (fuel + 1) listed R γ L (tat l vs T m) a w (by have := hD.le; omega) hq (Nat.le_refl _) M.done hfull M.late hsuf M.inv ⟨M.size, M.defers, fun t x hx => ?_⟩ (fun T' L' R' γ' w' a' q1 q2 q3 q4 q5 => hQ T' L' R' γ' w' a' q1 q2 q3 (M.ext.trans q4) (M.mv.trans q5))
      by_cases hex : ∃ (j : Nat) (o' : Oper), j < m ∧ l[j]? = some o' ∧ o'.dst = some t
      · obtain ⟨j, o', hj, ho', hd'⟩ := hex
        have hjv : vs[j]? = some vs[j] := List.getElem?_eq_getElem (by omega)
        have := tat_new l vs T m j o' vs[j] hj ho' hd' hjv (fun k o2 h1 h2 h3 hd2 => by
          have := uniq j k o' o2 t (by omega) (by omega) ho' h3 hd' hd2
          omega) (fun k _ _ => by omega)
        rw [hx] at this
        injection this with this
        subst this
        exact M.fresh j o' t _ hj (hfull j hj) ho' hd' hjv
      · have hno : ∀ j o', j < m → l[j]? = some o' → o'.dst ≠ some t := fun j o' h1 h2 h3 => hex ⟨j, o', h1, h2, h3⟩
        rw [tat_old l vs T m hno] at hx
        exact M.old t x hx fun k o' hk _ hok hdk => hno k o' hk hok hdk
    · -- some operation of the first part is not done: only such are ready
      have hbool : ∀ i, i < l.length → listed[i]? = some true ∨ listed[i]? = some false := by
        intro i hi
        have hlt : i < listed.size := by rw [M.done.size]; exact hi
        rw [Array.getElem?_eq_getElem hlt]
        cases listed[i] <;> simp
      have hmle := hD.le
      refine ⟨fun hnil => ?_, fun i hmem => ?_⟩
      · exfalso
        apply hfull
        intro i
        induction i using Nat.strongRecOn with
        | ind i ihi =>
          intro hi
          rcases hbool i (by omega) with h | h
          · exact h
          · exfalso
            have : i ∈ Region.ready .any l.toArray listed := (ready_iff hD M.done i).2 ⟨by omega, h, fun o ho e he hb => ihi e.on (hD.back i o ho e he hb) (by have := hD.back i o ho e he hb; omega)⟩
            rw [hnil] at this; cases this
      · obtain ⟨h1, h2, h3⟩ := (ready_iff hD M.done i).1 hmem
        have him : i < m := by
          rcases Nat.lt_or_ge i m with h | h
          · exact h
          · exfalso
            apply hfull
            intro j hj
            exact M.done.anc (hD.forced i j h h1 (by omega)) h3
        have ho : l[i]? = some l[i] := List.getElem?_eq_getElem h1
        obtain ⟨hd, v, hv, hstep⟩ := htr i _ him ho
        have hsl := slots listed R γ a w M i _ him ho h2 h3
        have hcnt : cntB l.length (listed.setIfInBounds i true) ≤ fuel := by
          have : cntB l.length (listed.setIfInBounds i true) < cntB l.length listed := by
            unfold cntB
            refine countP_lt _ (fun x hx hq => ?_) ⟨i, by simpa using h1, by rw [h2]; rfl, by rw [Array.getElem?_setIfInBounds_self_of_lt (by rw [M.done.size]; exact h1)]; rfl⟩
            by_cases hxi : x = i
            · subst hxi; rw [h2]; rfl
            · rw [Array.getElem?_setIfInBounds_ne (Ne.symm hxi)] at hq; exact hq
          omega
        have hput : ∀ (R' : PH) (γ' : List Gh) (w' : World) (u : Value), Inv B R' γ' L w' → Ext B R R' w w' → Mv R R' γ γ' L L → v.rep R' γ' L u → Mid l m N B γ' L T vs R0 γ0 w0 (listed.setIfInBounds i true) R' (a.put l[i].dst u) w' := by
          intro R' γ' w' u hi' he' hmv hu
          have hsz : (a.put l[i].dst u).tmps.size = N := by cases hdd : l[i].dst <;> simp [Act.put, M.size]
          have keep : ∀ t, l[i].dst ≠ some t → (a.put l[i].dst u).tmps[t]? = a.tmps[t]? := by
            intro t ht
            cases hdd : l[i].dst with
            | none => rfl
            | some d => simp only [Act.put]; rw [Array.getElem?_setIfInBounds_ne (by intro e; exact ht (by rw [hdd, e]))]
          refine ⟨hi', hsz, by cases hdd : l[i].dst <;> exact M.defers, M.done.put h3, fun j hj hjl => ?_, fun j o d v' hj hlj hoj hdj hvj => ?_, fun t x hx hno => ?_, M.ext.trans he', M.mv.trans hmv⟩
          · rw [Array.getElem?_setIfInBounds_ne (by omega)]; exact M.late j hj hjl
          · by_cases hji : j = i
            · subst hji
              rw [ho] at hoj; injection hoj with hoj; subst hoj
              rw [hv] at hvj; injection hvj with hvj; subst hvj
              have hdN : d < N := by have := hd; rw [hdj] at this; exact this
              refine ⟨u, ?_, hu⟩
              rw [hdj]
              simp only [Act.put]
              exact Array.getElem?_setIfInBounds_self_of_lt (by rw [M.size]; exact hdN)
            · rw [Array.getElem?_setIfInBounds_ne (Ne.symm hji)] at hlj
              obtain ⟨u', g1, g2⟩ := M.fresh j o d v' hj hlj hoj hdj hvj
              refine ⟨u', ?_, AV.mv hmv g2⟩
              rw [keep d (fun e => hji (uniq j i o _ d hj him hoj ho hdj e))]
              exact g1
          · have hni : l[i].dst ≠ some t := hno i _ him (Array.getElem?_setIfInBounds_self_of_lt (by rw [M.done.size]; exact h1)) ho
            obtain ⟨u', g1, g2⟩ := M.old t x hx fun k o hk hlk hok => hno k o hk (by
              by_cases hki : k = i
              · subst hki; rw [h2] at hlk; cases hlk
              · rw [Array.getElem?_setIfInBounds_ne (Ne.symm hki)]; exact hlk) hok
            exact ⟨u', by rw [keep t hni]; exact g1, AV.mv hmv g2⟩
        unfold wpOp
        simp only [List.getElem?_toArray, ho]
        have hlook : ∀ d x, d ∈ l[i].looksAt l.toArray → (tat l vs T i).lookup d = some x → ∃ u, a.tmps[d]? = some u ∧ x.rep R γ L u := fun d x hd hx => hsl d x (by unfold namesOf; exact List.mem_append_left _ hd) hx
        rcases hstep with ⟨hw, hop⟩ | ⟨hw, rfl⟩
        · rw [if_pos (gdv_sound (dsts hds) hlook hw)]
          refine .inl ?_
          -- the operands as the text's own order has them
          have hop' := awOp_congr (ρ' := fun x => if x ∈ l[i].op.operands then look (tat l vs T i) x else none) (hD.still i _ him ho) (fun x hx => by simp only [hx, if_true]) hop
          refine awOp_sound hti M.inv (fun x v' hx => ?_) hop' ?_
          · by_cases hxo : x ∈ l[i].op.operands
            · simp only [hxo, if_true] at hx
              cases x with
              | tmp t =>
                obtain ⟨u, g1, g2⟩ := hlook t v' (by unfold Oper.looksAt; exact List.mem_append_left _ (List.mem_filterMap.2 ⟨.tmp t, by simpa using hxo, rfl⟩)) hx
                have : a.eval (.tmp t) = u := by simp [Act.eval, Array.getD_eq_getD_getElem?, g1]
                rw [this]; exact g2
              | const c => exact AV.ofVal_rep hx
              | global g => cases hx
              | func f =>
                injection hx with hx; subst hx
                exact .fn f #[] [] rfl (fun j v x hv => by simp at hv)
            · simp only [hxo, if_false] at hx; cases hx
          · rintro v' L' R' γ' w' u ⟨rfl, rfl⟩ k1 k2 k3 k4
            exact ih _ R' γ' _ w' hcnt (hput R' γ' w' u k1 k2 k3 k4)
        · rw [if_neg (by rw [gdv_sound (dsts hds) hlook hw]; decide)]
          exact ih _ R γ _ w hcnt (hput R γ w Go.undef M.inv (Ext.refl _ _ _) Mv.refl rfl)

/-- A region that draws its order. -/
theorem aw_draw (hti : TIok P ti) {Q : AX → Tm → List Ob → Prop} {T : Tm} {id : Nat} {l : List Oper} (m : Nat) (ds : List (Option Tmp)) (hds : l.map (·.dst) = ds) (hmix : P.follows .mixedOrders = true) (hc : drawOK ti l m = true) (h : awOps P ti N ds (Q .normal) l T L) : Aw P N n0 (.region id l.toArray true) Q T L := by
  intro hn B R γ w a hi hT
  have hD := draw_of hc
  obtain ⟨vs, h1, h2, h3⟩ := trace m l T hD.le hD.still h
  have hiD : Inv B R γ L { w with drawn := w.drawn + 1 } := ⟨hi.len, hi.val, fun id x g hx hg => (hi.obj id x g hx hg).mv Mv.refl (fun _ _ => rfl) (fun _ _ _ h => h), hi.inj, hi.new, hi.bsz⟩
  have heD : Ext B R R w { w with drawn := w.drawn + 1 } := ⟨⟨rfl, rfl, rfl, Nat.le_refl _, fun _ _ => rfl⟩, PH.sub_refl _, fun _ _ _ => rfl⟩
  refine wp_region_any hmix ?_
  have hsz : l.toArray.size = l.length := by simp
  rw [hsz]
  refine prefix_any hti hds (B := B) hD h1 h2 h3 (R0 := R) (γ0 := γ) (w0 := w) ?_ l.length (Array.replicate l.length false) R γ a { w with drawn := w.drawn + 1 } ?_ ?_
  · intro T' L' R' γ' w' a' q1 q2 q3 q4 q5
    exact ⟨.normal, T', L', R', γ', rfl, q1, q2, q3, q4, MvN.of hn q5⟩
  · unfold cntB
    exact Nat.le_trans List.countP_le_length (by simp)
  · have hf : ∀ i : Nat, i < l.length → (Array.replicate l.length false)[i]? = some false := fun i hi => by simp [hi]
    have ht : ∀ i : Nat, (Array.replicate l.length false)[i]? ≠ some true := by
      intro i e
      by_cases hi : i < l.length
      · rw [hf i hi] at e; cases e
      · rw [Array.getElem?_eq_none (by simp; omega)] at e; cases e
    exact ⟨hiD, hT.size, hT.defers, ⟨by simp, fun i o _ e => absurd e (ht i)⟩, fun i _ hi => hf i hi, fun i o d v _ e => absurd e (ht i), fun t x hx _ => hT.slot t x hx, heD, Mv.refl⟩
end
end Go.Proofs.YtnbnpnmkgemdeaaGreatDoor

namespace Go.Proofs.YtnbnpnmkgemdeaaGreatDoor
open Go.RowKit

/-- The value does not hang on the objects. -/
def insens : Op → Bool
  | .load _ _ => false
  | .fieldAddr _ _ _ => false
  | .indexAddr _ _ _ => false
  | .nilCheck _ => false
  | .slice _ _ _ _ _ => false
  | .call { callee := .builtin .len, .. } => false
  | _ => true
def isLoad : Op → Bool
  | .load _ _ => true
  | _ => false
/-- The quiet operation i may pass the operation c. -/
def okX (ti : TI) (i c : Nat) (oi oc : Op) : Bool :=
  insens oi || (ti.soft && match sk oc with
    | 1 => decide (i < c)
    | 2 => true
    | 3 => !isLoad oi
    | 4 => true
    | _ => false)
def drawOK2 (ti : TI) (l : List Oper) : Bool :=
  let ms := masks l []
  (l.zipIdx.all fun p => p.1.after.toList.all fun e => !Region.binds .any e || decide (e.on < p.2)) &&
  (l.zipIdx.all fun p => !lKind ti p.1.op || l.zipIdx.all fun q => !lKind ti q.1.op || decide (p.2 ≤ q.2) || (ms.getD p.2 0).testBit q.2) &&
  (l.zipIdx.all fun p => l.zipIdx.all fun q => decide (p.2 = q.2) || (match p.1.dst with
    | some d => !(namesOf l.toArray q.1).contains d || (p.1.dst != q.1.dst && (if p.2 < q.2 then (ms.getD q.2 0).testBit p.2 else (ms.getD p.2 0).testBit q.2))
    | none => true)) &&
  (l.zipIdx.all fun p => lKind ti p.1.op || l.zipIdx.all fun q => !lKind ti q.1.op || (ms.getD p.2 0).testBit q.2 || (ms.getD q.2 0).testBit p.2 || okX ti p.2 q.2 p.1.op q.1.op)

structure Draw2 (ti : TI) (l : List Oper) : Prop where
  back : ∀ (i : Nat) o, l[i]? = some o → ∀ e ∈ o.after.toList, Region.binds .any e = true → e.on < i
  chain : ∀ (i j : Nat) o o', l[i]? = some o → l[j]? = some o' → lKind ti o.op = true → lKind ti o'.op = true → j < i → Anc l i j
  apart : ∀ (i j : Nat) o o' d, i ≠ j → l[i]? = some o → l[j]? = some o' → o.dst = some d → d ∈ namesOf l.toArray o' → o'.dst ≠ some d ∧ (if i < j then Anc l j i else Anc l i j)
  cross : ∀ (i c : Nat) o oc, l[i]? = some o → l[c]? = some oc → lKind ti o.op = false → lKind ti oc.op = true → ¬ Anc l i c → ¬ Anc l c i → okX ti i c o.op oc.op = true
theorem draw2_of {ti : TI} {l : List Oper} (h : drawOK2 ti l = true) : Draw2 ti l := by
  unfold drawOK2 at h
  simp only [Bool.and_eq_true] at h
  obtain ⟨⟨⟨h1, h2⟩, h3⟩, h4⟩ := h
  have hspec := masks_spec l l [] (fun q => by simp) (fun i j hi => by simp at hi)
  have zi : ∀ {l' : List Oper} (i : Nat) o, l'[i]? = some o → (o, i) ∈ l'.zipIdx := by
    intro l' i o ho
    rw [List.mem_iff_getElem?]
    exact ⟨i, by simp [List.getElem?_zipIdx, ho]⟩
  refine ⟨fun i o ho e he hb => ?_, fun i j o o' ho ho' hk hk' hj => ?_, fun i j o o' d hne ho ho' hd hn => ?_, fun i c o oc ho hoc hk hk' n1 n2 => ?_⟩
  · have := List.all_eq_true.1 (List.all_eq_true.1 h1 (o, i) (zi i o ho)) e he
    simpa [hb] using this
  · have := List.all_eq_true.1 h2 (o, i) (zi i o ho)
    simp only [hk, Bool.not_true, Bool.false_or] at this
    have := List.all_eq_true.1 this (o', j) (zi j o' ho')
    simp only [hk', Bool.not_true, Bool.false_or, Bool.or_eq_true, decide_eq_true_eq] at this
    rcases this with this | this
    · omega
    · exact hspec i j this
  · have := List.all_eq_true.1 (List.all_eq_true.1 h3 _ (zi i o ho)) _ (zi j o' ho')
    simp only [hne, decide_false, Bool.false_or, hd] at this
    have hc : (namesOf l.toArray o').contains d = true := by simpa using hn
    rw [hc] at this
    simp only [Bool.not_true, Bool.false_or, Bool.and_eq_true, bne_iff_ne, ne_eq] at this
    refine ⟨fun e => this.1 e.symm, ?_⟩
    by_cases hij : i < j
    · rw [if_pos hij] at this ⊢
      exact hspec j i this.2
    · rw [if_neg hij] at this ⊢
      exact hspec i j this.2
  · have := List.all_eq_true.1 h4 (o, i) (zi i o ho)
    simp only [hk, Bool.false_or] at this
    have := List.all_eq_true.1 this (oc, c) (zi c oc hoc)
    simp only [hk', Bool.not_true, Bool.false_or, Bool.or_eq_true] at this
    rcases this with (this | this) | this
    · exact absurd (hspec i c this) n1
    · exact absurd (hspec c i this) n2
    · exact this

section
variable {P : Program} {ti : TI} {ρ : Operand → Option AV} {L L' : List Ob}

def Ob.vis : Ob → Bool
  | .box _ => true
  | .row _ _ _ => true
  | _ => false
/-- What may be read is there too. -/
def RelA (L L' : List Ob) : Prop := ∀ (id : Nat) x, L[id]? = some x → x.vis = true → L'[id]? = some x
def RelB (L L' : List Ob) : Prop := ∀ (id : Nat) ver es k, L[id]? = some (.row ver es k) → ∃ es', L'[id]? = some (.row ver es' k)
theorem RelA.toB (h : RelA L L') : RelB L L' := fun id ver es k e => ⟨es, h id _ e rfl⟩

theorem pop_ins {op : Op} (h : insens op = true) : pop ti ρ L op = pop ti ρ L' op := by
  cases op with
  | call c =>
    obtain ⟨callee, args, ts⟩ := c
    cases callee with
    | builtin b => cases b <;> first | (cases h; done) | rfl
    | _ => rfl
  | makeFunc f first captured => cases f <;> rfl
  | _ => first | (cases h; done) | rfl
theorem popFieldRow_B (h : RelB L L') {s : TypeId} {i0 id ver i off : Nat} {r : AV × Prop} (e : popFieldRow ti L s i0 id ver i off = some r) : popFieldRow ti L' s i0 id ver i off = some r := by
  unfold popFieldRow at e ⊢
  split at e
  · rename_i ver' es k o t hL hf
    obtain ⟨es', h'⟩ := h id _ _ _ hL
    rw [h', hf]; exact e
  · cases e
theorem popLenRow_B (h : RelB L L') {t : TypeId} {id ver n : Nat} {r : AV × Prop} (e : popLenRow ti L t id ver n = some r) : popLenRow ti L' t id ver n = some r := by
  unfold popLenRow at e ⊢
  split at e
  · rename_i ver' es k hL
    obtain ⟨es', h'⟩ := h id _ _ _ hL
    rw [h']; exact e
  · cases e
theorem popIndexRow_B (h : RelB L L') {t : TypeId} {id ver lo n : Nat} {ix : AV} {r : AV × Prop} (e : popIndexRow ti L t id ver lo n ix = some r) : popIndexRow ti L' t id ver lo n ix = some r := by
  unfold popIndexRow at e ⊢
  split at e
  · rename_i ver' es k' kk i k hL hk
    obtain ⟨es', h'⟩ := h id _ _ _ hL
    rw [h', hk]; exact e
  · cases e
theorem popSlice_B (h : RelB L L') {t : TypeId} {x : AV} {lo hi : Option AV} {r : AV × Prop} (e : popSlice ti L t x lo hi = some r) : popSlice ti L' t x lo hi = some r := by
  unfold popSlice at e ⊢
  split at e
  · exact e
  · rename_i id ver lo0 n
    split at e
    · rename_i ver' es k' k hL hk
      obtain ⟨es', h'⟩ := h id _ _ _ hL
      simp only [h', hk]
      exact e
    · cases e
  · exact e
theorem pop_B (h : RelB L L') {op : Op} (hl : isLoad op = false) {r : AV × Prop} (e : pop ti ρ L op = some r) : pop ti ρ L' op = some r := by
  by_cases hins : insens op = true
  · rw [← pop_ins hins (L := L)]; exact e
  unfold pop at e ⊢
  split at e
  all_goals first
    | exact e
    | (cases hl; done)
    | skip
  · split at e
    · exact popFieldRow_B h e
    · exact e
    · cases e
  · split at e
    · exact popIndexRow_B h e
    · exact e
    · cases e
  · split at e
    · exact e
    · exact e
    · rename_i id ver i o hx
      split at e
      · rename_i ver' es k hL
        obtain ⟨es', h'⟩ := h id _ _ _ hL
        simp only [h']; exact e
      · cases e
    · exact e
    · exact e
    · cases e
  · split at e
    · exact popSlice_B h e
    · exact popSlice_B h e
    · exact popSlice_B h e
    · exact popSlice_B h e
    · cases e
  · split at e
    · split at e
      · exact popLenRow_B h e
      · exact e
      · cases e
    · cases e
theorem popLoad_A (h : RelA L L') {t : TypeId} {x : AV} {r : AV × Prop} (e : popLoad ti L t x = some r) : popLoad ti L' t x = some r := by
  unfold popLoad at e ⊢
  split at e
  · exact e
  · rename_i id off
    split at e
    · rename_i cs hL
      simp only [h id _ hL rfl]; exact e
    · cases e
  · rename_i id ver i o
    split at e
    · rename_i ver' es k hL
      simp only [h id _ hL rfl]; exact e
    · cases e
  · cases e
theorem pop_A (h : RelA L L') {op : Op} {r : AV × Prop} (e : pop ti ρ L op = some r) : pop ti ρ L' op = some r := by
  cases hl : isLoad op with
  | false => exact pop_B h.toB hl e
  | true =>
    cases op <;> first | (cases hl; done) | skip
    rename_i t p
    simp only [pop] at e ⊢
    cases hp : ρ p with
    | none => simp [hp] at e
    | some v => simp only [hp, Option.bind_some] at e ⊢; exact popLoad_A h e

/-- What a soft operation leaves as it was. -/
theorem lop_rel {op : Op} {v : AV} {φ : Prop} (h : lop ti ρ L op = some (v, L', φ)) : (sk op = 1 → RelA L L') ∧ (sk op = 2 → RelA L L' ∧ RelA L' L) ∧ (sk op = 3 → RelB L L' ∧ RelB L' L) := by
  have grow : ∀ x, RelA L (L ++ [x]) := fun x id y hy _ => by rw [List.getElem?_append_left (List.getElem?_eq_some_iff.1 hy).1]; exact hy
  have setA : ∀ (i : Nat) (x y : Ob), L[i]? = some x → x.vis = false → y.vis = false → RelA L (L.set i y) ∧ RelA (L.set i y) L := by
    intro i x y hx hv hv'
    have hlt := (List.getElem?_eq_some_iff.1 hx).1
    refine ⟨fun id z hz hvz => ?_, fun id z hz hvz => ?_⟩
    · by_cases e : id = i
      · subst e; rw [hx] at hz; injection hz with hz; subst hz; rw [hv] at hvz; cases hvz
      · rw [List.getElem?_set_ne (Ne.symm e)]; exact hz
    · by_cases e : id = i
      · subst e; rw [List.getElem?_set_self hlt] at hz; injection hz with hz; subst hz; rw [hv'] at hvz; cases hvz
      · rw [List.getElem?_set_ne (Ne.symm e)] at hz; exact hz
  unfold lop at h
  split at h
  · split at h
    · injection h with h; injection h with e1 e2; injection e2 with e2 e3; subst e2
      exact ⟨fun _ => grow _, fun e => (by cases e), fun e => by cases e⟩
    · cases h
  · split at h
    · injection h with h; injection h with e1 e2; injection e2 with e2 e3; subst e2
      exact ⟨fun _ => grow _, fun e => (by cases e), fun e => by cases e⟩
    · cases h
  · refine ⟨fun e => (by cases e), fun e => (by cases e), fun _ => ?_⟩
    split at h
    · rename_i id off xs hp hx
      split at h
      · rename_i cs hL
        injection h with h; injection h with e1 e2; injection e2 with e2 e3; subst e2
        have hlt := (List.getElem?_eq_some_iff.1 hL).1
        refine ⟨fun id' ver es k e => ?_, fun id' ver es k e => ?_⟩
        · by_cases hid : id' = id
          · subst hid; rw [hL] at e; cases e
          · exact ⟨es, by rw [List.getElem?_set_ne (Ne.symm hid)]; exact e⟩
        · by_cases hid : id' = id
          · subst hid; rw [List.getElem?_set_self hlt] at e; cases e
          · exact ⟨es, by rw [List.getElem?_set_ne (Ne.symm hid)] at e; exact e⟩
      · cases h
    · rename_i id ver i o xs hp hx
      split at h
      · rename_i ver' es k hL
        split at h
        · rename_i e0 he0
          injection h with h; injection h with e1 e2; injection e2 with e2 e3; subst e2
          have hlt := (List.getElem?_eq_some_iff.1 hL).1
          refine ⟨fun id' ver2 es2 k2 e => ?_, fun id' ver2 es2 k2 e => ?_⟩
          · by_cases hid : id' = id
            · subst hid; rw [hL] at e; injection e with e; injection e with q1 q2 q3; subst q1 q2 q3
              exact ⟨_, List.getElem?_set_self hlt⟩
            · exact ⟨es2, by rw [List.getElem?_set_ne (Ne.symm hid)]; exact e⟩
          · by_cases hid : id' = id
            · subst hid; rw [List.getElem?_set_self hlt] at e; injection e with e; injection e with q1 q2 q3; subst q1 q2 q3
              exact ⟨es, hL⟩
            · exact ⟨es2, by rw [List.getElem?_set_ne (Ne.symm hid)] at e; exact e⟩
        · cases h
      · cases h
    · cases h
  · refine ⟨fun e => (by cases e), fun _ => ?_, fun e => by cases e⟩
    split at h
    · split at h
      · unfold lopApp at h
        split at h
        · split at h
          · split at h
            · injection h with h; injection h with e1 e2; injection e2 with e2 e3; subst e2
              refine ⟨grow _, fun id x hx hv => ?_⟩
              by_cases hid : id < L.length
              · rw [List.getElem?_append_left hid] at hx; exact hx
              · rw [List.getElem?_append_right (by omega)] at hx
                have := (List.getElem?_eq_some_iff.1 hx).1
                have h0 : id - L.length = 0 := by simp at this; omega
                rw [h0] at hx; simp at hx; subst hx; cases hv
            · split at h
              · rename_i hL
                injection h with h; injection h with e1 e2; injection e2 with e2 e3; subst e2
                exact setA _ _ _ hL rfl rfl
              · cases h
            · cases h
          · cases h
        · cases h
      · cases h
    · cases h
  · cases h

theorem lopApp_id : True := trivial
theorem lop_congr {ρ' : Operand → Option AV} {op : Op} (h : ∀ x, x ∈ op.operands → ρ x = ρ' x) : lop ti ρ L op = lop ti ρ' L op := by
  unfold lop
  split
  · rfl
  · rename_i t x; rw [h x (by simp [Op.operands])]
  · rename_i t p x; rw [h p (by simp [Op.operands]), h x (by simp [Op.operands])]
  · rename_i args ts
    split
    · rename_i s x t tx hs hx
      rw [h s (by simp [Op.operands, Call.operands]; rw [← Array.mem_toList_iff, hs]; simp), h x (by simp [Op.operands, Call.operands]; rw [← Array.mem_toList_iff, hs]; simp)]
    · rfl
  · rfl
theorem avs_congr {ρ' : Operand → Option AV} : ∀ (xs : List Operand), (∀ x ∈ xs, ρ x = ρ' x) → avs ρ xs = avs ρ' xs
  | [], _ => rfl
  | x :: xs, h => by
    have h1 : ρ x = ρ' x := h x (by simp)
    have h2 := avs_congr xs fun y hy => h y (List.mem_cons_of_mem _ hy)
    simp only [avs, h1, h2]
theorem callOpO_congr {ρ' : Operand → Option AV} {op : Op} (h : ∀ x, x ∈ op.operands → ρ x = ρ' x) : callOpO ti ρ op = callOpO ti ρ' op := by
  unfold callOpO
  split
  · rename_i f args ts
    split
    · rename_i x xs ho hxs
      have hm : ∀ y, y ∈ x :: xs → ρ y = ρ' y := fun y hy => h y (by simp [Op.operands, Call.operands]; exact .inr (by rw [← Array.mem_toList_iff, hxs]; exact hy))
      rw [hm x (by simp), normArgs_congr xs fun y hy => hm y (List.mem_cons_of_mem _ hy)]
    · rfl
  · rfl
theorem callOpR_congr {ρ' : Operand → Option AV} {op : Op} (h : ∀ x, x ∈ op.operands → ρ x = ρ' x) : callOpR ti ρ op = callOpR ti ρ' op := by
  unfold callOpR
  split
  · rename_i f args ts
    have h1 : ρ f = ρ' f := h f (by simp [Op.operands, Call.operands])
    have h2 : avs ρ args.toList = avs ρ' args.toList := avs_congr _ fun x hx => h x (by simp [Op.operands, Call.operands]; exact .inr (by simpa using hx))
    rw [h1, h2]
  · rfl
theorem sop_congr {ρ' : Operand → Option AV} {op : Op} {v : AV} (h : ∀ x, x ∈ op.operands → ρ x = ρ' x) (hs : Sop P ρ L op v L') : Sop P ρ' L op v L' :=
  fun B R γ w ev o ho hi hρ hfv => hs B R γ w ev o ho hi (fun x hx v hv => hρ x hx v (by rw [← h x hx]; exact hv)) hfv
theorem awOp_congr2 {ρ' : Operand → Option AV} {op : Op} {K : AV → List Ob → Prop} (h : ∀ x, x ∈ op.operands → ρ x = ρ' x) (ha : awOp P ti ρ L K op) : awOp P ti ρ' L K op := by
  rcases ha with ha | ha | ha | ha | ha | ha | ha | ⟨v, L', h1, h2, h3⟩
  · rw [pop_congr h] at ha; exact .inl ha
  · rw [litOp_congr h] at ha; exact .inr (.inl ha)
  · rw [lop_congr h] at ha; exact .inr (.inr (.inl ha))
  · rw [callOp_congr h] at ha; exact .inr (.inr (.inr (.inl ha)))
  · rw [callOpO_congr h] at ha; exact .inr (.inr (.inr (.inr (.inl ha))))
  · rw [callOpO_congr h] at ha; exact .inr (.inr (.inr (.inr (.inr (.inl ha)))))
  · rw [callOpR_congr h] at ha; exact .inr (.inr (.inr (.inr (.inr (.inr (.inl ha))))))
  · exact .inr (.inr (.inr (.inr (.inr (.inr (.inr ⟨v, L', h1, sop_congr h h2, h3⟩))))))
/-- One value and one list of objects. -/
theorem awOp_pick {op : Op} {K : AV → List Ob → Prop} (ha : awOp P ti ρ L K op) : ∃ v L1, awOp P ti ρ L (fun v' L' => v' = v ∧ L' = L1) op ∧ K v L1 := by
  rcases ha with ⟨v, φ, hp, hφ, hk⟩ | ⟨v, φ, hp, hφ, hk⟩ | ⟨v, L', φ, hp, hφ, hk⟩ | ⟨g, ps, r, hc, hP, hk⟩ | ⟨g, es, t, k, ps, es', hc, h1, h2, hk⟩ | ⟨g, k, ps, es', hc, h1, hk⟩ | ⟨σ, g, L0, as, L1, r, hc, h1, h2, hk⟩ | ⟨v, L', h1, h2, hk⟩
  · exact ⟨v, _, .inl ⟨v, φ, hp, hφ, rfl, rfl⟩, hk⟩
  · exact ⟨v, _, .inr (.inl ⟨v, φ, hp, hφ, rfl, rfl⟩), hk⟩
  · exact ⟨v, _, .inr (.inr (.inl ⟨v, L', φ, hp, hφ, rfl, rfl⟩)), hk⟩
  · exact ⟨_, _, .inr (.inr (.inr (.inl ⟨g, ps, r, hc, hP, rfl, rfl⟩))), hk⟩
  · exact ⟨_, _, .inr (.inr (.inr (.inr (.inl ⟨g, es, t, k, ps, es', hc, h1, h2, rfl, rfl⟩)))), hk⟩
  · exact ⟨_, _, .inr (.inr (.inr (.inr (.inr (.inl ⟨g, k, ps, es', hc, h1, rfl, rfl⟩))))), hk⟩
  · exact ⟨_, _, .inr (.inr (.inr (.inr (.inr (.inr (.inl ⟨σ, g, L0, as, L1, r, hc, h1, h2, rfl, rfl⟩)))))), hk⟩
  · exact ⟨_, _, .inr (.inr (.inr (.inr (.inr (.inr (.inr ⟨v, L', h1, h2, rfl, rfl⟩)))))), hk⟩
/-- A quiet operation yields the same over other objects, if it may read them as before. -/
theorem quiet_move {op : Op} {v : AV} {L1 : List Ob} (hl : lKind ti op = false) (ha : awOp P ti ρ L (fun v' L' => v' = v ∧ L' = L1) op) (hr : ∀ r, pop ti ρ L op = some r → pop ti ρ L' op = some r) : awOp P ti ρ L' (fun v' L'' => v' = v ∧ L'' = L') op := by
  rcases ha with ⟨v', φ, hp, hφ, hk⟩ | ⟨v', φ, hp, hφ, hk⟩ | ⟨v', L', φ, hp, _⟩ | ⟨g, ps, r, hc, hP, hk⟩ | ⟨g, es, t, k, ps, es', hc, _⟩ | ⟨g, k, ps, es', hc, _⟩ | ⟨σ, g, L0, as, L1, r, hc, _⟩ | ⟨v', L', hk, _⟩
  · exact .inl ⟨v', φ, hr _ hp, hφ, hk.1, rfl⟩
  · exact .inr (.inl ⟨v', φ, hp, hφ, hk.1, rfl⟩)
  · rw [lop_kind hp] at hl; cases hl
  · exact .inr (.inr (.inr (.inl ⟨g, ps, r, hc, hP, hk.1, rfl⟩)))
  · rw [callOpO_kind hc] at hl; cases hl
  · rw [callOpO_kind hc] at hl; cases hl
  · rw [callOpR_kind hc] at hl; cases hl
  · rw [hk.1] at hl; cases hl
/-- A quiet operation leaves the objects alone. -/
theorem quiet_same {op : Op} {v : AV} {L1 : List Ob} (hl : lKind ti op = false) (ha : awOp P ti ρ L (fun v' L' => v' = v ∧ L' = L1) op) : L1 = L := by
  obtain ⟨v', _, h1, h2⟩ := awOp_val hl ha
  exact h2.symm
/-- What a soft operation leaves, from the row of ways. -/
theorem soft_rel {op : Op} {v : AV} {L1 : List Ob} (hs : ti.soft = true) (h0 : sk op ≠ 0) (ha : awOp P ti ρ L (fun v' L' => v' = v ∧ L' = L1) op) : (sk op = 1 → RelA L L1) ∧ (sk op = 2 → RelA L L1 ∧ RelA L1 L) ∧ (sk op = 3 → RelB L L1 ∧ RelB L1 L) ∧ (sk op = 4 → RelA L L1 ∧ RelA L1 L) := by
  have self : RelA L L ∧ RelB L L := ⟨fun _ _ h _ => h, fun _ _ es _ h => ⟨es, h⟩⟩
  have hcall : ∀ c, op = .call c → (∀ f, c.callee = .value f → False) := by
    intro c e f hf
    subst e
    obtain ⟨callee, args, ts⟩ := c
    simp only at hf; subst hf
    exact h0 rfl
  rcases ha with ⟨v', φ, hp, hφ, rfl, rfl⟩ | ⟨v', φ, hp, hφ, rfl, rfl⟩ | ⟨v', L', φ, hp, hφ, rfl, rfl⟩ | ⟨g, ps, r, hc, hP, rfl, rfl⟩ | ⟨g, es, t, k, ps, es', hc, _⟩ | ⟨g, k, ps, es', hc, _⟩ | ⟨σ, g, L0, as, L2, r, hc, _⟩ | ⟨v', L', hk, hh⟩
  · exact ⟨fun _ => self.1, fun _ => ⟨self.1, self.1⟩, fun _ => ⟨self.2, self.2⟩, fun _ => ⟨self.1, self.1⟩⟩
  · exact ⟨fun _ => self.1, fun _ => ⟨self.1, self.1⟩, fun _ => ⟨self.2, self.2⟩, fun _ => ⟨self.1, self.1⟩⟩
  · obtain ⟨q1, q2, q3⟩ := lop_rel hp
    refine ⟨q1, q2, q3, fun e4 => ?_⟩
    exfalso
    unfold lop at hp
    split at hp <;> first | (cases e4; done) | (cases hp; done)
  · exact ⟨fun _ => self.1, fun _ => ⟨self.1, self.1⟩, fun _ => ⟨self.2, self.2⟩, fun _ => ⟨self.1, self.1⟩⟩
  · exfalso
    unfold callOpO at hc
    split at hc
    · exact hcall _ rfl _ rfl
    · cases hc
  · exfalso
    unfold callOpO at hc
    split at hc
    · exact hcall _ rfl _ rfl
    · cases hc
  · exfalso
    unfold callOpR at hc
    split at hc
    · exact hcall _ rfl _ rfl
    · cases hc
  · rcases hk.2 hs with e | ⟨e4, rfl⟩
    · exact absurd e h0
    · obtain ⟨_, _, rfl⟩ := hh
      exact ⟨fun _ => self.1, fun _ => ⟨self.1, self.1⟩, fun _ => ⟨self.2, self.2⟩, fun _ => ⟨self.1, self.1⟩⟩
end
end Go.Proofs.YtnbnpnmkgemdeaaGreatDoor

namespace Go.Proofs.YtnbnpnmkgemdeaaGreatDoor
open Go.RowKit

section
variable {P : Program} {ti : TI} {B : Nat → Prop} {N n0 : Nat}

/-- What the text's own order yields. -/
theorem trace2 {ds : List (Option Tmp)} {K : Tm → List Ob → Prop} : ∀ (l : List Oper) (T : Tm) (L : List Ob), awOps P ti N ds K l T L →
    ∃ (vs : List AV) (Ls : Nat → List Ob), vs.length = l.length ∧ Ls 0 = L ∧ (∀ (i : Nat) o, l[i]? = some o → dOK N o.dst ∧ ∃ v, vs[i]? = some v ∧
      ((gdv ds (tat l vs T i) o.guard = some true ∧ awOp P ti (look (tat l vs T i)) (Ls i) (fun v' L' => v' = v ∧ L' = Ls (i + 1)) o.op) ∨ (gdv ds (tat l vs T i) o.guard = some false ∧ v = .undef ∧ Ls (i + 1) = Ls i))) ∧
      K (tat l vs T l.length) (Ls l.length)
  | [], T, L, h => ⟨[], fun _ => L, rfl, rfl, fun i o ho => by simp at ho, by have h : K T L := h; simpa [tat] using h⟩
  | o :: l, T, L, h => by
    obtain ⟨hd, hg⟩ := h
    have go : ∀ v L1, ((gdv ds T o.guard = some true ∧ awOp P ti (look T) L (fun v' L' => v' = v ∧ L' = L1) o.op) ∨ (gdv ds T o.guard = some false ∧ v = .undef ∧ L1 = L)) → awOps P ti N ds K l (putT T o.dst v) L1 → ∃ (vs : List AV) (Ls : Nat → List Ob), vs.length = (o :: l).length ∧ Ls 0 = L ∧ (∀ (i : Nat) o', (o :: l)[i]? = some o' → dOK N o'.dst ∧ ∃ v, vs[i]? = some v ∧
      ((gdv ds (tat (o :: l) vs T i) o'.guard = some true ∧ awOp P ti (look (tat (o :: l) vs T i)) (Ls i) (fun v' L' => v' = v ∧ L' = Ls (i + 1)) o'.op) ∨ (gdv ds (tat (o :: l) vs T i) o'.guard = some false ∧ v = .undef ∧ Ls (i + 1) = Ls i))) ∧
      K (tat (o :: l) vs T (o :: l).length) (Ls (o :: l).length) := by
      intro v L1 hv hr
      obtain ⟨vs, Ls, h1, h0, h2, h3⟩ := trace2 l (putT T o.dst v) L1 hr
      refine ⟨v :: vs, fun i => match i with | 0 => L | i + 1 => Ls i, by simp [h1], rfl, fun i o' ho => ?_, by simpa [tat] using h3⟩
      cases i with
      | zero =>
        simp at ho; subst ho
        exact ⟨hd, v, rfl, by simpa [tat, h0] using hv⟩
      | succ i =>
        obtain ⟨g1, v', g2, g3⟩ := h2 i o' (by simpa using ho)
        exact ⟨g1, v', by simpa using g2, by simpa [tat] using g3⟩
    rcases gd_gdv hg with ⟨h1, h2⟩ | ⟨h1, h2⟩
    · obtain ⟨v, L1, g1, g2⟩ := awOp_pick h2
      exact go v L1 (.inl ⟨h1, g1⟩) g2
    · exact go .undef L (.inr ⟨h1, rfl, rfl⟩) h2

structure Mid2 (ti : TI) (l : List Oper) (N : Nat) (B : Nat → Prop) (Ls : Nat → List Ob) (T : Tm) (vs : List AV) (R0 : PH) (γ0 : List Gh) (w0 : World) (listed : Array Bool) (e : Nat) (R : PH) (γ : List Gh) (a : Act) (w : World) : Prop where
  inv : Inv B R γ (Ls e) w
  size : a.tmps.size = N
  defers : a.defers = []
  done : Done l listed
  le : e ≤ l.length
  lo : ∀ (c : Nat) o, c < e → l[c]? = some o → lKind ti o.op = true → listed[c]? = some true
  hi : ∀ (c : Nat) o, e ≤ c → l[c]? = some o → lKind ti o.op = true → listed[c]? = some false
  fresh : ∀ (i : Nat) o d v, listed[i]? = some true → l[i]? = some o → o.dst = some d → vs[i]? = some v → ∃ u, a.tmps[d]? = some u ∧ v.rep R γ (Ls e) u
  old : ∀ t x, T.lookup t = some x → (∀ (i : Nat) o, listed[i]? = some true → l[i]? = some o → o.dst ≠ some t) → ∃ u, a.tmps[t]? = some u ∧ x.rep R γ (Ls e) u
  ext : Ext B R0 R w0 w
  mv : Mv R0 R γ0 γ (Ls 0) (Ls e)

theorem ready_iff2 {l : List Oper} {listed : Array Bool} (hback : ∀ (i : Nat) o, l[i]? = some o → ∀ e ∈ o.after.toList, Region.binds .any e = true → e.on < i) (h : Done l listed) (i : Nat) : i ∈ Region.ready .any l.toArray listed ↔ i < l.length ∧ listed[i]? = some false ∧ ∀ o, l[i]? = some o → ∀ e ∈ o.after.toList, Region.binds .any e = true → listed[e.on]? = some true := by
  unfold Region.ready
  rw [List.mem_filter, List.mem_range]
  simp only [List.size_toArray, Bool.and_eq_true]
  constructor
  · rintro ⟨hi, h1, h2⟩
    have hlt : i < listed.size := by rw [h.size]; exact hi
    have e1 : listed[i]? = some listed[i] := Array.getElem?_eq_getElem hlt
    refine ⟨hi, ?_, fun o ho e he hb => ?_⟩
    · rw [Array.getD_eq_getD_getElem?, e1] at h1
      simp at h1
      rw [e1, h1]
    · simp only [List.getElem?_toArray, ho, Option.map_some, Option.getD_some] at h2
      have := Array.all_eq_true'.1 h2 e (by simpa using he)
      rw [hb] at this
      have hlt2 : e.on < listed.size := by rw [h.size]; have := hback i o ho e he hb; omega
      have e2 : listed[e.on]? = some listed[e.on] := Array.getElem?_eq_getElem hlt2
      rw [Array.getD_eq_getD_getElem?, e2] at this
      simp at this
      rw [e2, this]
  · rintro ⟨hi, h1, h2⟩
    refine ⟨hi, by simp [Array.getD_eq_getD_getElem?, h1], ?_⟩
    have ho : l[i]? = some l[i] := List.getElem?_eq_getElem hi
    simp only [List.getElem?_toArray, ho, Option.map_some, Option.getD_some]
    rw [Array.all_eq_true']
    intro e he
    by_cases hb : Region.binds .any e = true
    · simp [hb, Array.getD_eq_getD_getElem?, h2 _ ho e (by simpa using he) hb]
    · simp [hb]

open Classical in
theorem any2 (hti : TIok P ti) {l : List Oper} {ds : List (Option Tmp)} (hds : l.map (·.dst) = ds) (hD : Draw2 ti l) {K : Tm → List Ob → Prop} {Q : Exit → Act → World → Prop} {T : Tm} {vs : List AV} {Ls : Nat → List Ob} {R0 : PH} {γ0 : List Gh} {w0 : World} (hvl : vs.length = l.length)
    (htr : ∀ (i : Nat) o, l[i]? = some o → dOK N o.dst ∧ ∃ v, vs[i]? = some v ∧
      ((gdv ds (tat l vs T i) o.guard = some true ∧ awOp P ti (look (tat l vs T i)) (Ls i) (fun v' L' => v' = v ∧ L' = Ls (i + 1)) o.op) ∨ (gdv ds (tat l vs T i) o.guard = some false ∧ v = .undef ∧ Ls (i + 1) = Ls i)))
    (hK : K (tat l vs T l.length) (Ls l.length))
    (hQ : ∀ T' L' R' γ' w' a', K T' L' → Inv B R' γ' L' w' → TRep N R' γ' L' T' a' → Ext B R0 R' w0 w' → Mv R0 R' γ0 γ' (Ls 0) L' → Q .normal a' w') :
    ∀ (fuel : Nat) (listed : Array Bool) (e : Nat) (R : PH) (γ : List Gh) (a : Act) (w : World), cntB l.length listed ≤ fuel → Mid2 ti l N B Ls T vs R0 γ0 w0 listed e R γ a w → wpAny P .any l.toArray Q fuel listed a w := by
  have uniq : ∀ (i j : Nat) o o' d, l[i]? = some o → l[j]? = some o' → o.dst = some d → o'.dst = some d → i = j := by
    intro i j o o' d ho ho' hd hd'
    by_cases hne : i = j
    · exact hne
    · exfalso
      exact (hD.apart i j o o' d hne ho ho' hd (by unfold namesOf; simp [hd'])).1 hd'
  -- no operation that turns objects between: the objects are the same
  have flat : ∀ n e, (∀ (c : Nat) o, e ≤ c → c < e + n → l[c]? = some o → lKind ti o.op = false) → e + n ≤ l.length → Ls (e + n) = Ls e := by
    intro n
    induction n with
    | zero => intro e _ _; rfl
    | succ n ih =>
      intro e h hle
      have h1 := ih e (fun c o h1 h2 => h c o h1 (by omega)) (by omega)
      have hlt : e + n < l.length := by omega
      have ho : l[e + n]? = some l[e + n] := List.getElem?_eq_getElem hlt
      obtain ⟨_, v, _, hs⟩ := htr _ _ ho
      rw [← h1]
      show Ls (e + n + 1) = Ls (e + n)
      rcases hs with ⟨_, hop⟩ | ⟨_, _, hop⟩
      · exact quiet_same (h _ _ (by omega) (by omega) ho) hop
      · exact hop
  -- a quiet operation, over the objects of another time
  have pass : ∀ (i : Nat) o v, l[i]? = some o → lKind ti o.op = false → awOp P ti (look (tat l vs T i)) (Ls i) (fun v' L' => v' = v ∧ L' = Ls (i + 1)) o.op → ∀ e, e ≤ l.length →
      (∀ (c : Nat) oc, l[c]? = some oc → lKind ti oc.op = true → (i < c ∧ c < e) ∨ (e ≤ c ∧ c < i) → okX ti i c o.op oc.op = true) → awOp P ti (look (tat l vs T i)) (Ls e) (fun v' L' => v' = v ∧ L' = Ls e) o.op := by
    intro i o v ho hk hop e hel hx
    have hil := (List.getElem?_eq_some_iff.1 ho).1
    refine quiet_move hk hop ?_
    by_cases hins : insens o.op = true
    · intro r hr; rw [← pop_ins hins (L := Ls i)]; exact hr
    have hins' : insens o.op = false := by simpa using hins
    have step : ∀ c, c < l.length → (∀ oc, l[c]? = some oc → lKind ti oc.op = true → okX ti i c o.op oc.op = true) → (i < c → ∀ r, pop ti (look (tat l vs T i)) (Ls c) o.op = some r → pop ti (look (tat l vs T i)) (Ls (c + 1)) o.op = some r) ∧ (c < i → ∀ r, pop ti (look (tat l vs T i)) (Ls (c + 1)) o.op = some r → pop ti (look (tat l vs T i)) (Ls c) o.op = some r) := by
      intro c hc hok
      have hoc : l[c]? = some l[c] := List.getElem?_eq_getElem hc
      obtain ⟨_, vc, _, hs⟩ := htr c _ hoc
      rcases hs with ⟨_, hopc⟩ | ⟨_, _, hopc⟩
      · cases hkc : lKind ti l[c].op with
        | false => rw [quiet_same hkc hopc]; exact ⟨fun _ r h => h, fun _ r h => h⟩
        | true =>
          have h1 := hok _ hoc hkc
          unfold okX at h1
          rw [hins'] at h1
          simp only [Bool.false_or, Bool.and_eq_true] at h1
          obtain ⟨hsf, h1⟩ := h1
          have h0 : sk l[c].op ≠ 0 := by intro e0; rw [e0] at h1; cases h1
          obtain ⟨r1, r2, r3, r4⟩ := soft_rel hsf h0 hopc
          split at h1
          · rename_i hsk
            have hlt : i < c := of_decide_eq_true h1
            exact ⟨fun _ r h => pop_A (r1 hsk) h, fun hci => by omega⟩
          · rename_i hsk
            exact ⟨fun _ r h => pop_A (r2 hsk).1 h, fun _ r h => pop_A (r2 hsk).2 h⟩
          · rename_i hsk
            have hl : isLoad o.op = false := by simpa using h1
            exact ⟨fun _ r h => pop_B (r3 hsk).1 hl h, fun _ r h => pop_B (r3 hsk).2 hl h⟩
          · rename_i hsk
            exact ⟨fun _ r h => pop_A (r4 hsk).1 h, fun _ r h => pop_A (r4 hsk).2 h⟩
          · cases h1
      · rw [hopc]; exact ⟨fun _ r h => h, fun _ r h => h⟩
    -- at the time of the operation itself nothing turns
    have hsame : Ls (i + 1) = Ls i := quiet_same hk hop
    by_cases hei : e ≤ i
    · -- earlier
      have : ∀ n, n ≤ i - e → ∀ r, pop ti (look (tat l vs T i)) (Ls i) o.op = some r → pop ti (look (tat l vs T i)) (Ls (i - n)) o.op = some r := by
        intro n
        induction n with
        | zero => intro _ r h; exact h
        | succ n ih =>
          intro hn r h
          have h2 := ih (by omega) r h
          have h3 := (step (i - (n + 1)) (by omega) (fun oc hoc hkc => hx _ oc hoc hkc (.inr ⟨by omega, by omega⟩))).2 (by omega) r
          have e1 : i - (n + 1) + 1 = i - n := by omega
          rw [e1] at h3
          exact h3 h2
      intro r h
      have h2 := this (i - e) (Nat.le_refl _) r h
      have e1 : i - (i - e) = e := by omega
      rw [e1] at h2; exact h2
    · have : ∀ n, i + 1 + n ≤ e → ∀ r, pop ti (look (tat l vs T i)) (Ls i) o.op = some r → pop ti (look (tat l vs T i)) (Ls (i + 1 + n)) o.op = some r := by
        intro n
        induction n with
        | zero => intro _ r h; show pop ti (look (tat l vs T i)) (Ls (i + 1)) o.op = some r; rw [hsame]; exact h
        | succ n ih =>
          intro hn r h
          have h2 := ih (by omega) r h
          exact (step (i + 1 + n) (by omega) (fun oc hoc hkc => hx _ oc hoc hkc (.inl ⟨by omega, by omega⟩))).1 (by omega) r h2
      intro r h
      have h2 := this (e - (i + 1)) (by omega) r h
      have e1 : i + 1 + (e - (i + 1)) = e := by omega
      rw [e1] at h2; exact h2
  -- what the slots hold, as the text's own order has them, at an operation that is ready
  have slots : ∀ (listed : Array Bool) (e : Nat) (R : PH) (γ : List Gh) (a : Act) (w : World), Mid2 ti l N B Ls T vs R0 γ0 w0 listed e R γ a w → ∀ (i : Nat) o, l[i]? = some o → listed[i]? = some false →
      (∀ o', l[i]? = some o' → ∀ e ∈ o'.after.toList, Region.binds .any e = true → listed[e.on]? = some true) → ∀ t x, t ∈ namesOf l.toArray o → (tat l vs T i).lookup t = some x → ∃ u, a.tmps[t]? = some u ∧ x.rep R γ (Ls e) u := by
    intro listed e R γ a w M i o ho hli hed t x hmem hx
    have hil := (List.getElem?_eq_some_iff.1 ho).1
    by_cases hex : ∃ (j : Nat) (o' : Oper), j < i ∧ l[j]? = some o' ∧ o'.dst = some t
    · obtain ⟨j, o', hj, ho', hd'⟩ := hex
      have hanc := (hD.apart j i o' o t (by omega) ho' ho hd' hmem).2
      rw [if_pos hj] at hanc
      have hlj := M.done.anc hanc hed
      have hjv : vs[j]? = some vs[j] := List.getElem?_eq_getElem (by omega)
      have := tat_new l vs T i j o' vs[j] hj ho' hd' hjv (fun k o2 h1 h2 h3 hd2 => by
        have := uniq j k o' o2 t ho' h3 hd' hd2
        omega) (fun k _ _ => by omega)
      rw [hx] at this
      injection this with this
      subst this
      exact M.fresh j o' t _ hlj ho' hd' hjv
    · have hno : ∀ j o', j < i → l[j]? = some o' → o'.dst ≠ some t := fun j o' h1 h2 h3 => hex ⟨j, o', h1, h2, h3⟩
      rw [tat_old l vs T i hno] at hx
      refine M.old t x hx fun k o' hlk hok hdk => ?_
      by_cases hki : k < i
      · exact hno k o' hki hok hdk
      · by_cases hke : k = i
        · subst hke; rw [hli] at hlk; cases hlk
        · have hanc := (hD.apart k i o' o t hke hok ho hdk hmem).2
          rw [if_neg hki] at hanc
          have := M.done.anc hanc (fun o2 h2 => M.done.down k o2 h2 hlk)
          rw [hli] at this; cases this
  have hbool : ∀ (listed : Array Bool), Done l listed → ∀ i, i < l.length → listed[i]? = some true ∨ listed[i]? = some false := by
    intro listed hd i hi
    have hlt : i < listed.size := by rw [hd.size]; exact hi
    rw [Array.getElem?_eq_getElem hlt]
    cases listed[i] <;> simp
  -- the end
  have fin : ∀ (listed : Array Bool) (e : Nat) (R : PH) (γ : List Gh) (a : Act) (w : World), Mid2 ti l N B Ls T vs R0 γ0 w0 listed e R γ a w → (∀ i, i < l.length → listed[i]? = some true) → Q .normal a w := by
    intro listed e R γ a w M hall
    have hle : Ls l.length = Ls e := by
      have := flat (l.length - e) e (fun c o h1 h2 ho => by
        cases hk : lKind ti o.op with
        | false => rfl
        | true => have := M.hi c o h1 ho hk; rw [hall c (List.getElem?_eq_some_iff.1 ho).1] at this; cases this) (by have := M.le; omega)
      have e1 : e + (l.length - e) = l.length := by have := M.le; omega
      rw [e1] at this; exact this
    rw [hle] at hK
    refine hQ _ _ R γ w a hK M.inv ⟨M.size, M.defers, fun t x hx => ?_⟩ M.ext M.mv
    by_cases hex : ∃ (j : Nat) (o' : Oper), j < l.length ∧ l[j]? = some o' ∧ o'.dst = some t
    · obtain ⟨j, o', hj, ho', hd'⟩ := hex
      have hjv : vs[j]? = some vs[j] := List.getElem?_eq_getElem (by omega)
      have := tat_new l vs T l.length j o' vs[j] hj ho' hd' hjv (fun k o2 h1 h2 h3 hd2 => by
        have := uniq j k o' o2 t ho' h3 hd' hd2
        omega) (fun k _ _ => by omega)
      rw [hx] at this
      injection this with this
      subst this
      exact M.fresh j o' t _ (hall j hj) ho' hd' hjv
    · have hno : ∀ j o', j < l.length → l[j]? = some o' → o'.dst ≠ some t := fun j o' h1 h2 h3 => hex ⟨j, o', h1, h2, h3⟩
      rw [tat_old l vs T l.length hno] at hx
      exact M.old t x hx fun k o' _ hok hdk => hno k o' (List.getElem?_eq_some_iff.1 hok).1 hok hdk
  have allDone : ∀ (listed : Array Bool), Done l listed → Region.ready .any l.toArray listed = [] → ∀ i, i < l.length → listed[i]? = some true := by
    intro listed hd hnil i
    induction i using Nat.strongRecOn with
    | ind i ihi =>
      intro hi
      rcases hbool listed hd i hi with h | h
      · exact h
      · exfalso
        have : i ∈ Region.ready .any l.toArray listed := (ready_iff2 hD.back hd i).2 ⟨hi, h, fun o ho e he hb => ihi e.on (hD.back i o ho e he hb) (by have := hD.back i o ho e he hb; omega)⟩
        rw [hnil] at this; cases this
  intro fuel
  induction fuel with
  | zero =>
    intro listed e R γ a w hc M
    have hall : ∀ i, i < l.length → listed[i]? = some true := by
      intro i hi
      rcases hbool listed M.done i hi with h | h
      · exact h
      · exfalso
        have : 0 < cntB l.length listed := List.countP_pos_iff.2 ⟨i, by simpa using hi, by rw [h]; rfl⟩
        omega
    refine ⟨?_, fin listed e R γ a w M hall⟩
    apply List.eq_nil_iff_forall_not_mem.2
    intro i hmem
    obtain ⟨h1, h2, _⟩ := (ready_iff2 hD.back M.done i).1 hmem
    rw [hall i h1] at h2; cases h2
  | succ fuel ih =>
    intro listed e R γ a w hc M
    refine ⟨fun hnil => fin listed e R γ a w M (allDone listed M.done hnil), fun i hmem => ?_⟩
    obtain ⟨h1, h2, h3⟩ := (ready_iff2 hD.back M.done i).1 hmem
    have ho : l[i]? = some l[i] := List.getElem?_eq_getElem h1
    obtain ⟨hd, v, hv, hstep⟩ := htr i _ ho
    have hsl := slots listed e R γ a w M i _ ho h2 h3
    have hcnt : cntB l.length (listed.setIfInBounds i true) ≤ fuel := by
      have : cntB l.length (listed.setIfInBounds i true) < cntB l.length listed := by
        unfold cntB
        refine countP_lt _ (fun x hx hq => ?_) ⟨i, by simpa using h1, by rw [h2]; rfl, by rw [Array.getElem?_setIfInBounds_self_of_lt (by rw [M.done.size]; exact h1)]; rfl⟩
        by_cases hxi : x = i
        · subst hxi; rw [h2]; rfl
        · rw [Array.getElem?_setIfInBounds_ne (Ne.symm hxi)] at hq; exact hq
      omega
    have hput : ∀ (e' : Nat) (R' : PH) (γ' : List Gh) (w' : World) (u : Value), e' ≤ l.length → (∀ (c : Nat) o, c < e' → l[c]? = some o → lKind ti o.op = true → (listed.setIfInBounds i true)[c]? = some true) → (∀ (c : Nat) o, e' ≤ c → l[c]? = some o → lKind ti o.op = true → (listed.setIfInBounds i true)[c]? = some false) →
        Inv B R' γ' (Ls e') w' → Ext B R R' w w' → Mv R R' γ γ' (Ls e) (Ls e') → v.rep R' γ' (Ls e') u → Mid2 ti l N B Ls T vs R0 γ0 w0 (listed.setIfInBounds i true) e' R' γ' (a.put l[i].dst u) w' := by
      intro e' R' γ' w' u hle' hlo hhi hi' he' hmv hu
      have hsz : (a.put l[i].dst u).tmps.size = N := by cases hdd : l[i].dst <;> simp [Act.put, M.size]
      have keep : ∀ t, l[i].dst ≠ some t → (a.put l[i].dst u).tmps[t]? = a.tmps[t]? := by
        intro t ht
        cases hdd : l[i].dst with
        | none => rfl
        | some d => simp only [Act.put]; rw [Array.getElem?_setIfInBounds_ne (by intro e; exact ht (by rw [hdd, e]))]
      refine ⟨hi', hsz, by cases hdd : l[i].dst <;> exact M.defers, M.done.put h3, hle', hlo, hhi, fun j o d v' hlj hoj hdj hvj => ?_, fun t x hx hno => ?_, M.ext.trans he', M.mv.trans hmv⟩
      · by_cases hji : j = i
        · subst hji
          rw [ho] at hoj; injection hoj with hoj; subst hoj
          rw [hv] at hvj; injection hvj with hvj; subst hvj
          have hdN : d < N := by have := hd; rw [hdj] at this; exact this
          refine ⟨u, ?_, hu⟩
          rw [hdj]
          simp only [Act.put]
          exact Array.getElem?_setIfInBounds_self_of_lt (by rw [M.size]; exact hdN)
        · rw [Array.getElem?_setIfInBounds_ne (Ne.symm hji)] at hlj
          obtain ⟨u', g1, g2⟩ := M.fresh j o d v' hlj hoj hdj hvj
          refine ⟨u', ?_, AV.mv hmv g2⟩
          rw [keep d (fun e => hji (uniq j i o _ d hoj ho hdj e))]
          exact g1
      · have hni : l[i].dst ≠ some t := hno i _ (Array.getElem?_setIfInBounds_self_of_lt (by rw [M.done.size]; exact h1)) ho
        obtain ⟨u', g1, g2⟩ := M.old t x hx fun k o hlk hok => hno k o (by
          by_cases hki : k = i
          · subst hki; rw [h2] at hlk; cases hlk
          · rw [Array.getElem?_setIfInBounds_ne (Ne.symm hki)]; exact hlk) hok
        exact ⟨u', by rw [keep t hni]; exact g1, AV.mv hmv g2⟩
    have hlook : ∀ d x, d ∈ l[i].looksAt l.toArray → (tat l vs T i).lookup d = some x → ∃ u, a.tmps[d]? = some u ∧ x.rep R γ (Ls e) u := fun d x hd hx => hsl d x (by unfold namesOf; exact List.mem_append_left _ hd) hx
    -- the marks of the operations that turn objects, behind this one
    have quietLo : lKind ti l[i].op = false → (∀ (c : Nat) o, c < e → l[c]? = some o → lKind ti o.op = true → (listed.setIfInBounds i true)[c]? = some true) ∧ (∀ (c : Nat) o, e ≤ c → l[c]? = some o → lKind ti o.op = true → (listed.setIfInBounds i true)[c]? = some false) := by
      intro hk
      have hne : ∀ (c : Nat) o, l[c]? = some o → lKind ti o.op = true → c ≠ i := by
        rintro c o hoc hkc rfl
        rw [ho] at hoc; injection hoc with hoc; subst hoc; rw [hk] at hkc; cases hkc
      exact ⟨fun c o hc hoc hkc => by rw [Array.getElem?_setIfInBounds_ne (Ne.symm (hne c o hoc hkc))]; exact M.lo c o hc hoc hkc, fun c o hc hoc hkc => by rw [Array.getElem?_setIfInBounds_ne (Ne.symm (hne c o hoc hkc))]; exact M.hi c o hc hoc hkc⟩
    have chainAt : lKind ti l[i].op = true → e ≤ i ∧ Ls i = Ls e ∧ (∀ (c : Nat) o, c < i + 1 → l[c]? = some o → lKind ti o.op = true → (listed.setIfInBounds i true)[c]? = some true) ∧ (∀ (c : Nat) o, i + 1 ≤ c → l[c]? = some o → lKind ti o.op = true → (listed.setIfInBounds i true)[c]? = some false) := by
      intro hk
      have hei : e ≤ i := by
        rcases Nat.lt_or_ge i e with h | h
        · have := M.lo i _ h ho hk; rw [h2] at this; cases this
        · exact h
      have hbelow : ∀ (c : Nat) o, c < i → l[c]? = some o → lKind ti o.op = true → listed[c]? = some true := fun c o hc hoc hkc => M.done.anc (hD.chain i c _ o ho hoc hk hkc hc) h3
      refine ⟨hei, ?_, fun c o hc hoc hkc => ?_, fun c o hc hoc hkc => ?_⟩
      · have := flat (i - e) e (fun c o c1 c2 hoc => by
          cases hkc : lKind ti o.op with
          | false => rfl
          | true => have q := M.hi c o c1 hoc hkc; rw [hbelow c o (by omega) hoc hkc] at q; cases q) (by omega)
        have e1 : e + (i - e) = i := by omega
        rw [e1] at this; exact this
      · by_cases hci : c = i
        · subst hci; exact Array.getElem?_setIfInBounds_self_of_lt (by rw [M.done.size]; exact h1)
        · rw [Array.getElem?_setIfInBounds_ne (Ne.symm hci)]; exact hbelow c o (by omega) hoc hkc
      · rw [Array.getElem?_setIfInBounds_ne (by omega)]; exact M.hi c o (by omega) hoc hkc
    unfold wpOp
    simp only [List.getElem?_toArray, ho]
    rcases hstep with ⟨hw, hop⟩ | ⟨hw, rfl, hLs⟩
    · rw [if_pos (gdv_sound (dsts hds) hlook hw)]
      refine .inl ?_
      have operand : ∀ x v', (fun x => if x ∈ l[i].op.operands then look (tat l vs T i) x else none) x = some v' → v'.rep R γ (Ls e) (a.eval x) := by
        intro x v' hx
        by_cases hxo : x ∈ l[i].op.operands
        · simp only [hxo, if_true] at hx
          cases x with
          | tmp t =>
            obtain ⟨u, g1, g2⟩ := hlook t v' (by unfold Oper.looksAt; exact List.mem_append_left _ (List.mem_filterMap.2 ⟨.tmp t, by simpa using hxo, rfl⟩)) hx
            have : a.eval (.tmp t) = u := by simp [Act.eval, Array.getD_eq_getD_getElem?, g1]
            rw [this]; exact g2
          | const c => exact AV.ofVal_rep hx
          | global g => cases hx
          | func f =>
            injection hx with hx; subst hx
            exact .fn f #[] [] rfl (fun j v x hv => by simp at hv)
        · simp only [hxo, if_false] at hx; cases hx
      cases hk : lKind ti l[i].op with
      | false =>
        have hop2 := pass i _ v ho hk hop e M.le (fun c oc hoc hkc hcc => by
          refine hD.cross i c _ oc ho hoc hk hkc (fun ha => ?_) (fun ha => ?_)
          · have q := M.done.anc ha h3
            rcases hcc with ⟨c1, c2⟩ | ⟨c1, c2⟩
            · -- edges go back
              have back : ∀ i j, Anc l i j → j < i := by
                intro i j h
                induction h with
                | edge ho he hb => exact hD.back _ _ ho _ he hb
                | step ho he hb _ ih => have := hD.back _ _ ho _ he hb; omega
              have := back i c ha; omega
            · rw [M.hi c oc c1 hoc hkc] at q; cases q
          · rcases hcc with ⟨c1, c2⟩ | ⟨c1, c2⟩
            · have q := M.done.anc ha (fun o2 h2' => M.done.down c o2 h2' (M.lo c oc c2 hoc hkc))
              rw [h2] at q; cases q
            · have back : ∀ i j, Anc l i j → j < i := by
                intro i j h
                induction h with
                | edge ho he hb => exact hD.back _ _ ho _ he hb
                | step ho he hb _ ih => have := hD.back _ _ ho _ he hb; omega
              have := back c i ha; omega)
        have hop' := awOp_congr2 (ρ' := fun x => if x ∈ l[i].op.operands then look (tat l vs T i) x else none) (fun x hx => by simp only [hx, if_true]) hop2
        refine awOp_sound hti M.inv operand hop' ?_
        rintro v' L' R' γ' w' u ⟨rfl, rfl⟩ k1 k2 k3 k4
        obtain ⟨q1, q2⟩ := quietLo hk
        exact ih _ e R' γ' _ w' hcnt (hput e R' γ' w' u M.le q1 q2 k1 k2 k3 k4)
      | true =>
        obtain ⟨hei, hLe, q1, q2⟩ := chainAt hk
        rw [hLe] at hop
        have hop' := awOp_congr2 (ρ' := fun x => if x ∈ l[i].op.operands then look (tat l vs T i) x else none) (fun x hx => by simp only [hx, if_true]) hop
        refine awOp_sound hti M.inv operand hop' ?_
        rintro v' L' R' γ' w' u ⟨rfl, rfl⟩ k1 k2 k3 k4
        exact ih _ (i + 1) R' γ' _ w' hcnt (hput (i + 1) R' γ' w' u (by omega) q1 q2 k1 k2 k3 k4)
    · rw [if_neg (by rw [gdv_sound (dsts hds) hlook hw]; decide)]
      cases hk : lKind ti l[i].op with
      | false =>
        obtain ⟨q1, q2⟩ := quietLo hk
        exact ih _ e R γ _ w hcnt (hput e R γ w Go.undef M.le q1 q2 M.inv (Ext.refl _ _ _) Mv.refl rfl)
      | true =>
        obtain ⟨hei, hLe, q1, q2⟩ := chainAt hk
        have hLi : Ls (i + 1) = Ls e := hLs.trans hLe
        refine ih _ (i + 1) R γ _ w hcnt (hput (i + 1) R γ w Go.undef (by omega) q1 q2 ?_ (Ext.refl _ _ _) ?_ rfl)
        · rw [hLi]; exact M.inv
        · rw [hLi]; exact Mv.refl

/-- A region that draws its order. -/
theorem aw_drawn2 (hti : TIok P ti) {Q : AX → Tm → List Ob → Prop} {T : Tm} {L : List Ob} {id : Nat} {l : List Oper} (ds : List (Option Tmp)) (hds : l.map (·.dst) = ds) (hmix : P.follows .mixedOrders = true) (hc : drawOK2 ti l = true) (h : awOps P ti N ds (Q .normal) l T L) : Aw P N n0 (.region id l.toArray true) Q T L := by
  intro hn B R γ w a hi hT
  have hD := draw2_of hc
  obtain ⟨vs, Ls, h1, h0, h2, h3⟩ := trace2 l T L h
  subst h0
  have hiD : Inv B R γ (Ls 0) { w with drawn := w.drawn + 1 } := ⟨hi.len, hi.val, fun id x g hx hg => (hi.obj id x g hx hg).mv Mv.refl (fun _ _ => rfl) (fun _ _ _ h => h), hi.inj, hi.new, hi.bsz⟩
  have heD : Ext B R R w { w with drawn := w.drawn + 1 } := ⟨⟨rfl, rfl, rfl, Nat.le_refl _, fun _ _ => rfl⟩, PH.sub_refl _, fun _ _ _ => rfl⟩
  refine wp_region_any hmix ?_
  have hsz : l.toArray.size = l.length := by simp
  rw [hsz]
  refine any2 hti hds (B := B) hD h1 h2 h3 (R0 := R) (γ0 := γ) (w0 := w) ?_ l.length (Array.replicate l.length false) 0 R γ a { w with drawn := w.drawn + 1 } ?_ ?_
  · intro T' L' R' γ' w' a' q1 q2 q3 q4 q5
    exact ⟨.normal, T', L', R', γ', rfl, q1, q2, q3, q4, MvN.of hn q5⟩
  · unfold cntB
    exact Nat.le_trans List.countP_le_length (by simp)
  · have hf : ∀ i : Nat, i < l.length → (Array.replicate l.length false)[i]? = some false := fun i hi => by simp [hi]
    have ht : ∀ i : Nat, (Array.replicate l.length false)[i]? ≠ some true := by
      intro i e
      by_cases hi : i < l.length
      · rw [hf i hi] at e; cases e
      · rw [Array.getElem?_eq_none (by simp; omega)] at e; cases e
    exact ⟨hiD, hT.size, hT.defers, ⟨by simp, fun i o _ e => absurd e (ht i)⟩, by omega, fun c _ hc => by omega, fun c o _ hoc _ => hf c (List.getElem?_eq_some_iff.1 hoc).1, fun i o d v e => absurd e (ht i), fun t x hx _ => hT.slot t x hx, heD, Mv.refl⟩
end
end Go.Proofs.YtnbnpnmkgemdeaaGreatDoor

namespace Go.Proofs.YtnbnpnmkgemdeaaGreatDoor
open Go.RowKit

/-- The Bool on which a guarded operation hangs. -/
def gdb (ds : List (Option Tmp)) (T : Tm) : Option (Nat × Bool) → Option Bool
  | none => none
  | some (j, _) => match ds[j]? with
    | some (some d) => match T.lookup d with
      | some (.one (.c (.bool b))) => some b
      | _ => none
    | _ => none

section
variable {P : Program} {ti : TI} {N : Nat} {ds : List (Option Tmp)} {K : Tm → List Ob → Prop} {o : Oper} {rest : List Oper} {T : Tm} {L : List Ob}

theorem gd_true {A B : Prop} {g : Option (Nat × Bool)} (h : gdv ds T g = some true) (ha : A) : gd ds T A B g := by
  cases g with
  | none => exact ha
  | some p =>
    obtain ⟨j, want⟩ := p
    simp only [gdv] at h
    simp only [gd]
    split at h
    · rename_i d hd
      simp only [hd]
      split at h
      · rename_i b hb
        simp only [hb]
        refine ⟨fun _ => ha, fun e => ?_⟩
        subst e
        cases want <;> simp at h
      · cases h
      · cases h
    · cases h
theorem gd_false {A B : Prop} {g : Option (Nat × Bool)} (h : gdv ds T g = some false) (hb : B) : gd ds T A B g := by
  cases g with
  | none => cases h
  | some p =>
    obtain ⟨j, want⟩ := p
    simp only [gdv] at h
    simp only [gd]
    split at h
    · rename_i d hd
      simp only [hd]
      split at h
      · rename_i b hbb
        simp only [hbb]
        refine ⟨fun e => ?_, fun _ => hb⟩
        subst e
        cases b <;> simp at h
      · rename_i hbb
        simp only [hbb]
        exact hb
      · cases h
    · cases h

theorem dOK_some {d : Nat} (hd : o.dst = some d) (hN : Nat.blt d N = true) : dOK N o.dst := by
  rw [hd]; show d < N; exact Nat.blt_eq ▸ hN
theorem st_nil (h : K T L) : awOps P ti N ds K [] T L := h
theorem st_pop {v : AV} {φ : Prop} {d : Nat} (hd : o.dst = some d) (hN : Nat.blt d N = true) (hg : gdv ds T o.guard = some true) (hp : pop ti (look T) L o.op = some (v, φ)) (hφ : φ) (h : awOps P ti N ds K rest ((d, v) :: T) L) : awOps P ti N ds K (o :: rest) T L :=
  ⟨dOK_some hd hN, gd_true hg (.inl ⟨v, φ, hp, hφ, by rw [hd]; exact h⟩)⟩
theorem st_lit {v : AV} {φ : Prop} {d : Nat} (hd : o.dst = some d) (hN : Nat.blt d N = true) (hg : gdv ds T o.guard = some true) (hp : litOp ti (look T) o.op = some (v, φ)) (hφ : φ) (h : awOps P ti N ds K rest ((d, v) :: T) L) : awOps P ti N ds K (o :: rest) T L :=
  ⟨dOK_some hd hN, gd_true hg (.inr (.inl ⟨v, φ, hp, hφ, by rw [hd]; exact h⟩))⟩
theorem st_lop {v : AV} {L' : List Ob} {φ : Prop} {d : Nat} (hd : o.dst = some d) (hN : Nat.blt d N = true) (hg : gdv ds T o.guard = some true) (hp : lop ti (look T) L o.op = some (v, L', φ)) (hφ : φ) (h : awOps P ti N ds K rest ((d, v) :: T) L') : awOps P ti N ds K (o :: rest) T L :=
  ⟨dOK_some hd hN, gd_true hg (.inr (.inr (.inl ⟨v, L', φ, hp, hφ, by rw [hd]; exact h⟩)))⟩
theorem st_store {v : AV} {L' : List Ob} {φ : Prop} (hd : o.dst = none) (hg : gdv ds T o.guard = some true) (hp : lop ti (look T) L o.op = some (v, L', φ)) (hφ : φ) (h : awOps P ti N ds K rest T L') : awOps P ti N ds K (o :: rest) T L :=
  ⟨by rw [hd]; trivial, gd_true hg (.inr (.inr (.inl ⟨v, L', φ, hp, hφ, by rw [hd]; exact h⟩)))⟩
theorem st_call {g : FuncId} {ps : List PV} {r : CV} {d : Nat} {v : AV} (hd : o.dst = some d) (hN : Nat.blt d N = true) (hg : gdv ds T o.guard = some true) (hp : callOp (look T) o.op = some (g, ps)) (hc : Pure P g ps r) (hv : r.av = v) (h : awOps P ti N ds K rest ((d, v) :: T) L) : awOps P ti N ds K (o :: rest) T L :=
  ⟨dOK_some hd hN, gd_true hg (.inr (.inr (.inr (.inl ⟨g, ps, r, hp, hc, by rw [hd, hv]; exact h⟩))))⟩
theorem st_call0 {g : FuncId} {ps : List PV} {r : CV} (hd : o.dst = none) (hg : gdv ds T o.guard = some true) (hp : callOp (look T) o.op = some (g, ps)) (hc : Pure P g ps r) (h : awOps P ti N ds K rest T L) : awOps P ti N ds K (o :: rest) T L :=
  ⟨by rw [hd]; trivial, gd_true hg (.inr (.inr (.inr (.inl ⟨g, ps, r, hp, hc, by rw [hd]; exact h⟩))))⟩
theorem st_take {g : FuncId} {es es' : List (List AC)} {t k d : Nat} {ps : List PV} (hd : o.dst = some d) (hN : Nat.blt d N = true) (hg : gdv ds T o.guard = some true) (hp : callOpO ti (look T) o.op = some (g, es, some t, ps)) (hL : L[t]? = some (.spare es.length k)) (hc : PureO P g es k ps es')
    (h : awOps P ti N ds K rest ((d, .one (.own es' L.length)) :: T) (L.set t .dead ++ [.spare es'.length k])) : awOps P ti N ds K (o :: rest) T L :=
  ⟨dOK_some hd hN, gd_true hg (.inr (.inr (.inr (.inr (.inl ⟨g, es, t, k, ps, es', hp, hL, hc, by rw [hd]; exact h⟩)))))⟩
theorem st_take0 {g : FuncId} {es' : List (List AC)} {k d : Nat} {ps : List PV} (hd : o.dst = some d) (hN : Nat.blt d N = true) (hg : gdv ds T o.guard = some true) (hp : callOpO ti (look T) o.op = some (g, [], none, ps)) (hc : PureO P g [] k ps es')
    (h : awOps P ti N ds K rest ((d, .one (.own es' L.length)) :: T) (L ++ [.spare es'.length k])) : awOps P ti N ds K (o :: rest) T L :=
  ⟨dOK_some hd hN, gd_true hg (.inr (.inr (.inr (.inr (.inr (.inl ⟨g, k, ps, es', hp, hc, by rw [hd]; exact h⟩))))))⟩
/-- A call that is handed objects of the caller's. -/
theorem st_run (σ : List Nat) {g : FuncId} {L0 L1 L' : List Ob} {args as : List AV} {r r' : AV} {d : Nat} (hd : o.dst = some d) (hN : Nat.blt d N = true) (hg : gdv ds T o.guard = some true) (hp : callOpR ti (look T) o.op = some (g, as)) (hc : Run P g L0 args L1 r) (ha : as = args.map (AV.ren σ)) (hF : RunFits σ L0 args L)
    (hr : r.ren (outIds σ L.length L1.length) = r') (hL : joinL σ L L1 = L') (h : awOps P ti N ds K rest ((d, r') :: T) L') : awOps P ti N ds K (o :: rest) T L :=
  ⟨dOK_some hd hN, gd_true hg (.inr (.inr (.inr (.inr (.inr (.inr (.inl ⟨σ, g, L0, args, L1, r, by rw [hp, ha], hF, hc, by rw [hd, hr, hL]; exact h⟩)))))))⟩
theorem st_run0 (σ : List Nat) {g : FuncId} {L0 L1 L' : List Ob} {args as : List AV} {r : AV} (hd : o.dst = none) (hg : gdv ds T o.guard = some true) (hp : callOpR ti (look T) o.op = some (g, as)) (hc : Run P g L0 args L1 r) (ha : as = args.map (AV.ren σ)) (hF : RunFits σ L0 args L)
    (hL : joinL σ L L1 = L') (h : awOps P ti N ds K rest T L') : awOps P ti N ds K (o :: rest) T L :=
  ⟨by rw [hd]; trivial, gd_true hg (.inr (.inr (.inr (.inr (.inr (.inr (.inl ⟨σ, g, L0, args, L1, r, by rw [hp, ha], hF, hc, by rw [hd, hL]; exact h⟩)))))))⟩
/-- An operation told by what it does. -/
theorem st_sop {v : AV} {L' : List Ob} {d : Nat} (hd : o.dst = some d) (hN : Nat.blt d N = true) (hg : gdv ds T o.guard = some true) (hl : lKind ti o.op = true) (hsf : ti.soft = false) (hs : Sop P (look T) L o.op v L') (h : awOps P ti N ds K rest ((d, v) :: T) L') : awOps P ti N ds K (o :: rest) T L :=
  ⟨dOK_some hd hN, gd_true hg (.inr (.inr (.inr (.inr (.inr (.inr (.inr ⟨v, L', ⟨hl, fun e => by rw [hsf] at e; cases e⟩, hs, by rw [hd]; exact h⟩)))))))⟩
theorem st_sop0 {v : AV} {L' : List Ob} (hd : o.dst = none) (hg : gdv ds T o.guard = some true) (hl : lKind ti o.op = true) (hsf : ti.soft = false) (hs : Sop P (look T) L o.op v L') (h : awOps P ti N ds K rest T L') : awOps P ti N ds K (o :: rest) T L :=
  ⟨by rw [hd]; trivial, gd_true hg (.inr (.inr (.inr (.inr (.inr (.inr (.inr ⟨v, L', ⟨hl, fun e => by rw [hsf] at e; cases e⟩, hs, by rw [hd]; exact h⟩)))))))⟩
/-- .. that only looks. -/
theorem st_sopq {v : AV} {d : Nat} (hd : o.dst = some d) (hN : Nat.blt d N = true) (hg : gdv ds T o.guard = some true) (hl : lKind ti o.op = true) (hk : sk o.op = 4) (hs : Sop P (look T) L o.op v L) (h : awOps P ti N ds K rest ((d, v) :: T) L) : awOps P ti N ds K (o :: rest) T L :=
  ⟨dOK_some hd hN, gd_true hg (.inr (.inr (.inr (.inr (.inr (.inr (.inr ⟨v, L, ⟨hl, fun _ => .inr ⟨hk, rfl⟩⟩, hs, by rw [hd]; exact h⟩)))))))⟩
/-- .. in a region that draws its order. -/
theorem st_soph {v : AV} {L' : List Ob} {d : Nat} (hd : o.dst = some d) (hN : Nat.blt d N = true) (hg : gdv ds T o.guard = some true) (hl : lKind ti o.op = true) (hk : sk o.op = 0) (hs : Sop P (look T) L o.op v L') (h : awOps P ti N ds K rest ((d, v) :: T) L') : awOps P ti N ds K (o :: rest) T L :=
  ⟨dOK_some hd hN, gd_true hg (.inr (.inr (.inr (.inr (.inr (.inr (.inr ⟨v, L', ⟨hl, fun _ => .inl hk⟩, hs, by rw [hd]; exact h⟩)))))))⟩
theorem st_skip {d : Nat} (hd : o.dst = some d) (hN : Nat.blt d N = true) (hg : gdv ds T o.guard = some false) (h : awOps P ti N ds K rest ((d, .undef) :: T) L) : awOps P ti N ds K (o :: rest) T L :=
  ⟨dOK_some hd hN, gd_false hg (by rw [hd]; exact h)⟩
theorem st_skip0 (hd : o.dst = none) (hg : gdv ds T o.guard = some false) (h : awOps P ti N ds K rest T L) : awOps P ti N ds K (o :: rest) T L :=
  ⟨by rw [hd]; trivial, gd_false hg (by rw [hd]; exact h)⟩
theorem st_if {b : Bool} (_ : gdb ds T o.guard = some b) (h1 : b = true → awOps P ti N ds K (o :: rest) T L) (h2 : b = false → awOps P ti N ds K (o :: rest) T L) : awOps P ti N ds K (o :: rest) T L := by
  cases hb : b
  · exact h2 hb
  · exact h1 hb
end

theorem lookup_all {β : Type} {l : List (Nat × β)} {Pr : Nat → β → Prop} (h : ∀ p ∈ l, Pr p.1 p.2) : ∀ t v, l.lookup t = some v → Pr t v := by
  intro t v hv
  induction l with
  | nil => cases hv
  | cons p l ih =>
    obtain ⟨k, x⟩ := p
    rw [List.lookup_cons] at hv
    by_cases e : t = k
    · subst e; simp at hv; subst hv; exact h (t, x) (by simp)
    · have : (t == k) = false := by simpa using e
      rw [this] at hv
      exact ih (fun p hp => h p (List.mem_cons_of_mem _ hp)) hv
theorem all_of {α : Type} {l : List α} {f : α → Bool} {Pr : α → Prop} (h : l.all f = true) (hf : ∀ x, f x = true → Pr x) : ∀ x ∈ l, Pr x := fun x hx => hf x (List.all_eq_true.1 h x hx)

def TI.of (sz : List (Nat × Nat)) (ag : List (Nat × Bool)) (el : List (Nat × Nat)) (fl : List (Nat × List (Nat × Nat))) (ze : List (Nat × AV)) (bt : List (Nat × Nat)) (ki : List (Nat × TypeDesc)) (st zo : List Nat) (eq : List (Nat × List Sc)) (ow : List Nat) : TI where
  size := fun t => sz.lookup t
  agg := fun t => ag.lookup t
  elem := fun t => el.lookup t
  field := fun s i => match fl.lookup s with
    | some fs => fs[i]?
    | none => none
  zero := fun t => ze.lookup t
  bytes := fun t => bt.lookup t
  kind := fun t => ki.lookup t
  struct := fun t => st.contains t
  zok := fun t => zo.contains t
  eqs := fun t => eq.lookup t
  owns := fun f => ow.contains f
def zokB (P : Program) (t : TypeId) : Bool :=
  match P.info? t with
  | some i => match i.zero with
    | some z => z.cells.size == i.size
    | none => false
  | none => false
theorem zok_of {P : Program} {t : TypeId} (h : zokB P t = true) : ∀ k, tsize P t = some k → tzero P t k := by
  intro k hk
  unfold zokB at h
  unfold tsize at hk
  split at h
  · rename_i i hi
    split at h
    · rename_i z hz
      rw [hi] at hk
      simp at hk
      simp at h
      exact ⟨i, z, hi, hz, hk, by rw [h, hk]⟩
    · cases h
  · cases h
theorem TI.of_ok {P : Program} {sz : List (Nat × Nat)} {ag : List (Nat × Bool)} {el : List (Nat × Nat)} {fl : List (Nat × List (Nat × Nat))} {ze : List (Nat × AV)} {bt : List (Nat × Nat)} {ki : List (Nat × TypeDesc)} {st zo : List Nat} {eq : List (Nat × List Sc)} {ow : List Nat}
    (h1 : (sz.all fun p => tsize P p.1 == some p.2) = true) (h2 : (ag.all fun p => tagg P p.1 == some p.2) = true) (h3 : (el.all fun p => telem P p.1 == some p.2) = true)
    (h4 : (fl.all fun p => (List.range p.2.length).all fun i => tfield P p.1 i == p.2[i]?) = true) (h5 : ∀ p ∈ ze, zeroOf P p.1 = some p.2) (h6 : (bt.all fun p => tbytes P p.1 == some p.2) = true) (h7 : ∀ p ∈ ki, P.underlying p.1 = some p.2)
    (h8 : (st.all fun t => tstruct P t) = true) (h9 : (zo.all fun t => zokB P t) = true)
    (h10 : ∀ p ∈ eq, P.eqGuardType P.depth p.1 = false ∧ ∀ xs ys, fitsS p.2 xs = true → fitsS p.2 ys = true → EqRuns P p.1 xs ys) : TIok P (TI.of sz ag el fl ze bt ki st zo eq ow) := by
  refine ⟨lookup_all (all_of h1 fun p hp => by simpa using hp), lookup_all (all_of h2 fun p hp => by simpa using hp), lookup_all (all_of h3 fun p hp => by simpa using hp), fun s i r h => ?_, lookup_all h5, lookup_all (all_of h6 fun p hp => by simpa using hp), lookup_all h7, fun t h => ?_, fun t h => ?_, lookup_all h10⟩
  · simp only [TI.of] at h
    split at h
    · rename_i fs hf
      have := lookup_all (Pr := fun s fs => ((List.range fs.length).all fun i => tfield P s i == fs[i]?) = true) (all_of h4 fun p hp => hp) s fs hf
      have hi : i < fs.length := (List.getElem?_eq_some_iff.1 h).1
      have h2 := List.all_eq_true.1 this i (by simpa using hi)
      rw [← h]; simpa using h2
    · cases h
  · exact List.all_eq_true.1 h8 t (by simpa [TI.of] using h)
  · exact zok_of (List.all_eq_true.1 h9 t (by simpa [TI.of] using h))
end Go.Proofs.YtnbnpnmkgemdeaaGreatDoor

namespace Go.Proofs.YtnbnpnmkgemdeaaGreatDoor
open Go.RowKit
section
variable {P : Program} {ti : TI} {N n0 : Nat} {Q : AX → Tm → List Ob → Prop} {T : Tm} {L : List Ob}
def drawM (ti : TI) (l : List Oper) : Nat := (l.takeWhile fun o => !lKind ti o.op).length
theorem aw_drawn (hti : TIok P ti) {id : Nat} {l : List Oper} (ds : List (Option Tmp)) (hds : l.map (·.dst) = ds) (hmix : P.follows .mixedOrders = true) (hc : drawOK ti l (drawM ti l) = true) (h : awOps P ti N ds (Q .normal) l T L) : Aw P N n0 (.region id l.toArray true) Q T L :=
  aw_draw hti _ ds hds hmix hc h
theorem res_of {rs : List ResultVar} {ps : List PV} {φ : Prop} {r : CV} (h : resAll ti T L rs = some (ps, φ)) (hφ : φ) (e : cvOf ps = r) : Res ti rs T L r := by
  unfold Res
  rw [h]
  exact ⟨hφ, e⟩
theorem end_ret {rs : List ResultVar} {r : CV} (h : Res ti rs T L r) : (AX.ret = AX.normal ∨ AX.ret = AX.ret) ∧ Res ti rs T L r := ⟨.inr rfl, h⟩
theorem end_normal {rs : List ResultVar} {r : CV} (h : Res ti rs T L r) : (AX.normal = AX.normal ∨ AX.normal = AX.ret) ∧ Res ti rs T L r := ⟨.inl rfl, h⟩
end
/-- Trees of plain data. -/
def vBool (b : Bool) : CV := .val (.one (.bool b))
def vInt (n : Int) : CV := .val (.one (.int .i64 n))
theorem vBool_eq {a b : Bool} (h : a = b) : CV.val (.one (.bool a)) = vBool b := by rw [h]; rfl
theorem vInt_eq {a b : Int} (h : a = b) : CV.val (.one (.int .i64 a)) = vInt b := by rw [h]; rfl
end Go.Proofs.YtnbnpnmkgemdeaaGreatDoor

namespace Go.Proofs.YtnbnpnmkgemdeaaGreatDoor
open Go.RowKit

def slotsOK (T' : Tm) : Tm → Prop
  | [] => True
  | (t, x) :: T => T'.lookup t = some x ∧ slotsOK T' T
def belowT (n : Nat) : Tm → Prop
  | [] => True
  | (_, x) :: T => x.below n ∧ belowT n T
def belowL (n : Nat) : List Ob → Prop
  | [] => True
  | x :: L => x.below n ∧ belowL n L
theorem fits_mk {T' T : Tm} {L' L : List Ob} (h1 : slotsOK T' T) (G : List Ob) (h2 : L' = L ++ G) (h3 : belowT L.length T) (h4 : belowL L.length L) : Fits T' L' T L := by
  refine ⟨fun p hp => ?_, ⟨G, h2⟩, fun p hp => ?_, fun x hx => ?_⟩
  · clear h3 h2
    induction T with
    | nil => cases hp
    | cons q T ih =>
      rcases List.mem_cons.1 hp with rfl | hp
      · exact h1.1
      · exact ih h1.2 hp
  · clear h1 h2
    induction T with
    | nil => cases hp
    | cons q T ih =>
      rcases List.mem_cons.1 hp with rfl | hp
      · exact h3.1
      · exact ih h3.2 hp
  · clear h1 h2 h3
    generalize hn : L.length = n at h4
    clear hn
    induction L with
    | nil => cases hx
    | cons q L ih =>
      rcases List.mem_cons.1 hx with rfl | hx
      · exact h4.1
      · exact ih hx h4.2
theorem slot_int {k : IntKind} {a b : Int} (h : a = b) : some (AV.one (.c (.int k a))) = some (AV.one (.c (.int k b))) := by rw [h]
theorem slot_lst {a b : List (List AC)} (h : a = b) : some (AV.one (.c (.lst a))) = some (AV.one (.c (.lst b))) := by rw [h]
theorem slot_own {a b : List (List AC)} {t : Nat} (h : a = b) : some (AV.one (.own a t)) = some (AV.one (.own b t)) := by rw [h]
theorem slot_bool {a b : Bool} (h : a = b) : some (AV.one (.c (.bool a))) = some (AV.one (.c (.bool b))) := by rw [h]
theorem wrap_in {x : Int} (h : -9223372036854775808 ≤ x ∧ x ≤ 9223372036854775807) : IntKind.i64.wrap x = x := IntWalk.i64_in x (by omega)
theorem wrap_eq {x y : Int} (h : x = y) (hb : -9223372036854775808 ≤ y ∧ y ≤ 9223372036854775807) : IntKind.i64.wrap x = y := by rw [h]; exact wrap_in hb
theorem idx_map {α : Type} {l : List α} {f : α → List AC} {i : Nat} {x : α} (h : l[i]? = some x) : (l.map f)[((i : Nat) : Int).toNat]? = some (f x) := by
  rw [Int.toNat_natCast, List.getElem?_map, h]; rfl
theorem idx_at {es : List (List AC)} {i : Int} {n : Nat} {e : List AC} (hi : i = n) (h : es[n]? = some e) : es[i.toNat]? = some e := by
  rw [hi, Int.toNat_natCast]; exact h
theorem get_of_lt {α : Type} {l : List α} {i : Nat} (h : i < l.length) : ∃ x, l[i]? = some x := ⟨l[i], List.getElem?_eq_getElem h⟩
theorem take_succ {α : Type} {l : List α} {i : Nat} {x : α} (h : l[i]? = some x) : l.take (i + 1) = l.take i ++ [x] := by
  obtain ⟨hi, rfl⟩ := List.getElem?_eq_some_iff.1 h
  rw [List.take_succ_eq_append_getElem hi]
section
variable {P : Program} {ti : TI} {N n0 : Nat} {ds : List (Option Tmp)} {K : Tm → List Ob → Prop} {o : Oper} {rest : List Oper} {T : Tm} {L : List Ob}
theorem pop_idx {ρ : Operand → Option AV} {t : TypeId} {x ix : Operand} {vx : AV} {es : List (List AC)} {k0 : IntKind} {i : Int} {k : Nat} {e : List AC} (hx : ρ x = some vx) (hl : listOf vx = some es) (hi : ρ ix = some (.one (.c (.int k0 i)))) (hk : (ti.elem t).bind ti.size = some k) (he : es[i.toNat]? = some e) :
    pop ti ρ L (.indexAddr t x ix) = some (.one (.c (.ref e)), 0 ≤ i ∧ e.length = k) := by
  simp only [pop, hx, hi]
  split
  · rename_i h1 h2
    injection h1 with h1; subst h1; simp [listOf] at hl
  · rename_i h1 h2
    injection h1 with h1; injection h2 with h2; subst h1 h2
    simp only [popIndexAddr, hl, hk, he]
  · rename_i h; exact (h _ _ rfl rfl).elim
/-- An element of a slice, at an index that is not a numeral. -/
theorem st_idx {t : TypeId} {x ix : Operand} {vx : AV} {es : List (List AC)} {k0 : IntKind} {i : Int} {k d : Nat} {e : List AC} (hd : o.dst = some d) (hN : Nat.blt d N = true) (hg : gdv ds T o.guard = some true) (ho : o.op = .indexAddr t x ix) (hx : look T x = some vx) (hl : listOf vx = some es) (hi : look T ix = some (.one (.c (.int k0 i))))
    (hk : (ti.elem t).bind ti.size = some k) (he : es[i.toNat]? = some e) (hφ : 0 ≤ i ∧ e.length = k) (h : awOps P ti N ds K rest ((d, .one (.c (.ref e))) :: T) L) : awOps P ti N ds K (o :: rest) T L :=
  st_pop hd hN hg (by rw [ho]; exact pop_idx hx hl hi hk he) hφ h
/-- A cell of an element of a row that is written. -/
theorem pop_ldr {ρ : Operand → Option AV} {t : TypeId} {p : Operand} {id ver i off k : Nat} {es : List (List SV)} {e : List SV} {x : SV} (hp : ρ p = some (.one (.ep id ver i off))) (hL : L[id]? = some (.row ver es k)) (ha : ti.agg t = some false) (he : es[i]? = some e) (hx : e[off]? = some x) :
    pop ti ρ L (.load t p) = some (.one x, ver = ver) := by
  simp only [pop, hp, Option.bind_some, popLoad, hL, he, ha, hx]
theorem st_ldr {t : TypeId} {p : Operand} {id ver i off k d : Nat} {es : List (List SV)} {e : List SV} {x : SV} (hd : o.dst = some d) (hN : Nat.blt d N = true) (hg : gdv ds T o.guard = some true) (ho : o.op = .load t p) (hp : look T p = some (.one (.ep id ver i off))) (hL : L[id]? = some (.row ver es k)) (ha : ti.agg t = some false) (he : es[i]? = some e) (hx : e[off]? = some x)
    (h : awOps P ti N ds K rest ((d, .one x) :: T) L) : awOps P ti N ds K (o :: rest) T L :=
  st_pop hd hN hg (by rw [ho]; exact pop_ldr hp hL ha he hx) rfl h
theorem pop_ldrs {ρ : Operand → Option AV} {t : TypeId} {p : Operand} {id ver i off k n : Nat} {es : List (List SV)} {e : List SV} (hp : ρ p = some (.one (.ep id ver i off))) (hL : L[id]? = some (.row ver es k)) (ha : ti.agg t = some true) (hn : ti.size t = some n) (he : es[i]? = some e) :
    pop ti ρ L (.load t p) = some (.agg ((e.drop off).take n), ver = ver ∧ off + n ≤ e.length) := by
  simp only [pop, hp, Option.bind_some, popLoad, hL, he, ha, hn]
theorem st_ldrs {t : TypeId} {p : Operand} {id ver i off k d n : Nat} {es : List (List SV)} {e xs : List SV} (hd : o.dst = some d) (hN : Nat.blt d N = true) (hg : gdv ds T o.guard = some true) (ho : o.op = .load t p) (hp : look T p = some (.one (.ep id ver i off))) (hL : L[id]? = some (.row ver es k)) (ha : ti.agg t = some true) (hn : ti.size t = some n) (he : es[i]? = some e) (hx : (e.drop off).take n = xs) (hle : off + n ≤ e.length)
    (h : awOps P ti N ds K rest ((d, .agg xs) :: T) L) : awOps P ti N ds K (o :: rest) T L :=
  st_pop hd hN hg (φ := ver = ver ∧ off + n ≤ e.length) (by rw [ho]; exact pop_ldrs hp hL ha hn he) ⟨rfl, hle⟩ (by rw [hx]; exact h)
theorem lop_str {ρ : Operand → Option AV} {t : TypeId} {p q : Operand} {id ver i off k : Nat} {es : List (List SV)} {e xs : List SV} (hp : ρ p = some (.one (.ep id ver i off))) (hq : (ρ q).bind AV.cells = some xs) (hL : L[id]? = some (.row ver es k)) (he : es[i]? = some e) :
    lop ti ρ L (.store t p q) = some (.undef, L.set id (.row ver (es.set i (splice e off xs)) k), ver = ver ∧ off + xs.length ≤ e.length ∧ ti.size t = some xs.length) := by
  simp only [lop, hp, hq, hL, he]
/-- A store into an element of a row. -/
theorem st_str {t : TypeId} {p q : Operand} {id ver i off k : Nat} {es : List (List SV)} {e xs : List SV} {L' : List Ob} (hd : o.dst = none) (hg : gdv ds T o.guard = some true) (ho : o.op = .store t p q) (hp : look T p = some (.one (.ep id ver i off))) (hq : (look T q).bind AV.cells = some xs) (hL : L[id]? = some (.row ver es k)) (he : es[i]? = some e)
    (hφ : off + xs.length ≤ e.length ∧ ti.size t = some xs.length) (hL' : L.set id (.row ver (es.set i (splice e off xs)) k) = L') (h : awOps P ti N ds K rest T L') : awOps P ti N ds K (o :: rest) T L :=
  st_store hd hg (φ := ver = ver ∧ off + xs.length ≤ e.length ∧ ti.size t = some xs.length) (by rw [ho]; exact lop_str hp hq hL he) ⟨rfl, hφ⟩ (by rw [hL']; exact h)
/-- A slot's value without its rights. -/
theorem aw_norm {Q : AX → Tm → List Ob → Prop} {c : Code} (t : Nat) {x : SV} {y : AC} (ht : T.lookup t = some (.one x)) (hy : x.norm = some y) (h : Aw P N n0 c Q ((t, .one (.c y)) :: T) L) : Aw P N n0 c Q T L := by
  intro hn B R γ w a hi hT
  refine h hn B R γ w a hi ⟨hT.size, hT.defers, fun t' z hz => ?_⟩
  rw [List.lookup_cons] at hz
  by_cases e : t' = t
  · subst e
    simp at hz; subst hz
    obtain ⟨u, h1, h2⟩ := hT.slot t' _ ht
    exact ⟨u, h1, SV.norm_rep h2 hy⟩
  · have : (t' == t) = false := by simpa using e
    rw [this] at hz
    exact hT.slot t' z hz
end
end Go.Proofs.YtnbnpnmkgemdeaaGreatDoor

namespace Go.Proofs.YtnbnpnmkgemdeaaGreatDoor
open Go.RowKit Go.MapKept

/-- The place of a key. -/
def kidx (s : ByteArray) : List (AC × AV) → Option Nat
  | [] => none
  | p :: r => match p.1 with
    | .str t => if s = t then some 0 else (kidx s r).map (· + 1)
    | _ => (kidx s r).map (· + 1)
def strKeys (kvs : List (AC × AV)) : Prop := ∀ p ∈ kvs, ∃ t, p.1 = .str t
def mval (kvs : List (AC × AV)) (s : ByteArray) (z : AV) : AV :=
  match kidx s kvs with
  | some i => match kvs[i]? with
    | some p => p.2
    | none => z
  | none => z
def mput (kvs : List (AC × AV)) (s : ByteArray) (v : AV) : List (AC × AV) :=
  match kidx s kvs with
  | some i => kvs.set i (.str s, v)
  | none => kvs ++ [(.str s, v)]
def mplace (kvs : List (AC × AV)) (s : ByteArray) : Nat :=
  match kidx s kvs with
  | some i => i
  | none => kvs.length
def pvOf (v : AV) : PV :=
  match v.norm with
  | some p => p
  | none => .one (.bool false)

section
variable {P : Program} {ti : TI} {B : Nat → Prop} {N : Nat} {R : PH} {γ : List Gh} {L : List Ob} {w : World} {ρ : Operand → Option AV}

theorem kidx_lt {s : ByteArray} : ∀ {kvs : List (AC × AV)} {i : Nat}, kidx s kvs = some i → ∃ p, kvs[i]? = some p ∧ p.1 = .str s
  | p :: r, i, h => by
    unfold kidx at h
    split at h
    · rename_i t ht
      split at h
      · rename_i e; injection h with h; subst h e; exact ⟨p, rfl, ht⟩
      · cases hr : kidx s r with
        | none => simp [hr] at h
        | some j => simp [hr] at h; subst h; obtain ⟨q, h1, h2⟩ := kidx_lt hr; exact ⟨q, by simpa using h1, h2⟩
    · cases hr : kidx s r with
      | none => simp [hr] at h
      | some j => simp [hr] at h; subst h; obtain ⟨q, h1, h2⟩ := kidx_lt hr; exact ⟨q, by simpa using h1, h2⟩

theorem find_kidx {s : ByteArray} : ∀ (l : List MapEntry) (kvs : List (AC × AV)) (i0 : Nat), l.length = kvs.length → strKeys kvs → (∀ (j : Nat) e p, l[j]? = some e → kvs[j]? = some p → PRep R e.key p.1) →
    (kidx s kvs = none ∧ Instr.findNow .string (.string s) l i0 = some none) ∨ (∃ i e, kidx s kvs = some i ∧ l[i]? = some e ∧ e.key = .string s ∧ Instr.findNow .string (.string s) l i0 = some (some (i0 + i, e.val)))
  | [], [], i0, _, _, _ => .inl ⟨rfl, rfl⟩
  | e :: l, p :: kvs, i0, hl, hs, hr => by
    obtain ⟨t, ht⟩ := hs p (by simp)
    have hk := hr 0 e p rfl rfl
    rw [ht] at hk
    generalize hek : e.key = ek at hk
    cases hk
    unfold kidx Instr.findNow
    simp only [ht, hek, Instr.sameNow]
    by_cases e1 : s = t
    · subst e1
      refine .inr ⟨0, e, by simp, rfl, hek, ?_⟩
      have : (s == s) = true := (bytes_beq s s).2 rfl
      simp [this]
    · have : (s == t) = false := by
        cases hb : (s == t) with
        | false => rfl
        | true => exact absurd ((bytes_beq s t).1 hb) e1
      simp only [this, e1, if_false]
      rcases find_kidx l kvs (i0 + 1) (by simpa using hl) (fun q hq => hs q (List.mem_cons_of_mem _ hq)) (fun j e' q h1 h2 => hr (j + 1) e' q (by simpa using h1) (by simpa using h2)) with ⟨h1, h2⟩ | ⟨i, e', h1, h2, h3, h4⟩
      · exact .inl ⟨by simp [h1], h2⟩
      · exact .inr ⟨i + 1, e', by simp [h1], by simpa using h2, h3, by rw [h4]; simp; omega⟩

theorem sop_makeMap {t : TypeId} : Sop P ρ L (.makeMap t none) (.one (.mp L.length)) (L ++ [.map []]) := by
  intro B R γ w ev o ho hi hρ hfv
  obtain ⟨dst, op, type, pos, after, guard⟩ := o
  simp only at ho; subst ho
  refine ⟨w.alloc (.map #[] 0), R, γ ++ [.box w.heap.size], .inl ⟨.map (some w.heap.size), ?_, w.heap.size, rfl, ?_⟩, ?_, ⟨Kept.alloc hi.bsz _, PH.sub_refl _, fun _ _ _ => rfl⟩, Mv.push _ _ hi.len⟩
  · simp [execOp, Instr.makeMap]
  · rw [List.getElem?_append_right (by rw [hi.len]; omega), hi.len]; simp
  · exact hi.push _ _ _ rfl ⟨⟨#[], heap_new w _, rfl, fun j e p he _ => by simp at he⟩, fun o => hi.none_at o⟩

theorem Mv.turnMap {id : Nat} {kvs kvs' : List (AC × AV)} (hL : L[id]? = some (.map kvs)) : Mv R R γ γ L (L.set id (.map kvs')) := by
  have hlt : id < L.length := (List.getElem?_eq_some_iff.1 hL).1
  refine ⟨PH.sub_refl _, by simp, fun t n k _ h => ⟨n, ?_, Nat.le_refl _, fun _ => rfl⟩, fun t ver es k _ h => ⟨ver, es, ?_, Nat.le_refl _, fun _ => ⟨rfl, rfl⟩⟩, fun _ _ h => h⟩
  · by_cases e : t = id
    · subst e; rw [List.getElem?_set_self hlt] at h; cases h
    · rw [List.getElem?_set_ne (Ne.symm e)] at h; exact h
  · by_cases e : t = id
    · subst e; rw [List.getElem?_set_self hlt] at h; cases h
    · rw [List.getElem?_set_ne (Ne.symm e)] at h; exact h
theorem map_at (hi : Inv B R γ L w) {id b : Nat} {kvs : List (AC × AV)} (hL : L[id]? = some (.map kvs)) (hg : γ[id]? = some (.box b)) :
    (∃ es, w.heap[b]? = some (.map es es.size) ∧ es.size = kvs.length ∧ ∀ (j : Nat) e p, es[j]? = some e → kvs[j]? = some p → e.born = j ∧ PRep R e.key p.1 ∧ p.2.rep R γ L e.val) := (hi.obj id _ _ hL hg).1
/-- A map turns. -/
theorem map_turn (hi : Inv B R γ L w) {id b : Nat} {kvs kvs' : List (AC × AV)} {es : Array MapEntry} (hL : L[id]? = some (.map kvs)) (hg : γ[id]? = some (.box b)) (hb : w.heap[b]? = some (.map es es.size)) (es' : Array MapEntry) (hs : es'.size = kvs'.length)
    (h : ∀ (j : Nat) e p, es'[j]? = some e → kvs'[j]? = some p → e.born = j ∧ PRep R e.key p.1 ∧ p.2.rep R γ L e.val) :
    Inv B R γ (L.set id (.map kvs')) { w with heap := w.heap.setIfInBounds b (.map es' es'.size) } ∧ Ext B R R w { w with heap := w.heap.setIfInBounds b (.map es' es'.size) } := by
  have hh := Go.MapKept.heap_set (o' := .map es' es'.size) hb
  have hm := Mv.turnMap (R := R) (γ := γ) (kvs' := kvs') hL
  have hnb := (hi.new id _ b hg rfl).1
  have hR : ∀ o, R b o = none := (hi.obj id _ _ hL hg).2
  refine ⟨hi.turn hL hg rfl hm (fun b' hne => hh.2 b' hne) (by simp) (fun _ _ _ => rfl) (fun o u e => by rw [hR o] at e; cases e) ⟨⟨es', hh.1, hs, fun j e p he hp => ?_⟩, hR⟩, ⟨⟨rfl, rfl, rfl, by simp, fun b' hb' => hh.2 b' (fun e => hnb (by rw [← e]; exact hb'))⟩, PH.sub_refl _, fun _ _ _ => rfl⟩⟩
  obtain ⟨a1, a2, a3⟩ := h j e p he hp
  exact ⟨a1, a2, AV.mv hm a3⟩

theorem run_zero_of {et : TypeId} {z : AV} (hz : zeroOf P et = some z) : ∃ u, (zeroValue et).run P w = .ok u w ∧ z.rep R γ L u := by
  unfold zeroOf at hz
  cases hinf : P.info? et with
  | none => simp [hinf] at hz
  | some inf =>
    simp only [hinf, Option.bind_some] at hz
    cases hzz : inf.zero with
    | none => simp [hzz] at hz
    | some u =>
      simp only [hzz, Option.bind_some] at hz
      exact ⟨u, by simp [zeroValue, typeInfo, program, Sem.run, hinf, hzz], AV.ofVal_rep hz⟩

theorem sop_lookup {t kt et : TypeId} {x k : Operand} {s : ByteArray} {id : Nat} {kvs : List (AC × AV)} {z : AV} (hx : ρ x = some (.one (.mp id))) (hk : ρ k = some (.one (.c (.str s)))) (hL : L[id]? = some (.map kvs)) (hkeys : strKeys kvs)
    (ht : P.underlying t = some (.map kt et)) (hkt : P.underlying kt = some .string) (hz : zeroOf P et = some z) : Sop P ρ L (.lookup t x k false) (mval kvs s z) L := by
  intro B R γ w ev o ho hi hρ hfv
  obtain ⟨dst, op, type, pos, after, guard⟩ := o
  simp only at ho; subst ho
  obtain ⟨b, hxv, hg⟩ := (hρ _ (by simp [Op.operands, Call.operands]) _ hx)
  have hkv := (hρ _ (by simp [Op.operands, Call.operands]) _ hk)
  generalize hke : ev k = kv at hkv
  cases hkv
  obtain ⟨es, hb, hsz, hent⟩ := map_at hi hL hg
  have hchk := fun e => Go.MapKept.run_checkKey (P := P) (w := w) (k := .string s) hkt trivial e 9999
  obtain ⟨zu, hzr, hzrep⟩ := run_zero_of (P := P) (w := w) (R := R) (γ := γ) (L := L) hz
  rcases find_kidx (R := R) (s := s) es.toList kvs 0 (by simpa using hsz) hkeys (fun j e p he hp => (hent j e p (by simpa using he) hp).2.1) with ⟨h1, h2⟩ | ⟨i, e, h1, h2, h3, h4⟩
  · refine ⟨w, R, γ, .inl ⟨zu, ?_, ?_⟩, hi, Ext.refl _ _ _, Mv.refl⟩
    · simp [execOp, Instr.lookup, hxv, hke, run_underlying ht, Go.MapKept.run_getObj_map hb, hchk, Go.MapKept.run_findKey hkt h2, hzr, Result.andThen]
    · unfold mval; rw [h1]; exact hzrep
  · obtain ⟨p, hp, hp1⟩ := kidx_lt h1
    refine ⟨w, R, γ, .inl ⟨e.val, ?_, ?_⟩, hi, Ext.refl _ _ _, Mv.refl⟩
    · simp [execOp, Instr.lookup, hxv, hke, run_underlying ht, Go.MapKept.run_getObj_map hb, hchk, Go.MapKept.run_findKey hkt h4, Result.andThen]
    · unfold mval; rw [h1]; simp only [hp]; exact (hent i e p (by simpa using h2) hp).2.2

theorem norm_rep' {v : AV} {p : PV} {u : Value} (h : v.norm = some p) (hu : v.rep R γ L u) : p.rep R u := AV.norm_rep hu h

theorem tup2 {p q : PV} {u v : Value} (hp : p.rep R u) (hq : q.rep R v) : (AV.tup [p, q]).rep R γ L (.tuple #[u, v]) := by
  refine ⟨#[u, v], rfl, rfl, fun j x y hx hy => ?_⟩
  match j, hx, hy with
  | 0, hx, hy => simp at hx hy; subst hx hy; exact hp
  | 1, hx, hy => simp at hx hy; subst hx hy; exact hq
  | j + 2, hx, hy => simp at hx

theorem sop_lookup_ok {t kt et : TypeId} {x k : Operand} {s : ByteArray} {id : Nat} {kvs : List (AC × AV)} {z : AV} {p : PV} (hx : ρ x = some (.one (.mp id))) (hk : ρ k = some (.one (.c (.str s)))) (hL : L[id]? = some (.map kvs)) (hkeys : strKeys kvs)
    (ht : P.underlying t = some (.map kt et)) (hkt : P.underlying kt = some .string) (hz : zeroOf P et = some z) (hp : (mval kvs s z).norm = some p) : Sop P ρ L (.lookup t x k true) (.tup [p, .one (.bool (kidx s kvs).isSome)]) L := by
  intro B R γ w ev o ho hi hρ hfv
  obtain ⟨dst, op, type, pos, after, guard⟩ := o
  simp only at ho; subst ho
  obtain ⟨b, hxv, hg⟩ := (hρ _ (by simp [Op.operands, Call.operands]) _ hx)
  have hkv := (hρ _ (by simp [Op.operands, Call.operands]) _ hk)
  generalize hke : ev k = kv at hkv
  cases hkv
  obtain ⟨es, hb, hsz, hent⟩ := map_at hi hL hg
  have hchk := fun e => Go.MapKept.run_checkKey (P := P) (w := w) (k := .string s) hkt trivial e 9999
  obtain ⟨zu, hzr, hzrep⟩ := run_zero_of (P := P) (w := w) (R := R) (γ := γ) (L := L) hz
  rcases find_kidx (R := R) (s := s) es.toList kvs 0 (by simpa using hsz) hkeys (fun j e p he hp => (hent j e p (by simpa using he) hp).2.1) with ⟨h1, h2⟩ | ⟨i, e, h1, h2, h3, h4⟩
  · refine ⟨w, R, γ, .inl ⟨.tuple #[zu, .bool false], ?_, ?_⟩, hi, Ext.refl _ _ _, Mv.refl⟩
    · simp [execOp, Instr.lookup, hxv, hke, run_underlying ht, Go.MapKept.run_getObj_map hb, hchk, Go.MapKept.run_findKey hkt h2, hzr, Result.andThen]
    · unfold mval at hp; rw [h1] at hp ⊢; exact tup2 (norm_rep' hp hzrep) (.bool false)
  · obtain ⟨q, hq, hq1⟩ := kidx_lt h1
    refine ⟨w, R, γ, .inl ⟨.tuple #[e.val, .bool true], ?_, ?_⟩, hi, Ext.refl _ _ _, Mv.refl⟩
    · simp [execOp, Instr.lookup, hxv, hke, run_underlying ht, Go.MapKept.run_getObj_map hb, hchk, Go.MapKept.run_findKey hkt h4, Result.andThen]
    · unfold mval at hp; rw [h1] at hp ⊢; simp only [hq] at hp; exact tup2 (norm_rep' hp (hent i e q (by simpa using h2) hq).2.2) (.bool true)

theorem get_modify {es : Array MapEntry} {i j : Nat} {f : MapEntry → MapEntry} {e : MapEntry} (h : (es.modify i f)[j]? = some e) : ∃ e0, es[j]? = some e0 ∧ e = if j = i then f e0 else e0 := by
  rw [Array.getElem?_modify] at h
  split at h
  · rename_i e1; subst e1
    cases h0 : es[i]? with
    | none => simp [h0] at h
    | some e0 => simp [h0] at h; exact ⟨e0, rfl, by simp [h]⟩
  · rename_i hne; exact ⟨e, h, by rw [if_neg (Ne.symm hne)]⟩
theorem push_map {es : Array MapEntry} {kvs : List (AC × AV)} (hsz : es.size = kvs.length) (hent : ∀ (j : Nat) e p, es[j]? = some e → kvs[j]? = some p → e.born = j ∧ PRep R e.key p.1 ∧ p.2.rep R γ L e.val) {key val : Value} {kx : AC} {v : AV} (hk : PRep R key kx) (hv : v.rep R γ L val) :
    ∀ (j : Nat) e p, (es.push { key, val, born := es.size })[j]? = some e → (kvs ++ [(kx, v)])[j]? = some p → e.born = j ∧ PRep R e.key p.1 ∧ p.2.rep R γ L e.val := by
  intro j e p he hp
  by_cases hj : j < es.size
  · rw [Array.getElem?_push_lt hj] at he
    rw [List.getElem?_append_left (by omega)] at hp
    exact hent j e p (by rw [Array.getElem?_eq_getElem hj]; exact he) hp
  · have hj2 : j = es.size := by
      have := (Array.getElem?_eq_some_iff.1 he).1
      simp at this; omega
    subst hj2
    rw [Array.getElem?_push_size] at he
    rw [List.getElem?_append_right (by omega), hsz] at hp
    simp at he hp; subst he hp
    exact ⟨rfl, hk, hv⟩

theorem sop_mapUpdate {t kt et : TypeId} {x k y : Operand} {s : ByteArray} {id : Nat} {kvs : List (AC × AV)} {v : AV} (hx : ρ x = some (.one (.mp id))) (hk : ρ k = some (.one (.c (.str s)))) (hy : ρ y = some v) (hL : L[id]? = some (.map kvs)) (hkeys : strKeys kvs)
    (ht : P.underlying t = some (.map kt et)) (hkt : P.underlying kt = some .string) : Sop P ρ L (.mapUpdate t x k y) .undef (L.set id (.map (mput kvs s v))) := by
  intro B R γ w ev o ho hi hρ hfv
  obtain ⟨dst, op, type, pos, after, guard⟩ := o
  simp only at ho; subst ho
  obtain ⟨b, hxv, hg⟩ := (hρ _ (by simp [Op.operands, Call.operands]) _ hx)
  have hkv := (hρ _ (by simp [Op.operands, Call.operands]) _ hk)
  have hyv := (hρ _ (by simp [Op.operands, Call.operands]) _ hy)
  generalize hke : ev k = kv at hkv
  generalize hye : ev y = yv at hyv
  cases hkv
  obtain ⟨es, hb, hsz, hent⟩ := map_at hi hL hg
  have hchk := fun e => Go.MapKept.run_checkKey (P := P) (w := w) (k := .string s) hkt trivial e 9999
  rcases find_kidx (R := R) (s := s) es.toList kvs 0 (by simpa using hsz) hkeys (fun j e p he hp => (hent j e p (by simpa using he) hp).2.1) with ⟨h1, h2⟩ | ⟨i, e, h1, h2, h3, h4⟩
  · obtain ⟨i1, i2⟩ := map_turn hi (kvs' := kvs ++ [(.str s, v)]) hL hg hb (es.push { key := .string s, val := yv, born := es.size }) (by simp [hsz]) (push_map hsz hent (.str s) hyv)
    refine ⟨_, R, γ, .inr ⟨?_, rfl⟩, ?_, i2, Mv.turnMap hL⟩
    · simp [execOp, Instr.mapUpdate, hxv, hke, hye, run_underlying ht, Go.MapKept.run_getObj_map hb, hchk, Go.MapKept.run_findKey hkt h2, Go.MapKept.run_setObj_map _ hb, Result.andThen]
    · unfold mput; rw [h1]; exact i1
  · have hj : es[i]? = some e := by simpa using h2
    obtain ⟨p, hp, hp1⟩ := kidx_lt h1
    obtain ⟨i1, i2⟩ := map_turn hi (kvs' := kvs.set i (.str s, v)) hL hg hb (es.modify i fun e => { e with key := .string s, val := yv }) (by simp [hsz]) (fun j e' p' he' hp' => by
      obtain ⟨e0, h5, h6⟩ := get_modify he'
      by_cases hji : j = i
      · subst hji
        rw [List.getElem?_set_self (List.getElem?_eq_some_iff.1 hp).1] at hp'; injection hp' with hp'; subst hp'
        rw [if_pos rfl] at h6; subst h6
        exact ⟨(hent j e0 p h5 hp).1, .str s, hyv⟩
      · rw [List.getElem?_set_ne (Ne.symm hji)] at hp'
        rw [if_neg hji] at h6; subst h6
        exact hent j _ p' h5 hp')
    rw [Array.size_modify] at i1 i2
    refine ⟨_, R, γ, .inr ⟨?_, rfl⟩, ?_, i2, Mv.turnMap hL⟩
    · simp [execOp, Instr.mapUpdate, hxv, hke, hye, run_underlying ht, Go.MapKept.run_getObj_map hb, hchk, Go.MapKept.run_findKey hkt h4, hj, h3, run_keyThatStays (d := .string) (k := .string s) trivial, Go.MapKept.run_setObj_map _ hb, Result.andThen]
    · unfold mput; rw [h1]; exact i1

theorem sop_mapEntry {t kt et : TypeId} {x k : Operand} {s : ByteArray} {id : Nat} {kvs : List (AC × AV)} {z : AV} {p : PV} (hx : ρ x = some (.one (.mp id))) (hk : ρ k = some (.one (.c (.str s)))) (hL : L[id]? = some (.map kvs)) (hkeys : strKeys kvs)
    (ht : P.underlying t = some (.map kt et)) (hkt : P.underlying kt = some .string) (hz : zeroOf P et = some z) (hp : (mval kvs s z).norm = some p) : Sop P ρ L (.mapEntry t x k) (.tup [p, .one (.int .i64 (mplace kvs s))]) (L.set id (.map (mput kvs s (mval kvs s z)))) := by
  intro B R γ w ev o ho hi hρ hfv
  obtain ⟨dst, op, type, pos, after, guard⟩ := o
  simp only at ho; subst ho
  obtain ⟨b, hxv, hg⟩ := (hρ _ (by simp [Op.operands, Call.operands]) _ hx)
  have hkv := (hρ _ (by simp [Op.operands, Call.operands]) _ hk)
  generalize hke : ev k = kv at hkv
  cases hkv
  obtain ⟨es, hb, hsz, hent⟩ := map_at hi hL hg
  have hchk := fun e => Go.MapKept.run_checkKey (P := P) (w := w) (k := .string s) hkt trivial e 9999
  obtain ⟨zu, hzr, hzrep⟩ := run_zero_of (P := P) (w := w) (R := R) (γ := γ) (L := L) hz
  rcases find_kidx (R := R) (s := s) es.toList kvs 0 (by simpa using hsz) hkeys (fun j e p he hp => (hent j e p (by simpa using he) hp).2.1) with ⟨h1, h2⟩ | ⟨i, e, h1, h2, h3, h4⟩
  · obtain ⟨i1, i2⟩ := map_turn hi (kvs' := kvs ++ [(.str s, z)]) hL hg hb (es.push { key := .string s, val := zu, born := es.size }) (by simp [hsz]) (push_map hsz hent (.str s) hzrep)
    have hmv : mval kvs s z = z := by unfold mval; rw [h1]
    rw [hmv] at hp ⊢
    refine ⟨_, R, γ, .inl ⟨.tuple #[zu, .int .i64 es.size], ?_, ?_⟩, ?_, i2, Mv.turnMap hL⟩
    · simp [execOp, Instr.mapEntry, hxv, hke, run_underlying ht, Go.MapKept.run_getObj_map hb, hchk, Go.MapKept.run_findKey hkt h2, hzr, Go.MapKept.run_setObj_map _ hb, Result.andThen, goInt]
    · refine tup2 (norm_rep' hp hzrep) ?_
      unfold mplace; rw [h1, ← hsz]; exact .int _ _
    · unfold mput; rw [h1]; exact i1
  · have hj : es[i]? = some e := by simpa using h2
    obtain ⟨q, hq, hq1⟩ := kidx_lt h1
    have hmv : mval kvs s z = q.2 := by unfold mval; rw [h1]; simp only [hq]
    have hent' := hent i e q hj hq
    rw [hmv] at hp ⊢
    obtain ⟨i1, i2⟩ := map_turn hi (kvs' := kvs.set i (.str s, q.2)) hL hg hb (es.modify i fun e => { e with key := .string s }) (by simp [hsz]) (fun j e' p' he' hp' => by
      obtain ⟨e0, h5, h6⟩ := get_modify he'
      by_cases hji : j = i
      · subst hji
        rw [List.getElem?_set_self (List.getElem?_eq_some_iff.1 hq).1] at hp'; injection hp' with hp'; subst hp'
        rw [if_pos rfl] at h6; subst h6
        exact ⟨(hent j e0 q h5 hq).1, .str s, (hent j e0 q h5 hq).2.2⟩
      · rw [List.getElem?_set_ne (Ne.symm hji)] at hp'
        rw [if_neg hji] at h6; subst h6
        exact hent j _ p' h5 hp')
    rw [Array.size_modify] at i1 i2
    refine ⟨_, R, γ, .inl ⟨.tuple #[e.val, .int .i64 i], ?_, ?_⟩, ?_, i2, Mv.turnMap hL⟩
    · simp [execOp, Instr.mapEntry, hxv, hke, run_underlying ht, Go.MapKept.run_getObj_map hb, hchk, Go.MapKept.run_findKey hkt h4, hj, h3, run_keyThatStays (d := .string) (k := .string s) trivial, Go.MapKept.run_setObj_map _ hb, Result.andThen, goInt, hent'.1]
    · refine tup2 (norm_rep' hp hent'.2.2) ?_
      unfold mplace; rw [h1]; exact .int _ _
    · unfold mput; rw [h1]; exact i1

theorem find_born {es : Array MapEntry} (h : ∀ (j : Nat) e, es[j]? = some e → e.born = j) {i : Nat} (hi : i < es.size) : es.findIdx? (fun e => (e.born : Int) == (i : Int)) = some i := by
  rw [Array.findIdx?_eq_some_iff_getElem]
  refine ⟨hi, ?_, fun j hj => ?_⟩
  · have := h i es[i] (Array.getElem?_eq_getElem hi)
    simp [this]
  · have := h j es[j] (Array.getElem?_eq_getElem (by omega))
    simp [this]; omega

theorem sop_entryStore {t : TypeId} {x k y : Operand} {id i : Nat} {kvs : List (AC × AV)} {q : AC × AV} {v : AV} (hx : ρ x = some (.one (.mp id))) (hk : ρ k = some (.one (.c (.int .i64 i)))) (hy : ρ y = some v) (hL : L[id]? = some (.map kvs)) (hq : kvs[i]? = some q) :
    Sop P ρ L (.entryStore t x k y) .undef (L.set id (.map (kvs.set i (q.1, v)))) := by
  intro B R γ w ev o ho hi hρ hfv
  obtain ⟨dst, op, type, pos, after, guard⟩ := o
  simp only at ho; subst ho
  obtain ⟨b, hxv, hg⟩ := (hρ _ (by simp [Op.operands, Call.operands]) _ hx)
  have hkv := (hρ _ (by simp [Op.operands, Call.operands]) _ hk)
  have hyv := (hρ _ (by simp [Op.operands, Call.operands]) _ hy)
  generalize hke : ev k = kv at hkv
  generalize hye : ev y = yv at hyv
  cases hkv
  obtain ⟨es, hb, hsz, hent⟩ := map_at hi hL hg
  have hlt := (List.getElem?_eq_some_iff.1 hq).1
  have hfi := find_born (es := es) (fun j e he => by
    have : j < kvs.length := by rw [← hsz]; exact (Array.getElem?_eq_some_iff.1 he).1
    exact (hent j e _ he (List.getElem?_eq_getElem this)).1) (i := i) (by omega)
  obtain ⟨i1, i2⟩ := map_turn hi (kvs' := kvs.set i (q.1, v)) hL hg hb (es.modify i fun e => { e with val := yv }) (by simp [hsz]) (fun j e' p' he' hp' => by
      obtain ⟨e0, h5, h6⟩ := get_modify he'
      by_cases hji : j = i
      · subst hji
        rw [List.getElem?_set_self hlt] at hp'; injection hp' with hp'; subst hp'
        rw [if_pos rfl] at h6; subst h6
        exact ⟨(hent j e0 q h5 hq).1, (hent j e0 q h5 hq).2.1, hyv⟩
      · rw [List.getElem?_set_ne (Ne.symm hji)] at hp'
        rw [if_neg hji] at h6; subst h6
        exact hent j _ p' h5 hp')
  rw [Array.size_modify] at i1 i2
  refine ⟨_, R, γ, .inr ⟨?_, rfl⟩, i1, i2, Mv.turnMap hL⟩
  simp [execOp, Instr.entryStore, hxv, hke, hye, Go.MapKept.run_getObj_map hb, asInt, asIntOf, hfi, Go.MapKept.run_setObj_map _ hb, Result.andThen]

/-- What a closure takes along. -/
def capOf : AV → Option Cap
  | .one (.c x) => some (.c x)
  | .one (.ptr id off) => some (.ptr id off)
  | v => match v.norm with
    | some (.one x) => some (.c x)
    | _ => none
def capsOfR (ρ : Operand → Option AV) : List Operand → Option (List Cap)
  | [] => some []
  | x :: xs => match (ρ x).bind capOf, capsOfR ρ xs with
    | some c, some cs => some (c :: cs)
    | _, _ => none
theorem capOf_rep {v : AV} {c : Cap} {u : Value} (h : capOf v = some c) (hu : v.rep R γ L u) : c.rep R γ u := by
  unfold capOf at h
  split at h
  · injection h with h; subst h; exact hu
  · injection h with h; subst h; exact hu
  · split at h
    · rename_i x hx; injection h with h; subst h; exact norm_rep' hx hu
    · cases h
theorem capsOfR_rep {ev : Operand → Value} : ∀ {xs : List Operand} {cs : List Cap}, (∀ x, x ∈ xs → ∀ v, ρ x = some v → v.rep R γ L (ev x)) → capsOfR ρ xs = some cs → xs.length = cs.length ∧ ∀ (j : Nat) x c, xs[j]? = some x → cs[j]? = some c → c.rep R γ (ev x)
  | [], cs, _, h => by injection h with h; subst h; exact ⟨rfl, fun j x c h => by simp at h⟩
  | x :: xs, cs, hρ, h => by
    unfold capsOfR at h
    split at h
    · rename_i c cs' hc hcs
      injection h with h; subst h
      obtain ⟨h1, h2⟩ := capsOfR_rep (fun y hy => hρ y (List.mem_cons_of_mem _ hy)) hcs
      refine ⟨by simp [h1], fun j y d hy hd => ?_⟩
      cases j with
      | zero =>
        simp at hy hd; subst hy hd
        cases hx : ρ x with
        | none => simp [hx] at hc
        | some v => simp [hx] at hc; exact capOf_rep hc (hρ x (by simp) _ hx)
      | succ j => exact h2 j y d (by simpa using hy) (by simpa using hd)
    · cases h
theorem sop_makeFunc {f : FuncId} {captured : Array Operand} {caps : List Cap} (hc : capsOfR ρ captured.toList = some caps) : Sop P ρ L (.makeFunc (.func f) #[] captured) (.one (.clo f caps)) L := by
  intro B R γ w ev o ho hi hρ hfv
  obtain ⟨dst, op, type, pos, after, guard⟩ := o
  simp only at ho; subst ho
  obtain ⟨h1, h2⟩ := capsOfR_rep (fun y hy => hρ y (by simp [Op.operands]; simpa using hy)) hc
  refine ⟨w, R, γ, .inl ⟨.func (.func f) #[] (captured.map ev), by simp [execOp, Instr.makeFunc], captured.map ev, rfl, by simpa using h1, fun j u x hu hx => ?_⟩, hi, Ext.refl _ _ _, Mv.refl⟩
  rw [Array.getElem?_map] at hu
  cases hq : captured[j]? with
  | none => simp [hq] at hu
  | some y => simp [hq] at hu; subst hu; exact h2 j y x (by simpa using hq) hx
end
end Go.Proofs.YtnbnpnmkgemdeaaGreatDoor

namespace Go.Proofs.YtnbnpnmkgemdeaaGreatDoor
open Go.RowKit Go.MapKept

/-- Cells that read as values of slots. -/
structure CellsS (R : PH) (γ : List Gh) (L : List Ob) (k : Nat) (xs : List (List SV)) (news : List Value) : Prop where
  len : news.length = xs.length * k
  wide : ∀ e ∈ xs, e.length = k
  rep : ∀ (i : Nat) e (j : Nat) u x, xs[i]? = some e → news[i * k + j]? = some u → e[j]? = some x → x.rep R γ L u
  one : ∀ u ∈ news, u.oneCell' = true

/-- The bytes of a string as a row. -/
def byteRow (s : ByteArray) : List (List SV) := s.data.toList.map fun b => [.c (.int .u8 b.toNat)]

section
variable {P : Program} {ti : TI} {B : Nat → Prop} {N : Nat} {R : PH} {γ : List Gh} {L : List Ob} {w : World} {ρ : Operand → Option AV}

/-- An object turns, and its place with it. -/
theorem Mv.setOb {id : Nat} {x x' : Ob} {g' : Gh} {R' : PH} (hs : PH.sub R R') (hl : γ.length = L.length) (hx : L[id]? = some x) (hnb : ∀ b, γ[id]? ≠ some (.box b)) (htok : ∀ n k, x' ≠ .spare n k) (hrow : ∀ ver' es' k, x' = .row ver' es' k → ∃ ver es, x = .row ver es k ∧ ver < ver') :
    Mv R R' γ (γ.set id g') L (L.set id x') := by
  have hlt : id < L.length := (List.getElem?_eq_some_iff.1 hx).1
  refine ⟨hs, by simp, fun t n k _ h => ?_, fun t ver es k _ h => ?_, fun j b h => ?_⟩
  · by_cases e : t = id
    · subst e; rw [List.getElem?_set_self hlt] at h; injection h with h; exact absurd h (htok n k)
    · rw [List.getElem?_set_ne (Ne.symm e)] at h; exact ⟨n, h, Nat.le_refl _, fun _ => by rw [List.getElem?_set_ne (Ne.symm e)]⟩
  · by_cases e : t = id
    · subst e; rw [List.getElem?_set_self hlt] at h; injection h with h
      obtain ⟨v0, e0, h1, h2⟩ := hrow ver es k h
      exact ⟨v0, e0, by rw [hx, h1], by omega, fun q => by omega⟩
    · rw [List.getElem?_set_ne (Ne.symm e)] at h; exact ⟨ver, es, h, Nat.le_refl _, fun _ => ⟨rfl, by rw [List.getElem?_set_ne (Ne.symm e)]⟩⟩
  · have : j ≠ id := by rintro rfl; exact hnb b h
    rw [List.getElem?_set_ne (Ne.symm this)]; exact h

theorem Inv.rehome (hi : Inv B R γ L w) {id : Nat} {x x' : Ob} {g' : Gh} (hx : L[id]? = some x) (hg' : g'.block = some w.heap.size) (o : Obj) (hm : Mv R R γ (γ.set id g') L (L.set id x'))
    (hobj : ObjOK R (γ.set id g') (L.set id x') (w.drew.alloc o) x' g') : Inv B R (γ.set id g') (L.set id x') (w.drew.alloc o) := by
  have hlt : id < L.length := (List.getElem?_eq_some_iff.1 hx).1
  have gcase : ∀ j h, (γ.set id g')[j]? = some h → (j = id ∧ h = g') ∨ (j ≠ id ∧ γ[j]? = some h) := by
    intro j h hh
    by_cases hj : j = id
    · subst hj
      rw [List.getElem?_set_self (by rw [hi.len]; exact hlt)] at hh
      injection hh with hh
      exact .inl ⟨rfl, hh.symm⟩
    · rw [List.getElem?_set_ne (Ne.symm hj)] at hh
      exact .inr ⟨hj, hh⟩
  have hold : ∀ b, b < w.heap.size → (w.drew.alloc o).heap[b]? = w.heap[b]? := fun b hb => heap_old w.drew _ hb
  have esz : (w.drew.alloc o).heap.size = w.heap.size + 1 := by show (w.heap.push _).size = _; simp
  refine ⟨by simp [hi.len], fun b o' u h => ?_, fun j y h hy hh => ?_, fun j1 j2 g1 g2 h1 h2 hne b hb => ?_, fun j h b hh hb => ?_, fun b hb => by have := hi.bsz b hb; omega⟩
  · have := hi.lt h
    rw [← hi.val _ _ _ h]
    exact World.cell?_of_block (w := w) (hold b this)
  · rcases gcase j h hh with ⟨rfl, rfl⟩ | ⟨hne, hh'⟩
    · rw [List.getElem?_set_self hlt] at hy
      injection hy with hy; subst hy
      exact hobj
    · rw [List.getElem?_set_ne (Ne.symm hne)] at hy
      exact (hi.obj j y h hy hh').mv hm (fun b hb => hold b (hi.new j h b hh' hb).2) (fun _ _ _ e => e)
  · rcases gcase j1 g1 h1 with ⟨a1, rfl⟩ | ⟨a1, a2⟩ <;> rcases gcase j2 g2 h2 with ⟨b1, rfl⟩ | ⟨b1, b2⟩
    · omega
    · rw [hg'] at hb; injection hb with hb; subst hb
      intro e; have := (hi.new j2 g2 _ b2 e).2; omega
    · have := (hi.new j1 g1 b a2 hb).2
      rw [hg']; simp; omega
    · exact hi.inj j1 j2 g1 g2 a2 b2 hne b hb
  · rcases gcase j h hh with ⟨_, rfl⟩ | ⟨_, b2⟩
    · rw [hg'] at hb; injection hb with hb; subst hb
      exact ⟨fun hB => by have := hi.bsz _ hB; omega, by omega⟩
    · have := hi.new j h b b2 hb
      exact ⟨this.1, by omega⟩

/-- An object dies; its block keeps its cells, which may be read by all from now on. -/
theorem Inv.kill (hi : Inv B R γ L w) {id : Nat} {x : Ob} {g : Gh} {b : Nat} (hx : L[id]? = some x) (hg : γ[id]? = some g) (hb : g.block = some b) (hnb : ∀ b, g ≠ .box b) {R' : PH} {w' : World} (hs : PH.sub R R')
    (hw : ∀ b', b' ≠ b → w'.heap[b']? = w.heap[b']?) (hsz : w'.heap.size = w.heap.size) (hR : ∀ b' o, b' ≠ b → R' b' o = R b' o) (hv : ∀ o u, R' b o = some u → w'.cell? ⟨b, o, none⟩ = some u) :
    Inv B R' (γ.set id .none) (L.set id .dead) w' ∧ Mv R R' γ (γ.set id .none) L (L.set id .dead) := by
  have hlt : id < L.length := (List.getElem?_eq_some_iff.1 hx).1
  have hm : Mv R R' γ (γ.set id .none) L (L.set id .dead) := Mv.setOb hs hi.len hx (fun b e => by rw [hg] at e; injection e with e; exact hnb b e) (fun _ _ e => by cases e) (fun _ _ _ e => by cases e)
  have gcase : ∀ j h, (γ.set id Gh.none)[j]? = some h → (j = id ∧ h = .none) ∨ (j ≠ id ∧ γ[j]? = some h) := by
    intro j h hh
    by_cases hj : j = id
    · subst hj
      rw [List.getElem?_set_self (by rw [hi.len]; exact hlt)] at hh
      injection hh with hh
      exact .inl ⟨rfl, hh.symm⟩
    · rw [List.getElem?_set_ne (Ne.symm hj)] at hh
      exact .inr ⟨hj, hh⟩
  refine ⟨⟨by simp [hi.len], fun b' o u h => ?_, fun j y h hy hh => ?_, fun j1 j2 g1 g2 h1 h2 hne b' hb' => ?_, fun j h b' hh hb' => ?_, fun b' hb' => by rw [hsz]; exact hi.bsz b' hb'⟩, hm⟩
  · by_cases hbb : b' = b
    · subst hbb; exact hv o u h
    · rw [hR b' o hbb] at h
      rw [← hi.val _ _ _ h]
      exact World.cell?_of_block (w := w) (hw b' hbb)
  · rcases gcase j h hh with ⟨rfl, rfl⟩ | ⟨hne, hh'⟩
    · rw [List.getElem?_set_self hlt] at hy
      injection hy with hy; subst hy
      trivial
    · rw [List.getElem?_set_ne (Ne.symm hne)] at hy
      have hne' : ∀ b', h.block = some b' → b' ≠ b := fun b' hb' e => hi.inj j id h g hh' hg hne b' hb' (by rw [hb, e])
      exact (hi.obj j y h hy hh').mv hm (fun b' hb' => hw b' (hne' b' hb')) (fun b' o hb' e => by rw [hR b' o (hne' b' hb')]; exact e)
  · rcases gcase j1 g1 h1 with ⟨a1, rfl⟩ | ⟨a1, a2⟩ <;> rcases gcase j2 g2 h2 with ⟨b1, rfl⟩ | ⟨b1, b2⟩
    · omega
    · cases hb'
    · exact fun e => by cases e
    · exact hi.inj j1 j2 g1 g2 a2 b2 hne b' hb'
  · rcases gcase j h hh with ⟨_, rfl⟩ | ⟨_, b2⟩
    · cases hb'
    · rw [hsz]; exact hi.new j h b' b2 hb'

/-- Sources of an append. -/
theorem CellsS.ofC {k : Nat} {xs : List (List AC)} {news : List Value} (h : Cells R k xs news) : CellsS R γ L k (xs.map (List.map SV.c)) news := by
  refine ⟨by rw [h.len]; simp, fun e he => ?_, fun i e j u x he hu hx => ?_, h.one⟩
  · obtain ⟨y, hy, rfl⟩ := List.mem_map.1 he; simpa using h.wide y hy
  · rw [List.getElem?_map] at he
    cases hq : xs[i]? with
    | none => simp [hq] at he
    | some y =>
      simp [hq] at he; subst he
      rw [List.getElem?_map] at hx
      cases hq2 : y[j]? with
      | none => simp [hq2] at hx
      | some z =>
        simp [hq2] at hx; subst hx
        obtain ⟨u', g1, g2⟩ := h.get i y j z hq hq2
        rw [hu] at g1; injection g1 with g1; subst g1
        exact g2

theorem CellsS.ofStr (s : ByteArray) : CellsS R γ L 1 (byteRow s) (byteCells s) := by
  refine ⟨by rw [byteCells_length]; simp [byteRow], fun e he => ?_, fun i e j u x he hu hx => ?_, fun u hu => ?_⟩
  · obtain ⟨y, hy, rfl⟩ := List.mem_map.1 he; rfl
  · unfold byteRow at he; unfold byteCells at hu
    rw [List.getElem?_map] at he
    cases hq : s.data.toList[i]? with
    | none => rw [hq] at he; simp at he
    | some y =>
      rw [hq] at he; simp at he; subst he
      have hj : j = 0 := by have := (List.getElem?_eq_some_iff.1 hx).1; simpa using this
      subst hj
      simp at hx; subst hx
      rw [Nat.mul_one, Nat.add_zero, List.getElem?_map, hq] at hu
      simp at hu; subst hu
      exact .int _ _
  · unfold byteCells at hu
    obtain ⟨y, hy, rfl⟩ := List.mem_map.1 hu; rfl
theorem CellsS.mv {R' : PH} {γ' : List Gh} {L' : List Ob} (h : Mv R R' γ γ' L L') {k : Nat} {xs : List (List SV)} {news : List Value} (hc : CellsS R γ L k xs news) : CellsS R' γ' L' k xs news :=
  ⟨hc.len, hc.wide, fun i e j u x he hu hx => SV.mv h (hc.rep i e j u x he hu hx), hc.one⟩
theorem CellsS.app {es xs : List (List SV)} {k : Nat} {olds news : List Value} (h : CellsS R γ L k es olds) (g : CellsS R γ L k xs news) : CellsS R γ L k (es ++ xs) (olds ++ news) := by
  refine ⟨by rw [List.length_append, h.len, g.len, List.length_append, Nat.add_mul], fun e he => ?_, fun i e j u x he hu hx => ?_, fun u hu => ?_⟩
  · rcases List.mem_append.1 he with he | he
    · exact h.wide e he
    · exact g.wide e he
  · by_cases hi : i < es.length
    · rw [List.getElem?_append_left hi] at he
      have hjk : j < k := by rw [← h.wide e (List.mem_of_getElem? he)]; exact (List.getElem?_eq_some_iff.1 hx).1
      rw [List.getElem?_append_left (by rw [h.len]; exact idx_lt hi hjk)] at hu
      exact h.rep i e j u x he hu hx
    · rw [List.getElem?_append_right (by omega)] at he
      have hle : es.length * k ≤ i * k := Nat.mul_le_mul_right _ (by omega)
      rw [List.getElem?_append_right (by rw [h.len]; omega), h.len] at hu
      refine g.rep (i - es.length) e j u x he ?_ hx
      rw [Nat.mul_sub_right_distrib] 
      have : i * k - es.length * k + j = i * k + j - es.length * k := by omega
      rw [this]; exact hu
  · rcases List.mem_append.1 hu with hu | hu
    · exact h.one u hu
    · exact g.one u hu
theorem SV.one_cell {x : SV} {u : Value} (h : x.rep R γ L u) : u.oneCell' = true := (SV.rep_one h).2
/-- The cells of a row. -/
theorem row_cells (hi : Inv B R γ L w) {id ver k b c : Nat} {es : List (List SV)} (hL : L[id]? = some (.row ver es k)) (hg : γ[id]? = some (.arr b c)) :
    ∃ vs E, w.heap[b]? = some (.cells vs E (0, 0)) ∧ (E = ver % 65536 ∧ 65536 ≤ ver) ∧ vs.size = c * k ∧ es.length ≤ c ∧ 0 < k ∧ CellsS R γ L k es (vs.toList.take (es.length * k)) ∧ ∀ o, R b o = none := by
  obtain ⟨⟨vs, E, h1, h2, h3⟩, h4, h5, h6, h7⟩ := hi.obj id _ _ hL hg
  have hle : es.length * k ≤ c * k := Nat.mul_le_mul_right _ h4
  have get : ∀ (i : Nat) e (j : Nat) u, es[i]? = some e → j < k → (vs.toList.take (es.length * k))[i * k + j]? = some u → vs[i * k + j]? = some u := by
    intro i e j u he hj hu
    rw [List.getElem?_take, if_pos (idx_lt (List.getElem?_eq_some_iff.1 he).1 hj)] at hu
    simpa using hu
  refine ⟨vs, E, h1.1, h1.2, h2, h4, h5, ⟨by simp; omega, h6, fun i e j u x he hu hx => ?_, fun u hu => ?_⟩, h7⟩
  · have hjk : j < k := by rw [← h6 e (List.mem_of_getElem? he)]; exact (List.getElem?_eq_some_iff.1 hx).1
    exact h3 i e j u x he (get i e j u he hjk hu) hx
  · obtain ⟨q, hq⟩ := List.mem_iff_getElem?.1 hu
    have hlt := (List.getElem?_eq_some_iff.1 hq).1
    have hq1 : q < es.length * k := by rw [List.length_take] at hlt; omega
    have hi1 : q / k < es.length := by rw [Nat.div_lt_iff_lt_mul h5]; exact hq1
    have hj1 : q % k < k := Nat.mod_lt _ h5
    have he := List.getElem?_eq_getElem hi1
    have hx := List.getElem?_eq_getElem (l := es[q / k]) (i := q % k) (by rw [h6 _ (List.mem_of_getElem? he)]; exact hj1)
    have hqe : q / k * k + q % k = q := by rw [Nat.mul_comm]; exact Nat.div_add_mod q k
    exact SV.one_cell (h3 (q / k) _ (q % k) u _ he (by
      rw [hqe]; rw [List.getElem?_take, if_pos hq1] at hq; simpa using hq) hx)

theorem app_row (hi : Inv B R γ L w) {t tx ty E : TypeId} {k by_ : Nat} {es xs : List (List SV)} {id ver n : Nat} {v x : Value} (ht : P.underlying t = some (.slice E)) (hk0 : 0 < k) (hz : tzero P E k) (hby : tbytes P E = some by_) (hE : ver % 65536 = E)
    (hL : L[id]? = some (.row ver es k)) (hv : (SV.sl id ver 0 n).rep R γ L v) (hn : es.length = n) {news : List Value} (hsrc : Src P k tx x xs.length news w) (hnews : CellsS R γ L k xs news)
    (hb1 : (n + xs.length) * by_ ≤ 140737488355328) (hb2 : n + xs.length ≤ 140737488355328) :
    ∃ u w' γ', (Builtin.append_ #[t, tx] ty #[v, x]).run P w = .ok u w' ∧ Inv B R γ' (L.set id (.row (ver + 65536) (es ++ xs) k)) w' ∧ Ext B R R w w' ∧ Mv R R γ γ' L (L.set id (.row (ver + 65536) (es ++ xs) k)) ∧
      (SV.sl id (ver + 65536) 0 (n + xs.length)).rep R γ' (L.set id (.row (ver + 65536) (es ++ xs) k)) u := by
  obtain ⟨inf, z, hinf, hzz, hisz, hzc⟩ := hz
  have hbytes : inf.bytes = by_ := by unfold tbytes at hby; rw [hinf] at hby; simpa using hby
  obtain ⟨hvc, hlt, hall⟩ := hv
  obtain ⟨hle, g, hg, hat⟩ := (hall _ es k hL).2 rfl
  have hsrc' : Src P inf.size tx x xs.length news w := by rw [hisz]; exact hsrc
  have hnl : news.length = xs.length * k := hnews.len
  have hglt : id < γ.length := by rw [hi.len]; exact hlt
  have hmv : ∀ g', (∀ b, g ≠ .box b) → Mv R R γ (γ.set id g') L (L.set id (.row (ver + 65536) (es ++ xs) k)) := fun g' hnb =>
    Mv.setOb (PH.sub_refl _) hi.len hL (fun b e => by rw [hg] at e; injection e with e; exact hnb b e) (fun _ _ e => by cases e) (fun ver' es' k' e => by injection e with e1 e2 e3; subst e1 e2 e3; exact ⟨ver, es, rfl, by omega⟩)
  -- growing
  have grow : ∀ (a : Option Addr) (c : Nat) (olds : List Value), v = .slice a n c → c < n + xs.length → (∀ b, g ≠ .box b) → CellsS R γ L k es olds → (Builtin.firstCells inf.size n (.slice a n c)).run P w.drew = .ok olds.toArray w.drew →
      ∃ u w' γ', (Builtin.append_ #[t, tx] ty #[v, x]).run P w = .ok u w' ∧ Inv B R γ' (L.set id (.row (ver + 65536) (es ++ xs) k)) w' ∧ Ext B R R w w' ∧ Mv R R γ γ' L (L.set id (.row (ver + 65536) (es ++ xs) k)) ∧
      (SV.sl id (ver + 65536) 0 (n + xs.length)).rep R γ' (L.set id (.row (ver + 65536) (es ++ xs) k)) u := by
    intro a c olds hva hc hnb holds hfc
    have hrun := run_append_grow_src (P := P) (w := w) t tx ty E inf z ht hinf hzz a n c olds hfc x xs.length news hsrc' hc (by omega) (by
      have h2 := nextslicecap_le hc
      have h3 : Builtin.nextslicecap (n + xs.length) c * inf.bytes ≤ 2 * (n + xs.length) * inf.bytes := Nat.mul_le_mul_right _ h2
      rw [hbytes] at h3 ⊢
      rw [Nat.mul_assoc] at h3
      omega)
    have hcap := grownCap_ge w (n + xs.length) c E
    generalize grownCap w (n + xs.length) c E = cap at hrun hcap
    have hm := hmv (.arr w.heap.size cap) hnb
    have happ := (holds.app hnews).mv hm
    have hal : (olds ++ news).length = (n + xs.length) * k := by rw [happ.len, List.length_append, hn]
    have hI := hi.rehome hL (g' := .arr w.heap.size cap) rfl (.cells ((olds ++ news).toArray ++ Builtin.zeroCells z.cells (cap - (n + xs.length))) E) hm (by
      refine ⟨⟨_, E, ⟨heap_new w.drew _, by rw [← hE]; show ver % 65536 = (ver + 65536) % 65536; omega, by omega⟩, ?_, fun i e j u x he hu hx => ?_⟩, by rw [List.length_append, hn]; exact hcap, hk0, happ.wide, fun o => hi.none_at o⟩
      · rw [Array.size_append, size_zeroCells, hzc]; simp only [List.size_toArray]; rw [hal, ← Nat.add_mul]; congr 1; omega
      · have hjk : j < k := by rw [← happ.wide e (List.mem_of_getElem? he)]; exact (List.getElem?_eq_some_iff.1 hx).1
        have hil : i < n + xs.length := by have := (List.getElem?_eq_some_iff.1 he).1; simpa [hn] using this
        rw [Array.getElem?_append_left (by simp only [List.size_toArray]; rw [hal]; exact idx_lt hil hjk)] at hu
        exact happ.rep i e j u x he (by simpa using hu) hx)
    refine ⟨_, _, _, by rw [hva]; exact hrun, hI, ?_, hm, ⟨rfl, rfl⟩, by simpa using hlt, fun ver2 es2 k2 e2 => ?_⟩
    · exact ⟨⟨rfl, rfl, rfl, by show w.heap.size ≤ (w.heap.push _).size; simp, fun b hb => heap_old w.drew _ (hi.bsz b hb)⟩, PH.sub_refl _, fun _ _ _ => rfl⟩
    · rw [List.getElem?_set_self hlt] at e2; injection e2 with e2; injection e2 with q1 q2 q3; subst q1 q2 q3
      refine ⟨Nat.le_refl _, fun _ => ⟨by simp [hn], .arr w.heap.size cap, List.getElem?_set_self hglt, .inl ?_⟩⟩
      simp
  match g, hg, hat with
  | .none, hg, ⟨hva, hn0, _⟩ =>
    have he0 : es = [] := hi.obj id _ _ hL hg
    subst he0 hn0
    by_cases hm : xs.length = 0
    · have hx0 : xs = [] := List.eq_nil_of_length_eq_zero hm
      subst hx0
      have hnn : news = [] := List.eq_nil_of_length_eq_zero (by rw [hnl]; simp)
      rw [hnn] at hsrc'
      have hrun := run_append_nothing (P := P) w t tx ty E inf ht hinf none 0 0 (Nat.le_refl _) x hsrc'
      have hm0 := hmv .none (fun b e => by cases e)
      have hgs : γ.set id .none = γ := by
        apply List.ext_getElem?
        intro j
        by_cases hj : j = id
        · subst hj; rw [List.getElem?_set_self hglt, hg]
        · rw [List.getElem?_set_ne (Ne.symm hj)]
      rw [hgs] at hm0
      refine ⟨v, w, γ, by rw [hva]; exact hrun, ?_, Ext.refl _ _ _, hm0, hvc, by simpa using hlt, fun ver2 es2 k2 e2 => ?_⟩
      · refine ⟨by simp [hi.len], hi.val, fun j y h hy hh => ?_, hi.inj, hi.new, hi.bsz⟩
        by_cases hj : j = id
        · subst hj
          rw [List.getElem?_set_self hlt] at hy; injection hy with hy; subst hy
          rw [hg] at hh; injection hh with hh; subst hh
          rfl
        · rw [List.getElem?_set_ne (Ne.symm hj)] at hy
          exact (hi.obj j y h hy hh).mv hm0 (fun _ _ => rfl) (fun _ _ _ e => e)
      · rw [List.getElem?_set_self hlt] at e2; injection e2 with e2; injection e2 with q1 q2 q3; subst q1 q2 q3
        exact ⟨Nat.le_refl _, fun _ => ⟨by simp, .none, hg, hva, rfl, rfl⟩⟩
    · exact grow none 0 [] hva (by omega) (fun b e => by cases e) ⟨by simp, by simp, fun i e j u x he => by simp at he, by simp⟩ (run_firstCells_none w.drew inf.size 0 0 0)
  | .arr b c, hg, hat =>
    obtain ⟨vs, E2, hb, hE2, hsz, hnc, hk, hcells, hRn⟩ := row_cells hi hL hg
    have hc0 : v = .slice (some ⟨b, 0, none⟩) n c ∨ (c = 0 ∧ n = 0 ∧ ∃ a, v = .slice a 0 0) := by
      rcases hat with hat | ⟨q1, q2, q3⟩
      · left; rw [hat]; simp
      · exact .inr ⟨q1, q2, q3⟩
    by_cases hroom : n + xs.length ≤ c
    · have hle2 : (n + xs.length) * k ≤ c * k := Nat.mul_le_mul_right _ hroom
      have hadd : n * k + news.length = (n + xs.length) * k := by rw [hnl, Nat.add_mul]
      obtain ⟨cs', g1, g2, g3⟩ := heap_setCells b E2 (0, 0) news (n * k) w vs hb (by omega)
      have hgs : γ.set id (.arr b c) = γ := by
        apply List.ext_getElem?
        intro j
        by_cases hj : j = id
        · subst hj; rw [List.getElem?_set_self hglt, hg]
        · rw [List.getElem?_set_ne (Ne.symm hj)]
      have hm0 := hmv (.arr b c) (fun b e => by cases e)
      rw [hgs] at hm0
      have hcs : vs.toList.take (es.length * k) = vs.toList.take (n * k) := by rw [hn]
      rw [hcs] at hcells
      have happ := (hcells.app hnews).mv hm0
      have hI : Inv B R γ (L.set id (.row (ver + 65536) (es ++ xs) k)) (w.setCells b (n * k) news) := by
        refine hi.turn hL hg rfl hm0 (fun b' hne => heap_setCells_ne b hne _ _ _) (size_setCells' _ _ _ _) (fun _ _ _ => rfl) (fun o u h => by rw [hRn o] at h; cases h) ?_
        refine ⟨⟨cs', E2, ⟨g1, by rw [hE2.1]; show ver % 65536 = (ver + 65536) % 65536; omega, by omega⟩, by rw [g2]; exact hsz, fun i e j u x he hu hx => ?_⟩, by rw [List.length_append, hn]; exact hroom, hk, happ.wide, hRn⟩
        have hjk : j < k := by rw [← happ.wide e (List.mem_of_getElem? he)]; exact (List.getElem?_eq_some_iff.1 hx).1
        have hil : i < n + xs.length := by have := (List.getElem?_eq_some_iff.1 he).1; simpa [hn] using this
        have hlt2 := idx_lt hil hjk
        refine happ.rep i e j u x he ?_ hx
        rw [g3] at hu
        have htl : (vs.toList.take (n * k)).length = n * k := by simp; omega
        by_cases hc2 : n * k ≤ i * k + j
        · rw [if_pos (by omega)] at hu
          rw [List.getElem?_append_right (by omega), htl]; exact hu
        · rw [if_neg (by omega)] at hu
          rw [List.getElem?_append_left (by omega), List.getElem?_take, if_pos (by omega)]; simpa using hu
      have hE : Ext B R R w (w.setCells b (n * k) news) := ⟨below_setCells' (hi.new id _ b hg rfl).1 _ _ _, PH.sub_refl _, fun _ _ _ => rfl⟩
      rcases hc0 with hv2 | ⟨q1, q2, a, q3⟩
      · have hrun := run_append_room_src (P := P) (w := w) t tx ty E inf ht hinf b 0 n c x xs.length news hsrc' hroom
          (fun j hj => by
            rw [hisz, cell_of_block hb]
            have : 0 + n * k + j < vs.size := by omega
            rw [Array.getElem?_eq_getElem this]; rfl)
          (fun j hj => by simp [World.frozen?, hb])
        rw [hisz, Nat.zero_add] at hrun
        refine ⟨_, _, γ, by rw [hv2]; exact hrun, hI, hE, hm0, ⟨rfl, rfl⟩, by simpa using hlt, fun ver2 es2 k2 e2 => ?_⟩
        rw [List.getElem?_set_self hlt] at e2; injection e2 with e2; injection e2 with p1 p2 p3; subst p1 p2 p3
        refine ⟨Nat.le_refl _, fun _ => ⟨by simp [hn], .arr b c, hg, .inl ?_⟩⟩
        simp
      · have hxl : xs.length = 0 := by omega
        have hnn : news = [] := List.eq_nil_of_length_eq_zero (by rw [hnl, hxl]; simp)
        rw [hnn, hxl] at hsrc'
        have hrun := run_append_nothing (P := P) w t tx ty E inf ht hinf a 0 0 (Nat.le_refl _) x hsrc'
        rw [hnn] at hI hE
        refine ⟨v, _, γ, by rw [q3]; exact hrun, hI, hE, hm0, hvc, by simpa using hlt, fun ver2 es2 k2 e2 => ?_⟩
        rw [List.getElem?_set_self hlt] at e2; injection e2 with e2; injection e2 with p1 p2 p3; subst p1 p2 p3
        exact ⟨Nat.le_refl _, fun _ => ⟨by simp [hn], .arr b c, hg, .inr ⟨q1, by omega, a, q3⟩⟩⟩
    · rcases hc0 with hv2 | ⟨q1, q2, a, q3⟩
      · refine grow _ c _ hv2 (by omega) (fun b e => by cases e) hcells ?_
        rw [hisz]
        refine run_firstCells_some w.drew k n ⟨b, 0, none⟩ n c _ (by rw [hcells.len, hn]) (fun j u hu => ?_)
        rw [Addr.add_mid, Nat.zero_add]
        have hc1 : w.cell? ⟨b, j, none⟩ = some u := by
          rw [cell_of_block hb]
          have hj := (List.getElem?_eq_some_iff.1 hu).1
          rw [List.getElem?_take] at hu
          split at hu
          · simpa using hu
          · cases hu
        exact hc1
      · have he0 : es = [] := List.eq_nil_of_length_eq_zero (by omega)
        subst he0 q2
        refine grow a 0 [] q3 (by omega) (fun b e => by cases e) ⟨by simp, by simp, fun i e j u x he => by simp at he, by simp⟩ ?_
        cases a with
        | none => exact run_firstCells_none w.drew inf.size 0 0 0
        | some ad => exact run_firstCells_some w.drew inf.size 0 ad 0 0 [] (by simp) (fun j u hu => by simp at hu)
end
end Go.Proofs.YtnbnpnmkgemdeaaGreatDoor

namespace Go.Proofs.YtnbnpnmkgemdeaaGreatDoor
open Go.RowKit Go.MapKept

/-- What an append takes from. -/
def srcS (L : List Ob) : AV → Option (List (List SV))
  | .one (.c (.str s)) => some (byteRow s)
  | .one (.sl id _ lo n) => match L[id]? with
    | some (.row _ es _) => some ((es.drop lo).take n)
    | _ => none
  | x => (listOf x).map fun es => es.map (List.map SV.c)
def srcOK (ti : TI) (L : List Ob) (k : Nat) (tx : TypeId) : AV → Prop
  | .one (.c (.str _)) => k = 1 ∧ ti.kind tx = some .string
  | .one (.sl id ver lo n) => (ti.elem tx).isSome ∧ ∃ es, L[id]? = some (.row ver es k) ∧ lo + n ≤ es.length
  | x => (ti.elem tx).isSome ∧ ∃ es, listOf x = some es ∧ ∀ e ∈ es, e.length = k

section
variable {P : Program} {ti : TI} {B : Nat → Prop} {N : Nat} {R : PH} {γ : List Gh} {L : List Ob} {w : World} {ρ : Operand → Option AV}

theorem srcS_list {k : Nat} {tx : TypeId} (hti : TIok P ti) (hi : Inv B R γ L w) {x : AV} {u : Value} (hx : x.rep R γ L u) {es : List (List AC)} (he : listOf x = some es) (hw : ∀ e ∈ es, e.length = k) (ht : (ti.elem tx).isSome) :
    ∃ news, Src P k tx u (es.map (List.map SV.c)).length news w ∧ CellsS R γ L k (es.map (List.map SV.c)) news := by
  obtain ⟨E, hE⟩ := Option.isSome_iff_exists.1 ht
  have hte := hti.elem _ _ hE
  have : P.underlying tx = some (.slice E) := by
    unfold telem at hte
    split at hte
    · rename_i e h; injection hte with hte; rw [h, hte]
    · cases hte
  obtain ⟨news, h1, h2⟩ := src_of (P := P) this hi (listOf_rep hx he) hw
  exact ⟨news, by simpa using h1, CellsS.ofC h2⟩
theorem srcS_ok {k : Nat} {tx : TypeId} (hti : TIok P ti) (hi : Inv B R γ L w) {x : AV} {u : Value} (hx : x.rep R γ L u) {xs : List (List SV)} (h : srcS L x = some xs) (hok : srcOK ti L k tx x) :
    ∃ news, Src P k tx u xs.length news w ∧ CellsS R γ L k xs news := by
  unfold srcS at h
  split at h
  · rename_i s
    injection h with h; subst h
    obtain ⟨rfl, hk⟩ := hok
    cases hx
    have hl : (byteRow s).length = s.size := by unfold byteRow; rw [List.length_map]; simp
    exact ⟨byteCells s, by rw [hl]; exact Src.ofString w (hti.kind _ _ hk) s, CellsS.ofStr s⟩
  · rename_i id ver lo n
    obtain ⟨ht, es, hL, hle⟩ := hok
    rw [hL] at h
    injection h with h; subst h
    obtain ⟨E, hE⟩ := Option.isSome_iff_exists.1 ht
    have hte := hti.elem _ _ hE
    have hund : P.underlying tx = some (.slice E) := by
      unfold telem at hte
      split at hte
      · rename_i e h; injection hte with hte; rw [h, hte]
      · cases hte
    obtain ⟨_, hlt, hall⟩ := hx
    obtain ⟨_, g, hg, hat⟩ := (hall _ es k hL).2 rfl
    have hlen : ((es.drop lo).take n).length = n := by simp; omega
    match g, hg, hat with
    | .none, hg, ⟨hu, hn, hlo⟩ =>
      subst hu hn hlo
      refine ⟨[], by simpa using Src.ofNil w hund 0, ⟨by simp, by simp, fun i e j u x he => by simp at he, by simp⟩⟩
    | .arr b c, hg, hat =>
      obtain ⟨vs, E2, hb, hE2, hsz, hnc, hk, hcells, hRn⟩ := row_cells hi hL hg
      by_cases hn0 : n = 0
      · subst hn0
        refine ⟨[], ?_, ⟨by simp, by simp, fun i e j u x he => by simp at he, by simp⟩⟩
        have : ∃ a c', u = .slice a 0 c' := by
          rcases hat with hat | ⟨_, _, a, hat⟩
          · exact ⟨_, _, hat⟩
          · exact ⟨_, _, hat⟩
        obtain ⟨a, c', rfl⟩ := this
        cases a with
        | none => simpa using Src.ofNil w hund c'
        | some ad => simpa using Src.ofSlice w hund ad 0 c' [] (by simp) (fun j u hu => by simp at hu) (by simp)
      · have hat : u = .slice (some ⟨b, lo * k, none⟩) n (c - lo) := by
          rcases hat with hat | ⟨_, h0, _⟩
          · exact hat
          · exact absurd h0 hn0
        subst hat
        have h1 : lo * k + n * k ≤ es.length * k := by rw [← Nat.add_mul]; exact Nat.mul_le_mul_right _ hle
        have h2 : es.length * k ≤ c * k := Nat.mul_le_mul_right _ hnc
        have hget : ∀ (j : Nat) u, (((vs.toList.take (es.length * k)).drop (lo * k)).take (n * k))[j]? = some u → j < n * k ∧ (vs.toList.take (es.length * k))[lo * k + j]? = some u := by
          intro j u hu
          rw [List.getElem?_take] at hu
          split at hu
          · rename_i hj; rw [List.getElem?_drop] at hu; exact ⟨hj, hu⟩
          · cases hu
        have hnl : (((vs.toList.take (es.length * k)).drop (lo * k)).take (n * k)).length = n * k := by simp; omega
        refine ⟨((vs.toList.take (es.length * k)).drop (lo * k)).take (n * k), ?_, ⟨by rw [hlen]; exact hnl, fun e he => hcells.wide e (List.mem_of_mem_drop (List.mem_of_mem_take he)), fun i e j u x he hu hx => ?_, fun u hu => hcells.one u (List.mem_of_mem_drop (List.mem_of_mem_take hu))⟩⟩
        · rw [hlen]
          refine Src.ofSlice w hund ⟨b, lo * k, none⟩ n (c - lo) _ hnl (fun j u hu => ?_) (fun u hu => hcells.one u (List.mem_of_mem_drop (List.mem_of_mem_take hu)))
          obtain ⟨hj, hu⟩ := hget j u hu
          rw [Addr.add_mid, cell_of_block hb]
          rw [List.getElem?_take] at hu
          split at hu
          · simpa using hu
          · cases hu
        · obtain ⟨hj, hu⟩ := hget _ u hu
          rw [List.getElem?_take] at he
          split at he
          · rw [List.getElem?_drop] at he
            refine hcells.rep (lo + i) e j u x he ?_ hx
            rw [Nat.add_mul, Nat.add_assoc]; exact hu
          · cases he
  · cases he : listOf x with
    | none => simp [he] at h
    | some es =>
      rw [he] at h; injection h with h; subst h
      unfold srcOK at hok
      split at hok
      · rename_i x1 _; exact absurd rfl (x1 _)
      · rename_i h2; exact absurd rfl (h2 _ _ _ _)
      · obtain ⟨ht, es', h1, h2⟩ := hok
        rw [he] at h1; injection h1 with h1; subst h1
        exact srcS_list hti hi hx he h2 ht

theorem under_of (hti : TIok P ti) {t E : TypeId} (h : ti.elem t = some E) : P.underlying t = some (.slice E) := by
  have hte := hti.elem _ _ h
  unfold telem at hte
  split at hte
  · rename_i e h'; injection hte with hte; rw [h', hte]
  · cases hte

/-- append onto a row that is written. -/
theorem sop_app (hti : TIok P ti) {s x : Operand} {t tx E : TypeId} {k by_ id ver n : Nat} {vx : AV} {es xs : List (List SV)} (hs : ρ s = some (.one (.sl id ver 0 n))) (hx : ρ x = some vx) (hL : L[id]? = some (.row ver es k)) (hsrc : srcS L vx = some xs) (hok : srcOK ti L k tx vx)
    (ht : ti.elem t = some E) (hE : ver % 65536 = E) (hsz : ti.size E = some k) (hzo : ti.zok E = true) (hby : ti.bytes E = some by_) (hk : 0 < k) (hn : es.length = n) (hb1 : (n + xs.length) * by_ ≤ 140737488355328) (hb2 : n + xs.length ≤ 140737488355328) :
    Sop P ρ L (.call { callee := .builtin .append, args := #[s, x], argTypes := #[t, tx] }) (.one (.sl id (ver + 65536) 0 (n + xs.length))) (L.set id (.row (ver + 65536) (es ++ xs) k)) := by
  intro B R γ w ev o ho hi hρ hfv
  obtain ⟨dst, op, type, pos, after, guard⟩ := o
  simp only at ho; subst ho
  obtain ⟨news, h1, h2⟩ := srcS_ok (P := P) (w := w) (B := B) hti hi (hρ _ (by simp [Op.operands, Call.operands]) _ hx) hsrc hok
  obtain ⟨u, w', γ', g1, g2, g3, g4, g5⟩ := app_row (P := P) (ty := type) hi (under_of hti ht) hk (hti.zok _ hzo _ (hti.size _ _ hsz)) (hti.bytes _ _ hby) hE hL (hρ _ (by simp [Op.operands, Call.operands]) _ hs) hn h1 h2 hb1 hb2
  refine ⟨w', R, γ', .inl ⟨u, ?_, g5⟩, g2, g3, g4⟩
  simp [execOp, resolve, invoke, builtin, g1]

/-- A row of nothing comes. -/
theorem Inv.rowTok (hi : Inv B R γ L w) (ver k : Nat) : Inv B R (γ ++ [.none]) (L ++ [.row ver [] k]) w := by
  have it := hi.tok k
  refine ⟨by simp [hi.len], hi.val, fun i y g hy hg => ?_, it.inj, it.new, hi.bsz⟩
  by_cases hid : i < L.length
  · rw [List.getElem?_append_left hid] at hy
    rw [List.getElem?_append_left (by rw [hi.len]; exact hid)] at hg
    exact (hi.obj i y g hy hg).mv (Mv.push _ _ hi.len) (fun _ _ => rfl) (fun _ _ _ h => h)
  · have : i = L.length := by have := (List.getElem?_eq_some_iff.1 hy).1; simp at this; omega
    subst this
    rw [List.getElem?_append_right (by omega)] at hy
    rw [List.getElem?_append_right (by rw [hi.len]; omega), hi.len] at hg
    simp at hy hg; subst hy hg
    rfl

/-- append of something onto a slice without room: a row that is written. -/
theorem sop_app0 (hti : TIok P ti) {s x : Operand} {t tx : TypeId} {E : Nat} {k by_ : Nat} {vx : AV} {xs : List (List SV)} (hs : ρ s = some (.one .emp)) (hx : ρ x = some vx) (hsrc : srcS L vx = some xs) (hok : srcOK ti L k tx vx)
    (ht : ti.elem t = some E) (hE : E < 65536) (hsz : ti.size E = some k) (hzo : ti.zok E = true) (hby : ti.bytes E = some by_) (hk : 0 < k) (h0 : 0 < xs.length) (hb1 : xs.length * by_ ≤ 140737488355328) (hb2 : xs.length ≤ 140737488355328) :
    Sop P ρ L (.call { callee := .builtin .append, args := #[s, x], argTypes := #[t, tx] }) (.one (.sl L.length (E + 65536) 0 xs.length)) (L ++ [.row (E + 65536) xs k]) := by
  intro B R γ w ev o ho hi hρ hfv
  obtain ⟨dst, op, type, pos, after, guard⟩ := o
  simp only at ho; subst ho
  obtain ⟨news, h1, h2⟩ := srcS_ok (P := P) (w := w) (B := B) hti hi (hρ _ (by simp [Op.operands, Call.operands]) _ hx) hsrc hok
  obtain ⟨a, hva⟩ := (hρ _ (by simp [Op.operands, Call.operands]) _ hs)
  obtain ⟨inf, z, hinf, hzz, hisz, hzc⟩ := hti.zok _ hzo _ (hti.size _ _ hsz)
  have hbytes : inf.bytes = by_ := by have hby' := hti.bytes _ _ hby; unfold tbytes at hby'; rw [hinf] at hby'; simpa using hby'
  have hfc : (Builtin.firstCells inf.size 0 (.slice a 0 0)).run P w.drew = .ok ([] : List Value).toArray w.drew := by
    cases a with
    | none => exact run_firstCells_none w.drew inf.size 0 0 0
    | some ad => exact run_firstCells_some w.drew inf.size 0 ad 0 0 [] (by simp) (fun j u hu => by simp at hu)
  have hrun := run_append_grow_src (P := P) (w := w) t tx type E inf z (under_of hti ht) hinf hzz a 0 0 [] hfc (ev x) xs.length news (by rw [hisz]; exact h1) (by omega) (by omega) (by
      have h2 := nextslicecap_le (need := 0 + xs.length) (old := 0) (by omega)
      have h3 : Builtin.nextslicecap (0 + xs.length) 0 * inf.bytes ≤ 2 * (0 + xs.length) * inf.bytes := Nat.mul_le_mul_right _ h2
      rw [hbytes] at h3 ⊢
      rw [Nat.mul_assoc, Nat.zero_add] at h3
      rw [Nat.zero_add]
      omega)
  have hcap := grownCap_ge w (0 + xs.length) 0 E
  generalize grownCap w (0 + xs.length) 0 E = cap at hrun hcap
  rw [Nat.zero_add] at hrun hcap
  have hm : Mv R R γ (γ ++ [.arr w.heap.size cap]) L (L ++ [.row (E + 65536) xs k]) := Mv.push _ _ hi.len
  have happ := h2.mv hm
  have hIp : Inv B R (γ ++ [.arr w.heap.size cap]) (L ++ [.row (E + 65536) xs k]) (w.alloc (.cells (([] ++ news).toArray ++ Builtin.zeroCells z.cells (cap - xs.length)) E)) := by
    refine hi.push _ _ _ rfl ⟨⟨_, E, ⟨heap_new w _, by show (E : Nat) = (E + 65536) % 65536; omega, by show 65536 ≤ (E : Nat) + 65536; omega⟩, ?_, fun i e j u x he hu hx => ?_⟩, hcap, hk, happ.wide, fun o => hi.none_at o⟩
    · rw [Array.size_append, size_zeroCells, hzc]; simp only [List.size_toArray, List.nil_append]; rw [happ.len, ← Nat.add_mul]; congr 1; omega
    · have hjk : j < k := by rw [← happ.wide e (List.mem_of_getElem? he)]; exact (List.getElem?_eq_some_iff.1 hx).1
      have hil := (List.getElem?_eq_some_iff.1 he).1
      rw [Array.getElem?_append_left (by simp only [List.size_toArray, List.nil_append]; rw [happ.len]; exact idx_lt hil hjk)] at hu
      exact happ.rep i e j u x he (by simpa using hu) hx
  refine ⟨w.drew.alloc (.cells (([] ++ news).toArray ++ Builtin.zeroCells z.cells (cap - xs.length)) E), R, _, .inl ⟨.slice (some ⟨w.heap.size, 0, none⟩) xs.length cap, by simp [execOp, resolve, invoke, builtin, hva, hrun], ⟨rfl, rfl⟩, by simp, fun ver2 es2 k2 e2 => ?_⟩, ?_, ⟨⟨rfl, rfl, rfl, by show w.heap.size ≤ (w.heap.push _).size; simp, fun b hb => heap_old w.drew _ (hi.bsz b hb)⟩, PH.sub_refl _, fun _ _ _ => rfl⟩, hm⟩
  · rw [List.getElem?_append_right (by omega)] at e2
    simp at e2
    obtain ⟨q1, q2, q3⟩ := e2
    subst q1 q2 q3
    refine ⟨Nat.le_refl _, fun _ => ⟨by simp, .arr w.heap.size cap, by rw [← hi.len]; simp, .inl ?_⟩⟩
    simp
  · exact ⟨hIp.len, fun b o u h => hIp.val b o u h, fun i x g h1 h2 => (hIp.obj i x g h1 h2).mv Mv.refl (fun _ _ => rfl) (fun _ _ _ h => h), hIp.inj, hIp.new, hIp.bsz⟩

/-- make of a row that is written. -/
theorem sop_makeRow (hti : TIok P ti) {l c : Operand} {t : TypeId} {E k by_ : Nat} {m : Int} {kl kc : IntKind} (hl : ρ l = some (.one (.c (.int kl 0)))) (hc : ρ c = some (.one (.c (.int kc m)))) (ht : ti.elem t = some E) (hE : E < 65536) (hsz : ti.size E = some k) (hzo : ti.zok E = true) (hby : ti.bytes E = some by_)
    (hk : 0 < k) (h0 : 0 ≤ m) (hb1 : (by_ : Int) * m ≤ 281474976710656) (hb2 : m ≤ 9223372036854775807) :
    Sop P ρ L (.makeSlice t l c) (.one (.sl L.length (E + 65536) 0 0)) (L ++ [.row (E + 65536) [] k]) := by
  intro B R γ w ev o ho hi hρ hfv
  obtain ⟨dst, op, type, pos, after, guard⟩ := o
  simp only at ho; subst ho
  obtain ⟨inf, z, hinf, hzz, hisz, hzc⟩ := hti.zok _ hzo _ (hti.size _ _ hsz)
  have hbytes : inf.bytes = by_ := by have hby' := hti.bytes _ _ hby; unfold tbytes at hby'; rw [hinf] at hby'; simpa using hby'
  have hlv := (hρ _ (by simp [Op.operands, Call.operands]) _ hl)
  have hcv := (hρ _ (by simp [Op.operands, Call.operands]) _ hc)
  generalize hle : ev l = lv at hlv
  generalize hce : ev c = cv at hcv
  cases hlv; cases hcv
  have hrun := run_make (P := P) w t E inf z (under_of hti ht) hinf hzz kl kc 0 m (Int.le_refl _) h0 (by rw [hbytes]; exact hb1) hb2
  have hm : Mv R R γ (γ ++ [.arr w.heap.size m.toNat]) L (L ++ [.row (E + 65536) [] k]) := Mv.push _ _ hi.len
  refine ⟨w.alloc (.cells (madeCells z.cells (m.toNat * inf.size)) E), R, _, .inl ⟨.slice (some ⟨w.heap.size, 0, none⟩) 0 m.toNat, by simp [execOp, hle, hce, hrun], ⟨rfl, rfl⟩, by simp, fun ver2 es2 k2 e2 => ?_⟩, ?_, ⟨Kept.alloc hi.bsz _, PH.sub_refl _, fun _ _ _ => rfl⟩, hm⟩
  · rw [List.getElem?_append_right (by omega)] at e2
    simp at e2
    obtain ⟨q1, q2, q3⟩ := e2
    subst q1 q2 q3
    refine ⟨Nat.le_refl _, fun _ => ⟨by simp, .arr w.heap.size m.toNat, by rw [← hi.len]; simp, .inl ?_⟩⟩
    simp
  · exact hi.push _ _ _ rfl ⟨⟨_, E, ⟨heap_new w _, by show (E : Nat) = (E + 65536) % 65536; omega, by show 65536 ≤ (E : Nat) + 65536; omega⟩, by rw [size_madeCells, hisz], fun i e j u x he => by simp at he⟩, by simp, hk, by simp, fun o => hi.none_at o⟩
/-- make of a slice with the right to append. -/
theorem sop_makeOwn (hti : TIok P ti) {l c : Operand} {t : TypeId} {E k by_ : Nat} {m : Int} {kl kc : IntKind} (hl : ρ l = some (.one (.c (.int kl 0)))) (hc : ρ c = some (.one (.c (.int kc m)))) (ht : ti.elem t = some E) (hsz : ti.size E = some k) (hzo : ti.zok E = true) (hby : ti.bytes E = some by_)
    (hk : 0 < k) (h0 : 0 ≤ m) (hb1 : (by_ : Int) * m ≤ 281474976710656) (hb2 : m ≤ 9223372036854775807) :
    Sop P ρ L (.makeSlice t l c) (.one (.own [] L.length)) (L ++ [.spare 0 k]) := by
  intro B R γ w ev o ho hi hρ hfv
  obtain ⟨dst, op, type, pos, after, guard⟩ := o
  simp only at ho; subst ho
  obtain ⟨inf, z, hinf, hzz, hisz, hzc⟩ := hti.zok _ hzo _ (hti.size _ _ hsz)
  have hbytes : inf.bytes = by_ := by have hby' := hti.bytes _ _ hby; unfold tbytes at hby'; rw [hinf] at hby'; simpa using hby'
  have hlv := (hρ _ (by simp [Op.operands, Call.operands]) _ hl)
  have hcv := (hρ _ (by simp [Op.operands, Call.operands]) _ hc)
  generalize hle : ev l = lv at hlv
  generalize hce : ev c = cv at hcv
  cases hlv; cases hcv
  have hrun := run_make (P := P) w t E inf z (under_of hti ht) hinf hzz kl kc 0 m (Int.le_refl _) h0 (by rw [hbytes]; exact hb1) hb2
  have hm : Mv R R γ (γ ++ [.arr w.heap.size m.toNat]) L (L ++ [.spare 0 k]) := Mv.push _ _ hi.len
  refine ⟨w.alloc (.cells (madeCells z.cells (m.toNat * inf.size)) E), R, _, .inl ⟨.slice (some ⟨w.heap.size, 0, none⟩) 0 m.toNat, by simp [execOp, hle, hce, hrun], prep_nil _ _ _, by simp, fun n2 k2 e2 => ?_⟩, ?_, ⟨Kept.alloc hi.bsz _, PH.sub_refl _, fun _ _ _ => rfl⟩, hm⟩
  · rw [List.getElem?_append_right (by omega)] at e2
    simp at e2
    obtain ⟨q1, q2⟩ := e2
    subst q1 q2
    exact ⟨by simp, by simp, fun _ => ⟨.arr w.heap.size m.toNat, by rw [← hi.len]; simp, rfl⟩⟩
  · exact hi.push _ _ _ rfl ⟨⟨_, E, heap_new w _, by rw [size_madeCells, hisz]⟩, by simp, hk, fun o _ => hi.none_at o⟩
end
end Go.Proofs.YtnbnpnmkgemdeaaGreatDoor

namespace Go.Proofs.YtnbnpnmkgemdeaaGreatDoor
open Go.RowKit Go.MapKept

section
variable {P : Program} {ti : TI} {B : Nat → Prop} {N : Nat} {R : PH} {γ : List Gh} {L : List Ob} {w : World} {ρ : Operand → Option AV}

/-- A variable in memory as a row of one element, whose cell 1 is a row of its own. -/
theorem sop_allocBuilder {E Eb k : Nat} {inf : TypeInfo} (hinf : P.info? E = some inf) (hz : inf.zero = some (.agg #[.pointer none, .slice none 0 0])) (hE : E < 65536) (hEb : Eb < 65536) (hk : 0 < k) :
    Sop P ρ L (.alloc E) (.one (.ep L.length (E + 65536) 0 0)) (L ++ [.row (E + 65536) [[.c (.nul .ptr), .sl (L.length + 1) Eb 0 0]] 2, .row Eb [] k]) := by
  intro B R γ w ev o ho hi hρ hfv
  obtain ⟨dst, op, type, pos, after, guard⟩ := o
  simp only at ho; subst ho
  have hi0 := hi.rowTok Eb k
  have hrun : (execOp ev { dst, op := .alloc E, type, pos, after, guard }).run P w = .ok (.value (.pointer (some ⟨w.heap.size, 0, none⟩))) (w.alloc (.cells #[.pointer none, .slice none 0 0] E)) := by
    simp [execOp, Instr.alloc, zeroValue, typeInfo, program, Sem.run, hinf, hz, newVar, newRow, Value.cells]
  have hm0 : Mv R R γ (γ ++ [.arr w.heap.size 1, .none]) L (L ++ [.row (E + 65536) [[.c (.nul .ptr), .sl (L.length + 1) Eb 0 0]] 2, .row Eb [] k]) := by
    have h1 : Mv R R γ (γ ++ [.arr w.heap.size 1]) L (L ++ [.row (E + 65536) [[.c (.nul .ptr), .sl (L.length + 1) Eb 0 0]] 2]) := Mv.push _ _ hi.len
    have h2 : Mv R R (γ ++ [.arr w.heap.size 1]) ((γ ++ [.arr w.heap.size 1]) ++ [.none]) (L ++ [.row (E + 65536) [[.c (.nul .ptr), .sl (L.length + 1) Eb 0 0]] 2]) ((L ++ [.row (E + 65536) [[.c (.nul .ptr), .sl (L.length + 1) Eb 0 0]] 2]) ++ [.row Eb [] k]) := Mv.push _ _ (by simp [hi.len])
    have := h1.trans h2
    simpa using this
  have gcase : ∀ j h, (γ ++ [Gh.arr w.heap.size 1, Gh.none])[j]? = some h → (j < L.length ∧ γ[j]? = some h) ∨ (j = L.length ∧ h = .arr w.heap.size 1) ∨ (j = L.length + 1 ∧ h = .none) := by
    intro j h hh
    by_cases hj : j < γ.length
    · rw [List.getElem?_append_left hj] at hh; exact .inl ⟨by rw [← hi.len]; exact hj, hh⟩
    · rw [List.getElem?_append_right (by omega)] at hh
      have hlt := (List.getElem?_eq_some_iff.1 hh).1
      simp at hlt
      have : j - γ.length = 0 ∨ j - γ.length = 1 := by omega
      rcases this with e | e <;> rw [e] at hh <;> simp at hh
      · exact .inr (.inl ⟨by rw [← hi.len]; omega, hh.symm⟩)
      · exact .inr (.inr ⟨by rw [← hi.len]; omega, hh.symm⟩)
  have hold : ∀ b, b < w.heap.size → (w.alloc (.cells #[.pointer none, .slice none 0 0] E)).heap[b]? = w.heap[b]? := fun b hb => heap_old w _ hb
  have esz : (w.alloc (.cells #[.pointer none, .slice none 0 0] E)).heap.size = w.heap.size + 1 := by show (w.heap.push _).size = _; simp
  have hsl : (SV.sl (L.length + 1) Eb 0 0).rep R (γ ++ [Gh.arr w.heap.size 1, Gh.none]) (L ++ [.row (E + 65536) [[.c (.nul .ptr), .sl (L.length + 1) Eb 0 0]] 2, .row Eb [] k]) (.slice none 0 0) := by
    refine ⟨⟨rfl, rfl⟩, by simp, fun ver2 es2 k2 e2 => ?_⟩
    rw [List.getElem?_append_right (by omega)] at e2
    simp at e2
    obtain ⟨q1, q2, q3⟩ := e2
    subst q1 q2 q3
    exact ⟨Nat.le_refl _, fun _ => ⟨by simp, .none, by rw [List.getElem?_append_right (by rw [hi.len]; omega), hi.len]; simp, rfl, rfl, rfl⟩⟩
  refine ⟨_, R, γ ++ [.arr w.heap.size 1, .none], .inl ⟨_, hrun, ⟨rfl, rfl⟩, by simp, fun ver2 es2 k2 e2 => ?_⟩, ?_, ⟨Kept.alloc hi.bsz _, PH.sub_refl _, fun _ _ _ => rfl⟩, hm0⟩
  · rw [List.getElem?_append_right (by omega)] at e2
    simp at e2
    obtain ⟨q1, q2, q3⟩ := e2
    subst q1 q2 q3
    exact ⟨Nat.le_refl _, fun _ => ⟨by simp, .arr w.heap.size 1, by rw [List.getElem?_append_right (by rw [hi.len]; omega), hi.len]; simp, rfl⟩⟩
  · refine ⟨by simp [hi.len], fun b o' u h => ?_, fun j y h hy hh => ?_, fun j1 j2 g1 g2 h1 h2 hne b hb => ?_, fun j h b hh hb => ?_, fun b hb => by have := hi.bsz b hb; omega⟩
    · have := hi.lt h
      rw [← hi.val _ _ _ h]
      exact World.cell?_of_block (w := w) (hold b this)
    · rcases gcase j h hh with ⟨hj, hh'⟩ | ⟨rfl, rfl⟩ | ⟨rfl, rfl⟩
      · rw [List.getElem?_append_left hj] at hy
        exact (hi.obj j y h hy hh').mv hm0 (fun b hb => hold b (hi.new j h b hh' hb).2) (fun _ _ _ e => e)
      · rw [List.getElem?_append_right (by omega)] at hy
        simp at hy; subst hy
        refine ⟨⟨_, E, ⟨heap_new w _, by show (E : Nat) = (E + 65536) % 65536; omega, by omega⟩, rfl, fun i e j' u x he hu hx => ?_⟩, by simp, by omega, by simp, fun o => hi.none_at o⟩
        have : i = 0 := by have := (List.getElem?_eq_some_iff.1 he).1; simpa using this
        subst this
        simp at he; subst he
        match j', hx with
        | 0, hx => simp at hx hu; subst hx hu; exact .nul .ptr _ rfl
        | 1, hx => simp at hx hu; subst hx hu; exact hsl
        | j' + 2, hx => simp at hx
      · rw [List.getElem?_append_right (by omega)] at hy
        simp at hy; subst hy
        rfl
    · rcases gcase j1 g1 h1 with ⟨a1, a2⟩ | ⟨a1, rfl⟩ | ⟨a1, rfl⟩ <;> rcases gcase j2 g2 h2 with ⟨b1, b2⟩ | ⟨b1, rfl⟩ | ⟨b1, rfl⟩
      · exact hi.inj j1 j2 g1 g2 a2 b2 hne b hb
      · have := (hi.new j1 g1 b a2 hb).2
        simp only [Gh.block, ne_eq, Option.some.injEq]; omega
      · exact fun e => by cases e
      · simp only [Gh.block, Option.some.injEq] at hb
        intro e; have := (hi.new j2 g2 _ b2 e).2; omega
      · omega
      · exact fun e => by cases e
      · cases hb
      · cases hb
      · cases hb
    · rcases gcase j h hh with ⟨_, b2⟩ | ⟨_, rfl⟩ | ⟨_, rfl⟩
      · have := hi.new j h b b2 hb
        exact ⟨this.1, by omega⟩
      · simp only [Gh.block, Option.some.injEq] at hb; subst hb
        exact ⟨fun hB => by have := hi.bsz _ hB; omega, by omega⟩
      · cases hb

theorem ep_at {id ver i off k : Nat} {es : List (List SV)} {u : Value} (hL : L[id]? = some (.row ver es k)) (h : (SV.ep id ver i off).rep R γ L u) : i < es.length ∧ ∃ b c, γ[id]? = some (.arr b c) ∧ u = .pointer (some ⟨b, i * k + off, none⟩) := by
  obtain ⟨_, _, hall⟩ := h
  obtain ⟨h1, g, hg, hat⟩ := (hall _ es k hL).2 rfl
  match g, hg, hat with
  | .arr b c, hg, hat => exact ⟨h1, b, c, hg, hat⟩
theorem liesAt_same {e : TypeId} {s : Nat} (hs : P.cellsOf e = s) (h0 : 0 < s) (count : Nat) (hn : 1 ≤ count) : liesAt P P.depth e count 0 e 1 = true := by
  have hd : P.depth = (2 * (P.types.size + Made.depth) + 1) + 1 := rfl
  rw [hd]
  simp only [liesAt, Bool.or_eq_true]
  left
  rw [hd]
  have : s ≠ 0 := by omega
  simp [rowAt, hs, hn, sameLayout, this]
/-- A pointer to a variable that lies in a row, as an unsafe pointer and back. -/
theorem sop_convUnsafe {s d t : TypeId} {x : Operand} {id ver k : Nat} {es : List (List SV)} {j : TypeInfo} (hx : ρ x = some (.one (.ep id ver 0 0))) (hL : L[id]? = some (.row ver es k)) (hs : P.underlying s = some (.pointer t)) (hd : P.underlying d = some .unsafePointer) (ht : P.info? t = some j) (hj : j.size ≠ 0) :
    Sop P ρ L (.convert s d x) (.one (.ep id ver 0 0)) L := by
  intro B R γ w ev o ho hi hρ hfv
  obtain ⟨dst, op, type, pos, after, guard⟩ := o
  simp only at ho; subst ho
  have hx' := (hρ _ (by simp [Op.operands, Call.operands]) _ hx)
  obtain ⟨hlt, b, c, hg, hu⟩ := ep_at (R := R) hL hx'
  obtain ⟨vs, E, hb, hE, hsz, hle, hk, _, _⟩ := row_cells hi hL hg
  have hsh : w.shape? b = some (E, c * k) := by simp [World.shape?, hb, hsz]
  have h1 : 1 * k ≤ c * k := Nat.mul_le_mul_right _ (by omega)
  rw [hu] at hx'
  refine ⟨w, R, γ, .inl ⟨_, ?_, hx'⟩, hi, Ext.refl _ _ _, Mv.refl⟩
  have := Lib.run_to_unsafe (P := P) w (⟨b, 0 * k + 0, none⟩ : Addr) hs hd ht hj hsh (by show 0 * k + 0 < c * k; omega)
  simp only [Nat.zero_mul, Nat.zero_add, Nat.add_zero] at this hu ⊢
  simp [execOp, hu, this]
theorem sop_convBack {s d : TypeId} {t : Nat} {x : Operand} {id ver k : Nat} {es : List (List SV)} {j : TypeInfo} (hx : ρ x = some (.one (.ep id ver 0 0))) (hL : L[id]? = some (.row ver es k)) (hs : P.underlying s = some .unsafePointer) (hd : P.underlying d = some (.pointer t)) (ht : P.info? t = some j) (hc : P.cellsOf t = k) (hE : ver % 65536 = t) :
    Sop P ρ L (.convert s d x) (.one (.ep id ver 0 0)) L := by
  intro B R γ w ev o ho hi hρ hfv
  obtain ⟨dst, op, type, pos, after, guard⟩ := o
  simp only at ho; subst ho
  have hx' := (hρ _ (by simp [Op.operands, Call.operands]) _ hx)
  obtain ⟨hlt, b, c, hg, hu⟩ := ep_at (R := R) hL hx'
  obtain ⟨vs, E, hb, hE2, hsz, hle, hk, _, _⟩ := row_cells hi hL hg
  have hEt : E = t := by rw [hE2.1]; exact hE
  subst hEt
  have hsh : w.shape? b = some (E, c * k) := by simp [World.shape?, hb, hsz]
  rw [hu] at hx'
  refine ⟨w, R, γ, .inl ⟨_, ?_, hx'⟩, hi, Ext.refl _ _ _, Mv.refl⟩
  have hlies : liesAt P P.depth E (c * k / P.cellsOf E) 0 E 1 = true := by
    rw [hc, Nat.mul_div_cancel _ hk]
    exact liesAt_same hc hk c (by omega)
  have := Lib.run_from_unsafe (P := P) w (⟨b, 0 * k + 0, none⟩ : Addr) hs hd ht hsh (by simpa using hlies)
  simp only [Nat.zero_mul, Nat.zero_add, Nat.add_zero] at this hu ⊢
  simp [execOp, hu, this]
theorem sop_noEscape {f : FuncId} {fn : Func} {x : Operand} {ts : Array TypeId} {v : AV} (hx : ρ x = some v) (hf : P.funcs[f]? = some fn) (hname : (fn.name == "runtime.NumGoroutine") = false)
    (hb : fn.body.isNone = true) (hn : Extern.findNext fn = none) (he : Extern.find fn = some Extern.AbiNoEscape.same) :
    Sop P ρ L (.call { callee := .value (.func f), args := #[x], argTypes := ts }) v L := by
  intro B R γ w ev o ho hi hρ hfv
  obtain ⟨dst, op, type, pos, after, guard⟩ := o
  simp only at ho; subst ho
  refine ⟨w, R, γ, .inl ⟨ev x, ?_, (hρ _ (by simp [Op.operands, Call.operands]) _ hx)⟩, hi, Ext.refl _ _ _, Mv.refl⟩
  have := run_callFunc_extern hf hname hb hn he #[ev x] w
  rw [Lib.run_noEscape] at this
  simp [execOp, resolve, Deferred.ofValue, hfv.1, invoke, this, Result.andThen]

/-- Comparisons of pointers. -/
theorem run_eql_nul {t te : TypeId} (b : Option Addr) (ht : P.underlying t = some (.pointer te)) : (binOp .eql t (.pointer b) (.pointer none)).run P w = .ok (.bool b.isNone) w := by
  have h : ∀ d : Nat, (Op.equalIn (d + 1) t (.pointer b) (.pointer none)).run P w = .ok b.isNone w := fun d => by
    cases b <;> simp [Op.equalIn, run_underlying ht]
  simp only [binOp]
  rw [Sem.run_bind, show Op.equal t (.pointer b) (.pointer none) = Op.equalIn (9999 + 1) t (.pointer b) (.pointer none) from rfl, h]
  simp
theorem sop_eqNul {t t' te : TypeId} {x y : Operand} (hx : ρ x = some (.one (.c (.nul .ptr)))) (hy : ρ y = some (.one (.c (.nul .ptr)))) (ht : P.underlying t = some (.pointer te)) :
    Sop P ρ L (.binOp .eql t x y t') (.one (.c (.bool true))) L := by
  intro B R γ w ev o ho hi hρ hfv
  obtain ⟨dst, op', type, pos, after, guard⟩ := o
  simp only at ho; subst ho
  have h1 := (hρ _ (by simp [Op.operands, Call.operands]) _ hx)
  have h2 := (hρ _ (by simp [Op.operands, Call.operands]) _ hy)
  generalize hex : ev x = ux at h1
  generalize hey : ev y = uy at h2
  cases h1 with | nul _ _ e1 => cases h2 with | nul _ _ e2 =>
  subst e1 e2
  have := run_eql_nul (P := P) (w := w) none ht
  exact ⟨w, R, γ, .inl ⟨.bool true, by simp [execOp, hex, hey, eqGuard, Nul.val, this], .bool true⟩, hi, Ext.refl _ _ _, Mv.refl⟩
theorem sop_eqEpNul {t t' te : TypeId} {x y : Operand} {id ver i off k : Nat} {es : List (List SV)} (hx : ρ x = some (.one (.ep id ver i off))) (hL : L[id]? = some (.row ver es k)) (hy : ρ y = some (.one (.c (.nul .ptr)))) (ht : P.underlying t = some (.pointer te)) :
    Sop P ρ L (.binOp .eql t x y t') (.one (.c (.bool false))) L := by
  intro B R γ w ev o ho hi hρ hfv
  obtain ⟨dst, op', type, pos, after, guard⟩ := o
  simp only at ho; subst ho
  obtain ⟨_, b, c, _, hu⟩ := ep_at (R := R) hL (hρ _ (by simp [Op.operands, Call.operands]) _ hx)
  have h2 := (hρ _ (by simp [Op.operands, Call.operands]) _ hy)
  generalize hey : ev y = uy at h2
  cases h2 with | nul _ _ e2 =>
  subst e2
  have := run_eql_nul (P := P) (w := w) (some ⟨b, i * k + off, none⟩) ht
  exact ⟨w, R, γ, .inl ⟨.bool false, by simp [execOp, hu, hey, eqGuard, Nul.val, this], .bool false⟩, hi, Ext.refl _ _ _, Mv.refl⟩
theorem sop_neqSame {t t' te : TypeId} {x y : Operand} {id ver i off k : Nat} {es : List (List SV)} {j : TypeInfo} (hx : ρ x = some (.one (.ep id ver i off))) (hL : L[id]? = some (.row ver es k)) (hy : ρ y = some (.one (.ep id ver i off))) (ht : P.underlying t = some (.pointer te)) (hte : P.info? te = some j) :
    Sop P ρ L (.binOp .neq t x y t') (.one (.c (.bool false))) L := by
  intro B R γ w ev o ho hi hρ hfv
  obtain ⟨dst, op', type, pos, after, guard⟩ := o
  simp only at ho; subst ho
  obtain ⟨_, b, c, hg, hu⟩ := ep_at (R := R) hL (hρ _ (by simp [Op.operands, Call.operands]) _ hx)
  obtain ⟨_, b', c', hg', hu'⟩ := ep_at (R := R) hL (hρ _ (by simp [Op.operands, Call.operands]) _ hy)
  rw [hg] at hg'; injection hg' with hg'; injection hg' with e1 e2; subst e1 e2
  refine ⟨w, R, γ, .inl ⟨.bool false, ?_, .bool false⟩, hi, Ext.refl _ _ _, Mv.refl⟩
  have := Lib.run_neq_ptr_same (P := P) w (⟨b, i * k + off, none⟩ : Addr) ht hte
  simp [execOp, hu, hu', eqGuard, this]

/-- A slice that holds something is not nil. -/
theorem sop_notNil {t t' te : TypeId} {x : Operand} {vx : AV} {e : List AC} {es : List (List AC)} (hx : ρ x = some vx) (hl : listOf vx = some (e :: es)) (ht : P.underlying t = some (.slice te)) :
    Sop P ρ L (.binOp .eql t x (.const (.slice none 0 0)) t') (.one (.c (.bool false))) L := by
  intro B R γ w ev o ho hi hρ hfv
  obtain ⟨dst, op', type, pos, after, guard⟩ := o
  simp only at ho; subst ho
  have h1 := listOf_rep (hρ x (by simp [Op.operands]) _ hx) hl
  generalize hex : ev x = ux at h1
  cases h1 with
  | lst a n c _ k cv b o hn hc hk ha hr he =>
    have h0 : 0 < n := by rw [← hn]; simp
    have ha' := ha h0
    subst ha'
    refine ⟨w, R, γ, .inl ⟨.bool false, ?_, .bool false⟩, hi, Ext.refl _ _ _, Mv.refl⟩
    have h : ∀ d : Nat, (Op.equalIn (d + 1) t (.slice (some ⟨b, o, none⟩) n c) (.slice none 0 0)).run P w = .ok false w := fun d => by
      simp [Op.equalIn, run_underlying ht]
    have h2 : (binOp .eql t (.slice (some ⟨b, o, none⟩) n c) (.slice none 0 0)).run P w = .ok (.bool false) w := by
      simp only [binOp]
      rw [Sem.run_bind, show Op.equal t (.slice (some ⟨b, o, none⟩) n c) (.slice none 0 0) = Op.equalIn (9999 + 1) t (.slice (some ⟨b, o, none⟩) n c) (.slice none 0 0) from rfl, h]
      simp
    simp [execOp, hex, hfv.2, eqGuard, h2]

/-- The bytes of a row as a string. -/
theorem sop_sliceData {x : Operand} {ts : Array TypeId} {id ver n k : Nat} {es : List (List SV)} (hx : ρ x = some (.one (.sl id ver 0 n))) (hL : L[id]? = some (.row ver es k)) (hn : 0 < n) :
    Sop P ρ L (.call { callee := .builtin .unsafeSliceData, args := #[x], argTypes := ts }) (.one (.ep id ver 0 0)) L := by
  intro B R γ w ev o ho hi hρ hfv
  obtain ⟨dst, op', type, pos, after, guard⟩ := o
  simp only at ho; subst ho
  obtain ⟨hvc, hlt, hall⟩ := (hρ _ (by simp [Op.operands, Call.operands]) _ hx)
  obtain ⟨hle, g, hg, hat⟩ := (hall _ es k hL).2 rfl
  match g, hg, hat with
  | .none, hg, ⟨_, h0, _⟩ => omega
  | .arr b c, hg, hat =>
    have hat : ev x = .slice (some ⟨b, 0 * k, none⟩) n (c - 0) := by
      rcases hat with hat | ⟨_, h0, _⟩
      · exact hat
      · omega
    obtain ⟨vs, E, hb, hE2, hsz, hle2, hk, _, _⟩ := row_cells hi hL hg
    have hc : c ≠ 0 := by omega
    refine ⟨w, R, γ, .inl ⟨.pointer (some ⟨b, 0, none⟩), ?_, ⟨rfl, rfl⟩, hlt, fun ver2 es2 k2 e2 => ?_⟩, hi, Ext.refl _ _ _, Mv.refl⟩
    · have := Lib.run_unsafeSliceData_row (P := P) w ts type (⟨b, 0, none⟩ : Addr) n c hc
      simp only [Nat.zero_mul, Nat.sub_zero] at hat
      simp [execOp, resolve, invoke, builtin, hat, this]
    · rw [hL] at e2; injection e2 with e2; injection e2 with q1 q2 q3; subst q1 q2 q3
      refine ⟨Nat.le_refl _, fun _ => ⟨by omega, .arr b c, hg, ?_⟩⟩
      simp [EpAt]
theorem sop_sliceData0 {x : Operand} {ts : Array TypeId} {id ver k : Nat} (hx : ρ x = some (.one (.sl id ver 0 0))) (hL : L[id]? = some (.row ver [] k)) (hv : ver < 65536) :
    Sop P ρ L (.call { callee := .builtin .unsafeSliceData, args := #[x], argTypes := ts }) (.one (.c (.nul .ptr))) L := by
  intro B R γ w ev o ho hi hρ hfv
  obtain ⟨dst, op', type, pos, after, guard⟩ := o
  simp only at ho; subst ho
  obtain ⟨hvc, hlt, hall⟩ := (hρ _ (by simp [Op.operands, Call.operands]) _ hx)
  obtain ⟨hle, g, hg, hat⟩ := (hall _ [] k hL).2 rfl
  match g, hg, hat with
  | .none, hg, ⟨hu, h0, _⟩ =>
    exact ⟨w, R, γ, .inl ⟨.pointer none, by have := Lib.run_unsafeSliceData_nil (P := P) w ts type 0 0; simp [execOp, resolve, invoke, builtin, hu, this], .nul .ptr _ rfl⟩, hi, Ext.refl _ _ _, Mv.refl⟩
  | .arr b c, hg, hat =>
    obtain ⟨vs, E, hb, hE2, hsz, hle2, hk, _, _⟩ := row_cells hi hL hg
    omega
theorem sop_unsafeString0 {x y : Operand} {pt it : TypeId} (hx : ρ x = some (.one (.c (.nul .ptr)))) (hy : ρ y = some (.one (.c (.int .i64 0)))) :
    Sop P ρ L (.call { callee := .builtin .unsafeString, args := #[x, y], argTypes := #[pt, it] }) (.one (.c (.str .empty))) L := by
  intro B R γ w ev o ho hi hρ hfv
  obtain ⟨dst, op', type, pos, after, guard⟩ := o
  simp only at ho; subst ho
  have h1 := (hρ _ (by simp [Op.operands, Call.operands]) _ hx)
  have h2 := (hρ _ (by simp [Op.operands, Call.operands]) _ hy)
  generalize hex : ev x = ux at h1
  generalize hey : ev y = uy at h2
  cases h1 with | nul _ _ e1 =>
  cases h2
  subst e1
  have := Lib.run_unsafeString_none (P := P) w pt it type none
  exact ⟨w, R, γ, .inl ⟨.string .empty, by simp [execOp, resolve, invoke, builtin, hex, hey, Nul.val, this], .str _⟩, hi, Ext.refl _ _ _, Mv.refl⟩
theorem sop_unsafeString {x y : Operand} {pt it : TypeId} {E id ver : Nat} {s : ByteArray} (hx : ρ x = some (.one (.ep id ver 0 0))) (hy : ρ y = some (.one (.c (.int .i64 s.size)))) (hL : L[id]? = some (.row ver (byteRow s) 1)) (hE : ver % 65536 = E) (hp : P.underlying pt = some (.pointer E)) (hc : P.cellsOf E = 1)
    (h0 : 0 < s.size) (h63 : s.size ≤ 9223372036854775807) :
    Sop P ρ L (.call { callee := .builtin .unsafeString, args := #[x, y], argTypes := #[pt, it] }) (.one (.c (.str s))) (L.set id .dead) := by
  intro B R γ w ev o ho hi hρ hfv
  obtain ⟨dst, op', type, pos, after, guard⟩ := o
  simp only at ho; subst ho
  obtain ⟨_, b, c, hg, hu⟩ := ep_at (R := R) hL (hρ _ (by simp [Op.operands, Call.operands]) _ hx)
  have h2 := (hρ _ (by simp [Op.operands, Call.operands]) _ hy)
  generalize hey : ev y = uy at h2
  cases h2
  obtain ⟨vs, E2, hb, hE2, hsz, hle, hk, hcells, hRn⟩ := row_cells hi hL hg
  have hEt : E2 = E := by rw [hE2.1]; exact hE
  subst hEt
  have hlen : (byteRow s).length = s.size := by unfold byteRow; rw [List.length_map]; simp
  have hdl : s.data.toList.length = s.size := by simp
  have hsh : w.shape? b = some (E2, c * 1) := by simp [World.shape?, hb, hsz]
  have hrun := Lib.run_unsafeString_row (P := P) w pt it type E2 hp hc b (c * 1) hsh s.data.toList (by intro e; rw [e] at hdl; simp at hdl; omega) (by rw [hdl]; omega) (by rw [hdl]; omega) (fun j x hj => by
    have hjl := (List.getElem?_eq_some_iff.1 hj).1
    rw [Addr.add_mid, Nat.zero_add, cell_of_block hb]
    have hjv : j < vs.size := by rw [hsz]; omega
    have hbr : (byteRow s)[j]? = some [.c (.int .u8 x.toNat)] := by unfold byteRow; rw [List.getElem?_map, hj]; rfl
    have := hcells.rep j _ 0 vs[j] _ hbr (by
      rw [Nat.mul_one, Nat.add_zero, List.getElem?_take, if_pos (by omega)]
      simp [hjv]) rfl
    rw [Array.getElem?_eq_getElem hjv]
    generalize vs[j] = vj at this
    cases this
    rfl)
  rw [hdl] at hrun
  have hfr : ∀ m, 0 < m → ((∀ b', b' ≠ b → (w.freeze ⟨b, 0, none⟩ m).heap[b']? = w.heap[b']?) ∧ (w.freeze ⟨b, 0, none⟩ m).heap.size = w.heap.size) ∧ (w.freeze ⟨b, 0, none⟩ m).os = w.os ∧ (w.freeze ⟨b, 0, none⟩ m).tape = w.tape ∧ (w.freeze ⟨b, 0, none⟩ m).output = w.output := by
    intro m hm
    have : m ≠ 0 := by omega
    refine ⟨⟨fun b' hne => ?_, ?_⟩, ?_, ?_, ?_⟩ <;> simp only [World.freeze, hb] <;> simp [this]
    rw [Array.getElem?_modify]
    simp [Ne.symm hne]
  obtain ⟨⟨hfz, hfs⟩, f1, f2, f3⟩ := hfr s.size h0
  obtain ⟨i1, i2⟩ := hi.kill hL hg rfl (fun b e => by cases e) (R' := R) (w' := w.freeze ⟨b, 0, none⟩ s.size) (PH.sub_refl _) hfz hfs (fun _ _ _ => rfl) (fun o u e => by rw [hRn o] at e; cases e)
  have hnb := (hi.new id _ b hg rfl).1
  refine ⟨_, R, _, .inl ⟨.string s, ?_, .str s⟩, i1, ⟨⟨?_, ?_, ?_, by omega, fun b' hb' => hfz b' (fun e => hnb (by rw [← e]; exact hb'))⟩, PH.sub_refl _, fun _ _ _ => rfl⟩, i2⟩
  · have hs : (⟨s.data.toList.toArray⟩ : ByteArray) = s := by cases s; simp
    rw [hs] at hrun
    simp only [Nat.zero_mul, Nat.zero_add, Nat.add_zero] at hu
    simp [execOp, resolve, invoke, builtin, hu, hey, hrun]
  · exact f1
  · exact f2
  · exact f3
end
end Go.Proofs.YtnbnpnmkgemdeaaGreatDoor

namespace Go.Proofs.YtnbnpnmkgemdeaaGreatDoor
open Go.RowKit

def normR : List (List SV) → Option (List (List AC))
  | [] => some []
  | e :: es => match normL e, normR es with
    | some x, some xs => some (x :: xs)
    | _, _ => none
theorem normR_len : ∀ {es : List (List SV)} {cs : List (List AC)}, normR es = some cs → es.length = cs.length
  | [], cs, h => by injection h with h; subst h; rfl
  | e :: es, cs, h => by
    unfold normR at h
    split at h
    · rename_i x xs hx hxs; injection h with h; subst h; simp [normR_len hxs]
    · cases h
theorem normR_get : ∀ {es : List (List SV)} {cs : List (List AC)}, normR es = some cs → ∀ (i : Nat) c, cs[i]? = some c → ∃ e, es[i]? = some e ∧ normL e = some c
  | [], cs, h => by injection h with h; subst h; intro i c hc; simp at hc
  | e :: es, cs, h => by
    unfold normR at h
    split at h
    · rename_i x xs hx hxs
      injection h with h; subst h
      intro i c hc
      cases i with
      | zero => simp at hc; subst hc; exact ⟨e, rfl, hx⟩
      | succ i => simp at hc; obtain ⟨e', h1, h2⟩ := normR_get hxs i c hc; exact ⟨e', by simpa using h1, h2⟩
    · cases h
theorem normR_c : ∀ (cs : List (List AC)), normR (cs.map (List.map SV.c)) = some cs
  | [] => rfl
  | c :: cs => by
    have h1 : ∀ l : List AC, normL (l.map SV.c) = some l := by
      intro l
      induction l with
      | nil => rfl
      | cons x l ih => simp [normL, SV.norm, ih]
    simp [normR, h1, normR_c cs]

/-- What a slot holds behind the turn. -/
def thaw (id ver : Nat) (cs : List (List AC)) : AV → AV
  | .one (.sl id' ver' lo n) => if id' = id ∧ ver' = ver then .one (.c (.lst ((cs.drop lo).take n))) else .one (.sl id' ver' lo n)
  | v => v

section
variable {P : Program} {ti : TI} {B : Nat → Prop} {N n0 : Nat} {R : PH} {γ : List Gh} {L : List Ob} {T : Tm} {w : World} {Q : AX → Tm → List Ob → Prop}

theorem aw_freeze {c : Code} (id : Nat) {ver k : Nat} {es : List (List SV)} {cs : List (List AC)} (hL : L[id]? = some (.row ver es k)) (hn : normR es = some cs) (h : Aw P N n0 c Q (T.map fun p => (p.1, thaw id ver cs p.2)) (L.set id .dead)) : Aw P N n0 c Q T L := by
  intro hn0 B R γ w a hi hT
  have hlt : id < L.length := (List.getElem?_eq_some_iff.1 hL).1
  obtain ⟨g, hg⟩ : ∃ g, γ[id]? = some g := ⟨_, List.getElem?_eq_getElem (by rw [hi.len]; exact hlt)⟩
  have hob := hi.obj id _ _ hL hg
  have hlc := normR_len hn
  have look_map : ∀ (T : Tm) t x, (T.map fun p => (p.1, thaw id ver cs p.2)).lookup t = some x → ∃ y, T.lookup t = some y ∧ x = thaw id ver cs y := by
    intro T
    induction T with
    | nil => intro t x h; cases h
    | cons p T ih =>
      intro t x h
      rw [List.map_cons, List.lookup_cons] at h
      rw [List.lookup_cons]
      by_cases e : t = p.1
      · subst e; simp at h; exact ⟨p.2, by simp, h.symm⟩
      · have e' : (t == p.1) = false := by simpa using e
        rw [e'] at h ⊢
        exact ih t x h
  -- what is known behind the turn
  have main : ∃ R' γ', Inv B R' γ' (L.set id .dead) w ∧ Ext B R R' w w ∧ Mv R R' γ γ' L (L.set id .dead) ∧ ∀ lo n u, (SV.sl id ver lo n).rep R γ L u → PRep R' u (.lst ((cs.drop lo).take n)) := by
    match g, hg, hob with
    | .none, hg, hob =>
      have he : es = [] := hob
      subst he
      injection hn with hn; subst hn
      have hm : Mv R R γ (γ.set id .none) L (L.set id .dead) := Mv.setOb (PH.sub_refl _) hi.len hL (fun b e => by rw [hg] at e; cases e) (fun _ _ e => by cases e) (fun _ _ _ e => by cases e)
      have hgs : γ.set id .none = γ := by
        apply List.ext_getElem?
        intro j
        by_cases hj : j = id
        · subst hj; rw [List.getElem?_set_self (by rw [hi.len]; exact hlt), hg]
        · rw [List.getElem?_set_ne (Ne.symm hj)]
      rw [hgs] at hm
      refine ⟨R, γ, ⟨by simp [hi.len], hi.val, fun j y h hy hh => ?_, hi.inj, hi.new, hi.bsz⟩, Ext.refl _ _ _, hm, fun lo n u hu => ?_⟩
      · by_cases hj : j = id
        · subst hj
          rw [List.getElem?_set_self hlt] at hy; injection hy with hy; subst hy
          rw [hg] at hh; injection hh with hh; subst hh
          trivial
        · rw [List.getElem?_set_ne (Ne.symm hj)] at hy
          exact (hi.obj j y h hy hh).mv hm (fun _ _ => rfl) (fun _ _ _ e => e)
      · obtain ⟨_, _, hall⟩ := hu
        obtain ⟨_, g', hg', hat⟩ := (hall _ [] k hL).2 rfl
        rw [hg] at hg'; injection hg' with hg'; subst hg'
        obtain ⟨rfl, rfl, rfl⟩ := hat
        exact prep_nil _ _ _
    | .arr b c, hg, hob =>
      obtain ⟨vs, E, hb, hE, hsz, hle, hk, hcells, hRn⟩ := row_cells hi hL hg
      have hle2 : es.length * k ≤ c * k := Nat.mul_le_mul_right _ hle
      have hsub0 : ∀ b' o u, R b' o = some u → (if b' = b ∧ o < es.length * k then vs[o]? else R b' o) = some u := by
        intro b' o u h
        by_cases hc : b' = b ∧ o < es.length * k
        · exfalso; rw [hc.1, hRn] at h; cases h
        · rw [if_neg hc]; exact h
      let R' : PH := R.put (fun b' o => if b' = b ∧ o < es.length * k then vs[o]? else R b' o) hsub0
      have hsub : PH.sub R R' := hsub0
      obtain ⟨i1, i2⟩ := hi.kill hL hg rfl (fun b e => by cases e) (R' := R') (w' := w) hsub (fun _ _ => rfl) rfl (fun b' o hne => by show (if b' = b ∧ o < es.length * k then vs[o]? else R b' o) = R b' o; rw [if_neg (fun h => hne h.1)])
        (fun o u h => by
          have h : (if b = b ∧ o < es.length * k then vs[o]? else R b o) = some u := h
          rw [cell_of_block hb]
          by_cases hc : b = b ∧ o < es.length * k
          · rw [if_pos hc] at h; exact h
          · rw [if_neg hc, hRn] at h; cases h)
      have hnb := (hi.new id _ b hg rfl).1
      refine ⟨R', γ.set id .none, i1, ⟨Kept.refl _ _, hsub, fun b' o hb' => ?_⟩, i2, fun lo n u hu => ?_⟩
      · show (if b' = b ∧ o < es.length * k then vs[o]? else R b' o) = R b' o
        rw [if_neg (fun h => hnb (by rw [← h.1]; exact hb'))]
      · obtain ⟨_, _, hall⟩ := hu
        obtain ⟨hln, g', hg', hat⟩ := (hall _ es k hL).2 rfl
        rw [hg] at hg'; injection hg' with hg'; subst hg'
        have hlen : ((cs.drop lo).take n).length = n := by simp; omega
        have hcv : ∃ a c', u = .slice a n c' ∧ n ≤ c' ∧ (0 < n → a = some ⟨b, lo * k, none⟩) := by
          rcases hat with hat | ⟨q1, q2, a, q3⟩
          · exact ⟨_, _, hat, by omega, fun _ => rfl⟩
          · exact ⟨a, 0, by rw [q3, q2], by omega, fun h => by omega⟩
        obtain ⟨a, c', rfl, hnc, ha⟩ := hcv
        have h1 : lo * k + n * k ≤ es.length * k := by rw [← Nat.add_mul]; exact Nat.mul_le_mul_right _ hln
        have getc : ∀ (i : Nat) e, ((cs.drop lo).take n)[i]? = some e → i < n ∧ ∃ y, es[lo + i]? = some y ∧ normL y = some e := by
          intro i e he
          rw [List.getElem?_take] at he
          split at he
          · rename_i hin
            rw [List.getElem?_drop] at he
            obtain ⟨y, g1, g2⟩ := normR_get hn (lo + i) e he
            exact ⟨hin, y, g1, g2⟩
          · cases he
        refine .lst a n c' _ k (fun j => (vs[lo * k + j]?).getD Go.undef) b (lo * k) hlen hnc (fun e he => ?_) ha (fun j hj => ?_) (fun i e j x he hx => ?_)
        · obtain ⟨i, hi'⟩ := List.mem_iff_getElem?.1 he
          obtain ⟨_, y, g1, g2⟩ := getc i e hi'
          rw [normL_len g2]; exact hcells.wide y (List.mem_of_getElem? g1)
        · have hlt2 : lo * k + j < vs.size := by omega
          show (if b = b ∧ lo * k + j < es.length * k then vs[lo * k + j]? else R b (lo * k + j)) = _
          rw [if_pos ⟨rfl, by omega⟩, Array.getElem?_eq_getElem hlt2]; rfl
        · obtain ⟨hin, y, g1, g2⟩ := getc i e he
          have hjk : j < k := by rw [← hcells.wide y (List.mem_of_getElem? g1), ← normL_len g2]; exact (List.getElem?_eq_some_iff.1 hx).1
          have hlt3 := idx_lt hin hjk
          have hlt2 : lo * k + (i * k + j) < vs.size := by omega
          have hyj : j < y.length := by rw [hcells.wide y (List.mem_of_getElem? g1)]; exact hjk
          have hr := hcells.rep (lo + i) y j vs[lo * k + (i * k + j)] _ g1 (by
            rw [List.getElem?_take, if_pos (by rw [Nat.add_mul]; omega), Nat.add_mul, Nat.add_assoc]
            simp [hlt2]) (List.getElem?_eq_getElem hyj)
          have := SV.norm_rep hr (normL_get g2 j _ _ (List.getElem?_eq_getElem hyj) hx)
          show PRep R' ((vs[lo * k + (i * k + j)]?).getD Go.undef) x
          rw [Array.getElem?_eq_getElem hlt2]
          exact PRep.mono hsub this
  obtain ⟨R', γ', hI, hE, hM, hS⟩ := main
  refine wp_mono (h (by simpa using hn0) B R' γ' w a hI ?_) fun _ _ _ hh => hh.ext hE hi.len (MvN.of hn0 hM)
  refine ⟨hT.size, hT.defers, fun t x hx => ?_⟩
  obtain ⟨y, hy, rfl⟩ := look_map T t x hx
  obtain ⟨u, h1, h2⟩ := hT.slot t y hy
  refine ⟨u, h1, ?_⟩
  unfold thaw
  split
  · rename_i id' ver' lo n
    split
    · rename_i hh
      obtain ⟨rfl, rfl⟩ := hh
      exact hS lo n u h2
    · exact AV.mv hM h2
  · exact AV.mv hM h2
end
end Go.Proofs.YtnbnpnmkgemdeaaGreatDoor

namespace Go.Proofs.YtnbnpnmkgemdeaaGreatDoor
open Go.RowKit
section
variable {P : Program} {ti : TI} {N n0 : Nat} {L : List Ob} {T : Tm} {Q : AX → Tm → List Ob → Prop}
theorem freeze_main {B : Nat → Prop} {R : PH} {γ : List Gh} {w : World} (hi : Inv B R γ L w) {id ver k : Nat} {es : List (List SV)} {cs : List (List AC)} (hL : L[id]? = some (.row ver es k)) (hn : normR es = some cs) :
    ∃ R' γ', Inv B R' γ' (L.set id .dead) w ∧ Ext B R R' w w ∧ Mv R R' γ γ' L (L.set id .dead) ∧ ∀ lo n u, (SV.sl id ver lo n).rep R γ L u → PRep R' u (.lst ((cs.drop lo).take n)) := by
  have hlt : id < L.length := (List.getElem?_eq_some_iff.1 hL).1
  obtain ⟨g, hg⟩ : ∃ g, γ[id]? = some g := ⟨_, List.getElem?_eq_getElem (by rw [hi.len]; exact hlt)⟩
  have hob := hi.obj id _ _ hL hg
  have hlc := normR_len hn
  match g, hg, hob with
  | .none, hg, hob =>
    have he : es = [] := hob
    subst he
    injection hn with hn; subst hn
    have hm : Mv R R γ (γ.set id .none) L (L.set id .dead) := Mv.setOb (PH.sub_refl _) hi.len hL (fun b e => by rw [hg] at e; cases e) (fun _ _ e => by cases e) (fun _ _ _ e => by cases e)
    have hgs : γ.set id .none = γ := by
      apply List.ext_getElem?
      intro j
      by_cases hj : j = id
      · subst hj; rw [List.getElem?_set_self (by rw [hi.len]; exact hlt), hg]
      · rw [List.getElem?_set_ne (Ne.symm hj)]
    rw [hgs] at hm
    refine ⟨R, γ, ⟨by simp [hi.len], hi.val, fun j y h hy hh => ?_, hi.inj, hi.new, hi.bsz⟩, Ext.refl _ _ _, hm, fun lo n u hu => ?_⟩
    · by_cases hj : j = id
      · subst hj
        rw [List.getElem?_set_self hlt] at hy; injection hy with hy; subst hy
        rw [hg] at hh; injection hh with hh; subst hh
        trivial
      · rw [List.getElem?_set_ne (Ne.symm hj)] at hy
        exact (hi.obj j y h hy hh).mv hm (fun _ _ => rfl) (fun _ _ _ e => e)
    · obtain ⟨_, _, hall⟩ := hu
      obtain ⟨_, g', hg', hat⟩ := (hall _ [] k hL).2 rfl
      rw [hg] at hg'; injection hg' with hg'; subst hg'
      obtain ⟨rfl, rfl, rfl⟩ := hat
      exact prep_nil _ _ _
  | .arr b c, hg, hob =>
    obtain ⟨vs, E, hb, hE, hsz, hle, hk, hcells, hRn⟩ := row_cells hi hL hg
    have hle2 : es.length * k ≤ c * k := Nat.mul_le_mul_right _ hle
    have hsub0 : ∀ b' o u, R b' o = some u → (if b' = b ∧ o < es.length * k then vs[o]? else R b' o) = some u := by
      intro b' o u h
      by_cases hc : b' = b ∧ o < es.length * k
      · exfalso; rw [hc.1, hRn] at h; cases h
      · rw [if_neg hc]; exact h
    let R' : PH := R.put (fun b' o => if b' = b ∧ o < es.length * k then vs[o]? else R b' o) hsub0
    have hsub : PH.sub R R' := hsub0
    obtain ⟨i1, i2⟩ := hi.kill hL hg rfl (fun b e => by cases e) (R' := R') (w' := w) hsub (fun _ _ => rfl) rfl (fun b' o hne => by show (if b' = b ∧ o < es.length * k then vs[o]? else R b' o) = R b' o; rw [if_neg (fun h => hne h.1)])
      (fun o u h => by
        have h : (if b = b ∧ o < es.length * k then vs[o]? else R b o) = some u := h
        rw [cell_of_block hb]
        by_cases hc : b = b ∧ o < es.length * k
        · rw [if_pos hc] at h; exact h
        · rw [if_neg hc, hRn] at h; cases h)
    have hnb := (hi.new id _ b hg rfl).1
    refine ⟨R', γ.set id .none, i1, ⟨Kept.refl _ _, hsub, fun b' o hb' => ?_⟩, i2, fun lo n u hu => ?_⟩
    · show (if b' = b ∧ o < es.length * k then vs[o]? else R b' o) = R b' o
      rw [if_neg (fun h => hnb (by rw [← h.1]; exact hb'))]
    · obtain ⟨_, _, hall⟩ := hu
      obtain ⟨hln, g', hg', hat⟩ := (hall _ es k hL).2 rfl
      rw [hg] at hg'; injection hg' with hg'; subst hg'
      have hlen : ((cs.drop lo).take n).length = n := by simp; omega
      have hcv : ∃ a c', u = .slice a n c' ∧ n ≤ c' ∧ (0 < n → a = some ⟨b, lo * k, none⟩) := by
        rcases hat with hat | ⟨q1, q2, a, q3⟩
        · exact ⟨_, _, hat, by omega, fun _ => rfl⟩
        · exact ⟨a, 0, by rw [q3, q2], by omega, fun h => by omega⟩
      obtain ⟨a, c', rfl, hnc, ha⟩ := hcv
      have h1 : lo * k + n * k ≤ es.length * k := by rw [← Nat.add_mul]; exact Nat.mul_le_mul_right _ hln
      have getc : ∀ (i : Nat) e, ((cs.drop lo).take n)[i]? = some e → i < n ∧ ∃ y, es[lo + i]? = some y ∧ normL y = some e := by
        intro i e he
        rw [List.getElem?_take] at he
        split at he
        · rename_i hin
          rw [List.getElem?_drop] at he
          obtain ⟨y, g1, g2⟩ := normR_get hn (lo + i) e he
          exact ⟨hin, y, g1, g2⟩
        · cases he
      refine .lst a n c' _ k (fun j => (vs[lo * k + j]?).getD Go.undef) b (lo * k) hlen hnc (fun e he => ?_) ha (fun j hj => ?_) (fun i e j x he hx => ?_)
      · obtain ⟨i, hi'⟩ := List.mem_iff_getElem?.1 he
        obtain ⟨_, y, g1, g2⟩ := getc i e hi'
        rw [normL_len g2]; exact hcells.wide y (List.mem_of_getElem? g1)
      · have hlt2 : lo * k + j < vs.size := by omega
        show (if b = b ∧ lo * k + j < es.length * k then vs[lo * k + j]? else R b (lo * k + j)) = _
        rw [if_pos ⟨rfl, by omega⟩, Array.getElem?_eq_getElem hlt2]; rfl
      · obtain ⟨hin, y, g1, g2⟩ := getc i e he
        have hjk : j < k := by rw [← hcells.wide y (List.mem_of_getElem? g1), ← normL_len g2]; exact (List.getElem?_eq_some_iff.1 hx).1
        have hlt3 := idx_lt hin hjk
        have hlt2 : lo * k + (i * k + j) < vs.size := by omega
        have hyj : j < y.length := by rw [hcells.wide y (List.mem_of_getElem? g1)]; exact hjk
        have hr := hcells.rep (lo + i) y j vs[lo * k + (i * k + j)] _ g1 (by
          rw [List.getElem?_take, if_pos (by rw [Nat.add_mul]; omega), Nat.add_mul, Nat.add_assoc]
          simp [hlt2]) (List.getElem?_eq_getElem hyj)
        have := SV.norm_rep hr (normL_get g2 j _ _ (List.getElem?_eq_getElem hyj) hx)
        show PRep R' ((vs[lo * k + (i * k + j)]?).getD Go.undef) x
        rw [Array.getElem?_eq_getElem hlt2]
        exact PRep.mono hsub this

theorem aw_freeze1 {c : Code} (id t : Nat) {ver k n : Nat} {es : List (List SV)} {cs : List (List AC)} (hL : L[id]? = some (.row ver es k)) (hn : normR es = some cs) (ht : T.lookup t = some (.one (.sl id ver 0 n))) (hlen : cs.length = n) (h : Aw P N n0 c Q ((t, .one (.c (.lst cs))) :: T) (L.set id .dead)) : Aw P N n0 c Q T L := by
  intro hn0 B R γ w a hi hT
  obtain ⟨R', γ', hI, hE, hM, hS⟩ := freeze_main hi hL hn
  refine wp_mono (h (by simpa using hn0) B R' γ' w a hI ?_) fun _ _ _ hh => hh.ext hE hi.len (MvN.of hn0 hM)
  refine ⟨hT.size, hT.defers, fun t' x hx => ?_⟩
  rw [List.lookup_cons] at hx
  by_cases e : t' = t
  · subst e
    simp at hx; subst hx
    obtain ⟨u, h1, h2⟩ := hT.slot t' _ ht
    refine ⟨u, h1, ?_⟩
    have := hS 0 n u h2
    rw [List.drop_zero, ← hlen, List.take_length] at this
    exact this
  · have : (t' == t) = false := by simpa using e
    rw [this] at hx
    obtain ⟨u, h1, h2⟩ := hT.slot t' x hx
    exact ⟨u, h1, AV.mv hM h2⟩
end
end Go.Proofs.YtnbnpnmkgemdeaaGreatDoor

namespace Go.Proofs.YtnbnpnmkgemdeaaGreatDoor
open Go.RowKit Go.MapKept
def unC (id : Nat) (ts : List AC) : Cap → Cap
  | .ptr i off => if i = id then .c (.ref (ts.drop off)) else .ptr i off
  | .c x => .c x
def unS (id : Nat) (ts : List AC) : SV → SV
  | .ptr i off => if i = id then .c (.ref (ts.drop off)) else .ptr i off
  | .clo f caps => match capsC (caps.map (unC id ts)) with
    | some cs => .c (.fn f cs)
    | none => .clo f (caps.map (unC id ts))
  | x => x
def unA (id : Nat) (ts : List AC) : AV → AV
  | .one x => .one (unS id ts x)
  | .agg xs => .agg (xs.map (unS id ts))
  | v => v
section
variable {P : Program} {ti : TI} {B : Nat → Prop} {N n0 : Nat} {R : PH} {γ : List Gh} {L : List Ob} {T : Tm} {w : World} {Q : AX → Tm → List Ob → Prop}
theorem freezeBox_main (hi : Inv B R γ L w) {id : Nat} {cs : List SV} {ts : List AC} (hL : L[id]? = some (.box cs)) (hn : normL cs = some ts) :
    ∃ R', Inv B R' γ (L.set id .dead) w ∧ Ext B R R' w w ∧ Mv R R' γ γ L (L.set id .dead) ∧ ∀ off u, (SV.ptr id off).rep R γ L u → PRep R' u (.ref (ts.drop off)) := by
  have hlt : id < L.length := (List.getElem?_eq_some_iff.1 hL).1
  obtain ⟨g, hg⟩ : ∃ g, γ[id]? = some g := ⟨_, List.getElem?_eq_getElem (by rw [hi.len]; exact hlt)⟩
  have hob := hi.obj id _ _ hL hg
  match g, hg, hob with
  | .box b, hg, hob =>
    obtain ⟨⟨vs, E, hb, hsz, hrep⟩, hRn⟩ := hob
    have hsub0 : ∀ b' o u, R b' o = some u → (if b' = b then vs[o]? else R b' o) = some u := by
      intro b' o u h
      by_cases hc : b' = b
      · exfalso; rw [hc, hRn] at h; cases h
      · rw [if_neg hc]; exact h
    let R' : PH := R.put (fun b' o => if b' = b then vs[o]? else R b' o) hsub0
    have hsub : PH.sub R R' := hsub0
    have hR' : ∀ o, R' b o = vs[o]? := fun o => by show (if b = b then vs[o]? else R b o) = _; rw [if_pos rfl]
    have hRo : ∀ b' o, b' ≠ b → R' b' o = R b' o := fun b' o h => by show (if b' = b then vs[o]? else R b' o) = _; rw [if_neg h]
    have hkeep : ∀ (t : Nat) x, (L.set id .dead)[t]? = some x → x ≠ .dead → L[t]? = some x := by
      intro t x hx hne
      by_cases ht : t = id
      · subst ht; rw [List.getElem?_set_self hlt] at hx; injection hx with hx; exact absurd hx.symm hne
      · rwa [List.getElem?_set_ne (Ne.symm ht)] at hx
    have hm : Mv R R' γ γ L (L.set id .dead) := ⟨hsub0, by simp, fun t n' k _ h => ⟨n', hkeep t _ h (fun e => by cases e), Nat.le_refl _, fun _ => rfl⟩, fun t ver es k _ h => ⟨ver, es, hkeep t _ h (fun e => by cases e), Nat.le_refl _, fun _ => ⟨rfl, rfl⟩⟩, fun _ _ h => h⟩
    have hnb := (hi.new id _ b hg rfl).1
    refine ⟨R', ⟨by simp [hi.len], fun b' o u h => ?_, fun j y h hy hh => ?_, hi.inj, hi.new, hi.bsz⟩, ⟨Kept.refl _ _, hsub0, fun b' o hb' => hRo b' o (fun e => hnb (e ▸ hb'))⟩, hm, fun off u hu => ?_⟩
    · by_cases hc : b' = b
      · subst hc; rw [hR'] at h; rw [cell_of_block hb]; exact h
      · rw [hRo _ _ hc] at h; exact hi.val _ _ _ h
    · by_cases hj : j = id
      · subst hj
        rw [List.getElem?_set_self hlt] at hy; injection hy with hy; subst hy
        rw [hg] at hh; injection hh with hh; subst hh
        trivial
      · rw [List.getElem?_set_ne (Ne.symm hj)] at hy
        exact (hi.obj j y h hy hh).mv hm (fun _ _ => rfl) (fun b' o hb' e => by rw [hRo b' o (fun e' => hi.inj j id h _ hh hg hj b' hb' (by rw [e']; rfl))]; exact e)
    · obtain ⟨b2, rfl, hb2⟩ := hu
      rw [hg] at hb2; injection hb2 with hb2; injection hb2 with hb2; subst hb2
      have hlen := normL_len hn
      refine .ref b off (ts.drop off) (fun j => (vs[off + j]?).getD Go.undef) (fun j hj => ?_) (fun j x hx => ?_)
      · have hlt2 : off + j < vs.size := by rw [List.length_drop] at hj; omega
        rw [hR', Array.getElem?_eq_getElem hlt2]; rfl
      · rw [List.getElem?_drop] at hx
        have hlt3 : off + j < ts.length := (List.getElem?_eq_some_iff.1 hx).1
        have hlt2 : off + j < vs.size := by omega
        have hcj : off + j < cs.length := by omega
        show PRep R' ((vs[off + j]?).getD Go.undef) x
        rw [Array.getElem?_eq_getElem hlt2]
        exact PRep.mono hsub (SV.norm_rep (hrep (off + j) _ _ (Array.getElem?_eq_getElem hlt2) (List.getElem?_eq_getElem hcj)) (normL_get hn (off + j) _ _ (List.getElem?_eq_getElem hcj) hx))
theorem unC_rep {R' : PH} {L' : List Ob} {id : Nat} {ts : List AC} (hS : ∀ off u, (SV.ptr id off).rep R γ L u → PRep R' u (.ref (ts.drop off))) (hM : Mv R R' γ γ L L') {x : Cap} {u : Value} (h : x.rep R γ u) : (unC id ts x).rep R' γ u := by
  cases x with
  | c x => exact Cap.mv hM.sub hM.ptr h
  | ptr i off =>
    unfold unC
    dsimp only
    split
    · rename_i e; subst e; exact hS off u h
    · exact Cap.mv hM.sub hM.ptr h
theorem unS_rep {R' : PH} {L' : List Ob} {id : Nat} {ts : List AC} (hS : ∀ off u, (SV.ptr id off).rep R γ L u → PRep R' u (.ref (ts.drop off))) (hM : Mv R R' γ γ L L') {x : SV} {u : Value} (h : x.rep R γ L u) : (unS id ts x).rep R' γ L' u := by
  cases x with
  | ptr i off =>
    unfold unS
    dsimp only
    split
    · rename_i e; subst e; exact hS off u h
    · exact SV.mv hM h
  | clo f caps =>
    obtain ⟨vs, rfl, hsz, hc⟩ := h
    have hc' : ∀ (j : Nat) u x, vs[j]? = some u → (caps.map (unC id ts))[j]? = some x → x.rep R' γ u := by
      intro j u x hu hx
      rw [List.getElem?_map] at hx
      cases hy : caps[j]? with
      | none => rw [hy] at hx; cases hx
      | some y => rw [hy] at hx; cases hx; exact unC_rep hS hM (hc j u y hu hy)
    unfold unS
    dsimp only
    split
    · rename_i cs hcs
      have hl := capsC_len hcs
      rw [List.length_map] at hl
      exact .fn f vs cs (by rw [hsz, hl]) (fun j v x hv hx => hc' j v (.c x) hv (capsC_get hcs j x hx))
    · exact ⟨vs, rfl, by rw [hsz, List.length_map], hc'⟩
  | c x => exact SV.mv hM h
  | emp => exact SV.mv (x := .emp) hM h
  | own es t => exact SV.mv (x := .own es t) hM h
  | sl i v l n => exact SV.mv (x := .sl i v l n) hM h
  | ep i v j o => exact SV.mv (x := .ep i v j o) hM h
  | mp i => exact SV.mv (x := .mp i) hM h
theorem unA_rep {R' : PH} {L' : List Ob} {id : Nat} {ts : List AC} (hS : ∀ off u, (SV.ptr id off).rep R γ L u → PRep R' u (.ref (ts.drop off))) (hM : Mv R R' γ γ L L') {x : AV} {u : Value} (h : x.rep R γ L u) : (unA id ts x).rep R' γ L' u := by
  cases x with
  | one x => exact unS_rep hS hM h
  | agg xs =>
    obtain ⟨vs, rfl, hsz, hc⟩ := h
    refine ⟨vs, rfl, by rw [hsz, List.length_map], fun j u x hu hx => ?_⟩
    rw [List.getElem?_map] at hx
    cases hy : xs[j]? with
    | none => rw [hy] at hx; cases hx
    | some y => rw [hy] at hx; cases hx; exact unS_rep hS hM (hc j u y hu hy)
  | tup ps => exact AV.mv (x := .tup ps) hM h
  | undef => exact AV.mv (x := .undef) hM h
theorem lookup_mapA {f : AV → AV} : ∀ {T : Tm} {t : Nat} {x : AV}, (T.map fun p => (p.1, f p.2)).lookup t = some x → ∃ y, T.lookup t = some y ∧ x = f y
  | [], t, x, h => by cases h
  | p :: T, t, x, h => by
    rw [List.map_cons, List.lookup_cons] at h
    rw [List.lookup_cons]
    by_cases e : t = p.1
    · subst e; simp at h; exact ⟨p.2, by simp, h.symm⟩
    · have e' : (t == p.1) = false := by simpa using e
      rw [e'] at h ⊢
      exact lookup_mapA h
theorem aw_freezeBox {c : Code} (id : Nat) {cs : List SV} {ts : List AC} (hL : L[id]? = some (.box cs)) (hn : normL cs = some ts) (h : Aw P N n0 c Q (T.map fun p => (p.1, unA id ts p.2)) (L.set id .dead)) : Aw P N n0 c Q T L := by
  intro hn0 B R γ w a hi hT
  obtain ⟨R', hI, hE, hM, hS⟩ := freezeBox_main hi hL hn
  refine wp_mono (h (by simpa using hn0) B R' γ w a hI ?_) fun _ _ _ hh => hh.ext hE hi.len (MvN.of hn0 hM)
  refine ⟨hT.size, hT.defers, fun t x hx => ?_⟩
  obtain ⟨y, hy, rfl⟩ := lookup_mapA hx
  obtain ⟨u, h1, h2⟩ := hT.slot t y hy
  exact ⟨u, h1, unA_rep hS hM h2⟩
def thS (id ver : Nat) (cs : List (List AC)) : SV → SV
  | .sl id' ver' lo n => if id' = id ∧ ver' = ver then .c (.lst ((cs.drop lo).take n)) else .sl id' ver' lo n
  | x => x
def thA (id ver : Nat) (cs : List (List AC)) : AV → AV
  | .one x => .one (thS id ver cs x)
  | .agg xs => .agg (xs.map (thS id ver cs))
  | v => v
theorem thS_rep {R' : PH} {γ' : List Gh} {L' : List Ob} {id ver : Nat} {cs : List (List AC)} (hS : ∀ lo n u, (SV.sl id ver lo n).rep R γ L u → PRep R' u (.lst ((cs.drop lo).take n))) (hM : Mv R R' γ γ' L L') {x : SV} {u : Value} (h : x.rep R γ L u) : (thS id ver cs x).rep R' γ' L' u := by
  cases x with
  | sl i v l n =>
    unfold thS
    dsimp only
    split
    · rename_i e; obtain ⟨rfl, rfl⟩ := e; exact hS l n u h
    · exact SV.mv hM h
  | c x => exact SV.mv hM h
  | emp => exact SV.mv (x := .emp) hM h
  | own es t => exact SV.mv (x := .own es t) hM h
  | ptr i o => exact SV.mv (x := .ptr i o) hM h
  | ep i v j o => exact SV.mv (x := .ep i v j o) hM h
  | mp i => exact SV.mv (x := .mp i) hM h
  | clo f caps => exact SV.mv (x := .clo f caps) hM h
theorem aw_freezeRow {c : Code} (id : Nat) {ver k : Nat} {es : List (List SV)} {cs : List (List AC)} (hL : L[id]? = some (.row ver es k)) (hn : normR es = some cs) (h : Aw P N n0 c Q (T.map fun p => (p.1, thA id ver cs p.2)) (L.set id .dead)) : Aw P N n0 c Q T L := by
  intro hn0 B R γ w a hi hT
  obtain ⟨R', γ', hI, hE, hM, hS⟩ := freeze_main hi hL hn
  refine wp_mono (h (by simpa using hn0) B R' γ' w a hI ?_) fun _ _ _ hh => hh.ext hE hi.len (MvN.of hn0 hM)
  refine ⟨hT.size, hT.defers, fun t x hx => ?_⟩
  obtain ⟨y, hy, rfl⟩ := lookup_mapA hx
  obtain ⟨u, h1, h2⟩ := hT.slot t y hy
  refine ⟨u, h1, ?_⟩
  cases y with
  | one x => exact thS_rep hS hM h2
  | agg xs =>
    obtain ⟨vs, rfl, hsz, hc⟩ := h2
    refine ⟨vs, rfl, by rw [hsz, List.length_map], fun j u x hu hx => ?_⟩
    rw [List.getElem?_map] at hx
    cases hy : xs[j]? with
    | none => rw [hy] at hx; cases hx
    | some y => rw [hy] at hx; cases hx; exact thS_rep hS hM (hc j u y hu hy)
  | tup ps => exact AV.mv (x := .tup ps) hM h2
  | undef => exact AV.mv (x := .undef) hM h2
end
end Go.Proofs.YtnbnpnmkgemdeaaGreatDoor

namespace Go.Proofs.YtnbnpnmkgemdeaaGreatDoor
open Go.RowKit Go.MapKept
set_option linter.unusedVariables false
theorem part_one0 {P : Program} {w : World} {t : TypeId} {d : TypeDesc} (ht : P.underlying t = some d) (hd : (match d with | .struct _ => true | .array _ _ => true | _ => false) = false) {xs : Array Value} {i : Nat} {v : Value} (hx : xs[i]? = some v) : (part t xs i).run P w = .ok v w := by
  cases d <;> first | (cases hd; done) | simp [part, isAgg, run_underlying ht, hx]
def scOf : TypeDesc → Option Sc
  | .int k => some (.int k)
  | .bool => some .bool
  | .string => some .str
  | _ => none
def scIs (s : Sc) : Option TypeDesc → Bool
  | some d => match scOf d with
    | some s' => decide (s' = s)
    | none => false
  | none => false
def ScEq (d : Option TypeDesc) : Sc → Prop
  | .int k => d = some (.int k)
  | .bool => d = some .bool
  | .str => d = some .string
theorem scIs_of {s : Sc} {d : Option TypeDesc} (h : scIs s d = true) : ScEq d s := by
  unfold scIs at h
  cases d with
  | none => cases h
  | some d =>
    dsimp only at h
    cases hs : scOf d with
    | none => rw [hs] at h; cases h
    | some s' =>
      rw [hs] at h
      obtain rfl : s' = s := of_decide_eq_true h
      unfold scOf at hs
      split at hs <;> first | (cases hs; rfl) | (cases hs; done)
def flatB (P : Program) : List Field → List Sc → Nat → Bool
  | [], [], _ => true
  | f :: fs, s :: sh, i => (!(f.name == "_")) && (Nat.beq f.offset i && (scIs s (P.underlying f.type) && flatB P fs sh (i + 1)))
  | _, _, _ => false
theorem scals_cons {x : SV} {xs : List SV} {vs : List Value} (h : scals (x :: xs) = some vs) : ∃ c v r, x = .c c ∧ scal c = some v ∧ scals xs = some r ∧ vs = v :: r := by
  unfold scals at h
  split at h
  · rename_i e; cases e
  · rename_i y ys e
    cases e
    split at h
    · rename_i v r h1 h2; cases h; exact ⟨_, v, r, rfl, h1, h2, rfl⟩
    · cases h
  · cases h
theorem eqFields_flat {P : Program} {w : World} (d : Nat) {A B : Array Value} : ∀ (fs : List Field) (sh : List Sc) (i : Nat) (xs ys : List SV) (vs us : List Value), flatB P fs sh i = true → fitsS sh xs = true → fitsS sh ys = true → scals xs = some vs → scals ys = some us →
    (∀ (j : Nat) v, vs[j]? = some v → A[i + j]? = some v) → (∀ (j : Nat) v, us[j]? = some v → B[i + j]? = some v) → (Op.eqFields (d + 1) A B fs).run P w = .ok (sameS xs ys) w := by
  intro fs
  induction fs with
  | nil =>
    intro sh i xs ys vs us hf hx hy _ _ _ _
    cases sh with
    | nil =>
      cases xs with
      | nil => cases ys with
        | nil => rfl
        | cons _ _ => cases hy
      | cons _ _ => cases hx
    | cons _ _ => cases hf
  | cons f fs ih =>
    intro sh i xs ys vs us hf hx hy hv hu hA hB
    cases sh with
    | nil => cases hf
    | cons s sh =>
      rw [flatB, Bool.and_eq_true, Bool.and_eq_true, Bool.and_eq_true] at hf
      obtain ⟨h1, h2, h3, h4⟩ := hf
      have h2 := Nat.eq_of_beq_eq_true h2
      have h1 : f.name ≠ "_" := by simpa using h1
      have h3 := scIs_of h3
      cases xs with
      | nil => cases s <;> cases hx
      | cons x xs =>
        cases ys with
        | nil => cases s <;> cases hy
        | cons y ys =>
          obtain ⟨cx, v, vr, rfl, hv1, hv2, rfl⟩ := scals_cons hv
          obtain ⟨cy, u, ur, rfl, hu1, hu2, rfl⟩ := scals_cons hu
          have a0 := hA 0 v rfl
          have b0 := hB 0 u rfl
          rw [Nat.add_zero] at a0 b0
          have rest : ∀ (hx' : fitsS sh xs = true) (hy' : fitsS sh ys = true), (Op.eqFields (d + 1) A B fs).run P w = .ok (sameS xs ys) w := fun hx' hy' =>
            ih sh (i + 1) xs ys vr ur h4 hx' hy' hv2 hu2 (fun j v hj => by have := hA (j + 1) v (by simpa using hj); rwa [show i + 1 + j = i + (j + 1) by omega]) (fun j v hj => by have := hB (j + 1) v (by simpa using hj); rwa [show i + 1 + j = i + (j + 1) by omega])
          cases s with
          | int k =>
            unfold ScEq at h3
            cases cx <;> first | (cases hx; done) | skip
            cases cy <;> first | (cases hy; done) | skip
            rename_i k1 a k2 b
            simp only [fitsS, Bool.and_eq_true, decide_eq_true_eq] at hx hy
            obtain ⟨rfl, hx'⟩ := hx
            obtain ⟨rfl, hy'⟩ := hy
            cases hv1; cases hu1
            have p1 := part_one0 (P := P) (w := w) h3 rfl a0
            have p2 := part_one0 (P := P) (w := w) h3 rfl b0
            simp only [Op.eqFields, h1, h2, ne_eq, not_false_eq_true, if_true, Sem.run_bind, p1, p2, Result.andThen_ok, run_equalIn_int (P := P) w d _ k k a b h3, Sem.run_ite, Sem.run_pure, rest hx' hy']
            cases e : (a == b)
            · have : a ≠ b := by simpa using e
              simp [sameS, this]
            · have : a = b := by simpa using e
              simp [sameS, this]
          | bool =>
            unfold ScEq at h3
            cases cx <;> first | (cases hx; done) | skip
            cases cy <;> first | (cases hy; done) | skip
            rename_i a b
            simp only [fitsS] at hx hy
            cases hv1; cases hu1
            have p1 := part_one0 (P := P) (w := w) h3 rfl a0
            have p2 := part_one0 (P := P) (w := w) h3 rfl b0
            simp only [Op.eqFields, h1, h2, ne_eq, not_false_eq_true, if_true, Sem.run_bind, p1, p2, Result.andThen_ok, run_equalIn_bool (P := P) w d _ a b h3, Sem.run_ite, Sem.run_pure, rest hx hy]
            cases e : (a == b) <;> simp [sameS, e]
          | str =>
            unfold ScEq at h3
            cases cx <;> first | (cases hx; done) | skip
            cases cy <;> first | (cases hy; done) | skip
            rename_i a b
            simp only [fitsS] at hx hy
            cases hv1; cases hu1
            have p1 := part_one0 (P := P) (w := w) h3 rfl a0
            have p2 := part_one0 (P := P) (w := w) h3 rfl b0
            simp only [Op.eqFields, h1, h2, ne_eq, not_false_eq_true, if_true, Sem.run_bind, p1, p2, Result.andThen_ok, run_equalIn_string (P := P) w d _ a b h3, Sem.run_ite, Sem.run_pure, rest hx hy]
            cases e : (a.toList == b.toList) <;> simp [sameS, e]
/-- A type whose comparison is that of its scalars. -/
def eqTypeB (P : Program) (t : TypeId) (sh : List Sc) : Bool :=
  (match P.underlying t with
  | some (.struct fs) => flatB P fs.toList sh 0
  | _ => false) && (!P.stoodInHeld t && !P.eqGuardType P.depth t)
theorem eqType_ok {P : Program} {t : TypeId} {sh : List Sc} (h : eqTypeB P t sh = true) : P.eqGuardType P.depth t = false ∧ ∀ xs ys, fitsS sh xs = true → fitsS sh ys = true → EqRuns P t xs ys := by
  rw [eqTypeB, Bool.and_eq_true, Bool.and_eq_true] at h
  obtain ⟨h1, h2, h3⟩ := h
  refine ⟨by simpa using h3, fun xs ys hx hy vs us hv hu w => ?_⟩
  split at h1
  · rename_i fs ht
    have hfs : P.fieldsOf t = fs := by unfold Program.fieldsOf; rw [ht]
    have hm : Op.equal t (.agg vs.toArray) (.agg us.toArray) = Op.equalIn (9999 + 1) t (.agg vs.toArray) (.agg us.toArray) := rfl
    rw [hm, run_equalIn_struct w 9999 t _ _ (by rw [hfs]; exact ht) (by simpa using h2), hfs]
    exact eqFields_flat 9998 _ sh 0 xs ys vs us h1 hx hy hv hu (fun j v hj => by simpa using hj) (fun j v hj => by simpa using hj)
  · cases h1
end Go.Proofs.YtnbnpnmkgemdeaaGreatDoor
