/- Parts of the proof, joined (V1 V2 V2b V3 V4 V4b V5 V6 V7 V8 V9 V10). No condition. -/
import Derived.Test.YtfpbmfalamappaaGreatDoorKC
import Derived.Test.YtfpbmfalamappaaGreatDoorKF
import Derived.Test.YtfpbmfalamappaaGreatDoorKT
set_option linter.unusedSimpArgs false
set_option linter.unusedVariables false
namespace Go.Proofs.YtfpbmfalamappaaGreatDoor
open Go.RowKit Go.MapKept

/-- One round of a loop: go on, leave it, or return from the function. -/
inductive Step (σ ρ : Type) where
  | next (s : σ)
  | exit (s : σ)
  | ret (r : ρ)
def loopM {σ ρ : Type} (body : σ → Option (Step σ ρ)) : Nat → σ → Option (Sum σ ρ)
  | 0, _ => none
  | n + 1, s => match body s with
    | none => none
    | some (.next s') => loopM body n s'
    | some (.exit s') => some (.inl s')
    | some (.ret r) => some (.inr r)
/-- Rounds enough. -/
def fuel : Nat := 4611686018427387904
def getI {α : Type} (l : List α) (i : Int) : Option α := if 0 ≤ i then l[i.toNat]? else none
def subI {α : Type} (l : List α) (a b : Int) : Option (List α) := if 0 ≤ a ∧ a ≤ b ∧ b ≤ (l.length : Nat) then some ((l.take b.toNat).drop a.toNat) else none
theorem bind_some {α β : Type} {x : Option α} {f : α → Option β} {r : β} (h : x.bind f = some r) : ∃ a, x = some a ∧ f a = some r := by
  cases x with
  | none => cases h
  | some a => exact ⟨a, rfl, h⟩
theorem getI_some {α : Type} {l : List α} {i : Int} {x : α} (h : getI l i = some x) : 0 ≤ i ∧ l[i.toNat]? = some x := by
  unfold getI at h
  by_cases h0 : 0 ≤ i
  · rw [if_pos h0] at h; exact ⟨h0, h⟩
  · rw [if_neg h0] at h; cases h
theorem subI_some {α : Type} {l r : List α} {a b : Int} (h : subI l a b = some r) : (0 ≤ a ∧ a ≤ b ∧ b ≤ (l.length : Nat)) ∧ r = (l.take b.toNat).drop a.toNat := by
  unfold subI at h
  by_cases h0 : 0 ≤ a ∧ a ≤ b ∧ b ≤ (l.length : Nat)
  · rw [if_pos h0] at h; exact ⟨h0, (Option.some.inj h).symm⟩
  · rw [if_neg h0] at h; cases h
theorem grd_some {c : Bool} {β : Type} {x : Option β} {r : β} (h : (bif c then x else none) = some r) : c = true ∧ x = some r := by
  cases c with
  | true => exact ⟨rfl, h⟩
  | false => cases h
theorem idxI {α : Type} {l : List α} {f : α → List AC} {i : Int} {x : α} (h : l[i.toNat]? = some x) : (l.map f)[i.toNat]? = some (f x) := by rw [List.getElem?_map, h]; rfl
theorem wideI {α : Type} {f : α → List AC} {k : Nat} (hf : ∀ x, (f x).length = k) (l : List α) : ∀ e ∈ l.map f, e.length = k := by
  intro e he; simp only [List.mem_map] at he; obtain ⟨x, _, rfl⟩ := he; exact hf x
theorem loopM_mono {σ ρ : Type} {body : σ → Option (Step σ ρ)} : ∀ {n m : Nat} {s : σ} {r : Sum σ ρ}, n ≤ m → loopM body n s = some r → loopM body m s = some r
  | 0, _, _, _, _, h => by cases h
  | n + 1, 0, _, _, hle, _ => by omega
  | n + 1, m + 1, s, r, hle, h => by
    rw [loopM] at h ⊢
    cases hb : body s with
    | none => rw [hb] at h; cases h
    | some st => cases st with
      | next s' => rw [hb] at h; exact loopM_mono (by omega) h
      | exit s' => rw [hb] at h; exact h
      | ret q => rw [hb] at h; exact h
section
variable {P : Program} {ti : TI} {N n0 : Nat} {Q : AX → Tm → List Ob → Prop} {T : Tm} {L : List Ob}
/-- What holds behind a round. -/
@[reducible] def After {σ ρ γ : Type} (K : Sum σ ρ → Option γ) (r : γ) : Step σ ρ → Prop
  | .next _ => True
  | .exit s => K (.inl s) = some r
  | .ret q => K (.inr q) = some r
theorem aw_loopM {σ ρ γ : Type} {c : Code} {body : σ → Option (Step σ ρ)} {K : Sum σ ρ → Option γ} {r : γ} {s0 : σ} (TT : σ → Tm) (LL : σ → List Ob) (h : (loopM body fuel s0).bind K = some r) (hn1 : ∀ s, n0 ≤ (LL s).length) (hf : Fits T L (TT s0) (LL s0))
    (round : ∀ s st, body s = some st → After K r st → Aw P N n0 c (AX.then (fun T' L' => ∃ s', st = .next s' ∧ Fits T' L' (TT s') (LL s')) Q) (TT s) (LL s)) : Aw P N n0 (.loop c) Q T L := by
  refine aw_loop (fun s : Nat × σ => TT s.2) (fun s => LL s.2) (fun s => (loopM body s.1 s.2).bind K = some r) (fun s => s.1) (fuel, s0) h (fun s _ => hn1 s.2) hf ?_
  rintro ⟨n, s⟩ hok
  dsimp only at hok ⊢
  cases n with
  | zero => cases hok
  | succ n =>
    rw [loopM] at hok
    cases hb : body s with
    | none => rw [hb] at hok; cases hok
    | some st =>
      rw [hb] at hok
      refine Aw.mono (round s st hb ?_) ?_
      · cases st with
        | next s' => trivial
        | exit s' => exact hok
        | ret q => exact hok
      · intro x T' L' hq
        cases x with
        | normal =>
          obtain ⟨s', rfl, hfit⟩ := hq
          exact ⟨(n, s'), hok, Nat.lt_succ_self n, hfit⟩
        | exit id => exact hq
        | ret => exact hq
end
end Go.Proofs.YtfpbmfalamappaaGreatDoor

namespace Go.Proofs.YtfpbmfalamappaaGreatDoor
open Go.RowKit Go.MapKept
def Ex.op : Ex → Int | .mk a _ _ _ _ => a
def Ex.int : Ex → Int | .mk _ a _ _ _ => a
def Ex.v : Ex → Val | .mk _ _ a _ _ => a
def Ex.nm : Ex → ByteArray | .mk _ _ _ a _ => a
theorem tE_eq (e : Ex) : tE e = [.int .i64 e.op, .int .i64 e.int, .int .i64 e.v.kind, .int .i64 e.v.int, .str e.v.text, .str e.nm, .lst (e.args.map tE)] := by cases e; rw [tE_mk]; rfl
def Pl.op : Pl → Int | .mk a _ _ _ _ _ _ _ _ => a
def Pl.int : Pl → Int | .mk _ a _ _ _ _ _ _ _ => a
def Pl.kinds : Pl → List Int | .mk _ _ a _ _ _ _ _ _ => a
def Pl.rows : Pl → List (List Val) | .mk _ _ _ a _ _ _ _ _ => a
def Pl.pred : Pl → Ex | .mk _ _ _ _ a _ _ _ _ => a
def Pl.exprs : Pl → List Ex | .mk _ _ _ _ _ a _ _ _ => a
def Pl.keys : Pl → List Int | .mk _ _ _ _ _ _ a _ _ => a
def Pl.aggs : Pl → List Ag | .mk _ _ _ _ _ _ _ a _ => a
def Pl.inputs : Pl → List Pl | .mk _ _ _ _ _ _ _ _ a => a
theorem tP_eq (e : Pl) : tP e = [.int .i64 e.op, .int .i64 e.int, .lst (e.kinds.map (fun x => [AC.int .i64 x])), .lst (e.rows.map (fun x => [AC.lst (x.map cV)])), .int .i64 e.pred.op, .int .i64 e.pred.int, .int .i64 e.pred.v.kind, .int .i64 e.pred.v.int, .str e.pred.v.text, .str e.pred.nm, .lst (e.pred.args.map tE),
    .lst (e.exprs.map tE), .lst (e.keys.map (fun x => [AC.int .i64 x])), .lst (e.aggs.map cA), .lst (e.inputs.map tP)] := by
  obtain ⟨_, _, _, _, ⟨_, _, _, _, _⟩, _, _, _, _⟩ := e; rw [tP_mk]; rfl
structure Bag where
  kinds : List Int
  rows : List (List Val)
def cBag (b : Bag) : List AC := [.lst (b.kinds.map (fun x => [AC.int .i64 x])), .lst (b.rows.map (fun x => [AC.lst (x.map cV)]))]
structure Per where
  lo : Int
  hi : Int
def cPer (p : Per) : List AC := [.int .i64 p.lo, .int .i64 p.hi]
structure Ord where
  col : Int
  desc : Bool
def cOrd (p : Ord) : List AC := [.int .i64 p.col, .bool p.desc]
structure Keyed where
  key : List Val
  row : List Val
def cKeyed (p : Keyed) : List AC := [.lst (p.key.map cV), .lst (p.row.map cV)]
def mnI (a b : Int) : Int := if b < a then b else a
def mxI (a b : Int) : Int := if b > a then b else a
theorem mn_norm (a b : Int) : (if false = true then (if b > a then b else a) else (if b < a then b else a)) = mnI a b := rfl
theorem mx_norm (a b : Int) : (if true = true then (if b > a then b else a) else (if b < a then b else a)) = mxI a b := rfl
theorem subE {α : Type} {f : α → List AC} {l r : List α} {a b : Int} (h : r = (l.take b.toNat).drop a.toNat) : ((l.map f).take b.toNat).drop a.toNat = r.map f := by rw [h, ← List.map_take, ← List.map_drop]
def belowS (n : Nat) : SV → Bool
  | .c _ => true
  | .emp => true
  | .own _ t => Nat.blt t n
  | .ptr id _ => Nat.blt id n
  | _ => false
def belowC (n : Nat) : List SV → Bool
  | [] => true
  | x :: l => and (belowS n x) (belowC n l)
theorem belowS_of {n : Nat} {x : SV} (h : belowS n x = true) : x.below n := by
  cases x with
  | c _ => trivial
  | emp => trivial
  | own _ t => exact Nat.le_of_ble_eq_true h
  | ptr id _ => exact Nat.le_of_ble_eq_true h
  | sl => cases h
  | ep => cases h
  | mp => cases h
  | clo => cases h
theorem ob_below {n : Nat} : ∀ {cs : List SV}, belowC n cs = true → (Ob.box cs).below n
  | [], _ => fun x hx => by cases hx
  | c :: cs, h => fun x hx => by
    rw [belowC, Bool.and_eq_true] at h
    rcases List.mem_cons.1 hx with rfl | hx
    · exact belowS_of h.1
    · exact ob_below h.2 x hx
end Go.Proofs.YtfpbmfalamappaaGreatDoor

namespace Go.Proofs.YtfpbmfalamappaaGreatDoor
open Go.RowKit Go.MapKept
section
variable {P : Program} {ti : TI} {N n0 : Nat} {ds : List (Option Tmp)} {K : Tm → List Ob → Prop} {rest : List Oper} {o : Oper} {T : Tm} {L : List Ob}
theorem ff_ {p : Prop} {b : Bool} (h1 : b = false) (h2 : b = true) : p := by rw [h1] at h2; cases h2
theorem beq_tt {b : Bool} (h : b = true) : (b == true) = true := by rw [h]; rfl
theorem beq_ff {b : Bool} (h : b = false) : (b == false) = true := by rw [h]; rfl
theorem beq_tf {b : Bool} (h : b = false) : (b == true) = false := by rw [h]; rfl
theorem beq_ft {b : Bool} (h : b = true) : (b == false) = false := by rw [h]; rfl
theorem not_t {e : Bool} (h : e = false) : (!e) = true := by rw [h]; rfl
theorem not_f {e : Bool} (h : e = true) : (!e) = false := by rw [h]; rfl
def isPick : Op → Bool
  | .pick _ _ _ => true
  | _ => false
theorem p_ {v : AV} {φ : Prop} {d : Nat} (_ : isPick o.op = false) (hd : o.dst = some d) (hN : Nat.blt d N = true) {g0 : Bool} (hg : gdv ds T o.guard = some g0) (hp : pop ti (look T) L o.op = some (v, φ)) (h : awOps P ti N ds K rest ((d, v) :: T) L)
    (hφ : φ := by repeat' (first | exact trivial | rfl | exact Nat.le_of_ble_eq_true rfl | omega | assumption | exact wideI (by intro _; rfl) _ | exact wideI tE_len _ | exact wideI tP_len _ | (intro e he; simp at he; subst he; rfl) | (simp only [List.length_map]; omega) | apply And.intro)) (hg1 : g0 = true := by first | rfl | exact beq_tt (by first | assumption | exact not_t (by assumption)) | exact beq_ff (by first | assumption | exact not_f (by assumption))) : awOps P ti N ds K (o :: rest) T L := st_pop hd hN (hg1 ▸ hg) hp hφ h
theorem l_ {v : AV} {L' : List Ob} {φ : Prop} {d : Nat} (hd : o.dst = some d) (hN : Nat.blt d N = true) {g0 : Bool} (hg : gdv ds T o.guard = some g0) (hp : lop ti (look T) L o.op = some (v, L', φ)) (h : awOps P ti N ds K rest ((d, v) :: T) L')
    (hφ : φ := by repeat' (first | exact trivial | rfl | exact Nat.le_of_ble_eq_true rfl | omega | exact wideI (by intro _; rfl) _ | exact wideI tE_len _ | exact wideI tP_len _ | (intro e he; simp at he; subst he; rfl) | exact List.length_map _ | (simp only [List.length_map, List.length_append, List.length_cons, List.length_nil, Nat.zero_add]; omega) | apply And.intro)) (hg1 : g0 = true := by first | rfl | exact beq_tt (by first | assumption | exact not_t (by assumption)) | exact beq_ff (by first | assumption | exact not_f (by assumption))) : awOps P ti N ds K (o :: rest) T L := st_lop hd hN (hg1 ▸ hg) hp hφ h
theorem s_ {v : AV} {L' : List Ob} {φ : Prop} (hd : o.dst = none) {g0 : Bool} (hg : gdv ds T o.guard = some g0) (hp : lop ti (look T) L o.op = some (v, L', φ)) (h : awOps P ti N ds K rest T L') (hφ : φ := by repeat' (first | exact trivial | rfl | exact Nat.le_of_ble_eq_true rfl | omega | apply And.intro)) (hg1 : g0 = true := by first | rfl | exact beq_tt (by first | assumption | exact not_t (by assumption)) | exact beq_ff (by first | assumption | exact not_f (by assumption))) : awOps P ti N ds K (o :: rest) T L := st_store hd (hg1 ▸ hg) hp hφ h
theorem t_ {v : AV} {φ : Prop} {d : Nat} (hd : o.dst = some d) (hN : Nat.blt d N = true) {g0 : Bool} (hg : gdv ds T o.guard = some g0) (hp : litOp ti (look T) o.op = some (v, φ)) (h : awOps P ti N ds K rest ((d, v) :: T) L)
    (hφ : φ := by repeat' (first | exact trivial | rfl | exact Nat.le_of_ble_eq_true rfl | omega | (intro e he; simp at he; subst he; rfl) | (intro e he; simp at he; rcases he with rfl | rfl <;> rfl) | (intro e he; simp at he; rcases he with rfl | rfl | rfl <;> rfl) | (intro e he; simp at he; rcases he with rfl | rfl | rfl | rfl <;> rfl) | apply And.intro)) (hg1 : g0 = true := by first | rfl | exact beq_tt (by first | assumption | exact not_t (by assumption)) | exact beq_ff (by first | assumption | exact not_f (by assumption))) : awOps P ti N ds K (o :: rest) T L := st_lit hd hN (hg1 ▸ hg) hp hφ h
theorem c_ {g : FuncId} {ps : List PV} {r : CV} {d : Nat} {v : AV} (hd : o.dst = some d) (hN : Nat.blt d N = true) {g0 : Bool} (hg : gdv ds T o.guard = some g0) (hp : callOp (look T) o.op = some (g, ps)) (h : awOps P ti N ds K rest ((d, v) :: T) L) (hc : Pure P g ps r := by assumption) (hv : r.av = v := by rfl) (hg1 : g0 = true := by first | rfl | exact beq_tt (by first | assumption | exact not_t (by assumption)) | exact beq_ff (by first | assumption | exact not_f (by assumption))) : awOps P ti N ds K (o :: rest) T L := st_call hd hN (hg1 ▸ hg) hp hc hv h
theorem x_ {t : TypeId} {x ix : Operand} {vx : AV} {es : List (List AC)} {k0 : IntKind} {i : Int} {k d : Nat} {e : List AC} (hd : o.dst = some d) (hN : Nat.blt d N = true) {g0 : Bool} (hg : gdv ds T o.guard = some g0) (ho : o.op = .indexAddr t x ix) (hx : look T x = some vx) (hl : listOf vx = some es) (hi : look T ix = some (.one (.c (.int k0 i))))
    (hk : (ti.elem t).bind ti.size = some k) (h : awOps P ti N ds K rest ((d, .one (.c (.ref e))) :: T) L) (he : es[i.toNat]? = some e := by assumption) (h0 : 0 ≤ i := by assumption) (hl2 : e.length = k := by rfl) (hg1 : g0 = true := by first | rfl | exact beq_tt (by first | assumption | exact not_t (by assumption)) | exact beq_ff (by first | assumption | exact not_f (by assumption))) : awOps P ti N ds K (o :: rest) T L := st_idx hd hN (hg1 ▸ hg) ho hx hl hi hk he ⟨h0, hl2⟩ h
theorem pick_t {c a b : Operand} {e : Bool} {va vb : AV} {d : Nat} (hd : o.dst = some d) (hN : Nat.blt d N = true) {g0 : Bool} (hg : gdv ds T o.guard = some g0) (ho : o.op = .pick c a b) (hc : look T c = some (.one (.c (.bool e)))) (ha : look T a = some va) (hb : look T b = some vb) (h : awOps P ti N ds K rest ((d, va) :: T) L)
    (he : e = true := by first | rfl | assumption | exact not_t (by assumption)) (hg1 : g0 = true := by first | rfl | exact beq_tt (by first | assumption | exact not_t (by assumption)) | exact beq_ff (by first | assumption | exact not_f (by assumption))) : awOps P ti N ds K (o :: rest) T L := st_pop hd hN (hg1 ▸ hg) (by rw [ho]; simp only [pop, hc, ha, hb]; rw [if_pos he]) trivial h
theorem pick_f {c a b : Operand} {e : Bool} {va vb : AV} {d : Nat} (hd : o.dst = some d) (hN : Nat.blt d N = true) {g0 : Bool} (hg : gdv ds T o.guard = some g0) (ho : o.op = .pick c a b) (hc : look T c = some (.one (.c (.bool e)))) (ha : look T a = some va) (hb : look T b = some vb) (h : awOps P ti N ds K rest ((d, vb) :: T) L)
    (he : e = false := by first | rfl | assumption | exact not_f (by assumption)) (hg1 : g0 = true := by first | rfl | exact beq_tt (by first | assumption | exact not_t (by assumption)) | exact beq_ff (by first | assumption | exact not_f (by assumption))) : awOps P ti N ds K (o :: rest) T L := st_pop hd hN (hg1 ▸ hg) (by rw [ho]; simp only [pop, hc, ha, hb]; rw [if_neg (by rw [he]; decide)]) trivial h
theorem k_ {d : Nat} {g0 : Bool} (hd : o.dst = some d) (hN : Nat.blt d N = true) (hg : gdv ds T o.guard = some g0) (h : awOps P ti N ds K rest ((d, .undef) :: T) L) (hg1 : g0 = false := by first | rfl | exact beq_tf (by first | assumption | exact not_f (by assumption)) | exact beq_ft (by first | assumption | exact not_t (by assumption))) : awOps P ti N ds K (o :: rest) T L := st_skip hd hN (hg1 ▸ hg) h
theorem k0_ {g0 : Bool} (hd : o.dst = none) (hg : gdv ds T o.guard = some g0) (h : awOps P ti N ds K rest T L) (hg1 : g0 = false := by first | rfl | exact beq_tf (by first | assumption | exact not_f (by assumption)) | exact beq_ft (by first | assumption | exact not_t (by assumption))) : awOps P ti N ds K (o :: rest) T L := st_skip0 hd (hg1 ▸ hg) h
theorem aw_condT {Q : AX → Tm → List Ob → Prop} {c : Operand} {x y : Code} {b : Bool} (hc : look T c = some (.one (.c (.bool b)))) (h : Aw P N n0 x Q T L) (hb : b = true := by first | rfl | assumption | exact not_t (by assumption)) : Aw P N n0 (.cond c x y) Q T L := aw_cond hc (fun _ => h) (fun e => by rw [hb] at e; cases e)
theorem aw_condF {Q : AX → Tm → List Ob → Prop} {c : Operand} {x y : Code} {b : Bool} (hc : look T c = some (.one (.c (.bool b)))) (h : Aw P N n0 y Q T L) (hb : b = false := by first | rfl | assumption | exact not_f (by assumption)) : Aw P N n0 (.cond c x y) Q T L := aw_cond hc (fun e => by rw [hb] at e; cases e) (fun _ => h)
end
/-- The walk, to the end. -/
theorem go_ {p : Prop} (h : p := by
  repeat' (first
    | refine p_ rfl rfl rfl rfl rfl ?_ | refine st_nil ?_ | refine x_ rfl rfl rfl rfl rfl rfl rfl rfl ?_ | refine l_ rfl rfl rfl rfl ?_ | refine s_ rfl rfl rfl ?_ | refine t_ rfl rfl rfl rfl ?_ | refine k_ rfl rfl rfl ?_ | refine k0_ rfl rfl ?_ | refine c_ rfl rfl rfl rfl ?_ | refine pick_t rfl rfl rfl rfl rfl rfl rfl ?_ | refine pick_f rfl rfl rfl rfl rfl rfl rfl ?_ | refine aw_seq ?_ | refine aw_region tab_ok _ rfl ?_ | refine aw_drawn2 tabS_ok _ rfl mixed (by decide +kernel) ?_ | refine aw_condT rfl ?_ | refine aw_condF rfl ?_ | refine aw_block ?_ | refine aw_exit ?_ | refine aw_ret ?_ | refine aw_skip ?_ | rw [List.length_map] | rw [mn_norm] | rw [mx_norm])
  refine end_ret (res_of rfl ?_ ?_)
  · repeat' (first | exact trivial | apply And.intro)
  · first | rfl | (simp only [List.map_append, List.map_cons, List.map_nil, List.nil_append] <;> rfl)) : p := h
end Go.Proofs.YtfpbmfalamappaaGreatDoor

namespace Go.Proofs.YtfpbmfalamappaaGreatDoor
open Go.RowKit Go.MapKept
set_option maxRecDepth 100000
set_option maxHeartbeats 8000000
def gKinds (l : List Int) : Option Bool := bif decide (l.length ≤ 1000000) then some (basicF l) else none
theorem gKinds_ok {l : List Int} {r : Bool} (H : gKinds l = some r) : Pure Tryz.prog 87 [.one (.lst (l.map (fun x => [AC.int .i64 x])))] (.val (.one (.bool r))) := by
  obtain ⟨h1, h2⟩ := grd_some H
  obtain rfl := Option.some.inj h2
  exact kinds_pure l (of_decide_eq_true h1)
def gSameK (a b : List Int) : Option Bool := bif decide (a.length ≤ 1000000) then some (decide (a = b)) else none
theorem gSameK_ok {a b : List Int} {r : Bool} (H : gSameK a b = some r) : Pure Tryz.prog 14 [.one (.lst (a.map (fun x => [AC.int .i64 x]))), .one (.lst (b.map (fun x => [AC.int .i64 x])))] (.val (.one (.bool r))) := by
  obtain ⟨h1, h2⟩ := grd_some H
  obtain rfl := Option.some.inj h2
  exact sameKinds_pure a b (of_decide_eq_true h1)
def gJoined (a_a : (List Int)) (a_b : (List Int)) : Option ((List Int)) := bif (decide (a_a.length ≤ 549755813888)) then (bif (decide (a_a.length + a_b.length ≤ 549755813888)) then (some (a_a ++ a_b)) else none) else none
theorem gJoined_ok {a_a : (List Int)} {a_b : (List Int)} {r : (List Int)} (H : gJoined a_a a_b = some r) : Pure Tryz.prog 77 [.one (.lst (a_a.map (fun x => [AC.int .i64 x]))), .one (.lst (a_b.map (fun x => [AC.int .i64 x])))] (.val (.one (.lst (r.map (fun x => [AC.int .i64 x]))))) := by
  unfold gJoined at H
  refine pure_of_aw tab_ok Tryz.func77 rfl rfl Tryz.ntmps77 (by simp) ?_
  simp only [argT, PV.av, List.map_cons, List.map_nil]
  obtain ⟨g1, H⟩ := grd_some H
  replace g1 := of_decide_eq_true g1
  obtain ⟨g2, H⟩ := grd_some H
  replace g2 := of_decide_eq_true g2
  obtain rfl := Option.some.inj H
  exact go_
def gScan (a_p : Pl) (a_in : (List (List Int))) : Option ((List Int) × Int) := bif (decide (a_p.int < (0 : Int))) then
  some ([], (6 : Int))
else
  bif (decide (((a_in.length : Nat) : Int) ≤ a_p.int)) then
    some ([], (6 : Int))
  else
    (getI a_in a_p.int).bind fun x_3 => (gKinds x_3).bind fun r_4 => bif (!r_4) then
      some ([], (7 : Int))
    else
      some (x_3, (0 : Int))
theorem gScan_ok {a_p : Pl} {a_in : (List (List Int))} {r : (List Int) × Int} (H : gScan a_p a_in = some r) : Pure Tryz.prog 123 [.agg (tP a_p), .one (.lst (a_in.map (fun x => [AC.lst (x.map (fun x => [AC.int .i64 x]))])))] (.tup [.one (.lst (r.1.map (fun x => [AC.int .i64 x]))), .one (.int .i64 r.2)]) := by
  unfold gScan at H
  rw [tP_eq]
  refine pure_of_aw tab_ok Tryz.func123 rfl rfl Tryz.ntmps123 (by simp) ?_
  simp only [argT, PV.av, List.map_cons, List.map_nil]
  rcases Bool.eq_false_or_eq_true (decide (a_p.int < (0 : Int))) with q_1 | q_1
  · rw [q_1, cond_true] at H
    obtain rfl := Option.some.inj H
    exact go_
  · rw [q_1, cond_false] at H
    rcases Bool.eq_false_or_eq_true (decide (((a_in.length : Nat) : Int) ≤ a_p.int)) with q_2 | q_2
    · rw [q_2, cond_true] at H
      obtain rfl := Option.some.inj H
      exact go_
    · rw [q_2, cond_false] at H
      obtain ⟨x_3, i1, H⟩ := bind_some H
      obtain ⟨i1z, i1⟩ := getI_some i1
      have i1x := idxI (f := (fun x => [AC.lst (x.map (fun x => [AC.int .i64 x]))])) i1
      obtain ⟨r_4, c2, H⟩ := bind_some H
      replace c2 := gKinds_ok c2
      try simp only [List.map_append, List.map_cons, List.map_nil, List.nil_append, tE_eq, tP_eq] at c2
      rcases Bool.eq_false_or_eq_true (!r_4) with q_5 | q_5
      · rw [q_5, cond_true] at H
        obtain rfl := Option.some.inj H
        exact go_
      · rw [q_5, cond_false] at H
        obtain rfl := Option.some.inj H
        exact go_
end Go.Proofs.YtfpbmfalamappaaGreatDoor

namespace Go.Proofs.YtfpbmfalamappaaGreatDoor
open Go.RowKit Go.MapKept
set_option maxRecDepth 100000
set_option maxHeartbeats 8000000
def gCheckRE (a_e : Ex) (a_kinds : (List Int)) : Option (Int × Int) := bif (decide ((24 : Int) < (depR a_e))) then
  some ((0 : Int), (26 : Int))
else
  some ((chkR a_kinds a_e).1, (chkR a_kinds a_e).2)
theorem gCheckRE_ok {a_e : Ex} {a_kinds : (List Int)} {r : Int × Int} (hkl : a_kinds.length ≤ 100000) (hsm : a_e.Sm) (H : gCheckRE a_e a_kinds = some r) : Pure Tryz.prog 69 [.agg (tE a_e), .one (.lst (a_kinds.map (fun x => [AC.int .i64 x])))] (.tup [.one (.int .i64 r.1), .one (.int .i64 r.2)]) := by
  unfold gCheckRE at H
  rw [tE_eq]
  refine pure_of_aw tab_ok Tryz.func69 rfl rfl Tryz.ntmps69 (by simp) ?_
  simp only [argT, PV.av, List.map_cons, List.map_nil]
  have hc_1 := depthR_pure hsm.fine
  try simp only [List.map_append, List.map_cons, List.map_nil, List.nil_append, tE_eq, tP_eq] at hc_1
  rcases Bool.eq_false_or_eq_true (decide ((24 : Int) < (depR a_e))) with q_2 | q_2
  · rw [q_2, cond_true] at H
    obtain rfl := Option.some.inj H
    exact go_
  · rw [q_2, cond_false] at H
    have hc_3 := checkR_pure _ hkl hsm
    try simp only [List.map_append, List.map_cons, List.map_nil, List.nil_append, tE_eq, tP_eq] at hc_3
    obtain rfl := Option.some.inj H
    exact go_
def chkRE (kinds : List Int) (e : Ex) : Int × Int := bif decide (24 < depR e) then (0, 26) else chkR kinds e
theorem gCheckRE_eq (e : Ex) (kinds : List Int) : gCheckRE e kinds = some (chkRE kinds e) := by
  unfold gCheckRE chkRE
  cases decide (24 < depR e) <;> rfl
def gChk (e : Ex) (kinds : List Int) : Option (Int × Int) := bif decide (kinds.length ≤ 100000) then some (chkRE kinds e) else none
theorem gChk_ok {e : Ex} {kinds : List Int} {r : Int × Int} (h : e.Sm) (H : gChk e kinds = some r) : Pure Tryz.prog 69 [.agg (tE e), .one (.lst (kinds.map (fun x => [AC.int .i64 x])))] (.tup [.one (.int .i64 r.1), .one (.int .i64 r.2)]) := by
  obtain ⟨h1, h2⟩ := grd_some H
  obtain rfl := Option.some.inj h2
  exact gCheckRE_ok (of_decide_eq_true h1) h (gCheckRE_eq e kinds)
def gPredR (a_e : Ex) (a_kinds : (List Int)) : Option (Int) := (gChk a_e a_kinds).bind fun r_1 => bif (decide (r_1.2 ≠ (0 : Int))) then
  some r_1.2
else
  bif (decide (r_1.1 ≠ (3 : Int))) then
    bif (decide (r_1.1 ≠ (0 : Int))) then
      some (7 : Int)
    else
      some (0 : Int)
  else
    some (0 : Int)
theorem gPredR_ok {a_e : Ex} {a_kinds : (List Int)} {r : Int} (hsm : a_e.Sm) (H : gPredR a_e a_kinds = some r) : Pure Tryz.prog 32 [.agg (tE a_e), .one (.lst (a_kinds.map (fun x => [AC.int .i64 x])))] (.val (.one (.int .i64 r))) := by
  unfold gPredR at H
  rw [tE_eq]
  refine pure_of_aw tab_ok Tryz.func32 rfl rfl Tryz.ntmps32 (by simp) ?_
  simp only [argT, PV.av, List.map_cons, List.map_nil]
  obtain ⟨r_1, c1, H⟩ := bind_some H
  replace c1 := gChk_ok hsm c1
  try simp only [List.map_append, List.map_cons, List.map_nil, List.nil_append, tE_eq, tP_eq] at c1
  rcases Bool.eq_false_or_eq_true (decide (r_1.2 ≠ (0 : Int))) with q_2 | q_2
  · rw [q_2, cond_true] at H
    obtain rfl := Option.some.inj H
    exact go_
  · rw [q_2, cond_false] at H
    rcases Bool.eq_false_or_eq_true (decide (r_1.1 ≠ (3 : Int))) with q_3 | q_3
    · rw [q_3, cond_true] at H
      rcases Bool.eq_false_or_eq_true (decide (r_1.1 ≠ (0 : Int))) with q_4 | q_4
      · rw [q_4, cond_true] at H
        obtain rfl := Option.some.inj H
        exact go_
      · rw [q_4, cond_false] at H
        obtain rfl := Option.some.inj H
        exact go_
    · rw [q_3, cond_false] at H
      obtain rfl := Option.some.inj H
      exact go_
def gProjR_B1 (a_kinds : (List Int)) (a_l : (List Ex)) : ((List Int) × Int) → Option (Step ((List Int) × Int) ((List Int) × Int)) := fun s => match s with
  | (out_1, i_2) => bif (decide (i_2 < ((a_l.length : Nat) : Int))) then
    (getI a_l i_2).bind fun x_4 => (gChk x_4 a_kinds).bind fun r_5 => bif (decide (r_5.2 ≠ (0 : Int))) then
      some (.ret ([], r_5.2))
    else
      bif (decide (r_5.1 = (0 : Int))) then
        some (.ret ([], (7 : Int)))
      else
        bif (decide (out_1.length + 1 ≤ 549755813888)) then (some (.next ((out_1 ++ [r_5.1]), (IntKind.i64.wrap (i_2 + (1 : Int)))))) else none
  else
    some (.exit (out_1, i_2))
def gProjR_K1 : Sum ((List Int) × Int) ((List Int) × Int) → Option (((List Int) × Int))
  | .inl (out_1, i_2) => some (out_1, (0 : Int))
  | .inr q => some q
def gProjR (a_kinds : (List Int)) (a_l : (List Ex)) : Option ((List Int) × Int) := (loopM (gProjR_B1 a_kinds a_l) fuel ([], (0 : Int))).bind (gProjR_K1)
theorem gProjR_ok {a_kinds : (List Int)} {a_l : (List Ex)} {r : (List Int) × Int} (hsm : ∀ e ∈ a_l, e.Sm) (H : gProjR a_kinds a_l = some r) : Pure Tryz.prog 33 [.one (.lst (a_kinds.map (fun x => [AC.int .i64 x]))), .one (.lst (a_l.map tE))] (.tup [.one (.lst (r.1.map (fun x => [AC.int .i64 x]))), .one (.int .i64 r.2)]) := by
  unfold gProjR at H
  refine pure_of_aw tab_ok Tryz.func33 rfl rfl Tryz.ntmps33 (by simp) ?_
  simp only [argT, PV.av, List.map_cons, List.map_nil]
  repeat' (first | refine p_ rfl rfl rfl rfl rfl ?_ | refine st_nil ?_ | refine x_ rfl rfl rfl rfl rfl rfl rfl rfl ?_ | refine l_ rfl rfl rfl rfl ?_ | refine s_ rfl rfl rfl ?_ | refine t_ rfl rfl rfl rfl ?_ | refine k_ rfl rfl rfl ?_ | refine k0_ rfl rfl ?_ | refine c_ rfl rfl rfl rfl ?_ | refine pick_t rfl rfl rfl rfl rfl rfl rfl ?_ | refine pick_f rfl rfl rfl rfl rfl rfl rfl ?_ | refine aw_seq ?_ | refine aw_region tab_ok _ rfl ?_ | refine aw_drawn2 tabS_ok _ rfl mixed (by decide +kernel) ?_ | refine aw_condT rfl ?_ | refine aw_condF rfl ?_ | refine aw_block ?_ | refine aw_exit ?_ | refine aw_ret ?_ | refine aw_skip ?_ | rw [List.length_map] | rw [mn_norm] | rw [mx_norm])
  refine aw_tok 6 1 rfl ?_
  refine aw_loopM (fun s : (List Int) × Int => match s with | (out_1, i_2) => [(0, .one (.c (.lst (a_kinds.map (fun x => [AC.int .i64 x]))))), (1, .one (.c (.lst (a_l.map tE)))), (4, .one (.emp)), (5, .one (.c (.int .i64 (0 : Int)))), (6, .one (.own (out_1.map (fun x => [AC.int .i64 x])) 0)), (7, .one (.c (.int .i64 i_2)))]) (fun s => match s with | (out_1, i_2) => [.spare out_1.length 1]) H (fun _ => Nat.zero_le _)
    (fits_mk ⟨rfl, rfl, rfl, rfl, rfl, rfl, trivial⟩ [] rfl ⟨trivial, trivial, trivial, trivial, by show 0 < 1; omega, trivial, trivial⟩ ⟨trivial, trivial⟩) ?_
  rintro ⟨out_1, i_2⟩ st1 hb1 hk1
  unfold gProjR_B1 at hb1
  dsimp only at hb1 ⊢
  rcases Bool.eq_false_or_eq_true (decide (i_2 < ((a_l.length : Nat) : Int))) with q_3 | q_3
  · rw [q_3, cond_true] at hb1
    obtain ⟨x_4, i1, hb1⟩ := bind_some hb1
    obtain ⟨i1z, i1⟩ := getI_some i1
    have i1x := idxI (f := tE) i1
    simp only [List.map_append, List.map_cons, List.map_nil, List.nil_append, tE_eq] at i1x
    obtain ⟨r_5, c2, hb1⟩ := bind_some hb1
    replace c2 := gChk_ok (hsm _ (List.mem_of_getElem? (by assumption))) c2
    try simp only [List.map_append, List.map_cons, List.map_nil, List.nil_append, tE_eq, tP_eq] at c2
    rcases Bool.eq_false_or_eq_true (decide (r_5.2 ≠ (0 : Int))) with q_6 | q_6
    · rw [q_6, cond_true] at hb1
      obtain rfl := Option.some.inj hb1
      have hx1 : gProjR_K1 (.inr ([], r_5.2)) = some _ := hk1
      unfold gProjR_K1 at hx1
      dsimp only at hx1
      obtain rfl := Option.some.inj hx1
      exact go_
    · rw [q_6, cond_false] at hb1
      rcases Bool.eq_false_or_eq_true (decide (r_5.1 = (0 : Int))) with q_7 | q_7
      · rw [q_7, cond_true] at hb1
        obtain rfl := Option.some.inj hb1
        have hx1 : gProjR_K1 (.inr ([], (7 : Int))) = some _ := hk1
        unfold gProjR_K1 at hx1
        dsimp only at hx1
        obtain rfl := Option.some.inj hx1
        exact go_
      · rw [q_7, cond_false] at hb1
        obtain ⟨g3, hb1⟩ := grd_some hb1
        replace g3 := of_decide_eq_true g3
        obtain rfl := Option.some.inj hb1
        repeat' (first | refine p_ rfl rfl rfl rfl rfl ?_ | refine st_nil ?_ | refine x_ rfl rfl rfl rfl rfl rfl rfl rfl ?_ | refine l_ rfl rfl rfl rfl ?_ | refine s_ rfl rfl rfl ?_ | refine t_ rfl rfl rfl rfl ?_ | refine k_ rfl rfl rfl ?_ | refine k0_ rfl rfl ?_ | refine c_ rfl rfl rfl rfl ?_ | refine pick_t rfl rfl rfl rfl rfl rfl rfl ?_ | refine pick_f rfl rfl rfl rfl rfl rfl rfl ?_ | refine aw_seq ?_ | refine aw_region tab_ok _ rfl ?_ | refine aw_drawn2 tabS_ok _ rfl mixed (by decide +kernel) ?_ | refine aw_condT rfl ?_ | refine aw_condF rfl ?_ | refine aw_block ?_ | refine aw_exit ?_ | refine aw_ret ?_ | refine aw_skip ?_ | rw [List.length_map] | rw [mn_norm] | rw [mx_norm])
        exact ⟨_, rfl, fits_mk ⟨rfl, rfl, rfl, rfl, (by simp only [List.map_append, List.map_cons, List.map_nil, List.nil_append] <;> rfl), rfl, trivial⟩ [] (by simp only [List.length_append, List.length_cons, List.length_nil, Nat.zero_add] <;> rfl) ⟨trivial, trivial, trivial, trivial, by show 0 < 1; omega, trivial, trivial⟩ ⟨trivial, trivial⟩⟩
  · rw [q_3, cond_false] at hb1
    obtain rfl := Option.some.inj hb1
    have hx1 : gProjR_K1 (.inl (out_1, i_2)) = some _ := hk1
    unfold gProjR_K1 at hx1
    dsimp only at hx1
    obtain rfl := Option.some.inj hx1
    exact go_
end Go.Proofs.YtfpbmfalamappaaGreatDoor

namespace Go.Proofs.YtfpbmfalamappaaGreatDoor
open Go.RowKit Go.MapKept
set_option maxRecDepth 100000
set_option maxHeartbeats 8000000
def gGroupedR_B2 (a_kinds : (List Int)) (a_l : (List Ag)) : ((List Int) × Int) → Option (Step ((List Int) × Int) ((List Int) × Int)) := fun s => match s with
  | (out_8, i_9) => bif (decide (i_9 < ((a_l.length : Nat) : Int))) then
    (getI a_l i_9).bind fun x_11 => bif (decide (x_11.1 ≠ (1 : Int))) then
      bif (decide (x_11.1 ≠ (2 : Int))) then
        bif (decide (x_11.1 ≠ (3 : Int))) then
          bif (decide (x_11.1 ≠ (4 : Int))) then
            some (.ret ([], (7 : Int)))
          else
            bif (decide (x_11.2 = (-1 : Int))) then
              some (.ret ([], (6 : Int)))
            else
              bif (decide (x_11.2 < (0 : Int))) then
                some (.ret ([], (6 : Int)))
              else
                bif (decide (((a_kinds.length : Nat) : Int) ≤ x_11.2)) then
                  some (.ret ([], (6 : Int)))
                else
                  (getI a_kinds x_11.2).bind fun x_24 => bif (decide (out_8.length + 1 ≤ 549755813888)) then (some (.next ((out_8 ++ [x_24]), (IntKind.i64.wrap (i_9 + (1 : Int)))))) else none
        else
          bif (decide (x_11.2 = (-1 : Int))) then
            some (.ret ([], (6 : Int)))
          else
            bif (decide (x_11.2 < (0 : Int))) then
              some (.ret ([], (6 : Int)))
            else
              bif (decide (((a_kinds.length : Nat) : Int) ≤ x_11.2)) then
                some (.ret ([], (6 : Int)))
              else
                (getI a_kinds x_11.2).bind fun x_32 => bif (decide (out_8.length + 1 ≤ 549755813888)) then (some (.next ((out_8 ++ [x_32]), (IntKind.i64.wrap (i_9 + (1 : Int)))))) else none
      else
        bif (decide (x_11.2 = (-1 : Int))) then
          some (.ret ([], (6 : Int)))
        else
          bif (decide (x_11.2 < (0 : Int))) then
            some (.ret ([], (6 : Int)))
          else
            bif (decide (((a_kinds.length : Nat) : Int) ≤ x_11.2)) then
              some (.ret ([], (6 : Int)))
            else
              (getI a_kinds x_11.2).bind fun x_39 => bif (decide (x_39 ≠ (1 : Int))) then
                some (.ret ([], (7 : Int)))
              else
                bif (decide (out_8.length + 1 ≤ 549755813888)) then (some (.next ((out_8 ++ [(1 : Int)]), (IntKind.i64.wrap (i_9 + (1 : Int)))))) else none
    else
      bif (decide (x_11.2 = (-1 : Int))) then
        bif (decide (out_8.length + 1 ≤ 549755813888)) then (some (.next ((out_8 ++ [(1 : Int)]), (IntKind.i64.wrap (i_9 + (1 : Int)))))) else none
      else
        bif (decide (x_11.2 < (0 : Int))) then
          some (.ret ([], (6 : Int)))
        else
          bif (decide (((a_kinds.length : Nat) : Int) ≤ x_11.2)) then
            some (.ret ([], (6 : Int)))
          else
            bif (decide (out_8.length + 1 ≤ 549755813888)) then (some (.next ((out_8 ++ [(1 : Int)]), (IntKind.i64.wrap (i_9 + (1 : Int)))))) else none
  else
    some (.exit (out_8, i_9))
def gGroupedR_K2 : Sum ((List Int) × Int) ((List Int) × Int) → Option (((List Int) × Int))
  | .inl (out_8, i_9) => some (out_8, (0 : Int))
  | .inr q => some q
def gGroupedR_B1 (a_kinds : (List Int)) (a_keys : (List Int)) : ((List Int) × Int) → Option (Step ((List Int) × Int) ((List Int) × Int)) := fun s => match s with
  | (out_1, i_2) => bif (decide (i_2 < ((a_keys.length : Nat) : Int))) then
    (getI a_keys i_2).bind fun x_4 => bif (decide (x_4 < (0 : Int))) then
      some (.ret ([], (6 : Int)))
    else
      bif (decide (((a_kinds.length : Nat) : Int) ≤ x_4)) then
        some (.ret ([], (6 : Int)))
      else
        (getI a_kinds x_4).bind fun x_7 => bif (decide (out_1.length + 1 ≤ 549755813888)) then (some (.next ((out_1 ++ [x_7]), (IntKind.i64.wrap (i_2 + (1 : Int)))))) else none
  else
    some (.exit (out_1, i_2))
def gGroupedR_K1 (a_kinds : (List Int)) (a_l : (List Ag)) : Sum ((List Int) × Int) ((List Int) × Int) → Option (((List Int) × Int))
  | .inl (out_1, i_2) => (loopM (gGroupedR_B2 a_kinds a_l) fuel (out_1, (0 : Int))).bind (gGroupedR_K2)
  | .inr q => some q
def gGroupedR (a_kinds : (List Int)) (a_keys : (List Int)) (a_l : (List Ag)) : Option ((List Int) × Int) := (loopM (gGroupedR_B1 a_kinds a_keys) fuel ([], (0 : Int))).bind (gGroupedR_K1 a_kinds a_l)
theorem gGroupedR_ok {a_kinds : (List Int)} {a_keys : (List Int)} {a_l : (List Ag)} {r : (List Int) × Int} (H : gGroupedR a_kinds a_keys a_l = some r) : Pure Tryz.prog 53 [.one (.lst (a_kinds.map (fun x => [AC.int .i64 x]))), .one (.lst (a_keys.map (fun x => [AC.int .i64 x]))), .one (.lst (a_l.map cA))] (.tup [.one (.lst (r.1.map (fun x => [AC.int .i64 x]))), .one (.int .i64 r.2)]) := by
  unfold gGroupedR at H
  refine pure_of_aw tab_ok Tryz.func53 rfl rfl Tryz.ntmps53 (by simp) ?_
  simp only [argT, PV.av, List.map_cons, List.map_nil]
  repeat' (first | refine p_ rfl rfl rfl rfl rfl ?_ | refine st_nil ?_ | refine x_ rfl rfl rfl rfl rfl rfl rfl rfl ?_ | refine l_ rfl rfl rfl rfl ?_ | refine s_ rfl rfl rfl ?_ | refine t_ rfl rfl rfl rfl ?_ | refine k_ rfl rfl rfl ?_ | refine k0_ rfl rfl ?_ | refine c_ rfl rfl rfl rfl ?_ | refine pick_t rfl rfl rfl rfl rfl rfl rfl ?_ | refine pick_f rfl rfl rfl rfl rfl rfl rfl ?_ | refine aw_seq ?_ | refine aw_region tab_ok _ rfl ?_ | refine aw_drawn2 tabS_ok _ rfl mixed (by decide +kernel) ?_ | refine aw_condT rfl ?_ | refine aw_condF rfl ?_ | refine aw_block ?_ | refine aw_exit ?_ | refine aw_ret ?_ | refine aw_skip ?_ | rw [List.length_map] | rw [mn_norm] | rw [mx_norm])
  refine aw_tok 8 1 rfl ?_
  refine aw_loopM (fun s : (List Int) × Int => match s with | (out_1, i_2) => [(0, .one (.c (.lst (a_kinds.map (fun x => [AC.int .i64 x]))))), (1, .one (.c (.lst (a_keys.map (fun x => [AC.int .i64 x]))))), (2, .one (.c (.lst (a_l.map cA)))), (6, .one (.emp)), (7, .one (.c (.int .i64 (0 : Int)))), (8, .one (.own (out_1.map (fun x => [AC.int .i64 x])) 0)), (9, .one (.c (.int .i64 i_2)))]) (fun s => match s with | (out_1, i_2) => [.spare out_1.length 1]) H (fun _ => Nat.zero_le _)
    (fits_mk ⟨rfl, rfl, rfl, rfl, rfl, rfl, rfl, trivial⟩ [] rfl ⟨trivial, trivial, trivial, trivial, trivial, by show 0 < 1; omega, trivial, trivial⟩ ⟨trivial, trivial⟩) ?_
  rintro ⟨out_1, i_2⟩ st1 hb1 hk1
  unfold gGroupedR_B1 at hb1
  dsimp only at hb1 ⊢
  rcases Bool.eq_false_or_eq_true (decide (i_2 < ((a_keys.length : Nat) : Int))) with q_3 | q_3
  · rw [q_3, cond_true] at hb1
    obtain ⟨x_4, i1, hb1⟩ := bind_some hb1
    obtain ⟨i1z, i1⟩ := getI_some i1
    have i1x := idxI (f := (fun x => [AC.int .i64 x])) i1
    rcases Bool.eq_false_or_eq_true (decide (x_4 < (0 : Int))) with q_5 | q_5
    · rw [q_5, cond_true] at hb1
      obtain rfl := Option.some.inj hb1
      have hx1 : gGroupedR_K1 a_kinds a_l (.inr ([], (6 : Int))) = some _ := hk1
      unfold gGroupedR_K1 at hx1
      dsimp only at hx1
      obtain rfl := Option.some.inj hx1
      exact go_
    · rw [q_5, cond_false] at hb1
      repeat' (first | refine p_ rfl rfl rfl rfl rfl ?_ | refine st_nil ?_ | refine x_ rfl rfl rfl rfl rfl rfl rfl rfl ?_ | refine l_ rfl rfl rfl rfl ?_ | refine s_ rfl rfl rfl ?_ | refine t_ rfl rfl rfl rfl ?_ | refine k_ rfl rfl rfl ?_ | refine k0_ rfl rfl ?_ | refine c_ rfl rfl rfl rfl ?_ | refine pick_t rfl rfl rfl rfl rfl rfl rfl ?_ | refine pick_f rfl rfl rfl rfl rfl rfl rfl ?_ | refine aw_seq ?_ | refine aw_region tab_ok _ rfl ?_ | refine aw_drawn2 tabS_ok _ rfl mixed (by decide +kernel) ?_ | refine aw_condT rfl ?_ | refine aw_condF rfl ?_ | refine aw_block ?_ | refine aw_exit ?_ | refine aw_ret ?_ | refine aw_skip ?_ | rw [List.length_map] | rw [mn_norm] | rw [mx_norm])
      rcases Bool.eq_false_or_eq_true (decide (((a_kinds.length : Nat) : Int) ≤ x_4)) with q_6 | q_6
      · rw [q_6, cond_true] at hb1
        obtain rfl := Option.some.inj hb1
        have hx1 : gGroupedR_K1 a_kinds a_l (.inr ([], (6 : Int))) = some _ := hk1
        unfold gGroupedR_K1 at hx1
        dsimp only at hx1
        obtain rfl := Option.some.inj hx1
        exact go_
      · rw [q_6, cond_false] at hb1
        obtain ⟨x_7, i2, hb1⟩ := bind_some hb1
        obtain ⟨i2z, i2⟩ := getI_some i2
        have i2x := idxI (f := (fun x => [AC.int .i64 x])) i2
        obtain ⟨g3, hb1⟩ := grd_some hb1
        replace g3 := of_decide_eq_true g3
        obtain rfl := Option.some.inj hb1
        repeat' (first | refine p_ rfl rfl rfl rfl rfl ?_ | refine st_nil ?_ | refine x_ rfl rfl rfl rfl rfl rfl rfl rfl ?_ | refine l_ rfl rfl rfl rfl ?_ | refine s_ rfl rfl rfl ?_ | refine t_ rfl rfl rfl rfl ?_ | refine k_ rfl rfl rfl ?_ | refine k0_ rfl rfl ?_ | refine c_ rfl rfl rfl rfl ?_ | refine pick_t rfl rfl rfl rfl rfl rfl rfl ?_ | refine pick_f rfl rfl rfl rfl rfl rfl rfl ?_ | refine aw_seq ?_ | refine aw_region tab_ok _ rfl ?_ | refine aw_drawn2 tabS_ok _ rfl mixed (by decide +kernel) ?_ | refine aw_condT rfl ?_ | refine aw_condF rfl ?_ | refine aw_block ?_ | refine aw_exit ?_ | refine aw_ret ?_ | refine aw_skip ?_ | rw [List.length_map] | rw [mn_norm] | rw [mx_norm])
        exact ⟨_, rfl, fits_mk ⟨rfl, rfl, rfl, rfl, rfl, (by simp only [List.map_append, List.map_cons, List.map_nil, List.nil_append] <;> rfl), rfl, trivial⟩ [] (by simp only [List.length_append, List.length_cons, List.length_nil, Nat.zero_add] <;> rfl) ⟨trivial, trivial, trivial, trivial, trivial, by show 0 < 1; omega, trivial, trivial⟩ ⟨trivial, trivial⟩⟩
  · rw [q_3, cond_false] at hb1
    obtain rfl := Option.some.inj hb1
    have hx1 : gGroupedR_K1 a_kinds a_l (.inl (out_1, i_2)) = some _ := hk1
    unfold gGroupedR_K1 at hx1
    dsimp only at hx1
    repeat' (first | refine p_ rfl rfl rfl rfl rfl ?_ | refine st_nil ?_ | refine x_ rfl rfl rfl rfl rfl rfl rfl rfl ?_ | refine l_ rfl rfl rfl rfl ?_ | refine s_ rfl rfl rfl ?_ | refine t_ rfl rfl rfl rfl ?_ | refine k_ rfl rfl rfl ?_ | refine k0_ rfl rfl ?_ | refine c_ rfl rfl rfl rfl ?_ | refine pick_t rfl rfl rfl rfl rfl rfl rfl ?_ | refine pick_f rfl rfl rfl rfl rfl rfl rfl ?_ | refine aw_seq ?_ | refine aw_region tab_ok _ rfl ?_ | refine aw_drawn2 tabS_ok _ rfl mixed (by decide +kernel) ?_ | refine aw_condT rfl ?_ | refine aw_condF rfl ?_ | refine aw_block ?_ | refine aw_exit ?_ | refine aw_ret ?_ | refine aw_skip ?_ | rw [List.length_map] | rw [mn_norm] | rw [mx_norm])
    refine aw_loopM (fun s : (List Int) × Int => match s with | (out_8, i_9) => [(0, .one (.c (.lst (a_kinds.map (fun x => [AC.int .i64 x]))))), (2, .one (.c (.lst (a_l.map cA)))), (6, .one (.emp)), (7, .one (.c (.int .i64 (0 : Int)))), (8, .one (.own (out_8.map (fun x => [AC.int .i64 x])) 0)), (10, .one (.c (.int .i64 i_9)))]) (fun s => match s with | (out_8, i_9) => [.spare out_8.length 1]) hx1 (fun _ => Nat.zero_le _)
      (fits_mk ⟨rfl, rfl, rfl, rfl, rfl, rfl, trivial⟩ [] rfl ⟨trivial, trivial, trivial, trivial, by show 0 < 1; omega, trivial, trivial⟩ ⟨trivial, trivial⟩) ?_
    rintro ⟨out_8, i_9⟩ st2 hb2 hk2
    unfold gGroupedR_B2 at hb2
    dsimp only at hb2 ⊢
    rcases Bool.eq_false_or_eq_true (decide (i_9 < ((a_l.length : Nat) : Int))) with q_10 | q_10
    · rw [q_10, cond_true] at hb2
      obtain ⟨x_11, i4, hb2⟩ := bind_some hb2
      obtain ⟨i4z, i4⟩ := getI_some i4
      have i4x := idxI (f := cA) i4
      repeat' (first | refine p_ rfl rfl rfl rfl rfl ?_ | refine st_nil ?_ | refine x_ rfl rfl rfl rfl rfl rfl rfl rfl ?_ | refine l_ rfl rfl rfl rfl ?_ | refine s_ rfl rfl rfl ?_ | refine t_ rfl rfl rfl rfl ?_ | refine k_ rfl rfl rfl ?_ | refine k0_ rfl rfl ?_ | refine c_ rfl rfl rfl rfl ?_ | refine pick_t rfl rfl rfl rfl rfl rfl rfl ?_ | refine pick_f rfl rfl rfl rfl rfl rfl rfl ?_ | refine aw_seq ?_ | refine aw_region tab_ok _ rfl ?_ | refine aw_drawn2 tabS_ok _ rfl mixed (by decide +kernel) ?_ | refine aw_condT rfl ?_ | refine aw_condF rfl ?_ | refine aw_block ?_ | refine aw_exit ?_ | refine aw_ret ?_ | refine aw_skip ?_ | rw [List.length_map] | rw [mn_norm] | rw [mx_norm])
      rcases Bool.eq_false_or_eq_true (decide (x_11.1 ≠ (1 : Int))) with q_12 | q_12
      · rw [q_12, cond_true] at hb2
        rcases Bool.eq_false_or_eq_true (decide (x_11.1 ≠ (2 : Int))) with q_13 | q_13
        · rw [q_13, cond_true] at hb2
          rcases Bool.eq_false_or_eq_true (decide (x_11.1 ≠ (3 : Int))) with q_14 | q_14
          · rw [q_14, cond_true] at hb2
            repeat' (first | refine p_ rfl rfl rfl rfl rfl ?_ | refine st_nil ?_ | refine x_ rfl rfl rfl rfl rfl rfl rfl rfl ?_ | refine l_ rfl rfl rfl rfl ?_ | refine s_ rfl rfl rfl ?_ | refine t_ rfl rfl rfl rfl ?_ | refine k_ rfl rfl rfl ?_ | refine k0_ rfl rfl ?_ | refine c_ rfl rfl rfl rfl ?_ | refine pick_t rfl rfl rfl rfl rfl rfl rfl ?_ | refine pick_f rfl rfl rfl rfl rfl rfl rfl ?_ | refine aw_seq ?_ | refine aw_region tab_ok _ rfl ?_ | refine aw_drawn2 tabS_ok _ rfl mixed (by decide +kernel) ?_ | refine aw_condT rfl ?_ | refine aw_condF rfl ?_ | refine aw_block ?_ | refine aw_exit ?_ | refine aw_ret ?_ | refine aw_skip ?_ | rw [List.length_map] | rw [mn_norm] | rw [mx_norm])
            rcases Bool.eq_false_or_eq_true (decide (x_11.1 ≠ (4 : Int))) with q_15 | q_15
            · rw [q_15, cond_true] at hb2
              obtain rfl := Option.some.inj hb2
              have hx2 : gGroupedR_K2 (.inr ([], (7 : Int))) = some _ := hk2
              unfold gGroupedR_K2 at hx2
              dsimp only at hx2
              obtain rfl := Option.some.inj hx2
              exact go_
            · rw [q_15, cond_false] at hb2
              rcases Bool.eq_false_or_eq_true (decide (x_11.2 = (-1 : Int))) with q_16 | q_16
              · rw [q_16, cond_true] at hb2
                have q_17 : (decide (x_11.1 = (1 : Int))) = false := by rw [Decidable.not_not.1 (of_decide_eq_false q_15)]; decide
                have q_18 : (decide (x_11.2 < (0 : Int))) = true := by rw [of_decide_eq_true q_16]; decide
                obtain rfl := Option.some.inj hb2
                have hx2 : gGroupedR_K2 (.inr ([], (6 : Int))) = some _ := hk2
                unfold gGroupedR_K2 at hx2
                dsimp only at hx2
                obtain rfl := Option.some.inj hx2
                exact go_
              · rw [q_16, cond_false] at hb2
                rcases Bool.eq_false_or_eq_true (decide (x_11.2 < (0 : Int))) with q_19 | q_19
                · rw [q_19, cond_true] at hb2
                  obtain rfl := Option.some.inj hb2
                  have hx2 : gGroupedR_K2 (.inr ([], (6 : Int))) = some _ := hk2
                  unfold gGroupedR_K2 at hx2
                  dsimp only at hx2
                  obtain rfl := Option.some.inj hx2
                  exact go_
                · rw [q_19, cond_false] at hb2
                  repeat' (first | refine p_ rfl rfl rfl rfl rfl ?_ | refine st_nil ?_ | refine x_ rfl rfl rfl rfl rfl rfl rfl rfl ?_ | refine l_ rfl rfl rfl rfl ?_ | refine s_ rfl rfl rfl ?_ | refine t_ rfl rfl rfl rfl ?_ | refine k_ rfl rfl rfl ?_ | refine k0_ rfl rfl ?_ | refine c_ rfl rfl rfl rfl ?_ | refine pick_t rfl rfl rfl rfl rfl rfl rfl ?_ | refine pick_f rfl rfl rfl rfl rfl rfl rfl ?_ | refine aw_seq ?_ | refine aw_region tab_ok _ rfl ?_ | refine aw_drawn2 tabS_ok _ rfl mixed (by decide +kernel) ?_ | refine aw_condT rfl ?_ | refine aw_condF rfl ?_ | refine aw_block ?_ | refine aw_exit ?_ | refine aw_ret ?_ | refine aw_skip ?_ | rw [List.length_map] | rw [mn_norm] | rw [mx_norm])
                  rcases Bool.eq_false_or_eq_true (decide (((a_kinds.length : Nat) : Int) ≤ x_11.2)) with q_20 | q_20
                  · rw [q_20, cond_true] at hb2
                    obtain rfl := Option.some.inj hb2
                    have hx2 : gGroupedR_K2 (.inr ([], (6 : Int))) = some _ := hk2
                    unfold gGroupedR_K2 at hx2
                    dsimp only at hx2
                    obtain rfl := Option.some.inj hx2
                    exact go_
                  · rw [q_20, cond_false] at hb2
                    have q_21 : (decide (x_11.1 = (2 : Int))) = false := by rw [Decidable.not_not.1 (of_decide_eq_false q_15)]; decide
                    have q_22 : (decide (x_11.1 = (3 : Int))) = false := by rw [Decidable.not_not.1 (of_decide_eq_false q_15)]; decide
                    have q_23 : (decide (x_11.1 = (4 : Int))) = true := by rw [Decidable.not_not.1 (of_decide_eq_false q_15)]; decide
                    obtain ⟨x_24, i5, hb2⟩ := bind_some hb2
                    obtain ⟨i5z, i5⟩ := getI_some i5
                    have i5x := idxI (f := (fun x => [AC.int .i64 x])) i5
                    obtain ⟨g6, hb2⟩ := grd_some hb2
                    replace g6 := of_decide_eq_true g6
                    obtain rfl := Option.some.inj hb2
                    repeat' (first | refine p_ rfl rfl rfl rfl rfl ?_ | refine st_nil ?_ | refine x_ rfl rfl rfl rfl rfl rfl rfl rfl ?_ | refine l_ rfl rfl rfl rfl ?_ | refine s_ rfl rfl rfl ?_ | refine t_ rfl rfl rfl rfl ?_ | refine k_ rfl rfl rfl ?_ | refine k0_ rfl rfl ?_ | refine c_ rfl rfl rfl rfl ?_ | refine pick_t rfl rfl rfl rfl rfl rfl rfl ?_ | refine pick_f rfl rfl rfl rfl rfl rfl rfl ?_ | refine aw_seq ?_ | refine aw_region tab_ok _ rfl ?_ | refine aw_drawn2 tabS_ok _ rfl mixed (by decide +kernel) ?_ | refine aw_condT rfl ?_ | refine aw_condF rfl ?_ | refine aw_block ?_ | refine aw_exit ?_ | refine aw_ret ?_ | refine aw_skip ?_ | rw [List.length_map] | rw [mn_norm] | rw [mx_norm])
                    exact ⟨_, rfl, fits_mk ⟨rfl, rfl, rfl, rfl, (by simp only [List.map_append, List.map_cons, List.map_nil, List.nil_append] <;> rfl), rfl, trivial⟩ [_] (by simp only [List.length_append, List.length_cons, List.length_nil, Nat.zero_add] <;> rfl) ⟨trivial, trivial, trivial, trivial, by show 0 < 1; omega, trivial, trivial⟩ ⟨trivial, trivial⟩⟩
          · rw [q_14, cond_false] at hb2
            repeat' (first | refine p_ rfl rfl rfl rfl rfl ?_ | refine st_nil ?_ | refine x_ rfl rfl rfl rfl rfl rfl rfl rfl ?_ | refine l_ rfl rfl rfl rfl ?_ | refine s_ rfl rfl rfl ?_ | refine t_ rfl rfl rfl rfl ?_ | refine k_ rfl rfl rfl ?_ | refine k0_ rfl rfl ?_ | refine c_ rfl rfl rfl rfl ?_ | refine pick_t rfl rfl rfl rfl rfl rfl rfl ?_ | refine pick_f rfl rfl rfl rfl rfl rfl rfl ?_ | refine aw_seq ?_ | refine aw_region tab_ok _ rfl ?_ | refine aw_drawn2 tabS_ok _ rfl mixed (by decide +kernel) ?_ | refine aw_condT rfl ?_ | refine aw_condF rfl ?_ | refine aw_block ?_ | refine aw_exit ?_ | refine aw_ret ?_ | refine aw_skip ?_ | rw [List.length_map] | rw [mn_norm] | rw [mx_norm])
            rcases Bool.eq_false_or_eq_true (decide (x_11.2 = (-1 : Int))) with q_25 | q_25
            · rw [q_25, cond_true] at hb2
              have q_26 : (decide (x_11.1 = (1 : Int))) = false := by rw [Decidable.not_not.1 (of_decide_eq_false q_14)]; decide
              have q_27 : (decide (x_11.2 < (0 : Int))) = true := by rw [of_decide_eq_true q_25]; decide
              obtain rfl := Option.some.inj hb2
              have hx2 : gGroupedR_K2 (.inr ([], (6 : Int))) = some _ := hk2
              unfold gGroupedR_K2 at hx2
              dsimp only at hx2
              obtain rfl := Option.some.inj hx2
              exact go_
            · rw [q_25, cond_false] at hb2
              rcases Bool.eq_false_or_eq_true (decide (x_11.2 < (0 : Int))) with q_28 | q_28
              · rw [q_28, cond_true] at hb2
                obtain rfl := Option.some.inj hb2
                have hx2 : gGroupedR_K2 (.inr ([], (6 : Int))) = some _ := hk2
                unfold gGroupedR_K2 at hx2
                dsimp only at hx2
                obtain rfl := Option.some.inj hx2
                exact go_
              · rw [q_28, cond_false] at hb2
                rcases Bool.eq_false_or_eq_true (decide (((a_kinds.length : Nat) : Int) ≤ x_11.2)) with q_29 | q_29
                · rw [q_29, cond_true] at hb2
                  obtain rfl := Option.some.inj hb2
                  have hx2 : gGroupedR_K2 (.inr ([], (6 : Int))) = some _ := hk2
                  unfold gGroupedR_K2 at hx2
                  dsimp only at hx2
                  obtain rfl := Option.some.inj hx2
                  exact go_
                · rw [q_29, cond_false] at hb2
                  have q_30 : (decide (x_11.1 = (2 : Int))) = false := by rw [Decidable.not_not.1 (of_decide_eq_false q_14)]; decide
                  have q_31 : (decide (x_11.1 = (3 : Int))) = true := by rw [Decidable.not_not.1 (of_decide_eq_false q_14)]; decide
                  obtain ⟨x_32, i7, hb2⟩ := bind_some hb2
                  obtain ⟨i7z, i7⟩ := getI_some i7
                  have i7x := idxI (f := (fun x => [AC.int .i64 x])) i7
                  obtain ⟨g8, hb2⟩ := grd_some hb2
                  replace g8 := of_decide_eq_true g8
                  obtain rfl := Option.some.inj hb2
                  repeat' (first | refine p_ rfl rfl rfl rfl rfl ?_ | refine st_nil ?_ | refine x_ rfl rfl rfl rfl rfl rfl rfl rfl ?_ | refine l_ rfl rfl rfl rfl ?_ | refine s_ rfl rfl rfl ?_ | refine t_ rfl rfl rfl rfl ?_ | refine k_ rfl rfl rfl ?_ | refine k0_ rfl rfl ?_ | refine c_ rfl rfl rfl rfl ?_ | refine pick_t rfl rfl rfl rfl rfl rfl rfl ?_ | refine pick_f rfl rfl rfl rfl rfl rfl rfl ?_ | refine aw_seq ?_ | refine aw_region tab_ok _ rfl ?_ | refine aw_drawn2 tabS_ok _ rfl mixed (by decide +kernel) ?_ | refine aw_condT rfl ?_ | refine aw_condF rfl ?_ | refine aw_block ?_ | refine aw_exit ?_ | refine aw_ret ?_ | refine aw_skip ?_ | rw [List.length_map] | rw [mn_norm] | rw [mx_norm])
                  exact ⟨_, rfl, fits_mk ⟨rfl, rfl, rfl, rfl, (by simp only [List.map_append, List.map_cons, List.map_nil, List.nil_append] <;> rfl), rfl, trivial⟩ [_] (by simp only [List.length_append, List.length_cons, List.length_nil, Nat.zero_add] <;> rfl) ⟨trivial, trivial, trivial, trivial, by show 0 < 1; omega, trivial, trivial⟩ ⟨trivial, trivial⟩⟩
        · rw [q_13, cond_false] at hb2
          rcases Bool.eq_false_or_eq_true (decide (x_11.2 = (-1 : Int))) with q_33 | q_33
          · rw [q_33, cond_true] at hb2
            have q_34 : (decide (x_11.1 = (1 : Int))) = false := by rw [Decidable.not_not.1 (of_decide_eq_false q_13)]; decide
            have q_35 : (decide (x_11.2 < (0 : Int))) = true := by rw [of_decide_eq_true q_33]; decide
            obtain rfl := Option.some.inj hb2
            have hx2 : gGroupedR_K2 (.inr ([], (6 : Int))) = some _ := hk2
            unfold gGroupedR_K2 at hx2
            dsimp only at hx2
            obtain rfl := Option.some.inj hx2
            exact go_
          · rw [q_33, cond_false] at hb2
            repeat' (first | refine p_ rfl rfl rfl rfl rfl ?_ | refine st_nil ?_ | refine x_ rfl rfl rfl rfl rfl rfl rfl rfl ?_ | refine l_ rfl rfl rfl rfl ?_ | refine s_ rfl rfl rfl ?_ | refine t_ rfl rfl rfl rfl ?_ | refine k_ rfl rfl rfl ?_ | refine k0_ rfl rfl ?_ | refine c_ rfl rfl rfl rfl ?_ | refine pick_t rfl rfl rfl rfl rfl rfl rfl ?_ | refine pick_f rfl rfl rfl rfl rfl rfl rfl ?_ | refine aw_seq ?_ | refine aw_region tab_ok _ rfl ?_ | refine aw_drawn2 tabS_ok _ rfl mixed (by decide +kernel) ?_ | refine aw_condT rfl ?_ | refine aw_condF rfl ?_ | refine aw_block ?_ | refine aw_exit ?_ | refine aw_ret ?_ | refine aw_skip ?_ | rw [List.length_map] | rw [mn_norm] | rw [mx_norm])
            rcases Bool.eq_false_or_eq_true (decide (x_11.2 < (0 : Int))) with q_36 | q_36
            · rw [q_36, cond_true] at hb2
              obtain rfl := Option.some.inj hb2
              have hx2 : gGroupedR_K2 (.inr ([], (6 : Int))) = some _ := hk2
              unfold gGroupedR_K2 at hx2
              dsimp only at hx2
              obtain rfl := Option.some.inj hx2
              exact go_
            · rw [q_36, cond_false] at hb2
              rcases Bool.eq_false_or_eq_true (decide (((a_kinds.length : Nat) : Int) ≤ x_11.2)) with q_37 | q_37
              · rw [q_37, cond_true] at hb2
                obtain rfl := Option.some.inj hb2
                have hx2 : gGroupedR_K2 (.inr ([], (6 : Int))) = some _ := hk2
                unfold gGroupedR_K2 at hx2
                dsimp only at hx2
                obtain rfl := Option.some.inj hx2
                exact go_
              · rw [q_37, cond_false] at hb2
                have q_38 : (decide (x_11.1 = (2 : Int))) = true := by rw [Decidable.not_not.1 (of_decide_eq_false q_13)]; decide
                obtain ⟨x_39, i9, hb2⟩ := bind_some hb2
                obtain ⟨i9z, i9⟩ := getI_some i9
                have i9x := idxI (f := (fun x => [AC.int .i64 x])) i9
                rcases Bool.eq_false_or_eq_true (decide (x_39 ≠ (1 : Int))) with q_40 | q_40
                · rw [q_40, cond_true] at hb2
                  obtain rfl := Option.some.inj hb2
                  have hx2 : gGroupedR_K2 (.inr ([], (7 : Int))) = some _ := hk2
                  unfold gGroupedR_K2 at hx2
                  dsimp only at hx2
                  obtain rfl := Option.some.inj hx2
                  exact go_
                · rw [q_40, cond_false] at hb2
                  have q_41 : (decide (x_11.1 = (3 : Int))) = false := by rw [Decidable.not_not.1 (of_decide_eq_false q_13)]; decide
                  have q_42 : (decide (x_11.1 = (4 : Int))) = false := by rw [Decidable.not_not.1 (of_decide_eq_false q_13)]; decide
                  obtain ⟨g10, hb2⟩ := grd_some hb2
                  replace g10 := of_decide_eq_true g10
                  obtain rfl := Option.some.inj hb2
                  repeat' (first | refine p_ rfl rfl rfl rfl rfl ?_ | refine st_nil ?_ | refine x_ rfl rfl rfl rfl rfl rfl rfl rfl ?_ | refine l_ rfl rfl rfl rfl ?_ | refine s_ rfl rfl rfl ?_ | refine t_ rfl rfl rfl rfl ?_ | refine k_ rfl rfl rfl ?_ | refine k0_ rfl rfl ?_ | refine c_ rfl rfl rfl rfl ?_ | refine pick_t rfl rfl rfl rfl rfl rfl rfl ?_ | refine pick_f rfl rfl rfl rfl rfl rfl rfl ?_ | refine aw_seq ?_ | refine aw_region tab_ok _ rfl ?_ | refine aw_drawn2 tabS_ok _ rfl mixed (by decide +kernel) ?_ | refine aw_condT rfl ?_ | refine aw_condF rfl ?_ | refine aw_block ?_ | refine aw_exit ?_ | refine aw_ret ?_ | refine aw_skip ?_ | rw [List.length_map] | rw [mn_norm] | rw [mx_norm])
                  exact ⟨_, rfl, fits_mk ⟨rfl, rfl, rfl, rfl, (by simp only [List.map_append, List.map_cons, List.map_nil, List.nil_append] <;> rfl), rfl, trivial⟩ [_] (by simp only [List.length_append, List.length_cons, List.length_nil, Nat.zero_add] <;> rfl) ⟨trivial, trivial, trivial, trivial, by show 0 < 1; omega, trivial, trivial⟩ ⟨trivial, trivial⟩⟩
      · rw [q_12, cond_false] at hb2
        rcases Bool.eq_false_or_eq_true (decide (x_11.2 = (-1 : Int))) with q_43 | q_43
        · rw [q_43, cond_true] at hb2
          have q_44 : (decide (x_11.1 = (1 : Int))) = true := by rw [Decidable.not_not.1 (of_decide_eq_false q_12)]; decide
          obtain ⟨g11, hb2⟩ := grd_some hb2
          replace g11 := of_decide_eq_true g11
          obtain rfl := Option.some.inj hb2
          repeat' (first | refine p_ rfl rfl rfl rfl rfl ?_ | refine st_nil ?_ | refine x_ rfl rfl rfl rfl rfl rfl rfl rfl ?_ | refine l_ rfl rfl rfl rfl ?_ | refine s_ rfl rfl rfl ?_ | refine t_ rfl rfl rfl rfl ?_ | refine k_ rfl rfl rfl ?_ | refine k0_ rfl rfl ?_ | refine c_ rfl rfl rfl rfl ?_ | refine pick_t rfl rfl rfl rfl rfl rfl rfl ?_ | refine pick_f rfl rfl rfl rfl rfl rfl rfl ?_ | refine aw_seq ?_ | refine aw_region tab_ok _ rfl ?_ | refine aw_drawn2 tabS_ok _ rfl mixed (by decide +kernel) ?_ | refine aw_condT rfl ?_ | refine aw_condF rfl ?_ | refine aw_block ?_ | refine aw_exit ?_ | refine aw_ret ?_ | refine aw_skip ?_ | rw [List.length_map] | rw [mn_norm] | rw [mx_norm])
          exact ⟨_, rfl, fits_mk ⟨rfl, rfl, rfl, rfl, (by simp only [List.map_append, List.map_cons, List.map_nil, List.nil_append] <;> rfl), rfl, trivial⟩ [_] (by simp only [List.length_append, List.length_cons, List.length_nil, Nat.zero_add] <;> rfl) ⟨trivial, trivial, trivial, trivial, by show 0 < 1; omega, trivial, trivial⟩ ⟨trivial, trivial⟩⟩
        · rw [q_43, cond_false] at hb2
          rcases Bool.eq_false_or_eq_true (decide (x_11.2 < (0 : Int))) with q_45 | q_45
          · rw [q_45, cond_true] at hb2
            obtain rfl := Option.some.inj hb2
            have hx2 : gGroupedR_K2 (.inr ([], (6 : Int))) = some _ := hk2
            unfold gGroupedR_K2 at hx2
            dsimp only at hx2
            obtain rfl := Option.some.inj hx2
            exact go_
          · rw [q_45, cond_false] at hb2
            repeat' (first | refine p_ rfl rfl rfl rfl rfl ?_ | refine st_nil ?_ | refine x_ rfl rfl rfl rfl rfl rfl rfl rfl ?_ | refine l_ rfl rfl rfl rfl ?_ | refine s_ rfl rfl rfl ?_ | refine t_ rfl rfl rfl rfl ?_ | refine k_ rfl rfl rfl ?_ | refine k0_ rfl rfl ?_ | refine c_ rfl rfl rfl rfl ?_ | refine pick_t rfl rfl rfl rfl rfl rfl rfl ?_ | refine pick_f rfl rfl rfl rfl rfl rfl rfl ?_ | refine aw_seq ?_ | refine aw_region tab_ok _ rfl ?_ | refine aw_drawn2 tabS_ok _ rfl mixed (by decide +kernel) ?_ | refine aw_condT rfl ?_ | refine aw_condF rfl ?_ | refine aw_block ?_ | refine aw_exit ?_ | refine aw_ret ?_ | refine aw_skip ?_ | rw [List.length_map] | rw [mn_norm] | rw [mx_norm])
            rcases Bool.eq_false_or_eq_true (decide (((a_kinds.length : Nat) : Int) ≤ x_11.2)) with q_46 | q_46
            · rw [q_46, cond_true] at hb2
              obtain rfl := Option.some.inj hb2
              have hx2 : gGroupedR_K2 (.inr ([], (6 : Int))) = some _ := hk2
              unfold gGroupedR_K2 at hx2
              dsimp only at hx2
              obtain rfl := Option.some.inj hx2
              exact go_
            · rw [q_46, cond_false] at hb2
              have q_47 : (decide (x_11.1 = (2 : Int))) = false := by rw [Decidable.not_not.1 (of_decide_eq_false q_12)]; decide
              have q_48 : (decide (x_11.1 = (3 : Int))) = false := by rw [Decidable.not_not.1 (of_decide_eq_false q_12)]; decide
              have q_49 : (decide (x_11.1 = (4 : Int))) = false := by rw [Decidable.not_not.1 (of_decide_eq_false q_12)]; decide
              obtain ⟨g12, hb2⟩ := grd_some hb2
              replace g12 := of_decide_eq_true g12
              obtain rfl := Option.some.inj hb2
              repeat' (first | refine p_ rfl rfl rfl rfl rfl ?_ | refine st_nil ?_ | refine x_ rfl rfl rfl rfl rfl rfl rfl rfl ?_ | refine l_ rfl rfl rfl rfl ?_ | refine s_ rfl rfl rfl ?_ | refine t_ rfl rfl rfl rfl ?_ | refine k_ rfl rfl rfl ?_ | refine k0_ rfl rfl ?_ | refine c_ rfl rfl rfl rfl ?_ | refine pick_t rfl rfl rfl rfl rfl rfl rfl ?_ | refine pick_f rfl rfl rfl rfl rfl rfl rfl ?_ | refine aw_seq ?_ | refine aw_region tab_ok _ rfl ?_ | refine aw_drawn2 tabS_ok _ rfl mixed (by decide +kernel) ?_ | refine aw_condT rfl ?_ | refine aw_condF rfl ?_ | refine aw_block ?_ | refine aw_exit ?_ | refine aw_ret ?_ | refine aw_skip ?_ | rw [List.length_map] | rw [mn_norm] | rw [mx_norm])
              exact ⟨_, rfl, fits_mk ⟨rfl, rfl, rfl, rfl, (by simp only [List.map_append, List.map_cons, List.map_nil, List.nil_append] <;> rfl), rfl, trivial⟩ [_] (by simp only [List.length_append, List.length_cons, List.length_nil, Nat.zero_add] <;> rfl) ⟨trivial, trivial, trivial, trivial, by show 0 < 1; omega, trivial, trivial⟩ ⟨trivial, trivial⟩⟩
    · rw [q_10, cond_false] at hb2
      obtain rfl := Option.some.inj hb2
      have hx2 : gGroupedR_K2 (.inl (out_8, i_9)) = some _ := hk2
      unfold gGroupedR_K2 at hx2
      dsimp only at hx2
      obtain rfl := Option.some.inj hx2
      exact go_
end Go.Proofs.YtfpbmfalamappaaGreatDoor

namespace Go.Proofs.YtfpbmfalamappaaGreatDoor
open Go.RowKit Go.MapKept
set_option maxRecDepth 100000
set_option maxHeartbeats 8000000
theorem Pl.Sm.spred {p : Pl} (h : p.Sm) : p.pred.Sm := by cases h with | mk _ _ hp _ _ _ _ _ _ => exact hp
theorem Pl.Sm.sexprs {p : Pl} (h : p.Sm) : ∀ e ∈ p.exprs, e.Sm := by cases h with | mk _ _ _ _ hx _ _ _ _ => exact hx
theorem Pl.Sm.sinputs {p : Pl} (h : p.Sm) : ∀ e ∈ p.inputs, e.Sm := by cases h with | mk _ _ _ _ _ _ _ _ hs => exact hs
theorem valuesRP {p : Pl} (h : p.Sm) : Pure Tryz.prog 124 [.agg (tP p)] (.tup [.one (.lst ((valRF p.kinds p.rows).1.map (fun x => [AC.int .i64 x]))), .one (.int .i64 (valRF p.kinds p.rows).2)]) := by
  cases h with
  | @mk op int kinds rows pred exprs keys aggs inputs hk hr _ _ _ _ _ _ _ =>
    obtain ⟨po, pi, pv, pn, pa⟩ := pred
    exact valuesR_pure op int kinds rows po pi pv pn pa exprs keys aggs inputs hk hr
def gResultR (a_p : Pl) (a_in : (List (List Int))) (a_k : (List (List Int))) : Option ((List Int) × Int) := bif (decide (a_p.op = (1 : Int))) then
  (gScan a_p a_in).bind fun r_2 => some (r_2.1, r_2.2)
else
  bif (decide (a_p.op = (2 : Int))) then
    some (((valRF a_p.kinds a_p.rows).1), (valRF a_p.kinds a_p.rows).2)
  else
    bif (decide (a_p.op = (4 : Int))) then
      (getI a_k (0 : Int)).bind fun x_6 => (gProjR x_6 a_p.exprs).bind fun r_7 => some (r_7.1, r_7.2)
    else
      bif (decide (a_p.op = (11 : Int))) then
        (getI a_k (0 : Int)).bind fun x_9 => (gGroupedR x_9 a_p.keys a_p.aggs).bind fun r_10 => some (r_10.1, r_10.2)
      else
        bif (decide (a_p.op = (10 : Int))) then
          (getI a_k (0 : Int)).bind fun x_12 => some (x_12, (0 : Int))
        else
          bif (decide (a_p.op = (3 : Int))) then
            (getI a_k (0 : Int)).bind fun x_14 => (gPredR a_p.pred x_14).bind fun r_15 => some (x_14, r_15)
          else
            bif (decide (a_p.op = (5 : Int))) then
              (getI a_k (0 : Int)).bind fun x_17 => (getI a_k (1 : Int)).bind fun x_18 => (gJoined x_17 x_18).bind fun r_19 => (gPredR a_p.pred r_19).bind fun r_20 => some (r_19, r_20)
            else
              bif (decide (a_p.op = (6 : Int))) then
                (getI a_k (0 : Int)).bind fun x_22 => (getI a_k (1 : Int)).bind fun x_23 => (gJoined x_22 x_23).bind fun r_24 => (gPredR a_p.pred r_24).bind fun r_25 => some (r_24, r_25)
              else
                (getI a_k (0 : Int)).bind fun x_26 => (getI a_k (1 : Int)).bind fun x_27 => bif (decide (((x_26.length : Nat) : Int) ≠ ((x_27.length : Nat) : Int))) then
                  some ([], (13 : Int))
                else
                  (gSameK x_26 x_27).bind fun r_29 => bif (!r_29) then
                    some ([], (7 : Int))
                  else
                    some (x_26, (0 : Int))
theorem gResultR_ok {a_p : Pl} {a_in : (List (List Int))} {a_k : (List (List Int))} {r : (List Int) × Int} (hS : a_p.Sm) (H : gResultR a_p a_in a_k = some r) : Pure Tryz.prog 85 [.agg (tP a_p), .one (.lst (a_in.map (fun x => [AC.lst (x.map (fun x => [AC.int .i64 x]))]))), .one (.lst (a_k.map (fun x => [AC.lst (x.map (fun x => [AC.int .i64 x]))])))] (.tup [.one (.lst (r.1.map (fun x => [AC.int .i64 x]))), .one (.int .i64 r.2)]) := by
  unfold gResultR at H
  rw [tP_eq]
  refine pure_of_aw tab_ok Tryz.func85 rfl rfl Tryz.ntmps85 (by simp) ?_
  simp only [argT, PV.av, List.map_cons, List.map_nil]
  rcases Bool.eq_false_or_eq_true (decide (a_p.op = (1 : Int))) with q_1 | q_1
  · rw [q_1, cond_true] at H
    obtain ⟨r_2, c1, H⟩ := bind_some H
    replace c1 := gScan_ok c1
    try simp only [List.map_append, List.map_cons, List.map_nil, List.nil_append, tE_eq, tP_eq] at c1
    obtain rfl := Option.some.inj H
    exact go_
  · rw [q_1, cond_false] at H
    rcases Bool.eq_false_or_eq_true (decide (a_p.op = (2 : Int))) with q_3 | q_3
    · rw [q_3, cond_true] at H
      have hc_4 := valuesRP hS
      try simp only [List.map_append, List.map_cons, List.map_nil, List.nil_append, tE_eq, tP_eq] at hc_4
      obtain rfl := Option.some.inj H
      exact go_
    · rw [q_3, cond_false] at H
      rcases Bool.eq_false_or_eq_true (decide (a_p.op = (4 : Int))) with q_5 | q_5
      · rw [q_5, cond_true] at H
        obtain ⟨x_6, i2, H⟩ := bind_some H
        obtain ⟨i2z, i2⟩ := getI_some i2
        have i2x := idxI (f := (fun x => [AC.lst (x.map (fun x => [AC.int .i64 x]))])) i2
        obtain ⟨r_7, c3, H⟩ := bind_some H
        replace c3 := gProjR_ok hS.sexprs c3
        try simp only [List.map_append, List.map_cons, List.map_nil, List.nil_append, tE_eq, tP_eq] at c3
        obtain rfl := Option.some.inj H
        exact go_
      · rw [q_5, cond_false] at H
        repeat' (first | refine p_ rfl rfl rfl rfl rfl ?_ | refine st_nil ?_ | refine x_ rfl rfl rfl rfl rfl rfl rfl rfl ?_ | refine l_ rfl rfl rfl rfl ?_ | refine s_ rfl rfl rfl ?_ | refine t_ rfl rfl rfl rfl ?_ | refine k_ rfl rfl rfl ?_ | refine k0_ rfl rfl ?_ | refine c_ rfl rfl rfl rfl ?_ | refine pick_t rfl rfl rfl rfl rfl rfl rfl ?_ | refine pick_f rfl rfl rfl rfl rfl rfl rfl ?_ | refine aw_seq ?_ | refine aw_region tab_ok _ rfl ?_ | refine aw_drawn2 tabS_ok _ rfl mixed (by decide +kernel) ?_ | refine aw_condT rfl ?_ | refine aw_condF rfl ?_ | refine aw_block ?_ | refine aw_exit ?_ | refine aw_ret ?_ | refine aw_skip ?_ | rw [List.length_map] | rw [mn_norm] | rw [mx_norm])
        rcases Bool.eq_false_or_eq_true (decide (a_p.op = (11 : Int))) with q_8 | q_8
        · rw [q_8, cond_true] at H
          obtain ⟨x_9, i4, H⟩ := bind_some H
          obtain ⟨i4z, i4⟩ := getI_some i4
          have i4x := idxI (f := (fun x => [AC.lst (x.map (fun x => [AC.int .i64 x]))])) i4
          obtain ⟨r_10, c5, H⟩ := bind_some H
          replace c5 := gGroupedR_ok c5
          try simp only [List.map_append, List.map_cons, List.map_nil, List.nil_append, tE_eq, tP_eq] at c5
          obtain rfl := Option.some.inj H
          exact go_
        · rw [q_8, cond_false] at H
          rcases Bool.eq_false_or_eq_true (decide (a_p.op = (10 : Int))) with q_11 | q_11
          · rw [q_11, cond_true] at H
            obtain ⟨x_12, i6, H⟩ := bind_some H
            obtain ⟨i6z, i6⟩ := getI_some i6
            have i6x := idxI (f := (fun x => [AC.lst (x.map (fun x => [AC.int .i64 x]))])) i6
            obtain rfl := Option.some.inj H
            exact go_
          · rw [q_11, cond_false] at H
            rcases Bool.eq_false_or_eq_true (decide (a_p.op = (3 : Int))) with q_13 | q_13
            · rw [q_13, cond_true] at H
              obtain ⟨x_14, i7, H⟩ := bind_some H
              obtain ⟨i7z, i7⟩ := getI_some i7
              have i7x := idxI (f := (fun x => [AC.lst (x.map (fun x => [AC.int .i64 x]))])) i7
              obtain ⟨r_15, c8, H⟩ := bind_some H
              replace c8 := gPredR_ok hS.spred c8
              try simp only [List.map_append, List.map_cons, List.map_nil, List.nil_append, tE_eq, tP_eq] at c8
              obtain rfl := Option.some.inj H
              exact go_
            · rw [q_13, cond_false] at H
              rcases Bool.eq_false_or_eq_true (decide (a_p.op = (5 : Int))) with q_16 | q_16
              · rw [q_16, cond_true] at H
                obtain ⟨x_17, i9, H⟩ := bind_some H
                obtain ⟨i9z, i9⟩ := getI_some i9
                have i9x := idxI (f := (fun x => [AC.lst (x.map (fun x => [AC.int .i64 x]))])) i9
                obtain ⟨x_18, i10, H⟩ := bind_some H
                obtain ⟨i10z, i10⟩ := getI_some i10
                have i10x := idxI (f := (fun x => [AC.lst (x.map (fun x => [AC.int .i64 x]))])) i10
                obtain ⟨r_19, c11, H⟩ := bind_some H
                replace c11 := gJoined_ok c11
                try simp only [List.map_append, List.map_cons, List.map_nil, List.nil_append, tE_eq, tP_eq] at c11
                obtain ⟨r_20, c12, H⟩ := bind_some H
                replace c12 := gPredR_ok hS.spred c12
                try simp only [List.map_append, List.map_cons, List.map_nil, List.nil_append, tE_eq, tP_eq] at c12
                obtain rfl := Option.some.inj H
                exact go_
              · rw [q_16, cond_false] at H
                repeat' (first | refine p_ rfl rfl rfl rfl rfl ?_ | refine st_nil ?_ | refine x_ rfl rfl rfl rfl rfl rfl rfl rfl ?_ | refine l_ rfl rfl rfl rfl ?_ | refine s_ rfl rfl rfl ?_ | refine t_ rfl rfl rfl rfl ?_ | refine k_ rfl rfl rfl ?_ | refine k0_ rfl rfl ?_ | refine c_ rfl rfl rfl rfl ?_ | refine pick_t rfl rfl rfl rfl rfl rfl rfl ?_ | refine pick_f rfl rfl rfl rfl rfl rfl rfl ?_ | refine aw_seq ?_ | refine aw_region tab_ok _ rfl ?_ | refine aw_drawn2 tabS_ok _ rfl mixed (by decide +kernel) ?_ | refine aw_condT rfl ?_ | refine aw_condF rfl ?_ | refine aw_block ?_ | refine aw_exit ?_ | refine aw_ret ?_ | refine aw_skip ?_ | rw [List.length_map] | rw [mn_norm] | rw [mx_norm])
                rcases Bool.eq_false_or_eq_true (decide (a_p.op = (6 : Int))) with q_21 | q_21
                · rw [q_21, cond_true] at H
                  obtain ⟨x_22, i13, H⟩ := bind_some H
                  obtain ⟨i13z, i13⟩ := getI_some i13
                  have i13x := idxI (f := (fun x => [AC.lst (x.map (fun x => [AC.int .i64 x]))])) i13
                  obtain ⟨x_23, i14, H⟩ := bind_some H
                  obtain ⟨i14z, i14⟩ := getI_some i14
                  have i14x := idxI (f := (fun x => [AC.lst (x.map (fun x => [AC.int .i64 x]))])) i14
                  obtain ⟨r_24, c15, H⟩ := bind_some H
                  replace c15 := gJoined_ok c15
                  try simp only [List.map_append, List.map_cons, List.map_nil, List.nil_append, tE_eq, tP_eq] at c15
                  obtain ⟨r_25, c16, H⟩ := bind_some H
                  replace c16 := gPredR_ok hS.spred c16
                  try simp only [List.map_append, List.map_cons, List.map_nil, List.nil_append, tE_eq, tP_eq] at c16
                  obtain rfl := Option.some.inj H
                  exact go_
                · rw [q_21, cond_false] at H
                  obtain ⟨x_26, i17, H⟩ := bind_some H
                  obtain ⟨i17z, i17⟩ := getI_some i17
                  have i17x := idxI (f := (fun x => [AC.lst (x.map (fun x => [AC.int .i64 x]))])) i17
                  obtain ⟨x_27, i18, H⟩ := bind_some H
                  obtain ⟨i18z, i18⟩ := getI_some i18
                  have i18x := idxI (f := (fun x => [AC.lst (x.map (fun x => [AC.int .i64 x]))])) i18
                  rcases Bool.eq_false_or_eq_true (decide (((x_26.length : Nat) : Int) ≠ ((x_27.length : Nat) : Int))) with q_28 | q_28
                  · rw [q_28, cond_true] at H
                    obtain rfl := Option.some.inj H
                    exact go_
                  · rw [q_28, cond_false] at H
                    obtain ⟨r_29, c19, H⟩ := bind_some H
                    replace c19 := gSameK_ok c19
                    try simp only [List.map_append, List.map_cons, List.map_nil, List.nil_append, tE_eq, tP_eq] at c19
                    rcases Bool.eq_false_or_eq_true (!r_29) with q_30 | q_30
                    · rw [q_30, cond_true] at H
                      obtain rfl := Option.some.inj H
                      exact go_
                    · rw [q_30, cond_false] at H
                      obtain rfl := Option.some.inj H
                      exact go_
end Go.Proofs.YtfpbmfalamappaaGreatDoor

namespace Go.Proofs.YtfpbmfalamappaaGreatDoor
open Go.RowKit Go.MapKept
set_option maxRecDepth 100000
set_option maxHeartbeats 8000000
def gNodeB_B1 (a_p : Pl) (a_in : (List (List Int))) (rec : Pl → List (List Int) → Option (List Int × Int)) : ((List (List Int)) × Int) → Option (Step ((List (List Int)) × Int) ((List Int) × Int)) := fun s => match s with
  | (k_4, i_5) => bif (decide (i_5 < (inpF a_p.op))) then
    (getI a_p.inputs i_5).bind fun x_7 => (rec x_7 a_in).bind fun r_8 => bif (decide (r_8.2 ≠ (0 : Int))) then
      some (.ret ([], r_8.2))
    else
      bif (decide (k_4.length + 1 ≤ 549755813888)) then (some (.next ((k_4 ++ [r_8.1]), (IntKind.i64.wrap (i_5 + (1 : Int)))))) else none
  else
    some (.exit (k_4, i_5))
def gNodeB_K1 (a_p : Pl) (a_in : (List (List Int))) : Sum ((List (List Int)) × Int) ((List Int) × Int) → Option (((List Int) × Int))
  | .inl (k_4, i_5) => (gResultR a_p a_in k_4).bind fun r_10 => bif (decide (r_10.2 ≠ (0 : Int))) then
    some ([], r_10.2)
  else
    bif (decide (((r_10.1.length : Nat) : Int) = (0 : Int))) then
      some ([], (13 : Int))
    else
      bif (decide ((48 : Int) < ((r_10.1.length : Nat) : Int))) then
        some ([], (13 : Int))
      else
        some (r_10.1, (0 : Int))
  | .inr q => some q
def gNodeB (rec : Pl → List (List Int) → Option (List Int × Int)) (a_p : Pl) (a_in : (List (List Int))) : Option ((List Int) × Int) := bif (decide ((inpF a_p.op) < (0 : Int))) then
  some ([], (7 : Int))
else
  bif (decide (((a_p.inputs.length : Nat) : Int) ≠ (inpF a_p.op))) then
    some ([], (8 : Int))
  else
    (loopM (gNodeB_B1 a_p a_in rec) fuel ([], (0 : Int))).bind (gNodeB_K1 a_p a_in)
theorem gNodeB_ok {rec : Pl → List (List Int) → Option (List Int × Int)}  (hrec : ∀ {x : Pl} {y : List (List Int)} {r : List Int × Int}, x.Sm → rec x y = some r → Pure Tryz.prog 51 [.agg (tP x), .one (.lst (y.map (fun x => [AC.lst (x.map (fun x => [AC.int .i64 x]))])))] (.tup [.one (.lst (r.1.map (fun x => [AC.int .i64 x]))), .one (.int .i64 r.2)])) {a_p : Pl} {a_in : (List (List Int))} {r : (List Int) × Int} (hS : a_p.Sm) (H : gNodeB rec a_p a_in = some r) : Pure Tryz.prog 51 [.agg (tP a_p), .one (.lst (a_in.map (fun x => [AC.lst (x.map (fun x => [AC.int .i64 x]))])))] (.tup [.one (.lst (r.1.map (fun x => [AC.int .i64 x]))), .one (.int .i64 r.2)]) := by
  unfold gNodeB at H
  rw [tP_eq]
  refine pure_of_aw tab_ok Tryz.func51 rfl rfl Tryz.ntmps51 (by simp) ?_
  simp only [argT, PV.av, List.map_cons, List.map_nil]
  have hc_1 := inputsR_pure a_p.op
  try simp only [List.map_append, List.map_cons, List.map_nil, List.nil_append, tE_eq, tP_eq] at hc_1
  rcases Bool.eq_false_or_eq_true (decide ((inpF a_p.op) < (0 : Int))) with q_2 | q_2
  · rw [q_2, cond_true] at H
    obtain rfl := Option.some.inj H
    exact go_
  · rw [q_2, cond_false] at H
    rcases Bool.eq_false_or_eq_true (decide (((a_p.inputs.length : Nat) : Int) ≠ (inpF a_p.op))) with q_3 | q_3
    · rw [q_3, cond_true] at H
      obtain rfl := Option.some.inj H
      exact go_
    · rw [q_3, cond_false] at H
      repeat' (first | refine p_ rfl rfl rfl rfl rfl ?_ | refine st_nil ?_ | refine x_ rfl rfl rfl rfl rfl rfl rfl rfl ?_ | refine l_ rfl rfl rfl rfl ?_ | refine s_ rfl rfl rfl ?_ | refine t_ rfl rfl rfl rfl ?_ | refine k_ rfl rfl rfl ?_ | refine k0_ rfl rfl ?_ | refine c_ rfl rfl rfl rfl ?_ | refine pick_t rfl rfl rfl rfl rfl rfl rfl ?_ | refine pick_f rfl rfl rfl rfl rfl rfl rfl ?_ | refine aw_seq ?_ | refine aw_region tab_ok _ rfl ?_ | refine aw_drawn2 tabS_ok _ rfl mixed (by decide +kernel) ?_ | refine aw_condT rfl ?_ | refine aw_condF rfl ?_ | refine aw_block ?_ | refine aw_exit ?_ | refine aw_ret ?_ | refine aw_skip ?_ | rw [List.length_map] | rw [mn_norm] | rw [mx_norm])
      refine aw_tok 7 1 rfl ?_
      refine aw_loopM (fun s : (List (List Int)) × Int => match s with | (k_4, i_5) => [(1, .one (.c (.lst (a_in.map (fun x => [AC.lst (x.map (fun x => [AC.int .i64 x]))]))))), (2, .one (.ptr 0 0)), (4, .one (.emp)), (5, .one (.c (.int .i64 (0 : Int)))), (6, .one (.c (.int .i64 (inpF a_p.op)))), (7, .one (.own (k_4.map (fun x => [AC.lst (x.map (fun x => [AC.int .i64 x]))])) 1)), (8, .one (.c (.int .i64 i_5)))]) (fun s => match s with | (k_4, i_5) => [.box [.c (.int .i64 a_p.op), .c (.int .i64 a_p.int), .c (.lst (a_p.kinds.map (fun x => [AC.int .i64 x]))), .c (.lst (a_p.rows.map (fun x => [AC.lst (x.map cV)]))), .c (.int .i64 a_p.pred.op), .c (.int .i64 a_p.pred.int), .c (.int .i64 a_p.pred.v.kind), .c (.int .i64 a_p.pred.v.int), .c (.str a_p.pred.v.text), .c (.str a_p.pred.nm), .c (.lst (a_p.pred.args.map tE)), .c (.lst (a_p.exprs.map tE)), .c (.lst (a_p.keys.map (fun x => [AC.int .i64 x]))), .c (.lst (a_p.aggs.map cA)), .c (.lst (a_p.inputs.map tP))], .spare k_4.length 1]) H (fun _ => Nat.zero_le _)
        (fits_mk ⟨rfl, rfl, rfl, rfl, rfl, rfl, rfl, trivial⟩ [] rfl ⟨trivial, by show 0 < 2; omega, trivial, trivial, trivial, by show 1 < 2; omega, trivial, trivial⟩ ⟨ob_below (by rfl), trivial, trivial⟩) ?_
      rintro ⟨k_4, i_5⟩ st1 hb1 hk1
      unfold gNodeB_B1 at hb1
      dsimp only at hb1 ⊢
      rcases Bool.eq_false_or_eq_true (decide (i_5 < (inpF a_p.op))) with q_6 | q_6
      · rw [q_6, cond_true] at hb1
        obtain ⟨x_7, i1, hb1⟩ := bind_some hb1
        obtain ⟨i1z, i1⟩ := getI_some i1
        have i1x := idxI (f := tP) i1
        simp only [List.map_append, List.map_cons, List.map_nil, List.nil_append, tP_eq] at i1x
        obtain ⟨r_8, c2, hb1⟩ := bind_some hb1
        replace c2 := hrec (hS.sinputs _ (List.mem_of_getElem? (by assumption))) c2
        try simp only [List.map_append, List.map_cons, List.map_nil, List.nil_append, tE_eq, tP_eq] at c2
        rcases Bool.eq_false_or_eq_true (decide (r_8.2 ≠ (0 : Int))) with q_9 | q_9
        · rw [q_9, cond_true] at hb1
          obtain rfl := Option.some.inj hb1
          have hx1 : gNodeB_K1 a_p a_in (.inr ([], r_8.2)) = some _ := hk1
          unfold gNodeB_K1 at hx1
          dsimp only at hx1
          obtain rfl := Option.some.inj hx1
          exact go_
        · rw [q_9, cond_false] at hb1
          obtain ⟨g3, hb1⟩ := grd_some hb1
          replace g3 := of_decide_eq_true g3
          obtain rfl := Option.some.inj hb1
          repeat' (first | refine p_ rfl rfl rfl rfl rfl ?_ | refine st_nil ?_ | refine x_ rfl rfl rfl rfl rfl rfl rfl rfl ?_ | refine l_ rfl rfl rfl rfl ?_ | refine s_ rfl rfl rfl ?_ | refine t_ rfl rfl rfl rfl ?_ | refine k_ rfl rfl rfl ?_ | refine k0_ rfl rfl ?_ | refine c_ rfl rfl rfl rfl ?_ | refine pick_t rfl rfl rfl rfl rfl rfl rfl ?_ | refine pick_f rfl rfl rfl rfl rfl rfl rfl ?_ | refine aw_seq ?_ | refine aw_region tab_ok _ rfl ?_ | refine aw_drawn2 tabS_ok _ rfl mixed (by decide +kernel) ?_ | refine aw_condT rfl ?_ | refine aw_condF rfl ?_ | refine aw_block ?_ | refine aw_exit ?_ | refine aw_ret ?_ | refine aw_skip ?_ | rw [List.length_map] | rw [mn_norm] | rw [mx_norm])
          exact ⟨_, rfl, fits_mk ⟨rfl, rfl, rfl, rfl, rfl, (by simp only [List.map_append, List.map_cons, List.map_nil, List.nil_append] <;> rfl), rfl, trivial⟩ [] (by simp only [List.length_append, List.length_cons, List.length_nil, Nat.zero_add] <;> rfl) ⟨trivial, by show 0 < 2; omega, trivial, trivial, trivial, by show 1 < 2; omega, trivial, trivial⟩ ⟨ob_below (by rfl), trivial, trivial⟩⟩
      · rw [q_6, cond_false] at hb1
        obtain rfl := Option.some.inj hb1
        have hx1 : gNodeB_K1 a_p a_in (.inl (k_4, i_5)) = some _ := hk1
        unfold gNodeB_K1 at hx1
        dsimp only at hx1
        obtain ⟨r_10, c4, hx1⟩ := bind_some hx1
        replace c4 := gResultR_ok hS c4
        try simp only [List.map_append, List.map_cons, List.map_nil, List.nil_append, tE_eq, tP_eq] at c4
        rcases Bool.eq_false_or_eq_true (decide (r_10.2 ≠ (0 : Int))) with q_11 | q_11
        · rw [q_11, cond_true] at hx1
          obtain rfl := Option.some.inj hx1
          exact go_
        · rw [q_11, cond_false] at hx1
          rcases Bool.eq_false_or_eq_true (decide (((r_10.1.length : Nat) : Int) = (0 : Int))) with q_12 | q_12
          · rw [q_12, cond_true] at hx1
            obtain rfl := Option.some.inj hx1
            exact go_
          · rw [q_12, cond_false] at hx1
            rcases Bool.eq_false_or_eq_true (decide ((48 : Int) < ((r_10.1.length : Nat) : Int))) with q_13 | q_13
            · rw [q_13, cond_true] at hx1
              obtain rfl := Option.some.inj hx1
              exact go_
            · rw [q_13, cond_false] at hx1
              obtain rfl := Option.some.inj hx1
              exact go_
def gNodeR : Nat → Pl → List (List Int) → Option (List Int × Int)
  | 0, _, _ => none
  | n + 1, p, i => gNodeB (gNodeR n) p i
theorem gNodeR_ok : ∀ (n : Nat) {x : Pl} {y : List (List Int)} {r : List Int × Int}, x.Sm → gNodeR n x y = some r → Pure Tryz.prog 51 [.agg (tP x), .one (.lst (y.map (fun x => [AC.lst (x.map (fun x => [AC.int .i64 x]))])))] (.tup [.one (.lst (r.1.map (fun x => [AC.int .i64 x]))), .one (.int .i64 r.2)])
  | 0, _, _, _, _, h => nomatch h
  | n + 1, _, _, _, hS, h => gNodeB_ok (gNodeR_ok n) hS h
end Go.Proofs.YtfpbmfalamappaaGreatDoor

namespace Go.Proofs.YtfpbmfalamappaaGreatDoor
open Go.RowKit Go.MapKept
set_option maxRecDepth 100000
set_option maxHeartbeats 8000000
def gWeightB_B1 (a_e : Ex) (a_most : Int) (rec : Ex → Int → Option Int) : (Int × Int) → Option (Step (Int × Int) (Int)) := fun s => match s with
  | (n_1, i_2) => bif (decide (i_2 < ((a_e.args.length : Nat) : Int))) then
    bif (decide (n_1 < a_most)) then
      (getI a_e.args i_2).bind fun x_5 => (rec x_5 (IntKind.i64.wrap (a_most - n_1))).bind fun r_6 => some (.next ((IntKind.i64.wrap (n_1 + r_6)), (IntKind.i64.wrap (i_2 + (1 : Int)))))
    else
      some (.exit (n_1, i_2))
  else
    some (.exit (n_1, i_2))
def gWeightB_K1 : Sum (Int × Int) (Int) → Option ((Int))
  | .inl (n_1, i_2) => some n_1
  | .inr q => some q
def gWeightB (rec : Ex → Int → Option Int) (a_e : Ex) (a_most : Int) : Option (Int) := (loopM (gWeightB_B1 a_e a_most rec) fuel ((1 : Int), (0 : Int))).bind (gWeightB_K1)
theorem gWeightB_ok {rec : Ex → Int → Option Int}  (hrec : ∀ {x : Ex} {y r : Int}, rec x y = some r → Pure Tryz.prog 42 [.agg (tE x), .one (.int .i64 y)] (.val (.one (.int .i64 r)))) {a_e : Ex} {a_most : Int} {r : Int} (H : gWeightB rec a_e a_most = some r) : Pure Tryz.prog 42 [.agg (tE a_e), .one (.int .i64 a_most)] (.val (.one (.int .i64 r))) := by
  unfold gWeightB at H
  rw [tE_eq]
  refine pure_of_aw tab_ok Tryz.func42 rfl rfl Tryz.ntmps42 (by simp) ?_
  simp only [argT, PV.av, List.map_cons, List.map_nil]
  repeat' (first | refine p_ rfl rfl rfl rfl rfl ?_ | refine st_nil ?_ | refine x_ rfl rfl rfl rfl rfl rfl rfl rfl ?_ | refine l_ rfl rfl rfl rfl ?_ | refine s_ rfl rfl rfl ?_ | refine t_ rfl rfl rfl rfl ?_ | refine k_ rfl rfl rfl ?_ | refine k0_ rfl rfl ?_ | refine c_ rfl rfl rfl rfl ?_ | refine pick_t rfl rfl rfl rfl rfl rfl rfl ?_ | refine pick_f rfl rfl rfl rfl rfl rfl rfl ?_ | refine aw_seq ?_ | refine aw_region tab_ok _ rfl ?_ | refine aw_drawn2 tabS_ok _ rfl mixed (by decide +kernel) ?_ | refine aw_condT rfl ?_ | refine aw_condF rfl ?_ | refine aw_block ?_ | refine aw_exit ?_ | refine aw_ret ?_ | refine aw_skip ?_ | rw [List.length_map] | rw [mn_norm] | rw [mx_norm])
  refine aw_loopM (fun s : Int × Int => match s with | (n_1, i_2) => [(1, .one (.c (.int .i64 a_most))), (2, .one (.ptr 0 0)), (4, .one (.c (.int .i64 (0 : Int)))), (5, .one (.c (.int .i64 n_1))), (6, .one (.c (.int .i64 i_2)))]) (fun s => match s with | (n_1, i_2) => [.box [.c (.int .i64 a_e.op), .c (.int .i64 a_e.int), .c (.int .i64 a_e.v.kind), .c (.int .i64 a_e.v.int), .c (.str a_e.v.text), .c (.str a_e.nm), .c (.lst (a_e.args.map tE))]]) H (fun _ => Nat.zero_le _)
    (fits_mk ⟨rfl, rfl, rfl, rfl, rfl, trivial⟩ [] rfl ⟨trivial, by show 0 < 1; omega, trivial, trivial, trivial, trivial⟩ ⟨ob_below (by rfl), trivial⟩) ?_
  rintro ⟨n_1, i_2⟩ st1 hb1 hk1
  unfold gWeightB_B1 at hb1
  dsimp only at hb1 ⊢
  rcases Bool.eq_false_or_eq_true (decide (i_2 < ((a_e.args.length : Nat) : Int))) with q_3 | q_3
  · rw [q_3, cond_true] at hb1
    rcases Bool.eq_false_or_eq_true (decide (n_1 < a_most)) with q_4 | q_4
    · rw [q_4, cond_true] at hb1
      obtain ⟨x_5, i1, hb1⟩ := bind_some hb1
      obtain ⟨i1z, i1⟩ := getI_some i1
      have i1x := idxI (f := tE) i1
      simp only [List.map_append, List.map_cons, List.map_nil, List.nil_append, tE_eq] at i1x
      obtain ⟨r_6, c2, hb1⟩ := bind_some hb1
      replace c2 := hrec c2
      try simp only [List.map_append, List.map_cons, List.map_nil, List.nil_append, tE_eq, tP_eq] at c2
      obtain rfl := Option.some.inj hb1
      repeat' (first | refine p_ rfl rfl rfl rfl rfl ?_ | refine st_nil ?_ | refine x_ rfl rfl rfl rfl rfl rfl rfl rfl ?_ | refine l_ rfl rfl rfl rfl ?_ | refine s_ rfl rfl rfl ?_ | refine t_ rfl rfl rfl rfl ?_ | refine k_ rfl rfl rfl ?_ | refine k0_ rfl rfl ?_ | refine c_ rfl rfl rfl rfl ?_ | refine pick_t rfl rfl rfl rfl rfl rfl rfl ?_ | refine pick_f rfl rfl rfl rfl rfl rfl rfl ?_ | refine aw_seq ?_ | refine aw_region tab_ok _ rfl ?_ | refine aw_drawn2 tabS_ok _ rfl mixed (by decide +kernel) ?_ | refine aw_condT rfl ?_ | refine aw_condF rfl ?_ | refine aw_block ?_ | refine aw_exit ?_ | refine aw_ret ?_ | refine aw_skip ?_ | rw [List.length_map] | rw [mn_norm] | rw [mx_norm])
      exact ⟨_, rfl, fits_mk ⟨rfl, rfl, rfl, rfl, rfl, trivial⟩ [] rfl ⟨trivial, by show 0 < 1; omega, trivial, trivial, trivial, trivial⟩ ⟨ob_below (by rfl), trivial⟩⟩
    · rw [q_4, cond_false] at hb1
      obtain rfl := Option.some.inj hb1
      have hx1 : gWeightB_K1 (.inl (n_1, i_2)) = some _ := hk1
      unfold gWeightB_K1 at hx1
      dsimp only at hx1
      obtain rfl := Option.some.inj hx1
      exact go_
  · rw [q_3, cond_false] at hb1
    obtain rfl := Option.some.inj hb1
    have hx1 : gWeightB_K1 (.inl (n_1, i_2)) = some _ := hk1
    unfold gWeightB_K1 at hx1
    dsimp only at hx1
    obtain rfl := Option.some.inj hx1
    exact go_
def gWeight : Nat → Ex → Int → Option Int
  | 0, _, _ => none
  | n + 1, e, m => gWeightB (gWeight n) e m
theorem gWeight_ok : ∀ (n : Nat) {x : Ex} {y r : Int}, gWeight n x y = some r → Pure Tryz.prog 42 [.agg (tE x), .one (.int .i64 y)] (.val (.one (.int .i64 r)))
  | 0, _, _, _, h => nomatch h
  | n + 1, _, _, _, h => gWeightB_ok (gWeight_ok n) h
def gLoadB_B1 (a_p : Pl) (a_most : Int) (rec : Pl → Int → Option Int) : (Int × Int) → Option (Step (Int × Int) (Int)) := fun s => match s with
  | (n_3, i_4) => bif (decide (i_4 < ((a_p.inputs.length : Nat) : Int))) then
    bif (decide (n_3 < a_most)) then
      (getI a_p.inputs i_4).bind fun x_7 => (rec x_7 (IntKind.i64.wrap (a_most - n_3))).bind fun r_8 => some (.next ((IntKind.i64.wrap (n_3 + r_8)), (IntKind.i64.wrap (i_4 + (1 : Int)))))
    else
      some (.exit (n_3, i_4))
  else
    some (.exit (n_3, i_4))
def gLoadB_K1 : Sum (Int × Int) (Int) → Option ((Int))
  | .inl (n_3, i_4) => some n_3
  | .inr q => some q
def gLoadB (rec : Pl → Int → Option Int) (a_p : Pl) (a_most : Int) : Option (Int) := (gWeight fuel a_p.pred a_most).bind fun r_1 => (gWeight fuel (Ex.mk (0 : Int) (0 : Int) (⟨(0 : Int), (0 : Int), ByteArray.empty⟩ : Val) ByteArray.empty a_p.exprs) a_most).bind fun r_2 => (loopM (gLoadB_B1 a_p a_most rec) fuel ((IntKind.i64.wrap ((IntKind.i64.wrap ((IntKind.i64.wrap ((IntKind.i64.wrap ((IntKind.i64.wrap ((IntKind.i64.wrap ((1 : Int) + r_1)) + r_2)) + (mnI ((a_p.rows.length : Nat) : Int) a_most))) + (mnI ((a_p.keys.length : Nat) : Int) a_most))) + (mnI ((a_p.aggs.length : Nat) : Int) a_most))) + (mnI ((a_p.kinds.length : Nat) : Int) a_most))), (0 : Int))).bind (gLoadB_K1)
theorem gLoadB_ok {rec : Pl → Int → Option Int}  (hrec : ∀ {x : Pl} {y r : Int}, rec x y = some r → Pure Tryz.prog 10 [.agg (tP x), .one (.int .i64 y)] (.val (.one (.int .i64 r)))) {a_p : Pl} {a_most : Int} {r : Int} (H : gLoadB rec a_p a_most = some r) : Pure Tryz.prog 10 [.agg (tP a_p), .one (.int .i64 a_most)] (.val (.one (.int .i64 r))) := by
  unfold gLoadB at H
  rw [tP_eq]
  refine pure_of_aw tab_ok Tryz.func10 rfl rfl Tryz.ntmps10 (by simp) ?_
  simp only [argT, PV.av, List.map_cons, List.map_nil]
  obtain ⟨r_1, c1, H⟩ := bind_some H
  replace c1 := gWeight_ok fuel c1
  try simp only [List.map_append, List.map_cons, List.map_nil, List.nil_append, tE_eq, tP_eq] at c1
  obtain ⟨r_2, c2, H⟩ := bind_some H
  replace c2 := gWeight_ok fuel c2
  try simp only [List.map_append, List.map_cons, List.map_nil, List.nil_append, tE_eq, tP_eq] at c2
  repeat' (first | refine p_ rfl rfl rfl rfl rfl ?_ | refine st_nil ?_ | refine x_ rfl rfl rfl rfl rfl rfl rfl rfl ?_ | refine l_ rfl rfl rfl rfl ?_ | refine s_ rfl rfl rfl ?_ | refine t_ rfl rfl rfl rfl ?_ | refine k_ rfl rfl rfl ?_ | refine k0_ rfl rfl ?_ | refine c_ rfl rfl rfl rfl ?_ | refine pick_t rfl rfl rfl rfl rfl rfl rfl ?_ | refine pick_f rfl rfl rfl rfl rfl rfl rfl ?_ | refine aw_seq ?_ | refine aw_region tab_ok _ rfl ?_ | refine aw_drawn2 tabS_ok _ rfl mixed (by decide +kernel) ?_ | refine aw_condT rfl ?_ | refine aw_condF rfl ?_ | refine aw_block ?_ | refine aw_exit ?_ | refine aw_ret ?_ | refine aw_skip ?_ | rw [List.length_map] | rw [mn_norm] | rw [mx_norm])
  refine aw_loopM (fun s : Int × Int => match s with | (n_3, i_4) => [(1, .one (.c (.int .i64 a_most))), (2, .one (.ptr 0 0)), (4, .one (.c (.int .i64 (0 : Int)))), (5, .one (.c (.int .i64 n_3))), (6, .one (.c (.int .i64 i_4)))]) (fun s => match s with | (n_3, i_4) => [.box [.c (.int .i64 a_p.op), .c (.int .i64 a_p.int), .c (.lst (a_p.kinds.map (fun x => [AC.int .i64 x]))), .c (.lst (a_p.rows.map (fun x => [AC.lst (x.map cV)]))), .c (.int .i64 a_p.pred.op), .c (.int .i64 a_p.pred.int), .c (.int .i64 a_p.pred.v.kind), .c (.int .i64 a_p.pred.v.int), .c (.str a_p.pred.v.text), .c (.str a_p.pred.nm), .c (.lst (a_p.pred.args.map tE)), .c (.lst (a_p.exprs.map tE)), .c (.lst (a_p.keys.map (fun x => [AC.int .i64 x]))), .c (.lst (a_p.aggs.map cA)), .c (.lst (a_p.inputs.map tP))]]) H (fun _ => Nat.zero_le _)
    (fits_mk ⟨rfl, rfl, rfl, rfl, rfl, trivial⟩ [] rfl ⟨trivial, by show 0 < 1; omega, trivial, trivial, trivial, trivial⟩ ⟨ob_below (by rfl), trivial⟩) ?_
  rintro ⟨n_3, i_4⟩ st1 hb1 hk1
  unfold gLoadB_B1 at hb1
  dsimp only at hb1 ⊢
  rcases Bool.eq_false_or_eq_true (decide (i_4 < ((a_p.inputs.length : Nat) : Int))) with q_5 | q_5
  · rw [q_5, cond_true] at hb1
    rcases Bool.eq_false_or_eq_true (decide (n_3 < a_most)) with q_6 | q_6
    · rw [q_6, cond_true] at hb1
      obtain ⟨x_7, i3, hb1⟩ := bind_some hb1
      obtain ⟨i3z, i3⟩ := getI_some i3
      have i3x := idxI (f := tP) i3
      simp only [List.map_append, List.map_cons, List.map_nil, List.nil_append, tP_eq] at i3x
      obtain ⟨r_8, c4, hb1⟩ := bind_some hb1
      replace c4 := hrec c4
      try simp only [List.map_append, List.map_cons, List.map_nil, List.nil_append, tE_eq, tP_eq] at c4
      obtain rfl := Option.some.inj hb1
      repeat' (first | refine p_ rfl rfl rfl rfl rfl ?_ | refine st_nil ?_ | refine x_ rfl rfl rfl rfl rfl rfl rfl rfl ?_ | refine l_ rfl rfl rfl rfl ?_ | refine s_ rfl rfl rfl ?_ | refine t_ rfl rfl rfl rfl ?_ | refine k_ rfl rfl rfl ?_ | refine k0_ rfl rfl ?_ | refine c_ rfl rfl rfl rfl ?_ | refine pick_t rfl rfl rfl rfl rfl rfl rfl ?_ | refine pick_f rfl rfl rfl rfl rfl rfl rfl ?_ | refine aw_seq ?_ | refine aw_region tab_ok _ rfl ?_ | refine aw_drawn2 tabS_ok _ rfl mixed (by decide +kernel) ?_ | refine aw_condT rfl ?_ | refine aw_condF rfl ?_ | refine aw_block ?_ | refine aw_exit ?_ | refine aw_ret ?_ | refine aw_skip ?_ | rw [List.length_map] | rw [mn_norm] | rw [mx_norm])
      exact ⟨_, rfl, fits_mk ⟨rfl, rfl, rfl, rfl, rfl, trivial⟩ [] rfl ⟨trivial, by show 0 < 1; omega, trivial, trivial, trivial, trivial⟩ ⟨ob_below (by rfl), trivial⟩⟩
    · rw [q_6, cond_false] at hb1
      obtain rfl := Option.some.inj hb1
      have hx1 : gLoadB_K1 (.inl (n_3, i_4)) = some _ := hk1
      unfold gLoadB_K1 at hx1
      dsimp only at hx1
      obtain rfl := Option.some.inj hx1
      exact go_
  · rw [q_5, cond_false] at hb1
    obtain rfl := Option.some.inj hb1
    have hx1 : gLoadB_K1 (.inl (n_3, i_4)) = some _ := hk1
    unfold gLoadB_K1 at hx1
    dsimp only at hx1
    obtain rfl := Option.some.inj hx1
    exact go_
def gLoad : Nat → Pl → Int → Option Int
  | 0, _, _ => none
  | n + 1, e, m => gLoadB (gLoad n) e m
theorem gLoad_ok : ∀ (n : Nat) {x : Pl} {y r : Int}, gLoad n x y = some r → Pure Tryz.prog 10 [.agg (tP x), .one (.int .i64 y)] (.val (.one (.int .i64 r)))
  | 0, _, _, _, h => nomatch h
  | n + 1, _, _, _, h => gLoadB_ok (gLoad_ok n) h
end Go.Proofs.YtfpbmfalamappaaGreatDoor

namespace Go.Proofs.YtfpbmfalamappaaGreatDoor
open Go.RowKit Go.MapKept
set_option maxRecDepth 100000
set_option maxHeartbeats 8000000
def gOper (p : Pl) (inn sub : List (List Int)) : Option (List Int × Int) := bif (inn.all fun x => decide (x.length ≤ 1000000)) && (sub.all fun x => decide (x.length ≤ 50000)) && decide (((sub.length : Nat) : Int) = inpF p.op) then some (opF inn sub p.op p.int p.kinds p.rows p.pred p.exprs p.keys p.aggs) else none
theorem inpF_ops {op : Int} (h : 0 ≤ inpF op) : op = 1 ∨ op = 2 ∨ op = 3 ∨ op = 4 ∨ op = 5 ∨ op = 6 ∨ op = 7 ∨ op = 8 ∨ op = 9 ∨ op = 10 ∨ op = 11 := by
  by_cases hm : op ∈ [1, 2, 3, 4, 5, 6, 7, 8, 9, 10, 11]
  · simpa using hm
  · exfalso
    have : inpF op = -1 := by
      simp only [List.mem_cons, List.not_mem_nil, or_false, not_or] at hm
      obtain ⟨h1, h2, h3, h4, h5, h6, h7, h8, h9, h10, h11⟩ := hm
      unfold inpF
      simp [inL, h1, h2, h3, h4, h5, h6, h7, h8, h9, h10, h11]
    omega
theorem gOper_ok {p : Pl} {inn sub : List (List Int)} {r : List Int × Int} (hS : p.Sm) (H : gOper p inn sub = some r) : Pure Tryz.prog 49 [.agg (tP p), .one (.lst (inn.map (fun x => [AC.lst (x.map (fun x => [AC.int .i64 x]))]))), .one (.lst (sub.map (fun x => [AC.lst (x.map (fun x => [AC.int .i64 x]))])))] (.tup [.one (.lst (r.1.map (fun x => [AC.int .i64 x]))), .one (.int .i64 r.2)]) := by
  obtain ⟨h1, h2⟩ := grd_some H
  obtain rfl := Option.some.inj h2
  clear H h2
  simp only [Bool.and_eq_true, List.all_eq_true, decide_eq_true_eq] at h1
  obtain ⟨⟨hi, hs⟩, hn⟩ := h1
  cases hS with
  | @mk op int kinds rows pred exprs keys aggs inputs hk hr hp hx hxs hy ha _ _ =>
    obtain ⟨po, pi, pv, pn, pa⟩ := pred
    have hn' : ((sub.length : Nat) : Int) = inpF op := hn
    rcases inpF_ops (op := op) (by omega) with rfl | rfl | rfl | rfl | rfl | rfl | rfl | rfl | rfl | rfl | rfl
    · match sub, hn' with
      | [], _ => exact operator_1 inn int kinds rows po pi pv pn pa exprs keys aggs inputs hi
      | _ :: _, h => exact absurd h (by rw [show inpF 1 = 0 from by decide]; simp; omega)
    · match sub, hn' with
      | [], _ => exact operator_2 inn int kinds rows po pi pv pn pa exprs keys aggs inputs hk hr
      | _ :: _, h => exact absurd h (by rw [show inpF 2 = 0 from by decide]; simp; omega)
    · match sub, hn', hs with
      | [], h, _ => exact absurd h (by decide)
      | [a], _, hs => exact operator_3 inn int kinds rows po pi pv pn pa exprs keys aggs inputs a (Nat.le_trans (hs a (by simp)) (by omega)) hp
      | _ :: _ :: _, h, _ => exact absurd h (by rw [show inpF 3 = 1 from by decide]; simp; omega)
    · match sub, hn', hs with
      | [], h, _ => exact absurd h (by decide)
      | [a], _, hs => exact operator_4 inn int kinds rows po pi pv pn pa exprs keys aggs inputs a (Nat.le_trans (hs a (by simp)) (by omega)) hx hxs
      | _ :: _ :: _, h, _ => exact absurd h (by rw [show inpF 4 = 1 from by decide]; simp; omega)
    · match sub, hn', hs with
      | [], h, _ => exact absurd h (by decide)
      | [_], h, _ => exact absurd h (by rw [show inpF 5 = 2 from by decide]; simp)
      | [a, b], _, hs => exact operator_5 inn int kinds rows po pi pv pn pa exprs keys aggs inputs a b (hs a (by simp)) (hs b (by simp)) hp
      | _ :: _ :: _ :: _, h, _ => exact absurd h (by rw [show inpF 5 = 2 from by decide]; simp; omega)
    · match sub, hn', hs with
      | [], h, _ => exact absurd h (by decide)
      | [_], h, _ => exact absurd h (by rw [show inpF 6 = 2 from by decide]; simp)
      | [a, b], _, hs => exact operator_6 inn int kinds rows po pi pv pn pa exprs keys aggs inputs a b (hs a (by simp)) (hs b (by simp)) hp
      | _ :: _ :: _ :: _, h, _ => exact absurd h (by rw [show inpF 6 = 2 from by decide]; simp; omega)
    · match sub, hn', hs with
      | [], h, _ => exact absurd h (by decide)
      | [_], h, _ => exact absurd h (by rw [show inpF 7 = 2 from by decide]; simp)
      | [a, b], _, hs => exact operator_7 inn int kinds rows po pi pv pn pa exprs keys aggs inputs a b (Nat.le_trans (hs a (by simp)) (by omega))
      | _ :: _ :: _ :: _, h, _ => exact absurd h (by rw [show inpF 7 = 2 from by decide]; simp; omega)
    · match sub, hn', hs with
      | [], h, _ => exact absurd h (by decide)
      | [_], h, _ => exact absurd h (by rw [show inpF 8 = 2 from by decide]; simp)
      | [a, b], _, hs => exact operator_8 inn int kinds rows po pi pv pn pa exprs keys aggs inputs a b (Nat.le_trans (hs a (by simp)) (by omega))
      | _ :: _ :: _ :: _, h, _ => exact absurd h (by rw [show inpF 8 = 2 from by decide]; simp; omega)
    · match sub, hn', hs with
      | [], h, _ => exact absurd h (by decide)
      | [_], h, _ => exact absurd h (by rw [show inpF 9 = 2 from by decide]; simp)
      | [a, b], _, hs => exact operator_9 inn int kinds rows po pi pv pn pa exprs keys aggs inputs a b (Nat.le_trans (hs a (by simp)) (by omega))
      | _ :: _ :: _ :: _, h, _ => exact absurd h (by rw [show inpF 9 = 2 from by decide]; simp; omega)
    · match sub, hn', hs with
      | [], h, _ => exact absurd h (by decide)
      | [a], _, hs => exact operator_10 inn int kinds rows po pi pv pn pa exprs keys aggs inputs a
      | _ :: _ :: _, h, _ => exact absurd h (by rw [show inpF 10 = 1 from by decide]; simp; omega)
    · match sub, hn', hs with
      | [], h, _ => exact absurd h (by decide)
      | [a], _, hs => exact operator_11 inn int kinds rows po pi pv pn pa exprs keys aggs inputs a (Nat.le_trans (hs a (by simp)) (by omega)) hy ha
      | _ :: _ :: _, h, _ => exact absurd h (by rw [show inpF 11 = 1 from by decide]; simp; omega)
end Go.Proofs.YtfpbmfalamappaaGreatDoor

namespace Go.Proofs.YtfpbmfalamappaaGreatDoor
open Go.RowKit Go.MapKept
set_option maxRecDepth 100000
set_option maxHeartbeats 8000000
/-- The variables of Check: the closure and the inputs. -/
def nodeL (inn : List (List Int)) : List Ob := [.box [.clo 47 [.ptr 0 0, .ptr 1 0]], .box [.c (.lst (inn.map (fun x => [AC.lst (x.map (fun x => [AC.int .i64 x]))])))]]
theorem run2_ {P : Program} {ti : TI} {N : Nat} {ds : List (Option Tmp)} {K : Tm → List Ob → Prop} {rest : List Oper} {o : Oper} {T : Tm} {L : List Ob} (σ : List Nat) {g : FuncId} {L0 L1 : List Ob} {args as0 : List AV} {r : AV} {d : Nat} (hd : o.dst = some d) (hN : Nat.blt d N = true) (hg : gdv ds T o.guard = some true) (hp : callOpR ti (look T) o.op = some (g, as0)) (hc : Run P g L0 args L1 r) (ha : as0 = args.map (AV.ren σ)) (hF : RunFits σ L0 args L)
    (hr : r.ren (outIds σ L.length L1.length) = r) (hL : joinL σ L L1 = L) (h : awOps P ti N ds K rest ((d, r) :: T) L) : awOps P ti N ds K (o :: rest) T L := st_run σ hd hN hg hp hc ha hF hr hL h
theorem clo_below {n f : Nat} (h : 2 ≤ n) : (Ob.box [.clo f [.ptr 0 0, .ptr 1 0]]).below n := by
  intro x hx
  simp only [List.mem_cons, List.not_mem_nil, or_false] at hx
  subst hx
  intro c hc
  simp only [List.mem_cons, List.not_mem_nil, or_false] at hc
  rcases hc with rfl | rfl
  · show 0 < n; omega
  · show 1 < n; omega
theorem node_below (inn : List (List Int)) : ∀ x ∈ nodeL inn, x.below (nodeL inn).length := by
  intro x hx
  simp only [nodeL, List.mem_cons, List.not_mem_nil, or_false] at hx
  rcases hx with rfl | rfl
  · exact clo_below (Nat.le_refl 2)
  · exact ob_below rfl
theorem agg_below {n : Nat} : ∀ (l : List AC), (AV.agg (l.map .c)).below n := fun l x hx => by
  simp only [List.mem_map] at hx
  obtain ⟨y, _, rfl⟩ := hx
  trivial
theorem node_fits {inn : List (List Int)} (l : List AC) (Lr : List Ob) : RunFits [0, 1] (nodeL inn) [.agg (l.map .c), .one (.ptr 0 0), .one (.ptr 1 0)] (nodeL inn ++ Lr) := by
  refine ⟨rfl, by decide, ?_, node_below inn, ?_⟩
  · intro i x hx
    match i, hx with
    | 0, hx => obtain rfl := Option.some.inj hx; rfl
    | 1, hx => obtain rfl := Option.some.inj hx; rfl
    | _ + 2, hx => cases hx
  · intro x hx
    simp only [List.mem_cons, List.not_mem_nil, or_false] at hx
    rcases hx with rfl | rfl | rfl
    · exact agg_below l
    · show 0 < 2; omega
    · show 1 < 2; omega
def gNodeC_B1 (a_p : Pl) (rec : Pl → Option (List Int × Int)) : ((List (List Int)) × Int) → Option (Step ((List (List Int)) × Int) ((List Int) × Int)) := fun s => match s with
  | (sub_4, v_5) => bif (decide (v_5 < ((a_p.inputs.length : Nat) : Int))) then
    (getI a_p.inputs v_5).bind fun x_7 => (rec x_7).bind fun r_8 => bif (decide (r_8.2 ≠ (0 : Int))) then
      some (.ret ([], r_8.2))
    else
      bif (decide (sub_4.length + 1 ≤ 549755813888)) then (some (.next ((sub_4 ++ [r_8.1]), (IntKind.i64.wrap (v_5 + (1 : Int)))))) else none
  else
    some (.exit (sub_4, v_5))
def gNodeC_K1 (a_p : Pl) (inn : List (List Int)) : Sum ((List (List Int)) × Int) ((List Int) × Int) → Option (((List Int) × Int))
  | .inl (sub_4, v_5) => (gOper a_p inn sub_4).bind fun r_10 => bif (decide (r_10.2 ≠ (0 : Int))) then
    some ([], r_10.2)
  else
    bif (decide (((r_10.1.length : Nat) : Int) < (1 : Int))) then
      some ([], (13 : Int))
    else
      bif (decide ((48 : Int) < ((r_10.1.length : Nat) : Int))) then
        some ([], (13 : Int))
      else
        some (r_10.1, (0 : Int))
  | .inr q => some q
def gNodeC (rec : Pl → Option (List Int × Int)) (inn : List (List Int)) (a_p : Pl) : Option ((List Int) × Int) := bif (decide ((inpF a_p.op) < (0 : Int))) then
  some ([], (7 : Int))
else
  bif (decide ((inpF a_p.op) ≠ ((a_p.inputs.length : Nat) : Int))) then
    some ([], (8 : Int))
  else
    (loopM (gNodeC_B1 a_p rec) fuel ([], (0 : Int))).bind (gNodeC_K1 a_p inn)
theorem gNodeC_ok {rec : Pl → Option (List Int × Int)} {inn : List (List Int)}  (hrec : ∀ {x : Pl} {r : List Int × Int}, x.Sm → rec x = some r → Run Tryz.prog 47 (nodeL inn) [.agg ((tP x).map .c), .one (.ptr 0 0), .one (.ptr 1 0)] (nodeL inn) (.tup [.one (.lst (r.1.map (fun x => [AC.int .i64 x]))), .one (.int .i64 r.2)])) {a_p : Pl} {r : (List Int) × Int} (hS : a_p.Sm) (H : gNodeC rec inn a_p = some r) : Run Tryz.prog 47 (nodeL inn) [.agg ((tP a_p).map .c), .one (.ptr 0 0), .one (.ptr 1 0)] (nodeL inn) (.tup [.one (.lst (r.1.map (fun x => [AC.int .i64 x]))), .one (.int .i64 r.2)]) := by
  unfold gNodeC at H
  rw [tP_eq]
  refine run_of_aw tabD_ok Tryz.func47 rfl rfl Tryz.ntmps47 (by simp) ?_
  simp only [argA, nodeL, List.map_cons, List.map_nil]
  have hc_1 := inputs_pure a_p.op
  try simp only [List.map_append, List.map_cons, List.map_nil, List.nil_append, tE_eq, tP_eq] at hc_1
  rcases Bool.eq_false_or_eq_true (decide ((inpF a_p.op) < (0 : Int))) with q_2 | q_2
  · rw [q_2, cond_true] at H
    obtain rfl := Option.some.inj H
    repeat' (first | refine st_nil ?_ | refine p_ rfl rfl rfl rfl rfl ?_ | refine st_nil ?_ | refine x_ rfl rfl rfl rfl rfl rfl rfl rfl ?_ | refine l_ rfl rfl rfl rfl ?_ | refine s_ rfl rfl rfl ?_ | refine t_ rfl rfl rfl rfl ?_ | refine k_ rfl rfl rfl ?_ | refine k0_ rfl rfl ?_ | refine c_ rfl rfl rfl rfl ?_ | refine pick_t rfl rfl rfl rfl rfl rfl rfl ?_ | refine pick_f rfl rfl rfl rfl rfl rfl rfl ?_ | refine aw_seq ?_ | refine aw_region tabD_ok _ rfl ?_ | refine aw_drawn2 tabDS_ok _ rfl mixed (by decide +kernel) ?_ | refine aw_condT rfl ?_ | refine aw_condF rfl ?_ | refine aw_block ?_ | refine aw_exit ?_ | refine aw_ret ?_ | refine aw_skip ?_ | rw [List.length_map] | rw [mn_norm] | rw [mx_norm])
    exact ⟨.inr rfl, ⟨.inr ⟨_, res_of rfl ft_ rfl, rfl⟩, ⟨_, rfl⟩, Nat.le_refl _, node_below inn, trivial⟩⟩
  · rw [q_2, cond_false] at H
    rcases Bool.eq_false_or_eq_true (decide ((inpF a_p.op) ≠ ((a_p.inputs.length : Nat) : Int))) with q_3 | q_3
    · rw [q_3, cond_true] at H
      obtain rfl := Option.some.inj H
      repeat' (first | refine st_nil ?_ | refine p_ rfl rfl rfl rfl rfl ?_ | refine st_nil ?_ | refine x_ rfl rfl rfl rfl rfl rfl rfl rfl ?_ | refine l_ rfl rfl rfl rfl ?_ | refine s_ rfl rfl rfl ?_ | refine t_ rfl rfl rfl rfl ?_ | refine k_ rfl rfl rfl ?_ | refine k0_ rfl rfl ?_ | refine c_ rfl rfl rfl rfl ?_ | refine pick_t rfl rfl rfl rfl rfl rfl rfl ?_ | refine pick_f rfl rfl rfl rfl rfl rfl rfl ?_ | refine aw_seq ?_ | refine aw_region tabD_ok _ rfl ?_ | refine aw_drawn2 tabDS_ok _ rfl mixed (by decide +kernel) ?_ | refine aw_condT rfl ?_ | refine aw_condF rfl ?_ | refine aw_block ?_ | refine aw_exit ?_ | refine aw_ret ?_ | refine aw_skip ?_ | rw [List.length_map] | rw [mn_norm] | rw [mx_norm])
      exact ⟨.inr rfl, ⟨.inr ⟨_, res_of rfl ft_ rfl, rfl⟩, ⟨_, rfl⟩, Nat.le_refl _, node_below inn, trivial⟩⟩
    · rw [q_3, cond_false] at H
      repeat' (first | refine st_nil ?_ | refine p_ rfl rfl rfl rfl rfl ?_ | refine st_nil ?_ | refine x_ rfl rfl rfl rfl rfl rfl rfl rfl ?_ | refine l_ rfl rfl rfl rfl ?_ | refine s_ rfl rfl rfl ?_ | refine t_ rfl rfl rfl rfl ?_ | refine k_ rfl rfl rfl ?_ | refine k0_ rfl rfl ?_ | refine c_ rfl rfl rfl rfl ?_ | refine pick_t rfl rfl rfl rfl rfl rfl rfl ?_ | refine pick_f rfl rfl rfl rfl rfl rfl rfl ?_ | refine aw_seq ?_ | refine aw_region tabD_ok _ rfl ?_ | refine aw_drawn2 tabDS_ok _ rfl mixed (by decide +kernel) ?_ | refine aw_condT rfl ?_ | refine aw_condF rfl ?_ | refine aw_block ?_ | refine aw_exit ?_ | refine aw_ret ?_ | refine aw_skip ?_ | rw [List.length_map] | rw [mn_norm] | rw [mx_norm])
      refine aw_tok 7 1 rfl ?_
      refine aw_loopM (fun s : (List (List Int)) × Int => match s with | (sub_4, v_5) => [(1, .one (.ptr 0 0)), (2, .one (.ptr 1 0)), (3, .one (.ptr 2 0)), (4, .one (.emp)), (5, .one (.c (.int .i64 (0 : Int)))), (7, .one (.own (sub_4.map (fun x => [AC.lst (x.map (fun x => [AC.int .i64 x]))])) 3)), (25, .one (.c (.lst (a_p.inputs.map tP)))), (26, .one (.c (.int .i64 ((a_p.inputs.length : Nat) : Int)))), (27, .one (.c (.int .i64 v_5)))]) (fun s => match s with | (sub_4, v_5) => [.box [.clo 47 [.ptr 0 0, .ptr 1 0]], .box [.c (.lst (inn.map (fun x => [AC.lst (x.map (fun x => [AC.int .i64 x]))])))], .box [.c (.int .i64 a_p.op), .c (.int .i64 a_p.int), .c (.lst (a_p.kinds.map (fun x => [AC.int .i64 x]))), .c (.lst (a_p.rows.map (fun x => [AC.lst (x.map cV)]))), .c (.int .i64 a_p.pred.op), .c (.int .i64 a_p.pred.int), .c (.int .i64 a_p.pred.v.kind), .c (.int .i64 a_p.pred.v.int), .c (.str a_p.pred.v.text), .c (.str a_p.pred.nm), .c (.lst (a_p.pred.args.map tE)), .c (.lst (a_p.exprs.map tE)), .c (.lst (a_p.keys.map (fun x => [AC.int .i64 x]))), .c (.lst (a_p.aggs.map cA)), .c (.lst (a_p.inputs.map tP))], .spare sub_4.length 1]) H (fun s => by obtain ⟨_, _⟩ := s; exact Nat.le_of_ble_eq_true rfl)
        (fits_mk ⟨rfl, rfl, rfl, rfl, rfl, rfl, rfl, rfl, rfl, trivial⟩ [] rfl ⟨by show 0 < 4; omega, by show 1 < 4; omega, by show 2 < 4; omega, trivial, trivial, by show 3 < 4; omega, trivial, trivial, trivial, trivial⟩ ⟨clo_below (Nat.le_of_ble_eq_true rfl), ob_below (by rfl), ob_below (by rfl), trivial, trivial⟩) ?_
      rintro ⟨sub_4, v_5⟩ st1 hb1 hk1
      unfold gNodeC_B1 at hb1
      dsimp only at hb1 ⊢
      rcases Bool.eq_false_or_eq_true (decide (v_5 < ((a_p.inputs.length : Nat) : Int))) with q_6 | q_6
      · rw [q_6, cond_true] at hb1
        obtain ⟨x_7, i1, hb1⟩ := bind_some hb1
        obtain ⟨i1z, i1⟩ := getI_some i1
        have i1x := idxI (f := tP) i1
        simp only [List.map_append, List.map_cons, List.map_nil, List.nil_append, tP_eq] at i1x
        obtain ⟨r_8, c2, hb1⟩ := bind_some hb1
        replace c2 := hrec (hS.sinputs _ (List.mem_of_getElem? (by assumption))) c2
        try simp only [List.map_append, List.map_cons, List.map_nil, List.nil_append, tE_eq, tP_eq] at c2
        have c2f := @node_fits inn (tP x_7)
        simp only [List.map_append, List.map_cons, List.map_nil, List.nil_append, tE_eq, tP_eq] at c2f
        rcases Bool.eq_false_or_eq_true (decide (r_8.2 ≠ (0 : Int))) with q_9 | q_9
        · rw [q_9, cond_true] at hb1
          obtain rfl := Option.some.inj hb1
          have hx1 : gNodeC_K1 a_p inn (.inr ([], r_8.2)) = some _ := hk1
          unfold gNodeC_K1 at hx1
          dsimp only at hx1
          obtain rfl := Option.some.inj hx1
          repeat' (first | refine st_nil ?_ | refine run2_ [0, 1] rfl rfl rfl rfl c2 rfl (c2f _) rfl rfl ?_ | refine p_ rfl rfl rfl rfl rfl ?_ | refine st_nil ?_ | refine x_ rfl rfl rfl rfl rfl rfl rfl rfl ?_ | refine l_ rfl rfl rfl rfl ?_ | refine s_ rfl rfl rfl ?_ | refine t_ rfl rfl rfl rfl ?_ | refine k_ rfl rfl rfl ?_ | refine k0_ rfl rfl ?_ | refine c_ rfl rfl rfl rfl ?_ | refine pick_t rfl rfl rfl rfl rfl rfl rfl ?_ | refine pick_f rfl rfl rfl rfl rfl rfl rfl ?_ | refine aw_seq ?_ | refine aw_region tabD_ok _ rfl ?_ | refine aw_drawn2 tabDS_ok _ rfl mixed (by decide +kernel) ?_ | refine aw_condT rfl ?_ | refine aw_condF rfl ?_ | refine aw_block ?_ | refine aw_exit ?_ | refine aw_ret ?_ | refine aw_skip ?_ | rw [List.length_map] | rw [mn_norm] | rw [mx_norm])
          exact ⟨.inr rfl, ⟨.inr ⟨_, res_of rfl ft_ rfl, rfl⟩, ⟨_, rfl⟩, Nat.le_refl _, node_below inn, trivial⟩⟩
        · rw [q_9, cond_false] at hb1
          obtain ⟨g3, hb1⟩ := grd_some hb1
          replace g3 := of_decide_eq_true g3
          obtain rfl := Option.some.inj hb1
          repeat' (first | refine st_nil ?_ | refine run2_ [0, 1] rfl rfl rfl rfl c2 rfl (c2f _) rfl rfl ?_ | refine p_ rfl rfl rfl rfl rfl ?_ | refine st_nil ?_ | refine x_ rfl rfl rfl rfl rfl rfl rfl rfl ?_ | refine l_ rfl rfl rfl rfl ?_ | refine s_ rfl rfl rfl ?_ | refine t_ rfl rfl rfl rfl ?_ | refine k_ rfl rfl rfl ?_ | refine k0_ rfl rfl ?_ | refine c_ rfl rfl rfl rfl ?_ | refine pick_t rfl rfl rfl rfl rfl rfl rfl ?_ | refine pick_f rfl rfl rfl rfl rfl rfl rfl ?_ | refine aw_seq ?_ | refine aw_region tabD_ok _ rfl ?_ | refine aw_drawn2 tabDS_ok _ rfl mixed (by decide +kernel) ?_ | refine aw_condT rfl ?_ | refine aw_condF rfl ?_ | refine aw_block ?_ | refine aw_exit ?_ | refine aw_ret ?_ | refine aw_skip ?_ | rw [List.length_map] | rw [mn_norm] | rw [mx_norm])
          exact ⟨_, rfl, fits_mk ⟨rfl, rfl, rfl, rfl, rfl, (by simp only [List.map_append, List.map_cons, List.map_nil, List.nil_append] <;> rfl), rfl, rfl, rfl, trivial⟩ [_] (by simp only [List.length_append, List.length_cons, List.length_nil, Nat.zero_add] <;> rfl) ⟨by show 0 < 4; omega, by show 1 < 4; omega, by show 2 < 4; omega, trivial, trivial, by show 3 < 4; omega, trivial, trivial, trivial, trivial⟩ ⟨clo_below (Nat.le_of_ble_eq_true rfl), ob_below (by rfl), ob_below (by rfl), trivial, trivial⟩⟩
      · rw [q_6, cond_false] at hb1
        obtain rfl := Option.some.inj hb1
        have hx1 : gNodeC_K1 a_p inn (.inl (sub_4, v_5)) = some _ := hk1
        unfold gNodeC_K1 at hx1
        dsimp only at hx1
        obtain ⟨r_10, c4, hx1⟩ := bind_some hx1
        replace c4 := gOper_ok hS c4
        try simp only [List.map_append, List.map_cons, List.map_nil, List.nil_append, tE_eq, tP_eq] at c4
        rcases Bool.eq_false_or_eq_true (decide (r_10.2 ≠ (0 : Int))) with q_11 | q_11
        · rw [q_11, cond_true] at hx1
          obtain rfl := Option.some.inj hx1
          repeat' (first | refine st_nil ?_ | refine p_ rfl rfl rfl rfl rfl ?_ | refine st_nil ?_ | refine x_ rfl rfl rfl rfl rfl rfl rfl rfl ?_ | refine l_ rfl rfl rfl rfl ?_ | refine s_ rfl rfl rfl ?_ | refine t_ rfl rfl rfl rfl ?_ | refine k_ rfl rfl rfl ?_ | refine k0_ rfl rfl ?_ | refine c_ rfl rfl rfl rfl ?_ | refine pick_t rfl rfl rfl rfl rfl rfl rfl ?_ | refine pick_f rfl rfl rfl rfl rfl rfl rfl ?_ | refine aw_seq ?_ | refine aw_region tabD_ok _ rfl ?_ | refine aw_drawn2 tabDS_ok _ rfl mixed (by decide +kernel) ?_ | refine aw_condT rfl ?_ | refine aw_condF rfl ?_ | refine aw_block ?_ | refine aw_exit ?_ | refine aw_ret ?_ | refine aw_skip ?_ | rw [List.length_map] | rw [mn_norm] | rw [mx_norm])
          exact ⟨.inr rfl, ⟨.inr ⟨_, res_of rfl ft_ rfl, rfl⟩, ⟨_, rfl⟩, Nat.le_refl _, node_below inn, trivial⟩⟩
        · rw [q_11, cond_false] at hx1
          rcases Bool.eq_false_or_eq_true (decide (((r_10.1.length : Nat) : Int) < (1 : Int))) with q_12 | q_12
          · rw [q_12, cond_true] at hx1
            obtain rfl := Option.some.inj hx1
            repeat' (first | refine st_nil ?_ | refine p_ rfl rfl rfl rfl rfl ?_ | refine st_nil ?_ | refine x_ rfl rfl rfl rfl rfl rfl rfl rfl ?_ | refine l_ rfl rfl rfl rfl ?_ | refine s_ rfl rfl rfl ?_ | refine t_ rfl rfl rfl rfl ?_ | refine k_ rfl rfl rfl ?_ | refine k0_ rfl rfl ?_ | refine c_ rfl rfl rfl rfl ?_ | refine pick_t rfl rfl rfl rfl rfl rfl rfl ?_ | refine pick_f rfl rfl rfl rfl rfl rfl rfl ?_ | refine aw_seq ?_ | refine aw_region tabD_ok _ rfl ?_ | refine aw_drawn2 tabDS_ok _ rfl mixed (by decide +kernel) ?_ | refine aw_condT rfl ?_ | refine aw_condF rfl ?_ | refine aw_block ?_ | refine aw_exit ?_ | refine aw_ret ?_ | refine aw_skip ?_ | rw [List.length_map] | rw [mn_norm] | rw [mx_norm])
            exact ⟨.inr rfl, ⟨.inr ⟨_, res_of rfl ft_ rfl, rfl⟩, ⟨_, rfl⟩, Nat.le_refl _, node_below inn, trivial⟩⟩
          · rw [q_12, cond_false] at hx1
            rcases Bool.eq_false_or_eq_true (decide ((48 : Int) < ((r_10.1.length : Nat) : Int))) with q_13 | q_13
            · rw [q_13, cond_true] at hx1
              obtain rfl := Option.some.inj hx1
              repeat' (first | refine st_nil ?_ | refine p_ rfl rfl rfl rfl rfl ?_ | refine st_nil ?_ | refine x_ rfl rfl rfl rfl rfl rfl rfl rfl ?_ | refine l_ rfl rfl rfl rfl ?_ | refine s_ rfl rfl rfl ?_ | refine t_ rfl rfl rfl rfl ?_ | refine k_ rfl rfl rfl ?_ | refine k0_ rfl rfl ?_ | refine c_ rfl rfl rfl rfl ?_ | refine pick_t rfl rfl rfl rfl rfl rfl rfl ?_ | refine pick_f rfl rfl rfl rfl rfl rfl rfl ?_ | refine aw_seq ?_ | refine aw_region tabD_ok _ rfl ?_ | refine aw_drawn2 tabDS_ok _ rfl mixed (by decide +kernel) ?_ | refine aw_condT rfl ?_ | refine aw_condF rfl ?_ | refine aw_block ?_ | refine aw_exit ?_ | refine aw_ret ?_ | refine aw_skip ?_ | rw [List.length_map] | rw [mn_norm] | rw [mx_norm])
              exact ⟨.inr rfl, ⟨.inr ⟨_, res_of rfl ft_ rfl, rfl⟩, ⟨_, rfl⟩, Nat.le_refl _, node_below inn, trivial⟩⟩
            · rw [q_13, cond_false] at hx1
              obtain rfl := Option.some.inj hx1
              repeat' (first | refine st_nil ?_ | refine p_ rfl rfl rfl rfl rfl ?_ | refine st_nil ?_ | refine x_ rfl rfl rfl rfl rfl rfl rfl rfl ?_ | refine l_ rfl rfl rfl rfl ?_ | refine s_ rfl rfl rfl ?_ | refine t_ rfl rfl rfl rfl ?_ | refine k_ rfl rfl rfl ?_ | refine k0_ rfl rfl ?_ | refine c_ rfl rfl rfl rfl ?_ | refine pick_t rfl rfl rfl rfl rfl rfl rfl ?_ | refine pick_f rfl rfl rfl rfl rfl rfl rfl ?_ | refine aw_seq ?_ | refine aw_region tabD_ok _ rfl ?_ | refine aw_drawn2 tabDS_ok _ rfl mixed (by decide +kernel) ?_ | refine aw_condT rfl ?_ | refine aw_condF rfl ?_ | refine aw_block ?_ | refine aw_exit ?_ | refine aw_ret ?_ | refine aw_skip ?_ | rw [List.length_map] | rw [mn_norm] | rw [mx_norm])
              exact ⟨.inr rfl, ⟨.inr ⟨_, res_of rfl ft_ rfl, rfl⟩, ⟨_, rfl⟩, Nat.le_refl _, node_below inn, trivial⟩⟩
end Go.Proofs.YtfpbmfalamappaaGreatDoor

namespace Go.Proofs.YtfpbmfalamappaaGreatDoor
open Go.RowKit Go.MapKept
set_option maxRecDepth 100000
set_option maxHeartbeats 8000000
def gNodeP (inn : List (List Int)) : Nat → Pl → Option (List Int × Int)
  | 0, _ => none
  | n + 1, p => gNodeC (gNodeP inn n) inn p
theorem gNodeP_ok {inn : List (List Int)} : ∀ (n : Nat) {x : Pl} {r : List Int × Int}, x.Sm → gNodeP inn n x = some r → Run Tryz.prog 47 (nodeL inn) [.agg ((tP x).map .c), .one (.ptr 0 0), .one (.ptr 1 0)] (nodeL inn) (.tup [.one (.lst (r.1.map (fun x => [AC.int .i64 x]))), .one (.int .i64 r.2)])
  | 0, _, _, _, h => nomatch h
  | n + 1, _, _, hS, h => gNodeC_ok (gNodeP_ok n) hS h
def gCheckP (n : Nat) (p : Pl) (inn : List (List Int)) : Option (List Int × Int) :=
  bif decide (24 < depP 24 p) then some ([], 26) else (gNodeP inn n p).bind fun r => bif decide (r.2 ≠ 0) then some ([], r.2) else bif decide (r.1.length ≤ 549755813888) then some (r.1, 0) else none
theorem node_fits2 {inn : List (List Int)} (l : List AC) (A : Ob) : RunFits [2, 1] (nodeL inn) [.agg (l.map .c), .one (.ptr 0 0), .one (.ptr 1 0)] [A, .box [.c (.lst (inn.map (fun x => [AC.lst (x.map (fun x => [AC.int .i64 x]))])))], .box [.clo 47 [.ptr 2 0, .ptr 1 0]]] := by
  refine ⟨rfl, by decide, ?_, node_below inn, ?_⟩
  · intro i x hx
    match i, hx with
    | 0, hx => obtain rfl := Option.some.inj hx; rfl
    | 1, hx => obtain rfl := Option.some.inj hx; rfl
    | _ + 2, hx => cases hx
  · intro x hx
    simp only [List.mem_cons, List.not_mem_nil, or_false] at hx
    rcases hx with rfl | rfl | rfl
    · exact agg_below l
    · show 0 < 2; omega
    · show 1 < 2; omega
theorem gCheckP_ok {n : Nat} {p : Pl} {inn : List (List Int)} {r : List Int × Int} (hS : p.Sm) (H : gCheckP n p inn = some r) : Pure Tryz.prog 12 [.agg (tP p), .one (.lst (inn.map (fun x => [AC.lst (x.map (fun x => [AC.int .i64 x]))])))] (.tup [.one (.lst (r.1.map (fun x => [AC.int .i64 x]))), .one (.int .i64 r.2)]) := by
  unfold gCheckP at H
  have hd := depthP_pure 24 p (by omega) hS
  generalize depP 24 p = dd at H hd
  have hd' : Pure Tryz.prog 46 [.agg (tP p), .one (.int .i64 24)] (.val (.one (.int .i64 dd))) := hd
  clear hd
  rw [tP_eq] at hd' ⊢
  refine pure_of_aw tabD_ok Tryz.func12 rfl rfl Tryz.ntmps12 (by simp) ?_
  simp only [argT, PV.av, List.map_cons, List.map_nil]
  rcases Bool.eq_false_or_eq_true (decide (24 < dd)) with q | q
  · rw [q, cond_true] at H
    obtain rfl := Option.some.inj H
    repeat' (first | refine p_ rfl rfl rfl rfl rfl ?_ | refine st_nil ?_ | refine x_ rfl rfl rfl rfl rfl rfl rfl rfl ?_ | refine l_ rfl rfl rfl rfl ?_ | refine s_ rfl rfl rfl ?_ | refine t_ rfl rfl rfl rfl ?_ | refine k_ rfl rfl rfl ?_ | refine k0_ rfl rfl ?_ | refine c_ rfl rfl rfl rfl ?_ | refine pick_t rfl rfl rfl rfl rfl rfl rfl ?_ | refine pick_f rfl rfl rfl rfl rfl rfl rfl ?_ | refine aw_seq ?_ | refine aw_region tabD_ok _ rfl ?_ | refine aw_drawn2 tabDS_ok _ rfl mixed (by decide +kernel) ?_ | refine aw_condT rfl ?_ | refine aw_condF rfl ?_ | refine aw_block ?_ | refine aw_exit ?_ | refine aw_ret ?_ | refine aw_skip ?_ | rw [List.length_map] | rw [mn_norm] | rw [mx_norm])
    exact end_ret (res_of rfl ft_ rfl)
  · rw [q, cond_false] at H
    obtain ⟨v, c1, H⟩ := bind_some H
    replace c1 := gNodeP_ok n hS c1
    have hfit := @node_fits2 inn (tP p)
    rw [tP_eq] at c1 hfit
    simp only [List.map_cons, List.map_nil] at c1 hfit
    rcases Bool.eq_false_or_eq_true (decide (v.2 ≠ 0)) with q2 | q2
    · rw [q2, cond_true] at H
      obtain rfl := Option.some.inj H
      repeat' (first | refine st_sop rfl rfl rfl rfl rfl (sop_makeFunc rfl) ?_ | refine run2_ [2, 1] rfl rfl rfl rfl c1 rfl (hfit _) rfl rfl ?_ | refine p_ rfl rfl rfl rfl rfl ?_ | refine st_nil ?_ | refine x_ rfl rfl rfl rfl rfl rfl rfl rfl ?_ | refine l_ rfl rfl rfl rfl ?_ | refine s_ rfl rfl rfl ?_ | refine t_ rfl rfl rfl rfl ?_ | refine k_ rfl rfl rfl ?_ | refine k0_ rfl rfl ?_ | refine c_ rfl rfl rfl rfl ?_ | refine pick_t rfl rfl rfl rfl rfl rfl rfl ?_ | refine pick_f rfl rfl rfl rfl rfl rfl rfl ?_ | refine aw_seq ?_ | refine aw_region tabD_ok _ rfl ?_ | refine aw_drawn2 tabDS_ok _ rfl mixed (by decide +kernel) ?_ | refine aw_condT rfl ?_ | refine aw_condF rfl ?_ | refine aw_block ?_ | refine aw_exit ?_ | refine aw_ret ?_ | refine aw_skip ?_ | rw [List.length_map] | rw [mn_norm] | rw [mx_norm])
      exact end_ret (res_of rfl ft_ rfl)
    · rw [q2, cond_false] at H
      obtain ⟨g1, H⟩ := grd_some H
      replace g1 := of_decide_eq_true g1
      obtain rfl := Option.some.inj H
      repeat' (first | refine st_sop rfl rfl rfl rfl rfl (sop_makeFunc rfl) ?_ | refine run2_ [2, 1] rfl rfl rfl rfl c1 rfl (hfit _) rfl rfl ?_ | refine p_ rfl rfl rfl rfl rfl ?_ | refine st_nil ?_ | refine x_ rfl rfl rfl rfl rfl rfl rfl rfl ?_ | refine l_ rfl rfl rfl rfl ?_ | refine s_ rfl rfl rfl ?_ | refine t_ rfl rfl rfl rfl ?_ | refine k_ rfl rfl rfl ?_ | refine k0_ rfl rfl ?_ | refine c_ rfl rfl rfl rfl ?_ | refine pick_t rfl rfl rfl rfl rfl rfl rfl ?_ | refine pick_f rfl rfl rfl rfl rfl rfl rfl ?_ | refine aw_seq ?_ | refine aw_region tabD_ok _ rfl ?_ | refine aw_drawn2 tabDS_ok _ rfl mixed (by decide +kernel) ?_ | refine aw_condT rfl ?_ | refine aw_condF rfl ?_ | refine aw_block ?_ | refine aw_exit ?_ | refine aw_ret ?_ | refine aw_skip ?_ | rw [List.length_map] | rw [mn_norm] | rw [mx_norm])
      exact end_ret (res_of rfl ft_ rfl)
end Go.Proofs.YtfpbmfalamappaaGreatDoor
