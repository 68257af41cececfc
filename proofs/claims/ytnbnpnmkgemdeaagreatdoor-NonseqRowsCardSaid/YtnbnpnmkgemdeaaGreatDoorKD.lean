/- Parts of the proof, joined (D1 D2 P1). No condition. -/
import Derived.Test.YtnbnpnmkgemdeaaGreatDoorKT
set_option linter.unusedSimpArgs false
set_option linter.unusedVariables false
namespace Go.Proofs.YtnbnpnmkgemdeaaGreatDoor
open Go.RowKit Go.MapKept
set_option linter.unusedVariables false
structure Cla where
  kind : Int
  lo : Int
  hi : Int
def cCla (x : Cla) : List AC := [.int .i64 x.kind, .int .i64 x.lo, .int .i64 x.hi]
structure Val where
  kind : Int
  int : Int
  text : ByteArray
def cV (x : Val) : List AC := [.int .i64 x.kind, .int .i64 x.int, .str x.text]
structure Bag where
  kinds : (List Int)
  rows : (List (List Val))
def cBag (x : Bag) : List AC := [.lst (x.kinds.map (fun x => [AC.int .i64 x])), .lst (x.rows.map (fun x => [AC.lst (x.map cV)]))]
structure Per where
  lo : Int
  hi : Int
def cPer (x : Per) : List AC := [.int .i64 x.lo, .int .i64 x.hi]
structure Ver where
  id : Int
  schema : Int
  row : (List Val)
  valid : Per
  system : Per
  by_ : Int
  til : Int
def cVer (x : Ver) : List AC := [.int .i64 x.id, .int .i64 x.schema, .lst (x.row.map cV), .int .i64 x.valid.lo, .int .i64 x.valid.hi, .int .i64 x.system.lo, .int .i64 x.system.hi, .int .i64 x.by_, .int .i64 x.til]
inductive Ex where
  | mk (op : Int) (int : Int) (v : Val) (nm : ByteArray) (args : (List Ex))
mutual
def tE : Ex → List AC
  | .mk op int v nm args => [.int .i64 op, .int .i64 int, .int .i64 v.kind, .int .i64 v.int, .str v.text, .str nm, .lst (tEs args)]
def tEs : List Ex → List (List AC)
  | [] => []
  | e :: l => tE e :: tEs l
end
theorem tEs_map : ∀ (l : List Ex), tEs l = l.map tE
  | [] => by simp [tEs]
  | e :: l => by simp [tEs, tEs_map l]
def Ex.op : Ex → Int | .mk a _ _ _ _ => a
def Ex.int : Ex → Int | .mk _ a _ _ _ => a
def Ex.v : Ex → Val | .mk _ _ a _ _ => a
def Ex.nm : Ex → ByteArray | .mk _ _ _ a _ => a
def Ex.args : Ex → (List Ex) | .mk _ _ _ _ a => a
theorem tE_eq (e : Ex) : tE e = [.int .i64 e.op, .int .i64 e.int, .int .i64 e.v.kind, .int .i64 e.v.int, .str e.v.text, .str e.nm, .lst (e.args.map tE)] := by
  obtain ⟨_, _, _, _, _⟩ := e
  rw [tE, tEs_map]; rfl
theorem tE_len (e : Ex) : (tE e).length = 7 := by rw [tE_eq]; rfl
structure Ag where
  op : Int
  arg : Int
def cAg (x : Ag) : List AC := [.int .i64 x.op, .int .i64 x.arg]
inductive Pl where
  | mk (op : Int) (int : Int) (kinds : (List Int)) (rows : (List (List Val))) (pred : Ex) (exprs : (List Ex)) (keys : (List Int)) (aggs : (List Ag)) (inputs : (List Pl))
mutual
def tP : Pl → List AC
  | .mk op int kinds rows pred exprs keys aggs inputs => [.int .i64 op, .int .i64 int, .lst (kinds.map (fun x => [AC.int .i64 x])), .lst (rows.map (fun x => [AC.lst (x.map cV)]))] ++ tE pred ++ [.lst (exprs.map tE), .lst (keys.map (fun x => [AC.int .i64 x])), .lst (aggs.map cAg), .lst (tPs inputs)]
def tPs : List Pl → List (List AC)
  | [] => []
  | e :: l => tP e :: tPs l
end
theorem tPs_map : ∀ (l : List Pl), tPs l = l.map tP
  | [] => by simp [tPs]
  | e :: l => by simp [tPs, tPs_map l]
def Pl.op : Pl → Int | .mk a _ _ _ _ _ _ _ _ => a
def Pl.int : Pl → Int | .mk _ a _ _ _ _ _ _ _ => a
def Pl.kinds : Pl → (List Int) | .mk _ _ a _ _ _ _ _ _ => a
def Pl.rows : Pl → (List (List Val)) | .mk _ _ _ a _ _ _ _ _ => a
def Pl.pred : Pl → Ex | .mk _ _ _ _ a _ _ _ _ => a
def Pl.exprs : Pl → (List Ex) | .mk _ _ _ _ _ a _ _ _ => a
def Pl.keys : Pl → (List Int) | .mk _ _ _ _ _ _ a _ _ => a
def Pl.aggs : Pl → (List Ag) | .mk _ _ _ _ _ _ _ a _ => a
def Pl.inputs : Pl → (List Pl) | .mk _ _ _ _ _ _ _ _ a => a
theorem tP_eq (e : Pl) : tP e = [.int .i64 e.op, .int .i64 e.int, .lst (e.kinds.map (fun x => [AC.int .i64 x])), .lst (e.rows.map (fun x => [AC.lst (x.map cV)])), .int .i64 e.pred.op, .int .i64 e.pred.int, .int .i64 e.pred.v.kind, .int .i64 e.pred.v.int, .str e.pred.v.text, .str e.pred.nm, .lst (e.pred.args.map tE), .lst (e.exprs.map tE), .lst (e.keys.map (fun x => [AC.int .i64 x])), .lst (e.aggs.map cAg), .lst (e.inputs.map tP)] := by
  obtain ⟨_, _, _, _, ⟨_, _, _, _, _⟩, _, _, _, _⟩ := e
  rw [tP, tPs_map, tE, tEs_map]; rfl
theorem tP_len (e : Pl) : (tP e).length = 15 := by rw [tP_eq]; rfl
structure Gvn where
  kinds : (List Int)
  versions : (List Ver)
def cGvn (x : Gvn) : List AC := [.lst (x.kinds.map (fun x => [AC.int .i64 x])), .lst (x.versions.map cVer)]
structure Fct where
  row : (List Val)
  valid : Per
def cFct (x : Fct) : List AC := [.lst (x.row.map cV), .int .i64 x.valid.lo, .int .i64 x.valid.hi]
structure Stp where
  lo : Int
  n : Int
def cStp (x : Stp) : List AC := [.int .i64 x.lo, .int .i64 x.n]
structure SGroup where
  row : (List Val)
  steps : (List Stp)
def cSGroup (x : SGroup) : List AC := [.lst (x.row.map cV), .lst (x.steps.map cStp)]
structure Pai where
  a : Int
  b : Int
def cPai (x : Pai) : List AC := [.int .i64 x.a, .int .i64 x.b]
structure SGroupcoalesce where
  row : (List Val)
  periods : (List Per)
def cSGroupcoalesce (x : SGroupcoalesce) : List AC := [.lst (x.row.map cV), .lst (x.periods.map cPer)]
structure SOpen where
  lo : Int
  many : Int
def cSOpen (x : SOpen) : List AC := [.int .i64 x.lo, .int .i64 x.many]
structure Cnt where
  period : Per
  n : Int
def cCnt (x : Cnt) : List AC := [.int .i64 x.period.lo, .int .i64 x.period.hi, .int .i64 x.n]
structure Ord where
  column : Int
  desc : Bool
def cOrd (x : Ord) : List AC := [.int .i64 x.column, .bool x.desc]
structure SKeyed where
  key : (List Val)
  row : (List Val)
def cSKeyed (x : SKeyed) : List AC := [.lst (x.key.map cV), .lst (x.row.map cV)]
end Go.Proofs.YtnbnpnmkgemdeaaGreatDoor

namespace Go.Proofs.YtnbnpnmkgemdeaaGreatDoor
open Go.RowKit Go.MapKept
set_option linter.unusedVariables false

/-- One round of a loop: go on, leave it, or return from the function. -/
inductive Step (σ ρ : Type) where
  | next (s : σ)
  | exit (s : σ)
  | ret (r : ρ)
def loopM {σ ρ : Type} (body : σ → Option (Step σ ρ)) : Nat → σ → Option (Sum σ ρ)
  | 0, _ => none
  | n + 1, s => match body s with
    | none => none
    | some (.next s') => loopM body n s'
    | some (.exit s') => some (.inl s')
    | some (.ret r) => some (.inr r)
/-- Rounds enough. -/
def fuel : Nat := 4611686018427387904
def getI {α : Type} (l : List α) (i : Int) : Option α := if 0 ≤ i then l[i.toNat]? else none
def subI {α : Type} (l : List α) (a b : Int) : Option (List α) := if 0 ≤ a ∧ a ≤ b ∧ b ≤ (l.length : Nat) then some ((l.take b.toNat).drop a.toNat) else none
theorem bind_some {α β : Type} {x : Option α} {f : α → Option β} {r : β} (h : x.bind f = some r) : ∃ a, x = some a ∧ f a = some r := by
  cases x with
  | none => cases h
  | some a => exact ⟨a, rfl, h⟩
theorem getI_some {α : Type} {l : List α} {i : Int} {x : α} (h : getI l i = some x) : 0 ≤ i ∧ l[i.toNat]? = some x := by
  unfold getI at h
  by_cases h0 : 0 ≤ i
  · rw [if_pos h0] at h; exact ⟨h0, h⟩
  · rw [if_neg h0] at h; cases h
theorem subI_some {α : Type} {l r : List α} {a b : Int} (h : subI l a b = some r) : (0 ≤ a ∧ a ≤ b ∧ b ≤ (l.length : Nat)) ∧ r = (l.take b.toNat).drop a.toNat := by
  unfold subI at h
  by_cases h0 : 0 ≤ a ∧ a ≤ b ∧ b ≤ (l.length : Nat)
  · rw [if_pos h0] at h; exact ⟨h0, (Option.some.inj h).symm⟩
  · rw [if_neg h0] at h; cases h
theorem grd_some {c : Bool} {β : Type} {x : Option β} {r : β} (h : (bif c then x else none) = some r) : c = true ∧ x = some r := by
  cases c with
  | true => exact ⟨rfl, h⟩
  | false => cases h
theorem idxI {α : Type} {l : List α} {f : α → List AC} {i : Int} {x : α} (h : l[i.toNat]? = some x) : (l.map f)[i.toNat]? = some (f x) := by rw [List.getElem?_map, h]; rfl
theorem wideI {α : Type} {f : α → List AC} {k : Nat} (hf : ∀ x, (f x).length = k) (l : List α) : ∀ e ∈ l.map f, e.length = k := by
  intro e he; simp only [List.mem_map] at he; obtain ⟨x, _, rfl⟩ := he; exact hf x
theorem loopM_mono {σ ρ : Type} {body : σ → Option (Step σ ρ)} : ∀ {n m : Nat} {s : σ} {r : Sum σ ρ}, n ≤ m → loopM body n s = some r → loopM body m s = some r
  | 0, _, _, _, _, h => by cases h
  | n + 1, 0, _, _, hle, _ => by omega
  | n + 1, m + 1, s, r, hle, h => by
    rw [loopM] at h ⊢
    cases hb : body s with
    | none => rw [hb] at h; cases h
    | some st => cases st with
      | next s' => rw [hb] at h; exact loopM_mono (by omega) h
      | exit s' => rw [hb] at h; exact h
      | ret q => rw [hb] at h; exact h
section
variable {P : Program} {ti : TI} {N n0 : Nat} {Q : AX → Tm → List Ob → Prop} {T : Tm} {L : List Ob}
/-- What holds behind a round. -/
@[reducible] def After {σ ρ γ : Type} (K : Sum σ ρ → Option γ) (r : γ) : Step σ ρ → Prop
  | .next _ => True
  | .exit s => K (.inl s) = some r
  | .ret q => K (.inr q) = some r
theorem aw_loopM {σ ρ γ : Type} {c : Code} {body : σ → Option (Step σ ρ)} {K : Sum σ ρ → Option γ} {r : γ} {s0 : σ} (TT : σ → Tm) (LL : σ → List Ob) (h : (loopM body fuel s0).bind K = some r) (hn1 : ∀ s, n0 ≤ (LL s).length) (hf : Fits T L (TT s0) (LL s0))
    (round : ∀ s st, body s = some st → After K r st → Aw P N n0 c (AX.then (fun T' L' => ∃ s', st = .next s' ∧ Fits T' L' (TT s') (LL s')) Q) (TT s) (LL s)) : Aw P N n0 (.loop c) Q T L := by
  refine aw_loop (fun s : Nat × σ => TT s.2) (fun s => LL s.2) (fun s => (loopM body s.1 s.2).bind K = some r) (fun s => s.1) (fuel, s0) h (fun s _ => hn1 s.2) hf ?_
  rintro ⟨n, s⟩ hok
  dsimp only at hok ⊢
  cases n with
  | zero => cases hok
  | succ n =>
    rw [loopM] at hok
    cases hb : body s with
    | none => rw [hb] at hok; cases hok
    | some st =>
      rw [hb] at hok
      refine Aw.mono (round s st hb ?_) ?_
      · cases st with
        | next s' => trivial
        | exit s' => exact hok
        | ret q => exact hok
      · intro x T' L' hq
        cases x with
        | normal =>
          obtain ⟨s', rfl, hfit⟩ := hq
          exact ⟨(n, s'), hok, Nat.lt_succ_self n, hfit⟩
        | exit id => exact hq
        | ret => exact hq
end
def mnI (a b : Int) : Int := if b < a then b else a
def mxI (a b : Int) : Int := if b > a then b else a
theorem mn_norm (a b : Int) : (if false = true then (if b > a then b else a) else (if b < a then b else a)) = mnI a b := rfl
theorem mx_norm (a b : Int) : (if true = true then (if b > a then b else a) else (if b < a then b else a)) = mxI a b := rfl
theorem subE {α : Type} {f : α → List AC} {l r : List α} {a b : Int} (h : r = (l.take b.toNat).drop a.toNat) : ((l.map f).take b.toNat).drop a.toNat = r.map f := by rw [h, ← List.map_take, ← List.map_drop]
def belowS (n : Nat) : SV → Bool
  | .c _ => true
  | .emp => true
  | .own _ t => Nat.blt t n
  | .ptr id _ => Nat.blt id n
  | _ => false
def belowC (n : Nat) : List SV → Bool
  | [] => true
  | x :: l => and (belowS n x) (belowC n l)
theorem belowS_of {n : Nat} {x : SV} (h : belowS n x = true) : x.below n := by
  cases x with
  | c _ => trivial
  | emp => trivial
  | own _ t => exact Nat.le_of_ble_eq_true h
  | ptr id _ => exact Nat.le_of_ble_eq_true h
  | sl => cases h
  | ep => cases h
  | mp => cases h
  | clo => cases h
theorem ob_below {n : Nat} : ∀ {cs : List SV}, belowC n cs = true → (Ob.box cs).below n
  | [], _ => fun x hx => by cases hx
  | c :: cs, h => fun x hx => by
    rw [belowC, Bool.and_eq_true] at h
    rcases List.mem_cons.1 hx with rfl | hx
    · exact belowS_of h.1
    · exact ob_below h.2 x hx
section
variable {P : Program} {ti : TI} {N n0 : Nat} {ds : List (Option Tmp)} {K : Tm → List Ob → Prop} {rest : List Oper} {o : Oper} {T : Tm} {L : List Ob}
theorem ff_ {p : Prop} {b : Bool} (h1 : b = false) (h2 : b = true) : p := by rw [h1] at h2; cases h2
theorem beq_tt {b : Bool} (h : b = true) : (b == true) = true := by rw [h]; rfl
theorem beq_ff {b : Bool} (h : b = false) : (b == false) = true := by rw [h]; rfl
theorem beq_tf {b : Bool} (h : b = false) : (b == true) = false := by rw [h]; rfl
theorem beq_ft {b : Bool} (h : b = true) : (b == false) = false := by rw [h]; rfl
theorem not_t {e : Bool} (h : e = false) : (!e) = true := by rw [h]; rfl
theorem not_f {e : Bool} (h : e = true) : (!e) = false := by rw [h]; rfl
def isPick : Op → Bool
  | .pick _ _ _ => true
  | _ => false
theorem p_ {v : AV} {φ : Prop} {d : Nat} (_ : isPick o.op = false) (hd : o.dst = some d) (hN : Nat.blt d N = true) {g0 : Bool} (hg : gdv ds T o.guard = some g0) (hp : pop ti (look T) L o.op = some (v, φ)) (h : awOps P ti N ds K rest ((d, v) :: T) L)
    (hφ : φ := by repeat' (first | exact trivial | rfl | exact Nat.le_of_ble_eq_true rfl | omega | assumption | exact wideI (by intro _; rfl) _ | exact wideI tE_len _ | exact wideI tP_len _ | (intro e he; simp at he; subst he; rfl) | (simp only [List.length_map]; omega) | apply And.intro)) (hg1 : g0 = true := by first | rfl | exact beq_tt (by first | assumption | exact not_t (by assumption)) | exact beq_ff (by first | assumption | exact not_f (by assumption))) : awOps P ti N ds K (o :: rest) T L := st_pop hd hN (hg1 ▸ hg) hp hφ h
theorem l_ {v : AV} {L' : List Ob} {φ : Prop} {d : Nat} (hd : o.dst = some d) (hN : Nat.blt d N = true) {g0 : Bool} (hg : gdv ds T o.guard = some g0) (hp : lop ti (look T) L o.op = some (v, L', φ)) (h : awOps P ti N ds K rest ((d, v) :: T) L')
    (hφ : φ := by repeat' (first | exact trivial | rfl | exact Nat.le_of_ble_eq_true rfl | omega | exact wideI (by intro _; rfl) _ | exact wideI tE_len _ | exact wideI tP_len _ | (intro e he; simp at he; subst he; rfl) | exact List.length_map _ | (simp only [List.length_map, List.length_append, List.length_cons, List.length_nil, Nat.zero_add]; omega) | apply And.intro)) (hg1 : g0 = true := by first | rfl | exact beq_tt (by first | assumption | exact not_t (by assumption)) | exact beq_ff (by first | assumption | exact not_f (by assumption))) : awOps P ti N ds K (o :: rest) T L := st_lop hd hN (hg1 ▸ hg) hp hφ h
theorem s_ {v : AV} {L' : List Ob} {φ : Prop} (hd : o.dst = none) {g0 : Bool} (hg : gdv ds T o.guard = some g0) (hp : lop ti (look T) L o.op = some (v, L', φ)) (h : awOps P ti N ds K rest T L') (hφ : φ := by repeat' (first | exact trivial | rfl | exact Nat.le_of_ble_eq_true rfl | omega | apply And.intro)) (hg1 : g0 = true := by first | rfl | exact beq_tt (by first | assumption | exact not_t (by assumption)) | exact beq_ff (by first | assumption | exact not_f (by assumption))) : awOps P ti N ds K (o :: rest) T L := st_store hd (hg1 ▸ hg) hp hφ h
theorem t_ {v : AV} {φ : Prop} {d : Nat} (hd : o.dst = some d) (hN : Nat.blt d N = true) {g0 : Bool} (hg : gdv ds T o.guard = some g0) (hp : litOp ti (look T) o.op = some (v, φ)) (h : awOps P ti N ds K rest ((d, v) :: T) L)
    (hφ : φ := by repeat' (first | exact trivial | rfl | exact Nat.le_of_ble_eq_true rfl | omega | (intro e he; simp at he; subst he; rfl) | (intro e he; simp at he; rcases he with rfl | rfl <;> rfl) | (intro e he; simp at he; rcases he with rfl | rfl | rfl <;> rfl) | (intro e he; simp at he; rcases he with rfl | rfl | rfl | rfl <;> rfl) | apply And.intro)) (hg1 : g0 = true := by first | rfl | exact beq_tt (by first | assumption | exact not_t (by assumption)) | exact beq_ff (by first | assumption | exact not_f (by assumption))) : awOps P ti N ds K (o :: rest) T L := st_lit hd hN (hg1 ▸ hg) hp hφ h
theorem c_ {g : FuncId} {ps : List PV} {r : CV} {d : Nat} {v : AV} (hd : o.dst = some d) (hN : Nat.blt d N = true) {g0 : Bool} (hg : gdv ds T o.guard = some g0) (hp : callOp (look T) o.op = some (g, ps)) (h : awOps P ti N ds K rest ((d, v) :: T) L) (hc : Pure P g ps r := by assumption) (hv : r.av = v := by rfl) (hg1 : g0 = true := by first | rfl | exact beq_tt (by first | assumption | exact not_t (by assumption)) | exact beq_ff (by first | assumption | exact not_f (by assumption))) : awOps P ti N ds K (o :: rest) T L := st_call hd hN (hg1 ▸ hg) hp hc hv h
theorem x_ {t : TypeId} {x ix : Operand} {vx : AV} {es : List (List AC)} {k0 : IntKind} {i : Int} {k d : Nat} {e : List AC} (hd : o.dst = some d) (hN : Nat.blt d N = true) {g0 : Bool} (hg : gdv ds T o.guard = some g0) (ho : o.op = .indexAddr t x ix) (hx : look T x = some vx) (hl : listOf vx = some es) (hi : look T ix = some (.one (.c (.int k0 i))))
    (hk : (ti.elem t).bind ti.size = some k) (h : awOps P ti N ds K rest ((d, .one (.c (.ref e))) :: T) L) (he : es[i.toNat]? = some e := by assumption) (h0 : 0 ≤ i := by assumption) (hl2 : e.length = k := by rfl) (hg1 : g0 = true := by first | rfl | exact beq_tt (by first | assumption | exact not_t (by assumption)) | exact beq_ff (by first | assumption | exact not_f (by assumption))) : awOps P ti N ds K (o :: rest) T L := st_idx hd hN (hg1 ▸ hg) ho hx hl hi hk he ⟨h0, hl2⟩ h
theorem pick_t {c a b : Operand} {e : Bool} {va vb : AV} {d : Nat} (hd : o.dst = some d) (hN : Nat.blt d N = true) {g0 : Bool} (hg : gdv ds T o.guard = some g0) (ho : o.op = .pick c a b) (hc : look T c = some (.one (.c (.bool e)))) (ha : look T a = some va) (hb : look T b = some vb) (h : awOps P ti N ds K rest ((d, va) :: T) L)
    (he : e = true := by first | rfl | assumption | exact not_t (by assumption)) (hg1 : g0 = true := by first | rfl | exact beq_tt (by first | assumption | exact not_t (by assumption)) | exact beq_ff (by first | assumption | exact not_f (by assumption))) : awOps P ti N ds K (o :: rest) T L := st_pop hd hN (hg1 ▸ hg) (by rw [ho]; simp only [pop, hc, ha, hb]; rw [if_pos he]) trivial h
theorem pick_f {c a b : Operand} {e : Bool} {va vb : AV} {d : Nat} (hd : o.dst = some d) (hN : Nat.blt d N = true) {g0 : Bool} (hg : gdv ds T o.guard = some g0) (ho : o.op = .pick c a b) (hc : look T c = some (.one (.c (.bool e)))) (ha : look T a = some va) (hb : look T b = some vb) (h : awOps P ti N ds K rest ((d, vb) :: T) L)
    (he : e = false := by first | rfl | assumption | exact not_f (by assumption)) (hg1 : g0 = true := by first | rfl | exact beq_tt (by first | assumption | exact not_t (by assumption)) | exact beq_ff (by first | assumption | exact not_f (by assumption))) : awOps P ti N ds K (o :: rest) T L := st_pop hd hN (hg1 ▸ hg) (by rw [ho]; simp only [pop, hc, ha, hb]; rw [if_neg (by rw [he]; decide)]) trivial h
theorem k_ {d : Nat} {g0 : Bool} (hd : o.dst = some d) (hN : Nat.blt d N = true) (hg : gdv ds T o.guard = some g0) (h : awOps P ti N ds K rest ((d, .undef) :: T) L) (hg1 : g0 = false := by first | rfl | exact beq_tf (by first | assumption | exact not_f (by assumption)) | exact beq_ft (by first | assumption | exact not_t (by assumption))) : awOps P ti N ds K (o :: rest) T L := st_skip hd hN (hg1 ▸ hg) h
theorem k0_ {g0 : Bool} (hd : o.dst = none) (hg : gdv ds T o.guard = some g0) (h : awOps P ti N ds K rest T L) (hg1 : g0 = false := by first | rfl | exact beq_tf (by first | assumption | exact not_f (by assumption)) | exact beq_ft (by first | assumption | exact not_t (by assumption))) : awOps P ti N ds K (o :: rest) T L := st_skip0 hd (hg1 ▸ hg) h
theorem aw_condT {Q : AX → Tm → List Ob → Prop} {c : Operand} {x y : Code} {b : Bool} (hc : look T c = some (.one (.c (.bool b)))) (h : Aw P N n0 x Q T L) (hb : b = true := by first | rfl | assumption | exact not_t (by assumption)) : Aw P N n0 (.cond c x y) Q T L := aw_cond hc (fun _ => h) (fun e => by rw [hb] at e; cases e)
theorem aw_condF {Q : AX → Tm → List Ob → Prop} {c : Operand} {x y : Code} {b : Bool} (hc : look T c = some (.one (.c (.bool b)))) (h : Aw P N n0 y Q T L) (hb : b = false := by first | rfl | assumption | exact not_f (by assumption)) : Aw P N n0 (.cond c x y) Q T L := aw_cond hc (fun e => by rw [hb] at e; cases e) (fun _ => h)
end
/-- The walk, to the end. -/
theorem go_ {p : Prop} (h : p := by
  repeat' (first
    | refine p_ rfl rfl rfl rfl rfl ?_ | refine st_nil ?_ | refine x_ rfl rfl rfl rfl rfl rfl rfl rfl ?_ | refine l_ rfl rfl rfl rfl ?_ | refine s_ rfl rfl rfl ?_ | refine t_ rfl rfl rfl rfl ?_ | refine k_ rfl rfl rfl ?_ | refine k0_ rfl rfl ?_ | refine c_ rfl rfl rfl rfl ?_ | refine pick_t rfl rfl rfl rfl rfl rfl rfl ?_ | refine pick_f rfl rfl rfl rfl rfl rfl rfl ?_ | refine aw_seq ?_ | refine aw_region tab_ok _ rfl ?_ | refine aw_drawn2 tabS_ok _ rfl mixed (by decide +kernel) ?_ | refine aw_condT rfl ?_ | refine aw_condF rfl ?_ | refine aw_block ?_ | refine aw_exit ?_ | refine aw_ret ?_ | refine aw_skip ?_ | rw [List.length_map] | rw [mn_norm] | rw [mx_norm])
  refine end_ret (res_of rfl ?_ ?_)
  · repeat' (first | exact trivial | rfl | exact Nat.le_of_ble_eq_true rfl | omega | apply And.intro)
  · first | rfl | (simp only [List.map_append, List.map_cons, List.map_nil, List.nil_append] <;> rfl)) : p := h
end Go.Proofs.YtnbnpnmkgemdeaaGreatDoor

namespace Go.Proofs.YtnbnpnmkgemdeaaGreatDoor
open Go.RowKit Go.MapKept
set_option linter.unusedVariables false
/-- A fold that may stop or fail. -/
def foldS {α σ ρ : Type} (f : σ → α → Option (Sum σ ρ)) : σ → List α → Option (Sum σ ρ)
  | s, [] => some (.inl s)
  | s, x :: l => match f s x with
    | none => none
    | some (.inl s') => foldS f s' l
    | some (.inr r) => some (.inr r)
section
variable {α σ ρ S : Type} {l : List α} {body : S → Option (Step S ρ)}
def foldR (mk : σ → Int → S) (n : Nat) : Option (Sum σ ρ) → Option (Sum S ρ)
  | none => none
  | some (.inl s') => some (.inl (mk s' n))
  | some (.inr r) => some (.inr r)
def foldN (mk : σ → Int → S) (i : Nat) : Option (Sum σ ρ) → Option (Step S ρ)
  | none => none
  | some (.inl s') => some (.next (mk s' (i : Nat)))
  | some (.inr r) => some (.ret r)
theorem loop_at (mk : σ → Int → S) (f : σ → α → Option (Sum σ ρ)) (h1 : ∀ (s : σ) (i : Nat) x, l[i]? = some x → body (mk s i) = foldN mk (i + 1) (f s x)) (h2 : ∀ s, body (mk s l.length) = some (.exit (mk s l.length))) :
    ∀ (n i : Nat) (s : σ), i ≤ l.length → l.length - i < n → loopM body n (mk s i) = foldR mk l.length (foldS f s (l.drop i))
  | 0, i, s, _, h => by omega
  | n + 1, i, s, hi, hn => by
    rw [loopM]
    by_cases hlt : i < l.length
    · obtain ⟨x, hx⟩ := get_of_lt hlt
      have e1 := (List.getElem?_eq_some_iff.1 hx).2
      rw [h1 s i x hx, List.drop_eq_getElem_cons hlt, e1, foldS]
      cases hf : f s x with
      | none => rfl
      | some st => cases st with
        | inl s' => exact loop_at mk f h1 h2 n (i + 1) s' (by omega) (by omega)
        | inr r => rfl
    · have : i = l.length := by omega
      subst this
      rw [h2, List.drop_length]
      rfl
theorem loop_list (mk : σ → Int → S) (f : σ → α → Option (Sum σ ρ)) (h1 : ∀ (s : σ) (i : Nat) x, l[i]? = some x → body (mk s i) = foldN mk (i + 1) (f s x)) (h2 : ∀ s, body (mk s l.length) = some (.exit (mk s l.length))) (hl : l.length < fuel) (s : σ) :
    loopM body fuel (mk s 0) = foldR mk l.length (foldS f s l) := loop_at mk f h1 h2 fuel 0 s (Nat.zero_le _) (by omega)
end
theorem getI_nat {α : Type} {l : List α} {i : Nat} {x : α} (h : l[i]? = some x) : getI l (i : Int) = some x := by
  unfold getI; rw [if_pos (by omega)]; exact h
theorem lt_dec {α : Type} {l : List α} {i : Nat} {x : α} (h : l[i]? = some x) : decide ((i : Int) < (l.length : Nat)) = true := by
  have := (List.getElem?_eq_some_iff.1 h).1; simp; exact this
theorem lt_decF (n : Nat) : decide ((n : Int) < (n : Nat)) = false := by simp
theorem wrapN {i : Nat} (h : i ≤ 4611686018427387904) : IntKind.i64.wrap ((i : Int) + 1) = ((i + 1 : Nat) : Int) := wrap_eq (by omega) (by omega)

end Go.Proofs.YtnbnpnmkgemdeaaGreatDoor
