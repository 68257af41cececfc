/- Parts of the proof, joined. No condition. -/
import Derived.Test.YtnbnpnmkgemdeaaGreatDoorKAK
import Derived.Test.YtnbnpnmkgemdeaaGreatDoorKAI
set_option linter.unusedSimpArgs false
set_option linter.unusedVariables false
namespace Go.Proofs.YtnbnpnmkgemdeaaGreatDoor
open Go.RowKit Go.MapKept
set_option linter.unusedVariables false
structure Cla where
  kind : Int
  lo : Int
  hi : Int
def cCla (x : Cla) : List AC := [.int .i64 x.kind, .int .i64 x.lo, .int .i64 x.hi]
structure Val where
  kind : Int
  int : Int
  text : ByteArray
def cV (x : Val) : List AC := [.int .i64 x.kind, .int .i64 x.int, .str x.text]
structure Per where
  lo : Int
  hi : Int
def cPer (x : Per) : List AC := [.int .i64 x.lo, .int .i64 x.hi]
structure Ver where
  id : Int
  schema : Int
  row : (List Val)
  valid : Per
  system : Per
  by_ : Int
  til : Int
def cVer (x : Ver) : List AC := [.int .i64 x.id, .int .i64 x.schema, .lst (x.row.map cV), .int .i64 x.valid.lo, .int .i64 x.valid.hi, .int .i64 x.system.lo, .int .i64 x.system.hi, .int .i64 x.by_, .int .i64 x.til]
inductive Ex where
  | mk (op : Int) (int : Int) (v : Val) (nm : ByteArray) (args : (List Ex))
mutual
def tE : Ex → List AC
  | .mk op int v nm args => [.int .i64 op, .int .i64 int, .int .i64 v.kind, .int .i64 v.int, .str v.text, .str nm, .lst (tEs args)]
def tEs : List Ex → List (List AC)
  | [] => []
  | e :: l => tE e :: tEs l
end
theorem tEs_map : ∀ (l : List Ex), tEs l = l.map tE
  | [] => by simp [tEs]
  | e :: l => by simp [tEs, tEs_map l]
def Ex.op : Ex → Int | .mk a _ _ _ _ => a
def Ex.int : Ex → Int | .mk _ a _ _ _ => a
def Ex.v : Ex → Val | .mk _ _ a _ _ => a
def Ex.nm : Ex → ByteArray | .mk _ _ _ a _ => a
def Ex.args : Ex → (List Ex) | .mk _ _ _ _ a => a
theorem tE_eq (e : Ex) : tE e = [.int .i64 e.op, .int .i64 e.int, .int .i64 e.v.kind, .int .i64 e.v.int, .str e.v.text, .str e.nm, .lst (e.args.map tE)] := by
  obtain ⟨_, _, _, _, _⟩ := e
  rw [tE, tEs_map]; rfl
theorem tE_len (e : Ex) : (tE e).length = 7 := by rw [tE_eq]; rfl
structure Ag where
  op : Int
  arg : Int
def cAg (x : Ag) : List AC := [.int .i64 x.op, .int .i64 x.arg]
inductive Pl where
  | mk (op : Int) (int : Int) (kinds : (List Int)) (rows : (List (List Val))) (pred : Ex) (exprs : (List Ex)) (keys : (List Int)) (aggs : (List Ag)) (inputs : (List Pl))
mutual
def tP : Pl → List AC
  | .mk op int kinds rows pred exprs keys aggs inputs => [.int .i64 op, .int .i64 int, .lst (kinds.map (fun x => [AC.int .i64 x])), .lst (rows.map (fun x => [AC.lst (x.map cV)]))] ++ tE pred ++ [.lst (exprs.map tE), .lst (keys.map (fun x => [AC.int .i64 x])), .lst (aggs.map cAg), .lst (tPs inputs)]
def tPs : List Pl → List (List AC)
  | [] => []
  | e :: l => tP e :: tPs l
end
theorem tPs_map : ∀ (l : List Pl), tPs l = l.map tP
  | [] => by simp [tPs]
  | e :: l => by simp [tPs, tPs_map l]
def Pl.op : Pl → Int | .mk a _ _ _ _ _ _ _ _ => a
def Pl.int : Pl → Int | .mk _ a _ _ _ _ _ _ _ => a
def Pl.kinds : Pl → (List Int) | .mk _ _ a _ _ _ _ _ _ => a
def Pl.rows : Pl → (List (List Val)) | .mk _ _ _ a _ _ _ _ _ => a
def Pl.pred : Pl → Ex | .mk _ _ _ _ a _ _ _ _ => a
def Pl.exprs : Pl → (List Ex) | .mk _ _ _ _ _ a _ _ _ => a
def Pl.keys : Pl → (List Int) | .mk _ _ _ _ _ _ a _ _ => a
def Pl.aggs : Pl → (List Ag) | .mk _ _ _ _ _ _ _ a _ => a
def Pl.inputs : Pl → (List Pl) | .mk _ _ _ _ _ _ _ _ a => a
theorem tP_eq (e : Pl) : tP e = [.int .i64 e.op, .int .i64 e.int, .lst (e.kinds.map (fun x => [AC.int .i64 x])), .lst (e.rows.map (fun x => [AC.lst (x.map cV)])), .int .i64 e.pred.op, .int .i64 e.pred.int, .int .i64 e.pred.v.kind, .int .i64 e.pred.v.int, .str e.pred.v.text, .str e.pred.nm, .lst (e.pred.args.map tE), .lst (e.exprs.map tE), .lst (e.keys.map (fun x => [AC.int .i64 x])), .lst (e.aggs.map cAg), .lst (e.inputs.map tP)] := by
  obtain ⟨_, _, _, _, ⟨_, _, _, _, _⟩, _, _, _, _⟩ := e
  rw [tP, tPs_map, tE, tEs_map]; rfl
theorem tP_len (e : Pl) : (tP e).length = 15 := by rw [tP_eq]; rfl
structure Fct where
  row : (List Val)
  valid : Per
def cFct (x : Fct) : List AC := [.lst (x.row.map cV), .int .i64 x.valid.lo, .int .i64 x.valid.hi]
structure Stp where
  lo : Int
  n : Int
def cStp (x : Stp) : List AC := [.int .i64 x.lo, .int .i64 x.n]
structure SGroup where
  row : (List Val)
  steps : (List Stp)
def cSGroup (x : SGroup) : List AC := [.lst (x.row.map cV), .lst (x.steps.map cStp)]
structure SGroupcoalesce where
  row : (List Val)
  periods : (List Per)
def cSGroupcoalesce (x : SGroupcoalesce) : List AC := [.lst (x.row.map cV), .lst (x.periods.map cPer)]
structure Cnt where
  period : Per
  n : Int
def cCnt (x : Cnt) : List AC := [.int .i64 x.period.lo, .int .i64 x.period.hi, .int .i64 x.n]
structure Ord where
  column : Int
  desc : Bool
def cOrd (x : Ord) : List AC := [.int .i64 x.column, .bool x.desc]
end Go.Proofs.YtnbnpnmkgemdeaaGreatDoor
namespace Go.Proofs.YtnbnpnmkgemdeaaGreatDoor
open Go.RowKit Go.MapKept
set_option linter.unusedVariables false

inductive Step (σ ρ : Type) where
  | next (s : σ)
  | exit (s : σ)
  | ret (r : ρ)
def loopM {σ ρ : Type} (body : σ → Option (Step σ ρ)) : Nat → σ → Option (Sum σ ρ)
  | 0, _ => none
  | n + 1, s => match body s with
    | none => none
    | some (.next s') => loopM body n s'
    | some (.exit s') => some (.inl s')
    | some (.ret r) => some (.inr r)
def fuel : Nat := 4611686018427387904
def getI {α : Type} (l : List α) (i : Int) : Option α := if 0 ≤ i then l[i.toNat]? else none
def subI {α : Type} (l : List α) (a b : Int) : Option (List α) := if 0 ≤ a ∧ a ≤ b ∧ b ≤ (l.length : Nat) then some ((l.take b.toNat).drop a.toNat) else none
theorem bind_some {α β : Type} {x : Option α} {f : α → Option β} {r : β} (h : x.bind f = some r) : ∃ a, x = some a ∧ f a = some r := by
  cases x with
  | none => cases h
  | some a => exact ⟨a, rfl, h⟩
theorem getI_some {α : Type} {l : List α} {i : Int} {x : α} (h : getI l i = some x) : 0 ≤ i ∧ l[i.toNat]? = some x := by
  unfold getI at h
  by_cases h0 : 0 ≤ i
  · rw [if_pos h0] at h; exact ⟨h0, h⟩
  · rw [if_neg h0] at h; cases h
theorem subI_some {α : Type} {l r : List α} {a b : Int} (h : subI l a b = some r) : (0 ≤ a ∧ a ≤ b ∧ b ≤ (l.length : Nat)) ∧ r = (l.take b.toNat).drop a.toNat := by
  unfold subI at h
  by_cases h0 : 0 ≤ a ∧ a ≤ b ∧ b ≤ (l.length : Nat)
  · rw [if_pos h0] at h; exact ⟨h0, (Option.some.inj h).symm⟩
  · rw [if_neg h0] at h; cases h
theorem grd_some {c : Bool} {β : Type} {x : Option β} {r : β} (h : (bif c then x else none) = some r) : c = true ∧ x = some r := by
  cases c with
  | true => exact ⟨rfl, h⟩
  | false => cases h
theorem idxI {α : Type} {l : List α} {f : α → List AC} {i : Int} {x : α} (h : l[i.toNat]? = some x) : (l.map f)[i.toNat]? = some (f x) := by rw [List.getElem?_map, h]; rfl
theorem wideI {α : Type} {f : α → List AC} {k : Nat} (hf : ∀ x, (f x).length = k) (l : List α) : ∀ e ∈ l.map f, e.length = k := by
  intro e he; simp only [List.mem_map] at he; obtain ⟨x, _, rfl⟩ := he; exact hf x
section
variable {P : Program} {ti : TI} {N n0 : Nat} {Q : AX → Tm → List Ob → Prop} {T : Tm} {L : List Ob}
@[reducible] def After {σ ρ γ : Type} (K : Sum σ ρ → Option γ) (r : γ) : Step σ ρ → Prop
  | .next _ => True
  | .exit s => K (.inl s) = some r
  | .ret q => K (.inr q) = some r
theorem aw_loopM {σ ρ γ : Type} {c : Code} {body : σ → Option (Step σ ρ)} {K : Sum σ ρ → Option γ} {r : γ} {s0 : σ} (TT : σ → Tm) (LL : σ → List Ob) (h : (loopM body fuel s0).bind K = some r) (hn1 : ∀ s, n0 ≤ (LL s).length) (hf : Fits T L (TT s0) (LL s0))
    (round : ∀ s st, body s = some st → After K r st → Aw P N n0 c (AX.then (fun T' L' => ∃ s', st = .next s' ∧ Fits T' L' (TT s') (LL s')) Q) (TT s) (LL s)) : Aw P N n0 (.loop c) Q T L := by
  refine aw_loop (fun s : Nat × σ => TT s.2) (fun s => LL s.2) (fun s => (loopM body s.1 s.2).bind K = some r) (fun s => s.1) (fuel, s0) h (fun s _ => hn1 s.2) hf ?_
  rintro ⟨n, s⟩ hok
  dsimp only at hok ⊢
  cases n with
  | zero => cases hok
  | succ n =>
    rw [loopM] at hok
    cases hb : body s with
    | none => rw [hb] at hok; cases hok
    | some st =>
      rw [hb] at hok
      refine Aw.mono (round s st hb ?_) ?_
      · cases st with
        | next s' => trivial
        | exit s' => exact hok
        | ret q => exact hok
      · intro x T' L' hq
        cases x with
        | normal =>
          obtain ⟨s', rfl, hfit⟩ := hq
          exact ⟨(n, s'), hok, Nat.lt_succ_self n, hfit⟩
        | exit id => exact hq
        | ret => exact hq
end
def mnI (a b : Int) : Int := if b < a then b else a
def mxI (a b : Int) : Int := if b > a then b else a
theorem mn_norm (a b : Int) : (if false = true then (if b > a then b else a) else (if b < a then b else a)) = mnI a b := rfl
theorem mx_norm (a b : Int) : (if true = true then (if b > a then b else a) else (if b < a then b else a)) = mxI a b := rfl
theorem subE {α : Type} {f : α → List AC} {l r : List α} {a b : Int} (h : r = (l.take b.toNat).drop a.toNat) : ((l.map f).take b.toNat).drop a.toNat = r.map f := by rw [h, ← List.map_take, ← List.map_drop]
def belowS (n : Nat) : SV → Bool
  | .c _ => true
  | .emp => true
  | .own _ t => Nat.blt t n
  | .ptr id _ => Nat.blt id n
  | _ => false
def belowC (n : Nat) : List SV → Bool
  | [] => true
  | x :: l => and (belowS n x) (belowC n l)
theorem belowS_of {n : Nat} {x : SV} (h : belowS n x = true) : x.below n := by
  cases x with
  | c _ => trivial
  | emp => trivial
  | own _ t => exact Nat.le_of_ble_eq_true h
  | ptr id _ => exact Nat.le_of_ble_eq_true h
  | sl => cases h
  | ep => cases h
  | mp => cases h
  | clo => cases h
theorem ob_below {n : Nat} : ∀ {cs : List SV}, belowC n cs = true → (Ob.box cs).below n
  | [], _ => fun x hx => by cases hx
  | c :: cs, h => fun x hx => by
    rw [belowC, Bool.and_eq_true] at h
    rcases List.mem_cons.1 hx with rfl | hx
    · exact belowS_of h.1
    · exact ob_below h.2 x hx
section
variable {P : Program} {ti : TI} {N n0 : Nat} {ds : List (Option Tmp)} {K : Tm → List Ob → Prop} {rest : List Oper} {o : Oper} {T : Tm} {L : List Ob}
theorem beq_tt {b : Bool} (h : b = true) : (b == true) = true := by rw [h]; rfl
theorem beq_ff {b : Bool} (h : b = false) : (b == false) = true := by rw [h]; rfl
theorem beq_tf {b : Bool} (h : b = false) : (b == true) = false := by rw [h]; rfl
theorem beq_ft {b : Bool} (h : b = true) : (b == false) = false := by rw [h]; rfl
theorem not_t {e : Bool} (h : e = false) : (!e) = true := by rw [h]; rfl
theorem not_f {e : Bool} (h : e = true) : (!e) = false := by rw [h]; rfl
def isPick : Op → Bool
  | .pick _ _ _ => true
  | _ => false
theorem p_ {v : AV} {φ : Prop} {d : Nat} (_ : isPick o.op = false) (hd : o.dst = some d) (hN : Nat.blt d N = true) {g0 : Bool} (hg : gdv ds T o.guard = some g0) (hp : pop ti (look T) L o.op = some (v, φ)) (h : awOps P ti N ds K rest ((d, v) :: T) L)
    (hφ : φ := by repeat' (first | exact trivial | rfl | exact Nat.le_of_ble_eq_true rfl | omega | assumption | exact wideI (by intro _; rfl) _ | exact wideI tE_len _ | exact wideI tP_len _ | (intro e he; simp at he; subst he; rfl) | (simp only [List.length_map]; omega) | apply And.intro)) (hg1 : g0 = true := by first | rfl | exact beq_tt (by first | assumption | exact not_t (by assumption)) | exact beq_ff (by first | assumption | exact not_f (by assumption))) : awOps P ti N ds K (o :: rest) T L := st_pop hd hN (hg1 ▸ hg) hp hφ h
theorem l_ {v : AV} {L' : List Ob} {φ : Prop} {d : Nat} (hd : o.dst = some d) (hN : Nat.blt d N = true) {g0 : Bool} (hg : gdv ds T o.guard = some g0) (hp : lop ti (look T) L o.op = some (v, L', φ)) (h : awOps P ti N ds K rest ((d, v) :: T) L')
    (hφ : φ := by repeat' (first | exact trivial | rfl | exact Nat.le_of_ble_eq_true rfl | omega | exact wideI (by intro _; rfl) _ | exact wideI tE_len _ | exact wideI tP_len _ | (intro e he; simp at he; subst he; rfl) | exact List.length_map _ | (simp only [List.length_map, List.length_append, List.length_cons, List.length_nil, Nat.zero_add]; omega) | apply And.intro)) (hg1 : g0 = true := by first | rfl | exact beq_tt (by first | assumption | exact not_t (by assumption)) | exact beq_ff (by first | assumption | exact not_f (by assumption))) : awOps P ti N ds K (o :: rest) T L := st_lop hd hN (hg1 ▸ hg) hp hφ h
theorem s_ {v : AV} {L' : List Ob} {φ : Prop} (hd : o.dst = none) {g0 : Bool} (hg : gdv ds T o.guard = some g0) (hp : lop ti (look T) L o.op = some (v, L', φ)) (h : awOps P ti N ds K rest T L') (hφ : φ := by repeat' (first | exact trivial | rfl | exact Nat.le_of_ble_eq_true rfl | omega | apply And.intro)) (hg1 : g0 = true := by first | rfl | exact beq_tt (by first | assumption | exact not_t (by assumption)) | exact beq_ff (by first | assumption | exact not_f (by assumption))) : awOps P ti N ds K (o :: rest) T L := st_store hd (hg1 ▸ hg) hp hφ h
theorem t_ {v : AV} {φ : Prop} {d : Nat} (hd : o.dst = some d) (hN : Nat.blt d N = true) {g0 : Bool} (hg : gdv ds T o.guard = some g0) (hp : litOp ti (look T) o.op = some (v, φ)) (h : awOps P ti N ds K rest ((d, v) :: T) L)
    (hφ : φ := by repeat' (first | exact trivial | rfl | exact Nat.le_of_ble_eq_true rfl | omega | (intro e he; simp at he; subst he; rfl) | (intro e he; simp at he; rcases he with rfl | rfl <;> rfl) | (intro e he; simp at he; rcases he with rfl | rfl | rfl <;> rfl) | (intro e he; simp at he; rcases he with rfl | rfl | rfl | rfl <;> rfl) | apply And.intro)) (hg1 : g0 = true := by first | rfl | exact beq_tt (by first | assumption | exact not_t (by assumption)) | exact beq_ff (by first | assumption | exact not_f (by assumption))) : awOps P ti N ds K (o :: rest) T L := st_lit hd hN (hg1 ▸ hg) hp hφ h
theorem c_ {g : FuncId} {ps : List PV} {r : CV} {d : Nat} {v : AV} (hd : o.dst = some d) (hN : Nat.blt d N = true) {g0 : Bool} (hg : gdv ds T o.guard = some g0) (hp : callOp (look T) o.op = some (g, ps)) (h : awOps P ti N ds K rest ((d, v) :: T) L) (hc : Pure P g ps r := by assumption) (hv : r.av = v := by rfl) (hg1 : g0 = true := by first | rfl | exact beq_tt (by first | assumption | exact not_t (by assumption)) | exact beq_ff (by first | assumption | exact not_f (by assumption))) : awOps P ti N ds K (o :: rest) T L := st_call hd hN (hg1 ▸ hg) hp hc hv h
theorem x_ {t : TypeId} {x ix : Operand} {vx : AV} {es : List (List AC)} {k0 : IntKind} {i : Int} {k d : Nat} {e : List AC} (hd : o.dst = some d) (hN : Nat.blt d N = true) {g0 : Bool} (hg : gdv ds T o.guard = some g0) (ho : o.op = .indexAddr t x ix) (hx : look T x = some vx) (hl : listOf vx = some es) (hi : look T ix = some (.one (.c (.int k0 i))))
    (hk : (ti.elem t).bind ti.size = some k) (h : awOps P ti N ds K rest ((d, .one (.c (.ref e))) :: T) L) (he : es[i.toNat]? = some e := by assumption) (h0 : 0 ≤ i := by assumption) (hl2 : e.length = k := by rfl) (hg1 : g0 = true := by first | rfl | exact beq_tt (by first | assumption | exact not_t (by assumption)) | exact beq_ff (by first | assumption | exact not_f (by assumption))) : awOps P ti N ds K (o :: rest) T L := st_idx hd hN (hg1 ▸ hg) ho hx hl hi hk he ⟨h0, hl2⟩ h
theorem pick_t {c a b : Operand} {e : Bool} {va vb : AV} {d : Nat} (hd : o.dst = some d) (hN : Nat.blt d N = true) {g0 : Bool} (hg : gdv ds T o.guard = some g0) (ho : o.op = .pick c a b) (hc : look T c = some (.one (.c (.bool e)))) (ha : look T a = some va) (hb : look T b = some vb) (h : awOps P ti N ds K rest ((d, va) :: T) L)
    (he : e = true := by first | rfl | assumption | exact not_t (by assumption)) (hg1 : g0 = true := by first | rfl | exact beq_tt (by first | assumption | exact not_t (by assumption)) | exact beq_ff (by first | assumption | exact not_f (by assumption))) : awOps P ti N ds K (o :: rest) T L := st_pop hd hN (hg1 ▸ hg) (by rw [ho]; simp only [pop, hc, ha, hb]; rw [if_pos he]) trivial h
theorem pick_f {c a b : Operand} {e : Bool} {va vb : AV} {d : Nat} (hd : o.dst = some d) (hN : Nat.blt d N = true) {g0 : Bool} (hg : gdv ds T o.guard = some g0) (ho : o.op = .pick c a b) (hc : look T c = some (.one (.c (.bool e)))) (ha : look T a = some va) (hb : look T b = some vb) (h : awOps P ti N ds K rest ((d, vb) :: T) L)
    (he : e = false := by first | rfl | assumption | exact not_f (by assumption)) (hg1 : g0 = true := by first | rfl | exact beq_tt (by first | assumption | exact not_t (by assumption)) | exact beq_ff (by first | assumption | exact not_f (by assumption))) : awOps P ti N ds K (o :: rest) T L := st_pop hd hN (hg1 ▸ hg) (by rw [ho]; simp only [pop, hc, ha, hb]; rw [if_neg (by rw [he]; decide)]) trivial h
theorem k_ {d : Nat} {g0 : Bool} (hd : o.dst = some d) (hN : Nat.blt d N = true) (hg : gdv ds T o.guard = some g0) (h : awOps P ti N ds K rest ((d, .undef) :: T) L) (hg1 : g0 = false := by first | rfl | exact beq_tf (by first | assumption | exact not_f (by assumption)) | exact beq_ft (by first | assumption | exact not_t (by assumption))) : awOps P ti N ds K (o :: rest) T L := st_skip hd hN (hg1 ▸ hg) h
theorem k0_ {g0 : Bool} (hd : o.dst = none) (hg : gdv ds T o.guard = some g0) (h : awOps P ti N ds K rest T L) (hg1 : g0 = false := by first | rfl | exact beq_tf (by first | assumption | exact not_f (by assumption)) | exact beq_ft (by first | assumption | exact not_t (by assumption))) : awOps P ti N ds K (o :: rest) T L := st_skip0 hd (hg1 ▸ hg) h
theorem aw_condT {Q : AX → Tm → List Ob → Prop} {c : Operand} {x y : Code} {b : Bool} (hc : look T c = some (.one (.c (.bool b)))) (h : Aw P N n0 x Q T L) (hb : b = true := by first | rfl | assumption | exact not_t (by assumption)) : Aw P N n0 (.cond c x y) Q T L := aw_cond hc (fun _ => h) (fun e => by rw [hb] at e; cases e)
theorem aw_condF {Q : AX → Tm → List Ob → Prop} {c : Operand} {x y : Code} {b : Bool} (hc : look T c = some (.one (.c (.bool b)))) (h : Aw P N n0 y Q T L) (hb : b = false := by first | rfl | assumption | exact not_f (by assumption)) : Aw P N n0 (.cond c x y) Q T L := aw_cond hc (fun e => by rw [hb] at e; cases e) (fun _ => h)
end
theorem go_ {p : Prop} (h : p := by
  repeat' (first
    | refine p_ rfl rfl rfl rfl rfl ?_ | refine st_nil ?_ | refine x_ rfl rfl rfl rfl rfl rfl rfl rfl ?_ | refine l_ rfl rfl rfl rfl ?_ | refine s_ rfl rfl rfl ?_ | refine t_ rfl rfl rfl rfl ?_ | refine k_ rfl rfl rfl ?_ | refine k0_ rfl rfl ?_ | refine c_ rfl rfl rfl rfl ?_ | refine pick_t rfl rfl rfl rfl rfl rfl rfl ?_ | refine pick_f rfl rfl rfl rfl rfl rfl rfl ?_ | refine aw_seq ?_ | refine aw_region tab_ok _ rfl ?_ | refine aw_drawn2 tabS_ok _ rfl mixed (by decide +kernel) ?_ | refine aw_condT rfl ?_ | refine aw_condF rfl ?_ | refine aw_block ?_ | refine aw_exit ?_ | refine aw_ret ?_ | refine aw_skip ?_ | rw [List.length_map] | rw [mn_norm] | rw [mx_norm])
  refine end_ret (res_of rfl ?_ ?_)
  · repeat' (first | exact trivial | rfl | exact Nat.le_of_ble_eq_true rfl | omega | apply And.intro)
  · first | rfl | (simp only [List.map_append, List.map_cons, List.map_nil, List.nil_append] <;> rfl)) : p := h
end Go.Proofs.YtnbnpnmkgemdeaaGreatDoor
namespace Go.Proofs.YtnbnpnmkgemdeaaGreatDoor
open Go.RowKit Go.MapKept
set_option linter.unusedVariables false
def foldS {α σ ρ : Type} (f : σ → α → Option (Sum σ ρ)) : σ → List α → Option (Sum σ ρ)
  | s, [] => some (.inl s)
  | s, x :: l => match f s x with
    | none => none
    | some (.inl s') => foldS f s' l
    | some (.inr r) => some (.inr r)
section
variable {α σ ρ S : Type} {l : List α} {body : S → Option (Step S ρ)}
def foldR (mk : σ → Int → S) (n : Nat) : Option (Sum σ ρ) → Option (Sum S ρ)
  | none => none
  | some (.inl s') => some (.inl (mk s' n))
  | some (.inr r) => some (.inr r)
def foldN (mk : σ → Int → S) (i : Nat) : Option (Sum σ ρ) → Option (Step S ρ)
  | none => none
  | some (.inl s') => some (.next (mk s' (i : Nat)))
  | some (.inr r) => some (.ret r)
theorem loop_at (mk : σ → Int → S) (f : σ → α → Option (Sum σ ρ)) (h1 : ∀ (s : σ) (i : Nat) x, l[i]? = some x → body (mk s i) = foldN mk (i + 1) (f s x)) (h2 : ∀ s, body (mk s l.length) = some (.exit (mk s l.length))) :
    ∀ (n i : Nat) (s : σ), i ≤ l.length → l.length - i < n → loopM body n (mk s i) = foldR mk l.length (foldS f s (l.drop i))
  | 0, i, s, _, h => by omega
  | n + 1, i, s, hi, hn => by
    rw [loopM]
    by_cases hlt : i < l.length
    · obtain ⟨x, hx⟩ := get_of_lt hlt
      have e1 := (List.getElem?_eq_some_iff.1 hx).2
      rw [h1 s i x hx, List.drop_eq_getElem_cons hlt, e1, foldS]
      cases hf : f s x with
      | none => rfl
      | some st => cases st with
        | inl s' => exact loop_at mk f h1 h2 n (i + 1) s' (by omega) (by omega)
        | inr r => rfl
    · have : i = l.length := by omega
      subst this
      rw [h2, List.drop_length]
      rfl
theorem loop_list (mk : σ → Int → S) (f : σ → α → Option (Sum σ ρ)) (h1 : ∀ (s : σ) (i : Nat) x, l[i]? = some x → body (mk s i) = foldN mk (i + 1) (f s x)) (h2 : ∀ s, body (mk s l.length) = some (.exit (mk s l.length))) (hl : l.length < fuel) (s : σ) :
    loopM body fuel (mk s 0) = foldR mk l.length (foldS f s l) := loop_at mk f h1 h2 fuel 0 s (Nat.zero_le _) (by omega)
end
theorem getI_nat {α : Type} {l : List α} {i : Nat} {x : α} (h : l[i]? = some x) : getI l (i : Int) = some x := by
  unfold getI; rw [if_pos (by omega)]; exact h
theorem lt_dec {α : Type} {l : List α} {i : Nat} {x : α} (h : l[i]? = some x) : decide ((i : Int) < (l.length : Nat)) = true := by
  have := (List.getElem?_eq_some_iff.1 h).1; simp; exact this
theorem lt_decF (n : Nat) : decide ((n : Int) < (n : Nat)) = false := by simp
theorem wrapN {i : Nat} (h : i ≤ 4611686018427387904) : IntKind.i64.wrap ((i : Int) + 1) = ((i + 1 : Nat) : Int) := wrap_eq (by omega) (by omega)

end Go.Proofs.YtnbnpnmkgemdeaaGreatDoor
namespace Go.Proofs.YtnbnpnmkgemdeaaGreatDoor
open Go.RowKit Go.MapKept
set_option maxRecDepth 100000
set_option maxHeartbeats 8000000
set_option linter.unusedVariables false
set_option linter.unusedSimpArgs false
def icmp (x y : Int) : Int := if x < y then -1 else if y < x then 1 else 0
def vcmp (v w : Val) : Int := if icmp v.kind w.kind ≠ 0 then icmp v.kind w.kind else if icmp v.int w.int ≠ 0 then icmp v.int w.int else scmp v.text w.text
def rcmp : List Val → List Val → Int
  | [], [] => 0
  | [], _ :: _ => -1
  | _ :: _, [] => 1
  | a :: xs, b :: ys => if vcmp a b ≠ 0 then vcmp a b else rcmp xs ys
def tRow (l : List Val) : AC := .lst (l.map cV)
theorem scmp_pure (a b : ByteArray) : Pure Tryz.prog 151 [.one (.str a), .one (.str b)] (.val (.one (.int .i64 (scmp a b)))) := (evF_ok cx_ok 8).1 _ _ _ (by kernel_rfl)
def gIsNaN (a_x : Int) : Option (Bool) := some (decide (a_x ≠ a_x))
theorem gIsNaN_ok {a_x : Int} {r : Bool} (H : gIsNaN a_x = some r) : Pure Tryz.prog 144 [.one (.int .i64 a_x)] (.val (.one (.bool r))) := by
  unfold gIsNaN at H
  refine pure_of_aw tab_ok Tryz.func144 rfl rfl Tryz.ntmps144 (by simp) ?_
  simp only [argT, PV.av, List.map_cons, List.map_nil]
  obtain rfl := Option.some.inj H
  exact go_
def gICmp (a_x : Int) (a_y : Int) : Option (Int) := (gIsNaN a_x).bind fun r_1 => (gIsNaN a_y).bind fun r_2 => bif r_1 then
  bif r_2 then
    some (0 : Int)
  else
    some (-1 : Int)
 else
  bif r_2 then
    some (1 : Int)
  else
    bif (decide (a_x < a_y)) then
      some (-1 : Int)
    else
      bif (decide (a_y < a_x)) then
        some (1 : Int)
      else
        some (0 : Int)
theorem gICmp_ok {a_x : Int} {a_y : Int} {r : Int} (H : gICmp a_x a_y = some r) : Pure Tryz.prog 101 [.one (.int .i64 a_x), .one (.int .i64 a_y)] (.val (.one (.int .i64 r))) := by
  unfold gICmp at H
  refine pure_of_aw tab_ok Tryz.func101 rfl rfl Tryz.ntmps101 (by simp) ?_
  simp only [argT, PV.av, List.map_cons, List.map_nil]
  obtain ⟨r_1, c1, H⟩ := bind_some H
  replace c1 := gIsNaN_ok c1
  try simp only [List.map_append, List.map_cons, List.map_nil, List.nil_append, tE_eq, tP_eq] at c1
  obtain ⟨r_2, c2, H⟩ := bind_some H
  replace c2 := gIsNaN_ok c2
  try simp only [List.map_append, List.map_cons, List.map_nil, List.nil_append, tE_eq, tP_eq] at c2
  rcases Bool.eq_false_or_eq_true r_1 with q_3 | q_3
  · rw [q_3, cond_true] at H
    rcases Bool.eq_false_or_eq_true r_2 with q_4 | q_4
    · rw [q_4, cond_true] at H
      obtain rfl := Option.some.inj H
      exact go_
    · rw [q_4, cond_false] at H
      obtain rfl := Option.some.inj H
      exact go_
  · rw [q_3, cond_false] at H
    rcases Bool.eq_false_or_eq_true r_2 with q_5 | q_5
    · rw [q_5, cond_true] at H
      obtain rfl := Option.some.inj H
      exact go_
    · rw [q_5, cond_false] at H
      rcases Bool.eq_false_or_eq_true (decide (a_x < a_y)) with q_6 | q_6
      · rw [q_6, cond_true] at H
        obtain rfl := Option.some.inj H
        exact go_
      · rw [q_6, cond_false] at H
        rcases Bool.eq_false_or_eq_true (decide (a_y < a_x)) with q_7 | q_7
        · rw [q_7, cond_true] at H
          obtain rfl := Option.some.inj H
          exact go_
        · rw [q_7, cond_false] at H
          obtain rfl := Option.some.inj H
          exact go_
def gOr_B1 (a_vals : (List Int)) : (Int) → Option (Step (Int) (Int)) := fun s => match s with
  | v_1 => bif (decide (v_1 < ((a_vals.length : Nat) : Int))) then
    (getI a_vals v_1).bind fun x_3 => bif (decide (x_3 ≠ (0 : Int))) then
      some (.ret x_3)
    else
      some (.next (IntKind.i64.wrap (v_1 + (1 : Int))))
  else
    some (.exit v_1)
def gOr_K1 : Sum (Int) (Int) → Option ((Int))
  | .inl v_1 => some (0 : Int)
  | .inr q => some q
def gOr (a_vals : (List Int)) : Option (Int) := (loopM (gOr_B1 a_vals) fuel (0 : Int)).bind (gOr_K1)
theorem gOr_ok {a_vals : (List Int)} {r : Int} (H : gOr a_vals = some r) : Pure Tryz.prog 100 [.one (.lst (a_vals.map (fun x => [AC.int .i64 x])))] (.val (.one (.int .i64 r))) := by
  unfold gOr at H
  refine pure_of_aw tab_ok Tryz.func100 rfl rfl Tryz.ntmps100 (by simp) ?_
  simp only [argT, PV.av, List.map_cons, List.map_nil]
  repeat' (first | refine p_ rfl rfl rfl rfl rfl ?_ | refine st_nil ?_ | refine x_ rfl rfl rfl rfl rfl rfl rfl rfl ?_ | refine l_ rfl rfl rfl rfl ?_ | refine s_ rfl rfl rfl ?_ | refine t_ rfl rfl rfl rfl ?_ | refine k_ rfl rfl rfl ?_ | refine k0_ rfl rfl ?_ | refine c_ rfl rfl rfl rfl ?_ | refine pick_t rfl rfl rfl rfl rfl rfl rfl ?_ | refine pick_f rfl rfl rfl rfl rfl rfl rfl ?_ | refine aw_seq ?_ | refine aw_region tab_ok _ rfl ?_ | refine aw_drawn2 tabS_ok _ rfl mixed (by decide +kernel) ?_ | refine aw_condT rfl ?_ | refine aw_condF rfl ?_ | refine aw_block ?_ | refine aw_exit ?_ | refine aw_ret ?_ | refine aw_skip ?_ | rw [List.length_map] | rw [mn_norm] | rw [mx_norm])
  refine aw_loopM (fun s : Int => match s with | v_1 => [(3, .one (.c (.int .i64 (0 : Int)))), (6, .one (.c (.lst (a_vals.map (fun x => [AC.int .i64 x]))))), (7, .one (.c (.int .i64 ((a_vals.length : Nat) : Int)))), (8, .one (.c (.int .i64 v_1)))]) (fun s => match s with | v_1 => []) H (fun _ => Nat.zero_le _)
    (fits_mk ⟨rfl, rfl, rfl, rfl, trivial⟩ [] rfl ⟨trivial, trivial, trivial, trivial, trivial⟩ trivial) ?_
  rintro v_1 st1 hb1 hk1
  unfold gOr_B1 at hb1
  dsimp only at hb1 ⊢
  rcases Bool.eq_false_or_eq_true (decide (v_1 < ((a_vals.length : Nat) : Int))) with q_2 | q_2
  · rw [q_2, cond_true] at hb1
    obtain ⟨x_3, i1, hb1⟩ := bind_some hb1
    obtain ⟨i1z, i1⟩ := getI_some i1
    have i1x := idxI (f := (fun x => [AC.int .i64 x])) i1
    rcases Bool.eq_false_or_eq_true (decide (x_3 ≠ (0 : Int))) with q_4 | q_4
    · rw [q_4, cond_true] at hb1
      obtain rfl := Option.some.inj hb1
      have hx1 : gOr_K1 (.inr x_3) = some _ := hk1
      unfold gOr_K1 at hx1
      dsimp only at hx1
      obtain rfl := Option.some.inj hx1
      exact go_
    · rw [q_4, cond_false] at hb1
      obtain rfl := Option.some.inj hb1
      repeat' (first | refine p_ rfl rfl rfl rfl rfl ?_ | refine st_nil ?_ | refine x_ rfl rfl rfl rfl rfl rfl rfl rfl ?_ | refine l_ rfl rfl rfl rfl ?_ | refine s_ rfl rfl rfl ?_ | refine t_ rfl rfl rfl rfl ?_ | refine k_ rfl rfl rfl ?_ | refine k0_ rfl rfl ?_ | refine c_ rfl rfl rfl rfl ?_ | refine pick_t rfl rfl rfl rfl rfl rfl rfl ?_ | refine pick_f rfl rfl rfl rfl rfl rfl rfl ?_ | refine aw_seq ?_ | refine aw_region tab_ok _ rfl ?_ | refine aw_drawn2 tabS_ok _ rfl mixed (by decide +kernel) ?_ | refine aw_condT rfl ?_ | refine aw_condF rfl ?_ | refine aw_block ?_ | refine aw_exit ?_ | refine aw_ret ?_ | refine aw_skip ?_ | rw [List.length_map] | rw [mn_norm] | rw [mx_norm])
      exact ⟨_, rfl, fits_mk ⟨rfl, rfl, rfl, rfl, trivial⟩ [] rfl ⟨trivial, trivial, trivial, trivial, trivial⟩ trivial⟩
  · rw [q_2, cond_false] at hb1
    obtain rfl := Option.some.inj hb1
    have hx1 : gOr_K1 (.inl v_1) = some _ := hk1
    unfold gOr_K1 at hx1
    dsimp only at hx1
    obtain rfl := Option.some.inj hx1
    exact go_
def gVCmp (a_a : Val) (a_b : Val) : Option (Int) := (gICmp a_a.kind a_b.kind).bind fun r_1 => (gICmp a_a.int a_b.int).bind fun r_2 => (gOr [r_1, r_2, (scmp a_a.text a_b.text)]).bind fun r_4 => some r_4
theorem gVCmp_ok {a_a : Val} {a_b : Val} {r : Int} (H : gVCmp a_a a_b = some r) : Pure Tryz.prog 108 [.agg (cV a_a), .agg (cV a_b)] (.val (.one (.int .i64 r))) := by
  unfold gVCmp at H
  refine pure_of_aw tab_ok Tryz.func108 rfl rfl Tryz.ntmps108 (by simp) ?_
  simp only [argT, PV.av, List.map_cons, List.map_nil]
  obtain ⟨r_1, c1, H⟩ := bind_some H
  replace c1 := gICmp_ok c1
  try simp only [List.map_append, List.map_cons, List.map_nil, List.nil_append, tE_eq, tP_eq] at c1
  obtain ⟨r_2, c2, H⟩ := bind_some H
  replace c2 := gICmp_ok c2
  try simp only [List.map_append, List.map_cons, List.map_nil, List.nil_append, tE_eq, tP_eq] at c2
  have hc_3 := scmp_pure a_a.text a_b.text
  try simp only [List.map_append, List.map_cons, List.map_nil, List.nil_append, tE_eq, tP_eq] at hc_3
  obtain ⟨r_4, c3, H⟩ := bind_some H
  replace c3 := gOr_ok c3
  try simp only [List.map_append, List.map_cons, List.map_nil, List.nil_append, tE_eq, tP_eq] at c3
  obtain rfl := Option.some.inj H
  exact go_
def gCmpFn_B1 (a_s1 : (List Val)) (a_s2 : (List Val)) (a_cmp : Val → Val → Option (Int)) : (Int) → Option (Step (Int) (Int)) := fun s => match s with
  | v_1 => bif (decide (v_1 < ((a_s1.length : Nat) : Int))) then
    (getI a_s1 v_1).bind fun x_3 => bif (decide (((a_s2.length : Nat) : Int) ≤ v_1)) then
      some (.ret (1 : Int))
    else
      (getI a_s2 v_1).bind fun x_5 => (a_cmp x_3 x_5).bind fun r_6 => bif (decide (r_6 ≠ (0 : Int))) then
        some (.ret r_6)
      else
        some (.next (IntKind.i64.wrap (v_1 + (1 : Int))))
  else
    some (.exit v_1)
def gCmpFn_K1 (a_s1 : (List Val)) (a_s2 : (List Val)) : Sum (Int) (Int) → Option ((Int))
  | .inl v_1 => bif (decide (((a_s1.length : Nat) : Int) < ((a_s2.length : Nat) : Int))) then
    some (-1 : Int)
  else
    some (0 : Int)
  | .inr q => some q
def gCmpFn (a_s1 : (List Val)) (a_s2 : (List Val)) (a_cmp : Val → Val → Option (Int)) : Option (Int) := (loopM (gCmpFn_B1 a_s1 a_s2 a_cmp) fuel (0 : Int)).bind (gCmpFn_K1 a_s1 a_s2)
theorem gCmpFn_ok {a_s1 : (List Val)} {a_s2 : (List Val)} {a_cmp : Val → Val → Option (Int)} {r : Int} {F_a_cmp : FuncId} {caps_a_cmp : List AC} (hf_a_cmp : ∀ (y0 : Val) (y1 : Val) (r : Int), a_cmp y0 y1 = some r → Pure Tryz.prog F_a_cmp ([.agg (cV y0), .agg (cV y1)] ++ caps_a_cmp.map .one) (.val (.one (.int .i64 r)))) (H : gCmpFn a_s1 a_s2 a_cmp = some r) : Pure Tryz.prog 107 [.one (.lst (a_s1.map cV)), .one (.lst (a_s2.map cV)), .one (.fn F_a_cmp caps_a_cmp)] (.val (.one (.int .i64 r))) := by
  unfold gCmpFn at H
  refine pure_of_aw tab_ok Tryz.func107 rfl rfl Tryz.ntmps107 (by simp) ?_
  simp only [argT, PV.av, List.map_cons, List.map_nil]
  repeat' (first | refine p_ rfl rfl rfl rfl rfl ?_ | refine st_nil ?_ | refine x_ rfl rfl rfl rfl rfl rfl rfl rfl ?_ | refine l_ rfl rfl rfl rfl ?_ | refine s_ rfl rfl rfl ?_ | refine t_ rfl rfl rfl rfl ?_ | refine k_ rfl rfl rfl ?_ | refine k0_ rfl rfl ?_ | refine c_ rfl rfl rfl rfl ?_ | refine pick_t rfl rfl rfl rfl rfl rfl rfl ?_ | refine pick_f rfl rfl rfl rfl rfl rfl rfl ?_ | refine aw_seq ?_ | refine aw_region tab_ok _ rfl ?_ | refine aw_drawn2 tabS_ok _ rfl mixed (by decide +kernel) ?_ | refine aw_condT rfl ?_ | refine aw_condF rfl ?_ | refine aw_block ?_ | refine aw_exit ?_ | refine aw_ret ?_ | refine aw_skip ?_ | rw [List.length_map] | rw [mn_norm] | rw [mx_norm])
  refine aw_loopM (fun s : Int => match s with | v_1 => [(0, .one (.c (.lst (a_s1.map cV)))), (1, .one (.c (.lst (a_s2.map cV)))), (2, .one (.c (.fn F_a_cmp caps_a_cmp))), (11, .one (.c (.lst (a_s1.map cV)))), (12, .one (.c (.int .i64 ((a_s1.length : Nat) : Int)))), (13, .one (.c (.int .i64 v_1)))]) (fun s => match s with | v_1 => []) H (fun _ => Nat.zero_le _)
    (fits_mk ⟨rfl, rfl, rfl, rfl, rfl, rfl, trivial⟩ [] rfl ⟨trivial, trivial, trivial, trivial, trivial, trivial, trivial⟩ trivial) ?_
  rintro v_1 st1 hb1 hk1
  unfold gCmpFn_B1 at hb1
  dsimp only at hb1 ⊢
  rcases Bool.eq_false_or_eq_true (decide (v_1 < ((a_s1.length : Nat) : Int))) with q_2 | q_2
  · rw [q_2, cond_true] at hb1
    obtain ⟨x_3, i1, hb1⟩ := bind_some hb1
    obtain ⟨i1z, i1⟩ := getI_some i1
    have i1x := idxI (f := cV) i1
    rcases Bool.eq_false_or_eq_true (decide (((a_s2.length : Nat) : Int) ≤ v_1)) with q_4 | q_4
    · rw [q_4, cond_true] at hb1
      obtain rfl := Option.some.inj hb1
      have hx1 : gCmpFn_K1 a_s1 a_s2 (.inr (1 : Int)) = some _ := hk1
      unfold gCmpFn_K1 at hx1
      dsimp only at hx1
      obtain rfl := Option.some.inj hx1
      exact go_
    · rw [q_4, cond_false] at hb1
      obtain ⟨x_5, i2, hb1⟩ := bind_some hb1
      obtain ⟨i2z, i2⟩ := getI_some i2
      have i2x := idxI (f := cV) i2
      obtain ⟨r_6, c3, hb1⟩ := bind_some hb1
      replace c3 := hf_a_cmp _ _ _ c3
      try simp only [List.map_append, List.map_cons, List.map_nil, List.nil_append, tE_eq, tP_eq] at c3
      rcases Bool.eq_false_or_eq_true (decide (r_6 ≠ (0 : Int))) with q_7 | q_7
      · rw [q_7, cond_true] at hb1
        obtain rfl := Option.some.inj hb1
        have hx1 : gCmpFn_K1 a_s1 a_s2 (.inr r_6) = some _ := hk1
        unfold gCmpFn_K1 at hx1
        dsimp only at hx1
        obtain rfl := Option.some.inj hx1
        exact go_
      · rw [q_7, cond_false] at hb1
        obtain rfl := Option.some.inj hb1
        repeat' (first | refine p_ rfl rfl rfl rfl rfl ?_ | refine st_nil ?_ | refine x_ rfl rfl rfl rfl rfl rfl rfl rfl ?_ | refine l_ rfl rfl rfl rfl ?_ | refine s_ rfl rfl rfl ?_ | refine t_ rfl rfl rfl rfl ?_ | refine k_ rfl rfl rfl ?_ | refine k0_ rfl rfl ?_ | refine c_ rfl rfl rfl rfl ?_ | refine pick_t rfl rfl rfl rfl rfl rfl rfl ?_ | refine pick_f rfl rfl rfl rfl rfl rfl rfl ?_ | refine aw_seq ?_ | refine aw_region tab_ok _ rfl ?_ | refine aw_drawn2 tabS_ok _ rfl mixed (by decide +kernel) ?_ | refine aw_condT rfl ?_ | refine aw_condF rfl ?_ | refine aw_block ?_ | refine aw_exit ?_ | refine aw_ret ?_ | refine aw_skip ?_ | rw [List.length_map] | rw [mn_norm] | rw [mx_norm])
        exact ⟨_, rfl, fits_mk ⟨rfl, rfl, rfl, rfl, rfl, rfl, trivial⟩ [_, _] rfl ⟨trivial, trivial, trivial, trivial, trivial, trivial, trivial⟩ trivial⟩
  · rw [q_2, cond_false] at hb1
    obtain rfl := Option.some.inj hb1
    have hx1 : gCmpFn_K1 a_s1 a_s2 (.inl v_1) = some _ := hk1
    unfold gCmpFn_K1 at hx1
    dsimp only at hx1
    rcases Bool.eq_false_or_eq_true (decide (((a_s1.length : Nat) : Int) < ((a_s2.length : Nat) : Int))) with q_8 | q_8
    · rw [q_8, cond_true] at hx1
      obtain rfl := Option.some.inj hx1
      exact go_
    · rw [q_8, cond_false] at hx1
      obtain rfl := Option.some.inj hx1
      exact go_
def gTCmp (a_a : (List Val)) (a_b : (List Val)) : Option (Int) := (gCmpFn a_a a_b (fun x0 x1 => gVCmp x0 x1)).bind fun r_1 => some r_1
theorem gTCmp_ok {a_a : (List Val)} {a_b : (List Val)} {r : Int} (H : gTCmp a_a a_b = some r) : Pure Tryz.prog 81 [.one (.lst (a_a.map cV)), .one (.lst (a_b.map cV))] (.val (.one (.int .i64 r))) := by
  unfold gTCmp at H
  refine pure_of_aw tab_ok Tryz.func81 rfl rfl Tryz.ntmps81 (by simp) ?_
  simp only [argT, PV.av, List.map_cons, List.map_nil]
  obtain ⟨r_1, c1, H⟩ := bind_some H
  replace c1 := gCmpFn_ok (F_a_cmp := 108) (caps_a_cmp := []) (fun x0 x1 r h => gVCmp_ok h) c1
  try simp only [List.map_append, List.map_cons, List.map_nil, List.nil_append, tE_eq, tP_eq] at c1
  obtain rfl := Option.some.inj H
  exact go_
end Go.Proofs.YtnbnpnmkgemdeaaGreatDoor
namespace Go.Proofs.YtnbnpnmkgemdeaaGreatDoor
open Go.RowKit Go.MapKept
set_option maxRecDepth 100000
theorem mem_below : ∀ {n : Nat} {L : List Ob}, belowL n L → ∀ x ∈ L, x.below n
  | _, _ :: _, h, x, hx => by
    rcases List.mem_cons.1 hx with rfl | hx
    · exact h.1
    · exact mem_below h.2 x hx
def gC (x : AC) : List SV := [.c x]
end Go.Proofs.YtnbnpnmkgemdeaaGreatDoor
namespace Go.Proofs.YtnbnpnmkgemdeaaGreatDoor
open Go.RowKit Go.MapKept
set_option maxRecDepth 100000
def tabXS : TI := { tabX with soft := true }
theorem tabXS_ok : TIok Tryz.prog tabXS := ⟨tabX_ok.size, tabX_ok.agg, tabX_ok.elem, tabX_ok.field, tabX_ok.zero, tabX_ok.bytes, tabX_ok.kind, tabX_ok.struct, tabX_ok.zok, tabX_ok.eqs⟩
theorem row_ren (σ : List Nat) (v k : Nat) (l : List AC) : (Ob.row v (l.map gC) k).ren σ = Ob.row v (l.map gC) k := by
  simp only [Ob.ren, List.map_map]; rfl
theorem j1 {L L' : List Ob} {v k : Nat} {l : List AC} (h : L.set 0 (Ob.row v (l.map gC) k) = L') : joinL [0] L [Ob.row v (l.map gC) k] = L' := by
  subst h
  simp [joinL, join, setAll, outIds, newIds, row_ren]
theorem args_below {n : Nat} {l : List AV} (h : belowT n (l.map fun x => (0, x))) : ∀ y ∈ l, y.below n := by
  induction l with
  | nil => intro y hy; cases hy
  | cons x l ih =>
    intro y hy
    rcases List.mem_cons.1 hy with rfl | hy
    · exact h.1
    · exact ih h.2 y hy
def vOf : List AC → Val
  | [.int _ k, .int _ n, .str t] => ⟨k, n, t⟩
  | _ => ⟨0, 0, ⟨#[]⟩⟩
def tcmp : AC → AC → Int
  | .lst a, .lst b => rcmp (a.map vOf) (b.map vOf)
  | _, _ => 0
theorem vOf_cV (l : List Val) : (l.map cV).map vOf = l := by
  rw [List.map_map]
  have : vOf ∘ cV = id := rfl
  rw [this, List.map_id]
end Go.Proofs.YtnbnpnmkgemdeaaGreatDoor
namespace Go.Proofs.YtnbnpnmkgemdeaaGreatDoor
open Go.RowKit Go.MapKept
set_option maxRecDepth 100000
def bldB (p : SV) (u : Nat) (s : ByteArray) (i : Nat) : Ob := .row (219 + 65536) [[p, .sl (i + 1) u 0 s.size]] 2
def bldR (u : Nat) (s : ByteArray) : Ob := .row u (byteRow s) 1
theorem ne_fn : ∃ fn, Tryz.prog.funcs[274]? = some fn ∧ (fn.name == "runtime.NumGoroutine") = false ∧ fn.body.isNone = true ∧ Extern.findNext fn = none ∧ Extern.find fn = some Extern.AbiNoEscape.same := ⟨_, Tryz.func274, by kernel_rfl, by kernel_rfl, by kernel_rfl, by kernel_rfl⟩
theorem sb_info : ∃ j, Tryz.prog.info? 219 = some j ∧ j.size = 2 := by
  have h : (Tryz.prog.info? 219).map (·.size) = some 2 := by kernel_rfl
  cases hi : Tryz.prog.info? 219 with
  | none => rw [hi] at h; cases h
  | some j => rw [hi] at h; exact ⟨j, rfl, by simpa using h⟩
theorem bld_below {n v k : Nat} {a b : SV} (ha : a.below n) (hb : b.below n) : (Ob.row v [[a, b]] k).below n := by
  intro e he x hx
  rcases List.mem_cons.1 he with rfl | he
  · rcases List.mem_cons.1 hx with rfl | hx
    · exact ha
    · rcases List.mem_cons.1 hx with rfl | hx
      · exact hb
      · cases hx
  · cases he
theorem byteRow_below (n u : Nat) (s : ByteArray) : (bldR u s).below n := by
  intro e he x hx
  obtain ⟨y, _, rfl⟩ := List.mem_map.1 he
  rcases List.mem_cons.1 hx with rfl | hx
  · trivial
  · cases hx
theorem byteRow_len (s : ByteArray) : (byteRow s).length = s.size := by unfold byteRow; rw [List.length_map]; simp
theorem byteRow_append (s t : ByteArray) : byteRow (s ++ t) = byteRow s ++ byteRow t := by
  unfold byteRow
  rw [← List.map_append]; congr 1
theorem byteRow_ren (σ : List Nat) (s : ByteArray) : (byteRow s).map (List.map (SV.ren σ)) = byteRow s := by
  unfold byteRow
  rw [List.map_map]; rfl
theorem bldR_ren (σ : List Nat) (u : Nat) (s : ByteArray) : (bldR u s).ren σ = bldR u s := by simp only [bldR, Ob.ren, byteRow_ren]
theorem join2 {i j : Nat} {L L' : List Ob} {a b a' b' : Ob} (ha : a.ren [i, j] = a') (hb : b.ren [i, j] = b') (h : (L.set i a').set j b' = L') : joinL [i, j] L [a, b] = L' := by
  subst ha hb h
  simp [joinL, join, setAll, outIds, newIds]
theorem runfits2 {L : List Ob} {a b : Ob} {x : AV} {xs : List AV} {i j : Nat} (h0 : L[i]? = some (a.ren [i, j])) (h1 : L[j]? = some (b.ren [i, j])) (hne : i ≠ j) (ha : a.below 2) (hb : b.below 2) (hx : ∀ y ∈ x :: xs, y.below 2) : RunFits [i, j] [a, b] (x :: xs) L := by
  refine ⟨rfl, by simp [hne], fun k y hy => ?_, mem_below ⟨ha, hb, trivial⟩, hx⟩
  match k, hy with
  | 0, hy => simp at hy; subst hy; exact h0
  | 1, hy => simp at hy; subst hy; exact h1
  | k + 2, hy => simp at hy
theorem sb_cells : Tryz.prog.cellsOf 219 = 2 := by kernel_rfl
theorem by_cells : Tryz.prog.cellsOf 5 = 1 := by kernel_rfl
theorem copyCheck_fresh (x : SV) (o : Ob) (hx : x.below 2) (ho : o.below 2) : Run Tryz.prog 228 [.row (219 + 65536) [[(.c (.nul .ptr)), x]] 2, o] [.one (.ep 0 (219 + 65536) 0 0)] [.row (219 + 65536) [[(.ep 0 (219 + 65536) 0 0), x]] 2, o] (.tup []) := by
  obtain ⟨j, hj, hj2⟩ := sb_info
  obtain ⟨fn, hf, hnm, hbd, hnx, hfd⟩ := ne_fn
  refine run_of_aw tabX_ok Tryz.func228 rfl rfl Tryz.ntmps228 (by simp) ?_
  simp only [argA]
  repeat' (first
    | refine st_nil ?_
    | (refine st_pop rfl rfl rfl rfl ?_ ?_; · (repeat' (first | exact trivial | rfl | exact Nat.le_of_ble_eq_true rfl | omega | apply And.intro)))
    | (refine st_lop rfl rfl rfl rfl ?_ ?_; · (repeat' (first | exact trivial | rfl | exact Nat.le_of_ble_eq_true rfl | omega | apply And.intro)))
    | (refine st_store rfl rfl rfl ?_ ?_; · (repeat' (first | exact trivial | rfl | exact Nat.le_of_ble_eq_true rfl | omega | apply And.intro)))
    | (refine st_lit rfl rfl rfl rfl ?_ ?_; · (repeat' (first | exact trivial | rfl | exact Nat.le_of_ble_eq_true rfl | omega | apply And.intro)))
    | refine st_skip rfl rfl rfl ?_
    | refine st_skip0 rfl rfl ?_
    | (refine st_if rfl (fun hb => ?_) (fun hb => ?_) <;> (first | (exfalso; revert hb; decide) | (exfalso; simp at hb; done) | (exfalso; simp at hb; omega) | rw [hb]))
    | refine aw_seq ?_
    | refine aw_region tabX_ok _ rfl ?_
    | refine aw_drawn2 tabXS_ok _ rfl mixed (by decide +kernel) ?_
    | (refine aw_cond rfl (fun hb => ?_) (fun hb => ?_) <;> (try (first | (exfalso; revert hb; decide) | (exfalso; simp at hb; done) | (exfalso; simp at hb; omega))))
    | refine aw_block ?_
    | refine aw_exit ?_
    | refine aw_ret ?_
    | refine aw_skip ?_
    | (refine st_sopq rfl rfl rfl rfl rfl (sop_eqNul rfl rfl (tabX_ok.kind 216 _ rfl)) ?_)
    | (refine st_sopq rfl rfl rfl rfl rfl (sop_eqEpNul rfl rfl rfl (tabX_ok.kind 216 _ rfl)) ?_)
    | (refine st_sopq rfl rfl rfl rfl rfl (sop_neqSame rfl rfl rfl (tabX_ok.kind 216 _ rfl) hj) ?_)
    | (refine st_sopq rfl rfl rfl rfl rfl (sop_convUnsafe rfl rfl (tabX_ok.kind 216 _ rfl) (tabX_ok.kind 278 _ rfl) hj (by rw [hj2]; decide)) ?_)
    | (refine st_sopq rfl rfl rfl rfl rfl (sop_convBack rfl rfl (tabX_ok.kind 278 _ rfl) (tabX_ok.kind 216 _ rfl) hj sb_cells rfl) ?_)
    | (refine st_sop rfl rfl rfl rfl rfl (sop_noEscape rfl hf hnm hbd hnx hfd) ?_))
  all_goals exact ⟨.inl rfl, ⟨.inr ⟨.tup [], ⟨trivial, rfl⟩, rfl⟩, ⟨[], rfl⟩, by simp, mem_below ⟨bld_below (by show 0 < 2; omega) hx, ho, trivial⟩, by simp [CV.av, AV.below]⟩⟩
theorem copyCheck_used (x : SV) (o : Ob) (hx : x.below 2) (ho : o.below 2) : Run Tryz.prog 228 [.row (219 + 65536) [[(.ep 0 (219 + 65536) 0 0), x]] 2, o] [.one (.ep 0 (219 + 65536) 0 0)] [.row (219 + 65536) [[(.ep 0 (219 + 65536) 0 0), x]] 2, o] (.tup []) := by
  obtain ⟨j, hj, hj2⟩ := sb_info
  obtain ⟨fn, hf, hnm, hbd, hnx, hfd⟩ := ne_fn
  refine run_of_aw tabX_ok Tryz.func228 rfl rfl Tryz.ntmps228 (by simp) ?_
  simp only [argA]
  repeat' (first
    | refine st_nil ?_
    | (refine st_pop rfl rfl rfl rfl ?_ ?_; · (repeat' (first | exact trivial | rfl | exact Nat.le_of_ble_eq_true rfl | omega | apply And.intro)))
    | (refine st_lop rfl rfl rfl rfl ?_ ?_; · (repeat' (first | exact trivial | rfl | exact Nat.le_of_ble_eq_true rfl | omega | apply And.intro)))
    | (refine st_store rfl rfl rfl ?_ ?_; · (repeat' (first | exact trivial | rfl | exact Nat.le_of_ble_eq_true rfl | omega | apply And.intro)))
    | (refine st_lit rfl rfl rfl rfl ?_ ?_; · (repeat' (first | exact trivial | rfl | exact Nat.le_of_ble_eq_true rfl | omega | apply And.intro)))
    | refine st_skip rfl rfl rfl ?_
    | refine st_skip0 rfl rfl ?_
    | (refine st_if rfl (fun hb => ?_) (fun hb => ?_) <;> (first | (exfalso; revert hb; decide) | (exfalso; simp at hb; done) | (exfalso; simp at hb; omega) | rw [hb]))
    | refine aw_seq ?_
    | refine aw_region tabX_ok _ rfl ?_
    | refine aw_drawn2 tabXS_ok _ rfl mixed (by decide +kernel) ?_
    | (refine aw_cond rfl (fun hb => ?_) (fun hb => ?_) <;> (try (first | (exfalso; revert hb; decide) | (exfalso; simp at hb; done) | (exfalso; simp at hb; omega))))
    | refine aw_block ?_
    | refine aw_exit ?_
    | refine aw_ret ?_
    | refine aw_skip ?_
    | (refine st_sopq rfl rfl rfl rfl rfl (sop_eqNul rfl rfl (tabX_ok.kind 216 _ rfl)) ?_)
    | (refine st_sopq rfl rfl rfl rfl rfl (sop_eqEpNul rfl rfl rfl (tabX_ok.kind 216 _ rfl)) ?_)
    | (refine st_sopq rfl rfl rfl rfl rfl (sop_neqSame rfl rfl rfl (tabX_ok.kind 216 _ rfl) hj) ?_)
    | (refine st_sopq rfl rfl rfl rfl rfl (sop_convUnsafe rfl rfl (tabX_ok.kind 216 _ rfl) (tabX_ok.kind 278 _ rfl) hj (by rw [hj2]; decide)) ?_)
    | (refine st_sopq rfl rfl rfl rfl rfl (sop_convBack rfl rfl (tabX_ok.kind 278 _ rfl) (tabX_ok.kind 216 _ rfl) hj sb_cells rfl) ?_)
    | (refine st_sop rfl rfl rfl rfl rfl (sop_noEscape rfl hf hnm hbd hnx hfd) ?_))
  all_goals exact ⟨.inl rfl, ⟨.inr ⟨.tup [], ⟨trivial, rfl⟩, rfl⟩, ⟨[], rfl⟩, by simp, mem_below ⟨bld_below (by show 0 < 2; omega) hx, ho, trivial⟩, by simp [CV.av, AV.below]⟩⟩
theorem writeString0 (u : Nat) (s : ByteArray) (t : ByteArray) (hu : u % 65536 = 5) (hs : s.size ≤ 100000000000000) (ht : t.size ≤ 1000000000000) : Run Tryz.prog 184 [bldB (.c (.nul .ptr)) u s 0, bldR u s] [.one (.ep 0 (219 + 65536) 0 0), .one (.c (.str t))] [bldB (.ep 0 (219 + 65536) 0 0) (u + 65536) (s ++ t) 0, bldR (u + 65536) (s ++ t)] (.tup [.one (.int .i64 t.size), .one (.nul .iface)]) := by
  refine run_of_aw tabX_ok Tryz.func184 rfl rfl Tryz.ntmps184 (by simp) ?_
  simp only [argA]
  unfold bldB
  repeat' (first
    | refine st_nil ?_
    | (refine st_sop rfl rfl rfl rfl rfl (sop_app tabX_ok (k := 1) (by_ := 1) (xs := byteRow t) rfl rfl rfl rfl ⟨rfl, rfl⟩ rfl hu rfl rfl rfl (by omega) (by exact byteRow_len s) (by rw [byteRow_len]; omega) (by rw [byteRow_len]; omega)) ?_)
    | (refine st_pop rfl rfl rfl rfl ?_ ?_; · (repeat' (first | exact trivial | rfl | exact Nat.le_of_ble_eq_true rfl | omega | (intro e he; simp at he; subst he; rfl) | apply And.intro)))
    | (refine st_lop rfl rfl rfl rfl ?_ ?_; · (repeat' (first | exact trivial | rfl | exact Nat.le_of_ble_eq_true rfl | omega | (intro e he; simp at he; subst he; rfl) | apply And.intro)))
    | (refine st_store rfl rfl rfl ?_ ?_; · (repeat' (first | exact trivial | rfl | exact Nat.le_of_ble_eq_true rfl | omega | (intro e he; simp at he; subst he; rfl) | apply And.intro)))
    | (refine st_lit rfl rfl rfl rfl ?_ ?_; · (repeat' (first | exact trivial | rfl | exact Nat.le_of_ble_eq_true rfl | omega | (intro e he; simp at he; subst he; rfl) | apply And.intro)))
    | refine st_skip rfl rfl rfl ?_
    | refine st_skip0 rfl rfl ?_
    | (refine st_run [0, 1] rfl rfl rfl rfl (copyCheck_fresh (.sl 1 u 0 s.size) (bldR u s) (by show 1 < 2; omega) (byteRow_below _ _ _)) rfl (runfits2 (by rfl) (by rw [bldR_ren]; rfl) (by decide) (bld_below trivial (by show 1 < 2; omega)) (byteRow_below _ _ _) (fun y hy => by rcases List.mem_cons.1 hy with rfl | hy <;> first | (show 0 < 2; omega) | cases hy)) rfl (join2 rfl (bldR_ren _ _ _) rfl) ?_)
    | (refine st_if rfl (fun hb => ?_) (fun hb => ?_) <;> (first | (exfalso; revert hb; decide) | (exfalso; simp at hb; done) | (exfalso; simp at hb; omega) | rw [hb]))
    | refine aw_seq ?_
    | refine aw_region tabX_ok _ rfl ?_
    | refine aw_drawn2 tabXS_ok _ rfl mixed (by decide +kernel) ?_
    | (refine aw_cond rfl (fun hb => ?_) (fun hb => ?_) <;> (try (first | (exfalso; revert hb; decide) | (exfalso; simp at hb; done) | (exfalso; simp at hb; omega))))
    | refine aw_block ?_
    | refine aw_exit ?_
    | refine aw_ret ?_
    | refine aw_skip ?_)
  all_goals refine ⟨.inr rfl, ⟨.inr ⟨.tup [.one (.int .i64 t.size), .one (.nul .iface)], ⟨⟨trivial, trivial, trivial⟩, rfl⟩, rfl⟩, ⟨[], ?_⟩, by simp, mem_below ⟨bld_below (by show 0 < 2; omega) (by show 1 < 2; omega), byteRow_below _ _ _, trivial⟩, trivial⟩⟩
  all_goals (rw [List.append_nil]; show [Ob.row _ [[_, SV.sl (0 + 1) (u + 65536) 0 (s.size + (byteRow t).length)]] 2, Ob.row (u + 65536) (byteRow s ++ byteRow t) 1] = _; rw [byteRow_len, ← byteRow_append, ← ByteArray.size_append]; rfl)
theorem writeString1 (u : Nat) (s : ByteArray) (t : ByteArray) (hu : u % 65536 = 5) (hs : s.size ≤ 100000000000000) (ht : t.size ≤ 1000000000000) : Run Tryz.prog 184 [bldB (.ep 0 (219 + 65536) 0 0) u s 0, bldR u s] [.one (.ep 0 (219 + 65536) 0 0), .one (.c (.str t))] [bldB (.ep 0 (219 + 65536) 0 0) (u + 65536) (s ++ t) 0, bldR (u + 65536) (s ++ t)] (.tup [.one (.int .i64 t.size), .one (.nul .iface)]) := by
  refine run_of_aw tabX_ok Tryz.func184 rfl rfl Tryz.ntmps184 (by simp) ?_
  simp only [argA]
  unfold bldB
  repeat' (first
    | refine st_nil ?_
    | (refine st_sop rfl rfl rfl rfl rfl (sop_app tabX_ok (k := 1) (by_ := 1) (xs := byteRow t) rfl rfl rfl rfl ⟨rfl, rfl⟩ rfl hu rfl rfl rfl (by omega) (by exact byteRow_len s) (by rw [byteRow_len]; omega) (by rw [byteRow_len]; omega)) ?_)
    | (refine st_pop rfl rfl rfl rfl ?_ ?_; · (repeat' (first | exact trivial | rfl | exact Nat.le_of_ble_eq_true rfl | omega | (intro e he; simp at he; subst he; rfl) | apply And.intro)))
    | (refine st_lop rfl rfl rfl rfl ?_ ?_; · (repeat' (first | exact trivial | rfl | exact Nat.le_of_ble_eq_true rfl | omega | (intro e he; simp at he; subst he; rfl) | apply And.intro)))
    | (refine st_store rfl rfl rfl ?_ ?_; · (repeat' (first | exact trivial | rfl | exact Nat.le_of_ble_eq_true rfl | omega | (intro e he; simp at he; subst he; rfl) | apply And.intro)))
    | (refine st_lit rfl rfl rfl rfl ?_ ?_; · (repeat' (first | exact trivial | rfl | exact Nat.le_of_ble_eq_true rfl | omega | (intro e he; simp at he; subst he; rfl) | apply And.intro)))
    | refine st_skip rfl rfl rfl ?_
    | refine st_skip0 rfl rfl ?_
    | (refine st_run [0, 1] rfl rfl rfl rfl (copyCheck_used (.sl 1 u 0 s.size) (bldR u s) (by show 1 < 2; omega) (byteRow_below _ _ _)) rfl (runfits2 (by rfl) (by rw [bldR_ren]; rfl) (by decide) (bld_below (by show 0 < 2; omega) (by show 1 < 2; omega)) (byteRow_below _ _ _) (fun y hy => by rcases List.mem_cons.1 hy with rfl | hy <;> first | (show 0 < 2; omega) | cases hy)) rfl (join2 rfl (bldR_ren _ _ _) rfl) ?_)
    | (refine st_if rfl (fun hb => ?_) (fun hb => ?_) <;> (first | (exfalso; revert hb; decide) | (exfalso; simp at hb; done) | (exfalso; simp at hb; omega) | rw [hb]))
    | refine aw_seq ?_
    | refine aw_region tabX_ok _ rfl ?_
    | refine aw_drawn2 tabXS_ok _ rfl mixed (by decide +kernel) ?_
    | (refine aw_cond rfl (fun hb => ?_) (fun hb => ?_) <;> (try (first | (exfalso; revert hb; decide) | (exfalso; simp at hb; done) | (exfalso; simp at hb; omega))))
    | refine aw_block ?_
    | refine aw_exit ?_
    | refine aw_ret ?_
    | refine aw_skip ?_)
  all_goals refine ⟨.inr rfl, ⟨.inr ⟨.tup [.one (.int .i64 t.size), .one (.nul .iface)], ⟨⟨trivial, trivial, trivial⟩, rfl⟩, rfl⟩, ⟨[], ?_⟩, by simp, mem_below ⟨bld_below (by show 0 < 2; omega) (by show 1 < 2; omega), byteRow_below _ _ _, trivial⟩, trivial⟩⟩
  all_goals (rw [List.append_nil]; show [Ob.row _ [[_, SV.sl (0 + 1) (u + 65536) 0 (s.size + (byteRow t).length)]] 2, Ob.row (u + 65536) (byteRow s ++ byteRow t) 1] = _; rw [byteRow_len, ← byteRow_append, ← ByteArray.size_append]; rfl)
theorem writeByte1 (u : Nat) (s : ByteArray) (t : UInt8) (hu : u % 65536 = 5) (hs : s.size ≤ 100000000000000)  : Run Tryz.prog 186 [bldB (.ep 0 (219 + 65536) 0 0) u s 0, bldR u s] [.one (.ep 0 (219 + 65536) 0 0), .one (.c (.int .u8 t.toNat))] [bldB (.ep 0 (219 + 65536) 0 0) (u + 65536) (s ++ ⟨#[t]⟩) 0, bldR (u + 65536) (s ++ ⟨#[t]⟩)] (.one (.c (.nul .iface))) := by
  refine run_of_aw tabX_ok Tryz.func186 rfl rfl Tryz.ntmps186 (by simp) ?_
  simp only [argA]
  unfold bldB
  repeat' (first
    | refine st_nil ?_
    | (refine st_sop rfl rfl rfl rfl rfl (sop_app tabX_ok (k := 1) (by_ := 1) (xs := byteRow ⟨#[t]⟩) rfl rfl rfl rfl ⟨rfl, _, rfl, by intro e he; simp at he; subst he; rfl⟩ rfl hu rfl rfl rfl (by omega) (by exact byteRow_len s) (by rw [byteRow_len]; show (s.size + 1) * 1 ≤ _; omega) (by rw [byteRow_len]; show s.size + 1 ≤ _; omega)) ?_)
    | (refine st_pop rfl rfl rfl rfl ?_ ?_; · (repeat' (first | exact trivial | rfl | exact Nat.le_of_ble_eq_true rfl | omega | (intro e he; simp at he; subst he; rfl) | apply And.intro)))
    | (refine st_lop rfl rfl rfl rfl ?_ ?_; · (repeat' (first | exact trivial | rfl | exact Nat.le_of_ble_eq_true rfl | omega | (intro e he; simp at he; subst he; rfl) | apply And.intro)))
    | (refine st_store rfl rfl rfl ?_ ?_; · (repeat' (first | exact trivial | rfl | exact Nat.le_of_ble_eq_true rfl | omega | (intro e he; simp at he; subst he; rfl) | apply And.intro)))
    | (refine st_lit rfl rfl rfl rfl ?_ ?_; · (repeat' (first | exact trivial | rfl | exact Nat.le_of_ble_eq_true rfl | omega | (intro e he; simp at he; subst he; rfl) | apply And.intro)))
    | refine st_skip rfl rfl rfl ?_
    | refine st_skip0 rfl rfl ?_
    | (refine st_run [0, 1] rfl rfl rfl rfl (copyCheck_used (.sl 1 u 0 s.size) (bldR u s) (by show 1 < 2; omega) (byteRow_below _ _ _)) rfl (runfits2 (by rfl) (by rw [bldR_ren]; rfl) (by decide) (bld_below (by show 0 < 2; omega) (by show 1 < 2; omega)) (byteRow_below _ _ _) (fun y hy => by rcases List.mem_cons.1 hy with rfl | hy <;> first | (show 0 < 2; omega) | cases hy)) rfl (join2 rfl (bldR_ren _ _ _) rfl) ?_)
    | (refine st_if rfl (fun hb => ?_) (fun hb => ?_) <;> (first | (exfalso; revert hb; decide) | (exfalso; simp at hb; done) | (exfalso; simp at hb; omega) | rw [hb]))
    | refine aw_seq ?_
    | refine aw_region tabX_ok _ rfl ?_
    | refine aw_drawn2 tabXS_ok _ rfl mixed (by decide +kernel) ?_
    | (refine aw_cond rfl (fun hb => ?_) (fun hb => ?_) <;> (try (first | (exfalso; revert hb; decide) | (exfalso; simp at hb; done) | (exfalso; simp at hb; omega))))
    | refine aw_block ?_
    | refine aw_exit ?_
    | refine aw_ret ?_
    | refine aw_skip ?_)
  all_goals refine ⟨.inr rfl, ⟨.inl ⟨4, rfl, rfl⟩, ⟨[], ?_⟩, by simp, mem_below ⟨bld_below (by show 0 < 2; omega) (by show 1 < 2; omega), byteRow_below _ _ _, trivial⟩, trivial⟩⟩
  all_goals (rw [List.append_nil]; show [Ob.row _ [[_, SV.sl (0 + 1) (u + 65536) 0 (s.size + (byteRow ⟨#[t]⟩).length)]] 2, Ob.row (u + 65536) (byteRow s ++ byteRow ⟨#[t]⟩) 1] = _; rw [byteRow_len, ← byteRow_append, ← ByteArray.size_append]; rfl)
end Go.Proofs.YtnbnpnmkgemdeaaGreatDoor
namespace Go.Proofs.YtnbnpnmkgemdeaaGreatDoor
open Go.RowKit Go.MapKept
set_option maxRecDepth 100000
theorem string1 (u : Nat) (s : ByteArray) (hu : u % 65536 = 5) (h0 : 0 < s.size) (hs : s.size ≤ 100000000000000) : Run Tryz.prog 187 [bldB (.ep 0 (219 + 65536) 0 0) u s 0, bldR u s] [.one (.ep 0 (219 + 65536) 0 0)] [bldB (.ep 0 (219 + 65536) 0 0) u s 0, .dead] (.one (.c (.str s))) := by
  refine run_of_aw tabX_ok Tryz.func187 rfl rfl Tryz.ntmps187 (by simp) ?_
  simp only [argA]
  unfold bldB
  repeat' (first
    | refine st_nil ?_
    | (refine st_sopq rfl rfl rfl rfl rfl (sop_sliceData rfl rfl h0) ?_)
    | (refine st_soph rfl rfl rfl rfl rfl (sop_unsafeString rfl rfl rfl hu (tabXS_ok.kind _ _ rfl) by_cells h0 (by omega)) ?_)
    | (refine st_pop rfl rfl rfl rfl ?_ ?_; · (repeat' (first | exact trivial | rfl | exact Nat.le_of_ble_eq_true rfl | omega | apply And.intro)))
    | (refine st_lop rfl rfl rfl rfl ?_ ?_; · (repeat' (first | exact trivial | rfl | exact Nat.le_of_ble_eq_true rfl | omega | apply And.intro)))
    | (refine st_store rfl rfl rfl ?_ ?_; · (repeat' (first | exact trivial | rfl | exact Nat.le_of_ble_eq_true rfl | omega | apply And.intro)))
    | (refine st_lit rfl rfl rfl rfl ?_ ?_; · (repeat' (first | exact trivial | rfl | exact Nat.le_of_ble_eq_true rfl | omega | apply And.intro)))
    | refine st_skip rfl rfl rfl ?_
    | refine st_skip0 rfl rfl ?_
    | (refine st_if rfl (fun hb => ?_) (fun hb => ?_) <;> (first | (exfalso; revert hb; decide) | (exfalso; simp at hb; done) | (exfalso; simp at hb; omega) | rw [hb]))
    | refine aw_seq ?_
    | refine aw_region tabX_ok _ rfl ?_
    | refine aw_drawn2 tabXS_ok _ rfl mixed (by decide +kernel) ?_
    | (refine aw_cond rfl (fun hb => ?_) (fun hb => ?_) <;> (try (first | (exfalso; revert hb; decide) | (exfalso; simp at hb; done) | (exfalso; simp at hb; omega))))
    | refine aw_block ?_
    | refine aw_exit ?_
    | refine aw_ret ?_
    | refine aw_skip ?_)
  all_goals exact ⟨.inr rfl, ⟨.inl ⟨2, rfl, rfl⟩, ⟨[], rfl⟩, by simp, mem_below ⟨bld_below (by show 0 < 2; omega) (by show 1 < 2; omega), trivial, trivial⟩, trivial⟩⟩
theorem string0 : Run Tryz.prog 187 [bldB (.c (.nul .ptr)) 5 ⟨#[]⟩ 0, bldR 5 ⟨#[]⟩] [.one (.ep 0 (219 + 65536) 0 0)] [bldB (.c (.nul .ptr)) 5 ⟨#[]⟩ 0, bldR 5 ⟨#[]⟩] (.one (.c (.str ⟨#[]⟩))) := by
  refine run_of_aw tabX_ok Tryz.func187 rfl rfl Tryz.ntmps187 (by simp) ?_
  simp only [argA]
  unfold bldB
  repeat' (first
    | refine st_nil ?_
    | (refine st_sopq rfl rfl rfl rfl rfl (sop_sliceData0 rfl rfl (by decide)) ?_)
    | (refine st_soph rfl rfl rfl rfl rfl (sop_unsafeString0 rfl rfl) ?_)
    | (refine st_pop rfl rfl rfl rfl ?_ ?_; · (repeat' (first | exact trivial | rfl | exact Nat.le_of_ble_eq_true rfl | omega | apply And.intro)))
    | (refine st_lop rfl rfl rfl rfl ?_ ?_; · (repeat' (first | exact trivial | rfl | exact Nat.le_of_ble_eq_true rfl | omega | apply And.intro)))
    | (refine st_store rfl rfl rfl ?_ ?_; · (repeat' (first | exact trivial | rfl | exact Nat.le_of_ble_eq_true rfl | omega | apply And.intro)))
    | (refine st_lit rfl rfl rfl rfl ?_ ?_; · (repeat' (first | exact trivial | rfl | exact Nat.le_of_ble_eq_true rfl | omega | apply And.intro)))
    | refine st_skip rfl rfl rfl ?_
    | refine st_skip0 rfl rfl ?_
    | (refine st_if rfl (fun hb => ?_) (fun hb => ?_) <;> (first | (exfalso; revert hb; decide) | (exfalso; simp at hb; done) | (exfalso; simp at hb; omega) | rw [hb]))
    | refine aw_seq ?_
    | refine aw_region tabX_ok _ rfl ?_
    | refine aw_drawn2 tabXS_ok _ rfl mixed (by decide +kernel) ?_
    | (refine aw_cond rfl (fun hb => ?_) (fun hb => ?_) <;> (try (first | (exfalso; revert hb; decide) | (exfalso; simp at hb; done) | (exfalso; simp at hb; omega))))
    | refine aw_block ?_
    | refine aw_exit ?_
    | refine aw_ret ?_
    | refine aw_skip ?_)
  all_goals exact ⟨.inr rfl, ⟨.inl ⟨2, rfl, rfl⟩, ⟨[], rfl⟩, by simp, mem_below ⟨bld_below trivial (by show 1 < 2; omega), byteRow_below _ _ _, trivial⟩, trivial⟩⟩
end Go.Proofs.YtnbnpnmkgemdeaaGreatDoor
