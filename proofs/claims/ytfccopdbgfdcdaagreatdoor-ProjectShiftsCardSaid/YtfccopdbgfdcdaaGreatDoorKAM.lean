/- Parts of the proof, joined. No condition. -/
import Derived.Test.YtfccopdbgfdcdaaGreatDoorKAL
import Derived.Test.YtfccopdbgfdcdaaGreatDoorKAJ
set_option linter.unusedSimpArgs false
set_option linter.unusedVariables false
namespace Go.Proofs.YtfccopdbgfdcdaaGreatDoor
open Go.RowKit Go.MapKept
set_option linter.unusedVariables false

inductive Step (σ ρ : Type) where
  | next (s : σ)
  | exit (s : σ)
  | ret (r : ρ)
def loopM {σ ρ : Type} (body : σ → Option (Step σ ρ)) : Nat → σ → Option (Sum σ ρ)
  | 0, _ => none
  | n + 1, s => match body s with
    | none => none
    | some (.next s') => loopM body n s'
    | some (.exit s') => some (.inl s')
    | some (.ret r) => some (.inr r)
def fuel : Nat := 4611686018427387904
def getI {α : Type} (l : List α) (i : Int) : Option α := if 0 ≤ i then l[i.toNat]? else none
def subI {α : Type} (l : List α) (a b : Int) : Option (List α) := if 0 ≤ a ∧ a ≤ b ∧ b ≤ (l.length : Nat) then some ((l.take b.toNat).drop a.toNat) else none
theorem bind_some {α β : Type} {x : Option α} {f : α → Option β} {r : β} (h : x.bind f = some r) : ∃ a, x = some a ∧ f a = some r := by
  cases x with
  | none => cases h
  | some a => exact ⟨a, rfl, h⟩
theorem getI_some {α : Type} {l : List α} {i : Int} {x : α} (h : getI l i = some x) : 0 ≤ i ∧ l[i.toNat]? = some x := by
  unfold getI at h
  by_cases h0 : 0 ≤ i
  · rw [if_pos h0] at h; exact ⟨h0, h⟩
  · rw [if_neg h0] at h; cases h
theorem subI_some {α : Type} {l r : List α} {a b : Int} (h : subI l a b = some r) : (0 ≤ a ∧ a ≤ b ∧ b ≤ (l.length : Nat)) ∧ r = (l.take b.toNat).drop a.toNat := by
  unfold subI at h
  by_cases h0 : 0 ≤ a ∧ a ≤ b ∧ b ≤ (l.length : Nat)
  · rw [if_pos h0] at h; exact ⟨h0, (Option.some.inj h).symm⟩
  · rw [if_neg h0] at h; cases h
theorem grd_some {c : Bool} {β : Type} {x : Option β} {r : β} (h : (bif c then x else none) = some r) : c = true ∧ x = some r := by
  cases c with
  | true => exact ⟨rfl, h⟩
  | false => cases h
theorem idxI {α : Type} {l : List α} {f : α → List AC} {i : Int} {x : α} (h : l[i.toNat]? = some x) : (l.map f)[i.toNat]? = some (f x) := by rw [List.getElem?_map, h]; rfl
theorem wideI {α : Type} {f : α → List AC} {k : Nat} (hf : ∀ x, (f x).length = k) (l : List α) : ∀ e ∈ l.map f, e.length = k := by
  intro e he; simp only [List.mem_map] at he; obtain ⟨x, _, rfl⟩ := he; exact hf x
section
variable {P : Program} {ti : TI} {N n0 : Nat} {Q : AX → Tm → List Ob → Prop} {T : Tm} {L : List Ob}
@[reducible] def After {σ ρ γ : Type} (K : Sum σ ρ → Option γ) (r : γ) : Step σ ρ → Prop
  | .next _ => True
  | .exit s => K (.inl s) = some r
  | .ret q => K (.inr q) = some r
theorem aw_loopM {σ ρ γ : Type} {c : Code} {body : σ → Option (Step σ ρ)} {K : Sum σ ρ → Option γ} {r : γ} {s0 : σ} (TT : σ → Tm) (LL : σ → List Ob) (h : (loopM body fuel s0).bind K = some r) (hn1 : ∀ s, n0 ≤ (LL s).length) (hf : Fits T L (TT s0) (LL s0))
    (round : ∀ s st, body s = some st → After K r st → Aw P N n0 c (AX.then (fun T' L' => ∃ s', st = .next s' ∧ Fits T' L' (TT s') (LL s')) Q) (TT s) (LL s)) : Aw P N n0 (.loop c) Q T L := by
  refine aw_loop (fun s : Nat × σ => TT s.2) (fun s => LL s.2) (fun s => (loopM body s.1 s.2).bind K = some r) (fun s => s.1) (fuel, s0) h (fun s _ => hn1 s.2) hf ?_
  rintro ⟨n, s⟩ hok
  dsimp only at hok ⊢
  cases n with
  | zero => cases hok
  | succ n =>
    rw [loopM] at hok
    cases hb : body s with
    | none => rw [hb] at hok; cases hok
    | some st =>
      rw [hb] at hok
      refine Aw.mono (round s st hb ?_) ?_
      · cases st with
        | next s' => trivial
        | exit s' => exact hok
        | ret q => exact hok
      · intro x T' L' hq
        cases x with
        | normal =>
          obtain ⟨s', rfl, hfit⟩ := hq
          exact ⟨(n, s'), hok, Nat.lt_succ_self n, hfit⟩
        | exit id => exact hq
        | ret => exact hq
end
def mnI (a b : Int) : Int := if b < a then b else a
def mxI (a b : Int) : Int := if b > a then b else a
theorem mn_norm (a b : Int) : (if false = true then (if b > a then b else a) else (if b < a then b else a)) = mnI a b := rfl
theorem mx_norm (a b : Int) : (if true = true then (if b > a then b else a) else (if b < a then b else a)) = mxI a b := rfl
theorem subE {α : Type} {f : α → List AC} {l r : List α} {a b : Int} (h : r = (l.take b.toNat).drop a.toNat) : ((l.map f).take b.toNat).drop a.toNat = r.map f := by rw [h, ← List.map_take, ← List.map_drop]
def belowS (n : Nat) : SV → Bool
  | .c _ => true
  | .emp => true
  | .own _ t => Nat.blt t n
  | .ptr id _ => Nat.blt id n
  | _ => false
def belowC (n : Nat) : List SV → Bool
  | [] => true
  | x :: l => and (belowS n x) (belowC n l)
theorem belowS_of {n : Nat} {x : SV} (h : belowS n x = true) : x.below n := by
  cases x with
  | c _ => trivial
  | emp => trivial
  | own _ t => exact Nat.le_of_ble_eq_true h
  | ptr id _ => exact Nat.le_of_ble_eq_true h
  | sl => cases h
  | ep => cases h
  | mp => cases h
  | clo => cases h
theorem ob_below {n : Nat} : ∀ {cs : List SV}, belowC n cs = true → (Ob.box cs).below n
  | [], _ => fun x hx => by cases hx
  | c :: cs, h => fun x hx => by
    rw [belowC, Bool.and_eq_true] at h
    rcases List.mem_cons.1 hx with rfl | hx
    · exact belowS_of h.1
    · exact ob_below h.2 x hx
section
variable {P : Program} {ti : TI} {N n0 : Nat} {ds : List (Option Tmp)} {K : Tm → List Ob → Prop} {rest : List Oper} {o : Oper} {T : Tm} {L : List Ob}
theorem beq_tt {b : Bool} (h : b = true) : (b == true) = true := by rw [h]; rfl
theorem beq_ff {b : Bool} (h : b = false) : (b == false) = true := by rw [h]; rfl
theorem beq_tf {b : Bool} (h : b = false) : (b == true) = false := by rw [h]; rfl
theorem beq_ft {b : Bool} (h : b = true) : (b == false) = false := by rw [h]; rfl
theorem not_t {e : Bool} (h : e = false) : (!e) = true := by rw [h]; rfl
theorem not_f {e : Bool} (h : e = true) : (!e) = false := by rw [h]; rfl
def isPick : Op → Bool
  | .pick _ _ _ => true
  | _ => false
theorem p_ {v : AV} {φ : Prop} {d : Nat} (_ : isPick o.op = false) (hd : o.dst = some d) (hN : Nat.blt d N = true) {g0 : Bool} (hg : gdv ds T o.guard = some g0) (hp : pop ti (look T) L o.op = some (v, φ)) (h : awOps P ti N ds K rest ((d, v) :: T) L)
    (hφ : φ := by repeat' (first | exact trivial | rfl | exact Nat.le_of_ble_eq_true rfl | omega | assumption | exact wideI (by intro _; rfl) _ | exact wideI tE_len _ | (intro e he; simp at he; subst he; rfl) | (simp only [List.length_map]; omega) | apply And.intro)) (hg1 : g0 = true := by first | rfl | exact beq_tt (by first | assumption | exact not_t (by assumption)) | exact beq_ff (by first | assumption | exact not_f (by assumption))) : awOps P ti N ds K (o :: rest) T L := st_pop hd hN (hg1 ▸ hg) hp hφ h
theorem l_ {v : AV} {L' : List Ob} {φ : Prop} {d : Nat} (hd : o.dst = some d) (hN : Nat.blt d N = true) {g0 : Bool} (hg : gdv ds T o.guard = some g0) (hp : lop ti (look T) L o.op = some (v, L', φ)) (h : awOps P ti N ds K rest ((d, v) :: T) L')
    (hφ : φ := by repeat' (first | exact trivial | rfl | exact Nat.le_of_ble_eq_true rfl | omega | exact wideI (by intro _; rfl) _ | exact wideI tE_len _ | (intro e he; simp at he; subst he; rfl) | exact List.length_map _ | (simp only [List.length_map, List.length_append, List.length_cons, List.length_nil, Nat.zero_add]; omega) | apply And.intro)) (hg1 : g0 = true := by first | rfl | exact beq_tt (by first | assumption | exact not_t (by assumption)) | exact beq_ff (by first | assumption | exact not_f (by assumption))) : awOps P ti N ds K (o :: rest) T L := st_lop hd hN (hg1 ▸ hg) hp hφ h
theorem s_ {v : AV} {L' : List Ob} {φ : Prop} (hd : o.dst = none) {g0 : Bool} (hg : gdv ds T o.guard = some g0) (hp : lop ti (look T) L o.op = some (v, L', φ)) (h : awOps P ti N ds K rest T L') (hφ : φ := by repeat' (first | exact trivial | rfl | exact Nat.le_of_ble_eq_true rfl | omega | apply And.intro)) (hg1 : g0 = true := by first | rfl | exact beq_tt (by first | assumption | exact not_t (by assumption)) | exact beq_ff (by first | assumption | exact not_f (by assumption))) : awOps P ti N ds K (o :: rest) T L := st_store hd (hg1 ▸ hg) hp hφ h
theorem t_ {v : AV} {φ : Prop} {d : Nat} (hd : o.dst = some d) (hN : Nat.blt d N = true) {g0 : Bool} (hg : gdv ds T o.guard = some g0) (hp : litOp ti (look T) o.op = some (v, φ)) (h : awOps P ti N ds K rest ((d, v) :: T) L)
    (hφ : φ := by repeat' (first | exact trivial | rfl | exact Nat.le_of_ble_eq_true rfl | omega | (intro e he; simp at he; subst he; rfl) | (intro e he; simp at he; rcases he with rfl | rfl <;> rfl) | (intro e he; simp at he; rcases he with rfl | rfl | rfl <;> rfl) | (intro e he; simp at he; rcases he with rfl | rfl | rfl | rfl <;> rfl) | apply And.intro)) (hg1 : g0 = true := by first | rfl | exact beq_tt (by first | assumption | exact not_t (by assumption)) | exact beq_ff (by first | assumption | exact not_f (by assumption))) : awOps P ti N ds K (o :: rest) T L := st_lit hd hN (hg1 ▸ hg) hp hφ h
theorem c_ {g : FuncId} {ps : List PV} {r : CV} {d : Nat} {v : AV} (hd : o.dst = some d) (hN : Nat.blt d N = true) {g0 : Bool} (hg : gdv ds T o.guard = some g0) (hp : callOp (look T) o.op = some (g, ps)) (h : awOps P ti N ds K rest ((d, v) :: T) L) (hc : Pure P g ps r := by assumption) (hv : r.av = v := by rfl) (hg1 : g0 = true := by first | rfl | exact beq_tt (by first | assumption | exact not_t (by assumption)) | exact beq_ff (by first | assumption | exact not_f (by assumption))) : awOps P ti N ds K (o :: rest) T L := st_call hd hN (hg1 ▸ hg) hp hc hv h
theorem x_ {t : TypeId} {x ix : Operand} {vx : AV} {es : List (List AC)} {k0 : IntKind} {i : Int} {k d : Nat} {e : List AC} (hd : o.dst = some d) (hN : Nat.blt d N = true) {g0 : Bool} (hg : gdv ds T o.guard = some g0) (ho : o.op = .indexAddr t x ix) (hx : look T x = some vx) (hl : listOf vx = some es) (hi : look T ix = some (.one (.c (.int k0 i))))
    (hk : (ti.elem t).bind ti.size = some k) (h : awOps P ti N ds K rest ((d, .one (.c (.ref e))) :: T) L) (he : es[i.toNat]? = some e := by assumption) (h0 : 0 ≤ i := by assumption) (hl2 : e.length = k := by rfl) (hg1 : g0 = true := by first | rfl | exact beq_tt (by first | assumption | exact not_t (by assumption)) | exact beq_ff (by first | assumption | exact not_f (by assumption))) : awOps P ti N ds K (o :: rest) T L := st_idx hd hN (hg1 ▸ hg) ho hx hl hi hk he ⟨h0, hl2⟩ h
theorem pick_t {c a b : Operand} {e : Bool} {va vb : AV} {d : Nat} (hd : o.dst = some d) (hN : Nat.blt d N = true) {g0 : Bool} (hg : gdv ds T o.guard = some g0) (ho : o.op = .pick c a b) (hc : look T c = some (.one (.c (.bool e)))) (ha : look T a = some va) (hb : look T b = some vb) (h : awOps P ti N ds K rest ((d, va) :: T) L)
    (he : e = true := by first | rfl | assumption | exact not_t (by assumption)) (hg1 : g0 = true := by first | rfl | exact beq_tt (by first | assumption | exact not_t (by assumption)) | exact beq_ff (by first | assumption | exact not_f (by assumption))) : awOps P ti N ds K (o :: rest) T L := st_pop hd hN (hg1 ▸ hg) (by rw [ho]; simp only [pop, hc, ha, hb]; rw [if_pos he]) trivial h
theorem pick_f {c a b : Operand} {e : Bool} {va vb : AV} {d : Nat} (hd : o.dst = some d) (hN : Nat.blt d N = true) {g0 : Bool} (hg : gdv ds T o.guard = some g0) (ho : o.op = .pick c a b) (hc : look T c = some (.one (.c (.bool e)))) (ha : look T a = some va) (hb : look T b = some vb) (h : awOps P ti N ds K rest ((d, vb) :: T) L)
    (he : e = false := by first | rfl | assumption | exact not_f (by assumption)) (hg1 : g0 = true := by first | rfl | exact beq_tt (by first | assumption | exact not_t (by assumption)) | exact beq_ff (by first | assumption | exact not_f (by assumption))) : awOps P ti N ds K (o :: rest) T L := st_pop hd hN (hg1 ▸ hg) (by rw [ho]; simp only [pop, hc, ha, hb]; rw [if_neg (by rw [he]; decide)]) trivial h
theorem k_ {d : Nat} {g0 : Bool} (hd : o.dst = some d) (hN : Nat.blt d N = true) (hg : gdv ds T o.guard = some g0) (h : awOps P ti N ds K rest ((d, .undef) :: T) L) (hg1 : g0 = false := by first | rfl | exact beq_tf (by first | assumption | exact not_f (by assumption)) | exact beq_ft (by first | assumption | exact not_t (by assumption))) : awOps P ti N ds K (o :: rest) T L := st_skip hd hN (hg1 ▸ hg) h
theorem k0_ {g0 : Bool} (hd : o.dst = none) (hg : gdv ds T o.guard = some g0) (h : awOps P ti N ds K rest T L) (hg1 : g0 = false := by first | rfl | exact beq_tf (by first | assumption | exact not_f (by assumption)) | exact beq_ft (by first | assumption | exact not_t (by assumption))) : awOps P ti N ds K (o :: rest) T L := st_skip0 hd (hg1 ▸ hg) h
theorem aw_condT {Q : AX → Tm → List Ob → Prop} {c : Operand} {x y : Code} {b : Bool} (hc : look T c = some (.one (.c (.bool b)))) (h : Aw P N n0 x Q T L) (hb : b = true := by first | rfl | assumption | exact not_t (by assumption)) : Aw P N n0 (.cond c x y) Q T L := aw_cond hc (fun _ => h) (fun e => by rw [hb] at e; cases e)
theorem aw_condF {Q : AX → Tm → List Ob → Prop} {c : Operand} {x y : Code} {b : Bool} (hc : look T c = some (.one (.c (.bool b)))) (h : Aw P N n0 y Q T L) (hb : b = false := by first | rfl | assumption | exact not_f (by assumption)) : Aw P N n0 (.cond c x y) Q T L := aw_cond hc (fun e => by rw [hb] at e; cases e) (fun _ => h)
end
theorem go_ {p : Prop} (h : p := by
  repeat' (first
    | refine p_ rfl rfl rfl rfl rfl ?_ | refine st_nil ?_ | refine x_ rfl rfl rfl rfl rfl rfl rfl rfl ?_ | refine l_ rfl rfl rfl rfl ?_ | refine s_ rfl rfl rfl ?_ | refine t_ rfl rfl rfl rfl ?_ | refine k_ rfl rfl rfl ?_ | refine k0_ rfl rfl ?_ | refine c_ rfl rfl rfl rfl ?_ | refine pick_t rfl rfl rfl rfl rfl rfl rfl ?_ | refine pick_f rfl rfl rfl rfl rfl rfl rfl ?_ | refine aw_seq ?_ | refine aw_region tab_ok _ rfl ?_ | refine aw_drawn2 tabS_ok _ rfl mixed (by decide +kernel) ?_ | refine aw_condT rfl ?_ | refine aw_condF rfl ?_ | refine aw_block ?_ | refine aw_exit ?_ | refine aw_ret ?_ | refine aw_skip ?_ | rw [List.length_map] | rw [mn_norm] | rw [mx_norm])
  refine end_ret (res_of rfl ?_ ?_)
  · repeat' (first | exact trivial | rfl | exact Nat.le_of_ble_eq_true rfl | omega | apply And.intro)
  · first | rfl | (simp only [List.map_append, List.map_cons, List.map_nil, List.nil_append] <;> rfl)) : p := h
end Go.Proofs.YtfccopdbgfdcdaaGreatDoor
namespace Go.Proofs.YtfccopdbgfdcdaaGreatDoor
open Go.RowKit Go.MapKept
set_option linter.unusedVariables false
def foldS {α σ ρ : Type} (f : σ → α → Option (Sum σ ρ)) : σ → List α → Option (Sum σ ρ)
  | s, [] => some (.inl s)
  | s, x :: l => match f s x with
    | none => none
    | some (.inl s') => foldS f s' l
    | some (.inr r) => some (.inr r)
section
variable {α σ ρ S : Type} {l : List α} {body : S → Option (Step S ρ)}
def foldR (mk : σ → Int → S) (n : Nat) : Option (Sum σ ρ) → Option (Sum S ρ)
  | none => none
  | some (.inl s') => some (.inl (mk s' n))
  | some (.inr r) => some (.inr r)
def foldN (mk : σ → Int → S) (i : Nat) : Option (Sum σ ρ) → Option (Step S ρ)
  | none => none
  | some (.inl s') => some (.next (mk s' (i : Nat)))
  | some (.inr r) => some (.ret r)
theorem loop_at (mk : σ → Int → S) (f : σ → α → Option (Sum σ ρ)) (h1 : ∀ (s : σ) (i : Nat) x, l[i]? = some x → body (mk s i) = foldN mk (i + 1) (f s x)) (h2 : ∀ s, body (mk s l.length) = some (.exit (mk s l.length))) :
    ∀ (n i : Nat) (s : σ), i ≤ l.length → l.length - i < n → loopM body n (mk s i) = foldR mk l.length (foldS f s (l.drop i))
  | 0, i, s, _, h => by omega
  | n + 1, i, s, hi, hn => by
    rw [loopM]
    by_cases hlt : i < l.length
    · obtain ⟨x, hx⟩ := get_of_lt hlt
      have e1 := (List.getElem?_eq_some_iff.1 hx).2
      rw [h1 s i x hx, List.drop_eq_getElem_cons hlt, e1, foldS]
      cases hf : f s x with
      | none => rfl
      | some st => cases st with
        | inl s' => exact loop_at mk f h1 h2 n (i + 1) s' (by omega) (by omega)
        | inr r => rfl
    · have : i = l.length := by omega
      subst this
      rw [h2, List.drop_length]
      rfl
theorem loop_list (mk : σ → Int → S) (f : σ → α → Option (Sum σ ρ)) (h1 : ∀ (s : σ) (i : Nat) x, l[i]? = some x → body (mk s i) = foldN mk (i + 1) (f s x)) (h2 : ∀ s, body (mk s l.length) = some (.exit (mk s l.length))) (hl : l.length < fuel) (s : σ) :
    loopM body fuel (mk s 0) = foldR mk l.length (foldS f s l) := loop_at mk f h1 h2 fuel 0 s (Nat.zero_le _) (by omega)
end
theorem getI_nat {α : Type} {l : List α} {i : Nat} {x : α} (h : l[i]? = some x) : getI l (i : Int) = some x := by
  unfold getI; rw [if_pos (by omega)]; exact h
theorem lt_dec {α : Type} {l : List α} {i : Nat} {x : α} (h : l[i]? = some x) : decide ((i : Int) < (l.length : Nat)) = true := by
  have := (List.getElem?_eq_some_iff.1 h).1; simp; exact this
theorem lt_decF (n : Nat) : decide ((n : Int) < (n : Nat)) = false := by simp
theorem wrapN {i : Nat} (h : i ≤ 4611686018427387904) : IntKind.i64.wrap ((i : Int) + 1) = ((i + 1 : Nat) : Int) := wrap_eq (by omega) (by omega)

end Go.Proofs.YtfccopdbgfdcdaaGreatDoor
namespace Go.Proofs.YtfccopdbgfdcdaaGreatDoor
open Go.RowKit Go.MapKept
set_option maxRecDepth 100000
set_option maxHeartbeats 8000000
set_option linter.unusedVariables false
set_option linter.unusedSimpArgs false
def icmp (x y : Int) : Int := if x < y then -1 else if y < x then 1 else 0
def vcmp (v w : Val) : Int := if icmp v.kind w.kind ≠ 0 then icmp v.kind w.kind else if icmp v.int w.int ≠ 0 then icmp v.int w.int else scmp v.text w.text
def rcmp : List Val → List Val → Int
  | [], [] => 0
  | [], _ :: _ => -1
  | _ :: _, [] => 1
  | a :: xs, b :: ys => if vcmp a b ≠ 0 then vcmp a b else rcmp xs ys
def tRow (l : List Val) : AC := .lst (l.map cV)
theorem scmp_pure (a b : ByteArray) : Pure Tryz.prog 187 [.one (.str a), .one (.str b)] (.val (.one (.int .i64 (scmp a b)))) := (evF_ok cx_ok 8).1 _ _ _ (by kernel_rfl)
def gIsNaN (a_x : Int) : Option (Bool) := some (decide (a_x ≠ a_x))
theorem gIsNaN_ok {a_x : Int} {r : Bool} (H : gIsNaN a_x = some r) : Pure Tryz.prog 176 [.one (.int .i64 a_x)] (.val (.one (.bool r))) := by
  unfold gIsNaN at H
  refine pure_of_aw tab_ok Tryz.func176 rfl rfl Tryz.ntmps176 (by simp) ?_
  simp only [argT, PV.av, List.map_cons, List.map_nil]
  obtain rfl := Option.some.inj H
  exact go_
def gICmp (a_x : Int) (a_y : Int) : Option (Int) := (gIsNaN a_x).bind fun r_1 => (gIsNaN a_y).bind fun r_2 => bif r_1 then
  bif r_2 then
    some (0 : Int)
  else
    some (-1 : Int)
 else
  bif r_2 then
    some (1 : Int)
  else
    bif (decide (a_x < a_y)) then
      some (-1 : Int)
    else
      bif (decide (a_y < a_x)) then
        some (1 : Int)
      else
        some (0 : Int)
theorem gICmp_ok {a_x : Int} {a_y : Int} {r : Int} (H : gICmp a_x a_y = some r) : Pure Tryz.prog 141 [.one (.int .i64 a_x), .one (.int .i64 a_y)] (.val (.one (.int .i64 r))) := by
  unfold gICmp at H
  refine pure_of_aw tab_ok Tryz.func141 rfl rfl Tryz.ntmps141 (by simp) ?_
  simp only [argT, PV.av, List.map_cons, List.map_nil]
  obtain ⟨r_1, c1, H⟩ := bind_some H
  replace c1 := gIsNaN_ok c1
  try simp only [List.map_append, List.map_cons, List.map_nil, List.nil_append, tE_eq] at c1
  obtain ⟨r_2, c2, H⟩ := bind_some H
  replace c2 := gIsNaN_ok c2
  try simp only [List.map_append, List.map_cons, List.map_nil, List.nil_append, tE_eq] at c2
  rcases Bool.eq_false_or_eq_true r_1 with q_3 | q_3
  · rw [q_3, cond_true] at H
    rcases Bool.eq_false_or_eq_true r_2 with q_4 | q_4
    · rw [q_4, cond_true] at H
      obtain rfl := Option.some.inj H
      exact go_
    · rw [q_4, cond_false] at H
      obtain rfl := Option.some.inj H
      exact go_
  · rw [q_3, cond_false] at H
    rcases Bool.eq_false_or_eq_true r_2 with q_5 | q_5
    · rw [q_5, cond_true] at H
      obtain rfl := Option.some.inj H
      exact go_
    · rw [q_5, cond_false] at H
      rcases Bool.eq_false_or_eq_true (decide (a_x < a_y)) with q_6 | q_6
      · rw [q_6, cond_true] at H
        obtain rfl := Option.some.inj H
        exact go_
      · rw [q_6, cond_false] at H
        rcases Bool.eq_false_or_eq_true (decide (a_y < a_x)) with q_7 | q_7
        · rw [q_7, cond_true] at H
          obtain rfl := Option.some.inj H
          exact go_
        · rw [q_7, cond_false] at H
          obtain rfl := Option.some.inj H
          exact go_
def gOr_B1 (a_vals : (List Int)) : (Int) → Option (Step (Int) (Int)) := fun s => match s with
  | v_1 => bif (decide (v_1 < ((a_vals.length : Nat) : Int))) then
    (getI a_vals v_1).bind fun x_3 => bif (decide (x_3 ≠ (0 : Int))) then
      some (.ret x_3)
    else
      some (.next (IntKind.i64.wrap (v_1 + (1 : Int))))
  else
    some (.exit v_1)
def gOr_K1 : Sum (Int) (Int) → Option ((Int))
  | .inl v_1 => some (0 : Int)
  | .inr q => some q
def gOr (a_vals : (List Int)) : Option (Int) := (loopM (gOr_B1 a_vals) fuel (0 : Int)).bind (gOr_K1)
theorem gOr_ok {a_vals : (List Int)} {r : Int} (H : gOr a_vals = some r) : Pure Tryz.prog 140 [.one (.lst (a_vals.map (fun x => [AC.int .i64 x])))] (.val (.one (.int .i64 r))) := by
  unfold gOr at H
  refine pure_of_aw tab_ok Tryz.func140 rfl rfl Tryz.ntmps140 (by simp) ?_
  simp only [argT, PV.av, List.map_cons, List.map_nil]
  repeat' (first | refine p_ rfl rfl rfl rfl rfl ?_ | refine st_nil ?_ | refine x_ rfl rfl rfl rfl rfl rfl rfl rfl ?_ | refine l_ rfl rfl rfl rfl ?_ | refine s_ rfl rfl rfl ?_ | refine t_ rfl rfl rfl rfl ?_ | refine k_ rfl rfl rfl ?_ | refine k0_ rfl rfl ?_ | refine c_ rfl rfl rfl rfl ?_ | refine pick_t rfl rfl rfl rfl rfl rfl rfl ?_ | refine pick_f rfl rfl rfl rfl rfl rfl rfl ?_ | refine aw_seq ?_ | refine aw_region tab_ok _ rfl ?_ | refine aw_drawn2 tabS_ok _ rfl mixed (by decide +kernel) ?_ | refine aw_condT rfl ?_ | refine aw_condF rfl ?_ | refine aw_block ?_ | refine aw_exit ?_ | refine aw_ret ?_ | refine aw_skip ?_ | rw [List.length_map] | rw [mn_norm] | rw [mx_norm])
  refine aw_loopM (fun s : Int => match s with | v_1 => [(3, .one (.c (.int .i64 (0 : Int)))), (6, .one (.c (.lst (a_vals.map (fun x => [AC.int .i64 x]))))), (7, .one (.c (.int .i64 ((a_vals.length : Nat) : Int)))), (8, .one (.c (.int .i64 v_1)))]) (fun s => match s with | v_1 => []) H (fun _ => Nat.zero_le _)
    (fits_mk ⟨rfl, rfl, rfl, rfl, trivial⟩ [] rfl ⟨trivial, trivial, trivial, trivial, trivial⟩ trivial) ?_
  rintro v_1 st1 hb1 hk1
  unfold gOr_B1 at hb1
  dsimp only at hb1 ⊢
  rcases Bool.eq_false_or_eq_true (decide (v_1 < ((a_vals.length : Nat) : Int))) with q_2 | q_2
  · rw [q_2, cond_true] at hb1
    obtain ⟨x_3, i1, hb1⟩ := bind_some hb1
    obtain ⟨i1z, i1⟩ := getI_some i1
    have i1x := idxI (f := (fun x => [AC.int .i64 x])) i1
    rcases Bool.eq_false_or_eq_true (decide (x_3 ≠ (0 : Int))) with q_4 | q_4
    · rw [q_4, cond_true] at hb1
      obtain rfl := Option.some.inj hb1
      have hx1 : gOr_K1 (.inr x_3) = some _ := hk1
      unfold gOr_K1 at hx1
      dsimp only at hx1
      obtain rfl := Option.some.inj hx1
      exact go_
    · rw [q_4, cond_false] at hb1
      obtain rfl := Option.some.inj hb1
      repeat' (first | refine p_ rfl rfl rfl rfl rfl ?_ | refine st_nil ?_ | refine x_ rfl rfl rfl rfl rfl rfl rfl rfl ?_ | refine l_ rfl rfl rfl rfl ?_ | refine s_ rfl rfl rfl ?_ | refine t_ rfl rfl rfl rfl ?_ | refine k_ rfl rfl rfl ?_ | refine k0_ rfl rfl ?_ | refine c_ rfl rfl rfl rfl ?_ | refine pick_t rfl rfl rfl rfl rfl rfl rfl ?_ | refine pick_f rfl rfl rfl rfl rfl rfl rfl ?_ | refine aw_seq ?_ | refine aw_region tab_ok _ rfl ?_ | refine aw_drawn2 tabS_ok _ rfl mixed (by decide +kernel) ?_ | refine aw_condT rfl ?_ | refine aw_condF rfl ?_ | refine aw_block ?_ | refine aw_exit ?_ | refine aw_ret ?_ | refine aw_skip ?_ | rw [List.length_map] | rw [mn_norm] | rw [mx_norm])
      exact ⟨_, rfl, fits_mk ⟨rfl, rfl, rfl, rfl, trivial⟩ [] rfl ⟨trivial, trivial, trivial, trivial, trivial⟩ trivial⟩
  · rw [q_2, cond_false] at hb1
    obtain rfl := Option.some.inj hb1
    have hx1 : gOr_K1 (.inl v_1) = some _ := hk1
    unfold gOr_K1 at hx1
    dsimp only at hx1
    obtain rfl := Option.some.inj hx1
    exact go_
def gVCmp (a_a : Val) (a_b : Val) : Option (Int) := (gICmp a_a.kind a_b.kind).bind fun r_1 => (gICmp a_a.int a_b.int).bind fun r_2 => (gOr [r_1, r_2, (scmp a_a.text a_b.text)]).bind fun r_4 => some r_4
theorem gVCmp_ok {a_a : Val} {a_b : Val} {r : Int} (H : gVCmp a_a a_b = some r) : Pure Tryz.prog 169 [.agg (cV a_a), .agg (cV a_b)] (.val (.one (.int .i64 r))) := by
  unfold gVCmp at H
  refine pure_of_aw tab_ok Tryz.func169 rfl rfl Tryz.ntmps169 (by simp) ?_
  simp only [argT, PV.av, List.map_cons, List.map_nil]
  obtain ⟨r_1, c1, H⟩ := bind_some H
  replace c1 := gICmp_ok c1
  try simp only [List.map_append, List.map_cons, List.map_nil, List.nil_append, tE_eq] at c1
  obtain ⟨r_2, c2, H⟩ := bind_some H
  replace c2 := gICmp_ok c2
  try simp only [List.map_append, List.map_cons, List.map_nil, List.nil_append, tE_eq] at c2
  have hc_3 := scmp_pure a_a.text a_b.text
  try simp only [List.map_append, List.map_cons, List.map_nil, List.nil_append, tE_eq] at hc_3
  obtain ⟨r_4, c3, H⟩ := bind_some H
  replace c3 := gOr_ok c3
  try simp only [List.map_append, List.map_cons, List.map_nil, List.nil_append, tE_eq] at c3
  obtain rfl := Option.some.inj H
  exact go_
def gCmpFn_B1 (a_s1 : (List Val)) (a_s2 : (List Val)) (a_cmp : Val → Val → Option (Int)) : (Int) → Option (Step (Int) (Int)) := fun s => match s with
  | v_1 => bif (decide (v_1 < ((a_s1.length : Nat) : Int))) then
    (getI a_s1 v_1).bind fun x_3 => bif (decide (((a_s2.length : Nat) : Int) ≤ v_1)) then
      some (.ret (1 : Int))
    else
      (getI a_s2 v_1).bind fun x_5 => (a_cmp x_3 x_5).bind fun r_6 => bif (decide (r_6 ≠ (0 : Int))) then
        some (.ret r_6)
      else
        some (.next (IntKind.i64.wrap (v_1 + (1 : Int))))
  else
    some (.exit v_1)
def gCmpFn_K1 (a_s1 : (List Val)) (a_s2 : (List Val)) : Sum (Int) (Int) → Option ((Int))
  | .inl v_1 => bif (decide (((a_s1.length : Nat) : Int) < ((a_s2.length : Nat) : Int))) then
    some (-1 : Int)
  else
    some (0 : Int)
  | .inr q => some q
def gCmpFn (a_s1 : (List Val)) (a_s2 : (List Val)) (a_cmp : Val → Val → Option (Int)) : Option (Int) := (loopM (gCmpFn_B1 a_s1 a_s2 a_cmp) fuel (0 : Int)).bind (gCmpFn_K1 a_s1 a_s2)
theorem gCmpFn_ok {a_s1 : (List Val)} {a_s2 : (List Val)} {a_cmp : Val → Val → Option (Int)} {r : Int} {F_a_cmp : FuncId} {caps_a_cmp : List AC} (hf_a_cmp : ∀ (y0 : Val) (y1 : Val) (r : Int), a_cmp y0 y1 = some r → Pure Tryz.prog F_a_cmp ([.agg (cV y0), .agg (cV y1)] ++ caps_a_cmp.map .one) (.val (.one (.int .i64 r)))) (H : gCmpFn a_s1 a_s2 a_cmp = some r) : Pure Tryz.prog 193 [.one (.lst (a_s1.map cV)), .one (.lst (a_s2.map cV)), .one (.fn F_a_cmp caps_a_cmp)] (.val (.one (.int .i64 r))) := by
  unfold gCmpFn at H
  refine pure_of_aw tab_ok Tryz.func193 rfl rfl Tryz.ntmps193 (by simp) ?_
  simp only [argT, PV.av, List.map_cons, List.map_nil]
  repeat' (first | refine p_ rfl rfl rfl rfl rfl ?_ | refine st_nil ?_ | refine x_ rfl rfl rfl rfl rfl rfl rfl rfl ?_ | refine l_ rfl rfl rfl rfl ?_ | refine s_ rfl rfl rfl ?_ | refine t_ rfl rfl rfl rfl ?_ | refine k_ rfl rfl rfl ?_ | refine k0_ rfl rfl ?_ | refine c_ rfl rfl rfl rfl ?_ | refine pick_t rfl rfl rfl rfl rfl rfl rfl ?_ | refine pick_f rfl rfl rfl rfl rfl rfl rfl ?_ | refine aw_seq ?_ | refine aw_region tab_ok _ rfl ?_ | refine aw_drawn2 tabS_ok _ rfl mixed (by decide +kernel) ?_ | refine aw_condT rfl ?_ | refine aw_condF rfl ?_ | refine aw_block ?_ | refine aw_exit ?_ | refine aw_ret ?_ | refine aw_skip ?_ | rw [List.length_map] | rw [mn_norm] | rw [mx_norm])
  refine aw_loopM (fun s : Int => match s with | v_1 => [(0, .one (.c (.lst (a_s1.map cV)))), (1, .one (.c (.lst (a_s2.map cV)))), (2, .one (.c (.fn F_a_cmp caps_a_cmp))), (11, .one (.c (.lst (a_s1.map cV)))), (12, .one (.c (.int .i64 ((a_s1.length : Nat) : Int)))), (13, .one (.c (.int .i64 v_1)))]) (fun s => match s with | v_1 => []) H (fun _ => Nat.zero_le _)
    (fits_mk ⟨rfl, rfl, rfl, rfl, rfl, rfl, trivial⟩ [] rfl ⟨trivial, trivial, trivial, trivial, trivial, trivial, trivial⟩ trivial) ?_
  rintro v_1 st1 hb1 hk1
  unfold gCmpFn_B1 at hb1
  dsimp only at hb1 ⊢
  rcases Bool.eq_false_or_eq_true (decide (v_1 < ((a_s1.length : Nat) : Int))) with q_2 | q_2
  · rw [q_2, cond_true] at hb1
    obtain ⟨x_3, i1, hb1⟩ := bind_some hb1
    obtain ⟨i1z, i1⟩ := getI_some i1
    have i1x := idxI (f := cV) i1
    rcases Bool.eq_false_or_eq_true (decide (((a_s2.length : Nat) : Int) ≤ v_1)) with q_4 | q_4
    · rw [q_4, cond_true] at hb1
      obtain rfl := Option.some.inj hb1
      have hx1 : gCmpFn_K1 a_s1 a_s2 (.inr (1 : Int)) = some _ := hk1
      unfold gCmpFn_K1 at hx1
      dsimp only at hx1
      obtain rfl := Option.some.inj hx1
      exact go_
    · rw [q_4, cond_false] at hb1
      obtain ⟨x_5, i2, hb1⟩ := bind_some hb1
      obtain ⟨i2z, i2⟩ := getI_some i2
      have i2x := idxI (f := cV) i2
      obtain ⟨r_6, c3, hb1⟩ := bind_some hb1
      replace c3 := hf_a_cmp _ _ _ c3
      try simp only [List.map_append, List.map_cons, List.map_nil, List.nil_append, tE_eq] at c3
      rcases Bool.eq_false_or_eq_true (decide (r_6 ≠ (0 : Int))) with q_7 | q_7
      · rw [q_7, cond_true] at hb1
        obtain rfl := Option.some.inj hb1
        have hx1 : gCmpFn_K1 a_s1 a_s2 (.inr r_6) = some _ := hk1
        unfold gCmpFn_K1 at hx1
        dsimp only at hx1
        obtain rfl := Option.some.inj hx1
        exact go_
      · rw [q_7, cond_false] at hb1
        obtain rfl := Option.some.inj hb1
        repeat' (first | refine p_ rfl rfl rfl rfl rfl ?_ | refine st_nil ?_ | refine x_ rfl rfl rfl rfl rfl rfl rfl rfl ?_ | refine l_ rfl rfl rfl rfl ?_ | refine s_ rfl rfl rfl ?_ | refine t_ rfl rfl rfl rfl ?_ | refine k_ rfl rfl rfl ?_ | refine k0_ rfl rfl ?_ | refine c_ rfl rfl rfl rfl ?_ | refine pick_t rfl rfl rfl rfl rfl rfl rfl ?_ | refine pick_f rfl rfl rfl rfl rfl rfl rfl ?_ | refine aw_seq ?_ | refine aw_region tab_ok _ rfl ?_ | refine aw_drawn2 tabS_ok _ rfl mixed (by decide +kernel) ?_ | refine aw_condT rfl ?_ | refine aw_condF rfl ?_ | refine aw_block ?_ | refine aw_exit ?_ | refine aw_ret ?_ | refine aw_skip ?_ | rw [List.length_map] | rw [mn_norm] | rw [mx_norm])
        exact ⟨_, rfl, fits_mk ⟨rfl, rfl, rfl, rfl, rfl, rfl, trivial⟩ [_, _] rfl ⟨trivial, trivial, trivial, trivial, trivial, trivial, trivial⟩ trivial⟩
  · rw [q_2, cond_false] at hb1
    obtain rfl := Option.some.inj hb1
    have hx1 : gCmpFn_K1 a_s1 a_s2 (.inl v_1) = some _ := hk1
    unfold gCmpFn_K1 at hx1
    dsimp only at hx1
    rcases Bool.eq_false_or_eq_true (decide (((a_s1.length : Nat) : Int) < ((a_s2.length : Nat) : Int))) with q_8 | q_8
    · rw [q_8, cond_true] at hx1
      obtain rfl := Option.some.inj hx1
      exact go_
    · rw [q_8, cond_false] at hx1
      obtain rfl := Option.some.inj hx1
      exact go_
def gTCmp (a_a : (List Val)) (a_b : (List Val)) : Option (Int) := (gCmpFn a_a a_b (fun x0 x1 => gVCmp x0 x1)).bind fun r_1 => some r_1
theorem gTCmp_ok {a_a : (List Val)} {a_b : (List Val)} {r : Int} (H : gTCmp a_a a_b = some r) : Pure Tryz.prog 173 [.one (.lst (a_a.map cV)), .one (.lst (a_b.map cV))] (.val (.one (.int .i64 r))) := by
  unfold gTCmp at H
  refine pure_of_aw tab_ok Tryz.func173 rfl rfl Tryz.ntmps173 (by simp) ?_
  simp only [argT, PV.av, List.map_cons, List.map_nil]
  obtain ⟨r_1, c1, H⟩ := bind_some H
  replace c1 := gCmpFn_ok (F_a_cmp := 169) (caps_a_cmp := []) (fun x0 x1 r h => gVCmp_ok h) c1
  try simp only [List.map_append, List.map_cons, List.map_nil, List.nil_append, tE_eq] at c1
  obtain rfl := Option.some.inj H
  exact go_
end Go.Proofs.YtfccopdbgfdcdaaGreatDoor
namespace Go.Proofs.YtfccopdbgfdcdaaGreatDoor
open Go.RowKit Go.MapKept
set_option linter.unusedVariables false
def getB (s : ByteArray) (i : Int) : Option UInt8 := if 0 ≤ i then s[i.toNat]? else none
theorem getB_some {s : ByteArray} {i : Int} {x : UInt8} (h : getB s i = some x) : 0 ≤ i ∧ s[i.toNat]? = some x := by
  unfold getB at h
  by_cases h0 : 0 ≤ i
  · rw [if_pos h0] at h; exact ⟨h0, h⟩
  · rw [if_neg h0] at h; cases h
section
variable {P : Program} {ti : TI} {N n0 : Nat} {ds : List (Option Tmp)} {K : Tm → List Ob → Prop} {rest : List Oper} {o : Oper} {T : Tm} {L : List Ob}
theorem b_ {t : TypeId} {x ix : Operand} {s : ByteArray} {k0 : IntKind} {i : Int} {b : UInt8} {d : Nat} (hd : o.dst = some d) (hN : Nat.blt d N = true) {g0 : Bool} (hg : gdv ds T o.guard = some g0) (ho : o.op = .index t x ix) (hx : look T x = some (.one (.c (.str s)))) (hi : look T ix = some (.one (.c (.int k0 i))))
    (hk : ti.kind t = some .string) (h : awOps P ti N ds K rest ((d, .one (.c (.int .u8 ((b.toNat : Nat) : Int)))) :: T) L) (hb : s[i.toNat]? = some b := by assumption) (h0 : 0 ≤ i := by assumption) (hg1 : g0 = true := by first | rfl | exact beq_tt (by first | assumption | exact not_t (by assumption)) | exact beq_ff (by first | assumption | exact not_f (by assumption))) : awOps P ti N ds K (o :: rest) T L :=
  st_pop (φ := 0 ≤ i ∧ ti.kind t = some .string) hd hN (hg1 ▸ hg) (by rw [ho]; simp only [pop, hx, hi, popIndex, hb]) ⟨h0, hk⟩ h
theorem t5_ {v : AV} {φ : Prop} {d : Nat} (hd : o.dst = some d) (hN : Nat.blt d N = true) {g0 : Bool} (hg : gdv ds T o.guard = some g0) (hp : litOp ti (look T) o.op = some (v, φ)) (h : awOps P ti N ds K rest ((d, v) :: T) L)
    (hφ : φ := by repeat' (first | exact trivial | rfl | exact Nat.le_of_ble_eq_true rfl | omega | refine List.forall_mem_cons.2 ⟨?_, ?_⟩ | exact fun _ h => nomatch h | apply And.intro)) (hg1 : g0 = true := by first | rfl | exact beq_tt (by first | assumption | exact not_t (by assumption)) | exact beq_ff (by first | assumption | exact not_f (by assumption))) : awOps P ti N ds K (o :: rest) T L := st_lit hd hN (hg1 ▸ hg) hp hφ h
end
end Go.Proofs.YtfccopdbgfdcdaaGreatDoor
namespace Go.Proofs.YtfccopdbgfdcdaaGreatDoor
open Go.RowKit Go.MapKept
set_option maxRecDepth 100000
set_option maxHeartbeats 8000000
set_option linter.unusedVariables false
set_option linter.unusedSimpArgs false
end Go.Proofs.YtfccopdbgfdcdaaGreatDoor
namespace Go.Proofs.YtfccopdbgfdcdaaGreatDoor
open Go.RowKit Go.MapKept
set_option maxRecDepth 100000
set_option maxHeartbeats 8000000
set_option linter.unusedVariables false
set_option linter.unusedSimpArgs false
def gPV (a_p : Per) : Option (Bool) := bif (decide ((0 : Int) ≤ a_p.lo)) then
  bif (decide (a_p.lo < a_p.hi)) then
    some (decide (a_p.hi ≤ (1099511627776 : Int)))
  else
    some false
 else
  some false
theorem gPV_ok {a_p : Per} {r : Bool} (H : gPV a_p = some r) : Pure Tryz.prog 58 [.agg (cPer a_p)] (.val (.one (.bool r))) := by
  unfold gPV at H
  refine pure_of_aw tab_ok Tryz.func58 rfl rfl Tryz.ntmps58 (by simp) ?_
  simp only [argT, PV.av, List.map_cons, List.map_nil]
  rcases Bool.eq_false_or_eq_true (decide ((0 : Int) ≤ a_p.lo)) with q_1 | q_1
  · rw [q_1, cond_true] at H
    rcases Bool.eq_false_or_eq_true (decide (a_p.lo < a_p.hi)) with q_2 | q_2
    · rw [q_2, cond_true] at H
      obtain rfl := Option.some.inj H
      exact go_
    · rw [q_2, cond_false] at H
      obtain rfl := Option.some.inj H
      exact go_
  · rw [q_1, cond_false] at H
    obtain rfl := Option.some.inj H
    exact go_
end Go.Proofs.YtfccopdbgfdcdaaGreatDoor
namespace Go.Proofs.YtfccopdbgfdcdaaGreatDoor
open Go.RowKit Go.MapKept
theorem cnd_t {β : Type} {c : Bool} {x y : Option β} {r : β} (h : c = true) (H : (bif c then x else y) = some r) : x = some r := by subst h; exact H
theorem cnd_f {β : Type} {c : Bool} {x y : Option β} {r : β} (h : c = false) (H : (bif c then x else y) = some r) : y = some r := by subst h; exact H
end Go.Proofs.YtfccopdbgfdcdaaGreatDoor
namespace Go.Proofs.YtfccopdbgfdcdaaGreatDoor
open Go.RowKit Go.MapKept
set_option maxRecDepth 100000
set_option maxHeartbeats 8000000
set_option linter.unusedVariables false
set_option linter.unusedSimpArgs false
end Go.Proofs.YtfccopdbgfdcdaaGreatDoor
namespace Go.Proofs.YtfccopdbgfdcdaaGreatDoor
open Go.RowKit Go.MapKept
set_option maxRecDepth 100000
set_option maxHeartbeats 8000000
set_option linter.unusedVariables false
set_option linter.unusedSimpArgs false
end Go.Proofs.YtfccopdbgfdcdaaGreatDoor
namespace Go.Proofs.YtfccopdbgfdcdaaGreatDoor
open Go.RowKit Go.MapKept
set_option maxRecDepth 100000
set_option maxHeartbeats 8000000
set_option linter.unusedVariables false
set_option linter.unusedSimpArgs false
end Go.Proofs.YtfccopdbgfdcdaaGreatDoor
namespace Go.Proofs.YtfccopdbgfdcdaaGreatDoor
open Go.RowKit Go.MapKept
set_option maxRecDepth 100000
set_option maxHeartbeats 8000000
set_option linter.unusedVariables false
set_option linter.unusedSimpArgs false
end Go.Proofs.YtfccopdbgfdcdaaGreatDoor
namespace Go.Proofs.YtfccopdbgfdcdaaGreatDoor
open Go.RowKit Go.MapKept
set_option maxRecDepth 100000
set_option maxHeartbeats 8000000
set_option linter.unusedVariables false
set_option linter.unusedSimpArgs false
end Go.Proofs.YtfccopdbgfdcdaaGreatDoor
namespace Go.Proofs.YtfccopdbgfdcdaaGreatDoor
open Go.RowKit Go.MapKept
set_option maxRecDepth 100000
set_option maxHeartbeats 8000000
set_option linter.unusedVariables false
set_option linter.unusedSimpArgs false
end Go.Proofs.YtfccopdbgfdcdaaGreatDoor
namespace Go.Proofs.YtfccopdbgfdcdaaGreatDoor
open Go.RowKit Go.MapKept
set_option maxRecDepth 100000
set_option maxHeartbeats 8000000
set_option linter.unusedVariables false
set_option linter.unusedSimpArgs false
end Go.Proofs.YtfccopdbgfdcdaaGreatDoor
