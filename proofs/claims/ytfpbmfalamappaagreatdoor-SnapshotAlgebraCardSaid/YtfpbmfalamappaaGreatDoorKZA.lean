/- Parts of the proof, joined. No condition. -/
import Derived.Test.YtfpbmfalamappaaGreatDoorKAL
import Derived.Test.YtfpbmfalamappaaGreatDoorProg
import Derived.WalkKit
import Derived.WalkSpells
import Derived.WalkLawsBesides
import Derived.Deep.QuietTactic
import Derived.BigQuiet
import Derived.Deep.DeepFit
import Derived.Deep.RegionHeld3
import Derived.Deep.AppendLies
import Derived.Maps.AppendAt
import Derived.Laws.AppendOwnNone
import Derived.Lib.Hide
import Derived.Test.YtfpbmfalamappaaGreatDoorKBC
import Derived.Test.YtfpbmfalamappaaGreatDoorKAS
import Derived.Test.YtfpbmfalamappaaGreatDoorKAW
import Derived.Test.YtfpbmfalamappaaGreatDoorKBD
import Derived.Test.YtfpbmfalamappaaGreatDoorKAJ
import Derived.Test.YtfpbmfalamappaaGreatDoorKAI
import Derived.Test.YtfpbmfalamappaaGreatDoorKBE
set_option linter.unusedSimpArgs false
set_option linter.unusedVariables false
namespace Go.Proofs.YtfpbmfalamappaaGreatDoor.St
open Go.RowKit

section
variable {α : Type} {enc : α → List Value} {k : Nat} {w w' : World} {B B' n : Nat} {A : Option Addr} {l : List α}

variable {E : TypeId} {base : Nat} {v : Value}

theorem wI (hk : ∀ x, (enc x).length = k) : ∀ (l : List α) (i : Nat) (x : α), l[i]? = some x → ∀ j, j < k → (l.flatMap enc)[i * k + j]? = (enc x)[j]?
  | [], i, x, h, j, hj => by simp at h
  | y :: l, 0, x, h, j, hj => by
    simp at h; subst h
    rw [List.flatMap_cons, List.getElem?_append_left (by rw [hk]; omega)]; simp
  | y :: l, i + 1, x, h, j, hj => by
    have h' : l[i]? = some x := by simpa using h
    have hj' : k ≤ (i + 1) * k + j := by rw [Nat.succ_mul]; omega
    rw [List.flatMap_cons, List.getElem?_append_right (by rw [hk]; omega), hk, ← wI hk l i x h' j hj]
    congr 1; rw [Nat.succ_mul]; omega

theorem Own.rd {c : Nat} (hk : ∀ x, (enc x).length = k) (h : Own enc k E w base (.slice A n c) l) : l.length = n ∧ Rd enc k w w.heap.size A n l := by
  have hrow := h
  unfold Own at h
  have hn : l.length = n := by
    rcases h.2 with ⟨hv, hx⟩ | ⟨g, cap, cur, hv, _⟩
    · injection hv with h1 h2 h3
      omega
    · injection hv with h1 h2 h3
      omega
  refine ⟨hn, hn, fun hpos => ?_⟩
  obtain ⟨g, cap, hv, _, hlt⟩ := h.form (by omega)
  have hA : A = some ⟨g, 0, none⟩ := by injection hv
  subst hA
  refine ⟨g, 0, rfl, hlt, fun i x hx j u hu => ?_⟩
  have hj : j < k := by rw [← hk x]; exact (List.getElem?_eq_some_iff.1 hu).1
  have := h.cells (g := g) rfl (i * k + j) u (by rw [wI hk l i x hx j hj]; exact hu)
  rw [← this]
  congr 1
  unfold Addr.add
  split
  · rename_i h0; simp [h0]
  · simp

end


end Go.Proofs.YtfpbmfalamappaaGreatDoor.St
namespace Go.Proofs.YtfpbmfalamappaaGreatDoor
open Go.RowKit Go.MapKept
set_option maxRecDepth 100000
set_option maxHeartbeats 8000000
noncomputable section
def mV (a_a : Bag) (a_b : Bag) : Option (Bag) := bif (decide (a_a.rows.length ≤ 5864062014805)) then (bif (decide (a_a.rows.length + a_b.rows.length ≤ 5864062014805)) then ((mI a_a.kinds (a_a.rows ++ a_b.rows)).bind fun r_1 => some r_1) else none) else none
theorem nU {a_a : Bag} {a_b : Bag} {r : Bag} (H : mV a_a a_b = some r) : Pure Tryz.prog 23 [.agg (cBag a_a), .agg (cBag a_b)] (.val (.agg (cBag r))) := by
  unfold mV at H
  refine po_ Tryz.func23 Tryz.ntmps23 ?_
  obtain ⟨g1, H⟩ := aK H
  obtain ⟨g2, H⟩ := aK H
  obtain ⟨r_1, c3, H⟩ := bd_ H
  replace c3 := mq c3
  try simp only [List.map_append, List.map_cons, List.map_nil, List.nil_append, tE_eq, tP_eq] at c3
  cases H
  exact go_
end
def dQ (M : List (ByteArray × Int)) : List (AC × AV) := M.map fun p => (.str p.1, .one (.c (.int .i64 p.2)))
def dm : List (ByteArray × Int) → ByteArray → Int
  | [], _ => 0
  | p :: r, s => if s = p.1 then p.2 else dm r s
def d9 : List (ByteArray × Int) → ByteArray → Int → List (ByteArray × Int)
  | [], s, n => [(s, n)]
  | p :: r, s, n => if s = p.1 then (s, n) :: r else p :: d9 r s n
theorem Bi (M : List (ByteArray × Int)) : strKeys (dQ M) := by intro p hp; obtain ⟨q, _, rfl⟩ := List.mem_map.1 hp; exact ⟨q.1, rfl⟩
theorem OY (s : ByteArray) : ∀ (M : List (ByteArray × Int)), (iR s (dQ M) = none ∧ dm M s = 0 ∧ ∀ n, d9 M s n = M ++ [(s, n)]) ∨ (∃ i p, iR s (dQ M) = some i ∧ M[i]? = some p ∧ dm M s = p.2 ∧ ∀ n, d9 M s n = M.set i (s, n))
  | [] => .inl ⟨rfl, rfl, fun _ => rfl⟩
  | p :: r => by
    have hk : iR s (dQ (p :: r)) = if s = p.1 then some 0 else (iR s (dQ r)).map (· + 1) := rfl
    by_cases h : s = p.1
    · exact .inr ⟨0, p, by rw [hk, if_pos h], rfl, by simp [dm, h], fun n => by simp [d9, h]⟩
    · rcases OY s r with ⟨h1, h2, h3⟩ | ⟨i, q, h1, h2, h3, h4⟩
      · exact .inl ⟨by rw [hk, if_neg h, h1]; rfl, by simp [dm, h, h2], fun n => by simp [d9, h, h3]⟩
      · exact .inr ⟨i + 1, q, by rw [hk, if_neg h, h1]; rfl, by simpa using h2, by simp [dm, h, h3], fun n => by simp [d9, h, h4]⟩
theorem UM (M : List (ByteArray × Int)) (s : ByteArray) : qB (dQ M) s (.one (.c (.int .i64 0))) = .one (.c (.int .i64 (dm M s))) := by
  unfold qB
  rcases OY s M with ⟨h1, h2, _⟩ | ⟨i, p, h1, h2, h3, _⟩
  · rw [h1, h2]
  · have : (dQ M)[i]? = some (.str p.1, .one (.c (.int .i64 p.2))) := by unfold dQ; rw [List.getElem?_map, h2]; rfl
    rw [h1]; simp only [this]; rw [h3]
theorem Xe (M : List (ByteArray × Int)) (s : ByteArray) (n : Int) : DI (dQ M) s (.one (.c (.int .i64 n))) = dQ (d9 M s n) := by
  unfold DI
  rcases OY s M with ⟨h1, _, h3⟩ | ⟨i, p, h1, h2, _, h4⟩
  · rw [h1, h3]; simp [dQ]
  · rw [h1, h4]; unfold dQ; rw [List.map_set]
theorem SG (σ : List Nat) (M : List (ByteArray × Int)) : (Ob.map (dQ M)).ren σ = Ob.map (dQ M) := by
  simp only [Ob.ren, dQ, List.map_map]; rfl
theorem bN (n : Nat) (M : List (ByteArray × Int)) : (Ob.map (dQ M)).below n := by
  intro p hp; obtain ⟨q, _, rfl⟩ := List.mem_map.1 hp; trivial
theorem QF {P : Program} {ti : TI} {ρ : Operand → Option AV} {L : List Ob} {t : TypeId} {kt et : TypeId} {x k : Operand} {s : ByteArray} {id : Nat} {M : List (ByteArray × Int)} (hti : TIok P ti) (hx : ρ x = some (.one (.mp id))) (hk : ρ k = some (.one (.c (.str s)))) (hL : L[id]? = some (.map (dQ M)))
    (ht : ti.kind t = some (.map kt et)) (hkt : ti.kind kt = some .string) (hz : ti.zero et = some (.one (.c (.int .i64 0)))) : rX P ρ L (.lookup t x k false) (.one (.c (.int .i64 (dm M s)))) L := by
  have := yE (P := P) hx hk hL (Bi M) (hti.kind _ _ ht) (hti.kind _ _ hkt) (hti.zero _ _ hz)
  rw [UM] at this
  exact this
theorem wJ {P : Program} {ti : TI} {ρ : Operand → Option AV} {L : List Ob} {t : TypeId} {kt et : TypeId} {x k y : Operand} {s : ByteArray} {id : Nat} {n : Int} {M : List (ByteArray × Int)} (hti : TIok P ti) (hx : ρ x = some (.one (.mp id))) (hk : ρ k = some (.one (.c (.str s)))) (hy : ρ y = some (.one (.c (.int .i64 n)))) (hL : L[id]? = some (.map (dQ M)))
    (ht : ti.kind t = some (.map kt et)) (hkt : ti.kind kt = some .string) : rX P ρ L (.mapUpdate t x k y) .undef (L.set id (.map (dQ (d9 M s n)))) := by
  have := qp (P := P) hx hk hy hL (Bi M) (hti.kind _ _ ht) (hti.kind _ _ hkt)
  rw [Xe] at this
  exact this
def LV (M : List (ByteArray × Int)) (k : ByteArray) : List (ByteArray × Int) := d9 M k (dm M k + 1)
def qo (ks : List ByteArray) : List (ByteArray × Int) := ks.foldl LV []
theorem nX (s t : ByteArray) (n : Int) : ∀ (M : List (ByteArray × Int)), dm (d9 M s n) t = if t = s then n else dm M t
  | [] => by by_cases h : t = s <;> simp [d9, dm, h]
  | p :: r => by
    unfold d9
    by_cases h : s = p.1
    · rw [if_pos h]
      by_cases h2 : t = s
      · simp [dm, h2]
      · have : ¬ t = p.1 := fun e => h2 (e.trans h.symm)
        simp [dm, h2, this]
    · rw [if_neg h]
      have ih := nX s t n r
      by_cases h2 : t = p.1
      · have : ¬ t = s := fun e => h (e.symm.trans h2)
        simp [dm, h2, this]
        intro e; exact absurd e.symm h
      · simp only [dm, h2, if_false, ih]
theorem Uw (ks : List ByteArray) (k : ByteArray) : qo (ks ++ [k]) = d9 (qo ks) k (dm (qo ks) k + 1) := by unfold qo; rw [List.foldl_append]; rfl
theorem Iz (ks : List ByteArray) (s : ByteArray) : 0 ≤ dm (qo ks) s ∧ dm (qo ks) s ≤ ks.length := by
  have : ∀ (ks : List ByteArray) (M : List (ByteArray × Int)) (b : Int), (∀ s, 0 ≤ dm M s ∧ dm M s ≤ b) → ∀ s, 0 ≤ dm (ks.foldl LV M) s ∧ dm (ks.foldl LV M) s ≤ b + ks.length := by
    intro ks
    induction ks with
    | nil => intro M b h s; simpa using h s
    | cons k ks ih =>
      intro M b h s
      rw [List.foldl_cons]
      have := ih (LV M k) (b + 1) (fun t => by
        unfold LV
        rw [nX]
        have h1 := h k; have h2 := h t
        split <;> omega) s
      simp only [List.length_cons]; omega
  have := this ks [] 0 (fun s => by simp [dm]) s
  simpa [qo] using this
theorem Pe (it : Int → ByteArray) (l : List (List Val)) (hl : l.length ≤ 1000000) (hk : ∀ r ∈ l, Pure Tryz.prog 54 [.one (bO r)] (.val (.one (.str (dD it r))))) : Run Tryz.prog 102 [] [.one (.c (bM l))] [.map (dQ (qo (l.map (dD it))))] (.one (.mp 0)) := by
  refine bQ dP Tryz.func102 rfl rfl Tryz.ntmps102 (by simp) ?_
  simp only [j4]
  obtain ⟨n, hn⟩ : ∃ n, l.length = n := ⟨_, rfl⟩
  repeat' (first
    | refine st_nil ?_
    | refine ay rfl rfl rfl rfl ph_ ?_
    | refine az rfl rfl rfl rfl ph_ ?_
    | refine sS_ rfl rfl rfl ph_ ?_
    | refine aC rfl rfl rfl rfl ph_ ?_
    | refine aj rfl rfl rfl ?_
    | refine sk0_ rfl rfl ?_
    | (refine aM rfl (fun hb => ?_) (fun hb => ?_) <;> (first | exact (fx_ hb).elim | rw [hb]))
    | refine aw_seq ?_
    | refine aw_region dP _ rfl ?_
    | refine aw_drawn2 jh _ rfl mixed (by decide +kernel) ?_
    | (refine ah rfl (fun hb => ?_) (fun hb => ?_) <;> (try exact (fx_ hb).elim))
    | refine aw_block ?_
    | refine aw_exit ?_
    | refine aw_ret ?_
    | refine aw_skip ?_
    | (refine cZ rfl rfl rfl rfl rfl jZ ?_))
  refine df (fun i : Nat => [(3, .one (.mp 0)), (7, .one (.c (bM l))), (8, .one (.c (.int .i64 n))), (9, .one (.c (.int .i64 i)))]) (fun i => [.map (dQ (qo ((l.take i).map (dD it))))]) (fun i => i ≤ n) (fun i => n - i) 0 (by omega) (fun _ _ => Nat.zero_le _)
    (fm_ ⟨rfl, rfl, aT (by simp [hn]), rfl, trivial⟩ [] rfl ⟨by show 0 < 1; omega, trivial, trivial, trivial, trivial⟩ ⟨bN _ _, trivial⟩) ?_
  intro i hi
  by_cases hlt : i < n
  · obtain ⟨r, hx⟩ := gol_ (show i < l.length by omega)
    have hb2 := Iz ((l.take i).map (dD it)) (dD it r)
    have hcl : ((l.take i).map (dD it)).length = i := by simp; omega
    have hnx : qo ((l.take (i + 1)).map (dD it)) = d9 (qo ((l.take i).map (dD it))) (dD it r) (dm (qo ((l.take i).map (dD it))) (dD it r) + 1) := by rw [bS hx, List.map_append]; exact Uw _ _
    have hw : IntKind.i64.wrap (dm (qo ((l.take i).map (dD it))) (dD it r) + 1) = dm (qo ((l.take i).map (dD it))) (dD it r) + 1 := bJ (by omega)
    repeat' (first
      | refine st_nil ?_
      | refine ay rfl rfl rfl rfl ph_ ?_
      | (refine aW rfl rfl rfl rfl rfl rfl rfl rfl (bg hx) ?_ ?_; · exact ⟨by omega, rfl⟩)
      | refine az rfl rfl rfl rfl ph_ ?_
      | refine sS_ rfl rfl rfl ph_ ?_
      | refine aC rfl rfl rfl rfl ph_ ?_
      | refine aj rfl rfl rfl ?_
      | refine sk0_ rfl rfl ?_
      | refine aG rfl rfl rfl rfl (hk r (List.mem_of_getElem? hx)) rfl ?_
      | (refine aM rfl (fun hb => ?_) (fun hb => ?_) <;> (first | exact (fx_ hb).elim | rw [hb]))
      | refine aw_seq ?_
      | refine aw_region dP _ rfl ?_
      | refine aw_drawn2 jh _ rfl mixed (by decide +kernel) ?_
      | (refine ah rfl (fun hb => ?_) (fun hb => ?_) <;> (try exact (fx_ hb).elim))
      | refine aw_block ?_
      | refine aw_exit ?_
      | refine aw_ret ?_
      | refine aw_skip ?_
      | (refine dB rfl rfl rfl rfl rfl (QF (M := qo ((l.take i).map (dD it))) dP rfl rfl rfl rfl rfl rfl) ?_)
      | (refine uo rfl rfl rfl rfl (wJ (M := qo ((l.take i).map (dD it))) dP rfl rfl rfl rfl rfl rfl) ?_))
    exact ⟨i + 1, by omega, by omega, fm_ ⟨rfl, rfl, rfl, aT (bu (by omega) (by omega)), trivial⟩ [] (by rw [hnx, hw]; rfl) ⟨by show 0 < 1; omega, trivial, trivial, trivial, trivial⟩ ⟨bN _ _, trivial⟩⟩
  · have htk : l.take i = l := List.take_of_length_le (by omega)
    rw [htk]
    repeat' (first
      | refine st_nil ?_
      | refine ay rfl rfl rfl rfl ph_ ?_
      | refine az rfl rfl rfl rfl ph_ ?_
      | refine sS_ rfl rfl rfl ph_ ?_
      | refine aC rfl rfl rfl rfl ph_ ?_
      | refine aj rfl rfl rfl ?_
      | refine sk0_ rfl rfl ?_
      | (refine aM rfl (fun hb => ?_) (fun hb => ?_) <;> (first | exact (fx_ hb).elim | rw [hb]))
      | refine aw_seq ?_
      | refine aw_region dP _ rfl ?_
      | refine aw_drawn2 jh _ rfl mixed (by decide +kernel) ?_
      | (refine ah rfl (fun hb => ?_) (fun hb => ?_) <;> (try exact (fx_ hb).elim))
      | refine aw_block ?_
      | refine aw_exit ?_
      | refine aw_ret ?_
      | refine aw_skip ?_)
    exact ⟨.inr rfl, ⟨.inl ⟨2, rfl, rfl⟩, ⟨[], rfl⟩, Nat.zero_le _, cz ⟨bN _ _, trivial⟩, by show 0 < 1; omega⟩⟩
structure Xl where
  M : List (ByteArray × Int)
  W : List (List Val)
  O : List (List Val)
def yU (it : Int → ByteArray) (s : Xl) (r : List Val) : Xl := if 0 < dm s.M (dD it r) then ⟨d9 s.M (dD it r) (dm s.M (dD it r) - 1), s.W ++ [r], s.O⟩ else ⟨s.M, s.W, s.O ++ [r]⟩
def Hz (it : Int → ByteArray) (a b : List (List Val)) : Xl := a.foldl (yU it) ⟨qo (b.map (dD it)), [], []⟩
theorem UB (it : Int → ByteArray) (a b : List (List Val)) (r : List Val) : Hz it (a ++ [r]) b = yU it (Hz it a b) r := by unfold Hz; rw [List.foldl_append]; rfl
theorem Sn (it : Int → ByteArray) (a b : List (List Val)) (s : ByteArray) : 0 ≤ dm (Hz it a b).M s ∧ dm (Hz it a b).M s ≤ b.length := by
  have : ∀ (a : List (List Val)) (S : Xl) (n : Int), (∀ s, 0 ≤ dm S.M s ∧ dm S.M s ≤ n) → ∀ s, 0 ≤ dm (a.foldl (yU it) S).M s ∧ dm (a.foldl (yU it) S).M s ≤ n := by
    intro a
    induction a with
    | nil => intro S n h; exact h
    | cons r a ih =>
      intro S n h
      rw [List.foldl_cons]
      refine ih _ n fun t => ?_
      unfold yU
      split
      · simp only; rw [nX]; have := h (dD it r); have := h t; split <;> omega
      · exact h t
  have h := this a ⟨qo (b.map (dD it)), [], []⟩ b.length (fun s => by have := Iz (b.map (dD it)) s; simpa using this) s
  exact h
theorem Wd (it : Int → ByteArray) (a b : List (List Val)) : (Hz it a b).W.length + (Hz it a b).O.length = a.length := by
  have : ∀ (a : List (List Val)) (S : Xl), (a.foldl (yU it) S).W.length + (a.foldl (yU it) S).O.length = S.W.length + S.O.length + a.length := by
    intro a
    induction a with
    | nil => intro S; simp
    | cons r a ih => intro S; rw [List.foldl_cons, ih]; unfold yU; split <;> simp <;> omega
  have := this a ⟨qo (b.map (dD it)), [], []⟩
  simpa [Hz] using this
theorem a_ {n : Nat} {x y : AC} : (Ob.box [.c x, .c y]).below n := by
  intro z hz
  rcases List.mem_cons.1 hz with rfl | hz
  · trivial
  rcases List.mem_cons.1 hz with rfl | hz
  · trivial
  cases hz
set_option maxHeartbeats 2000000 in
theorem Oh (it : Int → ByteArray) (ka kb : List Int) (a b : List (List Val)) (ha : a.length ≤ 1000000) (hb0 : b.length ≤ 1000000) (hka : ∀ r ∈ a, Pure Tryz.prog 54 [.one (bO r)] (.val (.one (.str (dD it r))))) (hkb : ∀ r ∈ b, Pure Tryz.prog 54 [.one (bO r)] (.val (.one (.str (dD it r))))) : Pure Tryz.prog 64 [.agg [bB ka, bM a], .agg [bB kb, bM b]] (.tup [.one (bM (Hz it a b).W), .one (bM (Hz it a b).O)]) := by
  refine pa_ dP Tryz.func64 rfl rfl Tryz.ntmps64 (by simp) ?_
  simp only [argT, PV.av, List.map_cons, List.map_nil]
  obtain ⟨n, hn⟩ : ∃ n, a.length = n := ⟨_, rfl⟩
  have hml : (((a.map fun r => [bO r]).length : Nat) : Int) = n := by simp [hn]
  repeat' (first
    | refine st_nil ?_
    | refine ay rfl rfl rfl rfl ph_ ?_
    | refine az rfl rfl rfl rfl ph_ ?_
    | refine sS_ rfl rfl rfl ph_ ?_
    | refine aC rfl rfl rfl rfl ph_ ?_
    | refine aj rfl rfl rfl ?_
    | refine sk0_ rfl rfl ?_
    | (refine dF [] rfl rfl rfl rfl (Pe it b hb0 hkb) rfl ⟨rfl, by simp, fun i x hx => by simp at hx, fun x hx => by simp at hx, kU ⟨trivial, trivial⟩⟩ rfl (show joinL [] _ [_] = [.box [.c (bB ka), .c (bM a)], .box [.c (bB kb), .c (bM b)], .map (dQ (qo (b.map (dD it))))] by simp only [joinL, List.map_cons, SG]; rfl) ?_)
    | (refine aM rfl (fun hb => ?_) (fun hb => ?_) <;> (first | exact (fx_ hb).elim | rw [hb]))
    | refine aw_seq ?_
    | refine aw_region dP _ rfl ?_
    | refine aw_drawn2 jh _ rfl mixed (by decide +kernel) ?_
    | (refine ah rfl (fun hb => ?_) (fun hb => ?_) <;> (try exact (fx_ hb).elim))
    | refine aw_block ?_
    | refine aw_exit ?_
    | refine aw_ret ?_
    | refine aw_skip ?_)
  refine dh 7 1 rfl ?_
  refine dh 8 1 rfl ?_
  refine df (fun i : Nat => [(6, .one (.mp 2)), (7, .one (.own ((Hz it (a.take i) b).W.map fun r => [bO r]) 3)), (8, .one (.own ((Hz it (a.take i) b).O.map fun r => [bO r]) 4)), (16, .one (.c (bM a))), (17, .one (.c (.int .i64 n))), (18, .one (.c (.int .i64 i)))]) (fun i => [.box [.c (bB ka), .c (bM a)], .box [.c (bB kb), .c (bM b)], .map (dQ (Hz it (a.take i) b).M), .spare (Hz it (a.take i) b).W.length 1, .spare (Hz it (a.take i) b).O.length 1]) (fun i => i ≤ n) (fun i => n - i) 0 (by omega) (fun _ _ => Nat.zero_le _)
    (fm_ ⟨rfl, rfl, rfl, rfl, aT hml, rfl, trivial⟩ [] rfl ⟨by show 2 < 5; omega, by show 3 < 5; omega, by show 4 < 5; omega, trivial, trivial, trivial, trivial⟩ ⟨a_, a_, bN _ _, trivial, trivial, trivial⟩) ?_
  intro i hi
  by_cases hlt : i < n
  · obtain ⟨r, hx⟩ := gol_ (show i < a.length by omega)
    have hb2 := Sn it (a.take i) b (dD it r)
    have hsl := Wd it (a.take i) b
    rw [List.length_take] at hsl
    have hnx : Hz it (a.take (i + 1)) b = yU it (Hz it (a.take i) b) r := by rw [bS hx]; exact UB _ _ _ _
    unfold yU at hnx
    generalize Hz it (a.take i) b = S at hb2 hsl hnx
    obtain ⟨M, W, O⟩ := S
    dsimp only at hb2 hsl hnx ⊢
    have hw : IntKind.i64.wrap (dm M (dD it r) - 1) = dm M (dD it r) - 1 := bJ (by omega)
    have hWl : (W.map fun r => [bO r]).length = W.length := by simp
    have hOl : (O.map fun r => [bO r]).length = O.length := by simp
    repeat' (first
      | refine st_nil ?_
      | (refine ay rfl rfl rfl rfl ?_ ?_; · (repeat' (first | exact trivial | rfl | exact Nat.le_of_ble_eq_true rfl | omega | (intro e he; simp at he; subst he; rfl) | exact hWl | exact hOl | (show (_ + 1) * 24 ≤ _; omega) | (show _ + 1 ≤ _; omega) | apply And.intro)))
      | (refine aW rfl rfl rfl rfl rfl rfl rfl rfl (bg hx) ?_ ?_; · exact ⟨by omega, rfl⟩)
      | (refine az rfl rfl rfl rfl ?_ ?_; · (repeat' (first | exact trivial | rfl | exact Nat.le_of_ble_eq_true rfl | omega | (intro e he; simp at he; subst he; rfl) | exact hWl | exact hOl | (show (_ + 1) * 24 ≤ _; omega) | (show _ + 1 ≤ _; omega) | apply And.intro)))
      | (refine sS_ rfl rfl rfl ?_ ?_; · (repeat' (first | exact trivial | rfl | exact Nat.le_of_ble_eq_true rfl | omega | (intro e he; simp at he; subst he; rfl) | exact hWl | exact hOl | (show (_ + 1) * 24 ≤ _; omega) | (show _ + 1 ≤ _; omega) | apply And.intro)))
      | (refine aC rfl rfl rfl rfl ?_ ?_; · (repeat' (first | exact trivial | rfl | exact Nat.le_of_ble_eq_true rfl | omega | (intro e he; simp at he; subst he; rfl) | exact hWl | exact hOl | (show (_ + 1) * 24 ≤ _; omega) | (show _ + 1 ≤ _; omega) | apply And.intro)))
      | refine aj rfl rfl rfl ?_
      | refine sk0_ rfl rfl ?_
      | refine aG rfl rfl rfl rfl (hka r (List.mem_of_getElem? hx)) rfl ?_
      | (refine aM rfl (fun hb => ?_) (fun hb => ?_) <;> (first | exact (fx_ hb).elim | rw [hb]))
      | refine aw_seq ?_
      | refine aw_region dP _ rfl ?_
      | refine aw_drawn2 jh _ rfl mixed (by decide +kernel) ?_
      | (refine ah rfl (fun hb => ?_) (fun hb => ?_) <;> (try exact (fx_ hb).elim))
      | refine aw_block ?_
      | refine aw_exit ?_
      | refine aw_ret ?_
      | refine aw_skip ?_
      | (refine dB rfl rfl rfl rfl rfl (QF (M := M) dP rfl rfl rfl rfl rfl rfl) ?_)
      | (refine uo rfl rfl rfl rfl (wJ (M := M) dP rfl rfl rfl rfl rfl rfl) ?_))
    · have hp : 0 < dm M (dD it r) := of_decide_eq_true hb
      rw [if_pos hp] at hnx
      exact ⟨i + 1, by omega, by omega, by rw [hnx]; exact fm_ ⟨rfl, cB (by rw [List.map_append]; rfl), rfl, rfl, rfl, aT (bu (by omega) (by omega)), trivial⟩ [] (by rw [hw]; simp) ⟨by show 2 < 5; omega, by show 3 < 5; omega, by show 4 < 5; omega, trivial, trivial, trivial, trivial⟩ ⟨a_, a_, bN _ _, trivial, trivial, trivial⟩⟩
    · have hp : ¬ 0 < dm M (dD it r) := of_decide_eq_false hb
      rw [if_neg hp] at hnx
      exact ⟨i + 1, by omega, by omega, by rw [hnx]; exact fm_ ⟨rfl, rfl, cB (by rw [List.map_append]; rfl), rfl, rfl, aT (bu (by omega) (by omega)), trivial⟩ [] (by simp) ⟨by show 2 < 5; omega, by show 3 < 5; omega, by show 4 < 5; omega, trivial, trivial, trivial, trivial⟩ ⟨a_, a_, bN _ _, trivial, trivial, trivial⟩⟩
  · have htk : a.take i = a := List.take_of_length_le (by omega)
    rw [htk]
    repeat' (first
      | refine st_nil ?_
      | refine ay rfl rfl rfl rfl ph_ ?_
      | refine az rfl rfl rfl rfl ph_ ?_
      | refine sS_ rfl rfl rfl ph_ ?_
      | refine aC rfl rfl rfl rfl ph_ ?_
      | refine aj rfl rfl rfl ?_
      | refine sk0_ rfl rfl ?_
      | (refine aM rfl (fun hb => ?_) (fun hb => ?_) <;> (first | exact (fx_ hb).elim | rw [hb]))
      | refine aw_seq ?_
      | refine aw_region dP _ rfl ?_
      | refine aw_drawn2 jh _ rfl mixed (by decide +kernel) ?_
      | (refine ah rfl (fun hb => ?_) (fun hb => ?_) <;> (try exact (fx_ hb).elim))
      | refine aw_block ?_
      | refine aw_exit ?_
      | refine aw_ret ?_
      | refine aw_skip ?_)
    exact aO (aR rfl (by trivial) rfl)
theorem ND (r : List Val) : ∀ (b : List (List Val)) (M : List (ByteArray × Int)), dm ((b.map eX).foldl LV M) (eX r) = dm M (eX r) + (b.count r : Int)
  | [], M => by simp
  | x :: b, M => by
    rw [List.map_cons, List.foldl_cons, ND r b]
    unfold LV
    rw [nX]
    by_cases e : r = x
    · subst e
      rw [if_pos rfl, List.count_cons_self]
      omega
    · have e2 : ¬ x = r := fun h => e h.symm
      rw [if_neg (fun h => e (vO h)), List.count_cons_of_ne e2]
theorem FK : ∀ (a : List (List Val)) (n : List Val → Nat) (S : Xl), (∀ r, dm S.M (eX r) = (n r : Int)) → (a.foldl (yU dG) S).W = S.W ++ (iy n a).1 ∧ (a.foldl (yU dG) S).O = S.O ++ (iy n a).2
  | [], n, S, h => by simp [iy]
  | x :: a, n, S, h => by
    have hx : dm S.M (dD dG x) = (n x : Int) := h x
    have e0 : yU dG S x = if 0 < dm S.M (dD dG x) then ⟨d9 S.M (dD dG x) (dm S.M (dD dG x) - 1), S.W ++ [x], S.O⟩ else ⟨S.M, S.W, S.O ++ [x]⟩ := rfl
    rw [List.foldl_cons, e0]
    unfold iy
    by_cases hp : 0 < n x
    · rw [if_pos hp, if_pos (by rw [hx]; omega)]
      have ih := FK a (fun y => if y = x then n x - 1 else n y) ⟨d9 S.M (dD dG x) (dm S.M (dD dG x) - 1), S.W ++ [x], S.O⟩ (fun r => by
        show dm (d9 S.M (eX x) _) (eX r) = _
        rw [nX, hx]
        by_cases e : r = x
        · subst e
          rw [if_pos rfl, if_pos rfl]
          omega
        · rw [if_neg (fun h => e (vO h)), if_neg e]
          exact h r)
      rw [ih.1, ih.2]
      simp
    · rw [if_neg hp, if_neg (by rw [hx]; omega)]
      have ih := FK a n ⟨S.M, S.W, S.O ++ [x]⟩ h
      rw [ih.1, ih.2]
      simp
theorem Tc (a b : List (List Val)) : (Hz dG a b).W = (iy (fun r => b.count r) a).1 ∧ (Hz dG a b).O = (iy (fun r => b.count r) a).2 := by
  have := FK a (fun r => b.count r) ⟨qo (b.map eX), [], []⟩ (fun r => by
    show dm ((b.map eX).foldl LV []) (eX r) = _
    rw [ND]
    show (0 : Int) + _ = _
    omega)
  rw [List.nil_append, List.nil_append] at this
  exact this
set_option maxHeartbeats 8000000
def xI (a b : Bag) : Option (List (List Val) × List (List Val)) := bif C_ a.rows && C_ b.rows then some (iy (fun r => b.rows.count r) a.rows) else none
theorem G8 {a b : Bag} {r : List (List Val) × List (List Val)} (H : xI a b = some r) : Pure Tryz.prog 64 [.agg (cBag a), .agg (cBag b)] (.tup [.one (.lst (r.1.map (fun x => [AC.lst (x.map cV)]))), .one (.lst (r.2.map (fun x => [AC.lst (x.map cV)])))]) := by
  unfold xI at H
  obtain ⟨g, H⟩ := nP H
  obtain rfl := Option.some.inj H
  rw [Bool.and_eq_true] at g
  obtain ⟨ha, hka⟩ := GI g.1
  obtain ⟨hb, hkb⟩ := GI g.2
  have := Oh dG a.kinds b.kinds a.rows b.rows ha hb (fun r hr => xE r (hka r hr).1 (hka r hr).2) (fun r hr => xE r (hkb r hr).1 (hkb r hr).2)
  rw [(Tc a.rows b.rows).1, (Tc a.rows b.rows).2] at this
  exact this
set_option maxHeartbeats 8000000
noncomputable section
def qX (a_a : Bag) (a_b : Bag) : Option (Bag) := (xI a_a a_b).bind fun r_1 => (mI a_a.kinds r_1.2).bind fun r_2 => some r_2
theorem Di {a_a : Bag} {a_b : Bag} {r : Bag} (H : qX a_a a_b = some r) : Pure Tryz.prog 25 [.agg (cBag a_a), .agg (cBag a_b)] (.val (.agg (cBag r))) := by
  unfold qX at H
  refine po_ Tryz.func25 Tryz.ntmps25 ?_
  obtain ⟨r_1, c1, H⟩ := bd_ H
  replace c1 := G8 c1
  obtain ⟨r_2, c2, H⟩ := bd_ H
  replace c2 := mq c2
  cases H
  exact go_
def wU (a_a : Bag) (a_b : Bag) : Option (Bag) := (xI a_a a_b).bind fun r_1 => (mI a_a.kinds r_1.1).bind fun r_2 => some r_2
theorem F9 {a_a : Bag} {a_b : Bag} {r : Bag} (H : wU a_a a_b = some r) : Pure Tryz.prog 27 [.agg (cBag a_a), .agg (cBag a_b)] (.val (.agg (cBag r))) := by
  unfold wU at H
  refine po_ Tryz.func27 Tryz.ntmps27 ?_
  obtain ⟨r_1, c1, H⟩ := bd_ H
  replace c1 := G8 c1
  obtain ⟨r_2, c2, H⟩ := bd_ H
  replace c2 := mq c2
  cases H
  exact go_
def xO (a_a : (List Val)) (a_b : (List Val)) : Option (Bool) := (CK a_a a_b).bind fun r_1 => some (decide (r_1 = (0 : Int)))
theorem Pj {a_a : (List Val)} {a_b : (List Val)} {r : Bool} (H : xO a_a a_b = some r) : Pure Tryz.prog 105 [.one (.lst (a_a.map cV)), .one (.lst (a_b.map cV))] (.val (.one (.bool r))) := by
  unfold xO at H
  refine po_ Tryz.func105 Tryz.ntmps105 ?_
  obtain ⟨r_1, c1, H⟩ := bd_ H
  replace c1 := M8 c1
  cases H
  exact go_
def zz (a_s1 : (List (List Val))) (a_s2 : (List (List Val))) (a_eq : (List Val) → (List Val) → Option (Bool)) : (Int) → Option (Step (Int) (Bool)) := fun s => match s with
  | v_2 => bif (decide (v_2 < ((a_s1.length : Nat) : Int))) then (aL a_s1 v_2).bind fun x_4 => (aL a_s2 v_2).bind fun x_5 => (a_eq x_4 x_5).bind fun r_6 => bif (!r_6) then some (.ret false) else
 some (.next (IntKind.i64.wrap (v_2 + (1 : Int)))) else
 some (.exit v_2)
def uT : Sum (Int) (Bool) → Option ((Bool))
  | .inl v_2 => some true
  | .inr q => some q
def MR (a_s1 : (List (List Val))) (a_s2 : (List (List Val))) (a_eq : (List Val) → (List Val) → Option (Bool)) : Option (Bool) := bif (decide (((a_s1.length : Nat) : Int) ≠ ((a_s2.length : Nat) : Int))) then some false else
 (ax (zz a_s1 a_s2 a_eq) fuel (0 : Int)).bind (uT)
theorem UU {a_s1 : (List (List Val))} {a_s2 : (List (List Val))} {a_eq : (List Val) → (List Val) → Option (Bool)} {r : Bool} {F_a_eq : FuncId} {caps_a_eq : List AC} (hf_a_eq : ∀ (y0 : (List Val)) (y1 : (List Val)) (r : Bool), a_eq y0 y1 = some r → Pure Tryz.prog F_a_eq ([.one (.lst (y0.map cV)), .one (.lst (y1.map cV))] ++ caps_a_eq.map .one) (.val (.one (.bool r)))) (H : MR a_s1 a_s2 a_eq = some r) : Pure Tryz.prog 104 [.one (.lst (a_s1.map (fun x => [AC.lst (x.map cV)]))), .one (.lst (a_s2.map (fun x => [AC.lst (x.map cV)]))), .one (.fn F_a_eq caps_a_eq)] (.val (.one (.bool r))) := by
  unfold MR at H
  refine po_ Tryz.func104 Tryz.ntmps104 ?_
  rcases cnd_ H with ⟨q_1, H⟩ | ⟨q_1, H⟩
  · cases H
    exact go_
  refine bC ?_
  refine alM_ (fun s : Int => match s with | v_2 => [(1, .one (.c (.lst (a_s2.map (fun x => [AC.lst (x.map cV)]))))), (2, .one (.c (.fn F_a_eq caps_a_eq))), (15, .one (.c (.lst (a_s1.map (fun x => [AC.lst (x.map cV)]))))), (16, .one (.c (.int .i64 ((a_s1.length : Nat) : Int)))), (17, .one (.c (.int .i64 v_2)))]) (fun s => match s with | v_2 => []) H (fun _ => Nat.zero_le _)
    (fm_ bV [] rfl bE trivial) ?_
  rintro v_2 st1 hb1 hk1
  unfold zz at hb1
  dsimp only at hb1 ⊢
  rcases cnd_ hb1 with ⟨q_3, hb1⟩ | ⟨q_3, hb1⟩
  · obtain ⟨x_4, i1z, i1, i1x, hb1⟩ := aX (f := (fun x => [AC.lst (x.map cV)])) hb1
    obtain ⟨x_5, i2z, i2, i2x, hb1⟩ := aX (f := (fun x => [AC.lst (x.map cV)])) hb1
    obtain ⟨r_6, c3, hb1⟩ := bd_ hb1
    replace c3 := hf_a_eq _ _ _ c3
    try simp only [List.map_append, List.map_cons, List.map_nil, List.nil_append, tE_eq, tP_eq] at c3
    rcases cnd_ hb1 with ⟨q_7, hb1⟩ | ⟨q_7, hb1⟩
    · cases hb1
      have hx1 : uT (.inr false) = some _ := hk1
      unfold uT at hx1
      dsimp only at hx1
      cases hx1
      exact go_
    cases hb1
    refine bC ?_
    exact ⟨_, rfl, fm_ bV [] rfl bE trivial⟩
  cases hb1
  have hx1 : uT (.inl v_2) = some _ := hk1
  unfold uT at hx1
  dsimp only at hx1
  cases hx1
  exact go_
def KZ (a_a : (List (List Val))) (a_b : (List (List Val))) : Option (Bool) := (tq a_a).bind fun r_1 => (tq a_b).bind fun r_2 => (MR r_1 r_2 (fun x0 x1 => xO x0 x1)).bind fun r_3 => some r_3
theorem Su {a_a : (List (List Val))} {a_b : (List (List Val))} {r : Bool} (H : KZ a_a a_b = some r) : Pure Tryz.prog 67 [.one (.lst (a_a.map (fun x => [AC.lst (x.map cV)]))), .one (.lst (a_b.map (fun x => [AC.lst (x.map cV)])))] (.val (.one (.bool r))) := by
  unfold KZ at H
  refine po_ Tryz.func67 Tryz.ntmps67 ?_
  obtain ⟨r_1, c1, H⟩ := bd_ H
  replace c1 := Cr c1
  obtain ⟨r_2, c2, H⟩ := bd_ H
  replace c2 := Cr c2
  obtain ⟨r_3, c3, H⟩ := bd_ H
  replace c3 := UU (F_a_eq := 105) (caps_a_eq := []) (fun x0 x1 r h => Pj h) c3
  try simp only [List.map_append, List.map_cons, List.map_nil, List.nil_append, tE_eq, tP_eq] at c3
  cases H
  exact go_
def uj (a_a : Bag) (a_b : Bag) : Option (Bool) := (KZ a_a.rows a_b.rows).bind fun r_1 => some r_1
theorem qE {a_a : Bag} {a_b : Bag} {r : Bool} (H : uj a_a a_b = some r) : Pure Tryz.prog 29 [.agg (cBag a_a), .agg (cBag a_b)] (.val (.one (.bool r))) := by
  unfold uj at H
  refine po_ Tryz.func29 Tryz.ntmps29 ?_
  obtain ⟨r_1, c1, H⟩ := bd_ H
  replace c1 := Su c1
  cases H
  exact go_
end
theorem rJ {a b : List (List Val)} (h : a.Perm b) : aI a = aI b := ol tCr_ (eH a) (eH b) ((bn a).trans (h.trans (bn b).symm))
theorem QP (a b : List (List Val)) : aI (aI (iy (fun r => b.count r) a).2 ++ aI (iy (fun r => b.count r) a).1) = aI a := by
  refine D8 (eH _) (eH _) fun r => ?_
  have := lC r a fun r => b.count r
  rw [fw, List.count_append, fw, fw, fw]
  omega
theorem Nt (p : List Val → Bool) (l : List (List Val)) : aI ((aI (fF [] l)).filter p) = aI (fF [] ((l.filter p))) := by
  refine D8 (eH _) (eH _) fun r => ?_
  rw [fw, fw, jF]
  by_cases hp : p r = true
  · rw [List.count_filter hp, fw, jF]
    simp [List.mem_filter, hp]
  · have h0 : ((aI (fF [] l)).filter p).count r = 0 := List.count_eq_zero.2 fun h => hp (List.mem_filter.1 h).2
    rw [h0, if_neg]
    rintro ⟨h, _⟩
    exact hp (List.mem_filter.1 h).2
theorem Qb {l m : List (List Val)} {body : Int → Option (Step Int Bool)} {K : Sum Int Bool → Option Bool} (h1 : ∀ (i : Nat) x y, l[i]? = some x → m[i]? = some y → body (i : Int) = bif !(decide (x = y)) then some (.ret false) else some (.next ((i + 1 : Nat) : Int))) (h2 : body ((l.length : Nat) : Int) = some (.exit ((l.length : Nat) : Int))) (k1 : ∀ j, K (.inl j) = some true) (k2 : ∀ q, K (.inr q) = some q) (hl : l.length = m.length) (hf : l.length < fuel) : (ax body fuel (0 : Int)).bind K = some (decide (l = m)) := by
  have key : ∀ (n i : Nat), i ≤ l.length → l.length - i < n → (ax body n (i : Int)).bind K = some (decide (l.drop i = m.drop i)) := by
    intro n
    induction n with
    | zero => intro i _ h; omega
    | succ n ih =>
      intro i hi hn
      rw [ax]
      by_cases hlt : i < l.length
      · obtain ⟨x, hx⟩ := gol_ hlt
        obtain ⟨y, hy⟩ := gol_ (l := m) (i := i) (by omega)
        have ex := (List.getElem?_eq_some_iff.1 hx).2
        have ey := (List.getElem?_eq_some_iff.1 hy).2
        rw [h1 i x y hx hy, List.drop_eq_getElem_cons hlt, ex, List.drop_eq_getElem_cons (show i < m.length by omega), ey]
        by_cases h : x = y
        · subst h
          rw [decide_eq_true rfl]
          show (ax body n _).bind K = _
          rw [ih (i + 1) (by omega) (by omega)]
          simp
        · rw [decide_eq_false h]
          show K (.inr false) = _
          rw [k2]
          simp [h]
      · have : i = l.length := by omega
        subst this
        rw [h2]
        show K (.inl _) = _
        rw [k1, List.drop_length, hl, List.drop_length]
        rfl
  have := key fuel 0 (Nat.zero_le _) (by omega)
  rw [List.drop_zero, List.drop_zero] at this
  exact this
theorem MZ (a b : List Val) (ha : a.length ≤ 1000000) (hb : b.length ≤ 1000000) : xO a b = some (decide (a = b)) := by
  unfold xO
  rw [MC a b (by omega) (by omega), Option.bind_some]
  congr 1
  by_cases h : a = b
  · subst h
    rw [decide_eq_true rfl, tCr_.refl]; rfl
  · rw [decide_eq_false h, decide_eq_false]
    intro h2; exact h (tCr_.zero _ _ h2)
theorem Q5 {l m : List (List Val)} (hl : l.length ≤ 1000000) (hm : m.length ≤ 1000000) (hr : ∀ r ∈ l, r.length ≤ 1000000) (hs : ∀ r ∈ m, r.length ≤ 1000000) : MR l m (fun x0 x1 => xO x0 x1) = some (decide (l = m)) := by
  unfold MR
  by_cases h : l.length = m.length
  · rw [decide_eq_false (show ¬ ((l.length : Nat) : Int) ≠ ((m.length : Nat) : Int) by omega), cond_false]
    refine Qb (l := l) (m := m) (fun i x y hx hy => ?_) ?_ (fun _ => rfl) (fun _ => rfl) h (by unfold fuel; omega)
    · have hi := (List.getElem?_eq_some_iff.1 hx).1
      unfold zz
      dsimp only
      rw [aY hx, cond_true, gn_ hx, Option.bind_some, gn_ hy, Option.bind_some, MZ x y (hr x (List.mem_of_getElem? hx)) (hs y (List.mem_of_getElem? hy)), Option.bind_some, wrapN (by omega)]
    · unfold zz
      dsimp only
      rw [lF_, cond_false]
  · rw [decide_eq_true (show ((l.length : Nat) : Int) ≠ ((m.length : Nat) : Int) by omega), cond_true, decide_eq_false]
    intro e; exact h (by rw [e])
theorem I9 {l : List (List Val)} (h : RK l) : tq l = some (aI l) := by
  unfold tq
  rw [Bp h.len fun r hr => ⟨(h.row r hr).1, by have := (h.row r hr).2.1; omega⟩]; rfl
theorem rT {a b : Bag} (ha : RK a.rows) (hb : RK b.rows) : uj a b = some (decide (aI a.rows = aI b.rows)) := by
  unfold uj KZ
  have h1 := ha.sort.len; have h2 := hb.sort.len
  rw [I9 ha, Option.bind_some, I9 hb, Option.bind_some, Q5 (by omega) (by omega) ha.sort.big hb.sort.big]; rfl
theorem oz {a b : Bag} (hk : a.kinds.length ≤ 1000000) (h : RK (a.rows ++ b.rows)) : mV a b = some ⟨a.kinds, aI (a.rows ++ b.rows)⟩ := by
  have hl := h.len
  rw [List.length_append] at hl
  unfold mV
  rw [decide_eq_true (show a.rows.length ≤ 5864062014805 by omega), cond_true, decide_eq_true (show a.rows.length + b.rows.length ≤ 5864062014805 by omega), cond_true, BO hk h]; rfl
theorem C9 {a b : Bag} (hk : a.kinds.length ≤ 1000000) (ha : RK a.rows) (hb : RK b.rows) : qX a b = some ⟨a.kinds, aI (iy (fun r => b.rows.count r) a.rows).2⟩ := by
  unfold qX xI
  rw [ha.keys, hb.keys]
  show (mI a.kinds _).bind _ = _
  rw [BO hk (ha.split _).2]; rfl
theorem Fz {a b : Bag} (hk : a.kinds.length ≤ 1000000) (ha : RK a.rows) (hb : RK b.rows) : wU a b = some ⟨a.kinds, aI (iy (fun r => b.rows.count r) a.rows).1⟩ := by
  unfold wU xI
  rw [ha.keys, hb.keys]
  show (mI a.kinds _).bind _ = _
  rw [BO hk (ha.split _).1]; rfl
theorem xX (a b : List Int) (ha : a.length ≤ 1000000) : ∃ c, gN a b = some c := by
  unfold gN
  by_cases h : a.length = b.length
  · rw [decide_eq_false (show ¬ ((a.length : Nat) : Int) ≠ ((b.length : Nat) : Int) by omega), cond_false]
    have key : ∀ (n i : Nat), i ≤ a.length → a.length - i < n → ∃ c, (ax (dH a b) n (i : Int)).bind ig = some c := by
      intro n
      induction n with
      | zero => intro i _ h; omega
      | succ n ih =>
        intro i hi hn
        rw [ax]
        by_cases hlt : i < a.length
        · obtain ⟨x, hx⟩ := gol_ hlt
          obtain ⟨y, hy⟩ := gol_ (l := b) (i := i) (by omega)
          have hb : dH a b (i : Int) = bif decide (x ≠ y) then some (.ret false) else some (.next ((i + 1 : Nat) : Int)) := by
            unfold dH
            dsimp only
            rw [aY hx, cond_true, gn_ hx, Option.bind_some, gn_ hy, Option.bind_some, wrapN (by omega)]
          rw [hb]
          cases decide (x ≠ y) with
          | true => exact ⟨false, rfl⟩
          | false => exact ih (i + 1) (by omega) (by omega)
        · have : i = a.length := by omega
          subst this
          have hb : dH a b ((a.length : Nat) : Int) = some (.exit ((a.length : Nat) : Int)) := by
            unfold dH
            dsimp only
            rw [lF_, cond_false]
          rw [hb]
          exact ⟨true, rfl⟩
    exact key fuel 0 (Nat.zero_le _) (by unfold fuel; omega)
  · rw [decide_eq_true (show ((a.length : Nat) : Int) ≠ ((b.length : Nat) : Int) by omega), cond_true]
    exact ⟨false, rfl⟩
set_option maxHeartbeats 8000000
noncomputable section
def qg (a_a : Bag) (a_b : Bag) (a_e : Ex) : Option (Bool) := (gFew21 a_a (40 : Int)).bind fun r_1 => bif (!r_1) then some (true) else
 (gFew21 a_b (40 : Int)).bind fun r_4 => bif (!r_4) then some (true) else
 (gN a_a.kinds a_b.kinds).bind fun r_7 => bif (!r_7) then some (true) else
 (gSlight [a_e]).bind fun r_10 => bif (!r_10) then some (true) else
 (gPred21 a_e a_a.kinds).bind fun r_13 => bif (decide (r_13 ≠ (0 : Int))) then some (true) else
 (qX a_a a_b).bind fun r_16 => (wU a_a a_b).bind fun r_17 => (mV r_16 r_17).bind fun r_18 => (uj r_18 a_a).bind fun r_19 => bif (!r_19) then some false else
 (mV a_a a_b).bind fun r_21 => (gFilterS r_21 a_e).bind fun r_22 => (gFilterS a_a a_e).bind fun r_23 => (gFilterS a_b a_e).bind fun r_24 => (mV r_23 r_24).bind fun r_25 => (uj r_22 r_25).bind fun r_26 => bif (!r_26) then some false else
 (gDistinctS a_a).bind fun r_28 => (gFilterS r_28 a_e).bind fun r_29 => (gDistinctS r_23).bind fun r_30 => (uj r_29 r_30).bind fun r_31 => bif r_31 then bif (decide (((r_21.rows.length : Nat) : Int) = (IntKind.i64.wrap (((a_a.rows.length : Nat) : Int) + ((a_b.rows.length : Nat) : Int))))) then some (true) else
 some false else
 some false
theorem EO {a_a : Bag} {a_b : Bag} {a_e : Ex} {r : Bool} (H : qg a_a a_b a_e = some r) : Pure Tryz.prog 8 [.agg (cBag a_a), .agg (cBag a_b), .agg (tE a_e)] (.val (.one (.bool r))) := by
  unfold qg at H
  rw [tE_eq a_e]
  refine po_ Tryz.func8 Tryz.ntmps8 ?_
  obtain ⟨r_1, c1, H⟩ := bd_ H
  replace c1 := gFew21_ok c1
  rcases cnd_ H with ⟨q_2, H⟩ | ⟨q_2, H⟩
  · have hc_3 := awake_pure
    try simp only [List.map_append, List.map_cons, List.map_nil, List.nil_append, tE_eq, tP_eq] at hc_3
    cases H
    exact go_
  obtain ⟨r_4, c2, H⟩ := bd_ H
  replace c2 := gFew21_ok c2
  rcases cnd_ H with ⟨q_5, H⟩ | ⟨q_5, H⟩
  · have hc_6 := awake_pure
    try simp only [List.map_append, List.map_cons, List.map_nil, List.nil_append, tE_eq, tP_eq] at hc_6
    cases H
    exact go_
  obtain ⟨r_7, c3, H⟩ := bd_ H
  replace c3 := qw c3
  rcases cnd_ H with ⟨q_8, H⟩ | ⟨q_8, H⟩
  · have hc_9 := awake_pure
    try simp only [List.map_append, List.map_cons, List.map_nil, List.nil_append, tE_eq, tP_eq] at hc_9
    cases H
    exact go_
  obtain ⟨r_10, c4, H⟩ := bd_ H
  replace c4 := gSlight_ok c4
  try simp only [List.map_append, List.map_cons, List.map_nil, List.nil_append, tE_eq, tP_eq] at c4
  rcases cnd_ H with ⟨q_11, H⟩ | ⟨q_11, H⟩
  · have hc_12 := awake_pure
    try simp only [List.map_append, List.map_cons, List.map_nil, List.nil_append, tE_eq, tP_eq] at hc_12
    cases H
    exact go_
  obtain ⟨r_13, c5, H⟩ := bd_ H
  replace c5 := gPred21_ok c5
  try simp only [List.map_append, List.map_cons, List.map_nil, List.nil_append, tE_eq, tP_eq] at c5
  rcases cnd_ H with ⟨q_14, H⟩ | ⟨q_14, H⟩
  · have hc_15 := awake_pure
    try simp only [List.map_append, List.map_cons, List.map_nil, List.nil_append, tE_eq, tP_eq] at hc_15
    cases H
    exact go_
  obtain ⟨r_16, c6, H⟩ := bd_ H
  replace c6 := Di c6
  obtain ⟨r_17, c7, H⟩ := bd_ H
  replace c7 := F9 c7
  obtain ⟨r_18, c8, H⟩ := bd_ H
  replace c8 := nU c8
  obtain ⟨r_19, c9, H⟩ := bd_ H
  replace c9 := qE c9
  rcases cnd_ H with ⟨q_20, H⟩ | ⟨q_20, H⟩
  · cases H
    exact go_
  obtain ⟨r_21, c10, H⟩ := bd_ H
  replace c10 := nU c10
  obtain ⟨r_22, c11, H⟩ := bd_ H
  replace c11 := gFilterS_ok c11
  try simp only [List.map_append, List.map_cons, List.map_nil, List.nil_append, tE_eq, tP_eq] at c11
  obtain ⟨r_23, c12, H⟩ := bd_ H
  replace c12 := gFilterS_ok c12
  try simp only [List.map_append, List.map_cons, List.map_nil, List.nil_append, tE_eq, tP_eq] at c12
  obtain ⟨r_24, c13, H⟩ := bd_ H
  replace c13 := gFilterS_ok c13
  try simp only [List.map_append, List.map_cons, List.map_nil, List.nil_append, tE_eq, tP_eq] at c13
  obtain ⟨r_25, c14, H⟩ := bd_ H
  replace c14 := nU c14
  obtain ⟨r_26, c15, H⟩ := bd_ H
  replace c15 := qE c15
  rcases cnd_ H with ⟨q_27, H⟩ | ⟨q_27, H⟩
  · cases H
    exact go_
  obtain ⟨r_28, c16, H⟩ := bd_ H
  replace c16 := gDistinctS_ok c16
  obtain ⟨r_29, c17, H⟩ := bd_ H
  replace c17 := gFilterS_ok c17
  try simp only [List.map_append, List.map_cons, List.map_nil, List.nil_append, tE_eq, tP_eq] at c17
  obtain ⟨r_30, c18, H⟩ := bd_ H
  replace c18 := gDistinctS_ok c18
  obtain ⟨r_31, c19, H⟩ := bd_ H
  replace c19 := qE c19
  rcases cnd_ H with ⟨q_32, H⟩ | ⟨q_32, H⟩
  · rcases cnd_ H with ⟨q_33, H⟩ | ⟨q_33, H⟩
    · have hc_34 := awake_pure
      try simp only [List.map_append, List.map_cons, List.map_nil, List.nil_append, tE_eq, tP_eq] at hc_34
      cases H
      exact go_
    cases H
    exact go_
  cases H
  exact go_
end
theorem kT (l : List (List Val)) : aI (aI l) = aI l := rJ (bn l)
theorem KT (p : List Val → Bool) (a b : List (List Val)) : aI (aI ((aI (a ++ b)).filter p)) = aI (aI (aI (a.filter p) ++ aI (b.filter p))) := by
  rw [kT, kT]
  refine rJ (((bn (a ++ b)).filter p).trans ?_)
  rw [List.filter_append]
  exact ((bn _).append (bn _)).symm
theorem Cj (a b : Bag) (e : Ex) : qg a b e = some true := by
  unfold qg
  obtain ⟨c, hc, hc2⟩ := jK a 40 (by omega)
  rw [show (40 : Int) = ((40 : Nat) : Int) from rfl, hc, Option.bind_some]
  cases c with
  | false => rfl
  | true =>
    have ha := hc2 rfl
    rw [Bool.not_true, cond_false]
    obtain ⟨c, hc, hc2⟩ := jK b 40 (by omega)
    rw [hc, Option.bind_some]
    cases c with
    | false => rfl
    | true =>
      have hb := hc2 rfl
      rw [Bool.not_true, cond_false]
      have h1 := ha.kinds; have h2 := hb.kinds
      obtain ⟨c, hc⟩ := xX a.kinds b.kinds (by omega)
      rw [hc, Option.bind_some]
      cases c with
      | false => rfl
      | true =>
        rw [Bool.not_true, cond_false]
        obtain ⟨c, hc, hc2⟩ := pM [e]
        rw [hc, Option.bind_some]
        cases c with
        | false => rfl
        | true =>
          have he := (hc2 rfl).2 e (by simp)
          rw [Bool.not_true, cond_false]
          obtain ⟨n, hn⟩ := yD a.kinds he
          rw [hn, Option.bind_some]
          cases decide (n ≠ 0) with
          | true => rfl
          | false =>
            have ra := ha.rk (by omega); have rb := hb.rk (by omega)
            have l1 := ha.len; have l2 := hb.len
            have hk : a.kinds.length ≤ 1000000 := by omega
            have hkb : b.kinds.length ≤ 1000000 := by omega
            have rab := ra.app rb (by omega)
            have rs := ra.split fun r => b.rows.count r
            have hsl := Nz a.rows fun r => b.rows.count r
            have rei : RK ((Bag.mk a.kinds (aI (iy (fun r => b.rows.count r) a.rows).2)).rows ++ (Bag.mk a.kinds (aI (iy (fun r => b.rows.count r) a.rows).1)).rows) := rs.2.sort.app rs.1.sort (by rw [(bn _).length_eq, (bn _).length_eq]; omega)
            have rfa := ra.filter (gm e); have rfb := rb.filter (gm e)
            have hfa := List.length_filter_le (gm e) a.rows
            have hfb := List.length_filter_le (gm e) b.rows
            have rff : RK ((Bag.mk a.kinds (aI (a.rows.filter (gm e)))).rows ++ (Bag.mk b.kinds (aI (b.rows.filter (gm e)))).rows) := rfa.sort.app rfb.sort (by rw [(bn _).length_eq, (bn _).length_eq]; omega)
            have ruu : RK (Bag.mk a.kinds (aI (a.rows ++ b.rows))).rows := rab.sort
            have ruf : RK (Bag.mk a.kinds (aI ((aI (a.rows ++ b.rows)).filter (gm e)))).rows := (rab.sort.filter _).sort
            have rul : RK (Bag.mk a.kinds (aI (aI (a.rows.filter (gm e)) ++ aI (b.rows.filter (gm e))))).rows := rff.sort
            have rd : RK (Bag.mk a.kinds (aI (fF [] a.rows))).rows := (Gx ra).sort
            have rfd : RK (Bag.mk a.kinds (aI ((aI (fF [] a.rows)).filter (gm e)))).rows := ((Gx ra).sort.filter _).sort
            have rfas : RK (Bag.mk a.kinds (aI (a.rows.filter (gm e)))).rows := rfa.sort
            have rdf : RK (Bag.mk a.kinds (aI (fF [] (aI (a.rows.filter (gm e)))))).rows := (Gx rfa.sort).sort
            have rse : RK (Bag.mk a.kinds (aI (aI (iy (fun r => b.rows.count r) a.rows).2 ++ aI (iy (fun r => b.rows.count r) a.rows).1))).rows := rei.sort
            rw [cond_false, C9 hk ra rb, Option.bind_some, Fz hk ra rb, Option.bind_some, oz (a := ⟨a.kinds, aI (iy (fun r => b.rows.count r) a.rows).2⟩) (b := ⟨a.kinds, aI (iy (fun r => b.rows.count r) a.rows).1⟩) hk rei, Option.bind_some, rT rse ra, Option.bind_some, decide_eq_true (show aI (aI (aI (iy (fun r => b.rows.count r) a.rows).2 ++ aI (iy (fun r => b.rows.count r) a.rows).1)) = aI a.rows by rw [kT]; exact QP a.rows b.rows), Bool.not_true, cond_false]
            rw [oz hk rab, Option.bind_some, lT (b := ⟨a.kinds, aI (a.rows ++ b.rows)⟩) hk ruu he, Option.bind_some, lT hk ra he, Option.bind_some, lT hkb rb he, Option.bind_some, oz (a := ⟨a.kinds, aI (a.rows.filter (gm e))⟩) (b := ⟨b.kinds, aI (b.rows.filter (gm e))⟩) hk rff, Option.bind_some, rT ruf rul, Option.bind_some, decide_eq_true (KT (gm e) a.rows b.rows), Bool.not_true, cond_false]
            rw [qm hk ra, Option.bind_some, lT (b := ⟨a.kinds, aI (fF [] a.rows)⟩) hk rd he, Option.bind_some, qm (b := ⟨a.kinds, aI (a.rows.filter (gm e))⟩) hk rfas, Option.bind_some, rT rfd rdf, Option.bind_some]
            have hd : aI (aI ((aI (fF [] a.rows)).filter (gm e))) = aI (aI (fF [] (aI (a.rows.filter (gm e))))) := by
              rw [kT, kT, Nt]
              have := Aa (a.rows.filter (gm e))
              rw [this, Aa, kT]
            rw [decide_eq_true hd, cond_true]
            have hlen : (aI (a.rows ++ b.rows)).length = a.rows.length + b.rows.length := by rw [(bn _).length_eq, List.length_append]
            rw [show ((Bag.mk a.kinds (aI (a.rows ++ b.rows))).rows.length : Nat) = a.rows.length + b.rows.length from hlen, bJ (show -9223372036854775808 ≤ ((a.rows.length : Nat) : Int) + ((b.rows.length : Nat) : Int) ∧ ((a.rows.length : Nat) : Int) + ((b.rows.length : Nat) : Int) ≤ 9223372036854775807 by omega), decide_eq_true (by omega)]
            rfl
theorem wo {a : Bag} {b : Bag} {e : Ex} (q0 : okBag a) (q1 : okBag b) (q2 : okEx e) : Pure Tryz.prog 8 [.agg (cBag a), .agg (cBag b), .agg (tE e)] (.val (.one (.bool true))) := EO (Cj a b e)
end Go.Proofs.YtfpbmfalamappaaGreatDoor
