/- Parts of the proof, joined. No condition. -/
import Derived.Test.YtfccopdbgfdcdaaGreatDoorKBL
import Derived.Test.YtfccopdbgfdcdaaGreatDoorKAL
set_option linter.unusedSimpArgs false
set_option linter.unusedVariables false
namespace Go.Proofs.YtfccopdbgfdcdaaGreatDoor
open Go.RowKit Go.MapKept
set_option maxRecDepth 100000
set_option maxHeartbeats 8000000
set_option linter.unusedVariables false
set_option linter.unusedSimpArgs false
def gRowsC (a_a : SGroupcoalesce) (a_b : SGroupcoalesce) : Option (Int) := (gTCmp a_a.row a_b.row).bind fun r_1 => some r_1
theorem gRowsC_ok {a_a : SGroupcoalesce} {a_b : SGroupcoalesce} {r : Int} (H : gRowsC a_a a_b = some r) : Pure Tryz.prog 172 [.agg (cSGroupcoalesce a_a), .agg (cSGroupcoalesce a_b)] (.val (.one (.int .i64 r))) := by
  unfold gRowsC at H
  refine pure_of_aw tab_ok Tryz.func172 rfl rfl Tryz.ntmps172 (by simp) ?_
  simp only [argT, PV.av, List.map_cons, List.map_nil]
  obtain ⟨r_1, c1, H⟩ := bind_some H
  replace c1 := gTCmp_ok c1
  try simp only [List.map_append, List.map_cons, List.map_nil, List.nil_append, tE_eq] at c1
  obtain rfl := Option.some.inj H
  exact go_
theorem gRowsC_eq (a b : SGroupcoalesce) (ha : a.row.length ≤ 4000000000000) (hb : b.row.length ≤ 4000000000000) : gRowsC a b = some (rcmp a.row b.row) := by
  unfold gRowsC
  rw [gTCmp_eq _ _ ha hb]; rfl
def posT {α : Type} (c : α → α → Int) (A : List α) (x : α) : Nat → Nat
  | 0 => 0
  | j + 1 => match A[j]? with
    | some y => if c x y < 0 then posT c A x j else j + 1
    | none => j + 1
def insT {α : Type} (c : α → α → Int) (A : List α) (x : α) : List α := A.take (posT c A x A.length) ++ x :: A.drop (posT c A x A.length)
def sortT {α : Type} (c : α → α → Int) (l : List α) : List α := l.foldl (insT c) []
theorem posT_spec {α : Type} (c : α → α → Int) (B : List α) (x : α) : ∀ j, j ≤ B.length → posT c B x j ≤ j ∧ (∀ i y, posT c B x j ≤ i → i < j → B[i]? = some y → c x y < 0) ∧ (∀ q, posT c B x j = q + 1 → ∃ y, B[q]? = some y ∧ ¬ c x y < 0)
  | 0, _ => ⟨Nat.le_refl _, fun i y _ h => by omega, fun q h => by simp [posT] at h⟩
  | j + 1, hj => by
    obtain ⟨y, hy⟩ := get_of_lt (show j < B.length by omega)
    obtain ⟨h1, h2, h3⟩ := posT_spec c B x j (by omega)
    unfold posT
    simp only [hy]
    split
    · rename_i hlt
      refine ⟨by omega, fun i z hi hij hz => ?_, h3⟩
      by_cases e : i = j
      · subst e; rw [hy] at hz; injection hz with hz; subst hz; exact hlt
      · exact h2 i z hi (by omega) hz
    · rename_i hge
      exact ⟨Nat.le_refl _, fun i z hi hij _ => by omega, fun q hq => by injection hq with hq; subst hq; exact ⟨y, hy, hge⟩⟩
theorem insT_perm {α : Type} (c : α → α → Int) (B : List α) (x : α) : (insT c B x).Perm (x :: B) := by
  unfold insT
  refine List.perm_middle.trans ?_
  rw [List.take_append_drop]
theorem foldl_insT_perm {α : Type} (c : α → α → Int) : ∀ (l B : List α), (l.foldl (insT c) B).Perm (l ++ B)
  | [], B => List.Perm.refl _
  | x :: l, B => by
    rw [List.foldl_cons]
    refine (foldl_insT_perm c l (insT c B x)).trans ?_
    refine ((insT_perm c B x).append_left l).trans ?_
    exact List.perm_middle
theorem sortT_perm {α : Type} (c : α → α → Int) (l : List α) : (sortT c l).Perm l := by
  have := foldl_insT_perm c l []
  simpa [sortT] using this
theorem insT_asc {α : Type} {c : α → α → Int} (htr : ∀ a b d, c a b ≤ 0 → c b d ≤ 0 → c a d ≤ 0) (htot : ∀ a b, ¬ c a b < 0 → c b a ≤ 0) {B : List α} (x : α) (h : B.Pairwise fun a b => c a b ≤ 0) : (insT c B x).Pairwise fun a b => c a b ≤ 0 := by
  obtain ⟨h1, h2, h3⟩ := posT_spec c B x B.length (Nat.le_refl _)
  unfold insT
  generalize posT c B x B.length = p at h1 h2 h3
  have hd : ∀ y ∈ B.drop p, c x y ≤ 0 := by
    intro y hy
    obtain ⟨i, hi⟩ := List.getElem?_of_mem hy
    rw [List.getElem?_drop] at hi
    have := (List.getElem?_eq_some_iff.1 hi).1
    have := h2 (p + i) y (by omega) this hi
    omega
  have ht : ∀ y ∈ B.take p, c y x ≤ 0 := by
    intro y hy
    cases p with
    | zero => simp at hy
    | succ q =>
      obtain ⟨z, hz, hge⟩ := h3 q rfl
      have hzx := htot x z hge
      obtain ⟨i, hi⟩ := List.getElem?_of_mem hy
      have hil : i < q + 1 := by have := (List.getElem?_eq_some_iff.1 hi).1; rw [List.length_take] at this; omega
      rw [List.getElem?_take_of_lt hil] at hi
      by_cases e : i = q
      · subst e; rw [hi] at hz; injection hz with hz; subst hz; exact hzx
      · have hlt : i < q := by omega
        have hi' := List.getElem?_eq_some_iff.1 hi
        have hz' := List.getElem?_eq_some_iff.1 hz
        have := List.pairwise_iff_getElem.1 h i q hi'.1 hz'.1 hlt
        rw [hi'.2, hz'.2] at this
        exact htr _ _ _ this hzx
  refine List.pairwise_append.2 ⟨h.sublist (List.take_sublist _ _), List.pairwise_cons.2 ⟨hd, h.sublist (List.drop_sublist _ _)⟩, fun a ha b hb => ?_⟩
  rcases List.mem_cons.1 hb with rfl | hb
  · exact ht a ha
  · exact htr _ _ _ (ht a ha) (hd b hb)
theorem sortT_asc {α : Type} {c : α → α → Int} (htr : ∀ a b d, c a b ≤ 0 → c b d ≤ 0 → c a d ≤ 0) (htot : ∀ a b, ¬ c a b < 0 → c b a ≤ 0) (l : List α) : (sortT c l).Pairwise fun a b => c a b ≤ 0 := by
  have : ∀ (l B : List α), (B.Pairwise fun a b => c a b ≤ 0) → (l.foldl (insT c) B).Pairwise fun a b => c a b ≤ 0 := by
    intro l
    induction l with
    | nil => intro B h; exact h
    | cons x l ih => intro B h; exact ih _ (insT_asc htr htot x h)
  exact this l [] List.Pairwise.nil
abbrev cmpSG (a b : SGroupcoalesce) : Int := rcmp a.row b.row
abbrev encSG (s : SGroupcoalesce) : AC2 := (tRow s.row, .lst (s.periods.map cPer))
abbrev tcmpG (x y : AC2) : Int := tcmp x.1 y.1
theorem tcmpG_enc (a b : SGroupcoalesce) : tcmpG (encSG a) (encSG b) = cmpSG a b := by
  show rcmp ((a.row.map cV).map vOf) ((b.row.map cV).map vOf) = _
  rw [vOf_cV, vOf_cV]
theorem posFG_enc (B : List SGroupcoalesce) (x : SGroupcoalesce) : ∀ j, posFG tcmpG (B.map encSG) (encSG x) j = posT cmpSG B x j
  | 0 => rfl
  | j + 1 => by
    rw [posFG, posT, List.getElem?_map]
    cases B[j]? with
    | none => rfl
    | some y =>
      simp only [Option.map_some]
      rw [tcmpG_enc, posFG_enc B x j]
theorem insRG_enc (B : List SGroupcoalesce) (x : SGroupcoalesce) : insRG tcmpG (B.map encSG) (encSG x) = (insT cmpSG B x).map encSG := by
  unfold insRG insT
  rw [List.length_map, posFG_enc, List.map_append, List.map_cons, List.map_take, List.map_drop]
theorem isortG_enc (l : List SGroupcoalesce) : isortG tcmpG (l.map encSG) = (sortT cmpSG l).map encSG := by
  have : ∀ (l B : List SGroupcoalesce), (l.map encSG).foldl (insRG tcmpG) (B.map encSG) = (l.foldl (insT cmpSG) B).map encSG := by
    intro l
    induction l with
    | nil => intro B; rfl
    | cons x l ih => intro B; rw [List.map_cons, List.foldl_cons, List.foldl_cons, insRG_enc, ih]
  exact this l []
theorem rfG3 {L : List Ob} {v k : Nat} {l : List AC2} {x : AV} {xs : List AV} (h0 : L[3]? = some (Ob.row v (l.map gCG) k)) (hx : ∀ y ∈ x :: xs, y.below 1) : RunFits [3] [Ob.row v (l.map gCG) k] (x :: xs) L := by
  refine ⟨rfl, by simp, fun i y hy => ?_, mem_below ⟨rowC_belowG _ _ _ _, trivial⟩, hx⟩
  match i, hy with
  | 0, hy => simp at hy; subst hy; rw [row_renG]; exact h0
  | i + 1, hy => simp at hy
theorem jG3 {L L' : List Ob} {v k : Nat} {l : List AC2} (h : L.set 3 (Ob.row v (l.map gCG) k) = L') : joinL [3] L [Ob.row v (l.map gCG) k] = L' := by
  subst h
  simp [joinL, join, setAll, outIds, newIds, row_renG]
def rowsP (l : List Fct) : List SGroupcoalesce := sortT cmpSG ((gfoldC l).map fun g => ⟨g.f.row, g.ps⟩)
theorem stable_nil : Pure Tryz.prog 171 [.one (.lst []), .one (.fn 172 [])] (.tup []) := (evF_ok cx_ok 40).1 _ _ _ (by kernel_rfl)
end Go.Proofs.YtfccopdbgfdcdaaGreatDoor
namespace Go.Proofs.YtfccopdbgfdcdaaGreatDoor
open Go.RowKit Go.MapKept
set_option maxRecDepth 100000
theorem st_appO {P : Program} {ti : TI} {N : Nat} {ds : List (Option Tmp)} {K : Tm → List Ob → Prop} {o : Oper} {rest : List Oper} {T : Tm} {L L' : List Ob} {x y : Operand} {t tx E : TypeId} {es xs : List (List AC)} {i n k by_ d : Nat} {vx : AV} (hd : o.dst = some d) (hN : Nat.blt d N = true) (hg : gdv ds T o.guard = some true)
    (ho : o.op = .call { callee := .builtin .append, args := #[x, y], argTypes := #[t, tx] }) (hx : look T x = some (.one (.own es i))) (hy : look T y = some vx) (hl : listOf vx = some xs) (ht : ti.elem t = some E) (hsz : ti.size E = some k) (hb : ti.bytes E = some by_) (hL : L[i]? = some (.spare n k))
    (hφ : (ti.elem tx).isSome ∧ es.length = n ∧ (ti.zok E = true ∧ 0 < k) ∧ (∀ e ∈ xs, e.length = k) ∧ (n + xs.length) * by_ ≤ 140737488355328 ∧ n + xs.length ≤ 140737488355328) (hL' : L.set i (.spare (n + xs.length) k) = L')
    (h : awOps P ti N ds K rest ((d, .one (.own (es ++ xs) i)) :: T) L') : awOps P ti N ds K (o :: rest) T L :=
  st_lop hd hN hg (v := .one (.own (es ++ xs) i)) (L' := L.set i (.spare (n + xs.length) k)) (φ := (ti.elem tx).isSome ∧ k = k ∧ es.length = n ∧ (ti.zok E = true ∧ 0 < k) ∧ (∀ e ∈ xs, e.length = k) ∧ (n + xs.length) * by_ ≤ 140737488355328 ∧ n + xs.length ≤ 140737488355328)
    (by rw [ho]; simp [lop, hx, hy, lopApp, hl, ht, hsz, hb, hL]) ⟨hφ.1, rfl, hφ.2⟩ (by rw [hL']; exact h)
set_option maxHeartbeats 8000000 in
theorem rows_pure (l : List Fct) (hl : l.length ≤ 19) (h : ∀ f ∈ l, f.row.length ≤ 1000 ∧ ∀ v ∈ f.row, VOK v) : Pure Tryz.prog 136 [.one (.lst (l.map cFct))] (.val (.one (.lst ((rowsP l).map cSGroupcoalesce)))) := by
  refine pure_of_aw tabQ_ok Tryz.func136 rfl rfl Tryz.ntmps136 (by simp) ?_
  simp only [argT, PV.av, List.map_cons, List.map_nil]
  obtain ⟨n, hn⟩ : ∃ n, l.length = n := ⟨_, rfl⟩
  have hml : (((l.map cFct).length : Nat) : Int) = n := by simp [hn]
  repeat' (first
    | refine st_nil ?_
    | (refine st_pop rfl rfl rfl rfl ?_ ?_; · (repeat' (first | exact trivial | rfl | exact Nat.le_of_ble_eq_true rfl | omega | apply And.intro)))
    | (refine st_lop rfl rfl rfl rfl ?_ ?_; · (repeat' (first | exact trivial | rfl | exact Nat.le_of_ble_eq_true rfl | omega | apply And.intro)))
    | (refine st_store rfl rfl rfl ?_ ?_; · (repeat' (first | exact trivial | rfl | exact Nat.le_of_ble_eq_true rfl | omega | apply And.intro)))
    | (refine st_lit rfl rfl rfl rfl ?_ ?_; · (repeat' (first | exact trivial | rfl | exact Nat.le_of_ble_eq_true rfl | omega | apply And.intro)))
    | refine st_skip rfl rfl rfl ?_
    | refine st_skip0 rfl rfl ?_
    | (refine st_if rfl (fun hb => ?_) (fun hb => ?_) <;> (first | (exfalso; revert hb; decide) | (exfalso; simp at hb; done) | (exfalso; simp at hb; omega) | rw [hb]))
    | refine aw_seq ?_
    | refine aw_region tabQ_ok _ rfl ?_
    | refine aw_drawn2 tabXS_ok _ rfl mixed (by decide +kernel) ?_
    | (refine aw_cond rfl (fun hb => ?_) (fun hb => ?_) <;> (try (first | (exfalso; revert hb; decide) | (exfalso; simp at hb; done) | (exfalso; simp at hb; omega))))
    | refine aw_block ?_
    | refine aw_exit ?_
    | refine aw_ret ?_
    | refine aw_skip ?_
    | (refine st_sop rfl rfl rfl rfl rfl sop_makeMap ?_))
  refine aw_loop (fun i : Nat => [(0, .one (.c (.lst (l.map cFct)))), (3, .one (.mp 0)), (4, slotC (gfoldC (l.take i))), (11, .one (.c (.lst (l.map cFct)))), (12, .one (.c (.int .i64 n))), (13, .one (.c (.int .i64 i)))]) (fun i => objC (gfoldC (l.take i))) (fun i => i ≤ n) (fun i => n - i) 0 (by omega) (fun _ _ => Nat.zero_le _)
    (fits_mk ⟨rfl, rfl, rfl, rfl, slot_int hml, rfl, trivial⟩ [] rfl ⟨trivial, (by cases (gfoldC (l.take 0)) <;> first | (show 0 < _; simp [objC, objN]) | skip), slotC_below _, trivial, trivial, trivial, trivial⟩ (objC_below _)) ?_
  intro i hi
  have hgl := gfoldC_len (l.take i)
  have hgm := gfoldC_mem (l.take i)
  rw [List.length_take] at hgl
  by_cases hlt : i < n
  · obtain ⟨f, hx⟩ := get_of_lt (show i < l.length by omega)
    have hfm := List.mem_of_getElem? hx
    have hN : decide ((i : Int) < n) = true := by simp; exact hlt
    have hnx : gfoldC (l.take (i + 1)) = gstepC (gfoldC (l.take i)) f := by rw [take_succ hx]; exact gfoldC_snoc _ _
    have hpv := gPV_ok (gPV_eq f.valid)
    have hky := keyC_pure f.row (h f hfm).1 (h f hfm).2
    have hidx : (l.map cFct)[((i : Nat) : Int).toNat]? = some (cFct f) := idx_map hx
    generalize gfoldC (l.take i) = G at hgl hgm hnx
    unfold gstepC at hnx
    obtain ⟨row, lo, hi2⟩ := f
    dsimp only at hnx hky hpv
    have hcnt : l.length ≤ 19 := hl
    repeat' (first
      | refine st_nil ?_
      | (refine st_pop rfl rfl rfl rfl ?_ ?_; · (repeat' (first | exact trivial | rfl | exact Nat.le_of_ble_eq_true rfl | omega | apply And.intro)))
      | (refine st_lop rfl rfl rfl rfl ?_ ?_; · (repeat' (first | exact trivial | rfl | exact Nat.le_of_ble_eq_true rfl | omega | apply And.intro)))
      | (refine st_store rfl rfl rfl ?_ ?_; · (repeat' (first | exact trivial | rfl | exact Nat.le_of_ble_eq_true rfl | omega | apply And.intro)))
      | (refine st_lit rfl rfl rfl rfl ?_ ?_; · (repeat' (first | exact trivial | rfl | exact Nat.le_of_ble_eq_true rfl | omega | apply And.intro)))
      | refine st_skip rfl rfl rfl ?_
      | refine st_skip0 rfl rfl ?_
      | (refine st_if rfl (fun hb => ?_) (fun hb => ?_) <;> (first | (exfalso; revert hb; decide) | (exfalso; simp at hb; done) | (exfalso; simp at hb; omega) | rw [hb]))
      | refine aw_seq ?_
      | (refine aw_cond rfl (fun hb => ?_) (fun hb => ?_) <;> (try (first | (exfalso; revert hb; decide) | (exfalso; simp at hb; done) | (exfalso; simp at hb; omega))))
      | refine aw_block ?_
      | refine aw_exit ?_
      | refine aw_ret ?_
      | refine aw_skip ?_)
    refine aw_region tabQ_ok _ rfl ?_
    repeat' (first
      | refine st_nil ?_
      | rw [hN]
      | (refine st_pop rfl rfl rfl rfl ?_ ?_; · (repeat' (first | exact trivial | rfl | exact Nat.le_of_ble_eq_true rfl | omega | apply And.intro)))
      | (refine st_idx rfl rfl rfl rfl rfl rfl rfl rfl hidx ?_ ?_; · exact ⟨by omega, rfl⟩)
      | (refine st_lop rfl rfl rfl rfl ?_ ?_; · (repeat' (first | exact trivial | rfl | exact Nat.le_of_ble_eq_true rfl | omega | apply And.intro)))
      | (refine st_store rfl rfl rfl ?_ ?_; · (repeat' (first | exact trivial | rfl | exact Nat.le_of_ble_eq_true rfl | omega | apply And.intro)))
      | (refine st_lit rfl rfl rfl rfl ?_ ?_; · (repeat' (first | exact trivial | rfl | exact Nat.le_of_ble_eq_true rfl | omega | apply And.intro)))
      | refine st_skip rfl rfl rfl ?_
      | refine st_skip0 rfl rfl ?_
      | (refine st_if rfl (fun hb => ?_) (fun hb => ?_) <;> (first | (exfalso; revert hb; decide) | (exfalso; simp at hb; done) | (exfalso; simp at hb; omega) | rw [hb]))
      | refine aw_seq ?_
      | (refine aw_cond rfl (fun hb => ?_) (fun hb => ?_) <;> (try (first | (exfalso; revert hb; decide) | (exfalso; simp at hb; done) | (exfalso; simp at hb; omega))))
      | refine aw_block ?_
      | refine aw_exit ?_
      | refine aw_ret ?_
      | refine aw_skip ?_)
    refine aw_region tabQ_ok _ rfl ?_
    repeat' (first
      | refine st_nil ?_
      | (refine st_storeE rfl rfl rfl rfl rfl rfl rfl ?_)
      | (refine st_pop rfl rfl rfl rfl ?_ ?_; · (repeat' (first | exact trivial | rfl | exact Nat.le_of_ble_eq_true rfl | omega | apply And.intro)))
      | (refine st_idx rfl rfl rfl rfl rfl rfl rfl rfl hidx ?_ ?_; · exact ⟨by omega, rfl⟩)
      | (refine st_lop rfl rfl rfl rfl ?_ ?_; · (repeat' (first | exact trivial | rfl | exact Nat.le_of_ble_eq_true rfl | omega | apply And.intro)))
      | (refine st_store rfl rfl rfl ?_ ?_; · (repeat' (first | exact trivial | rfl | exact Nat.le_of_ble_eq_true rfl | omega | apply And.intro)))
      | (refine st_lit rfl rfl rfl rfl ?_ ?_; · (repeat' (first | exact trivial | rfl | exact Nat.le_of_ble_eq_true rfl | omega | apply And.intro)))
      | refine st_skip rfl rfl rfl ?_
      | refine st_skip0 rfl rfl ?_
      | (refine st_if rfl (fun hb => ?_) (fun hb => ?_) <;> (first | (exfalso; revert hb; decide) | (exfalso; simp at hb; done) | (exfalso; simp at hb; omega) | rw [hb]))
      | refine aw_seq ?_
      | (refine aw_cond rfl (fun hb => ?_) (fun hb => ?_) <;> (try (first | (exfalso; revert hb; decide) | (exfalso; simp at hb; done) | (exfalso; simp at hb; omega))))
      | refine aw_block ?_
      | refine aw_exit ?_
      | refine aw_ret ?_
      | refine aw_skip ?_)
    refine aw_frzE (A := objC G) rfl (by simp only [List.map_cons, List.map_nil, un_slotC]; simp only [unA, unS, if_true, List.drop_zero]; rfl) ?_
    cases hv : pvalB ⟨lo, hi2⟩ with
    | false =>
      rw [hv, cond_false] at hnx
      rw [hv] at hpv
      repeat' (first
        | refine st_nil ?_
        | rw [hN]
        | (refine st_pop rfl rfl rfl rfl ?_ ?_; · (repeat' (first | exact trivial | rfl | exact Nat.le_of_ble_eq_true rfl | omega | apply And.intro)))
        | (refine st_idx rfl rfl rfl rfl rfl rfl rfl rfl hidx ?_ ?_; · exact ⟨by omega, rfl⟩)
        | (refine st_lop rfl rfl rfl rfl ?_ ?_; · (repeat' (first | exact trivial | rfl | exact Nat.le_of_ble_eq_true rfl | omega | apply And.intro)))
        | (refine st_store rfl rfl rfl ?_ ?_; · (repeat' (first | exact trivial | rfl | exact Nat.le_of_ble_eq_true rfl | omega | apply And.intro)))
        | (refine st_lit rfl rfl rfl rfl ?_ ?_; · (repeat' (first | exact trivial | rfl | exact Nat.le_of_ble_eq_true rfl | omega | apply And.intro)))
        | refine st_skip rfl rfl rfl ?_
        | refine st_skip0 rfl rfl ?_
        | refine st_call rfl rfl rfl rfl hpv rfl ?_
        | refine st_call rfl rfl rfl rfl hky rfl ?_
        | (refine st_if rfl (fun hb => ?_) (fun hb => ?_) <;> (first | (exfalso; revert hb; decide) | (exfalso; simp at hb; done) | (exfalso; simp at hb; omega) | rw [hb]))
        | refine aw_seq ?_
        | refine aw_region tabQ_ok _ rfl ?_
        | refine aw_drawn2 tabXS_ok _ rfl mixed (by decide +kernel) ?_
        | (refine aw_cond rfl (fun hb => ?_) (fun hb => ?_) <;> (try (first | (exfalso; revert hb; decide) | (exfalso; simp at hb; done) | (exfalso; simp at hb; omega))))
        | refine aw_block ?_
        | refine aw_exit ?_
        | refine aw_ret ?_
        | refine aw_skip ?_)
      exact ⟨i + 1, by omega, by omega, by rw [hnx]; exact fits_mk ⟨rfl, rfl, rfl, rfl, rfl, slot_int (wrap_eq (by omega) (by omega)), trivial⟩ [.dead] rfl ⟨trivial, (by cases G <;> first | (show 0 < _; simp [objC, objN])), slotC_below _, trivial, trivial, trivial, trivial⟩ (objC_below _)⟩
    | true =>
      rw [hv, cond_true] at hnx
      rw [hv] at hpv
      cases hf : gfind (keyC row) G with
      | some j =>
        have hjl := gfind_lt hf
        obtain ⟨g, hg⟩ := get_of_lt hjl
        rw [hf] at hnx
        dsimp only at hnx
        rw [hg] at hnx
        dsimp only at hnx
        have hGn : G ≠ [] := by intro e; rw [e] at hjl; simp at hjl
        have hgl2 := (hgm g (List.mem_of_getElem? hg)).1
        rw [List.length_take] at hgl2
        rw [objC_ne hGn, slotC_ne hGn]
        have ej : 0 + ((j : Nat) : Int).toNat = j := by simp
        have hgj : (rowF 0 G)[0 + ((j : Nat) : Int).toNat]? = some [.c (tRow g.f.row), .own (pRow g.ps) (4 + 3 * (0 + j))] := by rw [ej]; exact rowF_get G 0 j g hg
        have hLl := objN_len hGn
        have hLj : (objN G ++ [Ob.dead])[4 + 3 * (0 + j)]? = some (.spare g.ps.length 2) := by
          rw [List.getElem?_append_left (by omega)]
          rw [show 4 + 3 * (0 + j) = 3 * j + 1 + 1 + 1 + 1 by omega]
          exact tkC_get hg
        have hset : (objN G ++ [Ob.dead]).set (4 + 3 * (0 + j)) (.spare (g.ps.length + 1) 2) = .map (mOf 0 G) :: .dead :: gbH G :: .row (141 + 65536 * G.length) (rowF 0 G) 2 :: (tkC (G.set j ⟨g.f, g.ps ++ [⟨lo, hi2⟩]⟩) ++ [.dead]) := by
          rw [List.set_append_left _ _ (by omega)]
          have e6 : g.ps.length + 1 = (g.ps ++ [(⟨lo, hi2⟩ : Per)]).length := by simp
          rw [e6, show 4 + 3 * (0 + j) = 3 * j + 1 + 1 + 1 + 1 by omega, ← tkC_set (g.ps ++ [(⟨lo, hi2⟩ : Per)]) hg]
          rfl
        have hpl : (pRow g.ps).length = g.ps.length := by simp [pRow]
        have hstr : (.map (mOf 0 G) :: .dead :: gbH G :: .row (141 + 65536 * G.length) (rowF 0 G) 2 :: (tkC (G.set j ⟨g.f, g.ps ++ [⟨lo, hi2⟩]⟩) ++ [Ob.dead])).set 3 (.row (141 + 65536 * G.length) ((rowF 0 G).set (0 + ((j : Nat) : Int).toNat) [.c (tRow g.f.row), .own (pRow g.ps ++ [[.int .i64 lo, .int .i64 hi2]]) (4 + 3 * (0 + j))]) 2) = objN (G.set j ⟨g.f, g.ps ++ [⟨lo, hi2⟩]⟩) ++ [.dead] := by
          have e7 : pRow g.ps ++ [[.int .i64 lo, .int .i64 hi2]] = pRow (g.ps ++ [⟨lo, hi2⟩]) := by simp [pRow, cPer]
          rw [ej, e7, rowF_set G 0 j g _ hg]
          unfold objN
          rw [gbH_set _ hg, mOf_set hg, List.length_set]
          rfl
        have hG2 : G.set j ⟨g.f, g.ps ++ [⟨lo, hi2⟩]⟩ ≠ [] := by intro e; have := congrArg List.length e; simp at this; exact hGn this
        repeat' (first
          | refine st_nil ?_
          | (refine st_ldr rfl rfl rfl rfl rfl rfl rfl (e := [.c (tRow g.f.row), .own (pRow g.ps) (4 + 3 * (0 + j))]) (by exact hgj) rfl ?_)
          | (refine st_appO (k := 2) (by_ := 16) rfl rfl rfl rfl rfl rfl rfl rfl rfl rfl (by exact hLj) ⟨rfl, hpl, ⟨rfl, by decide⟩, by intro e he; simp at he; subst he; rfl, by show (_ + 1) * 16 ≤ _; omega, by show _ + 1 ≤ _; omega⟩ (by exact hset) ?_)
          | (refine st_str rfl rfl rfl rfl rfl rfl (e := [.c (tRow g.f.row), .own (pRow g.ps) (4 + 3 * (0 + j))]) (by exact hgj) ⟨Nat.le_refl _, rfl⟩ (by exact hstr) ?_)
          | (refine st_pop rfl rfl rfl rfl ?_ ?_; · (repeat' (first | exact trivial | rfl | exact Nat.le_of_ble_eq_true rfl | omega | (intro e he; simp at he; subst he; rfl) | apply And.intro)))
          | (refine st_lop rfl rfl rfl rfl ?_ ?_; · (repeat' (first | exact trivial | rfl | exact Nat.le_of_ble_eq_true rfl | omega | (intro e he; simp at he; subst he; rfl) | apply And.intro)))
          | (refine st_store rfl rfl rfl ?_ ?_; · (repeat' (first | exact trivial | rfl | exact Nat.le_of_ble_eq_true rfl | omega | (intro e he; simp at he; subst he; rfl) | apply And.intro)))
          | (refine st_lit rfl rfl rfl rfl ?_ ?_; · (repeat' (first | exact trivial | rfl | exact Nat.le_of_ble_eq_true rfl | omega | (intro e he; simp at he; subst he; rfl) | apply And.intro)))
          | refine st_skip rfl rfl rfl ?_
          | refine st_skip0 rfl rfl ?_
          | refine st_call rfl rfl rfl rfl hpv rfl ?_
          | refine st_call rfl rfl rfl rfl hky rfl ?_
          | (refine st_if rfl (fun hb => ?_) (fun hb => ?_) <;> (first | (exfalso; revert hb; decide) | (exfalso; simp at hb; done) | (exfalso; simp at hb; omega) | rw [hb]))
          | refine aw_seq ?_
          | refine aw_region tabQ_ok _ rfl ?_
          | refine aw_drawn2 tabXS_ok _ rfl mixed (by decide +kernel) ?_
          | (refine aw_cond rfl (fun hb => ?_) (fun hb => ?_) <;> (try (first | (exfalso; revert hb; decide) | (exfalso; simp at hb; done) | (exfalso; simp at hb; omega))))
          | refine aw_block ?_
          | refine aw_exit ?_
          | refine aw_ret ?_
          | refine aw_skip ?_
          | (refine st_sopq rfl rfl rfl rfl rfl (sop_get1 tabQ_ok hf rfl rfl rfl rfl rfl rfl) ?_))
        exact ⟨i + 1, by omega, by omega, by rw [hnx, objC_ne hG2, slotC_ne hG2, List.length_set]; exact fits_mk ⟨rfl, rfl, rfl, rfl, rfl, slot_int (wrap_eq (by omega) (by omega)), trivial⟩ [.dead] rfl ⟨trivial, (by show 0 < _; rw [objN_len hG2]; omega), (by show 3 < _; rw [objN_len hG2, List.length_set]; omega), trivial, trivial, trivial, trivial⟩ (by rw [← objC_ne hG2]; exact objC_below _)⟩
      | none =>
        rw [hf] at hnx
        dsimp only at hnx
        cases hGe : G with
        | nil =>
          rw [hGe] at hf hnx
          repeat' (first
            | refine st_nil ?_
            | (refine st_sop0 rfl rfl rfl rfl (sop_putG (G := []) ⟨⟨row, ⟨lo, hi2⟩⟩, [⟨lo, hi2⟩]⟩ tabQ_ok hf rfl rfl rfl rfl rfl rfl rfl) ?_)
            | (refine st_sop rfl rfl rfl rfl rfl (sop_litAgg (k := 2) (E := 141) (cs := [.c (tRow row), .emp]) tabQ_ok rfl rfl (by decide) (by decide) rfl (by decide) rfl rfl) ?_)
            | (refine st_sop rfl rfl rfl rfl rfl (sop_app0 (E := 141) (k := 2) (by_ := 48) (xs := [[.c (tRow row), .emp]]) tabQ_ok rfl rfl rfl ⟨rfl, _, rfl, Nat.le_of_ble_eq_true rfl⟩ rfl (by decide) rfl rfl rfl (by decide) (Nat.le_of_ble_eq_true rfl) (Nat.le_of_ble_eq_true rfl) (Nat.le_of_ble_eq_true rfl)) ?_)
            | (refine st_ldr rfl rfl rfl rfl rfl rfl rfl (e := [.c (tRow row), .emp]) (by rfl) rfl ?_)
            | (refine st_str rfl rfl rfl rfl rfl rfl (e := [.c (tRow row), .emp]) (by rfl) ⟨Nat.le_refl _, rfl⟩ rfl ?_)
            | (refine st_pop rfl rfl rfl rfl ?_ ?_; · (repeat' (first | exact trivial | rfl | exact Nat.le_of_ble_eq_true rfl | omega | (intro e he; simp at he; subst he; rfl) | decide | (simp only [List.length_cons, List.length_nil]; omega) | (simp only [List.length_cons, List.length_nil, Nat.zero_add]; decide) | apply And.intro)))
            | (refine st_lop rfl rfl rfl rfl ?_ ?_; · (repeat' (first | exact trivial | rfl | exact Nat.le_of_ble_eq_true rfl | omega | (intro e he; simp at he; subst he; rfl) | decide | (simp only [List.length_cons, List.length_nil]; omega) | (simp only [List.length_cons, List.length_nil, Nat.zero_add]; decide) | apply And.intro)))
            | (refine st_store rfl rfl rfl ?_ ?_; · (repeat' (first | exact trivial | rfl | exact Nat.le_of_ble_eq_true rfl | omega | (intro e he; simp at he; subst he; rfl) | decide | (simp only [List.length_cons, List.length_nil]; omega) | (simp only [List.length_cons, List.length_nil, Nat.zero_add]; decide) | apply And.intro)))
            | (refine st_lit rfl rfl rfl rfl ?_ ?_; · (repeat' (first | exact trivial | rfl | exact Nat.le_of_ble_eq_true rfl | omega | (intro e he; simp at he; subst he; rfl) | decide | (simp only [List.length_cons, List.length_nil]; omega) | (simp only [List.length_cons, List.length_nil, Nat.zero_add]; decide) | apply And.intro)))
            | refine st_skip rfl rfl rfl ?_
            | refine st_skip0 rfl rfl ?_
            | refine st_call rfl rfl rfl rfl hpv rfl ?_
            | refine st_call rfl rfl rfl rfl hky rfl ?_
            | (refine st_if rfl (fun hb => ?_) (fun hb => ?_) <;> (first | (exfalso; revert hb; decide) | (exfalso; simp at hb; done) | (exfalso; simp at hb; omega) | rw [hb]))
            | refine aw_seq ?_
            | refine aw_region tabQ_ok _ rfl ?_
            | refine aw_drawn2 tabXS_ok _ rfl mixed (by decide +kernel) ?_
            | (refine aw_cond rfl (fun hb => ?_) (fun hb => ?_) <;> (try (first | (exfalso; revert hb; decide) | (exfalso; simp at hb; done) | (exfalso; simp at hb; omega))))
            | refine aw_block ?_
            | refine aw_exit ?_
            | refine aw_ret ?_
            | refine aw_skip ?_
            | (refine st_sopq rfl rfl rfl rfl rfl (sop_get0 (G := []) tabQ_ok hf rfl rfl rfl rfl rfl rfl) ?_))
          exact ⟨i + 1, by omega, by omega, by rw [hnx]; exact fits_mk ⟨rfl, rfl, rfl, rfl, rfl, slot_int (wrap_eq (by omega) (by omega)), trivial⟩ [] rfl ⟨trivial, (by show 0 < 5; omega), slotC_below _, trivial, trivial, trivial, trivial⟩ (objC_below _)⟩
        | cons g0 G0 =>
          have hGn : G ≠ [] := by rw [hGe]; simp
          rw [← hGe]
          rw [objC_ne hGn, slotC_ne hGn]
          have htl := tkC_len hGn
          obtain ⟨gn, hgn⟩ : ∃ gn : GrpC, gn = ⟨⟨row, ⟨lo, hi2⟩⟩, [⟨lo, hi2⟩]⟩ := ⟨_, rfl⟩
          have hgk : keyC gn.f.row = keyC row := by rw [hgn]
          rw [← hgn] at hnx
          have hgbe : gbG gn = Ob.row (141 + 65536) [[SV.c (tRow row), SV.emp]] 2 := by rw [hgn]; rfl
          have hLa : (Ob.map (mOf 0 (G ++ [gn])) :: Ob.dead :: gbH G :: Ob.row (141 + 65536 * G.length) (rowF 0 G) 2 :: (tkC G ++ [Ob.dead])).length = 3 + 3 * G.length := by simp; omega
          have hq : ((Ob.map (mOf 0 (G ++ [gn])) :: Ob.dead :: gbH G :: Ob.row (141 + 65536 * G.length) (rowF 0 G) 2 :: (tkC G ++ [Ob.dead])) ++ [Ob.row (141 + 65536) [[SV.c (tRow row), SV.emp]] 2])[3 + 3 * G.length]? = some (Ob.row (141 + 65536) [[SV.c (tRow row), SV.emp]] 2) := by
            rw [List.getElem?_append_right (by rw [hLa]; exact Nat.le_refl _), hLa, Nat.sub_self]; rfl
          have hsrc : srcS ((Ob.map (mOf 0 (G ++ [gn])) :: Ob.dead :: gbH G :: Ob.row (141 + 65536 * G.length) (rowF 0 G) 2 :: (tkC G ++ [Ob.dead])) ++ [Ob.row (141 + 65536) [[SV.c (tRow row), SV.emp]] 2]) (.one (.sl (3 + 3 * G.length) (141 + 65536) 0 1)) = some [[SV.c (tRow row), SV.emp]] := by
            simp only [srcS, hq]; rfl
          have hsok : srcOK tabQ ((Ob.map (mOf 0 (G ++ [gn])) :: Ob.dead :: gbH G :: Ob.row (141 + 65536 * G.length) (rowF 0 G) 2 :: (tkC G ++ [Ob.dead])) ++ [Ob.row (141 + 65536) [[SV.c (tRow row), SV.emp]] 2]) 2 138 (.one (.sl (3 + 3 * G.length) (141 + 65536) 0 1)) := ⟨rfl, [[SV.c (tRow row), SV.emp]], hq, Nat.le_refl _⟩
          have hL2 : ((Ob.map (mOf 0 (G ++ [gn])) :: Ob.dead :: gbH G :: Ob.row (141 + 65536 * G.length) (rowF 0 G) 2 :: (tkC G ++ [Ob.dead])) ++ [Ob.row (141 + 65536) [[SV.c (tRow row), SV.emp]] 2]).set 3 (Ob.row (141 + 65536 * G.length + 65536) (rowF 0 G ++ [[SV.c (tRow row), SV.emp]]) 2) = Ob.map (mOf 0 (G ++ [gn])) :: Ob.dead :: gbH G :: Ob.row (141 + 65536 * G.length + 65536) (rowF 0 G ++ [[SV.c (tRow row), SV.emp]]) 2 :: (tkC G ++ [Ob.dead, Ob.row (141 + 65536) [[SV.c (tRow row), SV.emp]] 2]) := by simp
          have hL2l : (Ob.map (mOf 0 (G ++ [gn])) :: Ob.dead :: gbH G :: Ob.row (141 + 65536 * G.length + 65536) (rowF 0 G ++ [[SV.c (tRow row), SV.emp]]) 2 :: (tkC G ++ [Ob.dead, Ob.row (141 + 65536) [[SV.c (tRow row), SV.emp]] 2])).length = 4 + 3 * G.length := by simp; omega
          have eG : 0 + ((G.length : Nat) : Int).toNat = G.length := by simp
          have hgG : (rowF 0 G ++ [[SV.c (tRow row), .emp]])[0 + ((G.length : Nat) : Int).toNat]? = some [SV.c (tRow row), SV.emp] := by
            rw [eG, List.getElem?_append_right (by rw [rowF_len]; exact Nat.le_refl _), rowF_len]; simp
          have e10 : (G ++ [gn]).length = G.length + 1 := by simp
          have e9 : 141 + 65536 * (G ++ [gn]).length = 141 + 65536 * G.length + 65536 := by rw [e10]; omega
          have hG2 : G ++ [gn] ≠ [] := by simp
          have hstr : ((Ob.map (mOf 0 (G ++ [gn])) :: Ob.dead :: gbH G :: Ob.row (141 + 65536 * G.length + 65536) (rowF 0 G ++ [[SV.c (tRow row), SV.emp]]) 2 :: (tkC G ++ [Ob.dead, Ob.row (141 + 65536) [[SV.c (tRow row), SV.emp]] 2])) ++ [Ob.spare 1 2]).set 3 (Ob.row (141 + 65536 * G.length + 65536) ((rowF 0 G ++ [[SV.c (tRow row), .emp]]).set (0 + ((G.length : Nat) : Int).toNat) [SV.c (tRow row), SV.own [[.int .i64 lo, .int .i64 hi2]] (Ob.map (mOf 0 (G ++ [gn])) :: Ob.dead :: gbH G :: Ob.row (141 + 65536 * G.length + 65536) (rowF 0 G ++ [[SV.c (tRow row), SV.emp]]) 2 :: (tkC G ++ [Ob.dead, Ob.row (141 + 65536) [[SV.c (tRow row), SV.emp]] 2])).length]) 2) = objN (G ++ [gn]) := by
            have e8 : (rowF 0 G ++ [[SV.c (tRow row), .emp]]).set G.length [SV.c (tRow row), SV.own [[.int .i64 lo, .int .i64 hi2]] (4 + 3 * G.length)] = rowF 0 (G ++ [gn]) := by
              rw [rowF_snoc, List.set_append_right _ _ (by rw [rowF_len]; exact Nat.le_refl _), rowF_len, hgn]
              simp [pRow, cPer]
            rw [eG, hL2l, e8]
            unfold objN
            rw [gbH_snoc gn hGn, tkC_snoc gn hGn, e9, hgbe, hgn]
            simp [bxG]
          repeat' (first
            | refine st_nil ?_
            | (refine st_pop rfl rfl rfl rfl ?_ ?_; · (repeat' (first | exact trivial | rfl | exact Nat.le_of_ble_eq_true rfl | omega | (intro e he; simp at he; subst he; rfl) | decide | (show _ < _ + 1; omega) | apply And.intro)))
            | (refine st_lop rfl rfl rfl rfl ?_ ?_; · (repeat' (first | exact trivial | rfl | exact Nat.le_of_ble_eq_true rfl | omega | (intro e he; simp at he; subst he; rfl) | decide | (show _ < _ + 1; omega) | apply And.intro)))
            | (refine st_store rfl rfl rfl ?_ ?_; · (repeat' (first | exact trivial | rfl | exact Nat.le_of_ble_eq_true rfl | omega | (intro e he; simp at he; subst he; rfl) | decide | (show _ < _ + 1; omega) | apply And.intro)))
            | (refine st_lit rfl rfl rfl rfl ?_ ?_; · (repeat' (first | exact trivial | rfl | exact Nat.le_of_ble_eq_true rfl | omega | (intro e he; simp at he; subst he; rfl) | decide | (show _ < _ + 1; omega) | apply And.intro)))
            | refine st_skip rfl rfl rfl ?_
            | refine st_skip0 rfl rfl ?_
            | refine st_call rfl rfl rfl rfl hpv rfl ?_
            | refine st_call rfl rfl rfl rfl hky rfl ?_
            | (refine st_if rfl (fun hb => ?_) (fun hb => ?_) <;> (first | (exfalso; revert hb; decide) | (exfalso; simp at hb; done) | (exfalso; simp at hb; omega) | rw [hb]))
            | refine aw_seq ?_
            | refine aw_region tabQ_ok _ rfl ?_
            | refine aw_drawn2 tabXS_ok _ rfl mixed (by decide +kernel) ?_
            | (refine aw_cond rfl (fun hb => ?_) (fun hb => ?_) <;> (try (first | (exfalso; revert hb; decide) | (exfalso; simp at hb; done) | (exfalso; simp at hb; omega))))
            | refine aw_block ?_
            | refine aw_exit ?_
            | refine aw_ret ?_
            | refine aw_skip ?_
            | (refine st_sopq rfl rfl rfl rfl rfl (sop_get0 (G := G) tabQ_ok hf rfl rfl rfl rfl rfl rfl) ?_))
          refine st_sop0 (L' := (Ob.map (mOf 0 (G ++ [gn])) :: Ob.dead :: gbH G :: Ob.row (141 + 65536 * G.length) (rowF 0 G) 2 :: (tkC G ++ [Ob.dead]))) rfl rfl rfl rfl (sop_putG (G := G) (id := 0) gn tabQ_ok hf hgk rfl rfl rfl rfl rfl rfl) ?_
          repeat' (first
            | refine st_nil ?_
            | (refine st_sop0 (L' := (Ob.map (mOf 0 (G ++ [gn])) :: Ob.dead :: gbH G :: Ob.row (141 + 65536 * G.length) (rowF 0 G) 2 :: (tkC G ++ [Ob.dead]))) rfl rfl rfl rfl (sop_putG (G := G) (id := 0) gn tabQ_ok hf hgk rfl rfl rfl rfl rfl rfl) ?_)
            | (refine st_sop (v := .one (.sl (3 + 3 * G.length) (141 + 65536) 0 1)) (L' := (Ob.map (mOf 0 (G ++ [gn])) :: Ob.dead :: gbH G :: Ob.row (141 + 65536 * G.length) (rowF 0 G) 2 :: (tkC G ++ [Ob.dead])) ++ [Ob.row (141 + 65536) [[SV.c (tRow row), SV.emp]] 2]) rfl rfl rfl rfl rfl (by rw [← hLa]; exact sop_litAgg (k := 2) (E := 141) (cs := [SV.c (tRow row), SV.emp]) tabQ_ok rfl rfl (by decide) (by decide) rfl (by decide) rfl rfl) ?_)
            | (refine st_sop (v := .one (.sl 3 (141 + 65536 * G.length + 65536) 0 (G.length + 1))) (L' := (Ob.map (mOf 0 (G ++ [gn])) :: Ob.dead :: gbH G :: Ob.row (141 + 65536 * G.length + 65536) (rowF 0 G ++ [[SV.c (tRow row), SV.emp]]) 2 :: (tkC G ++ [Ob.dead, Ob.row (141 + 65536) [[SV.c (tRow row), SV.emp]] 2]))) rfl rfl rfl rfl rfl (by rw [← hL2]; exact sop_app (k := 2) (by_ := 48) (xs := [[SV.c (tRow row), SV.emp]]) tabQ_ok rfl rfl rfl hsrc hsok rfl (by show (141 + 65536 * G.length) % 65536 = 141; omega) rfl rfl rfl (by decide) (rowF_len G 0) (by show (_ + 1) * 48 ≤ _; omega) (by show _ + 1 ≤ _; omega)) ?_)
            | (refine st_ldr rfl rfl rfl rfl rfl rfl rfl (e := [SV.c (tRow row), SV.emp]) (by exact hgG) rfl ?_)
            | (refine st_str rfl rfl rfl rfl rfl rfl (e := [SV.c (tRow row), SV.emp]) (by exact hgG) ⟨Nat.le_refl _, rfl⟩ (by exact hstr) ?_)
            | (refine st_pop rfl rfl rfl rfl ?_ ?_; · (repeat' (first | exact trivial | rfl | exact Nat.le_of_ble_eq_true rfl | omega | (intro e he; simp at he; subst he; rfl) | decide | (show _ < _ + 1; omega) | apply And.intro)))
            | (refine st_lop rfl rfl rfl rfl ?_ ?_; · (repeat' (first | exact trivial | rfl | exact Nat.le_of_ble_eq_true rfl | omega | (intro e he; simp at he; subst he; rfl) | decide | (show _ < _ + 1; omega) | apply And.intro)))
            | (refine st_store rfl rfl rfl ?_ ?_; · (repeat' (first | exact trivial | rfl | exact Nat.le_of_ble_eq_true rfl | omega | (intro e he; simp at he; subst he; rfl) | decide | (show _ < _ + 1; omega) | apply And.intro)))
            | (refine st_lit rfl rfl rfl rfl ?_ ?_; · (repeat' (first | exact trivial | rfl | exact Nat.le_of_ble_eq_true rfl | omega | (intro e he; simp at he; subst he; rfl) | decide | (show _ < _ + 1; omega) | apply And.intro)))
            | refine st_skip rfl rfl rfl ?_
            | refine st_skip0 rfl rfl ?_
            | refine st_call rfl rfl rfl rfl hpv rfl ?_
            | refine st_call rfl rfl rfl rfl hky rfl ?_
            | (refine st_if rfl (fun hb => ?_) (fun hb => ?_) <;> (first | (exfalso; revert hb; decide) | (exfalso; simp at hb; done) | (exfalso; simp at hb; omega) | rw [hb]))
            | refine aw_seq ?_
            | refine aw_region tabQ_ok _ rfl ?_
            | refine aw_drawn2 tabXS_ok _ rfl mixed (by decide +kernel) ?_
            | (refine aw_cond rfl (fun hb => ?_) (fun hb => ?_) <;> (try (first | (exfalso; revert hb; decide) | (exfalso; simp at hb; done) | (exfalso; simp at hb; omega))))
            | refine aw_block ?_
            | refine aw_exit ?_
            | refine aw_ret ?_
            | refine aw_skip ?_
            | (refine st_sopq rfl rfl rfl rfl rfl (sop_get0 (G := G) tabQ_ok hf rfl rfl rfl rfl rfl rfl) ?_))
          exact ⟨i + 1, by omega, by omega, by rw [hnx, objC_ne hG2, slotC_ne hG2, e9, e10]; exact fits_mk ⟨rfl, rfl, rfl, rfl, rfl, slot_int (wrap_eq (by omega) (by omega)), trivial⟩ [] (List.append_nil _).symm ⟨trivial, (by show 0 < _; rw [objN_len hG2]; omega), (by show 3 < _; rw [objN_len hG2, e10]; omega), trivial, trivial, trivial, trivial⟩ (by rw [← objC_ne hG2]; exact objC_below _)⟩
  · have htk : l.take i = l := List.take_of_length_le (by omega)
    have hN : decide ((i : Int) < n) = false := by simp; omega
    rw [htk] at hgl hgm ⊢
    have hgl2 := gfoldC_len l
    have hrP : rowsP l = sortT cmpSG ((gfoldC l).map fun g => (⟨g.f.row, g.ps⟩ : SGroupcoalesce)) := rfl
    rw [hrP]
    clear hrP
    have hgm2 : ∀ g ∈ gfoldC l, g.f.row.length ≤ 1000 := fun g hg => (h _ (gfoldC_mem l g hg).2.1).1
    generalize gfoldC l = G at hgl hgm hgl2 hgm2 ⊢
    repeat' (first
      | refine st_nil ?_
      | (refine st_pop rfl rfl rfl rfl ?_ ?_; · (repeat' (first | exact trivial | rfl | exact Nat.le_of_ble_eq_true rfl | omega | apply And.intro)))
      | (refine st_lop rfl rfl rfl rfl ?_ ?_; · (repeat' (first | exact trivial | rfl | exact Nat.le_of_ble_eq_true rfl | omega | apply And.intro)))
      | (refine st_store rfl rfl rfl ?_ ?_; · (repeat' (first | exact trivial | rfl | exact Nat.le_of_ble_eq_true rfl | omega | apply And.intro)))
      | (refine st_lit rfl rfl rfl rfl ?_ ?_; · (repeat' (first | exact trivial | rfl | exact Nat.le_of_ble_eq_true rfl | omega | apply And.intro)))
      | refine st_skip rfl rfl rfl ?_
      | refine st_skip0 rfl rfl ?_
      | (refine st_if rfl (fun hb => ?_) (fun hb => ?_) <;> (first | (exfalso; revert hb; decide) | (exfalso; simp at hb; done) | (exfalso; simp at hb; omega) | rw [hb]))
      | refine aw_seq ?_
      | (refine aw_cond rfl (fun hb => ?_) (fun hb => ?_) <;> (try (first | (exfalso; revert hb; decide) | (exfalso; simp at hb; done) | (exfalso; simp at hb; omega))))
      | refine aw_block ?_
      | refine aw_exit ?_
      | refine aw_ret ?_
      | refine aw_skip ?_)
    refine aw_region tabQ_ok _ rfl ?_
    repeat' (first
      | refine st_nil ?_
      | rw [hN]
      | (refine st_pop rfl rfl rfl rfl ?_ ?_; · (repeat' (first | exact trivial | rfl | exact Nat.le_of_ble_eq_true rfl | omega | apply And.intro)))
      | (refine st_idx rfl rfl rfl rfl rfl rfl rfl rfl hidx ?_ ?_; · exact ⟨by omega, rfl⟩)
      | (refine st_lop rfl rfl rfl rfl ?_ ?_; · (repeat' (first | exact trivial | rfl | exact Nat.le_of_ble_eq_true rfl | omega | apply And.intro)))
      | (refine st_store rfl rfl rfl ?_ ?_; · (repeat' (first | exact trivial | rfl | exact Nat.le_of_ble_eq_true rfl | omega | apply And.intro)))
      | (refine st_lit rfl rfl rfl rfl ?_ ?_; · (repeat' (first | exact trivial | rfl | exact Nat.le_of_ble_eq_true rfl | omega | apply And.intro)))
      | refine st_skip rfl rfl rfl ?_
      | refine st_skip0 rfl rfl ?_
      | (refine st_if rfl (fun hb => ?_) (fun hb => ?_) <;> (first | (exfalso; revert hb; decide) | (exfalso; simp at hb; done) | (exfalso; simp at hb; omega) | rw [hb]))
      | refine aw_seq ?_
      | (refine aw_cond rfl (fun hb => ?_) (fun hb => ?_) <;> (try (first | (exfalso; revert hb; decide) | (exfalso; simp at hb; done) | (exfalso; simp at hb; omega))))
      | refine aw_block ?_
      | refine aw_exit ?_
      | refine aw_ret ?_
      | refine aw_skip ?_)
    cases hGe : G with
    | nil =>
      have e0 : (sortT cmpSG (([] : List GrpC).map fun g => (⟨g.f.row, g.ps⟩ : SGroupcoalesce))).map cSGroupcoalesce = [] := rfl
      rw [e0]
      repeat' (first
        | refine st_nil ?_
        | (refine st_pop rfl rfl rfl rfl ?_ ?_; · (repeat' (first | exact trivial | rfl | exact Nat.le_of_ble_eq_true rfl | omega | apply And.intro)))
        | (refine st_lop rfl rfl rfl rfl ?_ ?_; · (repeat' (first | exact trivial | rfl | exact Nat.le_of_ble_eq_true rfl | omega | apply And.intro)))
        | (refine st_store rfl rfl rfl ?_ ?_; · (repeat' (first | exact trivial | rfl | exact Nat.le_of_ble_eq_true rfl | omega | apply And.intro)))
        | (refine st_lit rfl rfl rfl rfl ?_ ?_; · (repeat' (first | exact trivial | rfl | exact Nat.le_of_ble_eq_true rfl | omega | apply And.intro)))
        | refine st_skip rfl rfl rfl ?_
        | refine st_skip0 rfl rfl ?_
        | refine st_call rfl rfl rfl rfl stable_nil rfl ?_
        | (refine st_if rfl (fun hb => ?_) (fun hb => ?_) <;> (first | (exfalso; revert hb; decide) | (exfalso; simp at hb; done) | (exfalso; simp at hb; omega) | rw [hb]))
        | refine aw_seq ?_
        | refine aw_region tabQ_ok _ rfl ?_
        | refine aw_drawn2 tabXS_ok _ rfl mixed (by decide +kernel) ?_
        | (refine aw_cond rfl (fun hb => ?_) (fun hb => ?_) <;> (try (first | (exfalso; revert hb; decide) | (exfalso; simp at hb; done) | (exfalso; simp at hb; omega))))
        | refine aw_block ?_
        | refine aw_exit ?_
        | refine aw_ret ?_
        | refine aw_skip ?_)
      exact end_ret (res_of rfl (by trivial) rfl)
    | cons g0 G0 =>
      have hGn : G ≠ [] := by rw [hGe]; simp
      rw [← hGe, objC_ne hGn, slotC_ne hGn]
      refine aw_normRow 3 rfl (normR_rowF G 0) ?_
      have e1 : (G.map fun g => [tRow g.f.row, AC.lst (pRow g.ps)]).map (List.map SV.c) = ((G.map fun g => (⟨g.f.row, g.ps⟩ : SGroupcoalesce)).map encSG).map gCG := by
        simp only [List.map_map]; rfl
      rw [e1]
      obtain ⟨X, hX⟩ : ∃ X : List SGroupcoalesce, X = G.map fun g => ⟨g.f.row, g.ps⟩ := ⟨_, rfl⟩
      have hXl : X.length = G.length := by rw [hX]; simp
      have hXr : ∀ s ∈ X, s.row.length ≤ 1000 := by
        intro s hs
        rw [hX] at hs
        obtain ⟨g, hg, rfl⟩ := List.mem_map.1 hs
        exact hgm2 g hg
      rw [← hX]
      have e2 : (objN G).set 3 (.row (141 + 65536 * G.length) ((X.map encSG).map gCG) 2) = .map (mOf 0 G) :: .dead :: gbH G :: .row (141 + 65536 * G.length) ((X.map encSG).map gCG) 2 :: tkC G := rfl
      rw [e2]
      have hrun := sortS_runG 172 tcmpG (141 + 65536 * G.length) (X.map encSG) G.length (by simp [hXl]) (by omega) (by
        intro x y hx hy
        obtain ⟨a, ha, rfl⟩ := List.mem_map.1 hx
        obtain ⟨b, hb, rfl⟩ := List.mem_map.1 hy
        have la := hXr a ha
        have lb := hXr b hb
        rw [tcmpG_enc]
        exact gRowsC_ok (gRowsC_eq a b (by omega) (by omega)))
      rw [isortG_enc] at hrun
      refine aw_region tabQ_ok _ rfl ?_
      repeat' (first
        | refine st_nil ?_
        | (refine st_run [3] rfl rfl rfl rfl hrun rfl (rfG3 rfl (args_below ⟨(by show 0 < 1; omega), trivial, trivial⟩)) rfl (jG3 (L' := .map (mOf 0 G) :: .dead :: gbH G :: .row (141 + 65536 * G.length) (((sortT cmpSG X).map encSG).map gCG) 2 :: tkC G) rfl) ?_)
        | (refine st_pop rfl rfl rfl rfl ?_ ?_; · (repeat' (first | exact trivial | rfl | exact Nat.le_of_ble_eq_true rfl | omega | apply And.intro)))
        | (refine st_lop rfl rfl rfl rfl ?_ ?_; · (repeat' (first | exact trivial | rfl | exact Nat.le_of_ble_eq_true rfl | omega | apply And.intro)))
        | (refine st_store rfl rfl rfl ?_ ?_; · (repeat' (first | exact trivial | rfl | exact Nat.le_of_ble_eq_true rfl | omega | apply And.intro)))
        | (refine st_lit rfl rfl rfl rfl ?_ ?_; · (repeat' (first | exact trivial | rfl | exact Nat.le_of_ble_eq_true rfl | omega | apply And.intro)))
        | refine st_skip rfl rfl rfl ?_
        | refine st_skip0 rfl rfl ?_
        | (refine st_if rfl (fun hb => ?_) (fun hb => ?_) <;> (first | (exfalso; revert hb; decide) | (exfalso; simp at hb; done) | (exfalso; simp at hb; omega) | rw [hb]))
        | refine aw_seq ?_
        | (refine aw_cond rfl (fun hb => ?_) (fun hb => ?_) <;> (try (first | (exfalso; revert hb; decide) | (exfalso; simp at hb; done) | (exfalso; simp at hb; omega))))
        | refine aw_block ?_
        | refine aw_exit ?_
        | refine aw_ret ?_
        | refine aw_skip ?_)
      refine aw_freezeRow 3 (L := .map (mOf 0 G) :: .dead :: gbH G :: .row (141 + 65536 * G.length) (((sortT cmpSG X).map encSG).map gCG) 2 :: tkC G) rfl (normR_gCG _) ?_
      simp only [List.map_cons, List.map_nil, thA, thS, and_self, if_true, List.drop_zero]
      have e3 : (((sortT cmpSG X).map encSG).map fun x => [x.1, x.2]).take G.length = (sortT cmpSG X).map cSGroupcoalesce := by
        rw [List.take_of_length_le (by simp [(sortT_perm cmpSG X).length_eq, hXl]), List.map_map]; rfl
      rw [e3]
      repeat' (first
        | refine st_nil ?_
        | (refine st_pop rfl rfl rfl rfl ?_ ?_; · (repeat' (first | exact trivial | rfl | exact Nat.le_of_ble_eq_true rfl | omega | apply And.intro)))
        | (refine st_lop rfl rfl rfl rfl ?_ ?_; · (repeat' (first | exact trivial | rfl | exact Nat.le_of_ble_eq_true rfl | omega | apply And.intro)))
        | (refine st_store rfl rfl rfl ?_ ?_; · (repeat' (first | exact trivial | rfl | exact Nat.le_of_ble_eq_true rfl | omega | apply And.intro)))
        | (refine st_lit rfl rfl rfl rfl ?_ ?_; · (repeat' (first | exact trivial | rfl | exact Nat.le_of_ble_eq_true rfl | omega | apply And.intro)))
        | refine st_skip rfl rfl rfl ?_
        | refine st_skip0 rfl rfl ?_
        | (refine st_if rfl (fun hb => ?_) (fun hb => ?_) <;> (first | (exfalso; revert hb; decide) | (exfalso; simp at hb; done) | (exfalso; simp at hb; omega) | rw [hb]))
        | refine aw_seq ?_
        | refine aw_region tabQ_ok _ rfl ?_
        | refine aw_drawn2 tabXS_ok _ rfl mixed (by decide +kernel) ?_
        | (refine aw_cond rfl (fun hb => ?_) (fun hb => ?_) <;> (try (first | (exfalso; revert hb; decide) | (exfalso; simp at hb; done) | (exfalso; simp at hb; omega))))
        | refine aw_block ?_
        | refine aw_exit ?_
        | refine aw_ret ?_
        | refine aw_skip ?_)
      exact end_ret (res_of rfl (by trivial) rfl)
end Go.Proofs.YtfccopdbgfdcdaaGreatDoor
