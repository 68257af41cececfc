/- StepsLayers of bitemporallaw04 returns true for every list of steps and every number; the list reads afterwards as before. No condition. -/
import Derived.Test.YtllenmkmompjpaaLd
import Derived.Test.YtllenmkmompjpaaLe
import Derived.Test.YtllenmkmompjpaaOpen
namespace Go.Proofs.Ytllenmkmompjpaa.stepsLayers
open Go.ChangeShapes Go.WideShapes Go.ChangeAt Go.RowKit
set_option linter.unusedVariables false

set_option maxRecDepth 100000
theorem layers_no (l : List (Int × Int)) (n : Int) (h : fineB l.length l = false) : Pure Try.prog 6 [.one (vP l), .one (.int .i64 n)] (vBool true) := by
  have hf := fine_pure l
  rw [h] at hf
  refine pure_of_aw tab_ok Try.func6 rfl rfl Try.ntmps6 (by simp) ?_
  simp only [argT, PV.av]
  repeat' (first
    | refine st_nil ?_
    | (refine st_pop rfl rfl rfl rfl ?_ ?_; · (repeat' (first | exact trivial | rfl | exact Nat.le_of_ble_eq_true rfl | omega | apply And.intro)))
    | (refine st_lop rfl rfl rfl rfl ?_ ?_; · (repeat' (first | exact trivial | rfl | exact Nat.le_of_ble_eq_true rfl | omega | apply And.intro)))
    | (refine st_store rfl rfl rfl ?_ ?_; · (repeat' (first | exact trivial | rfl | exact Nat.le_of_ble_eq_true rfl | omega | apply And.intro)))
    | (refine st_lit rfl rfl rfl rfl ?_ ?_; · (repeat' (first | exact trivial | rfl | exact Nat.le_of_ble_eq_true rfl | omega | apply And.intro)))
    | refine st_skip rfl rfl rfl ?_
    | refine st_skip0 rfl rfl ?_
    | refine st_call rfl rfl rfl rfl hf rfl ?_
    | refine st_call rfl rfl rfl rfl awake_pure rfl ?_
    | (refine st_if rfl (fun hb => ?_) (fun hb => ?_) <;> (first | (exfalso; revert hb; decide) | (exfalso; simp at hb; done) | (exfalso; simp at hb; omega) | rw [hb]))
    | refine aw_seq ?_
    | refine aw_region tab_ok _ rfl ?_
    | refine aw_drawn tab_ok _ rfl mixed (by decide +kernel) ?_
    | (refine aw_cond rfl (fun hb => ?_) (fun hb => ?_) <;> (try (first | (exfalso; revert hb; decide) | (exfalso; simp at hb; done) | (exfalso; simp at hb; omega))))
    | refine aw_block ?_
    | refine aw_exit ?_
    | refine aw_ret ?_
    | refine aw_skip ?_)
  all_goals exact end_ret (res_of rfl (by trivial) rfl)
theorem layers_high (l : List (Int × Int)) (n : Int) (h : fineB l.length l = true) (hl : l.length ≤ 24) (hG : 12 < greatest l ∨ 12 < n) : Pure Try.prog 6 [.one (vP l), .one (.int .i64 n)] (vBool true) := by
  have hf := fine_pure l
  rw [h] at hf
  have hg := greatest_pure l (by omega)
  generalize greatest l = G at hg hG
  rcases hG with hG | hG
  · refine pure_of_aw tab_ok Try.func6 rfl rfl Try.ntmps6 (by simp) ?_
    simp only [argT, PV.av]
    repeat' (first
      | refine st_nil ?_
      | (refine st_pop rfl rfl rfl rfl ?_ ?_; · (repeat' (first | exact trivial | rfl | exact Nat.le_of_ble_eq_true rfl | omega | apply And.intro)))
      | (refine st_lop rfl rfl rfl rfl ?_ ?_; · (repeat' (first | exact trivial | rfl | exact Nat.le_of_ble_eq_true rfl | omega | apply And.intro)))
      | (refine st_store rfl rfl rfl ?_ ?_; · (repeat' (first | exact trivial | rfl | exact Nat.le_of_ble_eq_true rfl | omega | apply And.intro)))
      | (refine st_lit rfl rfl rfl rfl ?_ ?_; · (repeat' (first | exact trivial | rfl | exact Nat.le_of_ble_eq_true rfl | omega | apply And.intro)))
      | refine st_skip rfl rfl rfl ?_
      | refine st_skip0 rfl rfl ?_
      | refine st_call rfl rfl rfl rfl hf rfl ?_
      | refine st_call rfl rfl rfl rfl hg rfl ?_
      | refine st_call rfl rfl rfl rfl awake_pure rfl ?_
      | (refine st_if rfl (fun hb => ?_) (fun hb => ?_) <;> (first | (exfalso; revert hb; decide) | (exfalso; simp at hb; done) | (exfalso; simp at hb; omega) | rw [hb]))
      | refine aw_seq ?_
      | refine aw_region tab_ok _ rfl ?_
      | refine aw_drawn tab_ok _ rfl mixed (by decide +kernel) ?_
      | (refine aw_cond rfl (fun hb => ?_) (fun hb => ?_) <;> (try (first | (exfalso; revert hb; decide) | (exfalso; simp at hb; done) | (exfalso; simp at hb; omega))))
      | refine aw_block ?_
      | refine aw_exit ?_
      | refine aw_ret ?_
      | refine aw_skip ?_)
    all_goals exact end_ret (res_of rfl (by trivial) rfl)
  · refine pure_of_aw tab_ok Try.func6 rfl rfl Try.ntmps6 (by simp) ?_
    simp only [argT, PV.av]
    repeat' (first
      | refine st_nil ?_
      | (refine st_pop rfl rfl rfl rfl ?_ ?_; · (repeat' (first | exact trivial | rfl | exact Nat.le_of_ble_eq_true rfl | omega | apply And.intro)))
      | (refine st_lop rfl rfl rfl rfl ?_ ?_; · (repeat' (first | exact trivial | rfl | exact Nat.le_of_ble_eq_true rfl | omega | apply And.intro)))
      | (refine st_store rfl rfl rfl ?_ ?_; · (repeat' (first | exact trivial | rfl | exact Nat.le_of_ble_eq_true rfl | omega | apply And.intro)))
      | (refine st_lit rfl rfl rfl rfl ?_ ?_; · (repeat' (first | exact trivial | rfl | exact Nat.le_of_ble_eq_true rfl | omega | apply And.intro)))
      | refine st_skip rfl rfl rfl ?_
      | refine st_skip0 rfl rfl ?_
      | refine st_call rfl rfl rfl rfl hf rfl ?_
      | refine st_call rfl rfl rfl rfl hg rfl ?_
      | refine st_call rfl rfl rfl rfl awake_pure rfl ?_
      | (refine st_if rfl (fun hb => ?_) (fun hb => ?_) <;> (first | (exfalso; revert hb; decide) | (exfalso; simp at hb; done) | (exfalso; simp at hb; omega) | rw [hb]))
      | refine aw_seq ?_
      | refine aw_region tab_ok _ rfl ?_
      | refine aw_drawn tab_ok _ rfl mixed (by decide +kernel) ?_
      | (refine aw_cond rfl (fun hb => ?_) (fun hb => ?_) <;> (try (first | (exfalso; revert hb; decide) | (exfalso; simp at hb; done) | (exfalso; simp at hb; omega))))
      | refine aw_block ?_
      | refine aw_exit ?_
      | refine aw_ret ?_
      | refine aw_skip ?_)
    all_goals exact end_ret (res_of rfl (by trivial) rfl)
theorem atl_len (l : List (Int × Int)) (n : Int) : (atl l n).length ≤ l.length := by have := atFold_len n (segs l) []; rw [segs_len] at this; simp at this; exact this
theorem layers_yes (l : List (Int × Int)) (n : Int) (h : fineB l.length l = true) (hl : l.length ≤ 24) (hs : svalid l = true) (hG : greatest l ≤ 12) (hn : n ≤ 12) (hn0 : -9223372036854775808 ≤ n) : Pure Try.prog 6 [.one (vP l), .one (.int .i64 n)] (vBool true) := by
  have hf := fine_pure l
  rw [h] at hf
  have hg := greatest_pure l (by omega)
  have hM : ∀ s ∈ l, s.2 ≤ 12 := fun s hs => by have := stepsLevels.greatest_le s hs; omega
  have ha := svalid_asc hs
  have h1 := atl_pure l n (by omega) ha.1 ha.2.1
  have hw : IntKind.i64.wrap (n + 1) = n + 1 := wrap_in (by omega)
  have h2 : Pure Try.prog 17 [.one (vP l), .one (.int .i64 (IntKind.i64.wrap (n + 1)))] (.val (.one (vP (atl l (n + 1))))) := by rw [hw]; exact atl_pure l (n + 1) (by omega) ha.1 ha.2.1
  have h3 := covers_sub (atl l n) (atl l (n + 1)) (by have := atl_len l n; omega) (by have := atl_len l (n + 1); omega) (layers_sub hs n)
  have h4 := lev_pure l (by omega) ha.1 ha.2.1 hM
  have hS : (levM l).length ≤ 288 := by have := stepsLevels.levM_len l; omega
  have hnest : ∀ p q, p ∈ levM l → q ∈ levM l → poverlaps p q = true → pcovers p q = true ∨ pcovers q p = true := fun p q hp hq => nested hs hp hq
  generalize levM l = S at h4 hS hnest
  generalize atl l n = X at h1 h3
  generalize atl l (n + 1) = Y at h2 h3
  generalize greatest l = G at hg hG
  refine pure_of_aw tab_ok Try.func6 rfl rfl Try.ntmps6 (by simp) ?_
  simp only [argT, PV.av]
  repeat' (first
    | refine st_nil ?_
    | (refine st_pop rfl rfl rfl rfl ?_ ?_; · (repeat' (first | exact trivial | rfl | exact Nat.le_of_ble_eq_true rfl | omega | apply And.intro)))
    | (refine st_lop rfl rfl rfl rfl ?_ ?_; · (repeat' (first | exact trivial | rfl | exact Nat.le_of_ble_eq_true rfl | omega | apply And.intro)))
    | (refine st_store rfl rfl rfl ?_ ?_; · (repeat' (first | exact trivial | rfl | exact Nat.le_of_ble_eq_true rfl | omega | apply And.intro)))
    | (refine st_lit rfl rfl rfl rfl ?_ ?_; · (repeat' (first | exact trivial | rfl | exact Nat.le_of_ble_eq_true rfl | omega | apply And.intro)))
    | refine st_skip rfl rfl rfl ?_
    | refine st_skip0 rfl rfl ?_
    | refine st_call rfl rfl rfl rfl hf rfl ?_
    | refine st_call rfl rfl rfl rfl hg rfl ?_
    | refine st_call rfl rfl rfl rfl h1 rfl ?_
    | refine st_call rfl rfl rfl rfl h2 rfl ?_
    | refine st_call rfl rfl rfl rfl h3 rfl ?_
    | refine st_call rfl rfl rfl rfl h4 rfl ?_
    | (refine st_if rfl (fun hb => ?_) (fun hb => ?_) <;> (first | (exfalso; revert hb; decide) | (exfalso; simp at hb; done) | (exfalso; simp at hb; omega) | rw [hb]))
    | refine aw_seq ?_
    | refine aw_region tab_ok _ rfl ?_
    | refine aw_drawn tab_ok _ rfl mixed (by decide +kernel) ?_
    | (refine aw_cond rfl (fun hb => ?_) (fun hb => ?_) <;> (try (first | (exfalso; revert hb; decide) | (exfalso; simp at hb; done) | (exfalso; simp at hb; omega))))
    | refine aw_block ?_
    | refine aw_exit ?_
    | refine aw_ret ?_
    | refine aw_skip ?_)
  refine aw_loop (fun i : Nat => [(5, .one (.c (vP S))), (6, .one (.c (.int .i64 i)))]) (fun _ => []) (fun _ => True) (fun i => S.length - i) 0 trivial (fits_mk (by repeat' (first | exact trivial | rfl | apply And.intro)) [] rfl (by repeat' (first | exact trivial | apply And.intro)) (by repeat' (first | exact trivial | apply And.intro))) ?_
  intro i _
  by_cases hlt : i < S.length
  · obtain ⟨y, hy⟩ := get_of_lt hlt
    repeat' (first
      | refine st_nil ?_
      | (refine st_pop rfl rfl rfl rfl ?_ ?_; · (repeat' (first | exact trivial | rfl | exact Nat.le_of_ble_eq_true rfl | omega | apply And.intro)))
      | (refine st_lop rfl rfl rfl rfl ?_ ?_; · (repeat' (first | exact trivial | rfl | exact Nat.le_of_ble_eq_true rfl | omega | apply And.intro)))
      | (refine st_store rfl rfl rfl ?_ ?_; · (repeat' (first | exact trivial | rfl | exact Nat.le_of_ble_eq_true rfl | omega | apply And.intro)))
      | (refine st_lit rfl rfl rfl rfl ?_ ?_; · (repeat' (first | exact trivial | rfl | exact Nat.le_of_ble_eq_true rfl | omega | apply And.intro)))
      | refine st_skip rfl rfl rfl ?_
      | refine st_skip0 rfl rfl ?_
      | (refine st_if rfl (fun hb => ?_) (fun hb => ?_) <;> (first | (exfalso; revert hb; decide) | (exfalso; simp at hb; done) | (exfalso; simp at hb; omega) | rw [hb]))
      | refine aw_seq ?_
      | refine aw_region tab_ok _ rfl ?_
      | refine aw_drawn tab_ok _ rfl mixed (by decide +kernel) ?_
      | (refine aw_cond rfl (fun hb => ?_) (fun hb => ?_) <;> (try (first | (exfalso; revert hb; decide) | (exfalso; simp at hb; done) | (exfalso; simp at hb; omega))))
      | refine aw_block ?_
      | refine aw_exit ?_
      | refine aw_ret ?_
      | refine aw_skip ?_)
    refine aw_loop (fun k : Nat => [(5, .one (.c (vP S))), (6, .one (.c (.int .i64 i))), (7, .one (.c (.int .i64 k)))]) (fun _ => []) (fun k => k ≤ i) (fun k => i - k) 0 (by omega) (fits_mk (by repeat' (first | exact trivial | rfl | apply And.intro)) [] rfl (by repeat' (first | exact trivial | apply And.intro)) (by repeat' (first | exact trivial | apply And.intro))) ?_
    intro k hk
    by_cases hki : k < i
    · obtain ⟨x, hx⟩ := get_of_lt (show k < S.length by omega)
      have hxy := hnest x y (List.mem_of_getElem? hx) (List.mem_of_getElem? hy)
      repeat' (first
        | refine st_nil ?_
        | (refine st_pop rfl rfl rfl rfl ?_ ?_; · (repeat' (first | exact trivial | rfl | exact Nat.le_of_ble_eq_true rfl | omega | apply And.intro)))
        | (refine st_idx rfl rfl rfl rfl rfl rfl rfl rfl (idx_map hx) ?_ ?_; · exact ⟨by omega, rfl⟩)
        | (refine st_idx rfl rfl rfl rfl rfl rfl rfl rfl (idx_map hy) ?_ ?_; · exact ⟨by omega, rfl⟩)
        | (refine st_lop rfl rfl rfl rfl ?_ ?_; · (repeat' (first | exact trivial | rfl | exact Nat.le_of_ble_eq_true rfl | omega | apply And.intro)))
        | (refine st_store rfl rfl rfl ?_ ?_; · (repeat' (first | exact trivial | rfl | exact Nat.le_of_ble_eq_true rfl | omega | apply And.intro)))
        | (refine st_lit rfl rfl rfl rfl ?_ ?_; · (repeat' (first | exact trivial | rfl | exact Nat.le_of_ble_eq_true rfl | omega | apply And.intro)))
        | refine st_skip rfl rfl rfl ?_
        | refine st_skip0 rfl rfl ?_
        | refine st_call rfl rfl rfl rfl (poverlaps_pure _ _ _ _) rfl ?_
        | refine st_call rfl rfl rfl rfl (pcovers_pure _ _ _ _) rfl ?_
        | (refine st_if rfl (fun hb => ?_) (fun hb => ?_) <;> (first | (exfalso; revert hb; decide) | (exfalso; simp at hb; done) | (exfalso; simp at hb; omega) | rw [hb]))
        | refine aw_seq ?_
        | refine aw_region tab_ok _ rfl ?_
        | refine aw_drawn tab_ok _ rfl mixed (by decide +kernel) ?_
        | (refine aw_cond rfl (fun hb => ?_) (fun hb => ?_) <;> (try (first | (exfalso; revert hb; decide) | (exfalso; simp at hb; done) | (exfalso; simp at hb; omega))))
        | refine aw_block ?_
        | refine aw_exit ?_
        | refine aw_ret ?_
        | refine aw_skip ?_)
      all_goals first
        | exact ⟨k + 1, by omega, by omega, fits_mk ⟨rfl, rfl, slot_int (wrap_eq (by omega) (by omega)), trivial⟩ [] rfl (by repeat' (first | exact trivial | apply And.intro)) (by repeat' (first | exact trivial | apply And.intro))⟩
        | (exfalso; simp_all; done)
    · have hki2 : k = i := by omega
      subst hki2
      repeat' (first
        | refine st_nil ?_
        | (refine st_pop rfl rfl rfl rfl ?_ ?_; · (repeat' (first | exact trivial | rfl | exact Nat.le_of_ble_eq_true rfl | omega | apply And.intro)))
        | (refine st_lop rfl rfl rfl rfl ?_ ?_; · (repeat' (first | exact trivial | rfl | exact Nat.le_of_ble_eq_true rfl | omega | apply And.intro)))
        | (refine st_store rfl rfl rfl ?_ ?_; · (repeat' (first | exact trivial | rfl | exact Nat.le_of_ble_eq_true rfl | omega | apply And.intro)))
        | (refine st_lit rfl rfl rfl rfl ?_ ?_; · (repeat' (first | exact trivial | rfl | exact Nat.le_of_ble_eq_true rfl | omega | apply And.intro)))
        | refine st_skip rfl rfl rfl ?_
        | refine st_skip0 rfl rfl ?_
        | (refine st_if rfl (fun hb => ?_) (fun hb => ?_) <;> (first | (exfalso; revert hb; decide) | (exfalso; simp at hb; done) | (exfalso; simp at hb; omega) | rw [hb]))
        | refine aw_seq ?_
        | refine aw_region tab_ok _ rfl ?_
        | refine aw_drawn tab_ok _ rfl mixed (by decide +kernel) ?_
        | (refine aw_cond rfl (fun hb => ?_) (fun hb => ?_) <;> (try (first | (exfalso; revert hb; decide) | (exfalso; simp at hb; done) | (exfalso; simp at hb; omega))))
        | refine aw_block ?_
        | refine aw_exit ?_
        | refine aw_ret ?_
        | refine aw_skip ?_)
      exact ⟨k + 1, trivial, by omega, fits_mk ⟨rfl, slot_int (wrap_eq (by omega) (by omega)), trivial⟩ [] rfl (by repeat' (first | exact trivial | apply And.intro)) (by repeat' (first | exact trivial | apply And.intro))⟩
  · have hps : S.length ≤ i := by omega
    repeat' (first
      | refine st_nil ?_
      | (refine st_pop rfl rfl rfl rfl ?_ ?_; · (repeat' (first | exact trivial | rfl | exact Nat.le_of_ble_eq_true rfl | omega | apply And.intro)))
      | (refine st_lop rfl rfl rfl rfl ?_ ?_; · (repeat' (first | exact trivial | rfl | exact Nat.le_of_ble_eq_true rfl | omega | apply And.intro)))
      | (refine st_store rfl rfl rfl ?_ ?_; · (repeat' (first | exact trivial | rfl | exact Nat.le_of_ble_eq_true rfl | omega | apply And.intro)))
      | (refine st_lit rfl rfl rfl rfl ?_ ?_; · (repeat' (first | exact trivial | rfl | exact Nat.le_of_ble_eq_true rfl | omega | apply And.intro)))
      | refine st_skip rfl rfl rfl ?_
      | refine st_skip0 rfl rfl ?_
      | refine st_call rfl rfl rfl rfl awake_pure rfl ?_
      | (refine st_if rfl (fun hb => ?_) (fun hb => ?_) <;> (first | (exfalso; revert hb; decide) | (exfalso; simp at hb; done) | (exfalso; simp at hb; omega) | rw [hb]))
      | refine aw_seq ?_
      | refine aw_region tab_ok _ rfl ?_
      | refine aw_drawn tab_ok _ rfl mixed (by decide +kernel) ?_
      | (refine aw_cond rfl (fun hb => ?_) (fun hb => ?_) <;> (try (first | (exfalso; revert hb; decide) | (exfalso; simp at hb; done) | (exfalso; simp at hb; omega))))
      | refine aw_block ?_
      | refine aw_exit ?_
      | refine aw_ret ?_
      | refine aw_skip ?_)
    exact end_ret (res_of rfl (by trivial) rfl)
theorem layers_pure (l : List (Int × Int)) (n : Int) (hn0 : -9223372036854775808 ≤ n) : Pure Try.prog 6 [.one (vP l), .one (.int .i64 n)] (vBool true) := by
  cases h : fineB l.length l
  · exact layers_no l n h
  · obtain ⟨hl, hs⟩ := fineB_yes h
    by_cases hG : 12 < greatest l ∨ 12 < n
    · exact layers_high l n h hl hG
    · exact layers_yes l n h hl hs (by omega) (by omega) hn0
theorem prep_of_rd {w : World} {A : Option Addr} {n c : Nat} {l : List (Int × Int)} (h : Rd e2 2 w w.heap.size A n l) (hc : n ≤ c) : PRep (fun b o => w.cell? ⟨b, o, none⟩) (.slice A n c) (vP l) := by
  have hlen := h.1
  by_cases hz : l.length = 0
  · have : l = [] := List.eq_nil_of_length_eq_zero hz
    subst this
    simp at hlen; subst hlen
    exact prep_nil _ _ _
  · obtain ⟨b, o, rfl, hb, hcell⟩ := h.2 (by omega)
    have key : ∀ (i : Nat) x, l[i]? = some x → w.cell? ⟨b, o + (i * 2 + 0), none⟩ = some (.int .i64 x.1) ∧ w.cell? ⟨b, o + (i * 2 + 1), none⟩ = some (.int .i64 x.2) := by
      intro i x hx
      rw [← Nat.add_assoc, ← Nat.add_assoc]
      exact ⟨hcell i x hx 0 _ rfl, hcell i x hx 1 _ rfl⟩
    refine .lst _ _ _ _ 2 (fun j => (w.cell? ⟨b, o + j, none⟩).getD Go.undef) b o (by simp [hlen]) hc (by intro e he; simp only [List.mem_map] at he; obtain ⟨x, _, rfl⟩ := he; rfl) (fun _ => rfl) (fun j hj => ?_) (fun i e j y he hy => ?_)
    · have hi : j / 2 < l.length := by omega
      have hx : l[j / 2]? = some l[j / 2] := List.getElem?_eq_getElem hi
      have := key _ _ hx
      have hm : j = j / 2 * 2 + j % 2 := by omega
      rcases Nat.mod_two_eq_zero_or_one j with h0 | h0
      · rw [h0] at hm; rw [hm, this.1]; rfl
      · rw [h0] at hm; rw [hm, this.2]; rfl
    · rw [List.getElem?_map] at he
      cases hx : l[i]? with
      | none => simp [hx] at he
      | some x =>
        rw [hx] at he; simp only [Option.map_some, Option.some.injEq] at he; subst he
        have := key i x hx
        match j, hy with
        | 0, hy => simp [cP] at hy; subst hy; rw [this.1]; exact .int _ _
        | 1, hy => simp [cP] at hy; subst hy; rw [this.2]; exact .int _ _
        | j + 2, hy => simp [cP] at hy
theorem wf_low {n : Int} (h : (Lit.int .i64 n).wf = true) : -9223372036854775808 ≤ n := by
  simp only [Lit.wf, Bool.and_eq_true, decide_eq_true_eq] at h
  have : IntKind.i64.min = -9223372036854775808 := rfl
  omega
theorem okWide_le {r : Reach} {base : Nat} {w : World} {t e : TypeId} {a : Option Addr} {len cap : Nat} (ht : Try.prog.underlying t = some (.slice e)) (h : Value.okWide Try.prog w r base t (.slice a len cap)) : len ≤ cap := by
  simp only [Value.okWide, ht, Cell.okWide] at h
  cases a with
  | none => cases len <;> cases cap <;> simp_all [Cell.ok]
  | some a => simp_all [Cell.ok]
theorem walk (A : Option Addr) (n c : Nat) (l : List (Int × Int)) (z : Int) (w : World) (ha : Rd e2 2 w w.heap.size A n l) (hc : n ≤ c) (hz : (Lit.int .i64 z).wf = true) :
    Calls Try.prog 6 #[.slice A n c, .int .i64 z] w fun e w' => e = .returned (.bool true) ∧ Gr w w' := by
  have h := (layers_pure l z (wf_low hz)).2 (fun b o => w.cell? ⟨b, o, none⟩) w #[.slice A n c, .int .i64 z] (fun _ _ _ h => h) rfl (by
    intro j v p hv hp
    match j, hv, hp with
    | 0, hv, hp => simp at hv hp; subst hv hp; exact prep_of_rd ha hc
    | 1, hv, hp => simp at hv hp; subst hv hp; exact .int _ _
    | j + 2, hv, hp => simp at hp)
  refine h.mono ?_
  rintro e w' ⟨v, R', rfl, h1, _, h3⟩
  cases h3
  exact ⟨rfl, h1.below.below⟩

set_option maxRecDepth 100000 in
theorem lifted (os : Os) (started : os.Started) (H : Type) (enc : TypeId × Value → H) :
    ReturnsInHanded {} Try.checked os 6 .any (Rows.stepsLayersSpec.pre6 enc Try.prog Try.f6 Rows.stepsLayersRow.domain false) (Rows.stepsLayersSpec.post enc Try.prog Try.f6 false true false false) := by
  refine returnsInHanded_of_change (C := Try.checked) own started (by kernel_rfl) Try.func6
    (ChangeSpec.witness6 (enc := enc) (C := Try.checked) false ⟨#[], #[.slice none 0 0, .int .i64 0], []⟩ 8 (by kernel_rfl) (by kernel_rfl) (by kernel_rfl) (by kernel_rfl)) ?_
  intro W base args ds gs before hval0 hW hcnd _
  have hval : ∀ (j : Nat) t v, Try.f6.params[j]? = some t → args[j]? = some v → Value.okWide Try.prog W .any base t v := hval0
  have hW' := hW
  obtain ⟨p, q, hA0, hV, rfl, hfz, hnd⟩ := hW
  have hA : DataW.TrodAll enc Try.prog W 0 (fun _ => true) true Try.f6.params.toList args.toList ds p := hA0
  rw [Try.params6] at hA hval
  obtain ⟨v0, vs0, d0, ds0, p0, q0, hargs, rfl, rfl, h0, r0⟩ := trodAll_cons hA
  obtain ⟨v1, vs1, d1, ds1, p1, q1, rfl, rfl, rfl, h1, r1⟩ := trodAll_cons r0
  obtain ⟨rfl, rfl, rfl⟩ := trodAll_nil r1
  obtain rfl : args = #[v0, v1] := by cases args; simp_all
  obtain ⟨rfl, rfl⟩ := trodVars_none hV
  obtain ⟨a0, len0, cap0, rfl⟩ := okWide_slice Try.underlying25 (hval 0 25 v0 rfl rfl)
  have k0 := h0
  have lt0 : ∀ x ∈ p0, x.block < W.heap.size := by obtain ⟨m, hm⟩ := k0; exact DataW.trod_lt m _ _ _ hm
  obtain ⟨fuel0, hf0⟩ := h0
  obtain ⟨l0, rd0⟩ := open_steps (by simpa [Value.cells] using hf0)
  obtain ⟨a1, rfl, rfl, rfl, w1⟩ := open_int Try.underlying3 (hval 1 3 v1 rfl rfl) h1
  clear hA0 hval0
  refine (walk a0 len0 cap0 l0 a1 W rd0 (okWide_le Try.underlying25 (hval 0 25 _ rfl rfl)) w1).mono fun e W' ⟨he, hgr⟩ => ?_
  have bel := hgr.out
  subst he
  exact ⟨_, rfl, _, _, _, [], _, [], hW', trodAll_mk1 (shut_bool Try.underlying4 _), (trodAll_cons_mk (Below.trod laidOut (by kernel_rfl) (of_decide_eq_true (by kernel_rfl)) k0 bel lt0) (trodAll_cons_mk (shut_int Try.underlying3 w1) trodAll_mk0)), rfl, bel.frame _, fun h => by cases h⟩

theorem proved : Rows.StepsLayersSaid :=
  OpenClaim.holds_of_wide 6 Try.f6 rfl rfl rfl rfl rfl rfl rfl ⟨rfl, rfl, rfl, rfl, rfl⟩ rfl rfl rfl rfl rfl (by kernel_rfl) Try.func6 (by kernel_rfl)
    (of_decide_eq_true (by kernel_rfl)) (by unfold Func.isWrapper; first | (rw [if_pos (by decide +kernel)]; kernel_rfl) | (rw [if_neg (by decide +kernel)]; exact ⟨rfl, rfl⟩))
    (fun os started H enc _ => lifted os started H enc)

#print axioms proved
end Go.Proofs.Ytllenmkmompjpaa.stepsLayers
