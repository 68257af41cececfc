/- Parts of the proof, joined. No condition. -/
import Derived.Test.YtlcceppoloaecaaGreatDoorKBC
import Derived.Test.YtlcceppoloaecaaGreatDoorKAX
set_option linter.unusedSimpArgs false
set_option linter.unusedVariables false
namespace Go.Proofs.YtlcceppoloaecaaGreatDoor.St
open Go.RowKit
theorem zG (p : Int × Int) : ∀ (l : List (Int × Int)) (k : Nat), (∀ x ∈ l.take k, g_ x p ≤ 0) → (∀ y, l[k]? = some y → ¬ g_ y p ≤ 0) → jJ l p = l.take k ++ p :: l.drop k
  | [], k, _, _ => by simp [jJ]
  | a :: l, 0, _, h2 => by
    have := h2 a rfl
    unfold jJ
    rw [List.takeWhile_cons_of_neg (by simpa using this), List.dropWhile_cons_of_neg (by simpa using this)]
    rfl
  | a :: l, k + 1, h1, h2 => by
    have ha := h1 a (by simp)
    have ih := zG p l k (fun x hx => h1 x (by simp [hx])) (fun y hy => h2 y (by simpa using hy))
    unfold jJ at ih ⊢
    rw [List.takeWhile_cons_of_pos (by simpa using ha), List.dropWhile_cons_of_pos (by simpa using ha), List.cons_append, ih]
    rfl
theorem Rd.drop {α : Type} {enc : α → List Value} {k : Nat} {w : World} {B n b o i : Nat} {l : List α} (h : Rd enc k w B (some ⟨b, o, none⟩) n l) (hi : i < n) : Rd enc k w B (some ⟨b, o + i * k, none⟩) (n - i) (l.drop i) := by
  refine ⟨by rw [List.length_drop, h.1], fun _ => ?_⟩
  obtain ⟨b', o', e, hb, hc⟩ := h.2 (by omega)
  injection e with e
  injection e with e1 e2
  subst e1 e2
  refine ⟨b, o + i * k, rfl, hb, fun q x hx j u hu => ?_⟩
  have := hc (i + q) x (by rw [← List.getElem?_drop]; exact hx) j u hu
  rw [← this, Nat.add_mul]
  congr 2; omega
theorem Own.somec {α : Type} {enc : α → List Value} {k : Nat} {w : World} {E : TypeId} {base n c : Nat} {A : Option Addr} {l : List α} (h : Own enc k E w base (.slice A n c) l) (hc : c ≠ 0) : ∃ g, A = some ⟨g, 0, none⟩ := by
  rcases h.2 with ⟨hv, _⟩ | ⟨g, cap, cur, hv, _⟩
  · injection hv with h1 h2 h3; exact absurd h3 hc
  · injection hv with h1; exact ⟨g, h1⟩
theorem Own.nilc {α : Type} {enc : α → List Value} {k : Nat} {w : World} {E : TypeId} {base n c : Nat} {l : List α} (h : Own enc k E w base (.slice none n c) l) : n = 0 ∧ c = 0 := by
  rcases h.2 with ⟨hv, _⟩ | ⟨g, cap, cur, hv, _⟩
  · injection hv with h1 h2 h3; exact ⟨h2, h3⟩
  · injection hv with h1; cases h1

set_option maxRecDepth 100000 in
set_option maxHeartbeats 8000000 in
theorem aek (base : Nat) (A : Option Addr) (n c : Nat) (l : List (Int × Int)) (x y : Int) (w : World) (ho : Own e2 2 53 w base (.slice A n c) l) (hn : n ≤ 1000000) :
    Calls Tryz.prog 153 #[.slice A n c, .agg #[.int .i64 x, .int .i64 y]] w fun e w' => ∃ A' m' c', e = .returned (.slice A' m' c') ∧ Own e2 2 53 w' w.heap.size (.slice A' m' c') (jJ l (x, y)) ∧ Gr w w' := by
  have hlen := Lib.hid ho.len
  have hnc := ho.cap
  have hnilA := Lib.hid (show A = none → n = 0 ∧ c = 0 from fun e => by subst e; exact ho.nilc)
  have hsome := Lib.hid (show c ≠ 0 → ∃ g, A = some ⟨g, 0, none⟩ from fun h => ho.somec h)
  have ha0 := ho.rds gF
  obtain ⟨wb, hwb⟩ : ∃ wb : World, wb = w.alloc (.cells #[.int .i64 x, .int .i64 y] 53) := ⟨_, rfl⟩
  have ha : Rd e2 2 wb wb.heap.size A n l := by rw [hwb]; exact ha0.gr (Gr.alloc _ _)
  have hbx : wb.cell? ⟨w.heap.size, 0, none⟩ = some (.int .i64 x) := by rw [hwb]; simp
  have hby : wb.cell? ⟨w.heap.size, 1, none⟩ = some (.int .i64 y) := by rw [hwb]; simp
  have hbl : w.heap.size < wb.heap.size := by rw [hwb]; simp
  have hgb : Gr w wb := by rw [hwb]; exact Gr.alloc _ _
  have HWB := Lib.hid hwb
  clear ho ha0
  go_enter Tryz.func153, Tryz.ntmps153
  go_wp2_with fail
  rw [← hwb]
  clear hwb
  go_loopw [5, 6] (fun v i wr => ∃ (k : Nat) (A' : Option Addr) (m' c' : Nat), k ≤ n ∧ i = .int .i64 k ∧ v = .slice A' m' c' ∧ Hid (∀ q ∈ l.take k, g_ q (x, y) ≤ 0) ∧ Own e2 2 53 wr wb.heap.size (.slice A' m' c') (l.take k) ∧ Gr wb wr) (fun _ i _ => n - (intOf i).toNat)
  case atStart => exact ⟨0, none, 0, 0, Nat.zero_le _, rfl, rfl, (fun q hq => by simp at hq), Own.nil _ _, Gr.refl _⟩
  case round =>
    obtain ⟨k, A', m', c', hk, rfl, rfl, HE, hown, hg⟩ := hrel
    have hs := hg.size
    have hml := Lib.hid hown.len
    have hbx' := (hg.cells.1 _ _ hbl).trans hbx
    have hby' := (hg.cells.1 _ _ hbl).trans hby
    by_cases hlt : k < n
    · obtain ⟨b1, o1, x1, y1, hA1, hb1, hx1, d1', d2'⟩ := ha.at2 hlt
      cases hA1
      have d1 := (hg.cells.1 _ _ hb1).trans d1'
      have d2 := (hg.cells.1 _ _ hb1).trans d2'
      have X1 := Lib.hid hx1
      clear hx1 d1' d2'
      have hltb : decide ((k : Int) < (n : Int)) = true := by simp; omega
      have hk0 : (0 : Int) ≤ (k : Int) := by omega
      have hk1 : (k : Int) < (n : Int) := by omega
      have hcp := fun W => UH x1 y1 x y W
      by_cases hle : g_ (x1, y1) (x, y) ≤ 0
      · have hsn := Lib.hid (om X1.out)
        have HLE := Lib.hid hle
        obtain ⟨cv, hcv⟩ : ∃ cv, cv = g_ (x1, y1) (x, y) := ⟨_, rfl⟩
        rw [← hcv] at hcp hle
        have hleb : decide (cv ≤ 0) = true := by simpa using hle
        clear hcv
        go_wp2_with fail
        go_region_held3 (fun W => Gr wr W ∧ W.cell? ⟨b1, o1 + k * 2, none⟩ = some (.int .i64 x1) ∧ W.cell? ⟨b1, o1 + k * 2 + 1, none⟩ = some (.int .i64 y1) ∧ W.cell? ⟨w.heap.size, 0, none⟩ = some (.int .i64 x) ∧ W.cell? ⟨w.heap.size, 1, none⟩ = some (.int .i64 y))
          (first | (refine ⟨(Gr.refl _).drewR, ?_, ?_, ?_, ?_⟩ <;> assumption) | (go_split_ands; refine ⟨Gr.trans (by assumption) hgN, ?_, ?_, ?_, ?_⟩; all_goals (refine (hgN.cells.1 _ _ ?_).trans (by assumption); first | exact Nat.lt_of_lt_of_le (Nat.lt_of_lt_of_le hb1 hs) (Gr.size (by assumption)) | exact Nat.lt_of_lt_of_le (Nat.lt_of_lt_of_le hbl hs) (Gr.size (by assumption)))) | go_keep)
          (first | (go_at_call 211; refine (hcp _).mono ?_; rintro e w5 ⟨rfl, hgN⟩))
        rename_i hH
        obtain ⟨hgH2, k1, k2, k3, k4⟩ := hH
        have hr := hown.gr hgH2
        have hs2 := (hg.trans hgH2).size
        clear hcp
        go_wp2_with (at_builtin; refine Rp rfl (.tmp 20) (.tmp 25) rfl wb.heap.size _ (l.take k) rfl hr [(x1, y1)] 1 rfl rfl (by rw [hml.out]; have := hml.out; simp at this; simp; omega) hs2 ?_; intro A2 m2 c2 w2 hown2 hbel2)
        rw [hsn.out] at hown2
        go_roundw
        case rel => exact ⟨k + 1, _, _, _, by omega, by go_num, rfl, (fun q hq => by rw [← hsn.out] at hq; rcases List.mem_append.1 hq with e | e; exact HE.out q e; (simp at e; subst e; exact HLE.out)), hown2, (hg.trans hgH2).out.trans hbel2⟩
        case measure => simp [intOf]; omega
      · have hsp := Lib.hid (zG (x, y) l k HE.out fun q hq => by rw [X1.out] at hq; cases hq; exact hle)
        obtain ⟨cv, hcv⟩ : ∃ cv, cv = g_ (x1, y1) (x, y) := ⟨_, rfl⟩
        rw [← hcv] at hcp hle
        have hleb : decide (cv ≤ 0) = false := by simpa using hle
        clear hcv
        have hdr := ha.drop hlt
        have hkc : ¬ c = k := by omega
        go_wp2_with fail
        go_region_held3 (fun W => Gr wr W ∧ W.cell? ⟨b1, o1 + k * 2, none⟩ = some (.int .i64 x1) ∧ W.cell? ⟨b1, o1 + k * 2 + 1, none⟩ = some (.int .i64 y1) ∧ W.cell? ⟨w.heap.size, 0, none⟩ = some (.int .i64 x) ∧ W.cell? ⟨w.heap.size, 1, none⟩ = some (.int .i64 y))
          (first | (refine ⟨(Gr.refl _).drewR, ?_, ?_, ?_, ?_⟩ <;> assumption) | (go_split_ands; refine ⟨Gr.trans (by assumption) hgN, ?_, ?_, ?_, ?_⟩; all_goals (refine (hgN.cells.1 _ _ ?_).trans (by assumption); first | exact Nat.lt_of_lt_of_le (Nat.lt_of_lt_of_le hb1 hs) (Gr.size (by assumption)) | exact Nat.lt_of_lt_of_le (Nat.lt_of_lt_of_le hbl hs) (Gr.size (by assumption)))) | go_keep)
          (first | (go_at_call 211; refine (hcp _).mono ?_; rintro e w5 ⟨rfl, hgN⟩))
        rename_i hH
        obtain ⟨hgH2, k1, k2, k3, k4⟩ := hH
        have hr := hown.gr hgH2
        have hs2 := (hg.trans hgH2).size
        clear hcp
        go_wp2_with (first | (at_builtin; refine Rp rfl (.tmp 29) (.tmp 31) rfl wb.heap.size _ (l.take k) rfl hr [(x, y)] 1 rfl rfl (by have := hml.out; simp at this; simp; omega) hs2 ?_; intro A2 m2 c2 w2 hown2 hbel2) | (at_builtin; refine uM rfl (.tmp 33) (.tmp 36) rfl wb.heap.size _ (l.take k ++ [(x, y)]) rfl hown2 (some ⟨b1, o1 + k * 2, none⟩) (n - k) (c - k) (l.drop k) rfl (hdr.below ((hg.trans hgH2).out.trans hbel2)) (fun h => nomatch h) (by have := hml.out; simp at this; simp; omega) (Below.size ((hg.trans hgH2).out.trans hbel2)) ?_; intro A3 m3 c3 w3 hown3 hbel3))
        go_ret
        rw [hsp.out, List.append_cons]
        exact ⟨_, _, _, rfl, hown3.mono (by omega), hgb.trans (((hg.trans hgH2).out.trans hbel2).trans hbel3)⟩
    · have hsp := Lib.hid (zG (x, y) l k HE.out fun q hq => absurd (List.getElem?_eq_some_iff.1 hq).1 (by rw [hlen.out]; omega))
      have hltb : decide ((k : Int) < (n : Int)) = false := by simp; omega
      have hdr0 := Lib.hid (show l.drop k = [] from List.drop_of_length_le (by rw [hlen.out]; omega))
      obtain rfl : n = k := by omega
      have hown9 := hown
      by_cases hck : c = n
      · subst hck
        go_wp2_with fail
        go_quiet (fail)
        go_wp2_with (first | (at_builtin; refine uP rfl (.tmp 29) (.tmp 31) rfl wb.heap.size _ (l.take c) rfl ((hown.drewN _).alloc _) wr.heap.size 1 1 [(x, y)] rfl rfl (yE _ _ _ (by simp)) rfl (by have := hml.out; simp at this; simp; omega) (by simp; omega) ?_; intro A2 m2 c2 w2 hown2 hgr2; have hbel2 := ((hown.drewN nq).alloc (.cells #[.int .i64 x, .int .i64 y] 53)).grown (by simp; omega) hgr2) | (at_builtin; refine uM (B := 0) rfl (.tmp 33) (.tmp 36) rfl wb.heap.size _ (l.take c ++ [(x, y)]) rfl hown2 A 0 0 [] rfl (Rd.nil _ _ _) (fun _ => ⟨rfl, rfl⟩) (by rw [List.length_append, hml.out]; have := hml.out; simp at this; simp; omega) (Nat.le_trans hs (Nat.le_trans (by simp) hbel2.size)) ?_; intro A3 m3 c3 w3 hown3 hbel3))
        go_ret
        rw [hsp.out, hdr0.out]
        exact ⟨_, _, _, rfl, by simpa using hown3.mono (by omega), hgb.trans ((((hg.drewNR nq).allocR _).out.trans (hbel2.mono (by omega))).trans hbel3)⟩
      · obtain ⟨g1, rfl⟩ := hsome.out (by omega)
        go_wp2_with fail
        go_quiet (fail)
        go_wp2_with (first | (at_builtin; refine uP rfl (.tmp 29) (.tmp 31) rfl wb.heap.size _ (l.take n) rfl ((hown.drewN _).alloc _) wr.heap.size 1 1 [(x, y)] rfl rfl (yE _ _ _ (by simp)) rfl (by have := hml.out; simp at this; simp; omega) (by simp; omega) ?_; intro A2 m2 c2 w2 hown2 hgr2; have hbel2 := ((hown.drewN nq).alloc (.cells #[.int .i64 x, .int .i64 y] 53)).grown (by simp; omega) hgr2) | (at_builtin; refine uM (B := 0) rfl (.tmp 33) (.tmp 36) rfl wb.heap.size _ (l.take n ++ [(x, y)]) rfl hown2 (some ⟨g1, n * 2, none⟩) 0 (c - n) [] rfl (Rd.nil _ _ _) (fun h => nomatch h) (by rw [List.length_append, hml.out]; have := hml.out; simp at this; simp; omega) (Nat.le_trans hs (Nat.le_trans (by simp) hbel2.size)) ?_; intro A3 m3 c3 w3 hown3 hbel3))
        go_ret
        rw [hsp.out, hdr0.out]
        exact ⟨_, _, _, rfl, by simpa using hown3.mono (by omega), hgb.trans ((((hg.drewNR nq).allocR _).out.trans (hbel2.mono (by omega))).trans hbel3)⟩

theorem WJ (l : List (Int × Int)) (p : Int × Int) : jV l p ≠ [] := by
  unfold jV
  split
  · split <;> simp
  · simp
theorem RQ (n : Int) : ∀ (s : List ((Int × Int) × Int)) (out : List (Int × Int)), out ≠ [] → s.foldl (eY n) out ≠ []
  | [], out, h => h
  | g :: s, out, h => by
    rw [List.foldl_cons]
    refine RQ n s _ ?_
    unfold eY
    split
    · exact WJ _ _
    · exact h
theorem MR (n : Int) : ∀ (s : List ((Int × Int) × Int)), (∀ g ∈ s, g.2 < n) ↔ s.foldl (eY n) [] = []
  | [] => by simp
  | g :: s => by
    rw [List.foldl_cons]
    by_cases h : n ≤ g.2
    · constructor
      · intro hg; have := hg g (by simp); omega
      · intro e
        exact absurd e (RQ n s _ (by unfold eY; rw [if_pos h]; exact WJ _ _))
    · have e1 : eY n [] g = [] := by unfold eY; rw [if_neg h]
      rw [e1, ← MR n s]
      constructor
      · intro hg q hq; exact hg q (by simp [hq])
      · intro hg q hq
        rcases List.mem_cons.1 hq with e | e
        · subst e; omega
        · exact hg q e
theorem IU : ∀ l : List (Int × Int), (ul l).map (·.2) = l.map (·.2)
  | [] => rfl
  | [x] => rfl
  | x :: y :: r => by
    have := IU (y :: r)
    simp only [ul, List.map_cons] at this ⊢
    rw [this]
theorem Lp {l : List (Int × Int)} {n : Int} : Lt l n = [] ↔ ∀ s ∈ l, s.2 < n := by
  unfold Lt
  rw [← MR]
  constructor
  · intro h s hs
    have h1 : s.2 ∈ (ul l).map (·.2) := by rw [IU]; exact List.mem_map_of_mem hs
    obtain ⟨g, hg, e⟩ := List.mem_map.1 h1
    rw [← e]; exact h g hg
  · intro h g hg
    have h1 : g.2 ∈ l.map (·.2) := by rw [← IU]; exact List.mem_map_of_mem hg
    obtain ⟨s, hs, e⟩ := List.mem_map.1 h1
    rw [← e]; exact h s hs
def mJ (l : List (Int × Int)) (k : Nat) : List (Int × Int) := (List.range k).flatMap fun j : Nat => Lt l ((j : Int) + 1)
theorem zC (l : List (Int × Int)) (k : Nat) : mJ l (k + 1) = mJ l k ++ Lt l ((k : Int) + 1) := by
  unfold mJ; rw [List.range_succ, List.flatMap_append]; simp
theorem Qc {l : List (Int × Int)} {k : Nat} (h : Lt l ((k : Int) + 1) = []) : ∀ d, mJ l (k + d) = mJ l k
  | 0 => rfl
  | d + 1 => by
    rw [← Nat.add_assoc, zC, Qc h d]
    have : Lt l (((k + d : Nat) : Int) + 1) = [] := Lp.2 fun s hs => by have := Lp.1 h s hs; omega
    rw [this, List.append_nil]
theorem abQ (l : List (Int × Int)) (n : Int) : (Lt l n).length ≤ l.length := by
  have := VF l n l.length
  rwa [TV l n (Nat.le_refl _)] at this
theorem Cm (l : List (Int × Int)) : ∀ k, (mJ l k).length ≤ k * l.length
  | 0 => by simp [mJ]
  | k + 1 => by
    have h1 := Cm l k
    have h2 := abQ l ((k : Int) + 1)
    rw [zC, List.length_append, Nat.succ_mul]
    omega
def vH (X : List (Int × Int)) : List (Int × Int) := X.foldl jJ []
theorem NP (X : List (Int × Int)) : (vH X).length = X.length := by
  have := (qU X [] .nil).2.length_eq
  unfold vH
  simpa using this
theorem VY (X : List (Int × Int)) (p : Int × Int) : vH (X ++ [p]) = jJ (vH X) p := by unfold vH; rw [List.foldl_append]; rfl

set_option maxRecDepth 100000 in
set_option maxHeartbeats 8000000 in
theorem aks (A : Option Addr) (n c : Nat) (l : List (Int × Int)) (w : World) (ha : Rd e2 2 w w.heap.size A n l) (hn : n ≤ 1000) (hM : ∀ s ∈ l, s.2 ≤ 600) :
    Calls Tryz.prog 94 #[.slice A n c] w fun e w' => ∃ A' m' c', e = .returned (.slice A' m' c') ∧ Own e2 2 53 w' w.heap.size (.slice A' m' c') (wH l) ∧ Gr w w' := by
  have hlen := Lib.hid ha.1
  have HM := Lib.hid hM
  clear hM
  go_enter Tryz.func94, Tryz.ntmps94
  go_wp2_with fail
  go_loopw [3, 4, 5, 6] (fun v i _ _ wr => ∃ (k : Nat) (N : Int) (A' : Option Addr) (m' c' : Nat), k ≤ 600 ∧ i = .int .i64 N ∧ Hid (N = (k : Int) + 1) ∧ v = .slice A' m' c' ∧ Own e2 2 53 wr w.heap.size (.slice A' m' c') (vH (mJ l k)) ∧ Gr w wr) (fun _ i _ _ _ => 602 - (intOf i).toNat)
  case atStart => exact ⟨0, 1, none, 0, 0, by omega, rfl, (by rfl : (1 : Int) = ((0 : Nat) : Int) + 1), rfl, Own.nil _ _, Gr.refl _⟩
  case round =>
    obtain ⟨k, N, A', m', c', hk, rfl, hN, rfl, hown, hg⟩ := hrel
    have hNb : decide (N ≤ 1048576) = true := by have := hN.out; rw [decide_eq_true_eq]; omega
    have hN0 : 0 < N := by have := hN.out; omega
    have hN1 : N ≤ 601 := by have := hN.out; omega
    have hml : m' ≤ 600000 := by
      have h1 := hown.len
      rw [NP] at h1
      have h2 := Cm l k
      rw [hlen.out] at h2
      have h3 : k * n ≤ 600 * 1000 := Nat.mul_le_mul hk hn
      omega
    go_wp2_with fail
    refine (ak0 A n c l N _ (ha.gr hg) (by omega)).mono ?_
    rintro e w1 ⟨A1, m1, c1, rfl, hown1, hg1⟩
    rw [hN.out] at hown1
    have hr1 := hown1.rds gF
    have hl1 := Lib.hid hown1.len
    have hm1 : m1 ≤ 1000 := by have h1 := hown1.len; have h2 := abQ l ((k : Int) + 1); rw [hlen.out] at h2; omega
    have hown2 := hown.gr hg1
    clear hown hown1
    by_cases hz : m1 = 0
    · subst hz
      have hnil := List.eq_nil_of_length_eq_zero hl1.out
      have hfin := Lib.hid (show vH (mJ l k) = wH l by
        have := Qc hnil (600 - k)
        rw [show k + (600 - k) = 600 by omega] at this
        rw [← this]; rfl)
      clear hnil
      go_wp2_with fail
      go_ret
      exact ⟨_, _, _, rfl, by rw [← hfin.out]; exact hown2, hg.trans hg1⟩
    · have hzb : ((m1 : Int) == 0) = false := by simp; omega
      have hk12 : k < 600 := by
        rcases Nat.lt_or_ge k 600 with h | h
        · exact h
        · exfalso
          have h1 : Lt l ((k : Int) + 1) = [] := Lp.2 fun s hs => by have := HM.out s hs; omega
          have h2 := hl1.out
          rw [h1] at h2
          simp at h2
          omega
      obtain ⟨S, hS⟩ : ∃ S, S = Lt l ((k : Int) + 1) := ⟨_, rfl⟩
      rw [← hS] at hr1
      have HS := Lib.hid (show mJ l (k + 1) = mJ l k ++ S by rw [zC, hS])
      have hlS := Lib.hid hr1.1
      clear hS hz
      obtain ⟨w2, rfl⟩ : ∃ w2 : World, w2 = w1 := ⟨_, rfl⟩
      go_wp2_with fail
      go_loopw [3, 6] (fun v i wr => ∃ (j : Nat) (A3 : Option Addr) (m3 c3 : Nat), j ≤ m1 ∧ i = .int .i64 j ∧ v = .slice A3 m3 c3 ∧ m3 ≤ 700000 ∧ Own e2 2 53 wr w.heap.size (.slice A3 m3 c3) (vH (mJ l k ++ S.take j)) ∧ Gr w2 wr) (fun _ i _ => m1 - (intOf i).toNat)
      case atStart => exact ⟨0, _, _, _, Nat.zero_le _, rfl, rfl, by omega, by simpa using hown2, Gr.refl _⟩
      case round =>
        obtain ⟨j, A3, m3, c3, hj, rfl, rfl, hm3, hown3, hg3⟩ := hrel
        by_cases hlt : j < m1
        · obtain ⟨b1, o1, x1, y1, hA1, hb1, hx1, d1, d2⟩ := (hr1.gr hg3).at2 hlt
          cases hA1
          have hsn := Lib.hid (show jJ (vH (mJ l k ++ S.take j)) (x1, y1) = vH (mJ l k ++ S.take (j + 1)) by rw [← VY, List.append_assoc, om hx1])
          clear hx1
          go_wp2_with fail
          refine (aek w.heap.size A3 m3 c3 _ x1 y1 _ hown3 (by omega)).mono ?_
          rintro e w4 ⟨A4, m4, c4, rfl, hown4, hg4⟩
          rw [hsn.out] at hown4
          have hm4 : m4 ≤ 700000 := by
            have h1 := hown4.len
            rw [NP, List.length_append] at h1
            have h2 := Cm l k
            rw [hlen.out] at h2
            have h3 : k * n ≤ 600 * 1000 := Nat.mul_le_mul hk hn
            have h4 : (S.take (j + 1)).length ≤ S.length := List.length_take_le' _ _
            have h5 := hlS.out
            omega
          have hs4 := ((hg.trans hg1).trans hg3).size
          go_wp2_with fail
          go_roundw
          case rel => exact ⟨j + 1, _, _, _, by omega, by go_num, rfl, hm4, hown4.mono hs4, hg3.trans hg4⟩
          case measure => simp [intOf]; omega
        · rw [List.take_of_length_le (by rw [hlS.out]; omega), ← HS.out] at hown3
          go_wp2_with fail
          go_roundw
          case rel => exact ⟨k + 1, N + 1, _, _, _, by omega, by go_num, (by have := hN.out; show N + 1 = ((k + 1 : Nat) : Int) + 1; omega), rfl, hown3, (hg.trans hg1).trans hg3⟩
          case measure => simp [intOf]; omega


end Go.Proofs.YtlcceppoloaecaaGreatDoor.St
