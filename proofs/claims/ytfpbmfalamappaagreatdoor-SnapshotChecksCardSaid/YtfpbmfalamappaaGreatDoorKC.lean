/- Parts of the proof, joined (U24 HELP G1 G2 G3 G4 G5 G6 G7 G8). No condition. -/
import Derived.Test.YtfpbmfalamappaaGreatDoorKB
import Derived.Test.YtfpbmfalamappaaGreatDoorKT
set_option linter.unusedSimpArgs false
set_option linter.unusedVariables false
namespace Go.Proofs.YtfpbmfalamappaaGreatDoor
open Go.RowKit
section
variable {P : Program} {ti : TI} {N n0 : Nat} {L : List Ob} {T : Tm} {Q : AX → Tm → List Ob → Prop}
theorem freeze_main {B : Nat → Prop} {R : PH} {γ : List Gh} {w : World} (hi : Inv B R γ L w) {id ver k : Nat} {es : List (List SV)} {cs : List (List AC)} (hL : L[id]? = some (.row ver es k)) (hn : normR es = some cs) :
    ∃ R' γ', Inv B R' γ' (L.set id .dead) w ∧ Ext B R R' w w ∧ Mv R R' γ γ' L (L.set id .dead) ∧ ∀ lo n u, (SV.sl id ver lo n).rep R γ L u → PRep R' u (.lst ((cs.drop lo).take n)) := by
  have hlt : id < L.length := (List.getElem?_eq_some_iff.1 hL).1
  obtain ⟨g, hg⟩ : ∃ g, γ[id]? = some g := ⟨_, List.getElem?_eq_getElem (by rw [hi.len]; exact hlt)⟩
  have hob := hi.obj id _ _ hL hg
  have hlc := normR_len hn
  match g, hg, hob with
  | .none, hg, hob =>
    have he : es = [] := hob
    subst he
    injection hn with hn; subst hn
    have hm : Mv R R γ (γ.set id .none) L (L.set id .dead) := Mv.setOb (PH.sub_refl _) hi.len hL (fun b e => by rw [hg] at e; cases e) (fun _ _ e => by cases e) (fun _ _ _ e => by cases e)
    have hgs : γ.set id .none = γ := by
      apply List.ext_getElem?
      intro j
      by_cases hj : j = id
      · subst hj; rw [List.getElem?_set_self (by rw [hi.len]; exact hlt), hg]
      · rw [List.getElem?_set_ne (Ne.symm hj)]
    rw [hgs] at hm
    refine ⟨R, γ, ⟨by simp [hi.len], hi.val, fun j y h hy hh => ?_, hi.inj, hi.new, hi.bsz⟩, Ext.refl _ _ _, hm, fun lo n u hu => ?_⟩
    · by_cases hj : j = id
      · subst hj
        rw [List.getElem?_set_self hlt] at hy; injection hy with hy; subst hy
        rw [hg] at hh; injection hh with hh; subst hh
        trivial
      · rw [List.getElem?_set_ne (Ne.symm hj)] at hy
        exact (hi.obj j y h hy hh).mv hm (fun _ _ => rfl) (fun _ _ _ e => e)
    · obtain ⟨_, _, hall⟩ := hu
      obtain ⟨_, g', hg', hat⟩ := (hall _ [] k hL).2 rfl
      rw [hg] at hg'; injection hg' with hg'; subst hg'
      obtain ⟨rfl, rfl, rfl⟩ := hat
      exact prep_nil _ _ _
  | .arr b c, hg, hob =>
    obtain ⟨vs, E, hb, hE, hsz, hle, hk, hcells, hRn⟩ := row_cells hi hL hg
    have hle2 : es.length * k ≤ c * k := Nat.mul_le_mul_right _ hle
    let R' : PH := fun b' o => if b' = b ∧ o < es.length * k then vs[o]? else R b' o
    have hsub : PH.sub R R' := by
      intro b' o u h
      show (if b' = b ∧ o < es.length * k then vs[o]? else R b' o) = some u
      by_cases hc : b' = b ∧ o < es.length * k
      · exfalso; rw [hc.1, hRn] at h; cases h
      · rw [if_neg hc]; exact h
    obtain ⟨i1, i2⟩ := hi.kill hL hg rfl (fun b e => by cases e) (R' := R') (w' := w) hsub (fun _ _ => rfl) rfl (fun b' o hne => by show (if b' = b ∧ o < es.length * k then vs[o]? else R b' o) = R b' o; rw [if_neg (fun h => hne h.1)])
      (fun o u h => by
        have h : (if b = b ∧ o < es.length * k then vs[o]? else R b o) = some u := h
        rw [cell_of_block hb]
        by_cases hc : b = b ∧ o < es.length * k
        · rw [if_pos hc] at h; exact h
        · rw [if_neg hc, hRn] at h; cases h)
    have hnb := (hi.new id _ b hg rfl).1
    refine ⟨R', γ.set id .none, i1, ⟨Kept.refl _ _, hsub, fun b' o hb' => ?_⟩, i2, fun lo n u hu => ?_⟩
    · show (if b' = b ∧ o < es.length * k then vs[o]? else R b' o) = R b' o
      rw [if_neg (fun h => hnb (by rw [← h.1]; exact hb'))]
    · obtain ⟨_, _, hall⟩ := hu
      obtain ⟨hln, g', hg', hat⟩ := (hall _ es k hL).2 rfl
      rw [hg] at hg'; injection hg' with hg'; subst hg'
      have hlen : ((cs.drop lo).take n).length = n := by simp; omega
      have hcv : ∃ a c', u = .slice a n c' ∧ n ≤ c' ∧ (0 < n → a = some ⟨b, lo * k, none⟩) := by
        rcases hat with hat | ⟨q1, q2, a, q3⟩
        · exact ⟨_, _, hat, by omega, fun _ => rfl⟩
        · exact ⟨a, 0, by rw [q3, q2], by omega, fun h => by omega⟩
      obtain ⟨a, c', rfl, hnc, ha⟩ := hcv
      have h1 : lo * k + n * k ≤ es.length * k := by rw [← Nat.add_mul]; exact Nat.mul_le_mul_right _ hln
      have getc : ∀ (i : Nat) e, ((cs.drop lo).take n)[i]? = some e → i < n ∧ ∃ y, es[lo + i]? = some y ∧ normL y = some e := by
        intro i e he
        rw [List.getElem?_take] at he
        split at he
        · rename_i hin
          rw [List.getElem?_drop] at he
          obtain ⟨y, g1, g2⟩ := normR_get hn (lo + i) e he
          exact ⟨hin, y, g1, g2⟩
        · cases he
      refine .lst a n c' _ k (fun j => (vs[lo * k + j]?).getD Go.undef) b (lo * k) hlen hnc (fun e he => ?_) ha (fun j hj => ?_) (fun i e j x he hx => ?_)
      · obtain ⟨i, hi'⟩ := List.mem_iff_getElem?.1 he
        obtain ⟨_, y, g1, g2⟩ := getc i e hi'
        rw [normL_len g2]; exact hcells.wide y (List.mem_of_getElem? g1)
      · have hlt2 : lo * k + j < vs.size := by omega
        show (if b = b ∧ lo * k + j < es.length * k then vs[lo * k + j]? else R b (lo * k + j)) = _
        rw [if_pos ⟨rfl, by omega⟩, Array.getElem?_eq_getElem hlt2]; rfl
      · obtain ⟨hin, y, g1, g2⟩ := getc i e he
        have hjk : j < k := by rw [← hcells.wide y (List.mem_of_getElem? g1), ← normL_len g2]; exact (List.getElem?_eq_some_iff.1 hx).1
        have hlt3 := idx_lt hin hjk
        have hlt2 : lo * k + (i * k + j) < vs.size := by omega
        have hyj : j < y.length := by rw [hcells.wide y (List.mem_of_getElem? g1)]; exact hjk
        have hr := hcells.rep (lo + i) y j vs[lo * k + (i * k + j)] _ g1 (by
          rw [List.getElem?_take, if_pos (by rw [Nat.add_mul]; omega), Nat.add_mul, Nat.add_assoc]
          simp [hlt2]) (List.getElem?_eq_getElem hyj)
        have := SV.norm_rep hr (normL_get g2 j _ _ (List.getElem?_eq_getElem hyj) hx)
        show PRep R' ((vs[lo * k + (i * k + j)]?).getD Go.undef) x
        rw [Array.getElem?_eq_getElem hlt2]
        exact PRep.mono hsub this

theorem aw_freeze1 {c : Code} (id t : Nat) {ver k n : Nat} {es : List (List SV)} {cs : List (List AC)} (hL : L[id]? = some (.row ver es k)) (hn : normR es = some cs) (ht : T.lookup t = some (.one (.sl id ver 0 n))) (hlen : cs.length = n) (h : Aw P N n0 c Q ((t, .one (.c (.lst cs))) :: T) (L.set id .dead)) : Aw P N n0 c Q T L := by
  intro hn0 B R γ w a hi hT
  obtain ⟨R', γ', hI, hE, hM, hS⟩ := freeze_main hi hL hn
  refine wp_mono (h (by simpa using hn0) B R' γ' w a hI ?_) fun _ _ _ hh => hh.ext hE hi.len (MvN.of hn0 hM)
  refine ⟨hT.size, hT.defers, fun t' x hx => ?_⟩
  rw [List.lookup_cons] at hx
  by_cases e : t' = t
  · subst e
    simp at hx; subst hx
    obtain ⟨u, h1, h2⟩ := hT.slot t' _ ht
    refine ⟨u, h1, ?_⟩
    have := hS 0 n u h2
    rw [List.drop_zero, ← hlen, List.take_length] at this
    exact this
  · have : (t' == t) = false := by simpa using e
    rw [this] at hx
    obtain ⟨u, h1, h2⟩ := hT.slot t' x hx
    exact ⟨u, h1, AV.mv hM h2⟩
end
end Go.Proofs.YtfpbmfalamappaaGreatDoor

namespace Go.Proofs.YtfpbmfalamappaaGreatDoor
theorem ok_ {p : Prop} (h : p := by repeat' (first | exact trivial | rfl | exact Nat.le_of_ble_eq_true rfl | omega | apply And.intro)) : p := h
theorem no_ {p q : Prop} (h : q) (c : ¬ q := by first | decide | (intro h; simp at h; done) | (intro h; simp at h; omega)) : p := absurd h c
theorem ft_ {p : Prop} (h : p := by repeat' (first | exact trivial | apply And.intro)) : p := h
end Go.Proofs.YtfpbmfalamappaaGreatDoor

namespace Go.Proofs.YtfpbmfalamappaaGreatDoor
open Go.RowKit Go.MapKept
set_option maxRecDepth 100000
/-- The objects of a builder: itself and its bytes. -/
def bldB (p : SV) (u : Nat) (s : ByteArray) (i : Nat) : Ob := .row (111 + 65536) [[p, .sl (i + 1) u 0 s.size]] 2
def bldR (u : Nat) (s : ByteArray) : Ob := .row u (byteRow s) 1
theorem ne_fn : ∃ fn, Tryz.prog.funcs[168]? = some fn ∧ (fn.name == "runtime.NumGoroutine") = false ∧ fn.body.isNone = true ∧ Extern.findNext fn = none ∧ Extern.find fn = some Extern.AbiNoEscape.same := ⟨_, Tryz.func168, by kernel_rfl, by kernel_rfl, by kernel_rfl, by kernel_rfl⟩
theorem sb_info : ∃ j, Tryz.prog.info? 111 = some j ∧ j.size = 2 := by
  have h : (Tryz.prog.info? 111).map (·.size) = some 2 := by kernel_rfl
  cases hi : Tryz.prog.info? 111 with
  | none => rw [hi] at h; cases h
  | some j => rw [hi] at h; exact ⟨j, rfl, by simpa using h⟩
theorem mem_below : ∀ {n : Nat} {L : List Ob}, belowL n L → ∀ x ∈ L, x.below n
  | _, _ :: _, h, x, hx => by
    rcases List.mem_cons.1 hx with rfl | hx
    · exact h.1
    · exact mem_below h.2 x hx
theorem bld_below {n v k : Nat} {a b : SV} (ha : a.below n) (hb : b.below n) : (Ob.row v [[a, b]] k).below n := by
  intro e he x hx
  rcases List.mem_cons.1 he with rfl | he
  · rcases List.mem_cons.1 hx with rfl | hx
    · exact ha
    · rcases List.mem_cons.1 hx with rfl | hx
      · exact hb
      · cases hx
  · cases he
theorem byteRow_below (n u : Nat) (s : ByteArray) : (bldR u s).below n := by
  intro e he x hx
  obtain ⟨y, _, rfl⟩ := List.mem_map.1 he
  rcases List.mem_cons.1 hx with rfl | hx
  · trivial
  · cases hx
theorem byteRow_len (s : ByteArray) : (byteRow s).length = s.size := by unfold byteRow; rw [List.length_map]; simp
theorem byteRow_append (s t : ByteArray) : byteRow (s ++ t) = byteRow s ++ byteRow t := by
  unfold byteRow
  rw [← List.map_append]; congr 1
theorem byteRow_ren (σ : List Nat) (s : ByteArray) : (byteRow s).map (List.map (SV.ren σ)) = byteRow s := by
  unfold byteRow
  rw [List.map_map]; rfl
theorem bldR_ren (σ : List Nat) (u : Nat) (s : ByteArray) : (bldR u s).ren σ = bldR u s := by simp only [bldR, Ob.ren, byteRow_ren]
theorem join2 {i j : Nat} {L L' : List Ob} {a b a' b' : Ob} (ha : a.ren [i, j] = a') (hb : b.ren [i, j] = b') (h : (L.set i a').set j b' = L') : joinL [i, j] L [a, b] = L' := by
  subst ha hb h
  simp [joinL, join, setAll, outIds, newIds]
theorem runfits2 {L : List Ob} {a b : Ob} {x : AV} {xs : List AV} {i j : Nat} (h0 : L[i]? = some (a.ren [i, j])) (h1 : L[j]? = some (b.ren [i, j])) (hne : i ≠ j) (ha : a.below 2) (hb : b.below 2) (hx : ∀ y ∈ x :: xs, y.below 2) : RunFits [i, j] [a, b] (x :: xs) L := by
  refine ⟨rfl, by simp [hne], fun k y hy => ?_, mem_below ⟨ha, hb, trivial⟩, hx⟩
  match k, hy with
  | 0, hy => simp at hy; subst hy; exact h0
  | 1, hy => simp at hy; subst hy; exact h1
  | k + 2, hy => simp at hy
theorem sb_cells : Tryz.prog.cellsOf 111 = 2 := by kernel_rfl
theorem by_cells : Tryz.prog.cellsOf 5 = 1 := by kernel_rfl
theorem copyCheck_fresh (x : SV) (o : Ob) (hx : x.below 2) (ho : o.below 2) : Run Tryz.prog 127 [.row (111 + 65536) [[(.c (.nul .ptr)), x]] 2, o] [.one (.ep 0 (111 + 65536) 0 0)] [.row (111 + 65536) [[(.ep 0 (111 + 65536) 0 0), x]] 2, o] (.tup []) := by
  obtain ⟨j, hj, hj2⟩ := sb_info
  obtain ⟨fn, hf, hnm, hbd, hnx, hfd⟩ := ne_fn
  refine run_of_aw tab_ok Tryz.func127 rfl rfl Tryz.ntmps127 (by simp) ?_
  simp only [argA]
  repeat' (first | refine st_nil ?_ | (refine st_pop rfl rfl rfl rfl ?_ ?_; · exact ok_) | (refine st_lop rfl rfl rfl rfl ?_ ?_; · exact ok_) | (refine st_store rfl rfl rfl ?_ ?_; · exact ok_) | (refine st_lit rfl rfl rfl rfl ?_ ?_; · exact ok_) | refine st_skip rfl rfl rfl ?_ | refine st_skip0 rfl rfl ?_ | (refine st_if rfl (fun hb => ?_) (fun hb => ?_) <;> (first | exact no_ hb | rw [hb])) | refine aw_seq ?_ | refine aw_region tab_ok _ rfl ?_ | refine aw_drawn2 tabS_ok _ rfl mixed (by decide +kernel) ?_ | (refine aw_cond rfl (fun hb => ?_) (fun hb => ?_) <;> (try exact no_ hb)) | refine aw_block ?_ | refine aw_exit ?_ | refine aw_ret ?_ | refine aw_skip ?_ | (refine st_sopq rfl rfl rfl rfl rfl (sop_eqNul rfl rfl (tab_ok.kind 108 _ rfl)) ?_) | (refine st_sopq rfl rfl rfl rfl rfl (sop_eqEpNul rfl rfl rfl (tab_ok.kind 108 _ rfl)) ?_) | (refine st_sopq rfl rfl rfl rfl rfl (sop_neqSame rfl rfl rfl (tab_ok.kind 108 _ rfl) hj) ?_) | (refine st_sopq rfl rfl rfl rfl rfl (sop_convUnsafe rfl rfl (tab_ok.kind 108 _ rfl) (tab_ok.kind 161 _ rfl) hj (by rw [hj2]; decide)) ?_) | (refine st_sopq rfl rfl rfl rfl rfl (sop_convBack rfl rfl (tab_ok.kind 161 _ rfl) (tab_ok.kind 108 _ rfl) hj sb_cells rfl) ?_) | (refine st_sop rfl rfl rfl rfl rfl (sop_noEscape rfl hf hnm hbd hnx hfd) ?_))
  all_goals exact ⟨.inl rfl, ⟨.inr ⟨.tup [], ⟨trivial, rfl⟩, rfl⟩, ⟨[], rfl⟩, by simp, mem_below ⟨bld_below (by show 0 < 2; omega) hx, ho, trivial⟩, by simp [CV.av, AV.below]⟩⟩
theorem copyCheck_used (x : SV) (o : Ob) (hx : x.below 2) (ho : o.below 2) : Run Tryz.prog 127 [.row (111 + 65536) [[(.ep 0 (111 + 65536) 0 0), x]] 2, o] [.one (.ep 0 (111 + 65536) 0 0)] [.row (111 + 65536) [[(.ep 0 (111 + 65536) 0 0), x]] 2, o] (.tup []) := by
  obtain ⟨j, hj, hj2⟩ := sb_info
  obtain ⟨fn, hf, hnm, hbd, hnx, hfd⟩ := ne_fn
  refine run_of_aw tab_ok Tryz.func127 rfl rfl Tryz.ntmps127 (by simp) ?_
  simp only [argA]
  repeat' (first | refine st_nil ?_ | (refine st_pop rfl rfl rfl rfl ?_ ?_; · exact ok_) | (refine st_lop rfl rfl rfl rfl ?_ ?_; · exact ok_) | (refine st_store rfl rfl rfl ?_ ?_; · exact ok_) | (refine st_lit rfl rfl rfl rfl ?_ ?_; · exact ok_) | refine st_skip rfl rfl rfl ?_ | refine st_skip0 rfl rfl ?_ | (refine st_if rfl (fun hb => ?_) (fun hb => ?_) <;> (first | exact no_ hb | rw [hb])) | refine aw_seq ?_ | refine aw_region tab_ok _ rfl ?_ | refine aw_drawn2 tabS_ok _ rfl mixed (by decide +kernel) ?_ | (refine aw_cond rfl (fun hb => ?_) (fun hb => ?_) <;> (try exact no_ hb)) | refine aw_block ?_ | refine aw_exit ?_ | refine aw_ret ?_ | refine aw_skip ?_ | (refine st_sopq rfl rfl rfl rfl rfl (sop_eqNul rfl rfl (tab_ok.kind 108 _ rfl)) ?_) | (refine st_sopq rfl rfl rfl rfl rfl (sop_eqEpNul rfl rfl rfl (tab_ok.kind 108 _ rfl)) ?_) | (refine st_sopq rfl rfl rfl rfl rfl (sop_neqSame rfl rfl rfl (tab_ok.kind 108 _ rfl) hj) ?_) | (refine st_sopq rfl rfl rfl rfl rfl (sop_convUnsafe rfl rfl (tab_ok.kind 108 _ rfl) (tab_ok.kind 161 _ rfl) hj (by rw [hj2]; decide)) ?_) | (refine st_sopq rfl rfl rfl rfl rfl (sop_convBack rfl rfl (tab_ok.kind 161 _ rfl) (tab_ok.kind 108 _ rfl) hj sb_cells rfl) ?_) | (refine st_sop rfl rfl rfl rfl rfl (sop_noEscape rfl hf hnm hbd hnx hfd) ?_))
  all_goals exact ⟨.inl rfl, ⟨.inr ⟨.tup [], ⟨trivial, rfl⟩, rfl⟩, ⟨[], rfl⟩, by simp, mem_below ⟨bld_below (by show 0 < 2; omega) hx, ho, trivial⟩, by simp [CV.av, AV.below]⟩⟩
theorem writeString0 (u : Nat) (s : ByteArray) (t : ByteArray) (hu : u % 65536 = 5) (hs : s.size ≤ 100000000000000) (ht : t.size ≤ 1000000000000) : Run Tryz.prog 88 [bldB (.c (.nul .ptr)) u s 0, bldR u s] [.one (.ep 0 (111 + 65536) 0 0), .one (.c (.str t))] [bldB (.ep 0 (111 + 65536) 0 0) (u + 65536) (s ++ t) 0, bldR (u + 65536) (s ++ t)] (.tup [.one (.int .i64 t.size), .one (.nul .iface)]) := by
  refine run_of_aw tab_ok Tryz.func88 rfl rfl Tryz.ntmps88 (by simp) ?_
  simp only [argA]
  unfold bldB
  repeat' (first | refine st_nil ?_ | (refine st_sop rfl rfl rfl rfl rfl (sop_app tab_ok (k := 1) (by_ := 1) (xs := byteRow t) rfl rfl rfl rfl ⟨rfl, rfl⟩ rfl hu rfl rfl rfl (by omega) (by exact byteRow_len s) (by rw [byteRow_len]; omega) (by rw [byteRow_len]; omega)) ?_) | (refine st_pop rfl rfl rfl rfl ?_ ?_; · (repeat' (first | exact trivial | rfl | exact Nat.le_of_ble_eq_true rfl | omega | (intro e he; simp at he; subst he; rfl) | apply And.intro))) | (refine st_lop rfl rfl rfl rfl ?_ ?_; · (repeat' (first | exact trivial | rfl | exact Nat.le_of_ble_eq_true rfl | omega | (intro e he; simp at he; subst he; rfl) | apply And.intro))) | (refine st_store rfl rfl rfl ?_ ?_; · (repeat' (first | exact trivial | rfl | exact Nat.le_of_ble_eq_true rfl | omega | (intro e he; simp at he; subst he; rfl) | apply And.intro))) | (refine st_lit rfl rfl rfl rfl ?_ ?_; · (repeat' (first | exact trivial | rfl | exact Nat.le_of_ble_eq_true rfl | omega | (intro e he; simp at he; subst he; rfl) | apply And.intro))) | refine st_skip rfl rfl rfl ?_ | refine st_skip0 rfl rfl ?_ | (refine st_run [0, 1] rfl rfl rfl rfl (copyCheck_fresh (.sl 1 u 0 s.size) (bldR u s) (by show 1 < 2; omega) (byteRow_below _ _ _)) rfl (runfits2 (by rfl) (by rw [bldR_ren]; rfl) (by decide) (bld_below trivial (by show 1 < 2; omega)) (byteRow_below _ _ _) (fun y hy => by rcases List.mem_cons.1 hy with rfl | hy <;> first | (show 0 < 2; omega) | cases hy)) rfl (join2 rfl (bldR_ren _ _ _) rfl) ?_) | (refine st_if rfl (fun hb => ?_) (fun hb => ?_) <;> (first | exact no_ hb | rw [hb])) | refine aw_seq ?_ | refine aw_region tab_ok _ rfl ?_ | refine aw_drawn2 tabS_ok _ rfl mixed (by decide +kernel) ?_ | (refine aw_cond rfl (fun hb => ?_) (fun hb => ?_) <;> (try exact no_ hb)) | refine aw_block ?_ | refine aw_exit ?_ | refine aw_ret ?_ | refine aw_skip ?_)
  all_goals refine ⟨.inr rfl, ⟨.inr ⟨.tup [.one (.int .i64 t.size), .one (.nul .iface)], ⟨⟨trivial, trivial, trivial⟩, rfl⟩, rfl⟩, ⟨[], ?_⟩, by simp, mem_below ⟨bld_below (by show 0 < 2; omega) (by show 1 < 2; omega), byteRow_below _ _ _, trivial⟩, trivial⟩⟩
  all_goals (rw [List.append_nil]; show [Ob.row _ [[_, SV.sl (0 + 1) (u + 65536) 0 (s.size + (byteRow t).length)]] 2, Ob.row (u + 65536) (byteRow s ++ byteRow t) 1] = _; rw [byteRow_len, ← byteRow_append, ← ByteArray.size_append]; rfl)
theorem writeByte0 (u : Nat) (s : ByteArray) (t : UInt8) (hu : u % 65536 = 5) (hs : s.size ≤ 100000000000000)  : Run Tryz.prog 90 [bldB (.c (.nul .ptr)) u s 0, bldR u s] [.one (.ep 0 (111 + 65536) 0 0), .one (.c (.int .u8 t.toNat))] [bldB (.ep 0 (111 + 65536) 0 0) (u + 65536) (s ++ ⟨#[t]⟩) 0, bldR (u + 65536) (s ++ ⟨#[t]⟩)] (.one (.c (.nul .iface))) := by
  refine run_of_aw tab_ok Tryz.func90 rfl rfl Tryz.ntmps90 (by simp) ?_
  simp only [argA]
  unfold bldB
  repeat' (first | refine st_nil ?_ | (refine st_sop rfl rfl rfl rfl rfl (sop_app tab_ok (k := 1) (by_ := 1) (xs := byteRow ⟨#[t]⟩) rfl rfl rfl rfl ⟨rfl, _, rfl, by intro e he; simp at he; subst he; rfl⟩ rfl hu rfl rfl rfl (by omega) (by exact byteRow_len s) (by rw [byteRow_len]; show (s.size + 1) * 1 ≤ _; omega) (by rw [byteRow_len]; show s.size + 1 ≤ _; omega)) ?_) | (refine st_pop rfl rfl rfl rfl ?_ ?_; · (repeat' (first | exact trivial | rfl | exact Nat.le_of_ble_eq_true rfl | omega | (intro e he; simp at he; subst he; rfl) | apply And.intro))) | (refine st_lop rfl rfl rfl rfl ?_ ?_; · (repeat' (first | exact trivial | rfl | exact Nat.le_of_ble_eq_true rfl | omega | (intro e he; simp at he; subst he; rfl) | apply And.intro))) | (refine st_store rfl rfl rfl ?_ ?_; · (repeat' (first | exact trivial | rfl | exact Nat.le_of_ble_eq_true rfl | omega | (intro e he; simp at he; subst he; rfl) | apply And.intro))) | (refine st_lit rfl rfl rfl rfl ?_ ?_; · (repeat' (first | exact trivial | rfl | exact Nat.le_of_ble_eq_true rfl | omega | (intro e he; simp at he; subst he; rfl) | apply And.intro))) | refine st_skip rfl rfl rfl ?_ | refine st_skip0 rfl rfl ?_ | (refine st_run [0, 1] rfl rfl rfl rfl (copyCheck_fresh (.sl 1 u 0 s.size) (bldR u s) (by show 1 < 2; omega) (byteRow_below _ _ _)) rfl (runfits2 (by rfl) (by rw [bldR_ren]; rfl) (by decide) (bld_below trivial (by show 1 < 2; omega)) (byteRow_below _ _ _) (fun y hy => by rcases List.mem_cons.1 hy with rfl | hy <;> first | (show 0 < 2; omega) | cases hy)) rfl (join2 rfl (bldR_ren _ _ _) rfl) ?_) | (refine st_if rfl (fun hb => ?_) (fun hb => ?_) <;> (first | exact no_ hb | rw [hb])) | refine aw_seq ?_ | refine aw_region tab_ok _ rfl ?_ | refine aw_drawn2 tabS_ok _ rfl mixed (by decide +kernel) ?_ | (refine aw_cond rfl (fun hb => ?_) (fun hb => ?_) <;> (try exact no_ hb)) | refine aw_block ?_ | refine aw_exit ?_ | refine aw_ret ?_ | refine aw_skip ?_)
  all_goals refine ⟨.inr rfl, ⟨.inl ⟨4, rfl, rfl⟩, ⟨[], ?_⟩, by simp, mem_below ⟨bld_below (by show 0 < 2; omega) (by show 1 < 2; omega), byteRow_below _ _ _, trivial⟩, trivial⟩⟩
  all_goals (rw [List.append_nil]; show [Ob.row _ [[_, SV.sl (0 + 1) (u + 65536) 0 (s.size + (byteRow ⟨#[t]⟩).length)]] 2, Ob.row (u + 65536) (byteRow s ++ byteRow ⟨#[t]⟩) 1] = _; rw [byteRow_len, ← byteRow_append, ← ByteArray.size_append]; rfl)
theorem writeString1 (u : Nat) (s : ByteArray) (t : ByteArray) (hu : u % 65536 = 5) (hs : s.size ≤ 100000000000000) (ht : t.size ≤ 1000000000000) : Run Tryz.prog 88 [bldB (.ep 0 (111 + 65536) 0 0) u s 0, bldR u s] [.one (.ep 0 (111 + 65536) 0 0), .one (.c (.str t))] [bldB (.ep 0 (111 + 65536) 0 0) (u + 65536) (s ++ t) 0, bldR (u + 65536) (s ++ t)] (.tup [.one (.int .i64 t.size), .one (.nul .iface)]) := by
  refine run_of_aw tab_ok Tryz.func88 rfl rfl Tryz.ntmps88 (by simp) ?_
  simp only [argA]
  unfold bldB
  repeat' (first | refine st_nil ?_ | (refine st_sop rfl rfl rfl rfl rfl (sop_app tab_ok (k := 1) (by_ := 1) (xs := byteRow t) rfl rfl rfl rfl ⟨rfl, rfl⟩ rfl hu rfl rfl rfl (by omega) (by exact byteRow_len s) (by rw [byteRow_len]; omega) (by rw [byteRow_len]; omega)) ?_) | (refine st_pop rfl rfl rfl rfl ?_ ?_; · (repeat' (first | exact trivial | rfl | exact Nat.le_of_ble_eq_true rfl | omega | (intro e he; simp at he; subst he; rfl) | apply And.intro))) | (refine st_lop rfl rfl rfl rfl ?_ ?_; · (repeat' (first | exact trivial | rfl | exact Nat.le_of_ble_eq_true rfl | omega | (intro e he; simp at he; subst he; rfl) | apply And.intro))) | (refine st_store rfl rfl rfl ?_ ?_; · (repeat' (first | exact trivial | rfl | exact Nat.le_of_ble_eq_true rfl | omega | (intro e he; simp at he; subst he; rfl) | apply And.intro))) | (refine st_lit rfl rfl rfl rfl ?_ ?_; · (repeat' (first | exact trivial | rfl | exact Nat.le_of_ble_eq_true rfl | omega | (intro e he; simp at he; subst he; rfl) | apply And.intro))) | refine st_skip rfl rfl rfl ?_ | refine st_skip0 rfl rfl ?_ | (refine st_run [0, 1] rfl rfl rfl rfl (copyCheck_used (.sl 1 u 0 s.size) (bldR u s) (by show 1 < 2; omega) (byteRow_below _ _ _)) rfl (runfits2 (by rfl) (by rw [bldR_ren]; rfl) (by decide) (bld_below (by show 0 < 2; omega) (by show 1 < 2; omega)) (byteRow_below _ _ _) (fun y hy => by rcases List.mem_cons.1 hy with rfl | hy <;> first | (show 0 < 2; omega) | cases hy)) rfl (join2 rfl (bldR_ren _ _ _) rfl) ?_) | (refine st_if rfl (fun hb => ?_) (fun hb => ?_) <;> (first | exact no_ hb | rw [hb])) | refine aw_seq ?_ | refine aw_region tab_ok _ rfl ?_ | refine aw_drawn2 tabS_ok _ rfl mixed (by decide +kernel) ?_ | (refine aw_cond rfl (fun hb => ?_) (fun hb => ?_) <;> (try exact no_ hb)) | refine aw_block ?_ | refine aw_exit ?_ | refine aw_ret ?_ | refine aw_skip ?_)
  all_goals refine ⟨.inr rfl, ⟨.inr ⟨.tup [.one (.int .i64 t.size), .one (.nul .iface)], ⟨⟨trivial, trivial, trivial⟩, rfl⟩, rfl⟩, ⟨[], ?_⟩, by simp, mem_below ⟨bld_below (by show 0 < 2; omega) (by show 1 < 2; omega), byteRow_below _ _ _, trivial⟩, trivial⟩⟩
  all_goals (rw [List.append_nil]; show [Ob.row _ [[_, SV.sl (0 + 1) (u + 65536) 0 (s.size + (byteRow t).length)]] 2, Ob.row (u + 65536) (byteRow s ++ byteRow t) 1] = _; rw [byteRow_len, ← byteRow_append, ← ByteArray.size_append]; rfl)
theorem writeByte1 (u : Nat) (s : ByteArray) (t : UInt8) (hu : u % 65536 = 5) (hs : s.size ≤ 100000000000000)  : Run Tryz.prog 90 [bldB (.ep 0 (111 + 65536) 0 0) u s 0, bldR u s] [.one (.ep 0 (111 + 65536) 0 0), .one (.c (.int .u8 t.toNat))] [bldB (.ep 0 (111 + 65536) 0 0) (u + 65536) (s ++ ⟨#[t]⟩) 0, bldR (u + 65536) (s ++ ⟨#[t]⟩)] (.one (.c (.nul .iface))) := by
  refine run_of_aw tab_ok Tryz.func90 rfl rfl Tryz.ntmps90 (by simp) ?_
  simp only [argA]
  unfold bldB
  repeat' (first | refine st_nil ?_ | (refine st_sop rfl rfl rfl rfl rfl (sop_app tab_ok (k := 1) (by_ := 1) (xs := byteRow ⟨#[t]⟩) rfl rfl rfl rfl ⟨rfl, _, rfl, by intro e he; simp at he; subst he; rfl⟩ rfl hu rfl rfl rfl (by omega) (by exact byteRow_len s) (by rw [byteRow_len]; show (s.size + 1) * 1 ≤ _; omega) (by rw [byteRow_len]; show s.size + 1 ≤ _; omega)) ?_) | (refine st_pop rfl rfl rfl rfl ?_ ?_; · (repeat' (first | exact trivial | rfl | exact Nat.le_of_ble_eq_true rfl | omega | (intro e he; simp at he; subst he; rfl) | apply And.intro))) | (refine st_lop rfl rfl rfl rfl ?_ ?_; · (repeat' (first | exact trivial | rfl | exact Nat.le_of_ble_eq_true rfl | omega | (intro e he; simp at he; subst he; rfl) | apply And.intro))) | (refine st_store rfl rfl rfl ?_ ?_; · (repeat' (first | exact trivial | rfl | exact Nat.le_of_ble_eq_true rfl | omega | (intro e he; simp at he; subst he; rfl) | apply And.intro))) | (refine st_lit rfl rfl rfl rfl ?_ ?_; · (repeat' (first | exact trivial | rfl | exact Nat.le_of_ble_eq_true rfl | omega | (intro e he; simp at he; subst he; rfl) | apply And.intro))) | refine st_skip rfl rfl rfl ?_ | refine st_skip0 rfl rfl ?_ | (refine st_run [0, 1] rfl rfl rfl rfl (copyCheck_used (.sl 1 u 0 s.size) (bldR u s) (by show 1 < 2; omega) (byteRow_below _ _ _)) rfl (runfits2 (by rfl) (by rw [bldR_ren]; rfl) (by decide) (bld_below (by show 0 < 2; omega) (by show 1 < 2; omega)) (byteRow_below _ _ _) (fun y hy => by rcases List.mem_cons.1 hy with rfl | hy <;> first | (show 0 < 2; omega) | cases hy)) rfl (join2 rfl (bldR_ren _ _ _) rfl) ?_) | (refine st_if rfl (fun hb => ?_) (fun hb => ?_) <;> (first | exact no_ hb | rw [hb])) | refine aw_seq ?_ | refine aw_region tab_ok _ rfl ?_ | refine aw_drawn2 tabS_ok _ rfl mixed (by decide +kernel) ?_ | (refine aw_cond rfl (fun hb => ?_) (fun hb => ?_) <;> (try exact no_ hb)) | refine aw_block ?_ | refine aw_exit ?_ | refine aw_ret ?_ | refine aw_skip ?_)
  all_goals refine ⟨.inr rfl, ⟨.inl ⟨4, rfl, rfl⟩, ⟨[], ?_⟩, by simp, mem_below ⟨bld_below (by show 0 < 2; omega) (by show 1 < 2; omega), byteRow_below _ _ _, trivial⟩, trivial⟩⟩
  all_goals (rw [List.append_nil]; show [Ob.row _ [[_, SV.sl (0 + 1) (u + 65536) 0 (s.size + (byteRow ⟨#[t]⟩).length)]] 2, Ob.row (u + 65536) (byteRow s ++ byteRow ⟨#[t]⟩) 1] = _; rw [byteRow_len, ← byteRow_append, ← ByteArray.size_append]; rfl)
end Go.Proofs.YtfpbmfalamappaaGreatDoor

namespace Go.Proofs.YtfpbmfalamappaaGreatDoor
open Go.RowKit Go.MapKept
set_option maxRecDepth 100000
theorem small_0 : Pure Tryz.prog 193 [.one (.int .i64 0)] (.val (.one (.str ⟨#[48]⟩))) := by
  refine pure_of_aw tab_ok Tryz.func193 rfl rfl Tryz.ntmps193 (by simp) ?_
  simp only [argT, PV.av, List.map_cons, List.map_nil]
  repeat' (first | refine st_nil ?_ | (refine st_pop rfl rfl rfl rfl ?_ ?_; · (repeat' (first | exact trivial | rfl | exact Nat.le_of_ble_eq_true rfl | omega | decide | apply And.intro))) | (refine st_lop rfl rfl rfl rfl ?_ ?_; · (repeat' (first | exact trivial | rfl | exact Nat.le_of_ble_eq_true rfl | omega | decide | apply And.intro))) | (refine st_store rfl rfl rfl ?_ ?_; · (repeat' (first | exact trivial | rfl | exact Nat.le_of_ble_eq_true rfl | omega | decide | apply And.intro))) | (refine st_lit rfl rfl rfl rfl ?_ ?_; · (repeat' (first | exact trivial | rfl | exact Nat.le_of_ble_eq_true rfl | omega | decide | apply And.intro))) | refine st_skip rfl rfl rfl ?_ | refine st_skip0 rfl rfl ?_ | (refine st_if rfl (fun hb => ?_) (fun hb => ?_) <;> (first | exact no_ hb | rw [hb])) | refine aw_seq ?_ | refine aw_region tab_ok _ rfl ?_ | refine aw_drawn2 tabS_ok _ rfl mixed (by decide +kernel) ?_ | (refine aw_cond rfl (fun hb => ?_) (fun hb => ?_) <;> (try exact no_ hb)) | refine aw_block ?_ | refine aw_exit ?_ | refine aw_ret ?_ | refine aw_skip ?_)
  all_goals (refine end_ret ?_; refine res_of rfl ⟨trivial, trivial⟩ ?_; kernel_rfl)
theorem formatInt_0 : Pure Tryz.prog 169 [.one (.int .i64 0), .one (.int .i64 10)] (.val (.one (.str ⟨#[48]⟩))) := by
  refine pure_of_aw tab_ok Tryz.func169 rfl rfl Tryz.ntmps169 (by simp) ?_
  simp only [argT, PV.av, List.map_cons, List.map_nil]
  repeat' (first | refine st_nil ?_ | (refine st_pop rfl rfl rfl rfl ?_ ?_; · exact ok_) | (refine st_lop rfl rfl rfl rfl ?_ ?_; · exact ok_) | (refine st_store rfl rfl rfl ?_ ?_; · exact ok_) | (refine st_lit rfl rfl rfl rfl ?_ ?_; · exact ok_) | refine st_skip rfl rfl rfl ?_ | refine st_skip0 rfl rfl ?_ | refine st_call rfl rfl rfl rfl small_0 rfl ?_ | (refine st_if rfl (fun hb => ?_) (fun hb => ?_) <;> (first | exact no_ hb | rw [hb])) | refine aw_seq ?_ | refine aw_region tab_ok _ rfl ?_ | refine aw_drawn2 tabS_ok _ rfl mixed (by decide +kernel) ?_ | (refine aw_cond rfl (fun hb => ?_) (fun hb => ?_) <;> (try exact no_ hb)) | refine aw_block ?_ | refine aw_exit ?_ | refine aw_ret ?_ | refine aw_skip ?_)
  all_goals exact end_ret (res_of rfl (by trivial) rfl)
theorem itoa0_0 : Pure Tryz.prog 128 [.one (.int .i64 0)] (.val (.one (.str ⟨#[48]⟩))) := by
  refine pure_of_aw tab_ok Tryz.func128 rfl rfl Tryz.ntmps128 (by simp) ?_
  simp only [argT, PV.av, List.map_cons, List.map_nil]
  repeat' (first | refine st_nil ?_ | (refine st_pop rfl rfl rfl rfl ?_ ?_; · exact ok_) | (refine st_lop rfl rfl rfl rfl ?_ ?_; · exact ok_) | (refine st_store rfl rfl rfl ?_ ?_; · exact ok_) | (refine st_lit rfl rfl rfl rfl ?_ ?_; · exact ok_) | refine st_skip rfl rfl rfl ?_ | refine st_skip0 rfl rfl ?_ | refine st_call rfl rfl rfl rfl formatInt_0 rfl ?_ | (refine st_if rfl (fun hb => ?_) (fun hb => ?_) <;> (first | exact no_ hb | rw [hb])) | refine aw_seq ?_ | refine aw_region tab_ok _ rfl ?_ | refine aw_drawn2 tabS_ok _ rfl mixed (by decide +kernel) ?_ | (refine aw_cond rfl (fun hb => ?_) (fun hb => ?_) <;> (try exact no_ hb)) | refine aw_block ?_ | refine aw_exit ?_ | refine aw_ret ?_ | refine aw_skip ?_)
  all_goals exact end_ret (res_of rfl (by trivial) rfl)
theorem itoa_0 : Pure Tryz.prog 89 [.one (.int .i64 0)] (.val (.one (.str ⟨#[48]⟩))) := by
  refine pure_of_aw tab_ok Tryz.func89 rfl rfl Tryz.ntmps89 (by simp) ?_
  simp only [argT, PV.av, List.map_cons, List.map_nil]
  repeat' (first | refine st_nil ?_ | (refine st_pop rfl rfl rfl rfl ?_ ?_; · exact ok_) | (refine st_lop rfl rfl rfl rfl ?_ ?_; · exact ok_) | (refine st_store rfl rfl rfl ?_ ?_; · exact ok_) | (refine st_lit rfl rfl rfl rfl ?_ ?_; · exact ok_) | refine st_skip rfl rfl rfl ?_ | refine st_skip0 rfl rfl ?_ | refine st_call rfl rfl rfl rfl itoa0_0 rfl ?_ | (refine st_if rfl (fun hb => ?_) (fun hb => ?_) <;> (first | exact no_ hb | rw [hb])) | refine aw_seq ?_ | refine aw_region tab_ok _ rfl ?_ | refine aw_drawn2 tabS_ok _ rfl mixed (by decide +kernel) ?_ | (refine aw_cond rfl (fun hb => ?_) (fun hb => ?_) <;> (try exact no_ hb)) | refine aw_block ?_ | refine aw_exit ?_ | refine aw_ret ?_ | refine aw_skip ?_)
  all_goals exact end_ret (res_of rfl (by trivial) rfl)
theorem small_1 : Pure Tryz.prog 193 [.one (.int .i64 1)] (.val (.one (.str ⟨#[49]⟩))) := by
  refine pure_of_aw tab_ok Tryz.func193 rfl rfl Tryz.ntmps193 (by simp) ?_
  simp only [argT, PV.av, List.map_cons, List.map_nil]
  repeat' (first | refine st_nil ?_ | (refine st_pop rfl rfl rfl rfl ?_ ?_; · (repeat' (first | exact trivial | rfl | exact Nat.le_of_ble_eq_true rfl | omega | decide | apply And.intro))) | (refine st_lop rfl rfl rfl rfl ?_ ?_; · (repeat' (first | exact trivial | rfl | exact Nat.le_of_ble_eq_true rfl | omega | decide | apply And.intro))) | (refine st_store rfl rfl rfl ?_ ?_; · (repeat' (first | exact trivial | rfl | exact Nat.le_of_ble_eq_true rfl | omega | decide | apply And.intro))) | (refine st_lit rfl rfl rfl rfl ?_ ?_; · (repeat' (first | exact trivial | rfl | exact Nat.le_of_ble_eq_true rfl | omega | decide | apply And.intro))) | refine st_skip rfl rfl rfl ?_ | refine st_skip0 rfl rfl ?_ | (refine st_if rfl (fun hb => ?_) (fun hb => ?_) <;> (first | exact no_ hb | rw [hb])) | refine aw_seq ?_ | refine aw_region tab_ok _ rfl ?_ | refine aw_drawn2 tabS_ok _ rfl mixed (by decide +kernel) ?_ | (refine aw_cond rfl (fun hb => ?_) (fun hb => ?_) <;> (try exact no_ hb)) | refine aw_block ?_ | refine aw_exit ?_ | refine aw_ret ?_ | refine aw_skip ?_)
  all_goals (refine end_ret ?_; refine res_of rfl ⟨trivial, trivial⟩ ?_; kernel_rfl)
theorem formatInt_1 : Pure Tryz.prog 169 [.one (.int .i64 1), .one (.int .i64 10)] (.val (.one (.str ⟨#[49]⟩))) := by
  refine pure_of_aw tab_ok Tryz.func169 rfl rfl Tryz.ntmps169 (by simp) ?_
  simp only [argT, PV.av, List.map_cons, List.map_nil]
  repeat' (first | refine st_nil ?_ | (refine st_pop rfl rfl rfl rfl ?_ ?_; · exact ok_) | (refine st_lop rfl rfl rfl rfl ?_ ?_; · exact ok_) | (refine st_store rfl rfl rfl ?_ ?_; · exact ok_) | (refine st_lit rfl rfl rfl rfl ?_ ?_; · exact ok_) | refine st_skip rfl rfl rfl ?_ | refine st_skip0 rfl rfl ?_ | refine st_call rfl rfl rfl rfl small_1 rfl ?_ | (refine st_if rfl (fun hb => ?_) (fun hb => ?_) <;> (first | exact no_ hb | rw [hb])) | refine aw_seq ?_ | refine aw_region tab_ok _ rfl ?_ | refine aw_drawn2 tabS_ok _ rfl mixed (by decide +kernel) ?_ | (refine aw_cond rfl (fun hb => ?_) (fun hb => ?_) <;> (try exact no_ hb)) | refine aw_block ?_ | refine aw_exit ?_ | refine aw_ret ?_ | refine aw_skip ?_)
  all_goals exact end_ret (res_of rfl (by trivial) rfl)
theorem itoa0_1 : Pure Tryz.prog 128 [.one (.int .i64 1)] (.val (.one (.str ⟨#[49]⟩))) := by
  refine pure_of_aw tab_ok Tryz.func128 rfl rfl Tryz.ntmps128 (by simp) ?_
  simp only [argT, PV.av, List.map_cons, List.map_nil]
  repeat' (first | refine st_nil ?_ | (refine st_pop rfl rfl rfl rfl ?_ ?_; · exact ok_) | (refine st_lop rfl rfl rfl rfl ?_ ?_; · exact ok_) | (refine st_store rfl rfl rfl ?_ ?_; · exact ok_) | (refine st_lit rfl rfl rfl rfl ?_ ?_; · exact ok_) | refine st_skip rfl rfl rfl ?_ | refine st_skip0 rfl rfl ?_ | refine st_call rfl rfl rfl rfl formatInt_1 rfl ?_ | (refine st_if rfl (fun hb => ?_) (fun hb => ?_) <;> (first | exact no_ hb | rw [hb])) | refine aw_seq ?_ | refine aw_region tab_ok _ rfl ?_ | refine aw_drawn2 tabS_ok _ rfl mixed (by decide +kernel) ?_ | (refine aw_cond rfl (fun hb => ?_) (fun hb => ?_) <;> (try exact no_ hb)) | refine aw_block ?_ | refine aw_exit ?_ | refine aw_ret ?_ | refine aw_skip ?_)
  all_goals exact end_ret (res_of rfl (by trivial) rfl)
theorem itoa_1 : Pure Tryz.prog 89 [.one (.int .i64 1)] (.val (.one (.str ⟨#[49]⟩))) := by
  refine pure_of_aw tab_ok Tryz.func89 rfl rfl Tryz.ntmps89 (by simp) ?_
  simp only [argT, PV.av, List.map_cons, List.map_nil]
  repeat' (first | refine st_nil ?_ | (refine st_pop rfl rfl rfl rfl ?_ ?_; · exact ok_) | (refine st_lop rfl rfl rfl rfl ?_ ?_; · exact ok_) | (refine st_store rfl rfl rfl ?_ ?_; · exact ok_) | (refine st_lit rfl rfl rfl rfl ?_ ?_; · exact ok_) | refine st_skip rfl rfl rfl ?_ | refine st_skip0 rfl rfl ?_ | refine st_call rfl rfl rfl rfl itoa0_1 rfl ?_ | (refine st_if rfl (fun hb => ?_) (fun hb => ?_) <;> (first | exact no_ hb | rw [hb])) | refine aw_seq ?_ | refine aw_region tab_ok _ rfl ?_ | refine aw_drawn2 tabS_ok _ rfl mixed (by decide +kernel) ?_ | (refine aw_cond rfl (fun hb => ?_) (fun hb => ?_) <;> (try exact no_ hb)) | refine aw_block ?_ | refine aw_exit ?_ | refine aw_ret ?_ | refine aw_skip ?_)
  all_goals exact end_ret (res_of rfl (by trivial) rfl)
theorem small_2 : Pure Tryz.prog 193 [.one (.int .i64 2)] (.val (.one (.str ⟨#[50]⟩))) := by
  refine pure_of_aw tab_ok Tryz.func193 rfl rfl Tryz.ntmps193 (by simp) ?_
  simp only [argT, PV.av, List.map_cons, List.map_nil]
  repeat' (first | refine st_nil ?_ | (refine st_pop rfl rfl rfl rfl ?_ ?_; · (repeat' (first | exact trivial | rfl | exact Nat.le_of_ble_eq_true rfl | omega | decide | apply And.intro))) | (refine st_lop rfl rfl rfl rfl ?_ ?_; · (repeat' (first | exact trivial | rfl | exact Nat.le_of_ble_eq_true rfl | omega | decide | apply And.intro))) | (refine st_store rfl rfl rfl ?_ ?_; · (repeat' (first | exact trivial | rfl | exact Nat.le_of_ble_eq_true rfl | omega | decide | apply And.intro))) | (refine st_lit rfl rfl rfl rfl ?_ ?_; · (repeat' (first | exact trivial | rfl | exact Nat.le_of_ble_eq_true rfl | omega | decide | apply And.intro))) | refine st_skip rfl rfl rfl ?_ | refine st_skip0 rfl rfl ?_ | (refine st_if rfl (fun hb => ?_) (fun hb => ?_) <;> (first | exact no_ hb | rw [hb])) | refine aw_seq ?_ | refine aw_region tab_ok _ rfl ?_ | refine aw_drawn2 tabS_ok _ rfl mixed (by decide +kernel) ?_ | (refine aw_cond rfl (fun hb => ?_) (fun hb => ?_) <;> (try exact no_ hb)) | refine aw_block ?_ | refine aw_exit ?_ | refine aw_ret ?_ | refine aw_skip ?_)
  all_goals (refine end_ret ?_; refine res_of rfl ⟨trivial, trivial⟩ ?_; kernel_rfl)
theorem formatInt_2 : Pure Tryz.prog 169 [.one (.int .i64 2), .one (.int .i64 10)] (.val (.one (.str ⟨#[50]⟩))) := by
  refine pure_of_aw tab_ok Tryz.func169 rfl rfl Tryz.ntmps169 (by simp) ?_
  simp only [argT, PV.av, List.map_cons, List.map_nil]
  repeat' (first | refine st_nil ?_ | (refine st_pop rfl rfl rfl rfl ?_ ?_; · exact ok_) | (refine st_lop rfl rfl rfl rfl ?_ ?_; · exact ok_) | (refine st_store rfl rfl rfl ?_ ?_; · exact ok_) | (refine st_lit rfl rfl rfl rfl ?_ ?_; · exact ok_) | refine st_skip rfl rfl rfl ?_ | refine st_skip0 rfl rfl ?_ | refine st_call rfl rfl rfl rfl small_2 rfl ?_ | (refine st_if rfl (fun hb => ?_) (fun hb => ?_) <;> (first | exact no_ hb | rw [hb])) | refine aw_seq ?_ | refine aw_region tab_ok _ rfl ?_ | refine aw_drawn2 tabS_ok _ rfl mixed (by decide +kernel) ?_ | (refine aw_cond rfl (fun hb => ?_) (fun hb => ?_) <;> (try exact no_ hb)) | refine aw_block ?_ | refine aw_exit ?_ | refine aw_ret ?_ | refine aw_skip ?_)
  all_goals exact end_ret (res_of rfl (by trivial) rfl)
theorem itoa0_2 : Pure Tryz.prog 128 [.one (.int .i64 2)] (.val (.one (.str ⟨#[50]⟩))) := by
  refine pure_of_aw tab_ok Tryz.func128 rfl rfl Tryz.ntmps128 (by simp) ?_
  simp only [argT, PV.av, List.map_cons, List.map_nil]
  repeat' (first | refine st_nil ?_ | (refine st_pop rfl rfl rfl rfl ?_ ?_; · exact ok_) | (refine st_lop rfl rfl rfl rfl ?_ ?_; · exact ok_) | (refine st_store rfl rfl rfl ?_ ?_; · exact ok_) | (refine st_lit rfl rfl rfl rfl ?_ ?_; · exact ok_) | refine st_skip rfl rfl rfl ?_ | refine st_skip0 rfl rfl ?_ | refine st_call rfl rfl rfl rfl formatInt_2 rfl ?_ | (refine st_if rfl (fun hb => ?_) (fun hb => ?_) <;> (first | exact no_ hb | rw [hb])) | refine aw_seq ?_ | refine aw_region tab_ok _ rfl ?_ | refine aw_drawn2 tabS_ok _ rfl mixed (by decide +kernel) ?_ | (refine aw_cond rfl (fun hb => ?_) (fun hb => ?_) <;> (try exact no_ hb)) | refine aw_block ?_ | refine aw_exit ?_ | refine aw_ret ?_ | refine aw_skip ?_)
  all_goals exact end_ret (res_of rfl (by trivial) rfl)
theorem itoa_2 : Pure Tryz.prog 89 [.one (.int .i64 2)] (.val (.one (.str ⟨#[50]⟩))) := by
  refine pure_of_aw tab_ok Tryz.func89 rfl rfl Tryz.ntmps89 (by simp) ?_
  simp only [argT, PV.av, List.map_cons, List.map_nil]
  repeat' (first | refine st_nil ?_ | (refine st_pop rfl rfl rfl rfl ?_ ?_; · exact ok_) | (refine st_lop rfl rfl rfl rfl ?_ ?_; · exact ok_) | (refine st_store rfl rfl rfl ?_ ?_; · exact ok_) | (refine st_lit rfl rfl rfl rfl ?_ ?_; · exact ok_) | refine st_skip rfl rfl rfl ?_ | refine st_skip0 rfl rfl ?_ | refine st_call rfl rfl rfl rfl itoa0_2 rfl ?_ | (refine st_if rfl (fun hb => ?_) (fun hb => ?_) <;> (first | exact no_ hb | rw [hb])) | refine aw_seq ?_ | refine aw_region tab_ok _ rfl ?_ | refine aw_drawn2 tabS_ok _ rfl mixed (by decide +kernel) ?_ | (refine aw_cond rfl (fun hb => ?_) (fun hb => ?_) <;> (try exact no_ hb)) | refine aw_block ?_ | refine aw_exit ?_ | refine aw_ret ?_ | refine aw_skip ?_)
  all_goals exact end_ret (res_of rfl (by trivial) rfl)
theorem string1 (u : Nat) (s : ByteArray) (hu : u % 65536 = 5) (h0 : 0 < s.size) (hs : s.size ≤ 100000000000000) : Run Tryz.prog 91 [bldB (.ep 0 (111 + 65536) 0 0) u s 0, bldR u s] [.one (.ep 0 (111 + 65536) 0 0)] [bldB (.ep 0 (111 + 65536) 0 0) u s 0, .dead] (.one (.c (.str s))) := by
  refine run_of_aw tab_ok Tryz.func91 rfl rfl Tryz.ntmps91 (by simp) ?_
  simp only [argA]
  unfold bldB
  repeat' (first | refine st_nil ?_ | (refine st_sopq rfl rfl rfl rfl rfl (sop_sliceData rfl rfl h0) ?_) | (refine st_soph rfl rfl rfl rfl rfl (sop_unsafeString rfl rfl rfl hu (tabS_ok.kind _ _ rfl) by_cells h0 (by omega)) ?_) | (refine st_pop rfl rfl rfl rfl ?_ ?_; · exact ok_) | (refine st_lop rfl rfl rfl rfl ?_ ?_; · exact ok_) | (refine st_store rfl rfl rfl ?_ ?_; · exact ok_) | (refine st_lit rfl rfl rfl rfl ?_ ?_; · exact ok_) | refine st_skip rfl rfl rfl ?_ | refine st_skip0 rfl rfl ?_ | (refine st_if rfl (fun hb => ?_) (fun hb => ?_) <;> (first | exact no_ hb | rw [hb])) | refine aw_seq ?_ | refine aw_region tab_ok _ rfl ?_ | refine aw_drawn2 tabS_ok _ rfl mixed (by decide +kernel) ?_ | (refine aw_cond rfl (fun hb => ?_) (fun hb => ?_) <;> (try exact no_ hb)) | refine aw_block ?_ | refine aw_exit ?_ | refine aw_ret ?_ | refine aw_skip ?_)
  all_goals exact ⟨.inr rfl, ⟨.inl ⟨2, rfl, rfl⟩, ⟨[], rfl⟩, by simp, mem_below ⟨bld_below (by show 0 < 2; omega) (by show 1 < 2; omega), trivial, trivial⟩, trivial⟩⟩
theorem string0 : Run Tryz.prog 91 [bldB (.c (.nul .ptr)) 5 ⟨#[]⟩ 0, bldR 5 ⟨#[]⟩] [.one (.ep 0 (111 + 65536) 0 0)] [bldB (.c (.nul .ptr)) 5 ⟨#[]⟩ 0, bldR 5 ⟨#[]⟩] (.one (.c (.str ⟨#[]⟩))) := by
  refine run_of_aw tab_ok Tryz.func91 rfl rfl Tryz.ntmps91 (by simp) ?_
  simp only [argA]
  unfold bldB
  repeat' (first | refine st_nil ?_ | (refine st_sopq rfl rfl rfl rfl rfl (sop_sliceData0 rfl rfl (by decide)) ?_) | (refine st_soph rfl rfl rfl rfl rfl (sop_unsafeString0 rfl rfl) ?_) | (refine st_pop rfl rfl rfl rfl ?_ ?_; · exact ok_) | (refine st_lop rfl rfl rfl rfl ?_ ?_; · exact ok_) | (refine st_store rfl rfl rfl ?_ ?_; · exact ok_) | (refine st_lit rfl rfl rfl rfl ?_ ?_; · exact ok_) | refine st_skip rfl rfl rfl ?_ | refine st_skip0 rfl rfl ?_ | (refine st_if rfl (fun hb => ?_) (fun hb => ?_) <;> (first | exact no_ hb | rw [hb])) | refine aw_seq ?_ | refine aw_region tab_ok _ rfl ?_ | refine aw_drawn2 tabS_ok _ rfl mixed (by decide +kernel) ?_ | (refine aw_cond rfl (fun hb => ?_) (fun hb => ?_) <;> (try exact no_ hb)) | refine aw_block ?_ | refine aw_exit ?_ | refine aw_ret ?_ | refine aw_skip ?_)
  all_goals exact ⟨.inr rfl, ⟨.inl ⟨2, rfl, rfl⟩, ⟨[], rfl⟩, by simp, mem_below ⟨bld_below trivial (by show 1 < 2; omega), byteRow_below _ _ _, trivial⟩, trivial⟩⟩
end Go.Proofs.YtfpbmfalamappaaGreatDoor

namespace Go.Proofs.YtfpbmfalamappaaGreatDoor
open Go.RowKit Go.MapKept
set_option maxRecDepth 100000
/-- A value of a row. -/
structure Val where
  kind : Int
  int : Int
  text : ByteArray
def cV (v : Val) : List AC := [.int .i64 v.kind, .int .i64 v.int, .str v.text]
def tRow (l : List Val) : AC := .lst (l.map cV)
def sV (v : Val) : AV := .agg [.c (.int .i64 v.kind), .c (.int .i64 v.int), .c (.str v.text)]
def c58 : ByteArray := ⟨#[58]⟩
def keyV (it : Int → ByteArray) (v : Val) : ByteArray := it v.kind ++ c58 ++ it v.int ++ c58 ++ it v.text.size ++ c58 ++ v.text
def keyS (it : Int → ByteArray) (l : List Val) : ByteArray := l.foldl (fun a v => a ++ it v.kind ++ c58 ++ it v.int ++ c58 ++ it v.text.size ++ c58 ++ v.text) ⟨#[]⟩
theorem cV_wide (l : List Val) : ∀ e ∈ l.map cV, e.length = 3 := by intro e he; simp only [List.mem_map] at he; obtain ⟨x, _, rfl⟩ := he; rfl
theorem keyS_snoc (it : Int → ByteArray) (l : List Val) (v : Val) : keyS it (l ++ [v]) = keyS it l ++ it v.kind ++ c58 ++ it v.int ++ c58 ++ it v.text.size ++ c58 ++ v.text := by unfold keyS; rw [List.foldl_append]; rfl
structure KeyOK (it : Int → ByteArray) (v : Val) : Prop where
  kind : Pure Tryz.prog 89 [.one (.int .i64 v.kind)] (.val (.one (.str (it v.kind))))
  int : Pure Tryz.prog 89 [.one (.int .i64 v.int)] (.val (.one (.str (it v.int))))
  len : Pure Tryz.prog 89 [.one (.int .i64 v.text.size)] (.val (.one (.str (it v.text.size))))
  s1 : (it v.kind).size ≤ 30 ∧ 0 < (it v.kind).size
  s2 : (it v.int).size ≤ 30
  s3 : (it v.text.size).size ≤ 30
  s4 : v.text.size ≤ 10000000000
theorem keyS_size (it : Int → ByteArray) (l : List Val) (h : ∀ v ∈ l, KeyOK it v) : (keyS it l).size ≤ l.length * 10000000100 := by
  have key : ∀ (l : List Val) (a : ByteArray), (∀ v ∈ l, KeyOK it v) → (l.foldl (fun a v => a ++ it v.kind ++ c58 ++ it v.int ++ c58 ++ it v.text.size ++ c58 ++ v.text) a).size ≤ a.size + l.length * 10000000100 := by
    intro l
    induction l with
    | nil => intro a _; simp
    | cons v l ih =>
      intro a h
      have hv := h v (by simp)
      have := hv.s1; have := hv.s2; have := hv.s3; have := hv.s4
      rw [List.foldl_cons]
      have h1 := ih (a ++ it v.kind ++ c58 ++ it v.int ++ c58 ++ it v.text.size ++ c58 ++ v.text) fun x hx => h x (List.mem_cons_of_mem _ hx)
      have hc : c58.size = 1 := rfl
      simp only [ByteArray.size_append, hc] at h1
      rw [List.length_cons]
      omega
  have := key l ⟨#[]⟩ h
  have e : (⟨#[]⟩ : ByteArray).size = 0 := rfl
  rw [e, Nat.zero_add] at this
  exact this
/-- The objects at the head of the loop. -/
def keyOb (it : Int → ByteArray) (l : List Val) (i : Nat) : List Ob := [bldB (if i = 0 then .c (.nul .ptr) else (.ep 0 (111 + 65536) 0 0)) (5 + 458752 * i) (keyS it (l.take i)) 0, bldR (5 + 458752 * i) (keyS it (l.take i))]
theorem rf2 {L : List Ob} {p : SV} {u : Nat} {s : ByteArray} {x : AV} {xs : List AV} (hL0 : L[0]? = some (bldB p u s 0)) (hL1 : L[1]? = some (bldR u s)) (hp : p.ren [0, 1] = p) (hpb : p.below 2) (hx : ∀ y ∈ x :: xs, y.below 2) : RunFits [0, 1] [bldB p u s 0, bldR u s] (x :: xs) L := by
  refine runfits2 ?_ (by rw [bldR_ren]; exact hL1) (by decide) (bld_below hpb (by show 1 < 2; omega)) (byteRow_below _ _ _) hx
  rw [hL0]
  show some (Ob.row _ [[p, SV.sl 1 u 0 s.size]] 2) = some (Ob.row _ [[p.ren [0, 1], SV.sl 1 u 0 s.size]] 2)
  rw [hp]
theorem j2 {L L' : List Ob} {u : Nat} {s : ByteArray} (h : (L.set 0 (bldB (.ep 0 (111 + 65536) 0 0) u s 0)).set 1 (bldR u s) = L') : joinL [0, 1] L [bldB (.ep 0 (111 + 65536) 0 0) u s 0, bldR u s] = L' := join2 rfl (bldR_ren _ _ _) h
set_option maxHeartbeats 4000000 in
theorem key_pure (it : Int → ByteArray) (l : List Val) (hl : l.length ≤ 1000) (h : ∀ v ∈ l, KeyOK it v) : Pure Tryz.prog 54 [.one (tRow l)] (.val (.one (.str (keyS it l)))) := by
  refine pure_of_aw tab_ok Tryz.func54 rfl rfl Tryz.ntmps54 (by simp) ?_
  simp only [argT, PV.av, List.map_cons, List.map_nil]
  obtain ⟨inf, hinf, hiz⟩ : ∃ inf, Tryz.prog.info? 111 = some inf ∧ inf.zero = some (.agg #[.pointer none, .slice none 0 0]) := by
    have hh : (Tryz.prog.info? 111).bind (·.zero) = some (.agg #[.pointer none, .slice none 0 0]) := by kernel_rfl
    cases hi : Tryz.prog.info? 111 with
    | none => rw [hi] at hh; cases hh
    | some j => rw [hi] at hh; exact ⟨j, rfl, by simpa using hh⟩
  have hc : c58.size = 1 := rfl
  have he0 : (⟨#[]⟩ : ByteArray).size = 0 := rfl
  obtain ⟨n, hn⟩ : ∃ n, l.length = n := ⟨_, rfl⟩
  repeat' (first | refine st_nil ?_ | (refine st_sop rfl rfl rfl rfl rfl (sop_allocBuilder (Eb := 5) (k := 1) hinf hiz (by decide) (by decide) (by decide)) ?_) | (refine st_pop rfl rfl rfl rfl ?_ ?_; · exact ok_) | (refine st_lop rfl rfl rfl rfl ?_ ?_; · exact ok_) | (refine st_store rfl rfl rfl ?_ ?_; · exact ok_) | (refine st_lit rfl rfl rfl rfl ?_ ?_; · exact ok_) | refine st_skip rfl rfl rfl ?_ | refine st_skip0 rfl rfl ?_ | (refine st_if rfl (fun hb => ?_) (fun hb => ?_) <;> (first | exact no_ hb | rw [hb])) | refine aw_seq ?_ | refine aw_region tab_ok _ rfl ?_ | refine aw_drawn2 tabS_ok _ rfl mixed (by decide +kernel) ?_ | (refine aw_cond rfl (fun hb => ?_) (fun hb => ?_) <;> (try exact no_ hb)) | refine aw_block ?_ | refine aw_exit ?_ | refine aw_ret ?_ | refine aw_skip ?_)
  refine aw_loop (fun i : Nat => [(0, .one (.c (tRow l))), (3, .one (.ep 0 (111 + 65536) 0 0)), (6, .one (.c (tRow l))), (7, .one (.c (.int .i64 n))), (8, .one (.c (.int .i64 i)))]) (fun i => keyOb it l i) (fun i => i ≤ n) (fun i => n - i) 0 (by omega) (fun _ _ => Nat.zero_le _)
    (fits_mk ⟨rfl, rfl, rfl, slot_int (by simp [hn]), rfl, trivial⟩ [] rfl ⟨trivial, (by show 0 < 2; omega), trivial, trivial, trivial, trivial⟩ ⟨bld_below trivial (by show 1 < 2; omega), byteRow_below _ _ _, trivial⟩) ?_
  intro i hi
  have hsz := keyS_size it (l.take i) fun v hv => h v (List.mem_of_mem_take hv)
  rw [List.length_take] at hsz
  by_cases hlt2 : i < n
  · obtain ⟨v, hv⟩ := get_of_lt (show i < l.length by omega)
    have hk := h v (List.mem_of_getElem? hv)
    have k1 := hk.kind; have k2 := hk.int; have k3 := hk.len
    have q1 := hk.s1; have q2 := hk.s2; have q3 := hk.s3; have q4 := hk.s4
    have hsn := keyS_snoc it (l.take i) v
    rw [← take_succ hv] at hsn
    obtain ⟨kd, nn, tx⟩ := v
    simp only at k1 k2 k3 q1 q2 q3 q4 hsn
    generalize it kd = b1 at k1 q1 hsn
    generalize it nn = b2 at k2 q2 hsn
    generalize it tx.size = b3 at k3 q3 hsn
    by_cases hi0 : i = 0
    · subst hi0
      have e0 : keyOb it l 0 = [bldB (.c (.nul .ptr)) 5 ⟨#[]⟩ 0, bldR 5 ⟨#[]⟩] := rfl
      rw [e0]
      have hs0 : keyS it (l.take 0) = ⟨#[]⟩ := rfl
      rw [hs0] at hsn
      repeat' (first | refine st_nil ?_ | (refine st_pop rfl rfl rfl rfl ?_ ?_; · exact ok_) | (refine st_idx rfl rfl rfl rfl rfl rfl rfl rfl (idx_map hv) ?_ ?_; · exact ⟨by omega, rfl⟩) | (refine st_lop rfl rfl rfl rfl ?_ ?_; · exact ok_) | (refine st_store rfl rfl rfl ?_ ?_; · exact ok_) | (refine st_lit rfl rfl rfl rfl ?_ ?_; · exact ok_) | refine st_skip rfl rfl rfl ?_ | refine st_skip0 rfl rfl ?_ | refine st_call rfl rfl rfl rfl k1 rfl ?_ | refine st_call rfl rfl rfl rfl k2 rfl ?_ | refine st_call rfl rfl rfl rfl k3 rfl ?_ | (refine st_if rfl (fun hb => ?_) (fun hb => ?_) <;> (first | exact no_ hb | rw [hb])) | refine aw_seq ?_ | refine aw_region tab_ok _ rfl ?_ | refine aw_drawn2 tabS_ok _ rfl mixed (by decide +kernel) ?_ | (refine aw_cond rfl (fun hb => ?_) (fun hb => ?_) <;> (try exact no_ hb)) | refine aw_block ?_ | refine aw_exit ?_ | refine aw_ret ?_ | refine aw_skip ?_)
      refine st_run [0, 1] rfl rfl rfl rfl (writeString0 (5) ((⟨#[]⟩ : ByteArray)) b1 (by omega) (by (try simp only [ByteArray.size_append, hc, he0]); omega) (by omega)) rfl (rf2 rfl rfl rfl trivial (fun y hy => by rcases List.mem_cons.1 hy with rfl | hy <;> first | (show 0 < 2; omega) | (rcases List.mem_cons.1 hy with rfl | hy <;> first | exact True.intro | cases hy) | cases hy)) rfl (j2 (L' := [bldB (.ep 0 (111 + 65536) 0 0) (5 + 65536) ((⟨#[]⟩ : ByteArray) ++ b1) 0, bldR (5 + 65536) ((⟨#[]⟩ : ByteArray) ++ b1), .box [.c (.int .i64 kd), .c (.int .i64 nn), .c (.str tx)]]) rfl) ?_
      repeat' (first | refine st_nil ?_ | (refine st_pop rfl rfl rfl rfl ?_ ?_; · exact ok_) | (refine st_idx rfl rfl rfl rfl rfl rfl rfl rfl (idx_map hv) ?_ ?_; · exact ⟨by omega, rfl⟩) | (refine st_lop rfl rfl rfl rfl ?_ ?_; · exact ok_) | (refine st_store rfl rfl rfl ?_ ?_; · exact ok_) | (refine st_lit rfl rfl rfl rfl ?_ ?_; · exact ok_) | refine st_skip rfl rfl rfl ?_ | refine st_skip0 rfl rfl ?_ | refine st_call rfl rfl rfl rfl k1 rfl ?_ | refine st_call rfl rfl rfl rfl k2 rfl ?_ | refine st_call rfl rfl rfl rfl k3 rfl ?_ | (refine st_if rfl (fun hb => ?_) (fun hb => ?_) <;> (first | exact no_ hb | rw [hb])) | refine aw_seq ?_ | refine aw_region tab_ok _ rfl ?_ | refine aw_drawn2 tabS_ok _ rfl mixed (by decide +kernel) ?_ | (refine aw_cond rfl (fun hb => ?_) (fun hb => ?_) <;> (try exact no_ hb)) | refine aw_block ?_ | refine aw_exit ?_ | refine aw_ret ?_ | refine aw_skip ?_)
      refine st_run [0, 1] rfl rfl rfl rfl (writeByte1 (5 + 65536) ((⟨#[]⟩ : ByteArray) ++ b1) 58 (by omega) (by (try simp only [ByteArray.size_append, hc, he0]); omega)) rfl (rf2 rfl rfl rfl (by show 0 < 2; omega) (fun y hy => by rcases List.mem_cons.1 hy with rfl | hy <;> first | (show 0 < 2; omega) | (rcases List.mem_cons.1 hy with rfl | hy <;> first | exact True.intro | cases hy) | cases hy)) rfl (j2 (L' := [bldB (.ep 0 (111 + 65536) 0 0) (5 + 65536 + 65536) ((⟨#[]⟩ : ByteArray) ++ b1 ++ c58) 0, bldR (5 + 65536 + 65536) ((⟨#[]⟩ : ByteArray) ++ b1 ++ c58), .box [.c (.int .i64 kd), .c (.int .i64 nn), .c (.str tx)]]) rfl) ?_
      repeat' (first | refine st_nil ?_ | (refine st_pop rfl rfl rfl rfl ?_ ?_; · exact ok_) | (refine st_idx rfl rfl rfl rfl rfl rfl rfl rfl (idx_map hv) ?_ ?_; · exact ⟨by omega, rfl⟩) | (refine st_lop rfl rfl rfl rfl ?_ ?_; · exact ok_) | (refine st_store rfl rfl rfl ?_ ?_; · exact ok_) | (refine st_lit rfl rfl rfl rfl ?_ ?_; · exact ok_) | refine st_skip rfl rfl rfl ?_ | refine st_skip0 rfl rfl ?_ | refine st_call rfl rfl rfl rfl k1 rfl ?_ | refine st_call rfl rfl rfl rfl k2 rfl ?_ | refine st_call rfl rfl rfl rfl k3 rfl ?_ | (refine st_if rfl (fun hb => ?_) (fun hb => ?_) <;> (first | exact no_ hb | rw [hb])) | refine aw_seq ?_ | refine aw_region tab_ok _ rfl ?_ | refine aw_drawn2 tabS_ok _ rfl mixed (by decide +kernel) ?_ | (refine aw_cond rfl (fun hb => ?_) (fun hb => ?_) <;> (try exact no_ hb)) | refine aw_block ?_ | refine aw_exit ?_ | refine aw_ret ?_ | refine aw_skip ?_)
      refine st_run [0, 1] rfl rfl rfl rfl (writeString1 (5 + 65536 + 65536) ((⟨#[]⟩ : ByteArray) ++ b1 ++ c58) b2 (by omega) (by (try simp only [ByteArray.size_append, hc, he0]); omega) (by omega)) rfl (rf2 rfl rfl rfl (by show 0 < 2; omega) (fun y hy => by rcases List.mem_cons.1 hy with rfl | hy <;> first | (show 0 < 2; omega) | (rcases List.mem_cons.1 hy with rfl | hy <;> first | exact True.intro | cases hy) | cases hy)) rfl (j2 (L' := [bldB (.ep 0 (111 + 65536) 0 0) (5 + 65536 + 65536 + 65536) ((⟨#[]⟩ : ByteArray) ++ b1 ++ c58 ++ b2) 0, bldR (5 + 65536 + 65536 + 65536) ((⟨#[]⟩ : ByteArray) ++ b1 ++ c58 ++ b2), .box [.c (.int .i64 kd), .c (.int .i64 nn), .c (.str tx)]]) rfl) ?_
      repeat' (first | refine st_nil ?_ | (refine st_pop rfl rfl rfl rfl ?_ ?_; · exact ok_) | (refine st_idx rfl rfl rfl rfl rfl rfl rfl rfl (idx_map hv) ?_ ?_; · exact ⟨by omega, rfl⟩) | (refine st_lop rfl rfl rfl rfl ?_ ?_; · exact ok_) | (refine st_store rfl rfl rfl ?_ ?_; · exact ok_) | (refine st_lit rfl rfl rfl rfl ?_ ?_; · exact ok_) | refine st_skip rfl rfl rfl ?_ | refine st_skip0 rfl rfl ?_ | refine st_call rfl rfl rfl rfl k1 rfl ?_ | refine st_call rfl rfl rfl rfl k2 rfl ?_ | refine st_call rfl rfl rfl rfl k3 rfl ?_ | (refine st_if rfl (fun hb => ?_) (fun hb => ?_) <;> (first | exact no_ hb | rw [hb])) | refine aw_seq ?_ | refine aw_region tab_ok _ rfl ?_ | refine aw_drawn2 tabS_ok _ rfl mixed (by decide +kernel) ?_ | (refine aw_cond rfl (fun hb => ?_) (fun hb => ?_) <;> (try exact no_ hb)) | refine aw_block ?_ | refine aw_exit ?_ | refine aw_ret ?_ | refine aw_skip ?_)
      refine st_run [0, 1] rfl rfl rfl rfl (writeByte1 (5 + 65536 + 65536 + 65536) ((⟨#[]⟩ : ByteArray) ++ b1 ++ c58 ++ b2) 58 (by omega) (by (try simp only [ByteArray.size_append, hc, he0]); omega)) rfl (rf2 rfl rfl rfl (by show 0 < 2; omega) (fun y hy => by rcases List.mem_cons.1 hy with rfl | hy <;> first | (show 0 < 2; omega) | (rcases List.mem_cons.1 hy with rfl | hy <;> first | exact True.intro | cases hy) | cases hy)) rfl (j2 (L' := [bldB (.ep 0 (111 + 65536) 0 0) (5 + 65536 + 65536 + 65536 + 65536) ((⟨#[]⟩ : ByteArray) ++ b1 ++ c58 ++ b2 ++ c58) 0, bldR (5 + 65536 + 65536 + 65536 + 65536) ((⟨#[]⟩ : ByteArray) ++ b1 ++ c58 ++ b2 ++ c58), .box [.c (.int .i64 kd), .c (.int .i64 nn), .c (.str tx)]]) rfl) ?_
      repeat' (first | refine st_nil ?_ | (refine st_pop rfl rfl rfl rfl ?_ ?_; · exact ok_) | (refine st_idx rfl rfl rfl rfl rfl rfl rfl rfl (idx_map hv) ?_ ?_; · exact ⟨by omega, rfl⟩) | (refine st_lop rfl rfl rfl rfl ?_ ?_; · exact ok_) | (refine st_store rfl rfl rfl ?_ ?_; · exact ok_) | (refine st_lit rfl rfl rfl rfl ?_ ?_; · exact ok_) | refine st_skip rfl rfl rfl ?_ | refine st_skip0 rfl rfl ?_ | refine st_call rfl rfl rfl rfl k1 rfl ?_ | refine st_call rfl rfl rfl rfl k2 rfl ?_ | refine st_call rfl rfl rfl rfl k3 rfl ?_ | (refine st_if rfl (fun hb => ?_) (fun hb => ?_) <;> (first | exact no_ hb | rw [hb])) | refine aw_seq ?_ | refine aw_region tab_ok _ rfl ?_ | refine aw_drawn2 tabS_ok _ rfl mixed (by decide +kernel) ?_ | (refine aw_cond rfl (fun hb => ?_) (fun hb => ?_) <;> (try exact no_ hb)) | refine aw_block ?_ | refine aw_exit ?_ | refine aw_ret ?_ | refine aw_skip ?_)
      refine st_run [0, 1] rfl rfl rfl rfl (writeString1 (5 + 65536 + 65536 + 65536 + 65536) ((⟨#[]⟩ : ByteArray) ++ b1 ++ c58 ++ b2 ++ c58) b3 (by omega) (by (try simp only [ByteArray.size_append, hc, he0]); omega) (by omega)) rfl (rf2 rfl rfl rfl (by show 0 < 2; omega) (fun y hy => by rcases List.mem_cons.1 hy with rfl | hy <;> first | (show 0 < 2; omega) | (rcases List.mem_cons.1 hy with rfl | hy <;> first | exact True.intro | cases hy) | cases hy)) rfl (j2 (L' := [bldB (.ep 0 (111 + 65536) 0 0) (5 + 65536 + 65536 + 65536 + 65536 + 65536) ((⟨#[]⟩ : ByteArray) ++ b1 ++ c58 ++ b2 ++ c58 ++ b3) 0, bldR (5 + 65536 + 65536 + 65536 + 65536 + 65536) ((⟨#[]⟩ : ByteArray) ++ b1 ++ c58 ++ b2 ++ c58 ++ b3), .box [.c (.int .i64 kd), .c (.int .i64 nn), .c (.str tx)]]) rfl) ?_
      repeat' (first | refine st_nil ?_ | (refine st_pop rfl rfl rfl rfl ?_ ?_; · exact ok_) | (refine st_idx rfl rfl rfl rfl rfl rfl rfl rfl (idx_map hv) ?_ ?_; · exact ⟨by omega, rfl⟩) | (refine st_lop rfl rfl rfl rfl ?_ ?_; · exact ok_) | (refine st_store rfl rfl rfl ?_ ?_; · exact ok_) | (refine st_lit rfl rfl rfl rfl ?_ ?_; · exact ok_) | refine st_skip rfl rfl rfl ?_ | refine st_skip0 rfl rfl ?_ | refine st_call rfl rfl rfl rfl k1 rfl ?_ | refine st_call rfl rfl rfl rfl k2 rfl ?_ | refine st_call rfl rfl rfl rfl k3 rfl ?_ | (refine st_if rfl (fun hb => ?_) (fun hb => ?_) <;> (first | exact no_ hb | rw [hb])) | refine aw_seq ?_ | refine aw_region tab_ok _ rfl ?_ | refine aw_drawn2 tabS_ok _ rfl mixed (by decide +kernel) ?_ | (refine aw_cond rfl (fun hb => ?_) (fun hb => ?_) <;> (try exact no_ hb)) | refine aw_block ?_ | refine aw_exit ?_ | refine aw_ret ?_ | refine aw_skip ?_)
      refine st_run [0, 1] rfl rfl rfl rfl (writeByte1 (5 + 65536 + 65536 + 65536 + 65536 + 65536) ((⟨#[]⟩ : ByteArray) ++ b1 ++ c58 ++ b2 ++ c58 ++ b3) 58 (by omega) (by (try simp only [ByteArray.size_append, hc, he0]); omega)) rfl (rf2 rfl rfl rfl (by show 0 < 2; omega) (fun y hy => by rcases List.mem_cons.1 hy with rfl | hy <;> first | (show 0 < 2; omega) | (rcases List.mem_cons.1 hy with rfl | hy <;> first | exact True.intro | cases hy) | cases hy)) rfl (j2 (L' := [bldB (.ep 0 (111 + 65536) 0 0) (5 + 65536 + 65536 + 65536 + 65536 + 65536 + 65536) ((⟨#[]⟩ : ByteArray) ++ b1 ++ c58 ++ b2 ++ c58 ++ b3 ++ c58) 0, bldR (5 + 65536 + 65536 + 65536 + 65536 + 65536 + 65536) ((⟨#[]⟩ : ByteArray) ++ b1 ++ c58 ++ b2 ++ c58 ++ b3 ++ c58), .box [.c (.int .i64 kd), .c (.int .i64 nn), .c (.str tx)]]) rfl) ?_
      repeat' (first | refine st_nil ?_ | (refine st_pop rfl rfl rfl rfl ?_ ?_; · exact ok_) | (refine st_idx rfl rfl rfl rfl rfl rfl rfl rfl (idx_map hv) ?_ ?_; · exact ⟨by omega, rfl⟩) | (refine st_lop rfl rfl rfl rfl ?_ ?_; · exact ok_) | (refine st_store rfl rfl rfl ?_ ?_; · exact ok_) | (refine st_lit rfl rfl rfl rfl ?_ ?_; · exact ok_) | refine st_skip rfl rfl rfl ?_ | refine st_skip0 rfl rfl ?_ | refine st_call rfl rfl rfl rfl k1 rfl ?_ | refine st_call rfl rfl rfl rfl k2 rfl ?_ | refine st_call rfl rfl rfl rfl k3 rfl ?_ | (refine st_if rfl (fun hb => ?_) (fun hb => ?_) <;> (first | exact no_ hb | rw [hb])) | refine aw_seq ?_ | refine aw_region tab_ok _ rfl ?_ | refine aw_drawn2 tabS_ok _ rfl mixed (by decide +kernel) ?_ | (refine aw_cond rfl (fun hb => ?_) (fun hb => ?_) <;> (try exact no_ hb)) | refine aw_block ?_ | refine aw_exit ?_ | refine aw_ret ?_ | refine aw_skip ?_)
      refine st_run [0, 1] rfl rfl rfl rfl (writeString1 (5 + 65536 + 65536 + 65536 + 65536 + 65536 + 65536) ((⟨#[]⟩ : ByteArray) ++ b1 ++ c58 ++ b2 ++ c58 ++ b3 ++ c58) tx (by omega) (by (try simp only [ByteArray.size_append, hc, he0]); omega) (by omega)) rfl (rf2 rfl rfl rfl (by show 0 < 2; omega) (fun y hy => by rcases List.mem_cons.1 hy with rfl | hy <;> first | (show 0 < 2; omega) | (rcases List.mem_cons.1 hy with rfl | hy <;> first | exact True.intro | cases hy) | cases hy)) rfl (j2 (L' := [bldB (.ep 0 (111 + 65536) 0 0) (5 + 65536 + 65536 + 65536 + 65536 + 65536 + 65536 + 65536) ((⟨#[]⟩ : ByteArray) ++ b1 ++ c58 ++ b2 ++ c58 ++ b3 ++ c58 ++ tx) 0, bldR (5 + 65536 + 65536 + 65536 + 65536 + 65536 + 65536 + 65536) ((⟨#[]⟩ : ByteArray) ++ b1 ++ c58 ++ b2 ++ c58 ++ b3 ++ c58 ++ tx), .box [.c (.int .i64 kd), .c (.int .i64 nn), .c (.str tx)]]) rfl) ?_
      repeat' (first | refine st_nil ?_ | (refine st_pop rfl rfl rfl rfl ?_ ?_; · exact ok_) | (refine st_idx rfl rfl rfl rfl rfl rfl rfl rfl (idx_map hv) ?_ ?_; · exact ⟨by omega, rfl⟩) | (refine st_lop rfl rfl rfl rfl ?_ ?_; · exact ok_) | (refine st_store rfl rfl rfl ?_ ?_; · exact ok_) | (refine st_lit rfl rfl rfl rfl ?_ ?_; · exact ok_) | refine st_skip rfl rfl rfl ?_ | refine st_skip0 rfl rfl ?_ | refine st_call rfl rfl rfl rfl k1 rfl ?_ | refine st_call rfl rfl rfl rfl k2 rfl ?_ | refine st_call rfl rfl rfl rfl k3 rfl ?_ | (refine st_if rfl (fun hb => ?_) (fun hb => ?_) <;> (first | exact no_ hb | rw [hb])) | refine aw_seq ?_ | refine aw_region tab_ok _ rfl ?_ | refine aw_drawn2 tabS_ok _ rfl mixed (by decide +kernel) ?_ | (refine aw_cond rfl (fun hb => ?_) (fun hb => ?_) <;> (try exact no_ hb)) | refine aw_block ?_ | refine aw_exit ?_ | refine aw_ret ?_ | refine aw_skip ?_)
      have eL : keyOb it l (0 + 1) = [bldB (.ep 0 (111 + 65536) 0 0) (5 + 65536 + 65536 + 65536 + 65536 + 65536 + 65536 + 65536) ((⟨#[]⟩ : ByteArray) ++ b1 ++ c58 ++ b2 ++ c58 ++ b3 ++ c58 ++ tx) 0, bldR (5 + 65536 + 65536 + 65536 + 65536 + 65536 + 65536 + 65536) ((⟨#[]⟩ : ByteArray) ++ b1 ++ c58 ++ b2 ++ c58 ++ b3 ++ c58 ++ tx)] := by unfold keyOb; rw [if_neg (by omega), hsn, show 5 + 458752 * (0 + 1) = 5 + 65536 + 65536 + 65536 + 65536 + 65536 + 65536 + 65536 by omega]
      exact ⟨0 + 1, by omega, by omega, fits_mk ⟨rfl, rfl, rfl, rfl, slot_int (wrap_eq (by omega) (by omega)), trivial⟩ [.box [.c (.int .i64 kd), .c (.int .i64 nn), .c (.str tx)]] (by rw [eL]; rfl) ⟨trivial, (by show 0 < 2; omega), trivial, trivial, trivial, trivial⟩ (by rw [eL]; exact ⟨bld_below (by show 0 < 2; omega) (by show 1 < 2; omega), byteRow_below _ _ _, trivial⟩)⟩
    · have e1 : keyOb it l i = [bldB (.ep 0 (111 + 65536) 0 0) (5 + 458752 * i) (keyS it (l.take i)) 0, bldR (5 + 458752 * i) (keyS it (l.take i))] := by unfold keyOb; rw [if_neg hi0]
      rw [e1]
      generalize keyS it (l.take i) = s0 at hsz hsn
      have hu : (5 + 458752 * i) % 65536 = 5 := by omega
      generalize hue : 5 + 458752 * i = u0 at hu
      repeat' (first | refine st_nil ?_ | (refine st_pop rfl rfl rfl rfl ?_ ?_; · exact ok_) | (refine st_idx rfl rfl rfl rfl rfl rfl rfl rfl (idx_map hv) ?_ ?_; · exact ⟨by omega, rfl⟩) | (refine st_lop rfl rfl rfl rfl ?_ ?_; · exact ok_) | (refine st_store rfl rfl rfl ?_ ?_; · exact ok_) | (refine st_lit rfl rfl rfl rfl ?_ ?_; · exact ok_) | refine st_skip rfl rfl rfl ?_ | refine st_skip0 rfl rfl ?_ | refine st_call rfl rfl rfl rfl k1 rfl ?_ | refine st_call rfl rfl rfl rfl k2 rfl ?_ | refine st_call rfl rfl rfl rfl k3 rfl ?_ | (refine st_if rfl (fun hb => ?_) (fun hb => ?_) <;> (first | exact no_ hb | rw [hb])) | refine aw_seq ?_ | refine aw_region tab_ok _ rfl ?_ | refine aw_drawn2 tabS_ok _ rfl mixed (by decide +kernel) ?_ | (refine aw_cond rfl (fun hb => ?_) (fun hb => ?_) <;> (try exact no_ hb)) | refine aw_block ?_ | refine aw_exit ?_ | refine aw_ret ?_ | refine aw_skip ?_)
      refine st_run [0, 1] rfl rfl rfl rfl (writeString1 (u0) (s0) b1 (by omega) (by (try simp only [ByteArray.size_append, hc, he0]); omega) (by omega)) rfl (rf2 rfl rfl rfl (by show 0 < 2; omega) (fun y hy => by rcases List.mem_cons.1 hy with rfl | hy <;> first | (show 0 < 2; omega) | (rcases List.mem_cons.1 hy with rfl | hy <;> first | exact True.intro | cases hy) | cases hy)) rfl (j2 (L' := [bldB (.ep 0 (111 + 65536) 0 0) (u0 + 65536) (s0 ++ b1) 0, bldR (u0 + 65536) (s0 ++ b1), .box [.c (.int .i64 kd), .c (.int .i64 nn), .c (.str tx)]]) rfl) ?_
      repeat' (first | refine st_nil ?_ | (refine st_pop rfl rfl rfl rfl ?_ ?_; · exact ok_) | (refine st_idx rfl rfl rfl rfl rfl rfl rfl rfl (idx_map hv) ?_ ?_; · exact ⟨by omega, rfl⟩) | (refine st_lop rfl rfl rfl rfl ?_ ?_; · exact ok_) | (refine st_store rfl rfl rfl ?_ ?_; · exact ok_) | (refine st_lit rfl rfl rfl rfl ?_ ?_; · exact ok_) | refine st_skip rfl rfl rfl ?_ | refine st_skip0 rfl rfl ?_ | refine st_call rfl rfl rfl rfl k1 rfl ?_ | refine st_call rfl rfl rfl rfl k2 rfl ?_ | refine st_call rfl rfl rfl rfl k3 rfl ?_ | (refine st_if rfl (fun hb => ?_) (fun hb => ?_) <;> (first | exact no_ hb | rw [hb])) | refine aw_seq ?_ | refine aw_region tab_ok _ rfl ?_ | refine aw_drawn2 tabS_ok _ rfl mixed (by decide +kernel) ?_ | (refine aw_cond rfl (fun hb => ?_) (fun hb => ?_) <;> (try exact no_ hb)) | refine aw_block ?_ | refine aw_exit ?_ | refine aw_ret ?_ | refine aw_skip ?_)
      refine st_run [0, 1] rfl rfl rfl rfl (writeByte1 (u0 + 65536) (s0 ++ b1) 58 (by omega) (by (try simp only [ByteArray.size_append, hc, he0]); omega)) rfl (rf2 rfl rfl rfl (by show 0 < 2; omega) (fun y hy => by rcases List.mem_cons.1 hy with rfl | hy <;> first | (show 0 < 2; omega) | (rcases List.mem_cons.1 hy with rfl | hy <;> first | exact True.intro | cases hy) | cases hy)) rfl (j2 (L' := [bldB (.ep 0 (111 + 65536) 0 0) (u0 + 65536 + 65536) (s0 ++ b1 ++ c58) 0, bldR (u0 + 65536 + 65536) (s0 ++ b1 ++ c58), .box [.c (.int .i64 kd), .c (.int .i64 nn), .c (.str tx)]]) rfl) ?_
      repeat' (first | refine st_nil ?_ | (refine st_pop rfl rfl rfl rfl ?_ ?_; · exact ok_) | (refine st_idx rfl rfl rfl rfl rfl rfl rfl rfl (idx_map hv) ?_ ?_; · exact ⟨by omega, rfl⟩) | (refine st_lop rfl rfl rfl rfl ?_ ?_; · exact ok_) | (refine st_store rfl rfl rfl ?_ ?_; · exact ok_) | (refine st_lit rfl rfl rfl rfl ?_ ?_; · exact ok_) | refine st_skip rfl rfl rfl ?_ | refine st_skip0 rfl rfl ?_ | refine st_call rfl rfl rfl rfl k1 rfl ?_ | refine st_call rfl rfl rfl rfl k2 rfl ?_ | refine st_call rfl rfl rfl rfl k3 rfl ?_ | (refine st_if rfl (fun hb => ?_) (fun hb => ?_) <;> (first | exact no_ hb | rw [hb])) | refine aw_seq ?_ | refine aw_region tab_ok _ rfl ?_ | refine aw_drawn2 tabS_ok _ rfl mixed (by decide +kernel) ?_ | (refine aw_cond rfl (fun hb => ?_) (fun hb => ?_) <;> (try exact no_ hb)) | refine aw_block ?_ | refine aw_exit ?_ | refine aw_ret ?_ | refine aw_skip ?_)
      refine st_run [0, 1] rfl rfl rfl rfl (writeString1 (u0 + 65536 + 65536) (s0 ++ b1 ++ c58) b2 (by omega) (by (try simp only [ByteArray.size_append, hc, he0]); omega) (by omega)) rfl (rf2 rfl rfl rfl (by show 0 < 2; omega) (fun y hy => by rcases List.mem_cons.1 hy with rfl | hy <;> first | (show 0 < 2; omega) | (rcases List.mem_cons.1 hy with rfl | hy <;> first | exact True.intro | cases hy) | cases hy)) rfl (j2 (L' := [bldB (.ep 0 (111 + 65536) 0 0) (u0 + 65536 + 65536 + 65536) (s0 ++ b1 ++ c58 ++ b2) 0, bldR (u0 + 65536 + 65536 + 65536) (s0 ++ b1 ++ c58 ++ b2), .box [.c (.int .i64 kd), .c (.int .i64 nn), .c (.str tx)]]) rfl) ?_
      repeat' (first | refine st_nil ?_ | (refine st_pop rfl rfl rfl rfl ?_ ?_; · exact ok_) | (refine st_idx rfl rfl rfl rfl rfl rfl rfl rfl (idx_map hv) ?_ ?_; · exact ⟨by omega, rfl⟩) | (refine st_lop rfl rfl rfl rfl ?_ ?_; · exact ok_) | (refine st_store rfl rfl rfl ?_ ?_; · exact ok_) | (refine st_lit rfl rfl rfl rfl ?_ ?_; · exact ok_) | refine st_skip rfl rfl rfl ?_ | refine st_skip0 rfl rfl ?_ | refine st_call rfl rfl rfl rfl k1 rfl ?_ | refine st_call rfl rfl rfl rfl k2 rfl ?_ | refine st_call rfl rfl rfl rfl k3 rfl ?_ | (refine st_if rfl (fun hb => ?_) (fun hb => ?_) <;> (first | exact no_ hb | rw [hb])) | refine aw_seq ?_ | refine aw_region tab_ok _ rfl ?_ | refine aw_drawn2 tabS_ok _ rfl mixed (by decide +kernel) ?_ | (refine aw_cond rfl (fun hb => ?_) (fun hb => ?_) <;> (try exact no_ hb)) | refine aw_block ?_ | refine aw_exit ?_ | refine aw_ret ?_ | refine aw_skip ?_)
      refine st_run [0, 1] rfl rfl rfl rfl (writeByte1 (u0 + 65536 + 65536 + 65536) (s0 ++ b1 ++ c58 ++ b2) 58 (by omega) (by (try simp only [ByteArray.size_append, hc, he0]); omega)) rfl (rf2 rfl rfl rfl (by show 0 < 2; omega) (fun y hy => by rcases List.mem_cons.1 hy with rfl | hy <;> first | (show 0 < 2; omega) | (rcases List.mem_cons.1 hy with rfl | hy <;> first | exact True.intro | cases hy) | cases hy)) rfl (j2 (L' := [bldB (.ep 0 (111 + 65536) 0 0) (u0 + 65536 + 65536 + 65536 + 65536) (s0 ++ b1 ++ c58 ++ b2 ++ c58) 0, bldR (u0 + 65536 + 65536 + 65536 + 65536) (s0 ++ b1 ++ c58 ++ b2 ++ c58), .box [.c (.int .i64 kd), .c (.int .i64 nn), .c (.str tx)]]) rfl) ?_
      repeat' (first | refine st_nil ?_ | (refine st_pop rfl rfl rfl rfl ?_ ?_; · exact ok_) | (refine st_idx rfl rfl rfl rfl rfl rfl rfl rfl (idx_map hv) ?_ ?_; · exact ⟨by omega, rfl⟩) | (refine st_lop rfl rfl rfl rfl ?_ ?_; · exact ok_) | (refine st_store rfl rfl rfl ?_ ?_; · exact ok_) | (refine st_lit rfl rfl rfl rfl ?_ ?_; · exact ok_) | refine st_skip rfl rfl rfl ?_ | refine st_skip0 rfl rfl ?_ | refine st_call rfl rfl rfl rfl k1 rfl ?_ | refine st_call rfl rfl rfl rfl k2 rfl ?_ | refine st_call rfl rfl rfl rfl k3 rfl ?_ | (refine st_if rfl (fun hb => ?_) (fun hb => ?_) <;> (first | exact no_ hb | rw [hb])) | refine aw_seq ?_ | refine aw_region tab_ok _ rfl ?_ | refine aw_drawn2 tabS_ok _ rfl mixed (by decide +kernel) ?_ | (refine aw_cond rfl (fun hb => ?_) (fun hb => ?_) <;> (try exact no_ hb)) | refine aw_block ?_ | refine aw_exit ?_ | refine aw_ret ?_ | refine aw_skip ?_)
      refine st_run [0, 1] rfl rfl rfl rfl (writeString1 (u0 + 65536 + 65536 + 65536 + 65536) (s0 ++ b1 ++ c58 ++ b2 ++ c58) b3 (by omega) (by (try simp only [ByteArray.size_append, hc, he0]); omega) (by omega)) rfl (rf2 rfl rfl rfl (by show 0 < 2; omega) (fun y hy => by rcases List.mem_cons.1 hy with rfl | hy <;> first | (show 0 < 2; omega) | (rcases List.mem_cons.1 hy with rfl | hy <;> first | exact True.intro | cases hy) | cases hy)) rfl (j2 (L' := [bldB (.ep 0 (111 + 65536) 0 0) (u0 + 65536 + 65536 + 65536 + 65536 + 65536) (s0 ++ b1 ++ c58 ++ b2 ++ c58 ++ b3) 0, bldR (u0 + 65536 + 65536 + 65536 + 65536 + 65536) (s0 ++ b1 ++ c58 ++ b2 ++ c58 ++ b3), .box [.c (.int .i64 kd), .c (.int .i64 nn), .c (.str tx)]]) rfl) ?_
      repeat' (first | refine st_nil ?_ | (refine st_pop rfl rfl rfl rfl ?_ ?_; · exact ok_) | (refine st_idx rfl rfl rfl rfl rfl rfl rfl rfl (idx_map hv) ?_ ?_; · exact ⟨by omega, rfl⟩) | (refine st_lop rfl rfl rfl rfl ?_ ?_; · exact ok_) | (refine st_store rfl rfl rfl ?_ ?_; · exact ok_) | (refine st_lit rfl rfl rfl rfl ?_ ?_; · exact ok_) | refine st_skip rfl rfl rfl ?_ | refine st_skip0 rfl rfl ?_ | refine st_call rfl rfl rfl rfl k1 rfl ?_ | refine st_call rfl rfl rfl rfl k2 rfl ?_ | refine st_call rfl rfl rfl rfl k3 rfl ?_ | (refine st_if rfl (fun hb => ?_) (fun hb => ?_) <;> (first | exact no_ hb | rw [hb])) | refine aw_seq ?_ | refine aw_region tab_ok _ rfl ?_ | refine aw_drawn2 tabS_ok _ rfl mixed (by decide +kernel) ?_ | (refine aw_cond rfl (fun hb => ?_) (fun hb => ?_) <;> (try exact no_ hb)) | refine aw_block ?_ | refine aw_exit ?_ | refine aw_ret ?_ | refine aw_skip ?_)
      refine st_run [0, 1] rfl rfl rfl rfl (writeByte1 (u0 + 65536 + 65536 + 65536 + 65536 + 65536) (s0 ++ b1 ++ c58 ++ b2 ++ c58 ++ b3) 58 (by omega) (by (try simp only [ByteArray.size_append, hc, he0]); omega)) rfl (rf2 rfl rfl rfl (by show 0 < 2; omega) (fun y hy => by rcases List.mem_cons.1 hy with rfl | hy <;> first | (show 0 < 2; omega) | (rcases List.mem_cons.1 hy with rfl | hy <;> first | exact True.intro | cases hy) | cases hy)) rfl (j2 (L' := [bldB (.ep 0 (111 + 65536) 0 0) (u0 + 65536 + 65536 + 65536 + 65536 + 65536 + 65536) (s0 ++ b1 ++ c58 ++ b2 ++ c58 ++ b3 ++ c58) 0, bldR (u0 + 65536 + 65536 + 65536 + 65536 + 65536 + 65536) (s0 ++ b1 ++ c58 ++ b2 ++ c58 ++ b3 ++ c58), .box [.c (.int .i64 kd), .c (.int .i64 nn), .c (.str tx)]]) rfl) ?_
      repeat' (first | refine st_nil ?_ | (refine st_pop rfl rfl rfl rfl ?_ ?_; · exact ok_) | (refine st_idx rfl rfl rfl rfl rfl rfl rfl rfl (idx_map hv) ?_ ?_; · exact ⟨by omega, rfl⟩) | (refine st_lop rfl rfl rfl rfl ?_ ?_; · exact ok_) | (refine st_store rfl rfl rfl ?_ ?_; · exact ok_) | (refine st_lit rfl rfl rfl rfl ?_ ?_; · exact ok_) | refine st_skip rfl rfl rfl ?_ | refine st_skip0 rfl rfl ?_ | refine st_call rfl rfl rfl rfl k1 rfl ?_ | refine st_call rfl rfl rfl rfl k2 rfl ?_ | refine st_call rfl rfl rfl rfl k3 rfl ?_ | (refine st_if rfl (fun hb => ?_) (fun hb => ?_) <;> (first | exact no_ hb | rw [hb])) | refine aw_seq ?_ | refine aw_region tab_ok _ rfl ?_ | refine aw_drawn2 tabS_ok _ rfl mixed (by decide +kernel) ?_ | (refine aw_cond rfl (fun hb => ?_) (fun hb => ?_) <;> (try exact no_ hb)) | refine aw_block ?_ | refine aw_exit ?_ | refine aw_ret ?_ | refine aw_skip ?_)
      refine st_run [0, 1] rfl rfl rfl rfl (writeString1 (u0 + 65536 + 65536 + 65536 + 65536 + 65536 + 65536) (s0 ++ b1 ++ c58 ++ b2 ++ c58 ++ b3 ++ c58) tx (by omega) (by (try simp only [ByteArray.size_append, hc, he0]); omega) (by omega)) rfl (rf2 rfl rfl rfl (by show 0 < 2; omega) (fun y hy => by rcases List.mem_cons.1 hy with rfl | hy <;> first | (show 0 < 2; omega) | (rcases List.mem_cons.1 hy with rfl | hy <;> first | exact True.intro | cases hy) | cases hy)) rfl (j2 (L' := [bldB (.ep 0 (111 + 65536) 0 0) (u0 + 65536 + 65536 + 65536 + 65536 + 65536 + 65536 + 65536) (s0 ++ b1 ++ c58 ++ b2 ++ c58 ++ b3 ++ c58 ++ tx) 0, bldR (u0 + 65536 + 65536 + 65536 + 65536 + 65536 + 65536 + 65536) (s0 ++ b1 ++ c58 ++ b2 ++ c58 ++ b3 ++ c58 ++ tx), .box [.c (.int .i64 kd), .c (.int .i64 nn), .c (.str tx)]]) rfl) ?_
      repeat' (first | refine st_nil ?_ | (refine st_pop rfl rfl rfl rfl ?_ ?_; · exact ok_) | (refine st_idx rfl rfl rfl rfl rfl rfl rfl rfl (idx_map hv) ?_ ?_; · exact ⟨by omega, rfl⟩) | (refine st_lop rfl rfl rfl rfl ?_ ?_; · exact ok_) | (refine st_store rfl rfl rfl ?_ ?_; · exact ok_) | (refine st_lit rfl rfl rfl rfl ?_ ?_; · exact ok_) | refine st_skip rfl rfl rfl ?_ | refine st_skip0 rfl rfl ?_ | refine st_call rfl rfl rfl rfl k1 rfl ?_ | refine st_call rfl rfl rfl rfl k2 rfl ?_ | refine st_call rfl rfl rfl rfl k3 rfl ?_ | (refine st_if rfl (fun hb => ?_) (fun hb => ?_) <;> (first | exact no_ hb | rw [hb])) | refine aw_seq ?_ | refine aw_region tab_ok _ rfl ?_ | refine aw_drawn2 tabS_ok _ rfl mixed (by decide +kernel) ?_ | (refine aw_cond rfl (fun hb => ?_) (fun hb => ?_) <;> (try exact no_ hb)) | refine aw_block ?_ | refine aw_exit ?_ | refine aw_ret ?_ | refine aw_skip ?_)
      have eL : keyOb it l (i + 1) = [bldB (.ep 0 (111 + 65536) 0 0) (u0 + 65536 + 65536 + 65536 + 65536 + 65536 + 65536 + 65536) (s0 ++ b1 ++ c58 ++ b2 ++ c58 ++ b3 ++ c58 ++ tx) 0, bldR (u0 + 65536 + 65536 + 65536 + 65536 + 65536 + 65536 + 65536) (s0 ++ b1 ++ c58 ++ b2 ++ c58 ++ b3 ++ c58 ++ tx)] := by unfold keyOb; rw [if_neg (by omega), hsn, show 5 + 458752 * (i + 1) = u0 + 65536 + 65536 + 65536 + 65536 + 65536 + 65536 + 65536 by omega]
      exact ⟨i + 1, by omega, by omega, fits_mk ⟨rfl, rfl, rfl, rfl, slot_int (wrap_eq (by omega) (by omega)), trivial⟩ [.box [.c (.int .i64 kd), .c (.int .i64 nn), .c (.str tx)]] (by rw [eL]; rfl) ⟨trivial, (by show 0 < 2; omega), trivial, trivial, trivial, trivial⟩ (by rw [eL]; exact ⟨bld_below (by show 0 < 2; omega) (by show 1 < 2; omega), byteRow_below _ _ _, trivial⟩)⟩
  · have hi2 : i = l.length := by omega
    have htk : l.take i = l := by rw [hi2, List.take_length]
    by_cases hi0 : i = 0
    · subst hi0
      have hnil : l = [] := List.eq_nil_of_length_eq_zero hi2.symm
      subst hnil
      have e0 : keyOb it [] 0 = [bldB (.c (.nul .ptr)) 5 ⟨#[]⟩ 0, bldR 5 ⟨#[]⟩] := rfl
      rw [e0]
      repeat' (first | refine st_nil ?_ | (refine st_pop rfl rfl rfl rfl ?_ ?_; · exact ok_) | (refine st_lop rfl rfl rfl rfl ?_ ?_; · exact ok_) | (refine st_store rfl rfl rfl ?_ ?_; · exact ok_) | (refine st_lit rfl rfl rfl rfl ?_ ?_; · exact ok_) | refine st_skip rfl rfl rfl ?_ | refine st_skip0 rfl rfl ?_ | (refine st_if rfl (fun hb => ?_) (fun hb => ?_) <;> (first | exact no_ hb | rw [hb])) | refine aw_seq ?_ | refine aw_region tab_ok _ rfl ?_ | refine aw_drawn2 tabS_ok _ rfl mixed (by decide +kernel) ?_ | (refine aw_cond rfl (fun hb => ?_) (fun hb => ?_) <;> (try exact no_ hb)) | refine aw_block ?_ | refine aw_exit ?_ | refine aw_ret ?_ | refine aw_skip ?_)
      refine st_run [0, 1] rfl rfl rfl rfl string0 rfl (rf2 rfl rfl rfl True.intro (fun y hy => by rcases List.mem_cons.1 hy with rfl | hy <;> first | (show 0 < 2; omega) | (rcases List.mem_cons.1 hy with rfl | hy <;> first | exact True.intro | cases hy) | cases hy)) rfl (join2 rfl (bldR_ren _ _ _) (L' := [bldB (.c (.nul .ptr)) 5 ⟨#[]⟩ 0, bldR 5 ⟨#[]⟩]) rfl) ?_
      repeat' (first | refine st_nil ?_ | (refine st_pop rfl rfl rfl rfl ?_ ?_; · exact ok_) | (refine st_lop rfl rfl rfl rfl ?_ ?_; · exact ok_) | (refine st_store rfl rfl rfl ?_ ?_; · exact ok_) | (refine st_lit rfl rfl rfl rfl ?_ ?_; · exact ok_) | refine st_skip rfl rfl rfl ?_ | refine st_skip0 rfl rfl ?_ | (refine st_if rfl (fun hb => ?_) (fun hb => ?_) <;> (first | exact no_ hb | rw [hb])) | refine aw_seq ?_ | refine aw_region tab_ok _ rfl ?_ | refine aw_drawn2 tabS_ok _ rfl mixed (by decide +kernel) ?_ | (refine aw_cond rfl (fun hb => ?_) (fun hb => ?_) <;> (try exact no_ hb)) | refine aw_block ?_ | refine aw_exit ?_ | refine aw_ret ?_ | refine aw_skip ?_)
      exact end_ret (res_of rfl (by trivial) rfl)
    · have e1 : keyOb it l i = [bldB (.ep 0 (111 + 65536) 0 0) (5 + 458752 * i) (keyS it l) 0, bldR (5 + 458752 * i) (keyS it l)] := by unfold keyOb; rw [if_neg hi0, htk]
      rw [e1]
      rw [htk] at hsz
      have hu : (5 + 458752 * i) % 65536 = 5 := by omega
      generalize 5 + 458752 * i = u0 at hu
      have hpos : 0 < (keyS it l).size := by
        obtain ⟨v, hv⟩ := get_of_lt (show i - 1 < l.length by omega)
        have hsn := keyS_snoc it (l.take (i - 1)) v
        rw [← take_succ hv, show i - 1 + 1 = i by omega, htk] at hsn
        have := (h v (List.mem_of_getElem? hv)).s1
        rw [hsn]; simp only [ByteArray.size_append]; omega
      generalize keyS it l = s0 at hsz hpos
      repeat' (first | refine st_nil ?_ | (refine st_pop rfl rfl rfl rfl ?_ ?_; · exact ok_) | (refine st_lop rfl rfl rfl rfl ?_ ?_; · exact ok_) | (refine st_store rfl rfl rfl ?_ ?_; · exact ok_) | (refine st_lit rfl rfl rfl rfl ?_ ?_; · exact ok_) | refine st_skip rfl rfl rfl ?_ | refine st_skip0 rfl rfl ?_ | (refine st_if rfl (fun hb => ?_) (fun hb => ?_) <;> (first | exact no_ hb | rw [hb])) | refine aw_seq ?_ | refine aw_region tab_ok _ rfl ?_ | refine aw_drawn2 tabS_ok _ rfl mixed (by decide +kernel) ?_ | (refine aw_cond rfl (fun hb => ?_) (fun hb => ?_) <;> (try exact no_ hb)) | refine aw_block ?_ | refine aw_exit ?_ | refine aw_ret ?_ | refine aw_skip ?_)
      refine st_run [0, 1] rfl rfl rfl rfl (string1 u0 s0 hu hpos (by omega)) rfl (rf2 rfl rfl rfl (by show 0 < 2; omega) (fun y hy => by rcases List.mem_cons.1 hy with rfl | hy <;> first | (show 0 < 2; omega) | (rcases List.mem_cons.1 hy with rfl | hy <;> first | exact True.intro | cases hy) | cases hy)) rfl (join2 rfl rfl (L' := [bldB (.ep 0 (111 + 65536) 0 0) u0 s0 0, .dead]) rfl) ?_
      repeat' (first | refine st_nil ?_ | (refine st_pop rfl rfl rfl rfl ?_ ?_; · exact ok_) | (refine st_lop rfl rfl rfl rfl ?_ ?_; · exact ok_) | (refine st_store rfl rfl rfl ?_ ?_; · exact ok_) | (refine st_lit rfl rfl rfl rfl ?_ ?_; · exact ok_) | refine st_skip rfl rfl rfl ?_ | refine st_skip0 rfl rfl ?_ | (refine st_if rfl (fun hb => ?_) (fun hb => ?_) <;> (first | exact no_ hb | rw [hb])) | refine aw_seq ?_ | refine aw_region tab_ok _ rfl ?_ | refine aw_drawn2 tabS_ok _ rfl mixed (by decide +kernel) ?_ | (refine aw_cond rfl (fun hb => ?_) (fun hb => ?_) <;> (try exact no_ hb)) | refine aw_block ?_ | refine aw_exit ?_ | refine aw_ret ?_ | refine aw_skip ?_)
      exact end_ret (res_of rfl (by trivial) rfl)
end Go.Proofs.YtfpbmfalamappaaGreatDoor

namespace Go.Proofs.YtfpbmfalamappaaGreatDoor
open Go.RowKit Go.MapKept
set_option maxRecDepth 100000
def icmp (x y : Int) : Int := if x < y then -1 else if y < x then 1 else 0
def scmp (a b : ByteArray) : Int := Extern.BytealgCompare.cmp a b
def vcmp (v w : Val) : Int := if icmp v.kind w.kind ≠ 0 then icmp v.kind w.kind else if icmp v.int w.int ≠ 0 then icmp v.int w.int else scmp v.text w.text
def rcmp : List Val → List Val → Int
  | [], [] => 0
  | [], _ :: _ => -1
  | _ :: _, [] => 1
  | a :: xs, b :: ys => if vcmp a b ≠ 0 then vcmp a b else rcmp xs ys
theorem cs_fn : ∃ fn, Tryz.prog.funcs[197]? = some fn ∧ (fn.name == "runtime.NumGoroutine") = false ∧ fn.body.isNone = true ∧ Extern.findNext fn = none ∧ Extern.find fn = some Extern.BytealgCompare.compare := ⟨_, Tryz.func197, by kernel_rfl, by kernel_rfl, by kernel_rfl, by kernel_rfl⟩
theorem sop_cmpstr {P : Program} {ρ : Operand → Option AV} {L : List Ob} {f : FuncId} {fn : Func} {x y : Operand} {ts : Array TypeId} {a b : ByteArray} (hx : ρ x = some (.one (.c (.str a)))) (hy : ρ y = some (.one (.c (.str b)))) (hf : P.funcs[f]? = some fn) (hname : (fn.name == "runtime.NumGoroutine") = false)
    (hb : fn.body.isNone = true) (hn : Extern.findNext fn = none) (he : Extern.find fn = some Extern.BytealgCompare.compare) :
    Sop P ρ L (.call { callee := .value (.func f), args := #[x, y], argTypes := ts }) (.one (.c (.int .i64 (scmp a b)))) L := by
  intro B R γ w ev o ho hi hρ hfv
  obtain ⟨dst, op, type, pos, after, guard⟩ := o
  simp only at ho; subst ho
  have h1 := hρ x (by simp [Op.operands, Call.operands]) _ hx
  have h2 := hρ y (by simp [Op.operands, Call.operands]) _ hy
  generalize hex : ev x = ux at h1
  generalize hey : ev y = uy at h2
  cases h1; cases h2
  refine ⟨w, R, γ, .inl ⟨.int .i64 (scmp a b), ?_, .int _ _⟩, hi, Ext.refl _ _ _, Mv.refl⟩
  have := run_callFunc_extern hf hname hb hn he #[.string a, .string b] w
  have h3 : (Extern.BytealgCompare.compare #[.string a, .string b]).run P w = .ok (.int .i64 (scmp a b)) w := rfl
  rw [h3] at this
  simp [execOp, resolve, Deferred.ofValue, hfv.1, hex, hey, invoke, this, Result.andThen]
theorem isNaN_pure (x : Int) : Pure Tryz.prog 170 [.one (.int .i64 x)] (vBool false) := by
  refine pure_of_aw tab_ok Tryz.func170 rfl rfl Tryz.ntmps170 (by simp) ?_
  simp only [argT, PV.av, List.map_cons, List.map_nil]
  repeat' (first | refine st_nil ?_ | (refine st_pop rfl rfl rfl rfl ?_ ?_; · exact ok_) | (refine st_lop rfl rfl rfl rfl ?_ ?_; · exact ok_) | (refine st_store rfl rfl rfl ?_ ?_; · exact ok_) | (refine st_lit rfl rfl rfl rfl ?_ ?_; · exact ok_) | refine st_skip rfl rfl rfl ?_ | refine st_skip0 rfl rfl ?_ | (refine st_if rfl (fun hb => ?_) (fun hb => ?_) <;> (first | exact no_ hb | rw [hb])) | refine aw_seq ?_ | refine aw_region tab_ok _ rfl ?_ | refine aw_drawn2 tabS_ok _ rfl mixed (by decide +kernel) ?_ | (refine aw_cond rfl (fun hb => ?_) (fun hb => ?_) <;> (try exact no_ hb)) | refine aw_block ?_ | refine aw_exit ?_ | refine aw_ret ?_ | refine aw_skip ?_)
  all_goals (refine end_ret ?_; refine res_of rfl (by trivial) ?_; simp [cvOf, vBool])
theorem icmp_pure (x y : Int) : Pure Tryz.prog 131 [.one (.int .i64 x), .one (.int .i64 y)] (vInt (icmp x y)) := by
  refine pure_of_aw tab_ok Tryz.func131 rfl rfl Tryz.ntmps131 (by simp) ?_
  simp only [argT, PV.av, List.map_cons, List.map_nil]
  repeat' (first | refine st_nil ?_ | (refine st_pop rfl rfl rfl rfl ?_ ?_; · exact ok_) | (refine st_lop rfl rfl rfl rfl ?_ ?_; · exact ok_) | (refine st_store rfl rfl rfl ?_ ?_; · exact ok_) | (refine st_lit rfl rfl rfl rfl ?_ ?_; · exact ok_) | refine st_skip rfl rfl rfl ?_ | refine st_skip0 rfl rfl ?_ | refine st_call rfl rfl rfl rfl (isNaN_pure _) rfl ?_ | (refine st_if rfl (fun hb => ?_) (fun hb => ?_) <;> (first | exact no_ hb | rw [hb])) | refine aw_seq ?_ | refine aw_region tab_ok _ rfl ?_ | refine aw_drawn2 tabS_ok _ rfl mixed (by decide +kernel) ?_ | (refine aw_cond rfl (fun hb => ?_) (fun hb => ?_) <;> (try exact no_ hb)) | refine aw_block ?_ | refine aw_exit ?_ | refine aw_ret ?_ | refine aw_skip ?_)
  all_goals (refine end_ret (res_of rfl (by trivial) (vInt_eq ?_)); simp only [decide_eq_true_eq, decide_eq_false_iff_not] at *; unfold icmp; (repeat' split) <;> omega)
theorem scmp0_pure (a b : ByteArray) : Pure Tryz.prog 171 [.one (.str a), .one (.str b)] (vInt (scmp a b)) := by
  obtain ⟨fn, hf, hnm, hbd, hnx, hfd⟩ := cs_fn
  refine pure_of_aw tab_ok Tryz.func171 rfl rfl Tryz.ntmps171 (by simp) ?_
  simp only [argT, PV.av, List.map_cons, List.map_nil]
  repeat' (first | refine st_nil ?_ | (refine st_pop rfl rfl rfl rfl ?_ ?_; · exact ok_) | (refine st_lop rfl rfl rfl rfl ?_ ?_; · exact ok_) | (refine st_store rfl rfl rfl ?_ ?_; · exact ok_) | (refine st_lit rfl rfl rfl rfl ?_ ?_; · exact ok_) | refine st_skip rfl rfl rfl ?_ | refine st_skip0 rfl rfl ?_ | (refine st_if rfl (fun hb => ?_) (fun hb => ?_) <;> (first | exact no_ hb | rw [hb])) | refine aw_seq ?_ | refine aw_region tab_ok _ rfl ?_ | refine aw_drawn2 tabS_ok _ rfl mixed (by decide +kernel) ?_ | (refine aw_cond rfl (fun hb => ?_) (fun hb => ?_) <;> (try exact no_ hb)) | refine aw_block ?_ | refine aw_exit ?_ | refine aw_ret ?_ | refine aw_skip ?_ | (refine st_sop rfl rfl rfl rfl rfl (sop_cmpstr rfl rfl hf hnm hbd hnx hfd) ?_))
  all_goals exact end_ret (res_of rfl (by trivial) rfl)
theorem scmp_pure (a b : ByteArray) : Pure Tryz.prog 132 [.one (.str a), .one (.str b)] (vInt (scmp a b)) := by
  refine pure_of_aw tab_ok Tryz.func132 rfl rfl Tryz.ntmps132 (by simp) ?_
  simp only [argT, PV.av, List.map_cons, List.map_nil]
  repeat' (first | refine st_nil ?_ | (refine st_pop rfl rfl rfl rfl ?_ ?_; · exact ok_) | (refine st_lop rfl rfl rfl rfl ?_ ?_; · exact ok_) | (refine st_store rfl rfl rfl ?_ ?_; · exact ok_) | (refine st_lit rfl rfl rfl rfl ?_ ?_; · exact ok_) | refine st_skip rfl rfl rfl ?_ | refine st_skip0 rfl rfl ?_ | refine st_call rfl rfl rfl rfl (scmp0_pure _ _) rfl ?_ | (refine st_if rfl (fun hb => ?_) (fun hb => ?_) <;> (first | exact no_ hb | rw [hb])) | refine aw_seq ?_ | refine aw_region tab_ok _ rfl ?_ | refine aw_drawn2 tabS_ok _ rfl mixed (by decide +kernel) ?_ | (refine aw_cond rfl (fun hb => ?_) (fun hb => ?_) <;> (try exact no_ hb)) | refine aw_block ?_ | refine aw_exit ?_ | refine aw_ret ?_ | refine aw_skip ?_)
  all_goals exact end_ret (res_of rfl (by trivial) rfl)
def orI (l : List Int) : Int := (l.find? (· ≠ 0)).getD 0
def tInts (l : List Int) : AC := .lst (l.map fun x => [.int .i64 x])
theorem or_pure (l : List Int) (hl : l.length ≤ 1000000) : Pure Tryz.prog 130 [.one (tInts l)] (vInt (orI l)) := by
  refine pure_of_aw tab_ok Tryz.func130 rfl rfl Tryz.ntmps130 (by simp) ?_
  simp only [argT, PV.av, List.map_cons, List.map_nil]
  obtain ⟨n, hn⟩ : ∃ n, l.length = n := ⟨_, rfl⟩
  repeat' (first | refine st_nil ?_ | (refine st_pop rfl rfl rfl rfl ?_ ?_; · exact ok_) | (refine st_lop rfl rfl rfl rfl ?_ ?_; · exact ok_) | (refine st_store rfl rfl rfl ?_ ?_; · exact ok_) | (refine st_lit rfl rfl rfl rfl ?_ ?_; · exact ok_) | refine st_skip rfl rfl rfl ?_ | refine st_skip0 rfl rfl ?_ | (refine st_if rfl (fun hb => ?_) (fun hb => ?_) <;> (first | exact no_ hb | rw [hb])) | refine aw_seq ?_ | refine aw_region tab_ok _ rfl ?_ | refine aw_drawn2 tabS_ok _ rfl mixed (by decide +kernel) ?_ | (refine aw_cond rfl (fun hb => ?_) (fun hb => ?_) <;> (try exact no_ hb)) | refine aw_block ?_ | refine aw_exit ?_ | refine aw_ret ?_ | refine aw_skip ?_)
  refine aw_loop (fun i : Nat => [(0, .one (.c (tInts l))), (2, .one (.c (.int .i64 0))), (3, .one (.c (.int .i64 0))), (6, .one (.c (tInts l))), (7, .one (.c (.int .i64 n))), (8, .one (.c (.int .i64 i)))]) (fun _ => []) (fun i => i ≤ n ∧ ∀ x ∈ l.take i, x = 0) (fun i => n - i) 0 ⟨by omega, by simp⟩ (fun _ _ => Nat.zero_le _)
    (fits_mk ⟨rfl, rfl, rfl, rfl, slot_int (by simp [hn]), rfl, trivial⟩ [] rfl ft_ ft_) ?_
  rintro i ⟨hi, hz⟩
  by_cases hlt : i < n
  · obtain ⟨x, hx⟩ := get_of_lt (show i < l.length by omega)
    repeat' (first | refine st_nil ?_ | (refine st_pop rfl rfl rfl rfl ?_ ?_; · exact ok_) | (refine st_idx rfl rfl rfl rfl rfl rfl rfl rfl (idx_map hx) ?_ ?_; · exact ⟨by omega, rfl⟩) | (refine st_lop rfl rfl rfl rfl ?_ ?_; · exact ok_) | (refine st_store rfl rfl rfl ?_ ?_; · exact ok_) | (refine st_lit rfl rfl rfl rfl ?_ ?_; · exact ok_) | refine st_skip rfl rfl rfl ?_ | refine st_skip0 rfl rfl ?_ | (refine st_if rfl (fun hb => ?_) (fun hb => ?_) <;> (first | exact no_ hb | rw [hb])) | refine aw_seq ?_ | refine aw_region tab_ok _ rfl ?_ | refine aw_drawn2 tabS_ok _ rfl mixed (by decide +kernel) ?_ | (refine aw_cond rfl (fun hb => ?_) (fun hb => ?_) <;> (try exact no_ hb)) | refine aw_block ?_ | refine aw_exit ?_ | refine aw_ret ?_ | refine aw_skip ?_)
    · refine end_ret (res_of rfl (by trivial) (vInt_eq ?_))
      simp at hb
      have hs : l = l.take i ++ x :: l.drop (i + 1) := by
        rw [← List.getElem?_eq_some_iff.1 hx |>.2]; simp
      unfold orI
      rw [hs, List.find?_append, List.find?_eq_none.2 (by intro y hy; simp [hz y hy])]
      simp [hb]
    · simp at hb
      exact ⟨i + 1, ⟨by omega, by rw [take_succ hx]; intro y hy; rcases List.mem_append.1 hy with hy | hy <;> first | exact hz y hy | (simp at hy; rw [hy]; exact hb)⟩, by omega, fits_mk ⟨rfl, rfl, rfl, rfl, rfl, slot_int (wrap_eq (by omega) (by omega)), trivial⟩ [] rfl ft_ ft_⟩
  · have hi2 : i = l.length := by omega
    rw [hi2, List.take_length] at hz
    repeat' (first | refine st_nil ?_ | (refine st_pop rfl rfl rfl rfl ?_ ?_; · exact ok_) | (refine st_lop rfl rfl rfl rfl ?_ ?_; · exact ok_) | (refine st_store rfl rfl rfl ?_ ?_; · exact ok_) | (refine st_lit rfl rfl rfl rfl ?_ ?_; · exact ok_) | refine st_skip rfl rfl rfl ?_ | refine st_skip0 rfl rfl ?_ | (refine st_if rfl (fun hb => ?_) (fun hb => ?_) <;> (first | exact no_ hb | rw [hb])) | refine aw_seq ?_ | refine aw_region tab_ok _ rfl ?_ | refine aw_drawn2 tabS_ok _ rfl mixed (by decide +kernel) ?_ | (refine aw_cond rfl (fun hb => ?_) (fun hb => ?_) <;> (try exact no_ hb)) | refine aw_block ?_ | refine aw_exit ?_ | refine aw_ret ?_ | refine aw_skip ?_)
    refine end_ret (res_of rfl (by trivial) (vInt_eq ?_))
    unfold orI
    rw [List.find?_eq_none.2 (by intro y hy; simp [hz y hy])]; rfl
theorem orI3 (a b c : Int) : orI [a, b, c] = if a ≠ 0 then a else if b ≠ 0 then b else c := by
  unfold orI
  by_cases ha : a = 0 <;> by_cases hb : b = 0 <;> by_cases hc : c = 0 <;> simp [List.find?, ha, hb, hc]
theorem vcmp_pure (v w : Val) : Pure Tryz.prog 96 [.agg [.int .i64 v.kind, .int .i64 v.int, .str v.text], .agg [.int .i64 w.kind, .int .i64 w.int, .str w.text]] (vInt (vcmp v w)) := by
  have h3 := or_pure [icmp v.kind w.kind, icmp v.int w.int, scmp v.text w.text] (by simp)
  refine pure_of_aw tab_ok Tryz.func96 rfl rfl Tryz.ntmps96 (by simp) ?_
  simp only [argT, PV.av, List.map_cons, List.map_nil]
  repeat' (first | refine st_nil ?_ | (refine st_pop rfl rfl rfl rfl ?_ ?_; · (repeat' (first | exact trivial | rfl | exact Nat.le_of_ble_eq_true rfl | omega | (intro e he; simp only [List.mem_cons, List.not_mem_nil, or_false] at he; rcases he with rfl | rfl | rfl <;> rfl) | apply And.intro))) | (refine st_lop rfl rfl rfl rfl ?_ ?_; · (repeat' (first | exact trivial | rfl | exact Nat.le_of_ble_eq_true rfl | omega | (intro e he; simp only [List.mem_cons, List.not_mem_nil, or_false] at he; rcases he with rfl | rfl | rfl <;> rfl) | apply And.intro))) | (refine st_store rfl rfl rfl ?_ ?_; · (repeat' (first | exact trivial | rfl | exact Nat.le_of_ble_eq_true rfl | omega | (intro e he; simp only [List.mem_cons, List.not_mem_nil, or_false] at he; rcases he with rfl | rfl | rfl <;> rfl) | apply And.intro))) | (refine st_lit rfl rfl rfl rfl ?_ ?_; · (repeat' (first | exact trivial | rfl | exact Nat.le_of_ble_eq_true rfl | omega | (intro e he; simp only [List.mem_cons, List.not_mem_nil, or_false] at he; rcases he with rfl | rfl | rfl <;> rfl) | apply And.intro))) | refine st_skip rfl rfl rfl ?_ | refine st_skip0 rfl rfl ?_ | refine st_call rfl rfl rfl rfl (icmp_pure _ _) rfl ?_ | refine st_call rfl rfl rfl rfl (scmp_pure _ _) rfl ?_ | refine st_call rfl rfl rfl rfl h3 rfl ?_ | (refine st_if rfl (fun hb => ?_) (fun hb => ?_) <;> (first | exact no_ hb | rw [hb])) | refine aw_seq ?_ | refine aw_region tab_ok _ rfl ?_ | refine aw_drawn2 tabS_ok _ rfl mixed (by decide +kernel) ?_ | (refine aw_cond rfl (fun hb => ?_) (fun hb => ?_) <;> (try exact no_ hb)) | refine aw_block ?_ | refine aw_exit ?_ | refine aw_ret ?_ | refine aw_skip ?_)
  all_goals (refine end_ret (res_of rfl (by trivial) (vInt_eq ?_)); rw [orI3]; rfl)
theorem rcmp_drop {a b : List Val} {i : Nat} {x y : Val} (hx : a[i]? = some x) (hy : b[i]? = some y) : rcmp (a.drop i) (b.drop i) = if vcmp x y ≠ 0 then vcmp x y else rcmp (a.drop (i + 1)) (b.drop (i + 1)) := by
  have h1 := (List.getElem?_eq_some_iff.1 hx)
  have h2 := (List.getElem?_eq_some_iff.1 hy)
  obtain ⟨h1, e1⟩ := h1; obtain ⟨h2, e2⟩ := h2
  rw [List.drop_eq_getElem_cons h1, List.drop_eq_getElem_cons h2, e1, e2, rcmp]
theorem rcmp0_pure (a b : List Val) (ha : a.length ≤ 1000000) (hb0 : b.length ≤ 1000000) : Pure Tryz.prog 174 [.one (tRow a), .one (tRow b), .one (.fn 96 [])] (vInt (rcmp a b)) := by
  refine pure_of_aw tab_ok Tryz.func174 rfl rfl Tryz.ntmps174 (by simp) ?_
  simp only [argT, PV.av, List.map_cons, List.map_nil]
  obtain ⟨n, hn⟩ : ∃ n, a.length = n := ⟨_, rfl⟩
  obtain ⟨m, hm⟩ : ∃ m, b.length = m := ⟨_, rfl⟩
  have hma : (a.map cV).length = n := by simp [hn]
  have hmb : (b.map cV).length = m := by simp [hm]
  repeat' (first | refine st_nil ?_ | (refine st_pop rfl rfl rfl rfl ?_ ?_; · exact ok_) | (refine st_lop rfl rfl rfl rfl ?_ ?_; · exact ok_) | (refine st_store rfl rfl rfl ?_ ?_; · exact ok_) | (refine st_lit rfl rfl rfl rfl ?_ ?_; · exact ok_) | refine st_skip rfl rfl rfl ?_ | refine st_skip0 rfl rfl ?_ | (refine st_if rfl (fun hb => ?_) (fun hb => ?_) <;> (first | exact no_ hb | rw [hb])) | refine aw_seq ?_ | refine aw_region tab_ok _ rfl ?_ | refine aw_drawn2 tabS_ok _ rfl mixed (by decide +kernel) ?_ | (refine aw_cond rfl (fun hb => ?_) (fun hb => ?_) <;> (try exact no_ hb)) | refine aw_block ?_ | refine aw_exit ?_ | refine aw_ret ?_ | refine aw_skip ?_)
  refine aw_loop (fun i : Nat => [(0, .one (.c (tRow a))), (1, .one (.c (tRow b))), (2, .one (.c (.fn 96 []))), (6, .one (.c (.int .i64 0))), (11, .one (.c (tRow a))), (12, .one (.c (.int .i64 n))), (13, .one (.c (.int .i64 i)))]) (fun _ => []) (fun i => i ≤ n ∧ i ≤ m ∧ rcmp a b = rcmp (a.drop i) (b.drop i)) (fun i => n - i) 0 ⟨by omega, by omega, rfl⟩ (fun _ _ => Nat.zero_le _)
    (fits_mk ⟨rfl, rfl, rfl, rfl, rfl, slot_int (by simp [hn]), rfl, trivial⟩ [] rfl ft_ ft_) ?_
  rintro i ⟨hi, him, hr⟩
  by_cases hlt : i < n
  · obtain ⟨x, hx⟩ := get_of_lt (show i < a.length by omega)
    by_cases hlm : i < m
    · obtain ⟨y, hy⟩ := get_of_lt (show i < b.length by omega)
      have hstep := rcmp_drop hx hy
      repeat' (first | refine st_nil ?_ | (refine st_pop rfl rfl rfl rfl ?_ ?_; · (repeat' (first | exact trivial | rfl | exact Nat.le_of_ble_eq_true rfl | omega | (simp only [List.length_map]; omega) | apply And.intro))) | (refine st_idx rfl rfl rfl rfl rfl rfl rfl rfl (idx_map hx) ?_ ?_; · exact ⟨by omega, rfl⟩) | (refine st_idx rfl rfl rfl rfl rfl rfl rfl rfl (idx_map hy) ?_ ?_; · exact ⟨by omega, rfl⟩) | (refine st_lop rfl rfl rfl rfl ?_ ?_; · (repeat' (first | exact trivial | rfl | exact Nat.le_of_ble_eq_true rfl | omega | (simp only [List.length_map]; omega) | apply And.intro))) | (refine st_store rfl rfl rfl ?_ ?_; · (repeat' (first | exact trivial | rfl | exact Nat.le_of_ble_eq_true rfl | omega | (simp only [List.length_map]; omega) | apply And.intro))) | (refine st_lit rfl rfl rfl rfl ?_ ?_; · (repeat' (first | exact trivial | rfl | exact Nat.le_of_ble_eq_true rfl | omega | (simp only [List.length_map]; omega) | apply And.intro))) | refine st_skip rfl rfl rfl ?_ | refine st_skip0 rfl rfl ?_ | refine st_call rfl rfl rfl rfl (vcmp_pure x y) rfl ?_ | (refine st_if rfl (fun hb => ?_) (fun hb => ?_) <;> (first | exact no_ hb | rw [hb])) | refine aw_seq ?_ | refine aw_region tab_ok _ rfl ?_ | refine aw_drawn2 tabS_ok _ rfl mixed (by decide +kernel) ?_ | (refine aw_cond rfl (fun hb => ?_) (fun hb => ?_) <;> (try exact no_ hb)) | refine aw_block ?_ | refine aw_exit ?_ | refine aw_ret ?_ | refine aw_skip ?_)
      · simp only [decide_eq_true_eq] at hb
        refine end_ret (res_of rfl (by trivial) (vInt_eq ?_))
        rw [hr, hstep, if_pos hb]
      · simp only [decide_eq_false_iff_not, ne_eq, Decidable.not_not] at hb
        exact ⟨i + 1, ⟨by omega, by omega, by rw [hr, hstep, if_neg (by rw [hb]; decide)]⟩, by omega, fits_mk ⟨rfl, rfl, rfl, rfl, rfl, rfl, slot_int (wrap_eq (by omega) (by omega)), trivial⟩ [_, _] rfl ft_ ft_⟩
    · have hbl : b.length ≤ i := by omega
      repeat' (first | refine st_nil ?_ | (refine st_pop rfl rfl rfl rfl ?_ ?_; · (repeat' (first | exact trivial | rfl | exact Nat.le_of_ble_eq_true rfl | omega | (simp only [List.length_map]; omega) | apply And.intro))) | (refine st_idx rfl rfl rfl rfl rfl rfl rfl rfl (idx_map hx) ?_ ?_; · exact ⟨by omega, rfl⟩) | (refine st_lop rfl rfl rfl rfl ?_ ?_; · (repeat' (first | exact trivial | rfl | exact Nat.le_of_ble_eq_true rfl | omega | (simp only [List.length_map]; omega) | apply And.intro))) | (refine st_store rfl rfl rfl ?_ ?_; · (repeat' (first | exact trivial | rfl | exact Nat.le_of_ble_eq_true rfl | omega | (simp only [List.length_map]; omega) | apply And.intro))) | (refine st_lit rfl rfl rfl rfl ?_ ?_; · (repeat' (first | exact trivial | rfl | exact Nat.le_of_ble_eq_true rfl | omega | (simp only [List.length_map]; omega) | apply And.intro))) | refine st_skip rfl rfl rfl ?_ | refine st_skip0 rfl rfl ?_ | (refine st_if rfl (fun hb => ?_) (fun hb => ?_) <;> (first | exact no_ hb | rw [hb])) | refine aw_seq ?_ | refine aw_region tab_ok _ rfl ?_ | refine aw_drawn2 tabS_ok _ rfl mixed (by decide +kernel) ?_ | (refine aw_cond rfl (fun hb => ?_) (fun hb => ?_) <;> (try exact no_ hb)) | refine aw_block ?_ | refine aw_exit ?_ | refine aw_ret ?_ | refine aw_skip ?_)
      all_goals (refine end_ret (res_of rfl (by trivial) (vInt_eq ?_)); rw [hr, List.drop_of_length_le hbl, List.drop_eq_getElem_cons (show i < a.length by omega)]; rfl)
  · have hi2 : a.length ≤ i := by omega
    repeat' (first | refine st_nil ?_ | (refine st_pop rfl rfl rfl rfl ?_ ?_; · exact ok_) | (refine st_lop rfl rfl rfl rfl ?_ ?_; · exact ok_) | (refine st_store rfl rfl rfl ?_ ?_; · exact ok_) | (refine st_lit rfl rfl rfl rfl ?_ ?_; · exact ok_) | refine st_skip rfl rfl rfl ?_ | refine st_skip0 rfl rfl ?_ | (refine st_if rfl (fun hb => ?_) (fun hb => ?_) <;> (first | exact no_ hb | rw [hb])) | refine aw_seq ?_ | refine aw_region tab_ok _ rfl ?_ | refine aw_drawn2 tabS_ok _ rfl mixed (by decide +kernel) ?_ | (refine aw_cond rfl (fun hb => ?_) (fun hb => ?_) <;> (try exact no_ hb)) | refine aw_block ?_ | refine aw_exit ?_ | refine aw_ret ?_ | refine aw_skip ?_)
    all_goals refine end_ret (res_of rfl (by trivial) (vInt_eq ?_))
    all_goals simp only [decide_eq_true_eq, decide_eq_false_iff_not, List.length_map] at hb
    · rw [hr, List.drop_of_length_le hi2, List.drop_eq_getElem_cons (show i < b.length by omega)]; rfl
    · rw [hr, List.drop_of_length_le hi2, List.drop_of_length_le (show b.length ≤ i by omega)]; rfl
theorem rcmp_pure (a b : List Val) (ha : a.length ≤ 1000000) (hb0 : b.length ≤ 1000000) : Pure Tryz.prog 134 [.one (tRow a), .one (tRow b)] (vInt (rcmp a b)) := by
  refine pure_of_aw tab_ok Tryz.func134 rfl rfl Tryz.ntmps134 (by simp) ?_
  simp only [argT, PV.av, List.map_cons, List.map_nil]
  repeat' (first | refine st_nil ?_ | (refine st_pop rfl rfl rfl rfl ?_ ?_; · exact ok_) | (refine st_lop rfl rfl rfl rfl ?_ ?_; · exact ok_) | (refine st_store rfl rfl rfl ?_ ?_; · exact ok_) | (refine st_lit rfl rfl rfl rfl ?_ ?_; · exact ok_) | refine st_skip rfl rfl rfl ?_ | refine st_skip0 rfl rfl ?_ | refine st_call rfl rfl rfl rfl (rcmp0_pure a b ha hb0) rfl ?_ | (refine st_if rfl (fun hb => ?_) (fun hb => ?_) <;> (first | exact no_ hb | rw [hb])) | refine aw_seq ?_ | refine aw_region tab_ok _ rfl ?_ | refine aw_drawn2 tabS_ok _ rfl mixed (by decide +kernel) ?_ | (refine aw_cond rfl (fun hb => ?_) (fun hb => ?_) <;> (try exact no_ hb)) | refine aw_block ?_ | refine aw_exit ?_ | refine aw_ret ?_ | refine aw_skip ?_)
  all_goals exact end_ret (res_of rfl (by trivial) rfl)
end Go.Proofs.YtfpbmfalamappaaGreatDoor

namespace Go.Proofs.YtfpbmfalamappaaGreatDoor
open Go.RowKit Go.MapKept
set_option maxRecDepth 100000
/-- Insertion sort, from the right. -/
def posF (c : AC → AC → Int) (A : List AC) (x : AC) : Nat → Nat
  | 0 => 0
  | j + 1 => match A[j]? with
    | some y => if c x y < 0 then posF c A x j else j + 1
    | none => j + 1
def insR (c : AC → AC → Int) (A : List AC) (x : AC) : List AC := A.take (posF c A x A.length) ++ x :: A.drop (posF c A x A.length)
def isort (c : AC → AC → Int) (l : List AC) : List AC := l.foldl (insR c) []
def gC (x : AC) : List SV := [.c x]
def Wx (A : List AC) (x : AC) (j : Nat) (rest : List AC) : List AC := A.take j ++ x :: (A.drop j ++ rest)
theorem insR_len (c : AC → AC → Int) (A : List AC) (x : AC) : (insR c A x).length = A.length + 1 := by
  unfold insR; rw [List.length_append, List.length_cons, List.length_take, List.length_drop]; omega
theorem isort_len (c : AC → AC → Int) (l : List AC) : (isort c l).length = l.length := by
  have : ∀ (l A : List AC), (l.foldl (insR c) A).length = A.length + l.length := by
    intro l
    induction l with
    | nil => intro A; simp
    | cons x l ih => intro A; rw [List.foldl_cons, ih, insR_len, List.length_cons]; omega
  have := this l []
  simpa [isort] using this
theorem insR_mem {c : AC → AC → Int} {A : List AC} {x y : AC} (h : y ∈ insR c A x) : y = x ∨ y ∈ A := by
  unfold insR at h
  rcases List.mem_append.1 h with h | h
  · exact .inr (List.mem_of_mem_take h)
  · rcases List.mem_cons.1 h with h | h
    · exact .inl h
    · exact .inr (List.mem_of_mem_drop h)
theorem isort_mem {c : AC → AC → Int} {l : List AC} {y : AC} (h : y ∈ isort c l) : y ∈ l := by
  have : ∀ (l A : List AC), y ∈ l.foldl (insR c) A → y ∈ A ∨ y ∈ l := by
    intro l
    induction l with
    | nil => intro A h; exact .inl h
    | cons x l ih =>
      intro A h
      rw [List.foldl_cons] at h
      rcases ih _ h with h | h
      · rcases insR_mem h with h | h
        · exact .inr (by rw [h]; simp)
        · exact .inl h
      · exact .inr (List.mem_cons_of_mem _ h)
  rcases this l [] h with h | h
  · cases h
  · exact h
theorem isort_snoc (c : AC → AC → Int) (l : List AC) (x : AC) : isort c (l ++ [x]) = insR c (isort c l) x := by unfold isort; rw [List.foldl_append]; rfl
theorem Wx_len {A rest : List AC} {x : AC} {j : Nat} : (Wx A x j rest).length = A.length + 1 + rest.length := by
  unfold Wx; simp only [List.length_append, List.length_cons, List.length_take, List.length_drop]; omega
theorem Wx_get {A rest : List AC} {x : AC} {j : Nat} (h : j ≤ A.length) : (Wx A x j rest)[j]? = some x := by
  unfold Wx
  rw [List.getElem?_append_right (by rw [List.length_take]; omega)]
  have : j - (A.take j).length = 0 := by rw [List.length_take]; omega
  rw [this]; rfl
theorem Wx_split {A rest : List AC} {x y : AC} {j : Nat} (hy : A[j]? = some y) : Wx A x (j + 1) rest = A.take j ++ y :: x :: (A.drop (j + 1) ++ rest) ∧ Wx A x j rest = A.take j ++ x :: y :: (A.drop (j + 1) ++ rest) := by
  obtain ⟨h, e⟩ := List.getElem?_eq_some_iff.1 hy
  refine ⟨?_, ?_⟩
  · unfold Wx; rw [take_succ hy]; simp
  · unfold Wx; rw [List.drop_eq_getElem_cons h, e]; rfl
theorem Wx_get1 {A rest : List AC} {x y : AC} {j : Nat} (hy : A[j]? = some y) : (Wx A x (j + 1) rest)[j]? = some y := by
  have h := (List.getElem?_eq_some_iff.1 hy).1
  rw [(Wx_split hy).1, List.getElem?_append_right (by rw [List.length_take]; omega)]
  have : j - (A.take j).length = 0 := by rw [List.length_take]; omega
  rw [this]; rfl
theorem Wx_swap {A rest : List AC} {x y : AC} {j : Nat} (hy : A[j]? = some y) : ((Wx A x (j + 1) rest).map gC |>.set (j + 1) (gC y)).set j (gC x) = (Wx A x j rest).map gC := by
  have h := (List.getElem?_eq_some_iff.1 hy).1
  rw [(Wx_split hy).1, (Wx_split hy).2]
  have hl : ((A.take j).map gC).length = j := by rw [List.length_map, List.length_take]; omega
  simp only [List.map_append, List.map_cons]
  generalize (A.take j).map gC = P0 at hl
  subst hl
  rw [List.set_append_right _ _ (by omega), List.set_append_right _ _ (by omega)]
  simp
theorem insR_W (c : AC → AC → Int) (A : List AC) (x : AC) (rest : List AC) : insR c A x ++ rest = Wx A x (posF c A x A.length) rest := by unfold insR Wx; simp
theorem rowC_below (n v k : Nat) (l : List AC) : (Ob.row v (l.map gC) k).below n := by
  intro e he x hx
  obtain ⟨y, _, rfl⟩ := List.mem_map.1 he
  rcases List.mem_cons.1 hx with rfl | hx
  · trivial
  · cases hx
set_option maxHeartbeats 2000000 in
theorem isort_run (F : FuncId) (c : AC → AC → Int) (v : Nat) (xs : List AC) (n : Nat) (hn : xs.length = n) (hn2 : n ≤ 100000) (hcmp : ∀ x y, x ∈ xs → y ∈ xs → Pure Tryz.prog F [.one x, .one y] (vInt (c x y))) : Run Tryz.prog 208 [.row v (xs.map gC) 1] [.one (.sl 0 v 0 n), .one (.c (.int .i64 0)), .one (.c (.int .i64 n)), .one (.c (.fn F []))] [.row v ((isort c xs).map gC) 1] (.tup []) := by
  refine run_of_aw tab_ok Tryz.func208 rfl rfl Tryz.ntmps208 (by simp) ?_
  simp only [argA]
  repeat' (first | refine st_nil ?_ | (refine st_pop rfl rfl rfl rfl ?_ ?_; · exact ok_) | (refine st_lop rfl rfl rfl rfl ?_ ?_; · exact ok_) | (refine st_store rfl rfl rfl ?_ ?_; · exact ok_) | (refine st_lit rfl rfl rfl rfl ?_ ?_; · exact ok_) | refine st_skip rfl rfl rfl ?_ | refine st_skip0 rfl rfl ?_ | (refine st_if rfl (fun hb => ?_) (fun hb => ?_) <;> (first | exact no_ hb | rw [hb])) | refine aw_seq ?_ | refine aw_region tab_ok _ rfl ?_ | refine aw_drawn2 tabS_ok _ rfl mixed (by decide +kernel) ?_ | (refine aw_cond rfl (fun hb => ?_) (fun hb => ?_) <;> (try exact no_ hb)) | refine aw_block ?_ | refine aw_exit ?_ | refine aw_ret ?_ | refine aw_skip ?_)
  refine aw_loop (fun i : Nat => [(0, .one (.sl 0 v 0 n)), (1, .one (.c (.int .i64 0))), (2, .one (.c (.int .i64 n))), (3, .one (.c (.fn F []))), (8, .one (.c (.int .i64 i)))]) (fun i => [.row v ((isort c (xs.take i) ++ xs.drop i).map gC) 1]) (fun i => 1 ≤ i ∧ (i ≤ n ∨ i = 1)) (fun i => n - i) 1 ⟨by omega, .inr rfl⟩ (fun _ _ => Nat.le_refl _)
    (fits_mk ⟨rfl, rfl, rfl, rfl, rfl, trivial⟩ [] ?_ ⟨(by show 0 < 1; omega), trivial, trivial, trivial, trivial, trivial⟩ ⟨rowC_below _ _ _ _, trivial⟩) ?_
  · match xs with
    | [] => rfl
    | x :: xs => rfl
  rintro i ⟨hi1, hi⟩
  by_cases hlt : i < n
  · obtain ⟨x, hx⟩ := get_of_lt (show i < xs.length by omega)
    have hAl : (isort c (xs.take i)).length = i := by rw [isort_len, List.length_take]; omega
    have hAm : ∀ y ∈ isort c (xs.take i), y ∈ xs := fun y hy => List.mem_of_mem_take (isort_mem hy)
    have hxm : x ∈ xs := List.mem_of_getElem? hx
    have hnext : isort c (xs.take (i + 1)) = insR c (isort c (xs.take i)) x := by rw [take_succ hx, isort_snoc]
    have hdrop : xs.drop i = x :: xs.drop (i + 1) := by obtain ⟨h, e⟩ := List.getElem?_eq_some_iff.1 hx; rw [List.drop_eq_getElem_cons h, e]
    have hstart : isort c (xs.take i) ++ xs.drop i = Wx (isort c (xs.take i)) x i (xs.drop (i + 1)) := by
      have h1 : (isort c (xs.take i)).take i = isort c (xs.take i) := List.take_of_length_le (by omega)
      have h2 : (isort c (xs.take i)).drop i = [] := List.drop_of_length_le (by omega)
      unfold Wx; rw [h1, h2, hdrop]; rfl
    have hrl : (xs.drop (i + 1)).length = n - (i + 1) := by rw [List.length_drop, hn]
    rw [hstart]
    generalize isort c (xs.take i) = A at hAl hAm hnext
    generalize hrest : xs.drop (i + 1) = rest at hrl
    repeat' (first | refine st_nil ?_ | (refine st_pop rfl rfl rfl rfl ?_ ?_; · exact ok_) | (refine st_lop rfl rfl rfl rfl ?_ ?_; · exact ok_) | (refine st_store rfl rfl rfl ?_ ?_; · exact ok_) | (refine st_lit rfl rfl rfl rfl ?_ ?_; · exact ok_) | refine st_skip rfl rfl rfl ?_ | refine st_skip0 rfl rfl ?_ | (refine st_if rfl (fun hb => ?_) (fun hb => ?_) <;> (first | exact no_ hb | rw [hb])) | refine aw_seq ?_ | refine aw_region tab_ok _ rfl ?_ | refine aw_drawn2 tabS_ok _ rfl mixed (by decide +kernel) ?_ | (refine aw_cond rfl (fun hb => ?_) (fun hb => ?_) <;> (try exact no_ hb)) | refine aw_block ?_ | refine aw_exit ?_ | refine aw_ret ?_ | refine aw_skip ?_)
    refine aw_loop (fun j : Nat => [(0, .one (.sl 0 v 0 n)), (1, .one (.c (.int .i64 0))), (2, .one (.c (.int .i64 n))), (3, .one (.c (.fn F []))), (8, .one (.c (.int .i64 i))), (9, .one (.c (.int .i64 j)))]) (fun j => [.row v ((Wx A x j rest).map gC) 1]) (fun j => j ≤ i ∧ posF c A x i = posF c A x j) (fun j => j) i ⟨by omega, rfl⟩ (fun _ _ => Nat.le_refl _)
      (fits_mk ⟨rfl, rfl, rfl, rfl, rfl, rfl, trivial⟩ [] rfl ⟨(by show 0 < 1; omega), trivial, trivial, trivial, trivial, trivial, trivial⟩ ⟨rowC_below _ _ _ _, trivial⟩) ?_
    rintro j ⟨hj, hpos⟩
    match j, hj, hpos with
    | 0, hj, hpos =>
      repeat' (first | refine st_nil ?_ | (refine st_pop rfl rfl rfl rfl ?_ ?_; · exact ok_) | (refine st_lop rfl rfl rfl rfl ?_ ?_; · exact ok_) | (refine st_store rfl rfl rfl ?_ ?_; · exact ok_) | (refine st_lit rfl rfl rfl rfl ?_ ?_; · exact ok_) | refine st_skip rfl rfl rfl ?_ | refine st_skip0 rfl rfl ?_ | (refine st_if rfl (fun hb => ?_) (fun hb => ?_) <;> (first | exact no_ hb | rw [hb])) | refine aw_seq ?_ | refine aw_region tab_ok _ rfl ?_ | refine aw_drawn2 tabS_ok _ rfl mixed (by decide +kernel) ?_ | (refine aw_cond rfl (fun hb => ?_) (fun hb => ?_) <;> (try exact no_ hb)) | refine aw_block ?_ | refine aw_exit ?_ | refine aw_ret ?_ | refine aw_skip ?_)
      all_goals exact ⟨i + 1, ⟨by omega, .inl (by omega)⟩, by omega, fits_mk ⟨rfl, rfl, rfl, rfl, slot_int (wrap_eq (by omega) (by omega)), trivial⟩ [] (by rw [hnext, hrest, insR_W, hAl, hpos]; rfl) ⟨(by show 0 < 1; omega), trivial, trivial, trivial, trivial, trivial⟩ ⟨rowC_below _ _ _ _, trivial⟩⟩

    | j + 1, hj, hpos =>
      obtain ⟨y, hy⟩ := get_of_lt (show j < A.length by omega)
      have hw : IntKind.i64.wrap (((j + 1 : Nat) : Int) - 1) = ((j : Nat) : Int) := wrap_eq (by omega) (by omega)
      have hg1 : ((Wx A x (j + 1) rest).map gC)[j + 1]? = some [.c x] := by rw [List.getElem?_map, Wx_get (by omega)]; rfl
      have hg2 : ((Wx A x (j + 1) rest).map gC)[j]? = some [.c y] := by rw [List.getElem?_map, Wx_get1 hy]; rfl
      have hpj : posF c A x (j + 1) = if c x y < 0 then posF c A x j else j + 1 := by simp only [posF, hy]
      have e1 : 0 + ((j + 1 : Nat) : Int).toNat = j + 1 := by simp
      have e2 : 0 + ((j : Nat) : Int).toNat = j := by simp
      repeat' (first | refine st_nil ?_ | (refine st_ldr rfl rfl rfl rfl rfl rfl rfl (e := [.c x]) (by simpa using hg1) rfl ?_) | (refine st_ldr rfl rfl rfl rfl rfl rfl rfl (e := [.c y]) (by rw [hw]; simpa using hg2) rfl ?_) | (refine st_str rfl rfl rfl rfl rfl rfl (e := [.c x]) (by simpa using hg1) ⟨Nat.le_refl _, rfl⟩ rfl ?_) | (refine st_str rfl rfl rfl rfl rfl rfl (e := [.c y]) (by rw [hw, e1, e2, List.getElem?_set_ne (by omega)]; exact hg2) ⟨Nat.le_refl _, rfl⟩ rfl ?_) | (refine st_pop rfl rfl rfl rfl ?_ ?_; · (repeat' (first | exact trivial | rfl | exact Nat.le_of_ble_eq_true rfl | omega | (rw [hw]; omega) | apply And.intro))) | (refine st_lop rfl rfl rfl rfl ?_ ?_; · (repeat' (first | exact trivial | rfl | exact Nat.le_of_ble_eq_true rfl | omega | (rw [hw]; omega) | apply And.intro))) | (refine st_store rfl rfl rfl ?_ ?_; · (repeat' (first | exact trivial | rfl | exact Nat.le_of_ble_eq_true rfl | omega | (rw [hw]; omega) | apply And.intro))) | (refine st_lit rfl rfl rfl rfl ?_ ?_; · (repeat' (first | exact trivial | rfl | exact Nat.le_of_ble_eq_true rfl | omega | (rw [hw]; omega) | apply And.intro))) | refine st_skip rfl rfl rfl ?_ | refine st_skip0 rfl rfl ?_ | refine st_call rfl rfl rfl rfl (hcmp x y hxm (hAm y (List.mem_of_getElem? hy))) rfl ?_ | (refine st_if rfl (fun hb => ?_) (fun hb => ?_) <;> (first | exact no_ hb | rw [hb])) | refine aw_seq ?_ | refine aw_region tab_ok _ rfl ?_ | refine aw_drawn2 tabS_ok _ rfl mixed (by decide +kernel) ?_ | (refine aw_cond rfl (fun hb => ?_) (fun hb => ?_) <;> (try exact no_ hb)) | refine aw_block ?_ | refine aw_exit ?_ | refine aw_ret ?_ | refine aw_skip ?_)
      · have hlt0 : c x y < 0 := of_decide_eq_true hb
        rw [if_pos hlt0] at hpj
        exact ⟨j, ⟨by omega, hpos.trans hpj⟩, by omega, fits_mk ⟨rfl, rfl, rfl, rfl, rfl, slot_int hw, trivial⟩ [] (by rw [← Wx_swap hy, hw, e1, e2]; rfl) ⟨(by show 0 < 1; omega), trivial, trivial, trivial, trivial, trivial, trivial⟩ ⟨rowC_below _ _ _ _, trivial⟩⟩
      · have hge : ¬ c x y < 0 := of_decide_eq_false hb
        rw [if_neg hge] at hpj
        exact ⟨i + 1, ⟨by omega, .inl (by omega)⟩, by omega, fits_mk ⟨rfl, rfl, rfl, rfl, slot_int (wrap_eq (by omega) (by omega)), trivial⟩ [] (by rw [hnext, hrest, insR_W, hAl, hpos.trans hpj]; rfl) ⟨(by show 0 < 1; omega), trivial, trivial, trivial, trivial, trivial⟩ ⟨rowC_below _ _ _ _, trivial⟩⟩
  · have hi2 : n ≤ i := by omega
    repeat' (first | refine st_nil ?_ | (refine st_pop rfl rfl rfl rfl ?_ ?_; · exact ok_) | (refine st_lop rfl rfl rfl rfl ?_ ?_; · exact ok_) | (refine st_store rfl rfl rfl ?_ ?_; · exact ok_) | (refine st_lit rfl rfl rfl rfl ?_ ?_; · exact ok_) | refine st_skip rfl rfl rfl ?_ | refine st_skip0 rfl rfl ?_ | (refine st_if rfl (fun hb => ?_) (fun hb => ?_) <;> (first | exact no_ hb | rw [hb])) | refine aw_seq ?_ | refine aw_region tab_ok _ rfl ?_ | refine aw_drawn2 tabS_ok _ rfl mixed (by decide +kernel) ?_ | (refine aw_cond rfl (fun hb => ?_) (fun hb => ?_) <;> (try exact no_ hb)) | refine aw_block ?_ | refine aw_exit ?_ | refine aw_ret ?_ | refine aw_skip ?_)
    have htk : xs.take i = xs := List.take_of_length_le (by omega)
    have hdr : xs.drop i = [] := List.drop_of_length_le (by omega)
    exact ⟨.inl rfl, ⟨.inr ⟨.tup [], ⟨trivial, rfl⟩, rfl⟩, ⟨[], by rw [htk, hdr, List.append_nil, List.append_nil]⟩, by simp, mem_below ⟨rowC_below _ _ _ _, trivial⟩, trivial⟩⟩
end Go.Proofs.YtfpbmfalamappaaGreatDoor

namespace Go.Proofs.YtfpbmfalamappaaGreatDoor
open Go.RowKit Go.MapKept
set_option maxRecDepth 100000
theorem row_ren (σ : List Nat) (v k : Nat) (l : List AC) : (Ob.row v (l.map gC) k).ren σ = Ob.row v (l.map gC) k := by
  simp only [Ob.ren, List.map_map]; rfl
theorem rf1 {L : List Ob} {v k : Nat} {l : List AC} {x : AV} {xs : List AV} (h0 : L[0]? = some (Ob.row v (l.map gC) k)) (hx : ∀ y ∈ x :: xs, y.below 1) : RunFits [0] [Ob.row v (l.map gC) k] (x :: xs) L := by
  refine ⟨rfl, by simp, fun i y hy => ?_, mem_below ⟨rowC_below _ _ _ _, trivial⟩, hx⟩
  match i, hy with
  | 0, hy => simp at hy; subst hy; rw [row_ren]; exact h0
  | i + 1, hy => simp at hy
theorem j1 {L L' : List Ob} {v k : Nat} {l : List AC} (h : L.set 0 (Ob.row v (l.map gC) k) = L') : joinL [0] L [Ob.row v (l.map gC) k] = L' := by
  subst h
  simp [joinL, join, setAll, outIds, newIds, row_ren]
theorem args_below {n : Nat} {l : List AV} (h : belowT n (l.map fun x => (0, x))) : ∀ y ∈ l, y.below n := by
  induction l with
  | nil => intro y hy; cases hy
  | cons x l ih =>
    intro y hy
    rcases List.mem_cons.1 hy with rfl | hy
    · exact h.1
    · exact ih h.2 y hy
theorem stable_run (F : FuncId) (c : AC → AC → Int) (v : Nat) (xs : List AC) (n : Nat) (hn : xs.length = n) (hn2 : n ≤ 19) (hcmp : ∀ x y, x ∈ xs → y ∈ xs → Pure Tryz.prog F [.one x, .one y] (vInt (c x y))) : Run Tryz.prog 198 [.row v (xs.map gC) 1] [.one (.sl 0 v 0 n), .one (.c (.int .i64 n)), .one (.c (.fn F []))] [.row v ((isort c xs).map gC) 1] (.tup []) := by
  refine run_of_aw tab_ok Tryz.func198 rfl rfl Tryz.ntmps198 (by simp) ?_
  simp only [argA]
  repeat' (first | refine st_nil ?_ | (refine st_pop rfl rfl rfl rfl ?_ ?_; · exact ok_) | (refine st_lop rfl rfl rfl rfl ?_ ?_; · exact ok_) | (refine st_store rfl rfl rfl ?_ ?_; · exact ok_) | (refine st_lit rfl rfl rfl rfl ?_ ?_; · exact ok_) | refine st_skip rfl rfl rfl ?_ | refine st_skip0 rfl rfl ?_ | (refine st_if rfl (fun hb => ?_) (fun hb => ?_) <;> (first | exact no_ hb | rw [hb])) | refine aw_seq ?_ | refine aw_region tab_ok _ rfl ?_ | refine aw_drawn2 tabS_ok _ rfl mixed (by decide +kernel) ?_ | (refine aw_cond rfl (fun hb => ?_) (fun hb => ?_) <;> (try exact no_ hb)) | refine aw_block ?_ | refine aw_exit ?_ | refine aw_ret ?_ | refine aw_skip ?_)
  refine aw_loop (fun _ : Unit => [(0, .one (.sl 0 v 0 n)), (1, .one (.c (.int .i64 n))), (2, .one (.c (.fn F []))), (6, .one (.c (.int .i64 20))), (7, .one (.c (.int .i64 0))), (8, .one (.c (.int .i64 20)))]) (fun _ => [.row v (xs.map gC) 1]) (fun _ => True) (fun _ => 0) () trivial (fun _ _ => Nat.le_refl _)
    (fits_mk ⟨rfl, rfl, rfl, rfl, rfl, rfl, trivial⟩ [] rfl ⟨(by show 0 < 1; omega), trivial, trivial, trivial, trivial, trivial, trivial⟩ ⟨rowC_below _ _ _ _, trivial⟩) ?_
  intro _ _
  repeat' (first | refine st_nil ?_ | (refine st_pop rfl rfl rfl rfl ?_ ?_; · exact ok_) | (refine st_lop rfl rfl rfl rfl ?_ ?_; · exact ok_) | (refine st_store rfl rfl rfl ?_ ?_; · exact ok_) | (refine st_lit rfl rfl rfl rfl ?_ ?_; · exact ok_) | refine st_skip rfl rfl rfl ?_ | refine st_skip0 rfl rfl ?_ | (refine st_run [0] rfl rfl rfl rfl (isort_run F c v xs n hn (by omega) hcmp) rfl (rf1 rfl (args_below ⟨(by show 0 < 1; omega), trivial, trivial, trivial, trivial⟩)) rfl (j1 (L' := [.row v ((isort c xs).map gC) 1]) rfl) ?_) | (refine st_if rfl (fun hb => ?_) (fun hb => ?_) <;> (first | exact no_ hb | rw [hb])) | refine aw_seq ?_ | refine aw_region tab_ok _ rfl ?_ | refine aw_drawn2 tabS_ok _ rfl mixed (by decide +kernel) ?_ | (refine aw_cond rfl (fun hb => ?_) (fun hb => ?_) <;> (try exact no_ hb)) | refine aw_block ?_ | refine aw_exit ?_ | refine aw_ret ?_ | refine aw_skip ?_)
  refine aw_loop (fun _ : Unit => [(0, .one (.sl 0 v 0 n)), (1, .one (.c (.int .i64 n))), (2, .one (.c (.fn F []))), (6, .one (.c (.int .i64 20))), (7, .one (.c (.int .i64 0)))]) (fun _ => [.row v ((isort c xs).map gC) 1]) (fun _ => True) (fun _ => 0) () trivial (fun _ _ => Nat.le_refl _)
    (fits_mk ⟨rfl, rfl, rfl, rfl, rfl, trivial⟩ [] rfl ⟨(by show 0 < 1; omega), trivial, trivial, trivial, trivial, trivial⟩ ⟨rowC_below _ _ _ _, trivial⟩) ?_
  intro _ _
  repeat' (first | refine st_nil ?_ | (refine st_pop rfl rfl rfl rfl ?_ ?_; · exact ok_) | (refine st_lop rfl rfl rfl rfl ?_ ?_; · exact ok_) | (refine st_store rfl rfl rfl ?_ ?_; · exact ok_) | (refine st_lit rfl rfl rfl rfl ?_ ?_; · exact ok_) | refine st_skip rfl rfl rfl ?_ | refine st_skip0 rfl rfl ?_ | (refine st_if rfl (fun hb => ?_) (fun hb => ?_) <;> (first | exact no_ hb | rw [hb])) | refine aw_seq ?_ | refine aw_region tab_ok _ rfl ?_ | refine aw_drawn2 tabS_ok _ rfl mixed (by decide +kernel) ?_ | (refine aw_cond rfl (fun hb => ?_) (fun hb => ?_) <;> (try exact no_ hb)) | refine aw_block ?_ | refine aw_exit ?_ | refine aw_ret ?_ | refine aw_skip ?_)
  all_goals exact ⟨.inl rfl, ⟨.inr ⟨.tup [], ⟨trivial, rfl⟩, rfl⟩, ⟨[], rfl⟩, by simp, mem_below ⟨rowC_below _ _ _ _, trivial⟩, trivial⟩⟩
theorem sortS_run (F : FuncId) (c : AC → AC → Int) (v : Nat) (xs : List AC) (n : Nat) (hn : xs.length = n) (hn2 : n ≤ 19) (hcmp : ∀ x y, x ∈ xs → y ∈ xs → Pure Tryz.prog F [.one x, .one y] (vInt (c x y))) : Run Tryz.prog 173 [.row v (xs.map gC) 1] [.one (.sl 0 v 0 n), .one (.c (.fn F []))] [.row v ((isort c xs).map gC) 1] (.tup []) := by
  refine run_of_aw tab_ok Tryz.func173 rfl rfl Tryz.ntmps173 (by simp) ?_
  simp only [argA]
  repeat' (first | refine st_nil ?_ | (refine st_pop rfl rfl rfl rfl ?_ ?_; · exact ok_) | (refine st_lop rfl rfl rfl rfl ?_ ?_; · exact ok_) | (refine st_store rfl rfl rfl ?_ ?_; · exact ok_) | (refine st_lit rfl rfl rfl rfl ?_ ?_; · exact ok_) | refine st_skip rfl rfl rfl ?_ | refine st_skip0 rfl rfl ?_ | (refine st_run [0] rfl rfl rfl rfl (stable_run F c v xs n hn hn2 hcmp) rfl (rf1 rfl (args_below ⟨(by show 0 < 1; omega), trivial, trivial, trivial⟩)) rfl (j1 (L' := [.row v ((isort c xs).map gC) 1]) rfl) ?_) | (refine st_if rfl (fun hb => ?_) (fun hb => ?_) <;> (first | exact no_ hb | rw [hb])) | refine aw_seq ?_ | refine aw_region tab_ok _ rfl ?_ | refine aw_drawn2 tabS_ok _ rfl mixed (by decide +kernel) ?_ | (refine aw_cond rfl (fun hb => ?_) (fun hb => ?_) <;> (try exact no_ hb)) | refine aw_block ?_ | refine aw_exit ?_ | refine aw_ret ?_ | refine aw_skip ?_)
  all_goals exact ⟨.inl rfl, ⟨.inr ⟨.tup [], ⟨trivial, rfl⟩, rfl⟩, ⟨[], rfl⟩, by simp, mem_below ⟨rowC_below _ _ _ _, trivial⟩, trivial⟩⟩
def vOf : List AC → Val
  | [.int _ k, .int _ n, .str t] => ⟨k, n, t⟩
  | _ => ⟨0, 0, ⟨#[]⟩⟩
def tRows (l : List (List Val)) : AC := .lst (l.map fun r => [tRow r])
theorem clone_pure (r : List Val) (h0 : r ≠ []) (hr : r.length ≤ 1000000) : Pure Tryz.prog 172 [.one (tRow r)] (.val (.one (tRow r))) := by
  refine pure_of_aw tab_ok Tryz.func172 rfl rfl Tryz.ntmps172 (by simp) ?_
  simp only [argT, PV.av, List.map_cons, List.map_nil]
  obtain ⟨x, r, rfl⟩ : ∃ x r', r = x :: r' := by cases r with | nil => exact absurd rfl h0 | cons x r => exact ⟨x, r, rfl⟩
  have hw := cV_wide (x :: r)
  have hlen : ((x :: r).map cV).length = r.length + 1 := by simp
  simp only [List.length_cons] at hr
  repeat' (first | refine st_nil ?_ | (refine st_pop rfl rfl rfl rfl ?_ ?_; · (repeat' (first | exact trivial | rfl | exact Nat.le_of_ble_eq_true rfl | omega | exact hw | (rw [hlen]; omega) | apply And.intro))) | (refine st_lop rfl rfl rfl rfl ?_ ?_; · (repeat' (first | exact trivial | rfl | exact Nat.le_of_ble_eq_true rfl | omega | exact hw | (rw [hlen]; omega) | apply And.intro))) | (refine st_store rfl rfl rfl ?_ ?_; · (repeat' (first | exact trivial | rfl | exact Nat.le_of_ble_eq_true rfl | omega | exact hw | (rw [hlen]; omega) | apply And.intro))) | (refine st_lit rfl rfl rfl rfl ?_ ?_; · (repeat' (first | exact trivial | rfl | exact Nat.le_of_ble_eq_true rfl | omega | exact hw | (rw [hlen]; omega) | apply And.intro))) | refine st_skip rfl rfl rfl ?_ | refine st_skip0 rfl rfl ?_ | (refine st_if rfl (fun hb => ?_) (fun hb => ?_) <;> (first | exact no_ hb | rw [hb])) | refine aw_seq ?_ | refine aw_region tab_ok _ rfl ?_ | refine aw_drawn2 tabS_ok _ rfl mixed (by decide +kernel) ?_ | (refine aw_cond rfl (fun hb => ?_) (fun hb => ?_) <;> (try exact no_ hb)) | refine aw_block ?_ | refine aw_exit ?_ | refine aw_ret ?_ | refine aw_skip ?_ | (refine st_sopq rfl rfl rfl rfl rfl (sop_notNil rfl rfl (tab_ok.kind 49 _ rfl)) ?_))
  all_goals exact end_ret (res_of rfl (by trivial) rfl)
theorem normR_gC (l : List AC) : normR (l.map gC) = some (l.map fun x => [x]) := by
  have := normR_c (l.map fun x => [x])
  rw [List.map_map] at this
  exact this
theorem rows_wide (l : List (List Val)) : ∀ e ∈ l.map (fun r => [tRow r]), e.length = 1 := by intro e he; obtain ⟨x, _, rfl⟩ := List.mem_map.1 he; rfl
set_option maxHeartbeats 2000000 in
theorem sorted_pure (F : FuncId) (c : AC → AC → Int) (l : List (List Val)) (hl : l.length ≤ 19) (hr : ∀ r ∈ l, r ≠ [] ∧ r.length ≤ 1000000) (hcmp : ∀ x y, x ∈ l.map tRow → y ∈ l.map tRow → Pure Tryz.prog F [.one x, .one y] (vInt (c x y))) : Pure Tryz.prog 133 [.one (tRows l), .one (.fn F [])] (.val (.one (.lst ((isort c (l.map tRow)).map fun x => [x])))) := by
  refine pure_of_aw tab_ok Tryz.func133 rfl rfl Tryz.ntmps133 (by simp) ?_
  simp only [argT, PV.av, List.map_cons, List.map_nil]
  obtain ⟨n, hn⟩ : ∃ n, l.length = n := ⟨_, rfl⟩
  have hml : (l.map fun r => [tRow r]).length = n := by simp [hn]
  repeat' (first | refine st_nil ?_ | (refine st_sop rfl rfl rfl rfl rfl (sop_makeRow tab_ok (k := 1) (by_ := 24) rfl rfl rfl (by decide) rfl rfl rfl (by decide) (by omega) (by rw [hml]; omega) (by rw [hml]; omega)) ?_) | (refine st_pop rfl rfl rfl rfl ?_ ?_; · exact ok_) | (refine st_lop rfl rfl rfl rfl ?_ ?_; · exact ok_) | (refine st_store rfl rfl rfl ?_ ?_; · exact ok_) | (refine st_lit rfl rfl rfl rfl ?_ ?_; · exact ok_) | refine st_skip rfl rfl rfl ?_ | refine st_skip0 rfl rfl ?_ | (refine st_if rfl (fun hb => ?_) (fun hb => ?_) <;> (first | exact no_ hb | rw [hb])) | refine aw_seq ?_ | refine aw_region tab_ok _ rfl ?_ | refine aw_drawn2 tabS_ok _ rfl mixed (by decide +kernel) ?_ | (refine aw_cond rfl (fun hb => ?_) (fun hb => ?_) <;> (try exact no_ hb)) | refine aw_block ?_ | refine aw_exit ?_ | refine aw_ret ?_ | refine aw_skip ?_)
  refine aw_loop (fun i : Nat => [(0, .one (.c (tRows l))), (1, .one (.c (.fn F []))), (5, .one (.sl 0 (49 + 65536 + 65536 * i) 0 i)), (11, .one (.c (tRows l))), (12, .one (.c (.int .i64 n))), (13, .one (.c (.int .i64 i)))]) (fun i => [.row (49 + 65536 + 65536 * i) (((l.take i).map tRow).map gC) 1]) (fun i => i ≤ n) (fun i => n - i) 0 (by omega) (fun _ _ => Nat.zero_le _)
    (fits_mk ⟨rfl, rfl, rfl, rfl, slot_int (by simp [hn]), rfl, trivial⟩ [] rfl ⟨trivial, trivial, (by show 0 < 1; omega), trivial, trivial, trivial, trivial⟩ ⟨rowC_below _ _ _ _, trivial⟩) ?_
  intro i hi
  by_cases hlt : i < n
  · obtain ⟨r, hx⟩ := get_of_lt (show i < l.length by omega)
    have hcl := clone_pure r (hr r (List.mem_of_getElem? hx)).1 (hr r (List.mem_of_getElem? hx)).2
    have hlen : (((l.take i).map tRow).map gC).length = i := by simp; omega
    have hnx : ((l.take (i + 1)).map tRow).map gC = ((l.take i).map tRow).map gC ++ [gC (tRow r)] := by rw [take_succ hx]; simp
    repeat' (first | refine st_nil ?_ | (refine st_sop rfl rfl rfl rfl rfl (sop_app tab_ok (k := 1) (by_ := 24) (xs := [gC (tRow r)]) rfl rfl rfl rfl ⟨rfl, _, rfl, by intro e he; simp at he; subst he; rfl⟩ rfl (by omega) rfl rfl rfl (by decide) hlen (by show (i + 1) * 24 ≤ _; omega) (by show i + 1 ≤ _; omega)) ?_) | (refine st_pop rfl rfl rfl rfl ?_ ?_; · (repeat' (first | exact trivial | rfl | exact Nat.le_of_ble_eq_true rfl | omega | (intro e he; simp at he; subst he; rfl) | apply And.intro))) | (refine st_idx rfl rfl rfl rfl rfl rfl rfl rfl (idx_map hx) ?_ ?_; · exact ⟨by omega, rfl⟩) | (refine st_lop rfl rfl rfl rfl ?_ ?_; · (repeat' (first | exact trivial | rfl | exact Nat.le_of_ble_eq_true rfl | omega | (intro e he; simp at he; subst he; rfl) | apply And.intro))) | (refine st_store rfl rfl rfl ?_ ?_; · (repeat' (first | exact trivial | rfl | exact Nat.le_of_ble_eq_true rfl | omega | (intro e he; simp at he; subst he; rfl) | apply And.intro))) | (refine st_lit rfl rfl rfl rfl ?_ ?_; · (repeat' (first | exact trivial | rfl | exact Nat.le_of_ble_eq_true rfl | omega | (intro e he; simp at he; subst he; rfl) | apply And.intro))) | refine st_skip rfl rfl rfl ?_ | refine st_skip0 rfl rfl ?_ | refine st_call rfl rfl rfl rfl hcl rfl ?_ | (refine st_if rfl (fun hb => ?_) (fun hb => ?_) <;> (first | exact no_ hb | rw [hb])) | refine aw_seq ?_ | refine aw_region tab_ok _ rfl ?_ | refine aw_drawn2 tabS_ok _ rfl mixed (by decide +kernel) ?_ | (refine aw_cond rfl (fun hb => ?_) (fun hb => ?_) <;> (try exact no_ hb)) | refine aw_block ?_ | refine aw_exit ?_ | refine aw_ret ?_ | refine aw_skip ?_)
    have hv : 49 + 65536 + 65536 * (i + 1) = 49 + 65536 + 65536 * i + 65536 := by omega
    exact ⟨i + 1, by omega, by omega, fits_mk ⟨rfl, rfl, (by rw [hv]; rfl), rfl, rfl, slot_int (wrap_eq (by omega) (by omega)), trivial⟩ [] (by rw [hv, hnx]; rfl) ⟨trivial, trivial, (by show 0 < 1; omega), trivial, trivial, trivial, trivial⟩ ⟨rowC_below _ _ _ _, trivial⟩⟩
  · have hi2 : i = n := by omega
    subst hi2
    have htk : l.take i = l := by rw [← hn, List.take_length]
    rw [htk]
    have hfr := normR_gC (isort c (l.map tRow))
    have hil : ((isort c (l.map tRow)).map fun x => [x]).length = i := by rw [List.length_map, isort_len, List.length_map, hn]
    repeat' (first | refine st_nil ?_ | (refine aw_freeze1 0 5 rfl hfr rfl hil ?_) | (refine st_pop rfl rfl rfl rfl ?_ ?_; · exact ok_) | (refine st_lop rfl rfl rfl rfl ?_ ?_; · exact ok_) | (refine st_store rfl rfl rfl ?_ ?_; · exact ok_) | (refine st_lit rfl rfl rfl rfl ?_ ?_; · exact ok_) | refine st_skip rfl rfl rfl ?_ | refine st_skip0 rfl rfl ?_ | (refine st_run [0] rfl rfl rfl rfl (sortS_run F c (49 + 65536 + 65536 * i) (l.map tRow) i (by simp [hn]) (by omega) hcmp) rfl (rf1 rfl (args_below ⟨(by show 0 < 1; omega), trivial, trivial⟩)) rfl (j1 (L' := [.row (49 + 65536 + 65536 * i) ((isort c (l.map tRow)).map gC) 1]) rfl) ?_) | (refine st_if rfl (fun hb => ?_) (fun hb => ?_) <;> (first | exact no_ hb | rw [hb])) | refine aw_seq ?_ | refine aw_region tab_ok _ rfl ?_ | refine aw_drawn2 tabS_ok _ rfl mixed (by decide +kernel) ?_ | (refine aw_cond rfl (fun hb => ?_) (fun hb => ?_) <;> (try exact no_ hb)) | refine aw_block ?_ | refine aw_exit ?_ | refine aw_ret ?_ | refine aw_skip ?_)
    exact end_ret (res_of rfl (by trivial) rfl)
def tcmp : AC → AC → Int
  | .lst a, .lst b => rcmp (a.map vOf) (b.map vOf)
  | _, _ => 0
def sortR (l : List (List Val)) : AC := .lst ((isort tcmp (l.map tRow)).map fun x => [x])
theorem vOf_cV (l : List Val) : (l.map cV).map vOf = l := by
  rw [List.map_map]
  have : vOf ∘ cV = id := rfl
  rw [this, List.map_id]
theorem tcmp_pure (l : List (List Val)) (hr : ∀ r ∈ l, r ≠ [] ∧ r.length ≤ 1000000) : ∀ x y, x ∈ l.map tRow → y ∈ l.map tRow → Pure Tryz.prog 134 [.one x, .one y] (vInt (tcmp x y)) := by
  intro x y hx hy
  obtain ⟨a, ha, rfl⟩ := List.mem_map.1 hx
  obtain ⟨b, hb, rfl⟩ := List.mem_map.1 hy
  have : tcmp (tRow a) (tRow b) = rcmp a b := by simp only [tcmp, tRow, vOf_cV]
  rw [this]
  exact rcmp_pure a b (hr a ha).2 (hr b hb).2
theorem sort_pure (l : List (List Val)) (hl : l.length ≤ 19) (hr : ∀ r ∈ l, r ≠ [] ∧ r.length ≤ 1000000) : Pure Tryz.prog 97 [.one (tRows l)] (.val (.one (sortR l))) := by
  refine pure_of_aw tab_ok Tryz.func97 rfl rfl Tryz.ntmps97 (by simp) ?_
  simp only [argT, PV.av, List.map_cons, List.map_nil]
  repeat' (first | refine st_nil ?_ | (refine st_pop rfl rfl rfl rfl ?_ ?_; · exact ok_) | (refine st_lop rfl rfl rfl rfl ?_ ?_; · exact ok_) | (refine st_store rfl rfl rfl ?_ ?_; · exact ok_) | (refine st_lit rfl rfl rfl rfl ?_ ?_; · exact ok_) | refine st_skip rfl rfl rfl ?_ | refine st_skip0 rfl rfl ?_ | refine st_call rfl rfl rfl rfl (sorted_pure _ tcmp l hl hr (tcmp_pure l hr)) rfl ?_ | (refine st_if rfl (fun hb => ?_) (fun hb => ?_) <;> (first | exact no_ hb | rw [hb])) | refine aw_seq ?_ | refine aw_region tab_ok _ rfl ?_ | refine aw_drawn2 tabS_ok _ rfl mixed (by decide +kernel) ?_ | (refine aw_cond rfl (fun hb => ?_) (fun hb => ?_) <;> (try exact no_ hb)) | refine aw_block ?_ | refine aw_exit ?_ | refine aw_ret ?_ | refine aw_skip ?_)
  exact end_ret (res_of rfl (by trivial) rfl)
theorem bag_pure (k : List Int) (l : List (List Val)) (hk : k.length ≤ 1000000) (hl : l.length ≤ 19) (hr : ∀ r ∈ l, r ≠ [] ∧ r.length ≤ 1000000) : Pure Tryz.prog 58 [.one (tInts k), .one (tRows l)] (.val (.agg [tInts k, sortR l])) := by
  refine pure_of_aw tab_ok Tryz.func58 rfl rfl Tryz.ntmps58 (by simp) ?_
  simp only [argT, PV.av, List.map_cons, List.map_nil]
  repeat' (first | refine st_nil ?_ | (refine st_pop rfl rfl rfl rfl ?_ ?_; · (repeat' (first | exact trivial | rfl | exact Nat.le_of_ble_eq_true rfl | omega | (intro e he; simp only [List.mem_map] at he; obtain ⟨x, _, rfl⟩ := he; rfl) | (simp only [List.length_map]; omega) | apply And.intro))) | (refine st_lop rfl rfl rfl rfl ?_ ?_; · (repeat' (first | exact trivial | rfl | exact Nat.le_of_ble_eq_true rfl | omega | (intro e he; simp only [List.mem_map] at he; obtain ⟨x, _, rfl⟩ := he; rfl) | (simp only [List.length_map]; omega) | apply And.intro))) | (refine st_store rfl rfl rfl ?_ ?_; · (repeat' (first | exact trivial | rfl | exact Nat.le_of_ble_eq_true rfl | omega | (intro e he; simp only [List.mem_map] at he; obtain ⟨x, _, rfl⟩ := he; rfl) | (simp only [List.length_map]; omega) | apply And.intro))) | (refine st_lit rfl rfl rfl rfl ?_ ?_; · (repeat' (first | exact trivial | rfl | exact Nat.le_of_ble_eq_true rfl | omega | (intro e he; simp only [List.mem_map] at he; obtain ⟨x, _, rfl⟩ := he; rfl) | (simp only [List.length_map]; omega) | apply And.intro))) | refine st_skip rfl rfl rfl ?_ | refine st_skip0 rfl rfl ?_ | refine st_call rfl rfl rfl rfl (sort_pure l hl hr) rfl ?_ | (refine st_if rfl (fun hb => ?_) (fun hb => ?_) <;> (first | exact no_ hb | rw [hb])) | refine aw_seq ?_ | refine aw_region tab_ok _ rfl ?_ | refine aw_drawn2 tabS_ok _ rfl mixed (by decide +kernel) ?_ | (refine aw_cond rfl (fun hb => ?_) (fun hb => ?_) <;> (try exact no_ hb)) | refine aw_block ?_ | refine aw_exit ?_ | refine aw_ret ?_ | refine aw_skip ?_)
  all_goals (refine end_ret ?_; refine res_of rfl ⟨Nat.le_refl 2, trivial⟩ rfl)
end Go.Proofs.YtfpbmfalamappaaGreatDoor

namespace Go.Proofs.YtfpbmfalamappaaGreatDoor
open Go.RowKit Go.MapKept
set_option maxRecDepth 100000
def sgn (a b : Bool) : Int := if a then -1 else if b then 1 else 0
def vcmpR (v w : Val) : Int := if v.kind ≠ w.kind then sgn (decide (v.kind < w.kind)) (decide (w.kind < v.kind)) else if v.int ≠ w.int then sgn (decide (v.int < w.int)) (decide (w.int < v.int)) else sgn (Op.bytesLess v.text.toList w.text.toList) (!(Op.bytesLess v.text.toList w.text.toList || v.text.toList == w.text.toList))
def rcmpR : List Val → List Val → Int
  | [], [] => 0
  | [], _ :: _ => -1
  | _ :: _, [] => 1
  | a :: xs, b :: ys => if vcmpR a b ≠ 0 then vcmpR a b else rcmpR xs ys
theorem sgn_t_t : Pure Tryz.prog 175 [.one (.bool true), .one (.bool true)] (vInt (sgn true true)) := by
  refine pure_of_aw tab_ok Tryz.func175 rfl rfl Tryz.ntmps175 (by simp) ?_
  simp only [argT, PV.av, List.map_cons, List.map_nil]
  repeat' (first | refine st_nil ?_ | (refine st_pop rfl rfl rfl rfl ?_ ?_; · exact ok_) | (refine st_lop rfl rfl rfl rfl ?_ ?_; · exact ok_) | (refine st_store rfl rfl rfl ?_ ?_; · exact ok_) | (refine st_lit rfl rfl rfl rfl ?_ ?_; · exact ok_) | refine st_skip rfl rfl rfl ?_ | refine st_skip0 rfl rfl ?_ | (refine st_if rfl (fun hb => ?_) (fun hb => ?_) <;> (first | exact no_ hb | rw [hb])) | refine aw_seq ?_ | refine aw_region tab_ok _ rfl ?_ | refine aw_drawn2 tabS_ok _ rfl mixed (by decide +kernel) ?_ | (refine aw_cond rfl (fun hb => ?_) (fun hb => ?_) <;> (try exact no_ hb)) | refine aw_block ?_ | refine aw_exit ?_ | refine aw_ret ?_ | refine aw_skip ?_)
  all_goals exact end_ret (res_of rfl (by trivial) rfl)
theorem sgn_t_f : Pure Tryz.prog 175 [.one (.bool true), .one (.bool false)] (vInt (sgn true false)) := by
  refine pure_of_aw tab_ok Tryz.func175 rfl rfl Tryz.ntmps175 (by simp) ?_
  simp only [argT, PV.av, List.map_cons, List.map_nil]
  repeat' (first | refine st_nil ?_ | (refine st_pop rfl rfl rfl rfl ?_ ?_; · exact ok_) | (refine st_lop rfl rfl rfl rfl ?_ ?_; · exact ok_) | (refine st_store rfl rfl rfl ?_ ?_; · exact ok_) | (refine st_lit rfl rfl rfl rfl ?_ ?_; · exact ok_) | refine st_skip rfl rfl rfl ?_ | refine st_skip0 rfl rfl ?_ | (refine st_if rfl (fun hb => ?_) (fun hb => ?_) <;> (first | exact no_ hb | rw [hb])) | refine aw_seq ?_ | refine aw_region tab_ok _ rfl ?_ | refine aw_drawn2 tabS_ok _ rfl mixed (by decide +kernel) ?_ | (refine aw_cond rfl (fun hb => ?_) (fun hb => ?_) <;> (try exact no_ hb)) | refine aw_block ?_ | refine aw_exit ?_ | refine aw_ret ?_ | refine aw_skip ?_)
  all_goals exact end_ret (res_of rfl (by trivial) rfl)
theorem sgn_f_t : Pure Tryz.prog 175 [.one (.bool false), .one (.bool true)] (vInt (sgn false true)) := by
  refine pure_of_aw tab_ok Tryz.func175 rfl rfl Tryz.ntmps175 (by simp) ?_
  simp only [argT, PV.av, List.map_cons, List.map_nil]
  repeat' (first | refine st_nil ?_ | (refine st_pop rfl rfl rfl rfl ?_ ?_; · exact ok_) | (refine st_lop rfl rfl rfl rfl ?_ ?_; · exact ok_) | (refine st_store rfl rfl rfl ?_ ?_; · exact ok_) | (refine st_lit rfl rfl rfl rfl ?_ ?_; · exact ok_) | refine st_skip rfl rfl rfl ?_ | refine st_skip0 rfl rfl ?_ | (refine st_if rfl (fun hb => ?_) (fun hb => ?_) <;> (first | exact no_ hb | rw [hb])) | refine aw_seq ?_ | refine aw_region tab_ok _ rfl ?_ | refine aw_drawn2 tabS_ok _ rfl mixed (by decide +kernel) ?_ | (refine aw_cond rfl (fun hb => ?_) (fun hb => ?_) <;> (try exact no_ hb)) | refine aw_block ?_ | refine aw_exit ?_ | refine aw_ret ?_ | refine aw_skip ?_)
  all_goals exact end_ret (res_of rfl (by trivial) rfl)
theorem sgn_f_f : Pure Tryz.prog 175 [.one (.bool false), .one (.bool false)] (vInt (sgn false false)) := by
  refine pure_of_aw tab_ok Tryz.func175 rfl rfl Tryz.ntmps175 (by simp) ?_
  simp only [argT, PV.av, List.map_cons, List.map_nil]
  repeat' (first | refine st_nil ?_ | (refine st_pop rfl rfl rfl rfl ?_ ?_; · exact ok_) | (refine st_lop rfl rfl rfl rfl ?_ ?_; · exact ok_) | (refine st_store rfl rfl rfl ?_ ?_; · exact ok_) | (refine st_lit rfl rfl rfl rfl ?_ ?_; · exact ok_) | refine st_skip rfl rfl rfl ?_ | refine st_skip0 rfl rfl ?_ | (refine st_if rfl (fun hb => ?_) (fun hb => ?_) <;> (first | exact no_ hb | rw [hb])) | refine aw_seq ?_ | refine aw_region tab_ok _ rfl ?_ | refine aw_drawn2 tabS_ok _ rfl mixed (by decide +kernel) ?_ | (refine aw_cond rfl (fun hb => ?_) (fun hb => ?_) <;> (try exact no_ hb)) | refine aw_block ?_ | refine aw_exit ?_ | refine aw_ret ?_ | refine aw_skip ?_)
  all_goals exact end_ret (res_of rfl (by trivial) rfl)
theorem sgn_pure (a b : Bool) : Pure Tryz.prog 175 [.one (.bool a), .one (.bool b)] (vInt (sgn a b)) := by
  cases a <;> cases b
  · exact sgn_f_f
  · exact sgn_f_t
  · exact sgn_t_f
  · exact sgn_t_t
theorem vcmpR_pure (v w : Val) : Pure Tryz.prog 135 [.agg [.int .i64 v.kind, .int .i64 v.int, .str v.text], .agg [.int .i64 w.kind, .int .i64 w.int, .str w.text]] (vInt (vcmpR v w)) := by
  refine pure_of_aw tab_ok Tryz.func135 rfl rfl Tryz.ntmps135 (by simp) ?_
  simp only [argT, PV.av, List.map_cons, List.map_nil]
  repeat' (first | refine st_nil ?_ | (refine st_pop rfl rfl rfl rfl ?_ ?_; · exact ok_) | (refine st_lop rfl rfl rfl rfl ?_ ?_; · exact ok_) | (refine st_store rfl rfl rfl ?_ ?_; · exact ok_) | (refine st_lit rfl rfl rfl rfl ?_ ?_; · exact ok_) | refine st_skip rfl rfl rfl ?_ | refine st_skip0 rfl rfl ?_ | refine st_call rfl rfl rfl rfl (sgn_pure _ _) rfl ?_ | (refine st_if rfl (fun hb => ?_) (fun hb => ?_) <;> (first | exact no_ hb | rw [hb])) | refine aw_seq ?_ | refine aw_region tab_ok _ rfl ?_ | refine aw_drawn2 tabS_ok _ rfl mixed (by decide +kernel) ?_ | (refine aw_cond rfl (fun hb => ?_) (fun hb => ?_) <;> (try exact no_ hb)) | refine aw_block ?_ | refine aw_exit ?_ | refine aw_ret ?_ | refine aw_skip ?_)
  all_goals refine end_ret (res_of rfl (by trivial) (vInt_eq ?_))
  all_goals simp only [decide_eq_true_eq, decide_eq_false_iff_not, ne_eq, Decidable.not_not] at *
  all_goals unfold vcmpR
  · rw [if_pos (by assumption)]
  · rw [if_neg (by simp_all), if_pos (by assumption)]
  · rw [if_neg (by simp_all), if_neg (by simp_all)]
theorem rcmpR_drop {a b : List Val} {i : Nat} {x y : Val} (hx : a[i]? = some x) (hy : b[i]? = some y) : rcmpR (a.drop i) (b.drop i) = if vcmpR x y ≠ 0 then vcmpR x y else rcmpR (a.drop (i + 1)) (b.drop (i + 1)) := by
  obtain ⟨h1, e1⟩ := List.getElem?_eq_some_iff.1 hx
  obtain ⟨h2, e2⟩ := List.getElem?_eq_some_iff.1 hy
  rw [List.drop_eq_getElem_cons h1, List.drop_eq_getElem_cons h2, e1, e2, rcmpR]
theorem rcmpR_pure (a b : List Val) (ha : a.length ≤ 1000000) (hb0 : b.length ≤ 1000000) : Pure Tryz.prog 98 [.one (tRow a), .one (tRow b)] (vInt (rcmpR a b)) := by
  refine pure_of_aw tab_ok Tryz.func98 rfl rfl Tryz.ntmps98 (by simp) ?_
  simp only [argT, PV.av, List.map_cons, List.map_nil]
  repeat' (first | refine st_nil ?_ | (refine st_pop rfl rfl rfl rfl ?_ ?_; · exact ok_) | (refine st_lop rfl rfl rfl rfl ?_ ?_; · exact ok_) | (refine st_store rfl rfl rfl ?_ ?_; · exact ok_) | (refine st_lit rfl rfl rfl rfl ?_ ?_; · exact ok_) | refine st_skip rfl rfl rfl ?_ | refine st_skip0 rfl rfl ?_ | (refine st_if rfl (fun hb => ?_) (fun hb => ?_) <;> (first | exact no_ hb | rw [hb])) | refine aw_seq ?_ | refine aw_region tab_ok _ rfl ?_ | refine aw_drawn2 tabS_ok _ rfl mixed (by decide +kernel) ?_ | (refine aw_cond rfl (fun hb => ?_) (fun hb => ?_) <;> (try exact no_ hb)) | refine aw_block ?_ | refine aw_exit ?_ | refine aw_ret ?_ | refine aw_skip ?_)
  refine aw_loop (fun i : Nat => [(0, .one (.c (tRow a))), (1, .one (.c (tRow b))), (5, .one (.c (.int .i64 i)))]) (fun _ => []) (fun i => i ≤ a.length ∧ i ≤ b.length ∧ rcmpR a b = rcmpR (a.drop i) (b.drop i)) (fun i => a.length - i) 0 ⟨by omega, by omega, rfl⟩ (fun _ _ => Nat.zero_le _)
    (fits_mk ⟨rfl, rfl, rfl, trivial⟩ [] rfl ft_ ft_) ?_
  rintro i ⟨hi, him, hr⟩
  have ea : (((a.map cV).length : Nat) : Int) = a.length := by simp
  have eb : (((b.map cV).length : Nat) : Int) = b.length := by simp
  by_cases hlt : i < a.length ∧ i < b.length
  · obtain ⟨x, hx⟩ := get_of_lt hlt.1
    obtain ⟨y, hy⟩ := get_of_lt hlt.2
    have hstep := rcmpR_drop hx hy
    have hA : decide ((i : Int) < (a.map cV).length) = true := by rw [ea]; simp; exact hlt.1
    have hB : decide ((i : Int) < (b.map cV).length) = true := by rw [eb]; simp; exact hlt.2
    repeat' (first | refine st_nil ?_ | rw [hA] | rw [hB] | (refine st_pop rfl rfl rfl rfl ?_ ?_; · exact ok_) | (refine st_idx rfl rfl rfl rfl rfl rfl rfl rfl (idx_map hx) ?_ ?_; · exact ⟨by omega, rfl⟩) | (refine st_idx rfl rfl rfl rfl rfl rfl rfl rfl (idx_map hy) ?_ ?_; · exact ⟨by omega, rfl⟩) | (refine st_lop rfl rfl rfl rfl ?_ ?_; · exact ok_) | (refine st_store rfl rfl rfl ?_ ?_; · exact ok_) | (refine st_lit rfl rfl rfl rfl ?_ ?_; · exact ok_) | refine st_skip rfl rfl rfl ?_ | refine st_skip0 rfl rfl ?_ | refine st_call rfl rfl rfl rfl (vcmpR_pure x y) rfl ?_ | (refine st_if rfl (fun hb => ?_) (fun hb => ?_) <;> (first | exact no_ hb | rw [hb])) | refine aw_seq ?_ | refine aw_region tab_ok _ rfl ?_ | refine aw_drawn2 tabS_ok _ rfl mixed (by decide +kernel) ?_ | (refine aw_cond rfl (fun hb => ?_) (fun hb => ?_) <;> (try exact no_ hb)) | refine aw_block ?_ | refine aw_exit ?_ | refine aw_ret ?_ | refine aw_skip ?_)
    · refine end_ret (res_of rfl (by trivial) (vInt_eq ?_))
      rw [hr, hstep, if_pos (of_decide_eq_true hb)]
    · have h0 := of_decide_eq_false hb
      exact ⟨i + 1, ⟨by omega, by omega, by rw [hr, hstep, if_neg h0]⟩, by omega, fits_mk ⟨rfl, rfl, slot_int (wrap_eq (by omega) (by omega)), trivial⟩ [] rfl ft_ ft_⟩
  · have fin : rcmpR a b = if a.length < b.length then -1 else if b.length < a.length then 1 else 0 := by
      by_cases h1 : i < a.length
      · have h2 : b.length = i := by omega
        rw [hr, List.drop_eq_getElem_cons h1, List.drop_of_length_le (show b.length ≤ i by omega), if_neg (by omega), if_pos (by omega)]; rfl
      · by_cases h2 : i < b.length
        · rw [hr, List.drop_eq_getElem_cons h2, List.drop_of_length_le (show a.length ≤ i by omega), if_pos (by omega)]; rfl
        · rw [hr, List.drop_of_length_le (show a.length ≤ i by omega), List.drop_of_length_le (show b.length ≤ i by omega), if_neg (by omega), if_neg (by omega)]; rfl
    have ends : ∀ (r : Int), ((a.length < b.length ∧ r = -1) ∨ (¬ a.length < b.length ∧ b.length < a.length ∧ r = 1) ∨ (¬ a.length < b.length ∧ ¬ b.length < a.length ∧ r = 0)) → r = rcmpR a b := by
      intro r h
      rw [fin]
      rcases h with ⟨h, e⟩ | ⟨h, h', e⟩ | ⟨h, h', e⟩
      · rw [if_pos h, e]
      · rw [if_neg h, if_pos h', e]
      · rw [if_neg h, if_neg h', e]
    by_cases h1 : i < a.length
    · have hA : decide ((i : Int) < (a.map cV).length) = true := by rw [ea]; simp; exact h1
      have hB : decide ((i : Int) < (b.map cV).length) = false := by rw [eb]; simp; omega
      repeat' (first | refine st_nil ?_ | rw [hA] | rw [hB] | (refine st_pop rfl rfl rfl rfl ?_ ?_; · exact ok_) | (refine st_lop rfl rfl rfl rfl ?_ ?_; · exact ok_) | (refine st_store rfl rfl rfl ?_ ?_; · exact ok_) | (refine st_lit rfl rfl rfl rfl ?_ ?_; · exact ok_) | refine st_skip rfl rfl rfl ?_ | refine st_skip0 rfl rfl ?_ | (refine st_if rfl (fun hb => ?_) (fun hb => ?_) <;> (first | exact no_ hb | rw [hb])) | refine aw_seq ?_ | refine aw_region tab_ok _ rfl ?_ | refine aw_drawn2 tabS_ok _ rfl mixed (by decide +kernel) ?_ | (refine aw_cond rfl (fun hb => ?_) (fun hb => ?_) <;> (try exact no_ hb)) | refine aw_block ?_ | refine aw_exit ?_ | refine aw_ret ?_ | refine aw_skip ?_)
      all_goals (refine end_ret (res_of rfl (by trivial) (vInt_eq (ends _ ?_))); simp only [decide_eq_true_eq, decide_eq_false_iff_not, List.length_map] at *; first | exact .inl ⟨by omega, trivial⟩ | exact .inr (.inl ⟨by omega, by omega, trivial⟩) | exact .inr (.inr ⟨by omega, by omega, trivial⟩))
    · have hA : decide ((i : Int) < (a.map cV).length) = false := by rw [ea]; simp; omega
      repeat' (first | refine st_nil ?_ | rw [hA] | (refine st_pop rfl rfl rfl rfl ?_ ?_; · exact ok_) | (refine st_lop rfl rfl rfl rfl ?_ ?_; · exact ok_) | (refine st_store rfl rfl rfl ?_ ?_; · exact ok_) | (refine st_lit rfl rfl rfl rfl ?_ ?_; · exact ok_) | refine st_skip rfl rfl rfl ?_ | refine st_skip0 rfl rfl ?_ | (refine st_if rfl (fun hb => ?_) (fun hb => ?_) <;> (first | exact no_ hb | rw [hb])) | refine aw_seq ?_ | refine aw_region tab_ok _ rfl ?_ | refine aw_drawn2 tabS_ok _ rfl mixed (by decide +kernel) ?_ | (refine aw_cond rfl (fun hb => ?_) (fun hb => ?_) <;> (try exact no_ hb)) | refine aw_block ?_ | refine aw_exit ?_ | refine aw_ret ?_ | refine aw_skip ?_)
      all_goals (refine end_ret (res_of rfl (by trivial) (vInt_eq (ends _ ?_))); simp only [decide_eq_true_eq, decide_eq_false_iff_not, List.length_map] at *; first | exact .inl ⟨by omega, trivial⟩ | exact .inr (.inl ⟨by omega, by omega, trivial⟩) | exact .inr (.inr ⟨by omega, by omega, trivial⟩))
theorem eqR_pure (a b : List Val) (ha : a.length ≤ 1000000) (hb0 : b.length ≤ 1000000) : Pure Tryz.prog 61 [.one (tRow a), .one (tRow b)] (vBool (decide (rcmpR a b = 0))) := by
  refine pure_of_aw tab_ok Tryz.func61 rfl rfl Tryz.ntmps61 (by simp) ?_
  simp only [argT, PV.av, List.map_cons, List.map_nil]
  repeat' (first | refine st_nil ?_ | (refine st_pop rfl rfl rfl rfl ?_ ?_; · exact ok_) | (refine st_lop rfl rfl rfl rfl ?_ ?_; · exact ok_) | (refine st_store rfl rfl rfl ?_ ?_; · exact ok_) | (refine st_lit rfl rfl rfl rfl ?_ ?_; · exact ok_) | refine st_skip rfl rfl rfl ?_ | refine st_skip0 rfl rfl ?_ | refine st_call rfl rfl rfl rfl (rcmpR_pure a b ha hb0) rfl ?_ | (refine st_if rfl (fun hb => ?_) (fun hb => ?_) <;> (first | exact no_ hb | rw [hb])) | refine aw_seq ?_ | refine aw_region tab_ok _ rfl ?_ | refine aw_drawn2 tabS_ok _ rfl mixed (by decide +kernel) ?_ | (refine aw_cond rfl (fun hb => ?_) (fun hb => ?_) <;> (try exact no_ hb)) | refine aw_block ?_ | refine aw_exit ?_ | refine aw_ret ?_ | refine aw_skip ?_)
  all_goals exact end_ret (res_of rfl (by trivial) rfl)
def sameRows (a b : List (List Val)) : Bool := a.length == b.length && (a.zip b).all fun p => decide (rcmpR p.1 p.2 = 0)
theorem sameRows_pure (a b : List (List Val)) (ha : a.length ≤ 1000000) (hra : ∀ r ∈ a, r.length ≤ 1000000) (hrb : ∀ r ∈ b, r.length ≤ 1000000) : Pure Tryz.prog 21 [.one (tRows a), .one (tRows b)] (vBool (sameRows a b)) := by
  refine pure_of_aw tab_ok Tryz.func21 rfl rfl Tryz.ntmps21 (by simp) ?_
  simp only [argT, PV.av, List.map_cons, List.map_nil]
  by_cases hlen : a.length = b.length
  · have hN : decide ((((a.map fun r => [tRow r]).length : Nat) : Int) ≠ ((b.map fun r => [tRow r]).length : Nat)) = false := by simp [hlen]
    obtain ⟨n, hn⟩ : ∃ n, a.length = n := ⟨_, rfl⟩
    have hml : (((a.map fun r => [tRow r]).length : Nat) : Int) = n := by simp [hn]
    repeat' (first | refine st_nil ?_ | rw [hN] | (refine st_pop rfl rfl rfl rfl ?_ ?_; · exact ok_) | (refine st_lop rfl rfl rfl rfl ?_ ?_; · exact ok_) | (refine st_store rfl rfl rfl ?_ ?_; · exact ok_) | (refine st_lit rfl rfl rfl rfl ?_ ?_; · exact ok_) | refine st_skip rfl rfl rfl ?_ | refine st_skip0 rfl rfl ?_ | (refine st_if rfl (fun hb => ?_) (fun hb => ?_) <;> (first | exact no_ hb | rw [hb])) | refine aw_seq ?_ | refine aw_region tab_ok _ rfl ?_ | refine aw_drawn2 tabS_ok _ rfl mixed (by decide +kernel) ?_ | (refine aw_cond rfl (fun hb => ?_) (fun hb => ?_) <;> (try exact no_ hb)) | refine aw_block ?_ | refine aw_exit ?_ | refine aw_ret ?_ | refine aw_skip ?_)
    refine aw_loop (fun i : Nat => [(0, .one (.c (tRows a))), (1, .one (.c (tRows b))), (5, .one (.c (.int .i64 i)))]) (fun _ => []) (fun i => i ≤ n ∧ ((a.take i).zip (b.take i)).all (fun p => decide (rcmpR p.1 p.2 = 0)) = true) (fun i => n - i) 0 ⟨by omega, by simp⟩ (fun _ _ => Nat.zero_le _)
      (fits_mk ⟨rfl, rfl, rfl, trivial⟩ [] rfl ft_ ft_) ?_
    rintro i ⟨hi, hall⟩
    by_cases hlt : i < n
    · obtain ⟨x, hx⟩ := get_of_lt (show i < a.length by omega)
      obtain ⟨y, hy⟩ := get_of_lt (show i < b.length by omega)
      have hz : (a.take (i + 1)).zip (b.take (i + 1)) = (a.take i).zip (b.take i) ++ [(x, y)] := by
        rw [take_succ hx, take_succ hy, List.zip_append (by simp; omega)]; rfl
      have hA : decide ((i : Int) < (a.map fun r => [tRow r]).length) = true := by rw [hml]; simp; exact hlt
      repeat' (first | refine st_nil ?_ | rw [hA] | (refine st_pop rfl rfl rfl rfl ?_ ?_; · exact ok_) | (refine st_idx rfl rfl rfl rfl rfl rfl rfl rfl (idx_map hx) ?_ ?_; · exact ⟨by omega, rfl⟩) | (refine st_idx rfl rfl rfl rfl rfl rfl rfl rfl (idx_map hy) ?_ ?_; · exact ⟨by omega, rfl⟩) | (refine st_lop rfl rfl rfl rfl ?_ ?_; · exact ok_) | (refine st_store rfl rfl rfl ?_ ?_; · exact ok_) | (refine st_lit rfl rfl rfl rfl ?_ ?_; · exact ok_) | refine st_skip rfl rfl rfl ?_ | refine st_skip0 rfl rfl ?_ | refine st_call rfl rfl rfl rfl (eqR_pure x y (hra x (List.mem_of_getElem? hx)) (hrb y (List.mem_of_getElem? hy))) rfl ?_ | (refine st_if rfl (fun hb => ?_) (fun hb => ?_) <;> (first | exact no_ hb | rw [hb])) | refine aw_seq ?_ | refine aw_region tab_ok _ rfl ?_ | refine aw_drawn2 tabS_ok _ rfl mixed (by decide +kernel) ?_ | (refine aw_cond rfl (fun hb => ?_) (fun hb => ?_) <;> (try exact no_ hb)) | refine aw_block ?_ | refine aw_exit ?_ | refine aw_ret ?_ | refine aw_skip ?_)
      · refine end_ret (res_of rfl (by trivial) (vBool_eq ?_))
        have hne : ¬ rcmpR x y = 0 := by simpa using hb
        symm
        unfold sameRows
        have hm : (x, y) ∈ a.zip b := by
          have : (a.zip b)[i]? = some (x, y) := by rw [List.getElem?_zip_eq_some]; exact ⟨hx, hy⟩
          exact List.mem_of_getElem? this
        cases hh : (a.zip b).all fun p => decide (rcmpR p.1 p.2 = 0) with
        | false => simp
        | true => have := List.all_eq_true.1 hh _ hm; simp at this; exact absurd this hne
      · have he : rcmpR x y = 0 := by simpa using hb
        exact ⟨i + 1, ⟨by omega, by rw [hz, List.all_append, hall]; simp [he]⟩, by omega, fits_mk ⟨rfl, rfl, slot_int (wrap_eq (by omega) (by omega)), trivial⟩ [] rfl ft_ ft_⟩
    · have hi2 : i = n := by omega
      have hA : decide ((i : Int) < (a.map fun r => [tRow r]).length) = false := by rw [hml]; simp; omega
      repeat' (first | refine st_nil ?_ | rw [hA] | (refine st_pop rfl rfl rfl rfl ?_ ?_; · exact ok_) | (refine st_lop rfl rfl rfl rfl ?_ ?_; · exact ok_) | (refine st_store rfl rfl rfl ?_ ?_; · exact ok_) | (refine st_lit rfl rfl rfl rfl ?_ ?_; · exact ok_) | refine st_skip rfl rfl rfl ?_ | refine st_skip0 rfl rfl ?_ | (refine st_if rfl (fun hb => ?_) (fun hb => ?_) <;> (first | exact no_ hb | rw [hb])) | refine aw_seq ?_ | refine aw_region tab_ok _ rfl ?_ | refine aw_drawn2 tabS_ok _ rfl mixed (by decide +kernel) ?_ | (refine aw_cond rfl (fun hb => ?_) (fun hb => ?_) <;> (try exact no_ hb)) | refine aw_block ?_ | refine aw_exit ?_ | refine aw_ret ?_ | refine aw_skip ?_)
      refine end_ret (res_of rfl (by trivial) (vBool_eq ?_))
      rw [hi2, ← hn, List.take_length, List.take_of_length_le (show b.length ≤ a.length by omega)] at hall
      unfold sameRows
      rw [hall]; simp [hlen]
  · have hN : decide ((((a.map fun r => [tRow r]).length : Nat) : Int) ≠ ((b.map fun r => [tRow r]).length : Nat)) = true := by simp; omega
    repeat' (first | refine st_nil ?_ | rw [hN] | (refine st_pop rfl rfl rfl rfl ?_ ?_; · exact ok_) | (refine st_lop rfl rfl rfl rfl ?_ ?_; · exact ok_) | (refine st_store rfl rfl rfl ?_ ?_; · exact ok_) | (refine st_lit rfl rfl rfl rfl ?_ ?_; · exact ok_) | refine st_skip rfl rfl rfl ?_ | refine st_skip0 rfl rfl ?_ | (refine st_if rfl (fun hb => ?_) (fun hb => ?_) <;> (first | exact no_ hb | rw [hb])) | refine aw_seq ?_ | refine aw_region tab_ok _ rfl ?_ | refine aw_drawn2 tabS_ok _ rfl mixed (by decide +kernel) ?_ | (refine aw_cond rfl (fun hb => ?_) (fun hb => ?_) <;> (try exact no_ hb)) | refine aw_block ?_ | refine aw_exit ?_ | refine aw_ret ?_ | refine aw_skip ?_)
    refine end_ret (res_of rfl (by trivial) (vBool_eq ?_))
    unfold sameRows; simp [hlen]
end Go.Proofs.YtfpbmfalamappaaGreatDoor

namespace Go.Proofs.YtfpbmfalamappaaGreatDoor
open Go.RowKit Go.MapKept
set_option maxRecDepth 100000
def mapI (M : List (ByteArray × Int)) : List (AC × AV) := M.map fun p => (.str p.1, .one (.c (.int .i64 p.2)))
def mget : List (ByteArray × Int) → ByteArray → Int
  | [], _ => 0
  | p :: r, s => if s = p.1 then p.2 else mget r s
def mputI : List (ByteArray × Int) → ByteArray → Int → List (ByteArray × Int)
  | [], s, n => [(s, n)]
  | p :: r, s, n => if s = p.1 then (s, n) :: r else p :: mputI r s n
theorem mapI_keys (M : List (ByteArray × Int)) : strKeys (mapI M) := by intro p hp; obtain ⟨q, _, rfl⟩ := List.mem_map.1 hp; exact ⟨q.1, rfl⟩
theorem kidx_I (s : ByteArray) : ∀ (M : List (ByteArray × Int)), (kidx s (mapI M) = none ∧ mget M s = 0 ∧ ∀ n, mputI M s n = M ++ [(s, n)]) ∨ (∃ i p, kidx s (mapI M) = some i ∧ M[i]? = some p ∧ mget M s = p.2 ∧ ∀ n, mputI M s n = M.set i (s, n))
  | [] => .inl ⟨rfl, rfl, fun _ => rfl⟩
  | p :: r => by
    have hk : kidx s (mapI (p :: r)) = if s = p.1 then some 0 else (kidx s (mapI r)).map (· + 1) := rfl
    by_cases h : s = p.1
    · exact .inr ⟨0, p, by rw [hk, if_pos h], rfl, by simp [mget, h], fun n => by simp [mputI, h]⟩
    · rcases kidx_I s r with ⟨h1, h2, h3⟩ | ⟨i, q, h1, h2, h3, h4⟩
      · exact .inl ⟨by rw [hk, if_neg h, h1]; rfl, by simp [mget, h, h2], fun n => by simp [mputI, h, h3]⟩
      · exact .inr ⟨i + 1, q, by rw [hk, if_neg h, h1]; rfl, by simpa using h2, by simp [mget, h, h3], fun n => by simp [mputI, h, h4]⟩
theorem mval_I (M : List (ByteArray × Int)) (s : ByteArray) : mval (mapI M) s (.one (.c (.int .i64 0))) = .one (.c (.int .i64 (mget M s))) := by
  unfold mval
  rcases kidx_I s M with ⟨h1, h2, _⟩ | ⟨i, p, h1, h2, h3, _⟩
  · rw [h1, h2]
  · have : (mapI M)[i]? = some (.str p.1, .one (.c (.int .i64 p.2))) := by unfold mapI; rw [List.getElem?_map, h2]; rfl
    rw [h1]; simp only [this]; rw [h3]
theorem mput_I (M : List (ByteArray × Int)) (s : ByteArray) (n : Int) : mput (mapI M) s (.one (.c (.int .i64 n))) = mapI (mputI M s n) := by
  unfold mput
  rcases kidx_I s M with ⟨h1, _, h3⟩ | ⟨i, p, h1, h2, _, h4⟩
  · rw [h1, h3]; simp [mapI]
  · rw [h1, h4]; unfold mapI; rw [List.map_set]
theorem mapI_ren (σ : List Nat) (M : List (ByteArray × Int)) : (Ob.map (mapI M)).ren σ = Ob.map (mapI M) := by
  simp only [Ob.ren, mapI, List.map_map]; rfl
theorem mapI_below (n : Nat) (M : List (ByteArray × Int)) : (Ob.map (mapI M)).below n := by
  intro p hp; obtain ⟨q, _, rfl⟩ := List.mem_map.1 hp; trivial
theorem sop_get {P : Program} {ti : TI} {ρ : Operand → Option AV} {L : List Ob} {t : TypeId} {kt et : TypeId} {x k : Operand} {s : ByteArray} {id : Nat} {M : List (ByteArray × Int)} (hti : TIok P ti) (hx : ρ x = some (.one (.mp id))) (hk : ρ k = some (.one (.c (.str s)))) (hL : L[id]? = some (.map (mapI M)))
    (ht : ti.kind t = some (.map kt et)) (hkt : ti.kind kt = some .string) (hz : ti.zero et = some (.one (.c (.int .i64 0)))) : Sop P ρ L (.lookup t x k false) (.one (.c (.int .i64 (mget M s)))) L := by
  have := sop_lookup (P := P) hx hk hL (mapI_keys M) (hti.kind _ _ ht) (hti.kind _ _ hkt) (hti.zero _ _ hz)
  rw [mval_I] at this
  exact this
theorem sop_put {P : Program} {ti : TI} {ρ : Operand → Option AV} {L : List Ob} {t : TypeId} {kt et : TypeId} {x k y : Operand} {s : ByteArray} {id : Nat} {n : Int} {M : List (ByteArray × Int)} (hti : TIok P ti) (hx : ρ x = some (.one (.mp id))) (hk : ρ k = some (.one (.c (.str s)))) (hy : ρ y = some (.one (.c (.int .i64 n)))) (hL : L[id]? = some (.map (mapI M)))
    (ht : ti.kind t = some (.map kt et)) (hkt : ti.kind kt = some .string) : Sop P ρ L (.mapUpdate t x k y) .undef (L.set id (.map (mapI (mputI M s n)))) := by
  have := sop_mapUpdate (P := P) hx hk hy hL (mapI_keys M) (hti.kind _ _ ht) (hti.kind _ _ hkt)
  rw [mput_I] at this
  exact this
def cntS (M : List (ByteArray × Int)) (k : ByteArray) : List (ByteArray × Int) := mputI M k (mget M k + 1)
def cnt (ks : List ByteArray) : List (ByteArray × Int) := ks.foldl cntS []
theorem mget_put (s t : ByteArray) (n : Int) : ∀ (M : List (ByteArray × Int)), mget (mputI M s n) t = if t = s then n else mget M t
  | [] => by by_cases h : t = s <;> simp [mputI, mget, h]
  | p :: r => by
    unfold mputI
    by_cases h : s = p.1
    · rw [if_pos h]
      by_cases h2 : t = s
      · simp [mget, h2]
      · have : ¬ t = p.1 := fun e => h2 (e.trans h.symm)
        simp [mget, h2, this]
    · rw [if_neg h]
      have ih := mget_put s t n r
      by_cases h2 : t = p.1
      · have : ¬ t = s := fun e => h (e.symm.trans h2)
        simp [mget, h2, this]
        intro e; exact absurd e.symm h
      · simp only [mget, h2, if_false, ih]
theorem cnt_snoc (ks : List ByteArray) (k : ByteArray) : cnt (ks ++ [k]) = mputI (cnt ks) k (mget (cnt ks) k + 1) := by unfold cnt; rw [List.foldl_append]; rfl
theorem cnt_bound (ks : List ByteArray) (s : ByteArray) : 0 ≤ mget (cnt ks) s ∧ mget (cnt ks) s ≤ ks.length := by
  have : ∀ (ks : List ByteArray) (M : List (ByteArray × Int)) (b : Int), (∀ s, 0 ≤ mget M s ∧ mget M s ≤ b) → ∀ s, 0 ≤ mget (ks.foldl cntS M) s ∧ mget (ks.foldl cntS M) s ≤ b + ks.length := by
    intro ks
    induction ks with
    | nil => intro M b h s; simpa using h s
    | cons k ks ih =>
      intro M b h s
      rw [List.foldl_cons]
      have := ih (cntS M k) (b + 1) (fun t => by
        unfold cntS
        rw [mget_put]
        have h1 := h k; have h2 := h t
        split <;> omega) s
      simp only [List.length_cons]; omega
  have := this ks [] 0 (fun s => by simp [mget]) s
  simpa [cnt] using this
theorem counts_run (it : Int → ByteArray) (l : List (List Val)) (hl : l.length ≤ 1000000) (hk : ∀ r ∈ l, Pure Tryz.prog 54 [.one (tRow r)] (.val (.one (.str (keyS it r))))) : Run Tryz.prog 102 [] [.one (.c (tRows l))] [.map (mapI (cnt (l.map (keyS it))))] (.one (.mp 0)) := by
  refine run_of_aw tabD_ok Tryz.func102 rfl rfl Tryz.ntmps102 (by simp) ?_
  simp only [argA]
  obtain ⟨n, hn⟩ : ∃ n, l.length = n := ⟨_, rfl⟩
  repeat' (first | refine st_nil ?_ | (refine st_pop rfl rfl rfl rfl ?_ ?_; · exact ok_) | (refine st_lop rfl rfl rfl rfl ?_ ?_; · exact ok_) | (refine st_store rfl rfl rfl ?_ ?_; · exact ok_) | (refine st_lit rfl rfl rfl rfl ?_ ?_; · exact ok_) | refine st_skip rfl rfl rfl ?_ | refine st_skip0 rfl rfl ?_ | (refine st_if rfl (fun hb => ?_) (fun hb => ?_) <;> (first | exact no_ hb | rw [hb])) | refine aw_seq ?_ | refine aw_region tabD_ok _ rfl ?_ | refine aw_drawn2 tabDS_ok _ rfl mixed (by decide +kernel) ?_ | (refine aw_cond rfl (fun hb => ?_) (fun hb => ?_) <;> (try exact no_ hb)) | refine aw_block ?_ | refine aw_exit ?_ | refine aw_ret ?_ | refine aw_skip ?_ | (refine st_sop rfl rfl rfl rfl rfl sop_makeMap ?_))
  refine aw_loop (fun i : Nat => [(3, .one (.mp 0)), (7, .one (.c (tRows l))), (8, .one (.c (.int .i64 n))), (9, .one (.c (.int .i64 i)))]) (fun i => [.map (mapI (cnt ((l.take i).map (keyS it))))]) (fun i => i ≤ n) (fun i => n - i) 0 (by omega) (fun _ _ => Nat.zero_le _)
    (fits_mk ⟨rfl, rfl, slot_int (by simp [hn]), rfl, trivial⟩ [] rfl ⟨by show 0 < 1; omega, trivial, trivial, trivial, trivial⟩ ⟨mapI_below _ _, trivial⟩) ?_
  intro i hi
  by_cases hlt : i < n
  · obtain ⟨r, hx⟩ := get_of_lt (show i < l.length by omega)
    have hb2 := cnt_bound ((l.take i).map (keyS it)) (keyS it r)
    have hcl : ((l.take i).map (keyS it)).length = i := by simp; omega
    have hnx : cnt ((l.take (i + 1)).map (keyS it)) = mputI (cnt ((l.take i).map (keyS it))) (keyS it r) (mget (cnt ((l.take i).map (keyS it))) (keyS it r) + 1) := by rw [take_succ hx, List.map_append]; exact cnt_snoc _ _
    have hw : IntKind.i64.wrap (mget (cnt ((l.take i).map (keyS it))) (keyS it r) + 1) = mget (cnt ((l.take i).map (keyS it))) (keyS it r) + 1 := wrap_in (by omega)
    repeat' (first | refine st_nil ?_ | (refine st_pop rfl rfl rfl rfl ?_ ?_; · exact ok_) | (refine st_idx rfl rfl rfl rfl rfl rfl rfl rfl (idx_map hx) ?_ ?_; · exact ⟨by omega, rfl⟩) | (refine st_lop rfl rfl rfl rfl ?_ ?_; · exact ok_) | (refine st_store rfl rfl rfl ?_ ?_; · exact ok_) | (refine st_lit rfl rfl rfl rfl ?_ ?_; · exact ok_) | refine st_skip rfl rfl rfl ?_ | refine st_skip0 rfl rfl ?_ | refine st_call rfl rfl rfl rfl (hk r (List.mem_of_getElem? hx)) rfl ?_ | (refine st_if rfl (fun hb => ?_) (fun hb => ?_) <;> (first | exact no_ hb | rw [hb])) | refine aw_seq ?_ | refine aw_region tabD_ok _ rfl ?_ | refine aw_drawn2 tabDS_ok _ rfl mixed (by decide +kernel) ?_ | (refine aw_cond rfl (fun hb => ?_) (fun hb => ?_) <;> (try exact no_ hb)) | refine aw_block ?_ | refine aw_exit ?_ | refine aw_ret ?_ | refine aw_skip ?_ | (refine st_sopq rfl rfl rfl rfl rfl (sop_get (M := cnt ((l.take i).map (keyS it))) tabD_ok rfl rfl rfl rfl rfl rfl) ?_) | (refine st_sop0 rfl rfl rfl rfl (sop_put (M := cnt ((l.take i).map (keyS it))) tabD_ok rfl rfl rfl rfl rfl rfl) ?_))
    exact ⟨i + 1, by omega, by omega, fits_mk ⟨rfl, rfl, rfl, slot_int (wrap_eq (by omega) (by omega)), trivial⟩ [] (by rw [hnx, hw]; rfl) ⟨by show 0 < 1; omega, trivial, trivial, trivial, trivial⟩ ⟨mapI_below _ _, trivial⟩⟩
  · have htk : l.take i = l := List.take_of_length_le (by omega)
    rw [htk]
    repeat' (first | refine st_nil ?_ | (refine st_pop rfl rfl rfl rfl ?_ ?_; · exact ok_) | (refine st_lop rfl rfl rfl rfl ?_ ?_; · exact ok_) | (refine st_store rfl rfl rfl ?_ ?_; · exact ok_) | (refine st_lit rfl rfl rfl rfl ?_ ?_; · exact ok_) | refine st_skip rfl rfl rfl ?_ | refine st_skip0 rfl rfl ?_ | (refine st_if rfl (fun hb => ?_) (fun hb => ?_) <;> (first | exact no_ hb | rw [hb])) | refine aw_seq ?_ | refine aw_region tabD_ok _ rfl ?_ | refine aw_drawn2 tabDS_ok _ rfl mixed (by decide +kernel) ?_ | (refine aw_cond rfl (fun hb => ?_) (fun hb => ?_) <;> (try exact no_ hb)) | refine aw_block ?_ | refine aw_exit ?_ | refine aw_ret ?_ | refine aw_skip ?_)
    exact ⟨.inr rfl, ⟨.inl ⟨2, rfl, rfl⟩, ⟨[], rfl⟩, Nat.zero_le _, mem_below ⟨mapI_below _ _, trivial⟩, by show 0 < 1; omega⟩⟩
/-- Rows with a partner, and the others. -/
structure Spl where
  M : List (ByteArray × Int)
  W : List (List Val)
  O : List (List Val)
def splS (it : Int → ByteArray) (s : Spl) (r : List Val) : Spl := if 0 < mget s.M (keyS it r) then ⟨mputI s.M (keyS it r) (mget s.M (keyS it r) - 1), s.W ++ [r], s.O⟩ else ⟨s.M, s.W, s.O ++ [r]⟩
def spl (it : Int → ByteArray) (a b : List (List Val)) : Spl := a.foldl (splS it) ⟨cnt (b.map (keyS it)), [], []⟩
theorem spl_snoc (it : Int → ByteArray) (a b : List (List Val)) (r : List Val) : spl it (a ++ [r]) b = splS it (spl it a b) r := by unfold spl; rw [List.foldl_append]; rfl
theorem spl_bound (it : Int → ByteArray) (a b : List (List Val)) (s : ByteArray) : 0 ≤ mget (spl it a b).M s ∧ mget (spl it a b).M s ≤ b.length := by
  have : ∀ (a : List (List Val)) (S : Spl) (n : Int), (∀ s, 0 ≤ mget S.M s ∧ mget S.M s ≤ n) → ∀ s, 0 ≤ mget (a.foldl (splS it) S).M s ∧ mget (a.foldl (splS it) S).M s ≤ n := by
    intro a
    induction a with
    | nil => intro S n h; exact h
    | cons r a ih =>
      intro S n h
      rw [List.foldl_cons]
      refine ih _ n fun t => ?_
      unfold splS
      split
      · simp only; rw [mget_put]; have := h (keyS it r); have := h t; split <;> omega
      · exact h t
  have h := this a ⟨cnt (b.map (keyS it)), [], []⟩ b.length (fun s => by have := cnt_bound (b.map (keyS it)) s; simpa using this) s
  exact h
theorem spl_len (it : Int → ByteArray) (a b : List (List Val)) : (spl it a b).W.length + (spl it a b).O.length = a.length := by
  have : ∀ (a : List (List Val)) (S : Spl), (a.foldl (splS it) S).W.length + (a.foldl (splS it) S).O.length = S.W.length + S.O.length + a.length := by
    intro a
    induction a with
    | nil => intro S; simp
    | cons r a ih => intro S; rw [List.foldl_cons, ih]; unfold splS; split <;> simp <;> omega
  have := this a ⟨cnt (b.map (keyS it)), [], []⟩
  simpa [spl] using this
theorem spl_mem (it : Int → ByteArray) (a b : List (List Val)) (r : List Val) (h : r ∈ (spl it a b).O) : r ∈ a := by
  have : ∀ (a : List (List Val)) (S : Spl), r ∈ (a.foldl (splS it) S).O → r ∈ S.O ∨ r ∈ a := by
    intro a
    induction a with
    | nil => intro S h; exact .inl h
    | cons x a ih =>
      intro S h
      rw [List.foldl_cons] at h
      rcases ih _ h with h | h
      · unfold splS at h
        split at h
        · exact .inl h
        · rcases List.mem_append.1 h with h | h
          · exact .inl h
          · simp at h; exact .inr (by rw [h]; simp)
      · exact .inr (List.mem_cons_of_mem _ h)
  rcases this a _ h with h | h
  · cases h
  · exact h
theorem box2_below {n : Nat} {x y : AC} : (Ob.box [.c x, .c y]).below n := by
  intro z hz
  rcases List.mem_cons.1 hz with rfl | hz
  · trivial
  rcases List.mem_cons.1 hz with rfl | hz
  · trivial
  cases hz
set_option maxHeartbeats 2000000 in
theorem split_pure (it : Int → ByteArray) (ka kb : List Int) (a b : List (List Val)) (ha : a.length ≤ 1000000) (hb0 : b.length ≤ 1000000) (hka : ∀ r ∈ a, Pure Tryz.prog 54 [.one (tRow r)] (.val (.one (.str (keyS it r))))) (hkb : ∀ r ∈ b, Pure Tryz.prog 54 [.one (tRow r)] (.val (.one (.str (keyS it r))))) : Pure Tryz.prog 64 [.agg [tInts ka, tRows a], .agg [tInts kb, tRows b]] (.tup [.one (tRows (spl it a b).W), .one (tRows (spl it a b).O)]) := by
  refine pure_of_aw tabD_ok Tryz.func64 rfl rfl Tryz.ntmps64 (by simp) ?_
  simp only [argT, PV.av, List.map_cons, List.map_nil]
  obtain ⟨n, hn⟩ : ∃ n, a.length = n := ⟨_, rfl⟩
  have hml : (((a.map fun r => [tRow r]).length : Nat) : Int) = n := by simp [hn]
  repeat' (first | refine st_nil ?_ | (refine st_pop rfl rfl rfl rfl ?_ ?_; · exact ok_) | (refine st_lop rfl rfl rfl rfl ?_ ?_; · exact ok_) | (refine st_store rfl rfl rfl ?_ ?_; · exact ok_) | (refine st_lit rfl rfl rfl rfl ?_ ?_; · exact ok_) | refine st_skip rfl rfl rfl ?_ | refine st_skip0 rfl rfl ?_ | (refine st_run [] rfl rfl rfl rfl (counts_run it b hb0 hkb) rfl ⟨rfl, by simp, fun i x hx => by simp at hx, fun x hx => by simp at hx, args_below ⟨trivial, trivial⟩⟩ rfl (show joinL [] _ [_] = [.box [.c (tInts ka), .c (tRows a)], .box [.c (tInts kb), .c (tRows b)], .map (mapI (cnt (b.map (keyS it))))] by simp only [joinL, List.map_cons, mapI_ren]; rfl) ?_) | (refine st_if rfl (fun hb => ?_) (fun hb => ?_) <;> (first | exact no_ hb | rw [hb])) | refine aw_seq ?_ | refine aw_region tabD_ok _ rfl ?_ | refine aw_drawn2 tabDS_ok _ rfl mixed (by decide +kernel) ?_ | (refine aw_cond rfl (fun hb => ?_) (fun hb => ?_) <;> (try exact no_ hb)) | refine aw_block ?_ | refine aw_exit ?_ | refine aw_ret ?_ | refine aw_skip ?_)
  refine aw_tok 7 1 rfl ?_
  refine aw_tok 8 1 rfl ?_
  refine aw_loop (fun i : Nat => [(6, .one (.mp 2)), (7, .one (.own ((spl it (a.take i) b).W.map fun r => [tRow r]) 3)), (8, .one (.own ((spl it (a.take i) b).O.map fun r => [tRow r]) 4)), (16, .one (.c (tRows a))), (17, .one (.c (.int .i64 n))), (18, .one (.c (.int .i64 i)))]) (fun i => [.box [.c (tInts ka), .c (tRows a)], .box [.c (tInts kb), .c (tRows b)], .map (mapI (spl it (a.take i) b).M), .spare (spl it (a.take i) b).W.length 1, .spare (spl it (a.take i) b).O.length 1]) (fun i => i ≤ n) (fun i => n - i) 0 (by omega) (fun _ _ => Nat.zero_le _)
    (fits_mk ⟨rfl, rfl, rfl, rfl, slot_int hml, rfl, trivial⟩ [] rfl ⟨by show 2 < 5; omega, by show 3 < 5; omega, by show 4 < 5; omega, trivial, trivial, trivial, trivial⟩ ⟨box2_below, box2_below, mapI_below _ _, trivial, trivial, trivial⟩) ?_
  intro i hi
  by_cases hlt : i < n
  · obtain ⟨r, hx⟩ := get_of_lt (show i < a.length by omega)
    have hb2 := spl_bound it (a.take i) b (keyS it r)
    have hsl := spl_len it (a.take i) b
    rw [List.length_take] at hsl
    have hnx : spl it (a.take (i + 1)) b = splS it (spl it (a.take i) b) r := by rw [take_succ hx]; exact spl_snoc _ _ _ _
    unfold splS at hnx
    generalize spl it (a.take i) b = S at hb2 hsl hnx
    obtain ⟨M, W, O⟩ := S
    dsimp only at hb2 hsl hnx ⊢
    have hw : IntKind.i64.wrap (mget M (keyS it r) - 1) = mget M (keyS it r) - 1 := wrap_in (by omega)
    have hWl : (W.map fun r => [tRow r]).length = W.length := by simp
    have hOl : (O.map fun r => [tRow r]).length = O.length := by simp
    repeat' (first | refine st_nil ?_ | (refine st_pop rfl rfl rfl rfl ?_ ?_; · (repeat' (first | exact trivial | rfl | exact Nat.le_of_ble_eq_true rfl | omega | (intro e he; simp at he; subst he; rfl) | exact hWl | exact hOl | (show (_ + 1) * 24 ≤ _; omega) | (show _ + 1 ≤ _; omega) | apply And.intro))) | (refine st_idx rfl rfl rfl rfl rfl rfl rfl rfl (idx_map hx) ?_ ?_; · exact ⟨by omega, rfl⟩) | (refine st_lop rfl rfl rfl rfl ?_ ?_; · (repeat' (first | exact trivial | rfl | exact Nat.le_of_ble_eq_true rfl | omega | (intro e he; simp at he; subst he; rfl) | exact hWl | exact hOl | (show (_ + 1) * 24 ≤ _; omega) | (show _ + 1 ≤ _; omega) | apply And.intro))) | (refine st_store rfl rfl rfl ?_ ?_; · (repeat' (first | exact trivial | rfl | exact Nat.le_of_ble_eq_true rfl | omega | (intro e he; simp at he; subst he; rfl) | exact hWl | exact hOl | (show (_ + 1) * 24 ≤ _; omega) | (show _ + 1 ≤ _; omega) | apply And.intro))) | (refine st_lit rfl rfl rfl rfl ?_ ?_; · (repeat' (first | exact trivial | rfl | exact Nat.le_of_ble_eq_true rfl | omega | (intro e he; simp at he; subst he; rfl) | exact hWl | exact hOl | (show (_ + 1) * 24 ≤ _; omega) | (show _ + 1 ≤ _; omega) | apply And.intro))) | refine st_skip rfl rfl rfl ?_ | refine st_skip0 rfl rfl ?_ | refine st_call rfl rfl rfl rfl (hka r (List.mem_of_getElem? hx)) rfl ?_ | (refine st_if rfl (fun hb => ?_) (fun hb => ?_) <;> (first | exact no_ hb | rw [hb])) | refine aw_seq ?_ | refine aw_region tabD_ok _ rfl ?_ | refine aw_drawn2 tabDS_ok _ rfl mixed (by decide +kernel) ?_ | (refine aw_cond rfl (fun hb => ?_) (fun hb => ?_) <;> (try exact no_ hb)) | refine aw_block ?_ | refine aw_exit ?_ | refine aw_ret ?_ | refine aw_skip ?_ | (refine st_sopq rfl rfl rfl rfl rfl (sop_get (M := M) tabD_ok rfl rfl rfl rfl rfl rfl) ?_) | (refine st_sop0 rfl rfl rfl rfl (sop_put (M := M) tabD_ok rfl rfl rfl rfl rfl rfl) ?_))
    · have hp : 0 < mget M (keyS it r) := of_decide_eq_true hb
      rw [if_pos hp] at hnx
      exact ⟨i + 1, by omega, by omega, by rw [hnx]; exact fits_mk ⟨rfl, slot_own (by rw [List.map_append]; rfl), rfl, rfl, rfl, slot_int (wrap_eq (by omega) (by omega)), trivial⟩ [] (by rw [hw]; simp) ⟨by show 2 < 5; omega, by show 3 < 5; omega, by show 4 < 5; omega, trivial, trivial, trivial, trivial⟩ ⟨box2_below, box2_below, mapI_below _ _, trivial, trivial, trivial⟩⟩
    · have hp : ¬ 0 < mget M (keyS it r) := of_decide_eq_false hb
      rw [if_neg hp] at hnx
      exact ⟨i + 1, by omega, by omega, by rw [hnx]; exact fits_mk ⟨rfl, rfl, slot_own (by rw [List.map_append]; rfl), rfl, rfl, slot_int (wrap_eq (by omega) (by omega)), trivial⟩ [] (by simp) ⟨by show 2 < 5; omega, by show 3 < 5; omega, by show 4 < 5; omega, trivial, trivial, trivial, trivial⟩ ⟨box2_below, box2_below, mapI_below _ _, trivial, trivial, trivial⟩⟩
  · have htk : a.take i = a := List.take_of_length_le (by omega)
    rw [htk]
    repeat' (first | refine st_nil ?_ | (refine st_pop rfl rfl rfl rfl ?_ ?_; · exact ok_) | (refine st_lop rfl rfl rfl rfl ?_ ?_; · exact ok_) | (refine st_store rfl rfl rfl ?_ ?_; · exact ok_) | (refine st_lit rfl rfl rfl rfl ?_ ?_; · exact ok_) | refine st_skip rfl rfl rfl ?_ | refine st_skip0 rfl rfl ?_ | (refine st_if rfl (fun hb => ?_) (fun hb => ?_) <;> (first | exact no_ hb | rw [hb])) | refine aw_seq ?_ | refine aw_region tabD_ok _ rfl ?_ | refine aw_drawn2 tabDS_ok _ rfl mixed (by decide +kernel) ?_ | (refine aw_cond rfl (fun hb => ?_) (fun hb => ?_) <;> (try exact no_ hb)) | refine aw_block ?_ | refine aw_exit ?_ | refine aw_ret ?_ | refine aw_skip ?_)
    exact end_ret (res_of rfl (by trivial) rfl)
theorem except_pure (it : Int → ByteArray) (ka kb : List Int) (a b : List (List Val)) (hk : ka.length ≤ 1000000) (ha : a.length ≤ 19) (hb0 : b.length ≤ 1000000) (hr : ∀ r ∈ a, r ≠ [] ∧ r.length ≤ 1000000) (hka : ∀ r ∈ a, Pure Tryz.prog 54 [.one (tRow r)] (.val (.one (.str (keyS it r))))) (hkb : ∀ r ∈ b, Pure Tryz.prog 54 [.one (tRow r)] (.val (.one (.str (keyS it r))))) : Pure Tryz.prog 25 [.agg [tInts ka, tRows a], .agg [tInts kb, tRows b]] (.val (.agg [tInts ka, sortR (spl it a b).O])) := by
  refine pure_of_aw tab_ok Tryz.func25 rfl rfl Tryz.ntmps25 (by simp) ?_
  simp only [argT, PV.av, List.map_cons, List.map_nil]
  have hsl := spl_len it a b
  have h1 := split_pure it ka kb a b (by omega) hb0 hka hkb
  have h2 := bag_pure ka (spl it a b).O hk (by omega) (fun r h => hr r (spl_mem it a b r h))
  repeat' (first | refine st_nil ?_ | (refine st_pop rfl rfl rfl rfl ?_ ?_; · exact ok_) | (refine st_lop rfl rfl rfl rfl ?_ ?_; · exact ok_) | (refine st_store rfl rfl rfl ?_ ?_; · exact ok_) | (refine st_lit rfl rfl rfl rfl ?_ ?_; · exact ok_) | refine st_skip rfl rfl rfl ?_ | refine st_skip0 rfl rfl ?_ | refine st_call rfl rfl rfl rfl h1 rfl ?_ | refine st_call rfl rfl rfl rfl h2 rfl ?_ | (refine st_if rfl (fun hb => ?_) (fun hb => ?_) <;> (first | exact no_ hb | rw [hb])) | refine aw_seq ?_ | refine aw_region tab_ok _ rfl ?_ | refine aw_drawn2 tabS_ok _ rfl mixed (by decide +kernel) ?_ | (refine aw_cond rfl (fun hb => ?_) (fun hb => ?_) <;> (try exact no_ hb)) | refine aw_block ?_ | refine aw_exit ?_ | refine aw_ret ?_ | refine aw_skip ?_)
  all_goals (refine end_ret ?_; refine res_of rfl ⟨Nat.le_refl 2, trivial⟩ rfl)
end Go.Proofs.YtfpbmfalamappaaGreatDoor
