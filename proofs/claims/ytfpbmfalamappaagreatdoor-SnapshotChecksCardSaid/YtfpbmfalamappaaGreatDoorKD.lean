/- Parts of the proof, joined (G9 G9b G10 G11 G12 G13 G14 G15 G16). No condition. -/
import Derived.Test.YtfpbmfalamappaaGreatDoorKC
set_option linter.unusedSimpArgs false
set_option linter.unusedVariables false
namespace Go.Proofs.YtfpbmfalamappaaGreatDoor
open Go.RowKit Go.MapKept
set_option maxRecDepth 100000
/-- A byte of a string, at an index that is no numeral. -/
theorem st_chr {P : Program} {ti : TI} {N : Nat} {ds : List (Option Tmp)} {K : Tm → List Ob → Prop} {o : Oper} {rest : List Oper} {T : Tm} {L : List Ob} {t : TypeId} {x ix : Operand} {s : ByteArray} {k0 : IntKind} {i : Int} {d : Nat} {b : UInt8} (hd : o.dst = some d) (hN : Nat.blt d N = true) (hg : gdv ds T o.guard = some true) (ho : o.op = .index t x ix) (hx : look T x = some (.one (.c (.str s)))) (hi : look T ix = some (.one (.c (.int k0 i))))
    (hb : s[i.toNat]? = some b) (hφ : 0 ≤ i ∧ ti.kind t = some .string) (h : awOps P ti N ds K rest ((d, .one (.c (.int .u8 b.toNat))) :: T) L) : awOps P ti N ds K (o :: rest) T L :=
  st_pop hd hN hg (φ := 0 ≤ i ∧ ti.kind t = some .string) (by rw [ho]; simp only [pop, hx, hi, popIndex, hb]) hφ h
def prB (b : UInt8) : Bool := !(decide (((b.toNat : Nat) : Int) < 32) || decide ((126 : Int) < (b.toNat : Nat)))
def prS (t : ByteArray) : Bool := t.data.toList.all prB
def e0 : List UInt8 := (⟨#[]⟩ : ByteArray).toList
def vvalid (v : Val) : Bool := bif decide (v.kind = 0) then (bif decide (v.int = 0) then v.text.toList == e0 else false) else bif decide (v.kind = 1) then (bif (bif v.text.toList == e0 then decide (-1125899906842624 ≤ v.int) else false) then decide (v.int ≤ 1125899906842624) else false)
  else bif decide (v.kind = 2) then (bif (bif decide (v.int = 0) then decide ((v.text.size : Int) ≤ 200) else false) then prS v.text else false) else bif decide (v.kind = 3) then (bif v.text.toList == e0 then (bif decide (v.int = 0) then true else decide (v.int = 1)) else false) else false
theorem printable_pure (t : ByteArray) (ht : t.size ≤ 1000000000000) : Pure Tryz.prog 187 [.one (.str t)] (vBool (prS t)) := by
  refine pure_of_aw tab_ok Tryz.func187 rfl rfl Tryz.ntmps187 (by simp) ?_
  simp only [argT, PV.av, List.map_cons, List.map_nil]
  repeat' (first | refine st_nil ?_ | (refine st_pop rfl rfl rfl rfl ?_ ?_; · exact ok_) | (refine st_lop rfl rfl rfl rfl ?_ ?_; · exact ok_) | (refine st_store rfl rfl rfl ?_ ?_; · exact ok_) | (refine st_lit rfl rfl rfl rfl ?_ ?_; · exact ok_) | refine st_skip rfl rfl rfl ?_ | refine st_skip0 rfl rfl ?_ | (refine st_if rfl (fun hb => ?_) (fun hb => ?_) <;> (first | exact no_ hb | rw [hb])) | refine aw_seq ?_ | refine aw_region tab_ok _ rfl ?_ | refine aw_drawn2 tabS_ok _ rfl mixed (by decide +kernel) ?_ | (refine aw_cond rfl (fun hb => ?_) (fun hb => ?_) <;> (try exact no_ hb)) | refine aw_block ?_ | refine aw_exit ?_ | refine aw_ret ?_ | refine aw_skip ?_)
  refine aw_loop (fun i : Nat => [(0, .one (.c (.str t))), (5, .one (.c (.int .i64 t.size))), (6, .one (.c (.int .i64 i)))]) (fun _ => []) (fun i => i ≤ t.size ∧ (t.data.toList.take i).all prB = true) (fun i => t.size - i) 0 ⟨by omega, by simp⟩ (fun _ _ => Nat.zero_le _)
    (fits_mk (by repeat' (first | exact trivial | rfl | apply And.intro)) [] rfl ft_ ft_) ?_
  rintro i ⟨hi, hall⟩
  by_cases hlt : i < t.size
  · obtain ⟨c, hc⟩ : ∃ c, t[i]? = some c := ⟨_, getElem?_pos t i hlt⟩
    have hx : t.data.toList[i]? = some c := by
      rw [getElem?_pos t i hlt] at hc; injection hc with hc; subst hc
      have h2 : i < t.data.size := hlt
      rw [Array.getElem?_toList, Array.getElem?_eq_getElem h2]; rfl
    have hc2 : t[((i : Nat) : Int).toNat]? = some c := by simpa using hc
    have hN : decide ((i : Int) < t.size) = true := by simp; exact hlt
    repeat' (first | refine st_nil ?_ | rw [hN] | (refine st_chr rfl rfl rfl rfl rfl rfl hc2 ⟨by omega, rfl⟩ ?_) | (refine st_pop rfl rfl rfl rfl ?_ ?_; · exact ok_) | (refine st_lop rfl rfl rfl rfl ?_ ?_; · exact ok_) | (refine st_store rfl rfl rfl ?_ ?_; · exact ok_) | (refine st_lit rfl rfl rfl rfl ?_ ?_; · exact ok_) | refine st_skip rfl rfl rfl ?_ | refine st_skip0 rfl rfl ?_ | (refine st_if rfl (fun hb => ?_) (fun hb => ?_) <;> (first | exact no_ hb | rw [hb])) | refine aw_seq ?_ | refine aw_region tab_ok _ rfl ?_ | refine aw_drawn2 tabS_ok _ rfl mixed (by decide +kernel) ?_ | (refine aw_cond rfl (fun hb => ?_) (fun hb => ?_) <;> (try exact no_ hb)) | refine aw_block ?_ | refine aw_exit ?_ | refine aw_ret ?_ | refine aw_skip ?_)
    all_goals first
      | (exact ⟨i + 1, ⟨by omega, by rw [take_succ hx, List.all_append, hall]; simp_all [prB]⟩, by omega, fits_mk ⟨rfl, rfl, slot_int (wrap_eq (by omega) (by omega)), trivial⟩ [] rfl ft_ ft_⟩)
      | (refine end_ret (res_of rfl (by trivial) (vBool_eq ?_)); symm; unfold prS; rw [Bool.eq_false_iff]; intro hh; have := List.all_eq_true.1 hh c (List.mem_of_getElem? hx); simp_all [prB]; done)
  · have hN : decide ((i : Int) < t.size) = false := by simp; omega
    have htk : t.data.toList.take i = t.data.toList := List.take_of_length_le (by rw [show t.data.toList.length = t.size by simp]; omega)
    rw [htk] at hall
    repeat' (first | refine st_nil ?_ | rw [hN] | (refine st_pop rfl rfl rfl rfl ?_ ?_; · exact ok_) | (refine st_lop rfl rfl rfl rfl ?_ ?_; · exact ok_) | (refine st_store rfl rfl rfl ?_ ?_; · exact ok_) | (refine st_lit rfl rfl rfl rfl ?_ ?_; · exact ok_) | refine st_skip rfl rfl rfl ?_ | refine st_skip0 rfl rfl ?_ | (refine st_if rfl (fun hb => ?_) (fun hb => ?_) <;> (first | exact no_ hb | rw [hb])) | refine aw_seq ?_ | refine aw_region tab_ok _ rfl ?_ | refine aw_drawn2 tabS_ok _ rfl mixed (by decide +kernel) ?_ | (refine aw_cond rfl (fun hb => ?_) (fun hb => ?_) <;> (try exact no_ hb)) | refine aw_block ?_ | refine aw_exit ?_ | refine aw_ret ?_ | refine aw_skip ?_)
    exact end_ret (res_of rfl (by trivial) (vBool_eq hall.symm))
theorem printableR_pure (t : ByteArray) (ht : t.size ≤ 1000000000000) : Pure Tryz.prog 167 [.one (.str t)] (vBool (prS t)) := by
  refine pure_of_aw tab_ok Tryz.func167 rfl rfl Tryz.ntmps167 (by simp) ?_
  simp only [argT, PV.av, List.map_cons, List.map_nil]
  repeat' (first | refine st_nil ?_ | (refine st_pop rfl rfl rfl rfl ?_ ?_; · exact ok_) | (refine st_lop rfl rfl rfl rfl ?_ ?_; · exact ok_) | (refine st_store rfl rfl rfl ?_ ?_; · exact ok_) | (refine st_lit rfl rfl rfl rfl ?_ ?_; · exact ok_) | refine st_skip rfl rfl rfl ?_ | refine st_skip0 rfl rfl ?_ | (refine st_if rfl (fun hb => ?_) (fun hb => ?_) <;> (first | exact no_ hb | rw [hb])) | refine aw_seq ?_ | refine aw_region tab_ok _ rfl ?_ | refine aw_drawn2 tabS_ok _ rfl mixed (by decide +kernel) ?_ | (refine aw_cond rfl (fun hb => ?_) (fun hb => ?_) <;> (try exact no_ hb)) | refine aw_block ?_ | refine aw_exit ?_ | refine aw_ret ?_ | refine aw_skip ?_)
  refine aw_loop (fun i : Nat => [(0, .one (.c (.str t))), (3, .one (.c (.int .i64 i)))]) (fun _ => []) (fun i => i ≤ t.size ∧ (t.data.toList.take i).all prB = true) (fun i => t.size - i) 0 ⟨by omega, by simp⟩ (fun _ _ => Nat.zero_le _)
    (fits_mk (by repeat' (first | exact trivial | rfl | apply And.intro)) [] rfl ft_ ft_) ?_
  rintro i ⟨hi, hall⟩
  by_cases hlt : i < t.size
  · obtain ⟨c, hc⟩ : ∃ c, t[i]? = some c := ⟨_, getElem?_pos t i hlt⟩
    have hx : t.data.toList[i]? = some c := by
      rw [getElem?_pos t i hlt] at hc; injection hc with hc; subst hc
      have h2 : i < t.data.size := hlt
      rw [Array.getElem?_toList, Array.getElem?_eq_getElem h2]; rfl
    have hc2 : t[((i : Nat) : Int).toNat]? = some c := by simpa using hc
    have hN : decide ((i : Int) < t.size) = true := by simp; exact hlt
    repeat' (first | refine st_nil ?_ | rw [hN] | (refine st_chr rfl rfl rfl rfl rfl rfl hc2 ⟨by omega, rfl⟩ ?_) | (refine st_pop rfl rfl rfl rfl ?_ ?_; · exact ok_) | (refine st_lop rfl rfl rfl rfl ?_ ?_; · exact ok_) | (refine st_store rfl rfl rfl ?_ ?_; · exact ok_) | (refine st_lit rfl rfl rfl rfl ?_ ?_; · exact ok_) | refine st_skip rfl rfl rfl ?_ | refine st_skip0 rfl rfl ?_ | (refine st_if rfl (fun hb => ?_) (fun hb => ?_) <;> (first | exact no_ hb | rw [hb])) | refine aw_seq ?_ | refine aw_region tab_ok _ rfl ?_ | refine aw_drawn2 tabS_ok _ rfl mixed (by decide +kernel) ?_ | (refine aw_cond rfl (fun hb => ?_) (fun hb => ?_) <;> (try exact no_ hb)) | refine aw_block ?_ | refine aw_exit ?_ | refine aw_ret ?_ | refine aw_skip ?_)
    all_goals first
      | (exact ⟨i + 1, ⟨by omega, by rw [take_succ hx, List.all_append, hall]; simp_all [prB]⟩, by omega, fits_mk ⟨rfl, slot_int (wrap_eq (by omega) (by omega)), trivial⟩ [] rfl ft_ ft_⟩)
      | (refine end_ret (res_of rfl (by trivial) (vBool_eq ?_)); symm; unfold prS; rw [Bool.eq_false_iff]; intro hh; have := List.all_eq_true.1 hh c (List.mem_of_getElem? hx); simp_all [prB]; done)
  · have hN : decide ((i : Int) < t.size) = false := by simp; omega
    have htk : t.data.toList.take i = t.data.toList := List.take_of_length_le (by rw [show t.data.toList.length = t.size by simp]; omega)
    rw [htk] at hall
    repeat' (first | refine st_nil ?_ | rw [hN] | (refine st_pop rfl rfl rfl rfl ?_ ?_; · exact ok_) | (refine st_lop rfl rfl rfl rfl ?_ ?_; · exact ok_) | (refine st_store rfl rfl rfl ?_ ?_; · exact ok_) | (refine st_lit rfl rfl rfl rfl ?_ ?_; · exact ok_) | refine st_skip rfl rfl rfl ?_ | refine st_skip0 rfl rfl ?_ | (refine st_if rfl (fun hb => ?_) (fun hb => ?_) <;> (first | exact no_ hb | rw [hb])) | refine aw_seq ?_ | refine aw_region tab_ok _ rfl ?_ | refine aw_drawn2 tabS_ok _ rfl mixed (by decide +kernel) ?_ | (refine aw_cond rfl (fun hb => ?_) (fun hb => ?_) <;> (try exact no_ hb)) | refine aw_block ?_ | refine aw_exit ?_ | refine aw_ret ?_ | refine aw_skip ?_)
    exact end_ret (res_of rfl (by trivial) (vBool_eq hall.symm))
theorem valid_pure (v : Val) (ht : v.text.size ≤ 1000000000000) : Pure Tryz.prog 153 [.agg [.int .i64 v.kind, .int .i64 v.int, .str v.text]] (vBool (vvalid v)) := by
  refine pure_of_aw tab_ok Tryz.func153 rfl rfl Tryz.ntmps153 (by simp) ?_
  simp only [argT, PV.av, List.map_cons, List.map_nil]
  repeat' (first | refine st_nil ?_ | (refine st_pop rfl rfl rfl rfl ?_ ?_; · exact ok_) | (refine st_lop rfl rfl rfl rfl ?_ ?_; · exact ok_) | (refine st_store rfl rfl rfl ?_ ?_; · exact ok_) | (refine st_lit rfl rfl rfl rfl ?_ ?_; · exact ok_) | refine st_skip rfl rfl rfl ?_ | refine st_skip0 rfl rfl ?_ | refine st_call rfl rfl rfl rfl (printable_pure v.text ht) rfl ?_ | (refine st_if rfl (fun hb => ?_) (fun hb => ?_) <;> (first | exact no_ hb | rw [hb])) | refine aw_seq ?_ | refine aw_region tab_ok _ rfl ?_ | refine aw_drawn2 tabS_ok _ rfl mixed (by decide +kernel) ?_ | (refine aw_cond rfl (fun hb => ?_) (fun hb => ?_) <;> (try exact no_ hb)) | refine aw_block ?_ | refine aw_exit ?_ | refine aw_ret ?_ | refine aw_skip ?_)
  all_goals (refine end_ret (res_of rfl (by trivial) (vBool_eq ?_)); unfold vvalid e0; simp only [*, cond_true, cond_false]; try rfl)
theorem validR_pure (v : Val) (ht : v.text.size ≤ 1000000000000) : Pure Tryz.prog 125 [.agg [.int .i64 v.kind, .int .i64 v.int, .str v.text]] (vBool (vvalid v)) := by
  refine pure_of_aw tab_ok Tryz.func125 rfl rfl Tryz.ntmps125 (by simp) ?_
  simp only [argT, PV.av, List.map_cons, List.map_nil]
  repeat' (first | refine st_nil ?_ | (refine st_pop rfl rfl rfl rfl ?_ ?_; · exact ok_) | (refine st_lop rfl rfl rfl rfl ?_ ?_; · exact ok_) | (refine st_store rfl rfl rfl ?_ ?_; · exact ok_) | (refine st_lit rfl rfl rfl rfl ?_ ?_; · exact ok_) | refine st_skip rfl rfl rfl ?_ | refine st_skip0 rfl rfl ?_ | refine st_call rfl rfl rfl rfl (printableR_pure v.text ht) rfl ?_ | (refine st_if rfl (fun hb => ?_) (fun hb => ?_) <;> (first | exact no_ hb | rw [hb])) | refine aw_seq ?_ | refine aw_region tab_ok _ rfl ?_ | refine aw_drawn2 tabS_ok _ rfl mixed (by decide +kernel) ?_ | (refine aw_cond rfl (fun hb => ?_) (fun hb => ?_) <;> (try exact no_ hb)) | refine aw_block ?_ | refine aw_exit ?_ | refine aw_ret ?_ | refine aw_skip ?_)
  all_goals (refine end_ret (res_of rfl (by trivial) (vBool_eq ?_)); unfold vvalid e0; simp only [*, cond_true, cond_false]; try rfl)
def nullV : Val := ⟨0, 0, ⟨#[]⟩⟩
theorem null_pure : Pure Tryz.prog 94 [] (.val (.agg [.int .i64 0, .int .i64 0, .str ⟨#[]⟩])) := by
  refine pure_of_aw tab_ok Tryz.func94 rfl rfl Tryz.ntmps94 (by simp) ?_
  simp only [argT, PV.av, List.map_cons, List.map_nil]
  repeat' (first | refine st_nil ?_ | (refine st_pop rfl rfl rfl rfl ?_ ?_; · exact ok_) | (refine st_lop rfl rfl rfl rfl ?_ ?_; · exact ok_) | (refine st_store rfl rfl rfl ?_ ?_; · exact ok_) | (refine st_lit rfl rfl rfl rfl ?_ ?_; · exact ok_) | refine st_skip rfl rfl rfl ?_ | refine st_skip0 rfl rfl ?_ | (refine st_if rfl (fun hb => ?_) (fun hb => ?_) <;> (first | exact no_ hb | rw [hb])) | refine aw_seq ?_ | refine aw_region tab_ok _ rfl ?_ | refine aw_drawn2 tabS_ok _ rfl mixed (by decide +kernel) ?_ | (refine aw_cond rfl (fun hb => ?_) (fun hb => ?_) <;> (try exact no_ hb)) | refine aw_block ?_ | refine aw_exit ?_ | refine aw_ret ?_ | refine aw_skip ?_)
  all_goals (refine end_ret ?_; refine res_of rfl ⟨Nat.le_refl 3, trivial⟩ rfl)
theorem nullR_pure : Pure Tryz.prog 101 [] (.val (.agg [.int .i64 0, .int .i64 0, .str ⟨#[]⟩])) := by
  refine pure_of_aw tab_ok Tryz.func101 rfl rfl Tryz.ntmps101 (by simp) ?_
  simp only [argT, PV.av, List.map_cons, List.map_nil]
  repeat' (first | refine st_nil ?_ | (refine st_pop rfl rfl rfl rfl ?_ ?_; · exact ok_) | (refine st_lop rfl rfl rfl rfl ?_ ?_; · exact ok_) | (refine st_store rfl rfl rfl ?_ ?_; · exact ok_) | (refine st_lit rfl rfl rfl rfl ?_ ?_; · exact ok_) | refine st_skip rfl rfl rfl ?_ | refine st_skip0 rfl rfl ?_ | (refine st_if rfl (fun hb => ?_) (fun hb => ?_) <;> (first | exact no_ hb | rw [hb])) | refine aw_seq ?_ | refine aw_region tab_ok _ rfl ?_ | refine aw_drawn2 tabS_ok _ rfl mixed (by decide +kernel) ?_ | (refine aw_cond rfl (fun hb => ?_) (fun hb => ?_) <;> (try exact no_ hb)) | refine aw_block ?_ | refine aw_exit ?_ | refine aw_ret ?_ | refine aw_skip ?_)
  all_goals (refine end_ret ?_; refine res_of rfl ⟨Nat.le_refl 3, trivial⟩ rfl)
def orNullV (v : Val) : Val := bif vvalid v then v else nullV
def cvV (v : Val) : CV := .val (.agg [.int .i64 v.kind, .int .i64 v.int, .str v.text])
theorem cvV_eq {v w : Val} (h : v = w) : cvV v = cvV w := by rw [h]
theorem orNull_pure (v : Val) (ht : v.text.size ≤ 1000000000000) : Pure Tryz.prog 129 [.agg [.int .i64 v.kind, .int .i64 v.int, .str v.text]] (cvV (orNullV v)) := by
  refine pure_of_aw tab_ok Tryz.func129 rfl rfl Tryz.ntmps129 (by simp) ?_
  simp only [argT, PV.av, List.map_cons, List.map_nil]
  repeat' (first | refine st_nil ?_ | (refine st_pop rfl rfl rfl rfl ?_ ?_; · exact ok_) | (refine st_lop rfl rfl rfl rfl ?_ ?_; · exact ok_) | (refine st_store rfl rfl rfl ?_ ?_; · exact ok_) | (refine st_lit rfl rfl rfl rfl ?_ ?_; · exact ok_) | refine st_skip rfl rfl rfl ?_ | refine st_skip0 rfl rfl ?_ | refine st_call rfl rfl rfl rfl (valid_pure v ht) rfl ?_ | refine st_call rfl rfl rfl rfl null_pure rfl ?_ | (refine st_if rfl (fun hb => ?_) (fun hb => ?_) <;> (first | exact no_ hb | rw [hb])) | refine aw_seq ?_ | refine aw_region tab_ok _ rfl ?_ | refine aw_drawn2 tabS_ok _ rfl mixed (by decide +kernel) ?_ | (refine aw_cond rfl (fun hb => ?_) (fun hb => ?_) <;> (try exact no_ hb)) | refine aw_block ?_ | refine aw_exit ?_ | refine aw_ret ?_ | refine aw_skip ?_)
  all_goals have h0 := hb
  all_goals simp only [Bool.not_eq_true', Bool.not_eq_false'] at h0
  all_goals (refine end_ret ?_; refine res_of (r := cvV _) rfl ⟨Nat.le_refl 3, trivial⟩ ?_)
  all_goals unfold orNullV
  all_goals rw [h0]
  all_goals rfl
theorem vint_pure (n : Int) : Pure Tryz.prog 93 [.one (.int .i64 n)] (cvV (orNullV ⟨1, n, ⟨#[]⟩⟩)) := by
  refine pure_of_aw tab_ok Tryz.func93 rfl rfl Tryz.ntmps93 (by simp) ?_
  simp only [argT, PV.av, List.map_cons, List.map_nil]
  have h1 := orNull_pure ⟨1, n, ⟨#[]⟩⟩ (Nat.zero_le _)
  repeat' (first | refine st_nil ?_ | (refine st_pop rfl rfl rfl rfl ?_ ?_; · exact ok_) | (refine st_lop rfl rfl rfl rfl ?_ ?_; · exact ok_) | (refine st_store rfl rfl rfl ?_ ?_; · exact ok_) | (refine st_lit rfl rfl rfl rfl ?_ ?_; · exact ok_) | refine st_skip rfl rfl rfl ?_ | refine st_skip0 rfl rfl ?_ | refine st_call rfl rfl rfl rfl h1 rfl ?_ | (refine st_if rfl (fun hb => ?_) (fun hb => ?_) <;> (first | exact no_ hb | rw [hb])) | refine aw_seq ?_ | refine aw_region tab_ok _ rfl ?_ | refine aw_drawn2 tabS_ok _ rfl mixed (by decide +kernel) ?_ | (refine aw_cond rfl (fun hb => ?_) (fun hb => ?_) <;> (try exact no_ hb)) | refine aw_block ?_ | refine aw_exit ?_ | refine aw_ret ?_ | refine aw_skip ?_)
  all_goals (refine end_ret ?_; refine res_of rfl ⟨Nat.le_refl 3, trivial⟩ rfl)
def atV (r : List Val) (i : Int) : Val := if 0 ≤ i then (r[i.toNat]?).getD nullV else nullV
theorem at_pure (r : List Val) (i : Int) (hr : r.length ≤ 1000000) : Pure Tryz.prog 92 [.one (tRow r), .one (.int .i64 i)] (cvV (atV r i)) := by
  refine pure_of_aw tab_ok Tryz.func92 rfl rfl Tryz.ntmps92 (by simp) ?_
  simp only [argT, PV.av, List.map_cons, List.map_nil]
  have hml : (((r.map cV).length : Nat) : Int) = r.length := by simp
  have fin : ∀ {T : Tm} {L : List Ob} {w : Val}, w = atV r i → Res tab Tryz.f92.results.toList T L (cvV w) → Res tab Tryz.f92.results.toList T L (cvV (atV r i)) := fun e h => by rw [← e]; exact h
  by_cases h1 : i < 0
  · have hA : decide (i < 0) = true := by simp [h1]
    have hv : nullV = atV r i := by unfold atV; rw [if_neg (by omega)]
    repeat' (first | refine st_nil ?_ | rw [hA] | (refine st_pop rfl rfl rfl rfl ?_ ?_; · exact ok_) | (refine st_lop rfl rfl rfl rfl ?_ ?_; · exact ok_) | (refine st_store rfl rfl rfl ?_ ?_; · exact ok_) | (refine st_lit rfl rfl rfl rfl ?_ ?_; · exact ok_) | refine st_skip rfl rfl rfl ?_ | refine st_skip0 rfl rfl ?_ | refine st_call rfl rfl rfl rfl null_pure rfl ?_ | (refine st_if rfl (fun hb => ?_) (fun hb => ?_) <;> (first | exact no_ hb | rw [hb])) | refine aw_seq ?_ | refine aw_region tab_ok _ rfl ?_ | refine aw_drawn2 tabS_ok _ rfl mixed (by decide +kernel) ?_ | (refine aw_cond rfl (fun hb => ?_) (fun hb => ?_) <;> (try exact no_ hb)) | refine aw_block ?_ | refine aw_exit ?_ | refine aw_ret ?_ | refine aw_skip ?_)
    exact end_ret (fin hv (res_of rfl ⟨Nat.le_refl 3, trivial⟩ rfl))
  · have hA : decide (i < 0) = false := by simp [h1]
    by_cases h2 : i < r.length
    · obtain ⟨x, hx⟩ := get_of_lt (show i.toNat < r.length by omega)
      have hB : decide ((((r.map cV).length : Nat) : Int) ≤ i) = false := by rw [hml]; simp; exact h2
      have hv : x = atV r i := by unfold atV; rw [if_pos (by omega), hx]; rfl
      have hx2 : (r.map cV)[i.toNat]? = some (cV x) := by rw [List.getElem?_map, hx]; rfl
      repeat' (first | refine st_nil ?_ | rw [hA] | rw [hB] | (refine st_pop rfl rfl rfl rfl ?_ ?_; · exact ok_) | (refine st_idx rfl rfl rfl rfl rfl rfl rfl rfl hx2 ?_ ?_; · exact ⟨by omega, rfl⟩) | (refine st_lop rfl rfl rfl rfl ?_ ?_; · exact ok_) | (refine st_store rfl rfl rfl ?_ ?_; · exact ok_) | (refine st_lit rfl rfl rfl rfl ?_ ?_; · exact ok_) | refine st_skip rfl rfl rfl ?_ | refine st_skip0 rfl rfl ?_ | (refine st_if rfl (fun hb => ?_) (fun hb => ?_) <;> (first | exact no_ hb | rw [hb])) | refine aw_seq ?_ | refine aw_region tab_ok _ rfl ?_ | refine aw_drawn2 tabS_ok _ rfl mixed (by decide +kernel) ?_ | (refine aw_cond rfl (fun hb => ?_) (fun hb => ?_) <;> (try exact no_ hb)) | refine aw_block ?_ | refine aw_exit ?_ | refine aw_ret ?_ | refine aw_skip ?_)
      exact end_ret (fin hv (res_of rfl ⟨Nat.le_refl 3, trivial⟩ rfl))
    · have hB : decide ((((r.map cV).length : Nat) : Int) ≤ i) = true := by rw [hml]; simp; omega
      have hv : nullV = atV r i := by unfold atV; rw [if_pos (by omega), List.getElem?_eq_none (by omega)]; rfl
      repeat' (first | refine st_nil ?_ | rw [hA] | rw [hB] | (refine st_pop rfl rfl rfl rfl ?_ ?_; · exact ok_) | (refine st_lop rfl rfl rfl rfl ?_ ?_; · exact ok_) | (refine st_store rfl rfl rfl ?_ ?_; · exact ok_) | (refine st_lit rfl rfl rfl rfl ?_ ?_; · exact ok_) | refine st_skip rfl rfl rfl ?_ | refine st_skip0 rfl rfl ?_ | refine st_call rfl rfl rfl rfl null_pure rfl ?_ | (refine st_if rfl (fun hb => ?_) (fun hb => ?_) <;> (first | exact no_ hb | rw [hb])) | refine aw_seq ?_ | refine aw_region tab_ok _ rfl ?_ | refine aw_drawn2 tabS_ok _ rfl mixed (by decide +kernel) ?_ | (refine aw_cond rfl (fun hb => ?_) (fun hb => ?_) <;> (try exact no_ hb)) | refine aw_block ?_ | refine aw_exit ?_ | refine aw_ret ?_ | refine aw_skip ?_)
      exact end_ret (fin hv (res_of rfl ⟨Nat.le_refl 3, trivial⟩ rfl))
def pickV (r : List Val) (l : List Int) : List Val := l.map (atV r)
theorem ints_wide (l : List Int) : ∀ e ∈ l.map (fun x => [AC.int .i64 x]), e.length = 1 := by intro e he; obtain ⟨x, _, rfl⟩ := List.mem_map.1 he; rfl
theorem pick_pure (r : List Val) (l : List Int) (hr : r.length ≤ 1000000) (hl : l.length ≤ 1000000) : Pure Tryz.prog 55 [.one (tRow r), .one (tInts l)] (.val (.one (tRow (pickV r l)))) := by
  refine pure_of_aw tab_ok Tryz.func55 rfl rfl Tryz.ntmps55 (by simp) ?_
  simp only [argT, PV.av, List.map_cons, List.map_nil]
  obtain ⟨n, hn⟩ : ∃ n, l.length = n := ⟨_, rfl⟩
  have hml : (((l.map fun x => [AC.int .i64 x]).length : Nat) : Int) = n := by simp [hn]
  repeat' (first | refine st_nil ?_ | (refine st_sop rfl rfl rfl rfl rfl (sop_makeOwn tab_ok (k := 3) (by_ := 32) rfl rfl rfl rfl rfl rfl (by decide) (by omega) (by rw [hml]; omega) (by rw [hml]; omega)) ?_) | (refine st_pop rfl rfl rfl rfl ?_ ?_; · exact ok_) | (refine st_lop rfl rfl rfl rfl ?_ ?_; · exact ok_) | (refine st_store rfl rfl rfl ?_ ?_; · exact ok_) | (refine st_lit rfl rfl rfl rfl ?_ ?_; · exact ok_) | refine st_skip rfl rfl rfl ?_ | refine st_skip0 rfl rfl ?_ | (refine st_if rfl (fun hb => ?_) (fun hb => ?_) <;> (first | exact no_ hb | rw [hb])) | refine aw_seq ?_ | refine aw_region tab_ok _ rfl ?_ | refine aw_drawn2 tabS_ok _ rfl mixed (by decide +kernel) ?_ | (refine aw_cond rfl (fun hb => ?_) (fun hb => ?_) <;> (try exact no_ hb)) | refine aw_block ?_ | refine aw_exit ?_ | refine aw_ret ?_ | refine aw_skip ?_)
  refine aw_loop (fun i : Nat => [(0, .one (.c (tRow r))), (5, .one (.own ((pickV r (l.take i)).map cV) 0)), (11, .one (.c (tInts l))), (12, .one (.c (.int .i64 n))), (13, .one (.c (.int .i64 i)))]) (fun i => [.spare i 3]) (fun i => i ≤ n) (fun i => n - i) 0 (by omega) (fun _ _ => Nat.zero_le _)
    (fits_mk ⟨rfl, rfl, rfl, slot_int hml, rfl, trivial⟩ [] rfl ⟨trivial, by show 0 < 1; omega, trivial, trivial, trivial, trivial⟩ ⟨trivial, trivial⟩) ?_
  intro i hi
  by_cases hlt : i < n
  · obtain ⟨x, hx⟩ := get_of_lt (show i < l.length by omega)
    have hlen : ((pickV r (l.take i)).map cV).length = i := by simp [pickV]; omega
    have hnx : (pickV r (l.take (i + 1))).map cV = (pickV r (l.take i)).map cV ++ [cV (atV r x)] := by rw [take_succ hx]; simp [pickV]
    repeat' (first | refine st_nil ?_ | (refine st_pop rfl rfl rfl rfl ?_ ?_; · (repeat' (first | exact trivial | rfl | exact Nat.le_of_ble_eq_true rfl | omega | (intro e he; simp at he; subst he; rfl) | exact hlen | (show (_ + 1) * 32 ≤ _; omega) | (show _ + 1 ≤ _; omega) | apply And.intro))) | (refine st_idx rfl rfl rfl rfl rfl rfl rfl rfl (idx_map hx) ?_ ?_; · exact ⟨by omega, rfl⟩) | (refine st_lop rfl rfl rfl rfl ?_ ?_; · (repeat' (first | exact trivial | rfl | exact Nat.le_of_ble_eq_true rfl | omega | (intro e he; simp at he; subst he; rfl) | exact hlen | (show (_ + 1) * 32 ≤ _; omega) | (show _ + 1 ≤ _; omega) | apply And.intro))) | (refine st_store rfl rfl rfl ?_ ?_; · (repeat' (first | exact trivial | rfl | exact Nat.le_of_ble_eq_true rfl | omega | (intro e he; simp at he; subst he; rfl) | exact hlen | (show (_ + 1) * 32 ≤ _; omega) | (show _ + 1 ≤ _; omega) | apply And.intro))) | (refine st_lit rfl rfl rfl rfl ?_ ?_; · (repeat' (first | exact trivial | rfl | exact Nat.le_of_ble_eq_true rfl | omega | (intro e he; simp at he; subst he; rfl) | exact hlen | (show (_ + 1) * 32 ≤ _; omega) | (show _ + 1 ≤ _; omega) | apply And.intro))) | refine st_skip rfl rfl rfl ?_ | refine st_skip0 rfl rfl ?_ | refine st_call rfl rfl rfl rfl (at_pure r x hr) rfl ?_ | (refine st_if rfl (fun hb => ?_) (fun hb => ?_) <;> (first | exact no_ hb | rw [hb])) | refine aw_seq ?_ | refine aw_region tab_ok _ rfl ?_ | refine aw_drawn2 tabS_ok _ rfl mixed (by decide +kernel) ?_ | (refine aw_cond rfl (fun hb => ?_) (fun hb => ?_) <;> (try exact no_ hb)) | refine aw_block ?_ | refine aw_exit ?_ | refine aw_ret ?_ | refine aw_skip ?_)
    exact ⟨i + 1, by omega, by omega, fits_mk ⟨rfl, slot_own (by rw [hnx]; rfl), rfl, rfl, slot_int (wrap_eq (by omega) (by omega)), trivial⟩ [] rfl ⟨trivial, by show 0 < 1; omega, trivial, trivial, trivial, trivial⟩ ⟨trivial, trivial⟩⟩
  · have htk : l.take i = l := List.take_of_length_le (by omega)
    rw [htk]
    repeat' (first | refine st_nil ?_ | (refine st_pop rfl rfl rfl rfl ?_ ?_; · exact ok_) | (refine st_lop rfl rfl rfl rfl ?_ ?_; · exact ok_) | (refine st_store rfl rfl rfl ?_ ?_; · exact ok_) | (refine st_lit rfl rfl rfl rfl ?_ ?_; · exact ok_) | refine st_skip rfl rfl rfl ?_ | refine st_skip0 rfl rfl ?_ | (refine st_if rfl (fun hb => ?_) (fun hb => ?_) <;> (first | exact no_ hb | rw [hb])) | refine aw_seq ?_ | refine aw_region tab_ok _ rfl ?_ | refine aw_drawn2 tabS_ok _ rfl mixed (by decide +kernel) ?_ | (refine aw_cond rfl (fun hb => ?_) (fun hb => ?_) <;> (try exact no_ hb)) | refine aw_block ?_ | refine aw_exit ?_ | refine aw_ret ?_ | refine aw_skip ?_)
    exact end_ret (res_of rfl (by trivial) rfl)
end Go.Proofs.YtfpbmfalamappaaGreatDoor

namespace Go.Proofs.YtfpbmfalamappaaGreatDoor
open Go.RowKit Go.MapKept
set_option maxRecDepth 100000
theorem valid_any (v : Val) : Pure Tryz.prog 153 [.agg [.int .i64 v.kind, .int .i64 v.int, .str v.text]] (vBool (vvalid v)) := by
  by_cases ht : v.text.size ≤ 1000000000000
  · exact valid_pure v ht
  refine pure_of_aw tab_ok Tryz.func153 rfl rfl Tryz.ntmps153 (by simp) ?_
  simp only [argT, PV.av, List.map_cons, List.map_nil]
  repeat' (first | refine st_nil ?_ | (refine st_pop rfl rfl rfl rfl ?_ ?_; · exact ok_) | (refine st_lop rfl rfl rfl rfl ?_ ?_; · exact ok_) | (refine st_store rfl rfl rfl ?_ ?_; · exact ok_) | (refine st_lit rfl rfl rfl rfl ?_ ?_; · exact ok_) | refine st_skip rfl rfl rfl ?_ | refine st_skip0 rfl rfl ?_ | (refine st_if rfl (fun hb => ?_) (fun hb => ?_) <;> (first | exact no_ hb | rw [hb])) | refine aw_seq ?_ | refine aw_region tab_ok _ rfl ?_ | refine aw_drawn2 tabS_ok _ rfl mixed (by decide +kernel) ?_ | (refine aw_cond rfl (fun hb => ?_) (fun hb => ?_) <;> (try exact no_ hb)) | refine aw_block ?_ | refine aw_exit ?_ | refine aw_ret ?_ | refine aw_skip ?_)
  all_goals (refine end_ret (res_of rfl (by trivial) (vBool_eq ?_)); unfold vvalid e0; simp only [*, cond_true, cond_false]; try rfl)
theorem validR_any (v : Val) : Pure Tryz.prog 125 [.agg [.int .i64 v.kind, .int .i64 v.int, .str v.text]] (vBool (vvalid v)) := by
  by_cases ht : v.text.size ≤ 1000000000000
  · exact validR_pure v ht
  refine pure_of_aw tab_ok Tryz.func125 rfl rfl Tryz.ntmps125 (by simp) ?_
  simp only [argT, PV.av, List.map_cons, List.map_nil]
  repeat' (first | refine st_nil ?_ | (refine st_pop rfl rfl rfl rfl ?_ ?_; · exact ok_) | (refine st_lop rfl rfl rfl rfl ?_ ?_; · exact ok_) | (refine st_store rfl rfl rfl ?_ ?_; · exact ok_) | (refine st_lit rfl rfl rfl rfl ?_ ?_; · exact ok_) | refine st_skip rfl rfl rfl ?_ | refine st_skip0 rfl rfl ?_ | (refine st_if rfl (fun hb => ?_) (fun hb => ?_) <;> (first | exact no_ hb | rw [hb])) | refine aw_seq ?_ | refine aw_region tab_ok _ rfl ?_ | refine aw_drawn2 tabS_ok _ rfl mixed (by decide +kernel) ?_ | (refine aw_cond rfl (fun hb => ?_) (fun hb => ?_) <;> (try exact no_ hb)) | refine aw_block ?_ | refine aw_exit ?_ | refine aw_ret ?_ | refine aw_skip ?_)
  all_goals (refine end_ret (res_of rfl (by trivial) (vBool_eq ?_)); unfold vvalid e0; simp only [*, cond_true, cond_false]; try rfl)
end Go.Proofs.YtfpbmfalamappaaGreatDoor

namespace Go.Proofs.YtfpbmfalamappaaGreatDoor
open Go.RowKit Go.MapKept
set_option maxRecDepth 100000
theorem box3_below {n : Nat} {x y z : AC} : (Ob.box [.c x, .c y, .c z]).below n := by
  intro w hw
  rcases List.mem_cons.1 hw with rfl | hw
  · trivial
  rcases List.mem_cons.1 hw with rfl | hw
  · trivial
  rcases List.mem_cons.1 hw with rfl | hw
  · trivial
  cases hw
def andM (x : Int) : Int := IntKind.i64.wrap (BitVec.ofInt IntKind.i64.bits x &&& BitVec.ofInt IntKind.i64.bits 1048575).toNat
def shr20 (x : Int) : Int := x.fdiv (2 ^ (min (20 : Int).toNat IntKind.i64.bits))
def shl20 (x : Int) : Int := IntKind.i64.wrap (x * 2 ^ (min (20 : Int).toNat IntKind.i64.bits))
def sumStep (s : Int × Int) (v : Val) : Int × Int := (IntKind.i64.wrap (s.1 + shr20 v.int), IntKind.i64.wrap (s.2 + andM v.int))
def sumEnd (s : Int × Int) : Val :=
  bif (bif decide (IntKind.i64.wrap (s.1 + shr20 s.2) < -2147483648) then true else decide (2147483648 < IntKind.i64.wrap (s.1 + shr20 s.2))) then nullV
  else bif (bif decide (IntKind.i64.wrap (shl20 (IntKind.i64.wrap (s.1 + shr20 s.2)) + andM s.2) < -1125899906842624) then true else decide (1125899906842624 < IntKind.i64.wrap (shl20 (IntKind.i64.wrap (s.1 + shr20 s.2)) + andM s.2))) then nullV
  else orNullV ⟨1, IntKind.i64.wrap (shl20 (IntKind.i64.wrap (s.1 + shr20 s.2)) + andM s.2), ⟨#[]⟩⟩
def sumV (l : List Val) : Val := sumEnd (l.foldl sumStep (0, 0))
theorem sum_pure (l : List Val) (hl : l.length ≤ 1000000) : Pure Tryz.prog 95 [.one (tRow l)] (cvV (sumV l)) := by
  refine pure_of_aw tab_ok Tryz.func95 rfl rfl Tryz.ntmps95 (by simp) ?_
  simp only [argT, PV.av, List.map_cons, List.map_nil]
  obtain ⟨n, hn⟩ : ∃ n, l.length = n := ⟨_, rfl⟩
  have hml : (((l.map cV).length : Nat) : Int) = n := by simp [hn]
  have fin : ∀ {T : Tm} {L : List Ob} {w : Val}, w = sumV l → Res tab Tryz.f95.results.toList T L (cvV w) → Res tab Tryz.f95.results.toList T L (cvV (sumV l)) := fun e h => by rw [← e]; exact h
  repeat' (first | refine st_nil ?_ | (refine st_pop rfl rfl rfl rfl ?_ ?_; · exact ok_) | (refine st_lop rfl rfl rfl rfl ?_ ?_; · exact ok_) | (refine st_store rfl rfl rfl ?_ ?_; · exact ok_) | (refine st_lit rfl rfl rfl rfl ?_ ?_; · exact ok_) | refine st_skip rfl rfl rfl ?_ | refine st_skip0 rfl rfl ?_ | (refine st_if rfl (fun hb => ?_) (fun hb => ?_) <;> (first | exact no_ hb | rw [hb])) | refine aw_seq ?_ | refine aw_region tab_ok _ rfl ?_ | refine aw_drawn2 tabS_ok _ rfl mixed (by decide +kernel) ?_ | (refine aw_cond rfl (fun hb => ?_) (fun hb => ?_) <;> (try exact no_ hb)) | refine aw_block ?_ | refine aw_exit ?_ | refine aw_ret ?_ | refine aw_skip ?_)
  refine aw_loop (fun i : Nat => [(2, .one (.ptr 0 0)), (3, .one (.c (.int .i64 ((l.take i).foldl sumStep (0, 0)).1))), (4, .one (.c (.int .i64 ((l.take i).foldl sumStep (0, 0)).2))), (8, .one (.c (tRow l))), (9, .one (.c (.int .i64 n))), (10, .one (.c (.int .i64 i)))]) (fun i => [.box [.c (.int .i64 0), .c (.int .i64 0), .c (.str ⟨#[]⟩)]]) (fun i => i ≤ n) (fun i => n - i) 0 (by omega) (fun _ _ => Nat.zero_le _)
    (fits_mk ⟨rfl, rfl, rfl, rfl, slot_int hml, rfl, trivial⟩ [] rfl ⟨by show 0 < 1; omega, trivial, trivial, trivial, trivial, trivial, trivial⟩ ⟨box3_below, trivial⟩) ?_
  intro i hi
  by_cases hlt : i < n
  · obtain ⟨x, hx⟩ := get_of_lt (show i < l.length by omega)
    have hnx : (l.take (i + 1)).foldl sumStep (0, 0) = sumStep ((l.take i).foldl sumStep (0, 0)) x := by rw [take_succ hx, List.foldl_append]; rfl
    generalize (l.take i).foldl sumStep (0, 0) = S at hnx
    repeat' (first | refine st_nil ?_ | (refine st_pop rfl rfl rfl rfl ?_ ?_; · exact ok_) | (refine st_idx rfl rfl rfl rfl rfl rfl rfl rfl (idx_map hx) ?_ ?_; · exact ⟨by omega, rfl⟩) | (refine st_lop rfl rfl rfl rfl ?_ ?_; · exact ok_) | (refine st_store rfl rfl rfl ?_ ?_; · exact ok_) | (refine st_lit rfl rfl rfl rfl ?_ ?_; · exact ok_) | refine st_skip rfl rfl rfl ?_ | refine st_skip0 rfl rfl ?_ | (refine st_if rfl (fun hb => ?_) (fun hb => ?_) <;> (first | exact no_ hb | rw [hb])) | refine aw_seq ?_ | refine aw_region tab_ok _ rfl ?_ | refine aw_drawn2 tabS_ok _ rfl mixed (by decide +kernel) ?_ | (refine aw_cond rfl (fun hb => ?_) (fun hb => ?_) <;> (try exact no_ hb)) | refine aw_block ?_ | refine aw_exit ?_ | refine aw_ret ?_ | refine aw_skip ?_)
    exact ⟨i + 1, by omega, by omega, fits_mk ⟨rfl, by rw [hnx]; rfl, by rw [hnx]; rfl, rfl, rfl, slot_int (wrap_eq (by omega) (by omega)), trivial⟩ [_] rfl ⟨by show 0 < 1; omega, trivial, trivial, trivial, trivial, trivial, trivial⟩ ⟨box3_below, trivial⟩⟩
  · have htk : l.take i = l := List.take_of_length_le (by omega)
    rw [htk]
    have hS : sumV l = sumEnd (l.foldl sumStep (0, 0)) := rfl
    generalize l.foldl sumStep (0, 0) = S at hS
    repeat' (first | refine st_nil ?_ | (refine st_pop rfl rfl rfl rfl ?_ ?_; · exact ok_) | (refine st_lop rfl rfl rfl rfl ?_ ?_; · exact ok_) | (refine st_store rfl rfl rfl ?_ ?_; · exact ok_) | (refine st_lit rfl rfl rfl rfl ?_ ?_; · exact ok_) | refine st_skip rfl rfl rfl ?_ | refine st_skip0 rfl rfl ?_ | refine st_call rfl rfl rfl rfl null_pure rfl ?_ | refine st_call rfl rfl rfl rfl (vint_pure _) rfl ?_ | (refine st_if rfl (fun hb => ?_) (fun hb => ?_) <;> (first | exact no_ hb | rw [hb])) | refine aw_seq ?_ | refine aw_region tab_ok _ rfl ?_ | refine aw_drawn2 tabS_ok _ rfl mixed (by decide +kernel) ?_ | (refine aw_cond rfl (fun hb => ?_) (fun hb => ?_) <;> (try exact no_ hb)) | refine aw_block ?_ | refine aw_exit ?_ | refine aw_ret ?_ | refine aw_skip ?_)
    all_goals first
      | exact end_ret (fin (w := nullV) (by rw [hS]; unfold sumEnd shl20 shr20 andM; simp only [*, cond_true, cond_false]) (res_of rfl ⟨Nat.le_refl 3, trivial⟩ rfl))
      | exact end_ret (fin (w := orNullV ⟨1, _, ⟨#[]⟩⟩) (by rw [hS]; unfold sumEnd shl20 shr20 andM; simp only [*, cond_true, cond_false]) (res_of rfl ⟨Nat.le_refl 3, trivial⟩ rfl))
end Go.Proofs.YtfpbmfalamappaaGreatDoor

namespace Go.Proofs.YtfpbmfalamappaaGreatDoor
open Go.RowKit Go.MapKept
set_option maxRecDepth 100000
/-- The values of a column that are no nulls. -/
def colStep (arg : Int) (acc : List Val) (r : List Val) : List Val :=
  bif decide (arg < r.length) then (match r[arg.toNat]? with
    | some v => bif decide (v.kind ≠ 0) then acc ++ [v] else acc
    | none => acc) else acc
def colV (arg : Int) (rows : List (List Val)) : List Val := rows.foldl (colStep arg) []
def bestStep (op : Int) (o v : Val) : Val := bif (bif (bif decide (op = 3) then decide (vcmp v o < 0) else false) then true else (bif decide (op = 4) then decide (0 < vcmp v o) else false)) then v else o
def aggV (op arg : Int) (rows : List (List Val)) : Val :=
  bif decide (arg < 0) then orNullV ⟨1, rows.length, ⟨#[]⟩⟩ else bif decide (op = 1) then orNullV ⟨1, (colV arg rows).length, ⟨#[]⟩⟩ else match colV arg rows with
    | [] => nullV
    | x :: l => bif decide (op = 2) then sumV (x :: l) else (x :: l).foldl (bestStep op) x
theorem col_len (arg : Int) (rows : List (List Val)) : (colV arg rows).length ≤ rows.length := by
  have : ∀ (rows : List (List Val)) (acc : List Val), (rows.foldl (colStep arg) acc).length ≤ acc.length + rows.length := by
    intro rows
    induction rows with
    | nil => intro acc; simp
    | cons r rows ih =>
      intro acc
      rw [List.foldl_cons]
      have h1 := ih (colStep arg acc r)
      have h2 : (colStep arg acc r).length ≤ acc.length + 1 := by
        unfold colStep
        cases decide (arg < (r.length : Int)) with
        | false => simp
        | true =>
          simp only [cond_true]
          split
          · rename_i v _
            cases decide (v.kind ≠ 0) <;> simp
          · omega
      simp only [List.length_cons]; omega
  have := this rows []
  simpa [colV] using this
set_option maxHeartbeats 2000000 in
theorem agg_pure (op arg : Int) (rows : List (List Val)) (hl : rows.length ≤ 1000000) (hr : ∀ r ∈ rows, r.length ≤ 1000000) : Pure Tryz.prog 56 [.one (tRows rows), .agg [.int .i64 op, .int .i64 arg]] (cvV (aggV op arg rows)) := by
  refine pure_of_aw tab_ok Tryz.func56 rfl rfl Tryz.ntmps56 (by simp) ?_
  simp only [argT, PV.av, List.map_cons, List.map_nil]
  obtain ⟨n, hn⟩ : ∃ n, rows.length = n := ⟨_, rfl⟩
  have hml : (((rows.map fun r => [tRow r]).length : Nat) : Int) = n := by simp [hn]
  have fin : ∀ {T : Tm} {L : List Ob} {w : Val}, w = aggV op arg rows → Res tab Tryz.f56.results.toList T L (cvV w) → Res tab Tryz.f56.results.toList T L (cvV (aggV op arg rows)) := fun e h => by rw [← e]; exact h
  have e1 : Pure Tryz.prog 93 [.one (.int .i64 ((rows.map fun r => [tRow r]).length : Nat))] (cvV (orNullV ⟨1, rows.length, ⟨#[]⟩⟩)) := by
    have := vint_pure rows.length
    simpa using this
  by_cases ha : arg < 0
  · have hA : decide (arg < 0) = true := by simp [ha]
    repeat' (first | refine st_nil ?_ | rw [hA] | (refine st_pop rfl rfl rfl rfl ?_ ?_; · exact ok_) | (refine st_lop rfl rfl rfl rfl ?_ ?_; · exact ok_) | (refine st_store rfl rfl rfl ?_ ?_; · exact ok_) | (refine st_lit rfl rfl rfl rfl ?_ ?_; · exact ok_) | refine st_skip rfl rfl rfl ?_ | refine st_skip0 rfl rfl ?_ | refine st_call rfl rfl rfl rfl e1 rfl ?_ | (refine st_if rfl (fun hb => ?_) (fun hb => ?_) <;> (first | exact no_ hb | rw [hb])) | refine aw_seq ?_ | refine aw_region tab_ok _ rfl ?_ | refine aw_drawn2 tabS_ok _ rfl mixed (by decide +kernel) ?_ | (refine aw_cond rfl (fun hb => ?_) (fun hb => ?_) <;> (try exact no_ hb)) | refine aw_block ?_ | refine aw_exit ?_ | refine aw_ret ?_ | refine aw_skip ?_)
    all_goals exact end_ret (fin (w := orNullV ⟨1, rows.length, ⟨#[]⟩⟩) (by unfold aggV; rw [hA, cond_true]) (res_of rfl ⟨Nat.le_refl 3, trivial⟩ rfl))
  · have hA : decide (arg < 0) = false := by simp [ha]
    repeat' (first | refine st_nil ?_ | rw [hA] | (refine st_pop rfl rfl rfl rfl ?_ ?_; · exact ok_) | (refine st_lop rfl rfl rfl rfl ?_ ?_; · exact ok_) | (refine st_store rfl rfl rfl ?_ ?_; · exact ok_) | (refine st_lit rfl rfl rfl rfl ?_ ?_; · exact ok_) | refine st_skip rfl rfl rfl ?_ | refine st_skip0 rfl rfl ?_ | (refine st_if rfl (fun hb => ?_) (fun hb => ?_) <;> (first | exact no_ hb | rw [hb])) | refine aw_seq ?_ | refine aw_region tab_ok _ rfl ?_ | refine aw_drawn2 tabS_ok _ rfl mixed (by decide +kernel) ?_ | (refine aw_cond rfl (fun hb => ?_) (fun hb => ?_) <;> (try exact no_ hb)) | refine aw_block ?_ | refine aw_exit ?_ | refine aw_ret ?_ | refine aw_skip ?_)
    refine aw_tok 5 3 rfl ?_
    refine aw_loop (fun i : Nat => [(3, .one (.ptr 0 0)), (4, .one (.ptr 1 0)), (5, .one (.own ((colV arg (rows.take i)).map cV) 2)), (18, .one (.c (tRows rows))), (19, .one (.c (.int .i64 n))), (20, .one (.c (.int .i64 i)))]) (fun i => [.box [.c (.int .i64 op), .c (.int .i64 arg)], .box [.c (.int .i64 0), .c (.int .i64 0), .c (.str ⟨#[]⟩)], .spare (colV arg (rows.take i)).length 3]) (fun i => i ≤ n) (fun i => n - i) 0 (by omega) (fun _ _ => Nat.zero_le _)
      (fits_mk ⟨rfl, rfl, rfl, rfl, slot_int hml, rfl, trivial⟩ [] rfl ⟨by show 0 < 3; omega, by show 1 < 3; omega, by show 2 < 3; omega, trivial, trivial, trivial, trivial⟩ ⟨box2_below, box3_below, trivial, trivial⟩) ?_
    intro i hi
    by_cases hlt : i < n
    · obtain ⟨r, hx⟩ := get_of_lt (show i < rows.length by omega)
      have hcl := col_len arg (rows.take i)
      rw [List.length_take] at hcl
      have hnx : colV arg (rows.take (i + 1)) = colStep arg (colV arg (rows.take i)) r := by rw [take_succ hx]; unfold colV; rw [List.foldl_append]; rfl
      generalize colV arg (rows.take i) = C at hcl hnx
      have hcm : (C.map cV).length = C.length := by simp
      have hrl : (((r.map cV).length : Nat) : Int) = r.length := by simp
      have hN : decide ((i : Int) < n) = true := by simp; exact hlt
      by_cases hB : arg < r.length
      · obtain ⟨v, hv⟩ := get_of_lt (show arg.toNat < r.length by omega)
        have hv2 : (r.map cV)[arg.toNat]? = some (cV v) := by rw [List.getElem?_map, hv]; rfl
        have hD : decide (arg < ((r.map cV).length : Nat)) = true := by rw [hrl]; simp [hB]
        have hD2 : decide (arg < (r.length : Int)) = true := by simp [hB]
        unfold colStep at hnx
        rw [hD2, cond_true, hv] at hnx
        simp only at hnx
        repeat' (first | refine st_nil ?_ | rw [hN] | rw [hD] | (refine st_pop rfl rfl rfl rfl ?_ ?_; · (repeat' (first | exact trivial | rfl | exact Nat.le_of_ble_eq_true rfl | omega | (intro e he; simp at he; subst he; rfl) | exact hcm | (show (_ + 1) * 32 ≤ _; omega) | (show _ + 1 ≤ _; omega) | apply And.intro))) | (refine st_idx rfl rfl rfl rfl rfl rfl rfl rfl (idx_map hx) ?_ ?_; · exact ⟨by omega, rfl⟩) | (refine st_idx rfl rfl rfl rfl rfl rfl rfl rfl hv2 ?_ ?_; · exact ⟨by omega, rfl⟩) | (refine st_lop rfl rfl rfl rfl ?_ ?_; · (repeat' (first | exact trivial | rfl | exact Nat.le_of_ble_eq_true rfl | omega | (intro e he; simp at he; subst he; rfl) | exact hcm | (show (_ + 1) * 32 ≤ _; omega) | (show _ + 1 ≤ _; omega) | apply And.intro))) | (refine st_store rfl rfl rfl ?_ ?_; · (repeat' (first | exact trivial | rfl | exact Nat.le_of_ble_eq_true rfl | omega | (intro e he; simp at he; subst he; rfl) | exact hcm | (show (_ + 1) * 32 ≤ _; omega) | (show _ + 1 ≤ _; omega) | apply And.intro))) | (refine st_lit rfl rfl rfl rfl ?_ ?_; · (repeat' (first | exact trivial | rfl | exact Nat.le_of_ble_eq_true rfl | omega | (intro e he; simp at he; subst he; rfl) | exact hcm | (show (_ + 1) * 32 ≤ _; omega) | (show _ + 1 ≤ _; omega) | apply And.intro))) | refine st_skip rfl rfl rfl ?_ | refine st_skip0 rfl rfl ?_ | (refine st_if rfl (fun hb => ?_) (fun hb => ?_) <;> (first | exact no_ hb | rw [hb])) | refine aw_seq ?_ | refine aw_region tab_ok _ rfl ?_ | refine aw_drawn2 tabS_ok _ rfl mixed (by decide +kernel) ?_ | (refine aw_cond rfl (fun hb => ?_) (fun hb => ?_) <;> (try exact no_ hb)) | refine aw_block ?_ | refine aw_exit ?_ | refine aw_ret ?_ | refine aw_skip ?_)
        · rw [hb, cond_true] at hnx
          exact ⟨i + 1, by omega, by omega, by rw [hnx]; exact fits_mk ⟨rfl, rfl, slot_own (by rw [List.map_append]; rfl), rfl, rfl, slot_int (wrap_eq (by omega) (by omega)), trivial⟩ [] (by simp) ⟨by show 0 < 3; omega, by show 1 < 3; omega, by show 2 < 3; omega, trivial, trivial, trivial, trivial⟩ ⟨box2_below, box3_below, trivial, trivial⟩⟩
        · rw [hb, cond_false] at hnx
          exact ⟨i + 1, by omega, by omega, by rw [hnx]; exact fits_mk ⟨rfl, rfl, rfl, rfl, rfl, slot_int (wrap_eq (by omega) (by omega)), trivial⟩ [] rfl ⟨by show 0 < 3; omega, by show 1 < 3; omega, by show 2 < 3; omega, trivial, trivial, trivial, trivial⟩ ⟨box2_below, box3_below, trivial, trivial⟩⟩
      · have hD : decide (arg < ((r.map cV).length : Nat)) = false := by rw [hrl]; simp; omega
        have hD2 : decide (arg < (r.length : Int)) = false := by simp; omega
        unfold colStep at hnx
        rw [hD2, cond_false] at hnx
        repeat' (first | refine st_nil ?_ | rw [hN] | rw [hD] | (refine st_pop rfl rfl rfl rfl ?_ ?_; · (repeat' (first | exact trivial | rfl | exact Nat.le_of_ble_eq_true rfl | omega | (intro e he; simp at he; subst he; rfl) | exact hcm | (show (_ + 1) * 32 ≤ _; omega) | (show _ + 1 ≤ _; omega) | apply And.intro))) | (refine st_idx rfl rfl rfl rfl rfl rfl rfl rfl (idx_map hx) ?_ ?_; · exact ⟨by omega, rfl⟩) | (refine st_lop rfl rfl rfl rfl ?_ ?_; · (repeat' (first | exact trivial | rfl | exact Nat.le_of_ble_eq_true rfl | omega | (intro e he; simp at he; subst he; rfl) | exact hcm | (show (_ + 1) * 32 ≤ _; omega) | (show _ + 1 ≤ _; omega) | apply And.intro))) | (refine st_store rfl rfl rfl ?_ ?_; · (repeat' (first | exact trivial | rfl | exact Nat.le_of_ble_eq_true rfl | omega | (intro e he; simp at he; subst he; rfl) | exact hcm | (show (_ + 1) * 32 ≤ _; omega) | (show _ + 1 ≤ _; omega) | apply And.intro))) | (refine st_lit rfl rfl rfl rfl ?_ ?_; · (repeat' (first | exact trivial | rfl | exact Nat.le_of_ble_eq_true rfl | omega | (intro e he; simp at he; subst he; rfl) | exact hcm | (show (_ + 1) * 32 ≤ _; omega) | (show _ + 1 ≤ _; omega) | apply And.intro))) | refine st_skip rfl rfl rfl ?_ | refine st_skip0 rfl rfl ?_ | (refine st_if rfl (fun hb => ?_) (fun hb => ?_) <;> (first | exact no_ hb | rw [hb])) | refine aw_seq ?_ | refine aw_region tab_ok _ rfl ?_ | refine aw_drawn2 tabS_ok _ rfl mixed (by decide +kernel) ?_ | (refine aw_cond rfl (fun hb => ?_) (fun hb => ?_) <;> (try exact no_ hb)) | refine aw_block ?_ | refine aw_exit ?_ | refine aw_ret ?_ | refine aw_skip ?_)
        exact ⟨i + 1, by omega, by omega, by rw [hnx]; exact fits_mk ⟨rfl, rfl, rfl, rfl, rfl, slot_int (wrap_eq (by omega) (by omega)), trivial⟩ [] rfl ⟨by show 0 < 3; omega, by show 1 < 3; omega, by show 2 < 3; omega, trivial, trivial, trivial, trivial⟩ ⟨box2_below, box3_below, trivial, trivial⟩⟩
    · have htk : rows.take i = rows := List.take_of_length_le (by omega)
      have hN : decide ((i : Int) < n) = false := by simp; omega
      have hcl := col_len arg rows
      rw [htk]
      have hV : aggV op arg rows = bif decide (op = 1) then orNullV ⟨1, (colV arg rows).length, ⟨#[]⟩⟩ else match colV arg rows with
        | [] => nullV
        | x :: l => bif decide (op = 2) then sumV (x :: l) else (x :: l).foldl (bestStep op) x := by unfold aggV; rw [hA, cond_false]
      generalize colV arg rows = C at hcl hV
      have hcm : (((C.map cV).length : Nat) : Int) = C.length := by simp
      have e2 : Pure Tryz.prog 93 [.one (.int .i64 ((C.map cV).length : Nat))] (cvV (orNullV ⟨1, C.length, ⟨#[]⟩⟩)) := by
        have := vint_pure C.length
        simpa using this
      cases C with
      | nil =>
        repeat' (first | refine st_nil ?_ | rw [hN] | (refine st_pop rfl rfl rfl rfl ?_ ?_; · exact ok_) | (refine st_lop rfl rfl rfl rfl ?_ ?_; · exact ok_) | (refine st_store rfl rfl rfl ?_ ?_; · exact ok_) | (refine st_lit rfl rfl rfl rfl ?_ ?_; · exact ok_) | refine st_skip rfl rfl rfl ?_ | refine st_skip0 rfl rfl ?_ | refine st_call rfl rfl rfl rfl e2 rfl ?_ | refine st_call rfl rfl rfl rfl null_pure rfl ?_ | (refine st_if rfl (fun hb => ?_) (fun hb => ?_) <;> (first | exact no_ hb | rw [hb])) | refine aw_seq ?_ | refine aw_region tab_ok _ rfl ?_ | refine aw_drawn2 tabS_ok _ rfl mixed (by decide +kernel) ?_ | (refine aw_cond rfl (fun hb => ?_) (fun hb => ?_) <;> (try exact no_ hb)) | refine aw_block ?_ | refine aw_exit ?_ | refine aw_ret ?_ | refine aw_skip ?_)
        all_goals first
          | exact end_ret (fin (w := orNullV ⟨1, (([] : List Val).length : Nat), ⟨#[]⟩⟩) (by rw [hV, hb, cond_true]) (res_of rfl ⟨Nat.le_refl 3, trivial⟩ rfl))
          | exact end_ret (fin (w := nullV) (by rw [hV]; rename_i q1 q2; rw [q2, cond_false]) (res_of rfl ⟨Nat.le_refl 3, trivial⟩ rfl))
      | cons x l =>
        have hne : decide ((((x :: l).map cV).length : Int) = 0) = false := by simp; omega
        have hsum := sum_pure (x :: l) (by omega)
        repeat' (first | refine st_nil ?_ | rw [hN] | rw [hne] | (refine st_pop rfl rfl rfl rfl ?_ ?_; · exact ok_) | (refine st_lop rfl rfl rfl rfl ?_ ?_; · exact ok_) | (refine st_store rfl rfl rfl ?_ ?_; · exact ok_) | (refine st_lit rfl rfl rfl rfl ?_ ?_; · exact ok_) | refine st_skip rfl rfl rfl ?_ | refine st_skip0 rfl rfl ?_ | refine st_call rfl rfl rfl rfl e2 rfl ?_ | refine st_call rfl rfl rfl rfl null_pure rfl ?_ | refine st_call rfl rfl rfl rfl hsum rfl ?_ | (refine st_if rfl (fun hb => ?_) (fun hb => ?_) <;> (first | exact no_ hb | rw [hb])) | refine aw_seq ?_ | refine aw_region tab_ok _ rfl ?_ | refine aw_drawn2 tabS_ok _ rfl mixed (by decide +kernel) ?_ | (refine aw_cond rfl (fun hb => ?_) (fun hb => ?_) <;> (try exact no_ hb)) | refine aw_block ?_ | refine aw_exit ?_ | refine aw_ret ?_ | refine aw_skip ?_)
        · exact end_ret (fin (w := orNullV ⟨1, ((x :: l).length : Nat), ⟨#[]⟩⟩) (by rw [hV, hb, cond_true]) (res_of rfl ⟨Nat.le_refl 3, trivial⟩ rfl))
        · exact end_ret (fin (w := sumV (x :: l)) (by rw [hV]; rename_i q1 q2 q3; rw [q2, hb, cond_false]; simp only [cond_true]) (res_of rfl ⟨Nat.le_refl 3, trivial⟩ rfl))
        · rename_i q1 q2
          have hV2 : aggV op arg rows = (x :: l).foldl (bestStep op) x := by rw [hV]; simp only [q1, q2, hb, cond_false]
          obtain ⟨m, hm⟩ : ∃ m, (x :: l).length = m := ⟨_, rfl⟩
          generalize hC : x :: l = C at hV2 hm hcm hcl
          have hmb : m ≤ 1000000 := by omega
          refine aw_loop (fun j : Nat => [(3, .one (.ptr 0 0)), (4, .one (.ptr 1 0)), (8, .one (.ptr 3 0)), (68, .one (.own (C.map cV) 2)), (69, .one (.c (.int .i64 m))), (70, .one (.c (.int .i64 j)))]) (fun j => [.box [.c (.int .i64 op), .c (.int .i64 arg)], .box [.c (.int .i64 0), .c (.int .i64 0), .c (.str ⟨#[]⟩)], .spare m 3, .box [.c (.int .i64 ((C.take j).foldl (bestStep op) x).kind), .c (.int .i64 ((C.take j).foldl (bestStep op) x).int), .c (.str ((C.take j).foldl (bestStep op) x).text)]]) (fun j => j ≤ m) (fun j => m - j) 0 (by omega) (fun _ _ => Nat.zero_le _)
            (fits_mk ⟨rfl, rfl, rfl, by rw [← hC]; rfl, slot_int (by rw [← hm, ← hC]; simp), rfl, trivial⟩ [] (by rw [← hm, ← hC]; rfl) ⟨by show 0 < 4; omega, by show 1 < 4; omega, by show 3 < 4; omega, by show 2 < 4; omega, trivial, trivial, trivial⟩ ⟨box2_below, box3_below, trivial, box3_below, trivial⟩) ?_
          intro j hj
          by_cases hlt3 : j < m
          · obtain ⟨v, hv⟩ := get_of_lt (show j < C.length by omega)
            have hnx : (C.take (j + 1)).foldl (bestStep op) x = bestStep op ((C.take j).foldl (bestStep op) x) v := by rw [take_succ hv, List.foldl_append]; rfl
            generalize (C.take j).foldl (bestStep op) x = o at hnx
            generalize hst : bestStep op o v = w at hnx
            unfold bestStep at hst
            have hN3 : decide ((j : Int) < m) = true := by simp; exact hlt3
            repeat' (first | refine st_nil ?_ | rw [hN3] | (refine st_pop rfl rfl rfl rfl ?_ ?_; · exact ok_) | (refine st_idx rfl rfl rfl rfl rfl rfl rfl rfl (idx_map hv) ?_ ?_; · exact ⟨by omega, rfl⟩) | (refine st_lop rfl rfl rfl rfl ?_ ?_; · exact ok_) | (refine st_store rfl rfl rfl ?_ ?_; · exact ok_) | (refine st_lit rfl rfl rfl rfl ?_ ?_; · exact ok_) | refine st_skip rfl rfl rfl ?_ | refine st_skip0 rfl rfl ?_ | refine st_call rfl rfl rfl rfl (vcmp_pure v o) rfl ?_ | (refine st_if rfl (fun hb => ?_) (fun hb => ?_) <;> (first | exact no_ hb | rw [hb])) | refine aw_seq ?_ | refine aw_region tab_ok _ rfl ?_ | refine aw_drawn2 tabS_ok _ rfl mixed (by decide +kernel) ?_ | (refine aw_cond rfl (fun hb => ?_) (fun hb => ?_) <;> (try exact no_ hb)) | refine aw_block ?_ | refine aw_exit ?_ | refine aw_ret ?_ | refine aw_skip ?_)
            all_goals first
              | (clear hV hV2 fin e1 e2 hsum hl hr hcl hcm hC hm; simp only [*, cond_true, cond_false] at hst; subst hst; exact ⟨j + 1, by omega, by omega, by rw [hnx]; exact fits_mk ⟨rfl, rfl, rfl, rfl, rfl, slot_int (wrap_eq (by omega) (by omega)), trivial⟩ [_] rfl ⟨by show 0 < 4; omega, by show 1 < 4; omega, by show 3 < 4; omega, by show 2 < 4; omega, trivial, trivial, trivial⟩ ⟨box2_below, box3_below, trivial, box3_below, trivial⟩⟩)
          · have hN3 : decide ((j : Int) < m) = false := by simp; omega
            have htk3 : C.take j = C := List.take_of_length_le (by omega)
            rw [htk3, ← hV2]
            repeat' (first | refine st_nil ?_ | rw [hN3] | (refine st_pop rfl rfl rfl rfl ?_ ?_; · exact ok_) | (refine st_lop rfl rfl rfl rfl ?_ ?_; · exact ok_) | (refine st_store rfl rfl rfl ?_ ?_; · exact ok_) | (refine st_lit rfl rfl rfl rfl ?_ ?_; · exact ok_) | refine st_skip rfl rfl rfl ?_ | refine st_skip0 rfl rfl ?_ | (refine st_if rfl (fun hb => ?_) (fun hb => ?_) <;> (first | exact no_ hb | rw [hb])) | refine aw_seq ?_ | refine aw_region tab_ok _ rfl ?_ | refine aw_drawn2 tabS_ok _ rfl mixed (by decide +kernel) ?_ | (refine aw_cond rfl (fun hb => ?_) (fun hb => ?_) <;> (try exact no_ hb)) | refine aw_block ?_ | refine aw_exit ?_ | refine aw_ret ?_ | refine aw_skip ?_)
            exact end_ret (res_of rfl ⟨Nat.le_refl 3, trivial⟩ rfl)
end Go.Proofs.YtfpbmfalamappaaGreatDoor

namespace Go.Proofs.YtfpbmfalamappaaGreatDoor
open Go.RowKit Go.MapKept
set_option maxRecDepth 100000
/-- An aggregate: its operator and its argument. -/
abbrev Ag := Int × Int
def cA (a : Ag) : List AC := [.int .i64 a.1, .int .i64 a.2]
def tAggs (l : List Ag) : AC := .lst (l.map cA)
def inK (kinds : List Int) (k : Int) : Bool := !(bif decide (k < 0) then true else decide ((kinds.length : Int) ≤ k))
def grpKeys (kinds : List Int) : List Int → List Int → List Int × Int
  | [], acc => (acc, 0)
  | k :: ks, acc => bif inK kinds k then grpKeys kinds ks (acc ++ [kinds.getD k.toNat 0]) else ([], 6)
/-- The error of an aggregate. -/
def agErr (kinds : List Int) (a : Ag) : Int :=
  bif (bif decide (a.1 < 1) then true else decide (4 < a.1)) then 7 else bif (bif decide (a.2 = -1) then decide (a.1 = 1) else false) then 0
  else bif !(inK kinds a.2) then 6 else bif (bif decide (a.1 = 2) then decide (kinds.getD a.2.toNat 0 ≠ 1) else false) then 7 else 0
def agKind (kinds : List Int) (a : Ag) : Int := bif (bif decide (a.1 = 3) then true else decide (a.1 = 4)) then kinds.getD a.2.toNat 0 else 1
def grpAggs (kinds : List Int) : List Ag → List Int → List Int × Int
  | [], acc => (acc, 0)
  | a :: l, acc => bif decide (agErr kinds a = 0) then grpAggs kinds l (acc ++ [agKind kinds a]) else ([], agErr kinds a)
def grpF (kinds keys : List Int) (aggs : List Ag) : List Int × Int := bif decide ((grpKeys kinds keys []).2 = 0) then grpAggs kinds aggs (grpKeys kinds keys []).1 else ([], (grpKeys kinds keys []).2)
def vKE (r : List Int × Int) : CV := .tup [.one (tInts r.1), .one (.int .i64 r.2)]
theorem vKE_eq {a b : List Int × Int} (h : a = b) : vKE a = vKE b := by rw [h]
theorem cA_wide (l : List Ag) : ∀ e ∈ l.map cA, e.length = 2 := by intro e he; simp only [List.mem_map] at he; obtain ⟨x, _, rfl⟩ := he; rfl
theorem grpKeys_drop (kinds keys acc : List Int) {i : Nat} {k : Int} (h : keys[i]? = some k) : grpKeys kinds (keys.drop i) acc = bif inK kinds k then grpKeys kinds (keys.drop (i + 1)) (acc ++ [kinds.getD k.toNat 0]) else ([], 6) := by
  obtain ⟨h1, e1⟩ := List.getElem?_eq_some_iff.1 h
  rw [List.drop_eq_getElem_cons h1, e1, grpKeys]
theorem grpAggs_drop (kinds : List Int) (l : List Ag) (acc : List Int) {i : Nat} {a : Ag} (h : l[i]? = some a) : grpAggs kinds (l.drop i) acc = bif decide (agErr kinds a = 0) then grpAggs kinds (l.drop (i + 1)) (acc ++ [agKind kinds a]) else ([], agErr kinds a) := by
  obtain ⟨h1, e1⟩ := List.getElem?_eq_some_iff.1 h
  rw [List.drop_eq_getElem_cons h1, e1, grpAggs]
theorem getD_of {l : List Int} {i : Nat} {x : Int} (h : l[i]? = some x) : l.getD i 0 = x := by rw [List.getD_eq_getElem?_getD, h]; rfl
theorem idx_ints {l : List Int} {i : Int} {x : Int} (h : l[i.toNat]? = some x) : (l.map fun x => [AC.int .i64 x])[i.toNat]? = some [.int .i64 x] := by rw [List.getElem?_map, h]; rfl
theorem inK_get {kinds : List Int} {k : Int} (h : inK kinds k = true) : 0 ≤ k ∧ ∃ x, kinds[k.toNat]? = some x := by
  unfold inK at h
  by_cases h1 : k < 0
  · simp [h1] at h
  · have : k < kinds.length := by simp [h1] at h; exact h
    exact ⟨by omega, get_of_lt (by omega)⟩
set_option maxHeartbeats 4000000 in
theorem grouped_pure (kinds keys : List Int) (aggs : List Ag) (h1 : kinds.length ≤ 100000) (h2 : keys.length ≤ 100000) (h3 : aggs.length ≤ 100000) : Pure Tryz.prog 57 [.one (tInts keys), .one (tAggs aggs), .one (tInts kinds)] (vKE (grpF kinds keys aggs)) := by
  refine pure_of_aw tab_ok Tryz.func57 rfl rfl Tryz.ntmps57 (by simp) ?_
  simp only [argT, PV.av, List.map_cons, List.map_nil]
  obtain ⟨n, hn⟩ : ∃ n, keys.length = n := ⟨_, rfl⟩
  obtain ⟨m, hm⟩ : ∃ m, aggs.length = m := ⟨_, rfl⟩
  have hml : (((keys.map fun x => [AC.int .i64 x]).length : Nat) : Int) = n := by simp [hn]
  have hmm : (((aggs.map cA).length : Nat) : Int) = m := by simp [hm]
  have hkl : (((kinds.map fun x => [AC.int .i64 x]).length : Nat) : Int) = kinds.length := by simp
  have fin : ∀ {T : Tm} {L : List Ob} {w : List Int × Int}, w = grpF kinds keys aggs → Res tab Tryz.f57.results.toList T L (vKE w) → Res tab Tryz.f57.results.toList T L (vKE (grpF kinds keys aggs)) := fun e h => by rw [← e]; exact h
  repeat' (first | refine st_nil ?_ | (refine st_pop rfl rfl rfl rfl ?_ ?_; · exact ok_) | (refine st_lop rfl rfl rfl rfl ?_ ?_; · exact ok_) | (refine st_store rfl rfl rfl ?_ ?_; · exact ok_) | (refine st_lit rfl rfl rfl rfl ?_ ?_; · exact ok_) | refine st_skip rfl rfl rfl ?_ | refine st_skip0 rfl rfl ?_ | (refine st_if rfl (fun hb => ?_) (fun hb => ?_) <;> (first | exact no_ hb | rw [hb])) | refine aw_seq ?_ | refine aw_region tab_ok _ rfl ?_ | refine aw_drawn2 tabS_ok _ rfl mixed (by decide +kernel) ?_ | (refine aw_cond rfl (fun hb => ?_) (fun hb => ?_) <;> (try exact no_ hb)) | refine aw_block ?_ | refine aw_exit ?_ | refine aw_ret ?_ | refine aw_skip ?_)
  refine aw_tok 8 1 rfl ?_
  refine aw_loop (fun s : Nat × List Int => match s with | (i, out) => [(0, .one (.c (tInts keys))), (1, .one (.c (tAggs aggs))), (2, .one (.c (tInts kinds))), (8, .one (.own (out.map fun x => [AC.int .i64 x]) 0)), (13, .one (.c (tInts keys))), (14, .one (.c (.int .i64 n))), (15, .one (.c (.int .i64 i)))]) (fun s => [.spare s.1 1]) (fun s => s.1 ≤ n ∧ s.2.length = s.1 ∧ grpKeys kinds keys [] = grpKeys kinds (keys.drop s.1) s.2) (fun s => n - s.1) (0, []) ⟨by omega, rfl, rfl⟩ (fun _ _ => Nat.zero_le _)
    (fits_mk ⟨rfl, rfl, rfl, rfl, rfl, slot_int hml, rfl, trivial⟩ [] rfl ⟨trivial, trivial, trivial, by show 0 < 1; omega, trivial, trivial, trivial, trivial⟩ ⟨trivial, trivial⟩) ?_
  rintro ⟨i, out⟩ ⟨hi, hol, hr⟩
  dsimp only at hi hol hr ⊢
  have hom : (out.map fun x => [AC.int .i64 x]).length = i := by simp [hol]
  by_cases hlt : i < n
  · obtain ⟨k, hx⟩ := get_of_lt (show i < keys.length by omega)
    have hstep := grpKeys_drop kinds keys out hx
    have hN : decide ((i : Int) < n) = true := by simp; exact hlt
    have hL : decide ((((kinds.map fun x => [AC.int .i64 x]).length : Nat) : Int) ≤ k) = decide ((kinds.length : Int) ≤ k) := by rw [hkl]
    cases hin : inK kinds k with
    | true =>
      obtain ⟨hk0, y, hy⟩ := inK_get hin
      have hg := getD_of hy
      rw [hin, cond_true, hg] at hstep
      have hD1 : decide (k < 0) = false := by simp; omega
      have hD2 : decide ((((kinds.map fun x => [AC.int .i64 x]).length : Nat) : Int) ≤ k) = false := by rw [hL]; unfold inK at hin; rw [hD1] at hin; simpa using hin
      repeat' (first | refine st_nil ?_ | rw [hN] | rw [hD1] | rw [hD2] | (refine st_pop rfl rfl rfl rfl ?_ ?_; · (repeat' (first | exact trivial | rfl | exact Nat.le_of_ble_eq_true rfl | omega | (intro e he; simp at he; subst he; rfl) | exact hom | (show (_ + 1) * 8 ≤ _; omega) | (show _ + 1 ≤ _; omega) | apply And.intro))) | (refine st_idx rfl rfl rfl rfl rfl rfl rfl rfl (idx_map hx) ?_ ?_; · exact ⟨by omega, rfl⟩) | (refine st_idx rfl rfl rfl rfl rfl rfl rfl rfl (idx_ints hy) ?_ ?_; · exact ⟨by omega, rfl⟩) | (refine st_lop rfl rfl rfl rfl ?_ ?_; · (repeat' (first | exact trivial | rfl | exact Nat.le_of_ble_eq_true rfl | omega | (intro e he; simp at he; subst he; rfl) | exact hom | (show (_ + 1) * 8 ≤ _; omega) | (show _ + 1 ≤ _; omega) | apply And.intro))) | (refine st_store rfl rfl rfl ?_ ?_; · (repeat' (first | exact trivial | rfl | exact Nat.le_of_ble_eq_true rfl | omega | (intro e he; simp at he; subst he; rfl) | exact hom | (show (_ + 1) * 8 ≤ _; omega) | (show _ + 1 ≤ _; omega) | apply And.intro))) | (refine st_lit rfl rfl rfl rfl ?_ ?_; · (repeat' (first | exact trivial | rfl | exact Nat.le_of_ble_eq_true rfl | omega | (intro e he; simp at he; subst he; rfl) | exact hom | (show (_ + 1) * 8 ≤ _; omega) | (show _ + 1 ≤ _; omega) | apply And.intro))) | refine st_skip rfl rfl rfl ?_ | refine st_skip0 rfl rfl ?_ | (refine st_if rfl (fun hb => ?_) (fun hb => ?_) <;> (first | exact no_ hb | rw [hb])) | refine aw_seq ?_ | refine aw_region tab_ok _ rfl ?_ | refine aw_drawn2 tabS_ok _ rfl mixed (by decide +kernel) ?_ | (refine aw_cond rfl (fun hb => ?_) (fun hb => ?_) <;> (try exact no_ hb)) | refine aw_block ?_ | refine aw_exit ?_ | refine aw_ret ?_ | refine aw_skip ?_)
      exact ⟨(i + 1, out ++ [y]), ⟨by omega, by simp [hol], hr.trans hstep⟩, by show n - (i + 1) < n - i; omega, fits_mk ⟨rfl, rfl, rfl, slot_own (by rw [List.map_append]; rfl), rfl, rfl, slot_int (wrap_eq (by omega) (by omega)), trivial⟩ [] rfl ⟨trivial, trivial, trivial, by show 0 < 1; omega, trivial, trivial, trivial, trivial⟩ ⟨trivial, trivial⟩⟩
    | false =>
      rw [hin, cond_false] at hstep
      have hF : ([], 6) = grpF kinds keys aggs := by unfold grpF; rw [hr, hstep]; rfl
      have hD : (bif decide (k < 0) then true else decide ((kinds.length : Int) ≤ k)) = true := by revert hin; unfold inK; cases (bif decide (k < 0) then true else decide ((kinds.length : Int) ≤ k)) <;> simp
      by_cases hk0 : k < 0
      · have hD1 : decide (k < 0) = true := by simp [hk0]
        repeat' (first | refine st_nil ?_ | rw [hN] | rw [hD1] | (refine st_pop rfl rfl rfl rfl ?_ ?_; · (repeat' (first | exact trivial | rfl | exact Nat.le_of_ble_eq_true rfl | omega | (intro e he; simp at he; subst he; rfl) | exact hom | (show (_ + 1) * 8 ≤ _; omega) | (show _ + 1 ≤ _; omega) | apply And.intro))) | (refine st_idx rfl rfl rfl rfl rfl rfl rfl rfl (idx_map hx) ?_ ?_; · exact ⟨by omega, rfl⟩) | (refine st_lop rfl rfl rfl rfl ?_ ?_; · (repeat' (first | exact trivial | rfl | exact Nat.le_of_ble_eq_true rfl | omega | (intro e he; simp at he; subst he; rfl) | exact hom | (show (_ + 1) * 8 ≤ _; omega) | (show _ + 1 ≤ _; omega) | apply And.intro))) | (refine st_store rfl rfl rfl ?_ ?_; · (repeat' (first | exact trivial | rfl | exact Nat.le_of_ble_eq_true rfl | omega | (intro e he; simp at he; subst he; rfl) | exact hom | (show (_ + 1) * 8 ≤ _; omega) | (show _ + 1 ≤ _; omega) | apply And.intro))) | (refine st_lit rfl rfl rfl rfl ?_ ?_; · (repeat' (first | exact trivial | rfl | exact Nat.le_of_ble_eq_true rfl | omega | (intro e he; simp at he; subst he; rfl) | exact hom | (show (_ + 1) * 8 ≤ _; omega) | (show _ + 1 ≤ _; omega) | apply And.intro))) | refine st_skip rfl rfl rfl ?_ | refine st_skip0 rfl rfl ?_ | (refine st_if rfl (fun hb => ?_) (fun hb => ?_) <;> (first | exact no_ hb | rw [hb])) | refine aw_seq ?_ | refine aw_region tab_ok _ rfl ?_ | refine aw_drawn2 tabS_ok _ rfl mixed (by decide +kernel) ?_ | (refine aw_cond rfl (fun hb => ?_) (fun hb => ?_) <;> (try exact no_ hb)) | refine aw_block ?_ | refine aw_exit ?_ | refine aw_ret ?_ | refine aw_skip ?_)
        exact end_ret (fin (w := ([], 6)) hF (res_of rfl ⟨trivial, trivial, trivial⟩ rfl))
      · have hD1 : decide (k < 0) = false := by simp [hk0]
        have hD2 : decide ((((kinds.map fun x => [AC.int .i64 x]).length : Nat) : Int) ≤ k) = true := by rw [hL]; rw [hD1] at hD; exact hD
        repeat' (first | refine st_nil ?_ | rw [hN] | rw [hD1] | rw [hD2] | (refine st_pop rfl rfl rfl rfl ?_ ?_; · (repeat' (first | exact trivial | rfl | exact Nat.le_of_ble_eq_true rfl | omega | (intro e he; simp at he; subst he; rfl) | exact hom | (show (_ + 1) * 8 ≤ _; omega) | (show _ + 1 ≤ _; omega) | apply And.intro))) | (refine st_idx rfl rfl rfl rfl rfl rfl rfl rfl (idx_map hx) ?_ ?_; · exact ⟨by omega, rfl⟩) | (refine st_lop rfl rfl rfl rfl ?_ ?_; · (repeat' (first | exact trivial | rfl | exact Nat.le_of_ble_eq_true rfl | omega | (intro e he; simp at he; subst he; rfl) | exact hom | (show (_ + 1) * 8 ≤ _; omega) | (show _ + 1 ≤ _; omega) | apply And.intro))) | (refine st_store rfl rfl rfl ?_ ?_; · (repeat' (first | exact trivial | rfl | exact Nat.le_of_ble_eq_true rfl | omega | (intro e he; simp at he; subst he; rfl) | exact hom | (show (_ + 1) * 8 ≤ _; omega) | (show _ + 1 ≤ _; omega) | apply And.intro))) | (refine st_lit rfl rfl rfl rfl ?_ ?_; · (repeat' (first | exact trivial | rfl | exact Nat.le_of_ble_eq_true rfl | omega | (intro e he; simp at he; subst he; rfl) | exact hom | (show (_ + 1) * 8 ≤ _; omega) | (show _ + 1 ≤ _; omega) | apply And.intro))) | refine st_skip rfl rfl rfl ?_ | refine st_skip0 rfl rfl ?_ | (refine st_if rfl (fun hb => ?_) (fun hb => ?_) <;> (first | exact no_ hb | rw [hb])) | refine aw_seq ?_ | refine aw_region tab_ok _ rfl ?_ | refine aw_drawn2 tabS_ok _ rfl mixed (by decide +kernel) ?_ | (refine aw_cond rfl (fun hb => ?_) (fun hb => ?_) <;> (try exact no_ hb)) | refine aw_block ?_ | refine aw_exit ?_ | refine aw_ret ?_ | refine aw_skip ?_)
        exact end_ret (fin (w := ([], 6)) hF (res_of rfl ⟨trivial, trivial, trivial⟩ rfl))
  · have hN : decide ((i : Int) < n) = false := by simp; omega
    have hdr : keys.drop i = [] := List.drop_of_length_le (by omega)
    rw [hdr] at hr
    have hF0 : grpF kinds keys aggs = grpAggs kinds aggs out := by unfold grpF; rw [hr]; rfl
    repeat' (first | refine st_nil ?_ | rw [hN] | (refine st_pop rfl rfl rfl rfl ?_ ?_; · exact ok_) | (refine st_lop rfl rfl rfl rfl ?_ ?_; · exact ok_) | (refine st_store rfl rfl rfl ?_ ?_; · exact ok_) | (refine st_lit rfl rfl rfl rfl ?_ ?_; · exact ok_) | refine st_skip rfl rfl rfl ?_ | refine st_skip0 rfl rfl ?_ | (refine st_if rfl (fun hb => ?_) (fun hb => ?_) <;> (first | exact no_ hb | rw [hb])) | refine aw_seq ?_ | refine aw_region tab_ok _ rfl ?_ | refine aw_drawn2 tabS_ok _ rfl mixed (by decide +kernel) ?_ | (refine aw_cond rfl (fun hb => ?_) (fun hb => ?_) <;> (try exact no_ hb)) | refine aw_block ?_ | refine aw_exit ?_ | refine aw_ret ?_ | refine aw_skip ?_)
    refine aw_loop (fun s : Nat × List Int => match s with | (i, out) => [(2, .one (.c (tInts kinds))), (8, .one (.own (out.map fun x => [AC.int .i64 x]) 0)), (35, .one (.c (tAggs aggs))), (36, .one (.c (.int .i64 m))), (37, .one (.c (.int .i64 i)))]) (fun s => [.spare s.2.length 1]) (fun s => s.1 ≤ m ∧ s.2.length ≤ n + s.1 ∧ grpF kinds keys aggs = grpAggs kinds (aggs.drop s.1) s.2) (fun s => m - s.1) (0, out) ⟨by omega, by show out.length ≤ n + 0; omega, hF0⟩ (fun _ _ => Nat.zero_le _)
      (fits_mk ⟨rfl, rfl, rfl, slot_int hmm, rfl, trivial⟩ [] (by rw [← hol]; rfl) ⟨trivial, by show 0 < 1; omega, trivial, trivial, trivial, trivial⟩ ⟨trivial, trivial⟩) ?_
    clear hom hol hr hF0 hN hi hdr
    rintro ⟨j, o2⟩ ⟨hj, hol, hr⟩
    dsimp only at hj hol hr ⊢
    have hom : (o2.map fun x => [AC.int .i64 x]).length = o2.length := by simp
    by_cases hlt2 : j < m
    · obtain ⟨a, hx⟩ := get_of_lt (show j < aggs.length by omega)
      have hstep := grpAggs_drop kinds aggs o2 hx
      have hN : decide ((j : Int) < m) = true := by simp; exact hlt2
      obtain ⟨op, arg⟩ := a
      have hidx : (aggs.map cA)[((j : Nat) : Int).toNat]? = some [.int .i64 op, .int .i64 arg] := idx_map hx
      have hinD : inK kinds arg = !(bif decide (arg < 0) then true else decide ((kinds.length : Int) ≤ arg)) := rfl
      have hag : agErr kinds (op, arg) = bif (bif decide (op < 1) then true else decide (4 < op)) then 7 else bif (bif decide (arg = -1) then decide (op = 1) else false) then 0 else bif !(inK kinds arg) then 6 else bif (bif decide (op = 2) then decide (kinds.getD arg.toNat 0 ≠ 1) else false) then 7 else 0 := rfl
      have hak : agKind kinds (op, arg) = bif (bif decide (op = 3) then true else decide (op = 4)) then kinds.getD arg.toNat 0 else 1 := rfl
      generalize agErr kinds (op, arg) = er at hstep hag
      generalize agKind kinds (op, arg) = kk at hstep hak
      by_cases h1 : op < 1
      · have hO1 : decide (op < 1) = true := by simp [h1]
        rw [hO1] at hag
        have he : er = 7 := hag
        subst he
        repeat' (first | refine st_nil ?_ | rw [hN] | rw [hO1] | (refine st_pop rfl rfl rfl rfl ?_ ?_; · (repeat' (first | exact trivial | rfl | exact Nat.le_of_ble_eq_true rfl | omega | (intro e he; simp at he; subst he; rfl) | exact hom | (show (_ + 1) * 8 ≤ _; omega) | (show _ + 1 ≤ _; omega) | apply And.intro))) | (refine st_idx rfl rfl rfl rfl rfl rfl rfl rfl hidx ?_ ?_; · exact ⟨by omega, rfl⟩) | (refine st_lop rfl rfl rfl rfl ?_ ?_; · (repeat' (first | exact trivial | rfl | exact Nat.le_of_ble_eq_true rfl | omega | (intro e he; simp at he; subst he; rfl) | exact hom | (show (_ + 1) * 8 ≤ _; omega) | (show _ + 1 ≤ _; omega) | apply And.intro))) | (refine st_store rfl rfl rfl ?_ ?_; · (repeat' (first | exact trivial | rfl | exact Nat.le_of_ble_eq_true rfl | omega | (intro e he; simp at he; subst he; rfl) | exact hom | (show (_ + 1) * 8 ≤ _; omega) | (show _ + 1 ≤ _; omega) | apply And.intro))) | (refine st_lit rfl rfl rfl rfl ?_ ?_; · (repeat' (first | exact trivial | rfl | exact Nat.le_of_ble_eq_true rfl | omega | (intro e he; simp at he; subst he; rfl) | exact hom | (show (_ + 1) * 8 ≤ _; omega) | (show _ + 1 ≤ _; omega) | apply And.intro))) | refine st_skip rfl rfl rfl ?_ | refine st_skip0 rfl rfl ?_ | (refine st_if rfl (fun hb => ?_) (fun hb => ?_) <;> (first | exact no_ hb | rw [hb])) | refine aw_seq ?_ | refine aw_region tab_ok _ rfl ?_ | refine aw_drawn2 tabS_ok _ rfl mixed (by decide +kernel) ?_ | (refine aw_cond rfl (fun hb => ?_) (fun hb => ?_) <;> (try exact no_ hb)) | refine aw_block ?_ | refine aw_exit ?_ | refine aw_ret ?_ | refine aw_skip ?_)
        exact end_ret (fin (w := ([], 7)) (hr.trans hstep).symm (res_of rfl ⟨trivial, trivial, trivial⟩ rfl))
      by_cases h4 : 4 < op
      · have hO1 : decide (op < 1) = false := by simp [h1]
        have hO2 : decide (4 < op) = true := by simp [h4]
        rw [hO1, hO2] at hag
        have he : er = 7 := hag
        subst he
        repeat' (first | refine st_nil ?_ | rw [hN] | rw [hO1] | rw [hO2] | (refine st_pop rfl rfl rfl rfl ?_ ?_; · (repeat' (first | exact trivial | rfl | exact Nat.le_of_ble_eq_true rfl | omega | (intro e he; simp at he; subst he; rfl) | exact hom | (show (_ + 1) * 8 ≤ _; omega) | (show _ + 1 ≤ _; omega) | apply And.intro))) | (refine st_idx rfl rfl rfl rfl rfl rfl rfl rfl hidx ?_ ?_; · exact ⟨by omega, rfl⟩) | (refine st_lop rfl rfl rfl rfl ?_ ?_; · (repeat' (first | exact trivial | rfl | exact Nat.le_of_ble_eq_true rfl | omega | (intro e he; simp at he; subst he; rfl) | exact hom | (show (_ + 1) * 8 ≤ _; omega) | (show _ + 1 ≤ _; omega) | apply And.intro))) | (refine st_store rfl rfl rfl ?_ ?_; · (repeat' (first | exact trivial | rfl | exact Nat.le_of_ble_eq_true rfl | omega | (intro e he; simp at he; subst he; rfl) | exact hom | (show (_ + 1) * 8 ≤ _; omega) | (show _ + 1 ≤ _; omega) | apply And.intro))) | (refine st_lit rfl rfl rfl rfl ?_ ?_; · (repeat' (first | exact trivial | rfl | exact Nat.le_of_ble_eq_true rfl | omega | (intro e he; simp at he; subst he; rfl) | exact hom | (show (_ + 1) * 8 ≤ _; omega) | (show _ + 1 ≤ _; omega) | apply And.intro))) | refine st_skip rfl rfl rfl ?_ | refine st_skip0 rfl rfl ?_ | (refine st_if rfl (fun hb => ?_) (fun hb => ?_) <;> (first | exact no_ hb | rw [hb])) | refine aw_seq ?_ | refine aw_region tab_ok _ rfl ?_ | refine aw_drawn2 tabS_ok _ rfl mixed (by decide +kernel) ?_ | (refine aw_cond rfl (fun hb => ?_) (fun hb => ?_) <;> (try exact no_ hb)) | refine aw_block ?_ | refine aw_exit ?_ | refine aw_ret ?_ | refine aw_skip ?_)
        exact end_ret (fin (w := ([], 7)) (hr.trans hstep).symm (res_of rfl ⟨trivial, trivial, trivial⟩ rfl))
      have hop : op = 1 ∨ op = 2 ∨ op = 3 ∨ op = 4 := by omega
      cases hin : inK kinds arg with
      | false =>
        rw [hin] at hag
        by_cases hm1 : arg = -1
        · subst hm1
          rcases hop with rfl | rfl | rfl | rfl
          · have he : er = 0 := hag
            have hk : kk = 1 := hak
            subst he hk
            repeat' (first | refine st_nil ?_ | rw [hN] | (refine st_pop rfl rfl rfl rfl ?_ ?_; · (repeat' (first | exact trivial | rfl | exact Nat.le_of_ble_eq_true rfl | omega | (intro e he; simp at he; subst he; rfl) | exact hom | (show (_ + 1) * 8 ≤ _; omega) | (show _ + 1 ≤ _; omega) | apply And.intro))) | (refine st_idx rfl rfl rfl rfl rfl rfl rfl rfl hidx ?_ ?_; · exact ⟨by omega, rfl⟩) | (refine st_lop rfl rfl rfl rfl ?_ ?_; · (repeat' (first | exact trivial | rfl | exact Nat.le_of_ble_eq_true rfl | omega | (intro e he; simp at he; subst he; rfl) | exact hom | (show (_ + 1) * 8 ≤ _; omega) | (show _ + 1 ≤ _; omega) | apply And.intro))) | (refine st_store rfl rfl rfl ?_ ?_; · (repeat' (first | exact trivial | rfl | exact Nat.le_of_ble_eq_true rfl | omega | (intro e he; simp at he; subst he; rfl) | exact hom | (show (_ + 1) * 8 ≤ _; omega) | (show _ + 1 ≤ _; omega) | apply And.intro))) | (refine st_lit rfl rfl rfl rfl ?_ ?_; · (repeat' (first | exact trivial | rfl | exact Nat.le_of_ble_eq_true rfl | omega | (intro e he; simp at he; subst he; rfl) | exact hom | (show (_ + 1) * 8 ≤ _; omega) | (show _ + 1 ≤ _; omega) | apply And.intro))) | refine st_skip rfl rfl rfl ?_ | refine st_skip0 rfl rfl ?_ | (refine st_if rfl (fun hb => ?_) (fun hb => ?_) <;> (first | exact no_ hb | rw [hb])) | refine aw_seq ?_ | refine aw_region tab_ok _ rfl ?_ | refine aw_drawn2 tabS_ok _ rfl mixed (by decide +kernel) ?_ | (refine aw_cond rfl (fun hb => ?_) (fun hb => ?_) <;> (try exact no_ hb)) | refine aw_block ?_ | refine aw_exit ?_ | refine aw_ret ?_ | refine aw_skip ?_)
            exact ⟨(j + 1, o2 ++ [1]), ⟨by show j + 1 ≤ m; omega, by simp; omega, hr.trans hstep⟩, by show m - (j + 1) < m - j; omega, fits_mk ⟨rfl, slot_own (by rw [List.map_append]; rfl), rfl, rfl, slot_int (wrap_eq (by omega) (by omega)), trivial⟩ [.box [.c (.int .i64 1), .c (.int .i64 (-1))]] (by rw [List.length_append]; rfl) ⟨trivial, by show 0 < 1; omega, trivial, trivial, trivial, trivial⟩ ⟨trivial, trivial⟩⟩
          · have he : er = 6 := hag
            subst he
            repeat' (first | refine st_nil ?_ | rw [hN] | (refine st_pop rfl rfl rfl rfl ?_ ?_; · (repeat' (first | exact trivial | rfl | exact Nat.le_of_ble_eq_true rfl | omega | (intro e he; simp at he; subst he; rfl) | exact hom | (show (_ + 1) * 8 ≤ _; omega) | (show _ + 1 ≤ _; omega) | apply And.intro))) | (refine st_idx rfl rfl rfl rfl rfl rfl rfl rfl hidx ?_ ?_; · exact ⟨by omega, rfl⟩) | (refine st_lop rfl rfl rfl rfl ?_ ?_; · (repeat' (first | exact trivial | rfl | exact Nat.le_of_ble_eq_true rfl | omega | (intro e he; simp at he; subst he; rfl) | exact hom | (show (_ + 1) * 8 ≤ _; omega) | (show _ + 1 ≤ _; omega) | apply And.intro))) | (refine st_store rfl rfl rfl ?_ ?_; · (repeat' (first | exact trivial | rfl | exact Nat.le_of_ble_eq_true rfl | omega | (intro e he; simp at he; subst he; rfl) | exact hom | (show (_ + 1) * 8 ≤ _; omega) | (show _ + 1 ≤ _; omega) | apply And.intro))) | (refine st_lit rfl rfl rfl rfl ?_ ?_; · (repeat' (first | exact trivial | rfl | exact Nat.le_of_ble_eq_true rfl | omega | (intro e he; simp at he; subst he; rfl) | exact hom | (show (_ + 1) * 8 ≤ _; omega) | (show _ + 1 ≤ _; omega) | apply And.intro))) | refine st_skip rfl rfl rfl ?_ | refine st_skip0 rfl rfl ?_ | (refine st_if rfl (fun hb => ?_) (fun hb => ?_) <;> (first | exact no_ hb | rw [hb])) | refine aw_seq ?_ | refine aw_region tab_ok _ rfl ?_ | refine aw_drawn2 tabS_ok _ rfl mixed (by decide +kernel) ?_ | (refine aw_cond rfl (fun hb => ?_) (fun hb => ?_) <;> (try exact no_ hb)) | refine aw_block ?_ | refine aw_exit ?_ | refine aw_ret ?_ | refine aw_skip ?_)
            exact end_ret (fin (w := ([], 6)) (hr.trans hstep).symm (res_of rfl ⟨trivial, trivial, trivial⟩ rfl))
          · have he : er = 6 := hag
            subst he
            repeat' (first | refine st_nil ?_ | rw [hN] | (refine st_pop rfl rfl rfl rfl ?_ ?_; · (repeat' (first | exact trivial | rfl | exact Nat.le_of_ble_eq_true rfl | omega | (intro e he; simp at he; subst he; rfl) | exact hom | (show (_ + 1) * 8 ≤ _; omega) | (show _ + 1 ≤ _; omega) | apply And.intro))) | (refine st_idx rfl rfl rfl rfl rfl rfl rfl rfl hidx ?_ ?_; · exact ⟨by omega, rfl⟩) | (refine st_lop rfl rfl rfl rfl ?_ ?_; · (repeat' (first | exact trivial | rfl | exact Nat.le_of_ble_eq_true rfl | omega | (intro e he; simp at he; subst he; rfl) | exact hom | (show (_ + 1) * 8 ≤ _; omega) | (show _ + 1 ≤ _; omega) | apply And.intro))) | (refine st_store rfl rfl rfl ?_ ?_; · (repeat' (first | exact trivial | rfl | exact Nat.le_of_ble_eq_true rfl | omega | (intro e he; simp at he; subst he; rfl) | exact hom | (show (_ + 1) * 8 ≤ _; omega) | (show _ + 1 ≤ _; omega) | apply And.intro))) | (refine st_lit rfl rfl rfl rfl ?_ ?_; · (repeat' (first | exact trivial | rfl | exact Nat.le_of_ble_eq_true rfl | omega | (intro e he; simp at he; subst he; rfl) | exact hom | (show (_ + 1) * 8 ≤ _; omega) | (show _ + 1 ≤ _; omega) | apply And.intro))) | refine st_skip rfl rfl rfl ?_ | refine st_skip0 rfl rfl ?_ | (refine st_if rfl (fun hb => ?_) (fun hb => ?_) <;> (first | exact no_ hb | rw [hb])) | refine aw_seq ?_ | refine aw_region tab_ok _ rfl ?_ | refine aw_drawn2 tabS_ok _ rfl mixed (by decide +kernel) ?_ | (refine aw_cond rfl (fun hb => ?_) (fun hb => ?_) <;> (try exact no_ hb)) | refine aw_block ?_ | refine aw_exit ?_ | refine aw_ret ?_ | refine aw_skip ?_)
            exact end_ret (fin (w := ([], 6)) (hr.trans hstep).symm (res_of rfl ⟨trivial, trivial, trivial⟩ rfl))
          · have he : er = 6 := hag
            subst he
            repeat' (first | refine st_nil ?_ | rw [hN] | (refine st_pop rfl rfl rfl rfl ?_ ?_; · (repeat' (first | exact trivial | rfl | exact Nat.le_of_ble_eq_true rfl | omega | (intro e he; simp at he; subst he; rfl) | exact hom | (show (_ + 1) * 8 ≤ _; omega) | (show _ + 1 ≤ _; omega) | apply And.intro))) | (refine st_idx rfl rfl rfl rfl rfl rfl rfl rfl hidx ?_ ?_; · exact ⟨by omega, rfl⟩) | (refine st_lop rfl rfl rfl rfl ?_ ?_; · (repeat' (first | exact trivial | rfl | exact Nat.le_of_ble_eq_true rfl | omega | (intro e he; simp at he; subst he; rfl) | exact hom | (show (_ + 1) * 8 ≤ _; omega) | (show _ + 1 ≤ _; omega) | apply And.intro))) | (refine st_store rfl rfl rfl ?_ ?_; · (repeat' (first | exact trivial | rfl | exact Nat.le_of_ble_eq_true rfl | omega | (intro e he; simp at he; subst he; rfl) | exact hom | (show (_ + 1) * 8 ≤ _; omega) | (show _ + 1 ≤ _; omega) | apply And.intro))) | (refine st_lit rfl rfl rfl rfl ?_ ?_; · (repeat' (first | exact trivial | rfl | exact Nat.le_of_ble_eq_true rfl | omega | (intro e he; simp at he; subst he; rfl) | exact hom | (show (_ + 1) * 8 ≤ _; omega) | (show _ + 1 ≤ _; omega) | apply And.intro))) | refine st_skip rfl rfl rfl ?_ | refine st_skip0 rfl rfl ?_ | (refine st_if rfl (fun hb => ?_) (fun hb => ?_) <;> (first | exact no_ hb | rw [hb])) | refine aw_seq ?_ | refine aw_region tab_ok _ rfl ?_ | refine aw_drawn2 tabS_ok _ rfl mixed (by decide +kernel) ?_ | (refine aw_cond rfl (fun hb => ?_) (fun hb => ?_) <;> (try exact no_ hb)) | refine aw_block ?_ | refine aw_exit ?_ | refine aw_ret ?_ | refine aw_skip ?_)
            exact end_ret (fin (w := ([], 6)) (hr.trans hstep).symm (res_of rfl ⟨trivial, trivial, trivial⟩ rfl))
        · have hM : decide (arg = -1) = false := by simp [hm1]
          have hD : (bif decide (arg < 0) then true else decide ((((kinds.map fun x => [AC.int .i64 x]).length : Nat) : Int) ≤ arg)) = true := by rw [hkl]; revert hin; unfold inK; cases (bif decide (arg < 0) then true else decide ((kinds.length : Int) ≤ arg)) <;> simp
          rw [hM] at hag
          have hag6 : er = 6 := by rcases hop with rfl | rfl | rfl | rfl <;> exact hag
          subst hag6
          by_cases hn0 : arg < 0
          · have hD1 : decide (arg < 0) = true := by simp [hn0]
            rcases hop with rfl | rfl | rfl | rfl
            · repeat' (first | refine st_nil ?_ | rw [hN] | rw [hM] | rw [hD1] | (refine st_pop rfl rfl rfl rfl ?_ ?_; · (repeat' (first | exact trivial | rfl | exact Nat.le_of_ble_eq_true rfl | omega | (intro e he; simp at he; subst he; rfl) | exact hom | (show (_ + 1) * 8 ≤ _; omega) | (show _ + 1 ≤ _; omega) | apply And.intro))) | (refine st_idx rfl rfl rfl rfl rfl rfl rfl rfl hidx ?_ ?_; · exact ⟨by omega, rfl⟩) | (refine st_lop rfl rfl rfl rfl ?_ ?_; · (repeat' (first | exact trivial | rfl | exact Nat.le_of_ble_eq_true rfl | omega | (intro e he; simp at he; subst he; rfl) | exact hom | (show (_ + 1) * 8 ≤ _; omega) | (show _ + 1 ≤ _; omega) | apply And.intro))) | (refine st_store rfl rfl rfl ?_ ?_; · (repeat' (first | exact trivial | rfl | exact Nat.le_of_ble_eq_true rfl | omega | (intro e he; simp at he; subst he; rfl) | exact hom | (show (_ + 1) * 8 ≤ _; omega) | (show _ + 1 ≤ _; omega) | apply And.intro))) | (refine st_lit rfl rfl rfl rfl ?_ ?_; · (repeat' (first | exact trivial | rfl | exact Nat.le_of_ble_eq_true rfl | omega | (intro e he; simp at he; subst he; rfl) | exact hom | (show (_ + 1) * 8 ≤ _; omega) | (show _ + 1 ≤ _; omega) | apply And.intro))) | refine st_skip rfl rfl rfl ?_ | refine st_skip0 rfl rfl ?_ | (refine st_if rfl (fun hb => ?_) (fun hb => ?_) <;> (first | exact no_ hb | rw [hb])) | refine aw_seq ?_ | refine aw_region tab_ok _ rfl ?_ | refine aw_drawn2 tabS_ok _ rfl mixed (by decide +kernel) ?_ | (refine aw_cond rfl (fun hb => ?_) (fun hb => ?_) <;> (try exact no_ hb)) | refine aw_block ?_ | refine aw_exit ?_ | refine aw_ret ?_ | refine aw_skip ?_)
              exact end_ret (fin (w := ([], 6)) (hr.trans hstep).symm (res_of rfl ⟨trivial, trivial, trivial⟩ rfl))
            · repeat' (first | refine st_nil ?_ | rw [hN] | rw [hM] | rw [hD1] | (refine st_pop rfl rfl rfl rfl ?_ ?_; · (repeat' (first | exact trivial | rfl | exact Nat.le_of_ble_eq_true rfl | omega | (intro e he; simp at he; subst he; rfl) | exact hom | (show (_ + 1) * 8 ≤ _; omega) | (show _ + 1 ≤ _; omega) | apply And.intro))) | (refine st_idx rfl rfl rfl rfl rfl rfl rfl rfl hidx ?_ ?_; · exact ⟨by omega, rfl⟩) | (refine st_lop rfl rfl rfl rfl ?_ ?_; · (repeat' (first | exact trivial | rfl | exact Nat.le_of_ble_eq_true rfl | omega | (intro e he; simp at he; subst he; rfl) | exact hom | (show (_ + 1) * 8 ≤ _; omega) | (show _ + 1 ≤ _; omega) | apply And.intro))) | (refine st_store rfl rfl rfl ?_ ?_; · (repeat' (first | exact trivial | rfl | exact Nat.le_of_ble_eq_true rfl | omega | (intro e he; simp at he; subst he; rfl) | exact hom | (show (_ + 1) * 8 ≤ _; omega) | (show _ + 1 ≤ _; omega) | apply And.intro))) | (refine st_lit rfl rfl rfl rfl ?_ ?_; · (repeat' (first | exact trivial | rfl | exact Nat.le_of_ble_eq_true rfl | omega | (intro e he; simp at he; subst he; rfl) | exact hom | (show (_ + 1) * 8 ≤ _; omega) | (show _ + 1 ≤ _; omega) | apply And.intro))) | refine st_skip rfl rfl rfl ?_ | refine st_skip0 rfl rfl ?_ | (refine st_if rfl (fun hb => ?_) (fun hb => ?_) <;> (first | exact no_ hb | rw [hb])) | refine aw_seq ?_ | refine aw_region tab_ok _ rfl ?_ | refine aw_drawn2 tabS_ok _ rfl mixed (by decide +kernel) ?_ | (refine aw_cond rfl (fun hb => ?_) (fun hb => ?_) <;> (try exact no_ hb)) | refine aw_block ?_ | refine aw_exit ?_ | refine aw_ret ?_ | refine aw_skip ?_)
              exact end_ret (fin (w := ([], 6)) (hr.trans hstep).symm (res_of rfl ⟨trivial, trivial, trivial⟩ rfl))
            · repeat' (first | refine st_nil ?_ | rw [hN] | rw [hM] | rw [hD1] | (refine st_pop rfl rfl rfl rfl ?_ ?_; · (repeat' (first | exact trivial | rfl | exact Nat.le_of_ble_eq_true rfl | omega | (intro e he; simp at he; subst he; rfl) | exact hom | (show (_ + 1) * 8 ≤ _; omega) | (show _ + 1 ≤ _; omega) | apply And.intro))) | (refine st_idx rfl rfl rfl rfl rfl rfl rfl rfl hidx ?_ ?_; · exact ⟨by omega, rfl⟩) | (refine st_lop rfl rfl rfl rfl ?_ ?_; · (repeat' (first | exact trivial | rfl | exact Nat.le_of_ble_eq_true rfl | omega | (intro e he; simp at he; subst he; rfl) | exact hom | (show (_ + 1) * 8 ≤ _; omega) | (show _ + 1 ≤ _; omega) | apply And.intro))) | (refine st_store rfl rfl rfl ?_ ?_; · (repeat' (first | exact trivial | rfl | exact Nat.le_of_ble_eq_true rfl | omega | (intro e he; simp at he; subst he; rfl) | exact hom | (show (_ + 1) * 8 ≤ _; omega) | (show _ + 1 ≤ _; omega) | apply And.intro))) | (refine st_lit rfl rfl rfl rfl ?_ ?_; · (repeat' (first | exact trivial | rfl | exact Nat.le_of_ble_eq_true rfl | omega | (intro e he; simp at he; subst he; rfl) | exact hom | (show (_ + 1) * 8 ≤ _; omega) | (show _ + 1 ≤ _; omega) | apply And.intro))) | refine st_skip rfl rfl rfl ?_ | refine st_skip0 rfl rfl ?_ | (refine st_if rfl (fun hb => ?_) (fun hb => ?_) <;> (first | exact no_ hb | rw [hb])) | refine aw_seq ?_ | refine aw_region tab_ok _ rfl ?_ | refine aw_drawn2 tabS_ok _ rfl mixed (by decide +kernel) ?_ | (refine aw_cond rfl (fun hb => ?_) (fun hb => ?_) <;> (try exact no_ hb)) | refine aw_block ?_ | refine aw_exit ?_ | refine aw_ret ?_ | refine aw_skip ?_)
              exact end_ret (fin (w := ([], 6)) (hr.trans hstep).symm (res_of rfl ⟨trivial, trivial, trivial⟩ rfl))
            · repeat' (first | refine st_nil ?_ | rw [hN] | rw [hM] | rw [hD1] | (refine st_pop rfl rfl rfl rfl ?_ ?_; · (repeat' (first | exact trivial | rfl | exact Nat.le_of_ble_eq_true rfl | omega | (intro e he; simp at he; subst he; rfl) | exact hom | (show (_ + 1) * 8 ≤ _; omega) | (show _ + 1 ≤ _; omega) | apply And.intro))) | (refine st_idx rfl rfl rfl rfl rfl rfl rfl rfl hidx ?_ ?_; · exact ⟨by omega, rfl⟩) | (refine st_lop rfl rfl rfl rfl ?_ ?_; · (repeat' (first | exact trivial | rfl | exact Nat.le_of_ble_eq_true rfl | omega | (intro e he; simp at he; subst he; rfl) | exact hom | (show (_ + 1) * 8 ≤ _; omega) | (show _ + 1 ≤ _; omega) | apply And.intro))) | (refine st_store rfl rfl rfl ?_ ?_; · (repeat' (first | exact trivial | rfl | exact Nat.le_of_ble_eq_true rfl | omega | (intro e he; simp at he; subst he; rfl) | exact hom | (show (_ + 1) * 8 ≤ _; omega) | (show _ + 1 ≤ _; omega) | apply And.intro))) | (refine st_lit rfl rfl rfl rfl ?_ ?_; · (repeat' (first | exact trivial | rfl | exact Nat.le_of_ble_eq_true rfl | omega | (intro e he; simp at he; subst he; rfl) | exact hom | (show (_ + 1) * 8 ≤ _; omega) | (show _ + 1 ≤ _; omega) | apply And.intro))) | refine st_skip rfl rfl rfl ?_ | refine st_skip0 rfl rfl ?_ | (refine st_if rfl (fun hb => ?_) (fun hb => ?_) <;> (first | exact no_ hb | rw [hb])) | refine aw_seq ?_ | refine aw_region tab_ok _ rfl ?_ | refine aw_drawn2 tabS_ok _ rfl mixed (by decide +kernel) ?_ | (refine aw_cond rfl (fun hb => ?_) (fun hb => ?_) <;> (try exact no_ hb)) | refine aw_block ?_ | refine aw_exit ?_ | refine aw_ret ?_ | refine aw_skip ?_)
              exact end_ret (fin (w := ([], 6)) (hr.trans hstep).symm (res_of rfl ⟨trivial, trivial, trivial⟩ rfl))
          · have hD1 : decide (arg < 0) = false := by simp [hn0]
            have hD2 : decide ((((kinds.map fun x => [AC.int .i64 x]).length : Nat) : Int) ≤ arg) = true := by rw [hD1] at hD; exact hD
            rcases hop with rfl | rfl | rfl | rfl
            · repeat' (first | refine st_nil ?_ | rw [hN] | rw [hM] | rw [hD1] | rw [hD2] | (refine st_pop rfl rfl rfl rfl ?_ ?_; · (repeat' (first | exact trivial | rfl | exact Nat.le_of_ble_eq_true rfl | omega | (intro e he; simp at he; subst he; rfl) | exact hom | (show (_ + 1) * 8 ≤ _; omega) | (show _ + 1 ≤ _; omega) | apply And.intro))) | (refine st_idx rfl rfl rfl rfl rfl rfl rfl rfl hidx ?_ ?_; · exact ⟨by omega, rfl⟩) | (refine st_lop rfl rfl rfl rfl ?_ ?_; · (repeat' (first | exact trivial | rfl | exact Nat.le_of_ble_eq_true rfl | omega | (intro e he; simp at he; subst he; rfl) | exact hom | (show (_ + 1) * 8 ≤ _; omega) | (show _ + 1 ≤ _; omega) | apply And.intro))) | (refine st_store rfl rfl rfl ?_ ?_; · (repeat' (first | exact trivial | rfl | exact Nat.le_of_ble_eq_true rfl | omega | (intro e he; simp at he; subst he; rfl) | exact hom | (show (_ + 1) * 8 ≤ _; omega) | (show _ + 1 ≤ _; omega) | apply And.intro))) | (refine st_lit rfl rfl rfl rfl ?_ ?_; · (repeat' (first | exact trivial | rfl | exact Nat.le_of_ble_eq_true rfl | omega | (intro e he; simp at he; subst he; rfl) | exact hom | (show (_ + 1) * 8 ≤ _; omega) | (show _ + 1 ≤ _; omega) | apply And.intro))) | refine st_skip rfl rfl rfl ?_ | refine st_skip0 rfl rfl ?_ | (refine st_if rfl (fun hb => ?_) (fun hb => ?_) <;> (first | exact no_ hb | rw [hb])) | refine aw_seq ?_ | refine aw_region tab_ok _ rfl ?_ | refine aw_drawn2 tabS_ok _ rfl mixed (by decide +kernel) ?_ | (refine aw_cond rfl (fun hb => ?_) (fun hb => ?_) <;> (try exact no_ hb)) | refine aw_block ?_ | refine aw_exit ?_ | refine aw_ret ?_ | refine aw_skip ?_)
              exact end_ret (fin (w := ([], 6)) (hr.trans hstep).symm (res_of rfl ⟨trivial, trivial, trivial⟩ rfl))
            · repeat' (first | refine st_nil ?_ | rw [hN] | rw [hM] | rw [hD1] | rw [hD2] | (refine st_pop rfl rfl rfl rfl ?_ ?_; · (repeat' (first | exact trivial | rfl | exact Nat.le_of_ble_eq_true rfl | omega | (intro e he; simp at he; subst he; rfl) | exact hom | (show (_ + 1) * 8 ≤ _; omega) | (show _ + 1 ≤ _; omega) | apply And.intro))) | (refine st_idx rfl rfl rfl rfl rfl rfl rfl rfl hidx ?_ ?_; · exact ⟨by omega, rfl⟩) | (refine st_lop rfl rfl rfl rfl ?_ ?_; · (repeat' (first | exact trivial | rfl | exact Nat.le_of_ble_eq_true rfl | omega | (intro e he; simp at he; subst he; rfl) | exact hom | (show (_ + 1) * 8 ≤ _; omega) | (show _ + 1 ≤ _; omega) | apply And.intro))) | (refine st_store rfl rfl rfl ?_ ?_; · (repeat' (first | exact trivial | rfl | exact Nat.le_of_ble_eq_true rfl | omega | (intro e he; simp at he; subst he; rfl) | exact hom | (show (_ + 1) * 8 ≤ _; omega) | (show _ + 1 ≤ _; omega) | apply And.intro))) | (refine st_lit rfl rfl rfl rfl ?_ ?_; · (repeat' (first | exact trivial | rfl | exact Nat.le_of_ble_eq_true rfl | omega | (intro e he; simp at he; subst he; rfl) | exact hom | (show (_ + 1) * 8 ≤ _; omega) | (show _ + 1 ≤ _; omega) | apply And.intro))) | refine st_skip rfl rfl rfl ?_ | refine st_skip0 rfl rfl ?_ | (refine st_if rfl (fun hb => ?_) (fun hb => ?_) <;> (first | exact no_ hb | rw [hb])) | refine aw_seq ?_ | refine aw_region tab_ok _ rfl ?_ | refine aw_drawn2 tabS_ok _ rfl mixed (by decide +kernel) ?_ | (refine aw_cond rfl (fun hb => ?_) (fun hb => ?_) <;> (try exact no_ hb)) | refine aw_block ?_ | refine aw_exit ?_ | refine aw_ret ?_ | refine aw_skip ?_)
              exact end_ret (fin (w := ([], 6)) (hr.trans hstep).symm (res_of rfl ⟨trivial, trivial, trivial⟩ rfl))
            · repeat' (first | refine st_nil ?_ | rw [hN] | rw [hM] | rw [hD1] | rw [hD2] | (refine st_pop rfl rfl rfl rfl ?_ ?_; · (repeat' (first | exact trivial | rfl | exact Nat.le_of_ble_eq_true rfl | omega | (intro e he; simp at he; subst he; rfl) | exact hom | (show (_ + 1) * 8 ≤ _; omega) | (show _ + 1 ≤ _; omega) | apply And.intro))) | (refine st_idx rfl rfl rfl rfl rfl rfl rfl rfl hidx ?_ ?_; · exact ⟨by omega, rfl⟩) | (refine st_lop rfl rfl rfl rfl ?_ ?_; · (repeat' (first | exact trivial | rfl | exact Nat.le_of_ble_eq_true rfl | omega | (intro e he; simp at he; subst he; rfl) | exact hom | (show (_ + 1) * 8 ≤ _; omega) | (show _ + 1 ≤ _; omega) | apply And.intro))) | (refine st_store rfl rfl rfl ?_ ?_; · (repeat' (first | exact trivial | rfl | exact Nat.le_of_ble_eq_true rfl | omega | (intro e he; simp at he; subst he; rfl) | exact hom | (show (_ + 1) * 8 ≤ _; omega) | (show _ + 1 ≤ _; omega) | apply And.intro))) | (refine st_lit rfl rfl rfl rfl ?_ ?_; · (repeat' (first | exact trivial | rfl | exact Nat.le_of_ble_eq_true rfl | omega | (intro e he; simp at he; subst he; rfl) | exact hom | (show (_ + 1) * 8 ≤ _; omega) | (show _ + 1 ≤ _; omega) | apply And.intro))) | refine st_skip rfl rfl rfl ?_ | refine st_skip0 rfl rfl ?_ | (refine st_if rfl (fun hb => ?_) (fun hb => ?_) <;> (first | exact no_ hb | rw [hb])) | refine aw_seq ?_ | refine aw_region tab_ok _ rfl ?_ | refine aw_drawn2 tabS_ok _ rfl mixed (by decide +kernel) ?_ | (refine aw_cond rfl (fun hb => ?_) (fun hb => ?_) <;> (try exact no_ hb)) | refine aw_block ?_ | refine aw_exit ?_ | refine aw_ret ?_ | refine aw_skip ?_)
              exact end_ret (fin (w := ([], 6)) (hr.trans hstep).symm (res_of rfl ⟨trivial, trivial, trivial⟩ rfl))
            · repeat' (first | refine st_nil ?_ | rw [hN] | rw [hM] | rw [hD1] | rw [hD2] | (refine st_pop rfl rfl rfl rfl ?_ ?_; · (repeat' (first | exact trivial | rfl | exact Nat.le_of_ble_eq_true rfl | omega | (intro e he; simp at he; subst he; rfl) | exact hom | (show (_ + 1) * 8 ≤ _; omega) | (show _ + 1 ≤ _; omega) | apply And.intro))) | (refine st_idx rfl rfl rfl rfl rfl rfl rfl rfl hidx ?_ ?_; · exact ⟨by omega, rfl⟩) | (refine st_lop rfl rfl rfl rfl ?_ ?_; · (repeat' (first | exact trivial | rfl | exact Nat.le_of_ble_eq_true rfl | omega | (intro e he; simp at he; subst he; rfl) | exact hom | (show (_ + 1) * 8 ≤ _; omega) | (show _ + 1 ≤ _; omega) | apply And.intro))) | (refine st_store rfl rfl rfl ?_ ?_; · (repeat' (first | exact trivial | rfl | exact Nat.le_of_ble_eq_true rfl | omega | (intro e he; simp at he; subst he; rfl) | exact hom | (show (_ + 1) * 8 ≤ _; omega) | (show _ + 1 ≤ _; omega) | apply And.intro))) | (refine st_lit rfl rfl rfl rfl ?_ ?_; · (repeat' (first | exact trivial | rfl | exact Nat.le_of_ble_eq_true rfl | omega | (intro e he; simp at he; subst he; rfl) | exact hom | (show (_ + 1) * 8 ≤ _; omega) | (show _ + 1 ≤ _; omega) | apply And.intro))) | refine st_skip rfl rfl rfl ?_ | refine st_skip0 rfl rfl ?_ | (refine st_if rfl (fun hb => ?_) (fun hb => ?_) <;> (first | exact no_ hb | rw [hb])) | refine aw_seq ?_ | refine aw_region tab_ok _ rfl ?_ | refine aw_drawn2 tabS_ok _ rfl mixed (by decide +kernel) ?_ | (refine aw_cond rfl (fun hb => ?_) (fun hb => ?_) <;> (try exact no_ hb)) | refine aw_block ?_ | refine aw_exit ?_ | refine aw_ret ?_ | refine aw_skip ?_)
              exact end_ret (fin (w := ([], 6)) (hr.trans hstep).symm (res_of rfl ⟨trivial, trivial, trivial⟩ rfl))
      | true =>
        obtain ⟨hk0, y, hy⟩ := inK_get hin
        have hg := getD_of hy
        have hM : decide (arg = -1) = false := by simp; omega
        have hD1 : decide (arg < 0) = false := by simp; omega
        have hD2 : decide ((((kinds.map fun x => [AC.int .i64 x]).length : Nat) : Int) ≤ arg) = false := by rw [hkl]; unfold inK at hin; rw [hD1] at hin; simpa using hin
        rw [hin, hg, hM] at hag
        rw [hg] at hak
        rcases hop with rfl | rfl | rfl | rfl
        · have he : er = 0 := hag
          have hk : kk = 1 := hak
          subst he hk
          repeat' (first | refine st_nil ?_ | rw [hN] | rw [hM] | rw [hD1] | rw [hD2] | (refine st_pop rfl rfl rfl rfl ?_ ?_; · (repeat' (first | exact trivial | rfl | exact Nat.le_of_ble_eq_true rfl | omega | (intro e he; simp at he; subst he; rfl) | exact hom | (show (_ + 1) * 8 ≤ _; omega) | (show _ + 1 ≤ _; omega) | apply And.intro))) | (refine st_idx rfl rfl rfl rfl rfl rfl rfl rfl hidx ?_ ?_; · exact ⟨by omega, rfl⟩) | (refine st_lop rfl rfl rfl rfl ?_ ?_; · (repeat' (first | exact trivial | rfl | exact Nat.le_of_ble_eq_true rfl | omega | (intro e he; simp at he; subst he; rfl) | exact hom | (show (_ + 1) * 8 ≤ _; omega) | (show _ + 1 ≤ _; omega) | apply And.intro))) | (refine st_store rfl rfl rfl ?_ ?_; · (repeat' (first | exact trivial | rfl | exact Nat.le_of_ble_eq_true rfl | omega | (intro e he; simp at he; subst he; rfl) | exact hom | (show (_ + 1) * 8 ≤ _; omega) | (show _ + 1 ≤ _; omega) | apply And.intro))) | (refine st_lit rfl rfl rfl rfl ?_ ?_; · (repeat' (first | exact trivial | rfl | exact Nat.le_of_ble_eq_true rfl | omega | (intro e he; simp at he; subst he; rfl) | exact hom | (show (_ + 1) * 8 ≤ _; omega) | (show _ + 1 ≤ _; omega) | apply And.intro))) | refine st_skip rfl rfl rfl ?_ | refine st_skip0 rfl rfl ?_ | (refine st_if rfl (fun hb => ?_) (fun hb => ?_) <;> (first | exact no_ hb | rw [hb])) | refine aw_seq ?_ | refine aw_region tab_ok _ rfl ?_ | refine aw_drawn2 tabS_ok _ rfl mixed (by decide +kernel) ?_ | (refine aw_cond rfl (fun hb => ?_) (fun hb => ?_) <;> (try exact no_ hb)) | refine aw_block ?_ | refine aw_exit ?_ | refine aw_ret ?_ | refine aw_skip ?_)
          exact ⟨(j + 1, o2 ++ [1]), ⟨by show j + 1 ≤ m; omega, by simp; omega, hr.trans hstep⟩, by show m - (j + 1) < m - j; omega, fits_mk ⟨rfl, slot_own (by rw [List.map_append]; rfl), rfl, rfl, slot_int (wrap_eq (by omega) (by omega)), trivial⟩ [.box [.c (.int .i64 1), .c (.int .i64 arg)]] (by rw [List.length_append]; rfl) ⟨trivial, by show 0 < 1; omega, trivial, trivial, trivial, trivial⟩ ⟨trivial, trivial⟩⟩
        · by_cases hy1 : y = 1
          · have hY : decide (y ≠ 1) = false := by simp [hy1]
            rw [hY] at hag
            have he : er = 0 := hag
            have hk : kk = 1 := hak
            subst he hk
            repeat' (first | refine st_nil ?_ | rw [hN] | rw [hM] | rw [hD1] | rw [hD2] | rw [hY] | (refine st_pop rfl rfl rfl rfl ?_ ?_; · (repeat' (first | exact trivial | rfl | exact Nat.le_of_ble_eq_true rfl | omega | (intro e he; simp at he; subst he; rfl) | exact hom | (show (_ + 1) * 8 ≤ _; omega) | (show _ + 1 ≤ _; omega) | apply And.intro))) | (refine st_idx rfl rfl rfl rfl rfl rfl rfl rfl hidx ?_ ?_; · exact ⟨by omega, rfl⟩) | (refine st_idx rfl rfl rfl rfl rfl rfl rfl rfl (idx_ints hy) ?_ ?_; · exact ⟨by omega, rfl⟩) | (refine st_lop rfl rfl rfl rfl ?_ ?_; · (repeat' (first | exact trivial | rfl | exact Nat.le_of_ble_eq_true rfl | omega | (intro e he; simp at he; subst he; rfl) | exact hom | (show (_ + 1) * 8 ≤ _; omega) | (show _ + 1 ≤ _; omega) | apply And.intro))) | (refine st_store rfl rfl rfl ?_ ?_; · (repeat' (first | exact trivial | rfl | exact Nat.le_of_ble_eq_true rfl | omega | (intro e he; simp at he; subst he; rfl) | exact hom | (show (_ + 1) * 8 ≤ _; omega) | (show _ + 1 ≤ _; omega) | apply And.intro))) | (refine st_lit rfl rfl rfl rfl ?_ ?_; · (repeat' (first | exact trivial | rfl | exact Nat.le_of_ble_eq_true rfl | omega | (intro e he; simp at he; subst he; rfl) | exact hom | (show (_ + 1) * 8 ≤ _; omega) | (show _ + 1 ≤ _; omega) | apply And.intro))) | refine st_skip rfl rfl rfl ?_ | refine st_skip0 rfl rfl ?_ | (refine st_if rfl (fun hb => ?_) (fun hb => ?_) <;> (first | exact no_ hb | rw [hb])) | refine aw_seq ?_ | refine aw_region tab_ok _ rfl ?_ | refine aw_drawn2 tabS_ok _ rfl mixed (by decide +kernel) ?_ | (refine aw_cond rfl (fun hb => ?_) (fun hb => ?_) <;> (try exact no_ hb)) | refine aw_block ?_ | refine aw_exit ?_ | refine aw_ret ?_ | refine aw_skip ?_)
            exact ⟨(j + 1, o2 ++ [1]), ⟨by show j + 1 ≤ m; omega, by simp; omega, hr.trans hstep⟩, by show m - (j + 1) < m - j; omega, fits_mk ⟨rfl, slot_own (by rw [List.map_append]; rfl), rfl, rfl, slot_int (wrap_eq (by omega) (by omega)), trivial⟩ [.box [.c (.int .i64 2), .c (.int .i64 arg)]] (by rw [List.length_append]; rfl) ⟨trivial, by show 0 < 1; omega, trivial, trivial, trivial, trivial⟩ ⟨trivial, trivial⟩⟩
          · have hY : decide (y ≠ 1) = true := by simp [hy1]
            rw [hY] at hag
            have he : er = 7 := hag
            subst he
            repeat' (first | refine st_nil ?_ | rw [hN] | rw [hM] | rw [hD1] | rw [hD2] | rw [hY] | (refine st_pop rfl rfl rfl rfl ?_ ?_; · (repeat' (first | exact trivial | rfl | exact Nat.le_of_ble_eq_true rfl | omega | (intro e he; simp at he; subst he; rfl) | exact hom | (show (_ + 1) * 8 ≤ _; omega) | (show _ + 1 ≤ _; omega) | apply And.intro))) | (refine st_idx rfl rfl rfl rfl rfl rfl rfl rfl hidx ?_ ?_; · exact ⟨by omega, rfl⟩) | (refine st_idx rfl rfl rfl rfl rfl rfl rfl rfl (idx_ints hy) ?_ ?_; · exact ⟨by omega, rfl⟩) | (refine st_lop rfl rfl rfl rfl ?_ ?_; · (repeat' (first | exact trivial | rfl | exact Nat.le_of_ble_eq_true rfl | omega | (intro e he; simp at he; subst he; rfl) | exact hom | (show (_ + 1) * 8 ≤ _; omega) | (show _ + 1 ≤ _; omega) | apply And.intro))) | (refine st_store rfl rfl rfl ?_ ?_; · (repeat' (first | exact trivial | rfl | exact Nat.le_of_ble_eq_true rfl | omega | (intro e he; simp at he; subst he; rfl) | exact hom | (show (_ + 1) * 8 ≤ _; omega) | (show _ + 1 ≤ _; omega) | apply And.intro))) | (refine st_lit rfl rfl rfl rfl ?_ ?_; · (repeat' (first | exact trivial | rfl | exact Nat.le_of_ble_eq_true rfl | omega | (intro e he; simp at he; subst he; rfl) | exact hom | (show (_ + 1) * 8 ≤ _; omega) | (show _ + 1 ≤ _; omega) | apply And.intro))) | refine st_skip rfl rfl rfl ?_ | refine st_skip0 rfl rfl ?_ | (refine st_if rfl (fun hb => ?_) (fun hb => ?_) <;> (first | exact no_ hb | rw [hb])) | refine aw_seq ?_ | refine aw_region tab_ok _ rfl ?_ | refine aw_drawn2 tabS_ok _ rfl mixed (by decide +kernel) ?_ | (refine aw_cond rfl (fun hb => ?_) (fun hb => ?_) <;> (try exact no_ hb)) | refine aw_block ?_ | refine aw_exit ?_ | refine aw_ret ?_ | refine aw_skip ?_)
            exact end_ret (fin (w := ([], 7)) (hr.trans hstep).symm (res_of rfl ⟨trivial, trivial, trivial⟩ rfl))
        · have he : er = 0 := hag
          have hk : kk = y := hak
          subst he hk
          repeat' (first | refine st_nil ?_ | rw [hN] | rw [hM] | rw [hD1] | rw [hD2] | (refine st_pop rfl rfl rfl rfl ?_ ?_; · (repeat' (first | exact trivial | rfl | exact Nat.le_of_ble_eq_true rfl | omega | (intro e he; simp at he; subst he; rfl) | exact hom | (show (_ + 1) * 8 ≤ _; omega) | (show _ + 1 ≤ _; omega) | apply And.intro))) | (refine st_idx rfl rfl rfl rfl rfl rfl rfl rfl hidx ?_ ?_; · exact ⟨by omega, rfl⟩) | (refine st_idx rfl rfl rfl rfl rfl rfl rfl rfl (idx_ints hy) ?_ ?_; · exact ⟨by omega, rfl⟩) | (refine st_lop rfl rfl rfl rfl ?_ ?_; · (repeat' (first | exact trivial | rfl | exact Nat.le_of_ble_eq_true rfl | omega | (intro e he; simp at he; subst he; rfl) | exact hom | (show (_ + 1) * 8 ≤ _; omega) | (show _ + 1 ≤ _; omega) | apply And.intro))) | (refine st_store rfl rfl rfl ?_ ?_; · (repeat' (first | exact trivial | rfl | exact Nat.le_of_ble_eq_true rfl | omega | (intro e he; simp at he; subst he; rfl) | exact hom | (show (_ + 1) * 8 ≤ _; omega) | (show _ + 1 ≤ _; omega) | apply And.intro))) | (refine st_lit rfl rfl rfl rfl ?_ ?_; · (repeat' (first | exact trivial | rfl | exact Nat.le_of_ble_eq_true rfl | omega | (intro e he; simp at he; subst he; rfl) | exact hom | (show (_ + 1) * 8 ≤ _; omega) | (show _ + 1 ≤ _; omega) | apply And.intro))) | refine st_skip rfl rfl rfl ?_ | refine st_skip0 rfl rfl ?_ | (refine st_if rfl (fun hb => ?_) (fun hb => ?_) <;> (first | exact no_ hb | rw [hb])) | refine aw_seq ?_ | refine aw_region tab_ok _ rfl ?_ | refine aw_drawn2 tabS_ok _ rfl mixed (by decide +kernel) ?_ | (refine aw_cond rfl (fun hb => ?_) (fun hb => ?_) <;> (try exact no_ hb)) | refine aw_block ?_ | refine aw_exit ?_ | refine aw_ret ?_ | refine aw_skip ?_)
          exact ⟨(j + 1, o2 ++ [kk]), ⟨by show j + 1 ≤ m; omega, by simp; omega, hr.trans hstep⟩, by show m - (j + 1) < m - j; omega, fits_mk ⟨rfl, slot_own (by rw [List.map_append]; rfl), rfl, rfl, slot_int (wrap_eq (by omega) (by omega)), trivial⟩ [.box [.c (.int .i64 3), .c (.int .i64 arg)]] (by rw [List.length_append]; rfl) ⟨trivial, by show 0 < 1; omega, trivial, trivial, trivial, trivial⟩ ⟨trivial, trivial⟩⟩
        · have he : er = 0 := hag
          have hk : kk = y := hak
          subst he hk
          repeat' (first | refine st_nil ?_ | rw [hN] | rw [hM] | rw [hD1] | rw [hD2] | (refine st_pop rfl rfl rfl rfl ?_ ?_; · (repeat' (first | exact trivial | rfl | exact Nat.le_of_ble_eq_true rfl | omega | (intro e he; simp at he; subst he; rfl) | exact hom | (show (_ + 1) * 8 ≤ _; omega) | (show _ + 1 ≤ _; omega) | apply And.intro))) | (refine st_idx rfl rfl rfl rfl rfl rfl rfl rfl hidx ?_ ?_; · exact ⟨by omega, rfl⟩) | (refine st_idx rfl rfl rfl rfl rfl rfl rfl rfl (idx_ints hy) ?_ ?_; · exact ⟨by omega, rfl⟩) | (refine st_lop rfl rfl rfl rfl ?_ ?_; · (repeat' (first | exact trivial | rfl | exact Nat.le_of_ble_eq_true rfl | omega | (intro e he; simp at he; subst he; rfl) | exact hom | (show (_ + 1) * 8 ≤ _; omega) | (show _ + 1 ≤ _; omega) | apply And.intro))) | (refine st_store rfl rfl rfl ?_ ?_; · (repeat' (first | exact trivial | rfl | exact Nat.le_of_ble_eq_true rfl | omega | (intro e he; simp at he; subst he; rfl) | exact hom | (show (_ + 1) * 8 ≤ _; omega) | (show _ + 1 ≤ _; omega) | apply And.intro))) | (refine st_lit rfl rfl rfl rfl ?_ ?_; · (repeat' (first | exact trivial | rfl | exact Nat.le_of_ble_eq_true rfl | omega | (intro e he; simp at he; subst he; rfl) | exact hom | (show (_ + 1) * 8 ≤ _; omega) | (show _ + 1 ≤ _; omega) | apply And.intro))) | refine st_skip rfl rfl rfl ?_ | refine st_skip0 rfl rfl ?_ | (refine st_if rfl (fun hb => ?_) (fun hb => ?_) <;> (first | exact no_ hb | rw [hb])) | refine aw_seq ?_ | refine aw_region tab_ok _ rfl ?_ | refine aw_drawn2 tabS_ok _ rfl mixed (by decide +kernel) ?_ | (refine aw_cond rfl (fun hb => ?_) (fun hb => ?_) <;> (try exact no_ hb)) | refine aw_block ?_ | refine aw_exit ?_ | refine aw_ret ?_ | refine aw_skip ?_)
          exact ⟨(j + 1, o2 ++ [kk]), ⟨by show j + 1 ≤ m; omega, by simp; omega, hr.trans hstep⟩, by show m - (j + 1) < m - j; omega, fits_mk ⟨rfl, slot_own (by rw [List.map_append]; rfl), rfl, rfl, slot_int (wrap_eq (by omega) (by omega)), trivial⟩ [.box [.c (.int .i64 4), .c (.int .i64 arg)]] (by rw [List.length_append]; rfl) ⟨trivial, by show 0 < 1; omega, trivial, trivial, trivial, trivial⟩ ⟨trivial, trivial⟩⟩
    · have hN : decide ((j : Int) < m) = false := by simp; omega
      have hdr : aggs.drop j = [] := List.drop_of_length_le (by omega)
      rw [hdr] at hr
      repeat' (first | refine st_nil ?_ | rw [hN] | (refine st_pop rfl rfl rfl rfl ?_ ?_; · exact ok_) | (refine st_lop rfl rfl rfl rfl ?_ ?_; · exact ok_) | (refine st_store rfl rfl rfl ?_ ?_; · exact ok_) | (refine st_lit rfl rfl rfl rfl ?_ ?_; · exact ok_) | refine st_skip rfl rfl rfl ?_ | refine st_skip0 rfl rfl ?_ | (refine st_if rfl (fun hb => ?_) (fun hb => ?_) <;> (first | exact no_ hb | rw [hb])) | refine aw_seq ?_ | refine aw_region tab_ok _ rfl ?_ | refine aw_drawn2 tabS_ok _ rfl mixed (by decide +kernel) ?_ | (refine aw_cond rfl (fun hb => ?_) (fun hb => ?_) <;> (try exact no_ hb)) | refine aw_block ?_ | refine aw_exit ?_ | refine aw_ret ?_ | refine aw_skip ?_)
      exact end_ret (fin (w := (o2, 0)) hr.symm (res_of rfl (by trivial) rfl))
end Go.Proofs.YtfpbmfalamappaaGreatDoor

namespace Go.Proofs.YtfpbmfalamappaaGreatDoor
open Go.RowKit Go.MapKept
set_option maxRecDepth 100000
/-- The table for Group: Pick hands its row over; calls of closures in slots, lookups and literals may turn objects. -/
def tabG : TI := { tab with dyn := true, owns := fun f => f == 55 || tab.owns f }
theorem tabG_ok : TIok Tryz.prog tabG := ⟨tab_ok.size, tab_ok.agg, tab_ok.elem, tab_ok.field, tab_ok.zero, tab_ok.bytes, tab_ok.kind, tab_ok.struct, tab_ok.zok, tab_ok.eqs⟩
theorem pick_run (r : List Val) (l : List Int) (hr : r.length ≤ 1000000) (hl : l.length ≤ 1000000) : Run Tryz.prog 55 [] [.one (.c (tRow r)), .one (.c (tInts l))] [.spare l.length 3] (.one (.own ((pickV r l).map cV) 0)) := by
  refine run_of_aw tab_ok Tryz.func55 rfl rfl Tryz.ntmps55 (by simp) ?_
  simp only [argA]
  obtain ⟨n, hn⟩ : ∃ n, l.length = n := ⟨_, rfl⟩
  have hml : (((l.map fun x => [AC.int .i64 x]).length : Nat) : Int) = n := by simp [hn]
  repeat' (first | refine st_nil ?_ | (refine st_sop rfl rfl rfl rfl rfl (sop_makeOwn tab_ok (k := 3) (by_ := 32) rfl rfl rfl rfl rfl rfl (by decide) (by omega) (by rw [hml]; omega) (by rw [hml]; omega)) ?_) | (refine st_pop rfl rfl rfl rfl ?_ ?_; · exact ok_) | (refine st_lop rfl rfl rfl rfl ?_ ?_; · exact ok_) | (refine st_store rfl rfl rfl ?_ ?_; · exact ok_) | (refine st_lit rfl rfl rfl rfl ?_ ?_; · exact ok_) | refine st_skip rfl rfl rfl ?_ | refine st_skip0 rfl rfl ?_ | (refine st_if rfl (fun hb => ?_) (fun hb => ?_) <;> (first | exact no_ hb | rw [hb])) | refine aw_seq ?_ | refine aw_region tab_ok _ rfl ?_ | refine aw_drawn2 tabS_ok _ rfl mixed (by decide +kernel) ?_ | (refine aw_cond rfl (fun hb => ?_) (fun hb => ?_) <;> (try exact no_ hb)) | refine aw_block ?_ | refine aw_exit ?_ | refine aw_ret ?_ | refine aw_skip ?_)
  refine aw_loop (fun i : Nat => [(0, .one (.c (tRow r))), (5, .one (.own ((pickV r (l.take i)).map cV) 0)), (11, .one (.c (tInts l))), (12, .one (.c (.int .i64 n))), (13, .one (.c (.int .i64 i)))]) (fun i => [.spare i 3]) (fun i => i ≤ n) (fun i => n - i) 0 (by omega) (fun _ _ => Nat.zero_le _)
    (fits_mk ⟨rfl, rfl, rfl, slot_int hml, rfl, trivial⟩ [] rfl ⟨trivial, by show 0 < 1; omega, trivial, trivial, trivial, trivial⟩ ⟨trivial, trivial⟩) ?_
  intro i hi
  by_cases hlt : i < n
  · obtain ⟨x, hx⟩ := get_of_lt (show i < l.length by omega)
    have hlen : ((pickV r (l.take i)).map cV).length = i := by simp [pickV]; omega
    have hnx : (pickV r (l.take (i + 1))).map cV = (pickV r (l.take i)).map cV ++ [cV (atV r x)] := by rw [take_succ hx]; simp [pickV]
    repeat' (first | refine st_nil ?_ | (refine st_pop rfl rfl rfl rfl ?_ ?_; · (repeat' (first | exact trivial | rfl | exact Nat.le_of_ble_eq_true rfl | omega | (intro e he; simp at he; subst he; rfl) | exact hlen | (show (_ + 1) * 32 ≤ _; omega) | (show _ + 1 ≤ _; omega) | apply And.intro))) | (refine st_idx rfl rfl rfl rfl rfl rfl rfl rfl (idx_map hx) ?_ ?_; · exact ⟨by omega, rfl⟩) | (refine st_lop rfl rfl rfl rfl ?_ ?_; · (repeat' (first | exact trivial | rfl | exact Nat.le_of_ble_eq_true rfl | omega | (intro e he; simp at he; subst he; rfl) | exact hlen | (show (_ + 1) * 32 ≤ _; omega) | (show _ + 1 ≤ _; omega) | apply And.intro))) | (refine st_store rfl rfl rfl ?_ ?_; · (repeat' (first | exact trivial | rfl | exact Nat.le_of_ble_eq_true rfl | omega | (intro e he; simp at he; subst he; rfl) | exact hlen | (show (_ + 1) * 32 ≤ _; omega) | (show _ + 1 ≤ _; omega) | apply And.intro))) | (refine st_lit rfl rfl rfl rfl ?_ ?_; · (repeat' (first | exact trivial | rfl | exact Nat.le_of_ble_eq_true rfl | omega | (intro e he; simp at he; subst he; rfl) | exact hlen | (show (_ + 1) * 32 ≤ _; omega) | (show _ + 1 ≤ _; omega) | apply And.intro))) | refine st_skip rfl rfl rfl ?_ | refine st_skip0 rfl rfl ?_ | refine st_call rfl rfl rfl rfl (at_pure r x hr) rfl ?_ | (refine st_if rfl (fun hb => ?_) (fun hb => ?_) <;> (first | exact no_ hb | rw [hb])) | refine aw_seq ?_ | refine aw_region tab_ok _ rfl ?_ | refine aw_drawn2 tabS_ok _ rfl mixed (by decide +kernel) ?_ | (refine aw_cond rfl (fun hb => ?_) (fun hb => ?_) <;> (try exact no_ hb)) | refine aw_block ?_ | refine aw_exit ?_ | refine aw_ret ?_ | refine aw_skip ?_)
    exact ⟨i + 1, by omega, by omega, fits_mk ⟨rfl, slot_own (by rw [hnx]; rfl), rfl, rfl, slot_int (wrap_eq (by omega) (by omega)), trivial⟩ [] rfl ⟨trivial, by show 0 < 1; omega, trivial, trivial, trivial, trivial⟩ ⟨trivial, trivial⟩⟩
  · have htk : l.take i = l := List.take_of_length_le (by omega)
    have hil : i = l.length := by omega
    rw [htk, hil]
    repeat' (first | refine st_nil ?_ | (refine st_pop rfl rfl rfl rfl ?_ ?_; · exact ok_) | (refine st_lop rfl rfl rfl rfl ?_ ?_; · exact ok_) | (refine st_store rfl rfl rfl ?_ ?_; · exact ok_) | (refine st_lit rfl rfl rfl rfl ?_ ?_; · exact ok_) | refine st_skip rfl rfl rfl ?_ | refine st_skip0 rfl rfl ?_ | (refine st_if rfl (fun hb => ?_) (fun hb => ?_) <;> (first | exact no_ hb | rw [hb])) | refine aw_seq ?_ | refine aw_region tab_ok _ rfl ?_ | refine aw_drawn2 tabS_ok _ rfl mixed (by decide +kernel) ?_ | (refine aw_cond rfl (fun hb => ?_) (fun hb => ?_) <;> (try exact no_ hb)) | refine aw_block ?_ | refine aw_exit ?_ | refine aw_ret ?_ | refine aw_skip ?_)
    exact ⟨.inr rfl, ⟨.inl ⟨4, rfl, rfl⟩, ⟨[], rfl⟩, Nat.zero_le _, mem_below ⟨trivial, trivial⟩, by show 0 < 1; omega⟩⟩
/-- A literal of one nil slice, as a row. -/
theorem sop_litNil {P : Program} {ti : TI} {ρ : Operand → Option AV} {L : List Ob} {inf : TypeInfo} (hti : TIok P ti) {t : TypeId} {E : Nat} (ht : ti.elem t = some E) (hE : E < 65536) (hsz : ti.size E = some 1) (hzo : ti.zok E = true) (hz : P.info? E = some inf) (hz2 : inf.zero = some (.slice none 0 0)) :
    Sop P ρ L (.buildSlice t 1 #[(0, .const (.slice none 0 0))]) (.one (.sl L.length (E + 65536) 0 1)) (L ++ [.row (E + 65536) [[.emp]] 1]) := by
  intro B R γ w ev o ho hi hρ hfv
  obtain ⟨dst, op, type, pos, after, guard⟩ := o
  simp only at ho; subst ho
  have hs1 : inf.size = 1 := by have := hti.size _ _ hsz; unfold tsize at this; rw [hz] at this; simpa using this
  have hrun : (execOp ev { dst, op := .buildSlice t 1 #[(0, .const (.slice none 0 0))], type, pos, after, guard }).run P w = .ok (.value (.slice (some ⟨w.heap.size, 0, none⟩) 1 1)) (w.alloc (.cells #[.slice none 0 0] E)) := by
    simp [execOp, Instr.buildSlice, run_underlying (under_of hti ht), sizeOf, typeInfo, program, Sem.run, hz, hs1, zeroValue, hz2, newRow, Instr.fill, hfv.2, Value.cells]
    have e1 : Array.range 1 = #[0] := rfl
    rw [e1]; simp
  have hm : Mv R R γ (γ ++ [.arr w.heap.size 1]) L (L ++ [.row (E + 65536) [[.emp]] 1]) := Mv.push _ _ hi.len
  refine ⟨_, R, _, .inl ⟨_, hrun, ⟨rfl, rfl⟩, by simp, fun ver2 es2 k2 e2 => ?_⟩, ?_, ⟨Kept.alloc hi.bsz _, PH.sub_refl _, fun _ _ _ => rfl⟩, hm⟩
  · rw [List.getElem?_append_right (by omega)] at e2
    simp at e2
    obtain ⟨q1, q2, q3⟩ := e2
    subst q1 q2 q3
    exact ⟨Nat.le_refl _, fun _ => ⟨by simp, .arr w.heap.size 1, by rw [← hi.len]; simp, .inl rfl⟩⟩
  · refine hi.push _ _ _ rfl ⟨⟨_, E, ⟨heap_new w _, by show (E : Nat) = (E + 65536) % 65536; omega, by omega⟩, rfl, fun i e j u x he hu hx => ?_⟩, by simp, by omega, by simp, fun o => hi.none_at o⟩
    have hi0 : i = 0 := by have := (List.getElem?_eq_some_iff.1 he).1; simpa using this
    subst hi0
    simp at he; subst he
    have hj0 : j = 0 := by have := (List.getElem?_eq_some_iff.1 hx).1; simpa using this
    subst hj0
    simp at hx hu; subst hx hu
    exact ⟨none, rfl⟩
end Go.Proofs.YtfpbmfalamappaaGreatDoor

namespace Go.Proofs.YtfpbmfalamappaaGreatDoor
open Go.RowKit Go.MapKept
set_option maxRecDepth 100000
def garb : Ob := .row (23 + 65536) [[.emp]] 1
def gRow (g : List (List Val)) : List (List AC) := g.map fun r => [tRow r]
abbrev Grps := List (List (List Val))
def gsF : Nat → Grps → List (List SV)
  | _, [] => []
  | i, g :: r => [.own (gRow g) (5 + 2 * i)] :: gsF (i + 1) r
def tlG : Grps → List Ob
  | [] => []
  | g :: r => garb :: .spare g.length 1 :: tlG r
def tks : Grps → List Ob
  | [] => []
  | g :: r => .spare g.length 1 :: tlG r
theorem gsF_len : ∀ (G : Grps) (k : Nat), (gsF k G).length = G.length
  | [], _ => rfl
  | g :: r, k => by simp [gsF, gsF_len r]
theorem gsF_get : ∀ (G : Grps) (k i : Nat) (g : List (List Val)), G[i]? = some g → (gsF k G)[i]? = some [.own (gRow g) (5 + 2 * (k + i))]
  | [], _, _, _, h => by simp at h
  | x :: r, k, 0, g, h => by simp at h; subst h; rfl
  | x :: r, k, i + 1, g, h => by
    have := gsF_get r (k + 1) i g (by simpa using h)
    simp only [gsF, List.getElem?_cons_succ]
    rw [this]
    have e : k + 1 + i = k + (i + 1) := by omega
    rw [e]
theorem gsF_set : ∀ (G : Grps) (k i : Nat) (g' : List (List Val)), i < G.length → (gsF k G).set i [.own (gRow g') (5 + 2 * (k + i))] = gsF k (G.set i g')
  | [], _, _, _, h => by simp at h
  | x :: r, k, 0, g', h => by simp [gsF]
  | x :: r, k, i + 1, g', h => by
    have := gsF_set r (k + 1) i g' (by simpa using h)
    have e : k + 1 + i = k + (i + 1) := by omega
    rw [e] at this
    simp only [gsF, List.set_cons_succ, this]
theorem gsF_snoc : ∀ (G : Grps) (k : Nat) (g : List (List Val)), gsF k (G ++ [g]) = gsF k G ++ [[.own (gRow g) (5 + 2 * (k + G.length))]]
  | [], k, g => rfl
  | x :: r, k, g => by
    have := gsF_snoc r (k + 1) g
    have e : k + 1 + r.length = k + (r.length + 1) := by omega
    rw [e] at this
    simp [gsF, this]
theorem gsF_below : ∀ (G : Grps) (k n : Nat), 4 + 2 * (k + G.length) ≤ n → ∀ e ∈ gsF k G, ∀ x ∈ e, x.below n
  | [], _, _, _ => by intro e he; cases he
  | g :: r, k, n, h => by
    intro e he x hx
    simp only [List.length_cons] at h
    rcases List.mem_cons.1 he with rfl | he
    · rcases List.mem_cons.1 hx with rfl | hx
      · show 5 + 2 * k < n; omega
      · cases hx
    · exact gsF_below r (k + 1) n (by omega) e he x hx
theorem tlG_len : ∀ (r : Grps), (tlG r).length = 2 * r.length
  | [] => rfl
  | g :: r => by simp [tlG, tlG_len r]; omega
theorem tlG_get : ∀ (r : Grps) (i : Nat) (g : List (List Val)), r[i]? = some g → (tlG r)[2 * i + 1]? = some (.spare g.length 1)
  | [], _, _, h => by simp at h
  | x :: r, 0, g, h => by simp at h; subst h; rfl
  | x :: r, i + 1, g, h => by
    have := tlG_get r i g (by simpa using h)
    have e : 2 * (i + 1) + 1 = (2 * i + 1) + 1 + 1 := by omega
    rw [e]; simpa [tlG] using this
theorem tlG_set : ∀ (r : Grps) (i : Nat) (g' : List (List Val)), i < r.length → (tlG r).set (2 * i + 1) (.spare g'.length 1) = tlG (r.set i g')
  | [], _, _, h => by simp at h
  | x :: r, 0, g', h => by simp [tlG]
  | x :: r, i + 1, g', h => by
    have := tlG_set r i g' (by simpa using h)
    have e : 2 * (i + 1) + 1 = (2 * i + 1) + 1 + 1 := by omega
    rw [e]; simp only [tlG, List.set_cons_succ, this]
theorem tlG_snoc : ∀ (r : Grps) (g : List (List Val)), tlG (r ++ [g]) = tlG r ++ [garb, .spare g.length 1]
  | [], g => rfl
  | x :: r, g => by simp [tlG, tlG_snoc r g]
theorem tks_len {G : Grps} (h : G ≠ []) : (tks G).length + 1 = 2 * G.length := by
  cases G with
  | nil => exact absurd rfl h
  | cons g r => simp [tks, tlG_len]; omega
theorem tks_get {G : Grps} {i : Nat} {g : List (List Val)} (h : G[i]? = some g) : (tks G)[2 * i]? = some (.spare g.length 1) := by
  cases G with
  | nil => simp at h
  | cons x r =>
    cases i with
    | zero => simp at h; subst h; rfl
    | succ i =>
      have := tlG_get r i g (by simpa using h)
      have e : 2 * (i + 1) = (2 * i + 1) + 1 := by omega
      rw [e]; simpa [tks] using this
theorem tks_set {G : Grps} {i : Nat} (g' : List (List Val)) (h : i < G.length) : (tks G).set (2 * i) (.spare g'.length 1) = tks (G.set i g') := by
  cases G with
  | nil => simp at h
  | cons x r =>
    cases i with
    | zero => simp [tks]
    | succ i =>
      have := tlG_set r i g' (by simpa using h)
      have e : 2 * (i + 1) = (2 * i + 1) + 1 := by omega
      rw [e]; simp only [tks, List.set_cons_succ, this]
theorem tks_snoc {G : Grps} (g : List (List Val)) (h : G ≠ []) : tks (G ++ [g]) = tks G ++ [garb, .spare g.length 1] := by
  cases G with
  | nil => exact absurd rfl h
  | cons x r => simp [tks, tlG_snoc]
theorem garb_below (n : Nat) : garb.below n := by
  intro e he x hx
  rcases List.mem_cons.1 he with rfl | he
  · rcases List.mem_cons.1 hx with rfl | hx
    · trivial
    · cases hx
  · cases he
theorem tlG_below (n : Nat) : ∀ (r : Grps), ∀ x ∈ tlG r, x.below n
  | [], x, hx => by cases hx
  | g :: r, x, hx => by
    rcases List.mem_cons.1 hx with rfl | hx
    · exact garb_below n
    · rcases List.mem_cons.1 hx with rfl | hx
      · trivial
      · exact tlG_below n r x hx
theorem tks_below (n : Nat) (G : Grps) : ∀ x ∈ tks G, x.below n := by
  cases G with
  | nil => intro x hx; cases hx
  | cons g r =>
    intro x hx
    rcases List.mem_cons.1 hx with rfl | hx
    · trivial
    · exact tlG_below n r x hx
theorem belowL_of : ∀ {n : Nat} {L : List Ob}, (∀ x ∈ L, x.below n) → belowL n L
  | _, [], _ => trivial
  | _, x :: L, h => ⟨h x (by simp), belowL_of fun y hy => h y (List.mem_cons_of_mem _ hy)⟩
def hd3 (kk : List Int) (rows : List (List Val)) (M : List (ByteArray × Int)) : List Ob := [.box [.c (tInts kk), .c (tRows rows)], .box [.emp, .emp], .map (mapI M)]
def GLo (kk : List Int) (rows : List (List Val)) (M : List (ByteArray × Int)) (G : Grps) : List Ob := hd3 kk rows M ++ [garb, .row (23 + 65536 * G.length) (gsF 0 G) 1] ++ tks G
theorem GLo_len {kk : List Int} {rows : List (List Val)} {M : List (ByteArray × Int)} {G : Grps} (h : G ≠ []) : (GLo kk rows M G).length = 4 + 2 * G.length := by
  have := tks_len h
  simp [GLo, hd3]; omega
theorem boxe_below (n : Nat) : (Ob.box [.emp, .emp]).below n := by
  intro x hx
  rcases List.mem_cons.1 hx with rfl | hx
  · trivial
  rcases List.mem_cons.1 hx with rfl | hx
  · trivial
  cases hx
theorem GLo_below {kk : List Int} {rows : List (List Val)} {M : List (ByteArray × Int)} {G : Grps} {n : Nat} (hn : 4 + 2 * G.length ≤ n) : ∀ x ∈ GLo kk rows M G, x.below n := by
  intro x hx
  unfold GLo hd3 at hx
  simp only [List.cons_append, List.nil_append, List.mem_cons, List.mem_append, List.not_mem_nil, or_false, or_assoc] at hx
  rcases hx with rfl | rfl | rfl | rfl | rfl | hx
  · exact box2_below
  · exact boxe_below n
  · exact mapI_below n M
  · exact garb_below n
  · exact gsF_below G 0 n (by omega)
  · exact tks_below n G x hx
def mhas (M : List (ByteArray × Int)) (s : ByteArray) : Bool := (kidx s (mapI M)).isSome
theorem sop_getOk {P : Program} {ti : TI} {ρ : Operand → Option AV} {L : List Ob} {t : TypeId} {kt et : TypeId} {x k : Operand} {s : ByteArray} {id : Nat} {M : List (ByteArray × Int)} (hti : TIok P ti) (hx : ρ x = some (.one (.mp id))) (hk : ρ k = some (.one (.c (.str s)))) (hL : L[id]? = some (.map (mapI M)))
    (ht : ti.kind t = some (.map kt et)) (hkt : ti.kind kt = some .string) (hz : ti.zero et = some (.one (.c (.int .i64 0)))) : Sop P ρ L (.lookup t x k true) (.tup [.one (.int .i64 (mget M s)), .one (.bool (mhas M s))]) L :=
  sop_lookup_ok (P := P) hx hk hL (mapI_keys M) (hti.kind _ _ ht) (hti.kind _ _ hkt) (hti.zero _ _ hz) (by rw [mval_I]; rfl)
structure Gs where
  M : List (ByteArray × Int)
  G : Grps
def gstep (ky : List Val → ByteArray) (s : Gs) (r : List Val) : Gs := bif mhas s.M (ky r) then ⟨s.M, s.G.set (mget s.M (ky r)).toNat (s.G.getD (mget s.M (ky r)).toNat [] ++ [r])⟩ else ⟨mputI s.M (ky r) s.G.length, s.G ++ [[r]]⟩
def gfold (ky : List Val → ByteArray) (rows : List (List Val)) : Gs := rows.foldl (gstep ky) ⟨[], []⟩
theorem gfold_snoc (ky : List Val → ByteArray) (rows : List (List Val)) (r : List Val) : gfold ky (rows ++ [r]) = gstep ky (gfold ky rows) r := by unfold gfold; rw [List.foldl_append]; rfl
theorem mhas_put (M : List (ByteArray × Int)) (s t : ByteArray) (n : Int) (h : mhas (mputI M s n) t = true) : t = s ∨ mhas M t = true := by
  induction M with
  | nil =>
    unfold mhas mputI mapI kidx at h
    by_cases e : t = s
    · exact .inl e
    · simp [kidx, e] at h
  | cons p r ih =>
    unfold mputI at h
    by_cases e1 : s = p.1
    · rw [if_pos e1] at h
      by_cases e : t = s
      · exact .inl e
      · right
        unfold mhas mapI at h ⊢
        simp only [List.map_cons, kidx] at h ⊢
        have e2 : ¬ t = p.1 := fun q => e (q.trans e1.symm)
        simpa [e, e2] using h
    · rw [if_neg e1] at h
      by_cases e2 : t = p.1
      · right; unfold mhas mapI; simp [kidx, e2]
      · have h' : mhas (mputI r s n) t = true := by
          unfold mhas mapI at h ⊢
          simp only [List.map_cons, kidx] at h
          simpa [e2] using h
        rcases ih h' with q | q
        · exact .inl q
        · right
          unfold mhas mapI at q ⊢
          simp only [List.map_cons, kidx]
          simpa [e2] using q
structure GOK (s : Gs) : Prop where
  idx : ∀ k, mhas s.M k = true → 0 ≤ mget s.M k ∧ mget s.M k < s.G.length
  ne : ∀ g ∈ s.G, g ≠ []
theorem gstep_ok {ky : List Val → ByteArray} {s : Gs} (h : GOK s) (r : List Val) : GOK (gstep ky s r) := by
  unfold gstep
  cases hb : mhas s.M (ky r) with
  | true =>
    rw [cond_true]
    refine ⟨fun k hk => ?_, fun g hg => ?_⟩
    · have := h.idx k hk; simpa using this
    · rcases List.mem_or_eq_of_mem_set hg with hg | rfl
      · exact h.ne g hg
      · simp
  | false =>
    rw [cond_false]
    refine ⟨fun k hk => ?_, fun g hg => ?_⟩
    · simp only [List.length_append, List.length_singleton]
      rw [mget_put]
      rcases mhas_put _ _ _ _ hk with e | e
      · rw [if_pos e]; omega
      · have := h.idx k e
        split <;> omega
    · rcases List.mem_append.1 hg with hg | hg
      · exact h.ne g hg
      · simp at hg; subst hg; simp
theorem gfold_ok (ky : List Val → ByteArray) (rows : List (List Val)) : GOK (gfold ky rows) := by
  have : ∀ (rows : List (List Val)) (s : Gs), GOK s → GOK (rows.foldl (gstep ky) s) := by
    intro rows
    induction rows with
    | nil => intro s h; exact h
    | cons r rows ih => intro s h; exact ih _ (gstep_ok h r)
  exact this rows ⟨[], []⟩ ⟨fun k hk => by simp [mhas, mapI, kidx] at hk, fun g hg => by cases hg⟩
theorem gstep_len (ky : List Val → ByteArray) (s : Gs) (r : List Val) : s.G.length ≤ (gstep ky s r).G.length ∧ (gstep ky s r).G.length ≤ s.G.length + 1 := by
  unfold gstep
  cases mhas s.M (ky r) <;> simp
theorem gfold_len (ky : List Val → ByteArray) (rows : List (List Val)) : (gfold ky rows).G.length ≤ rows.length := by
  have : ∀ (rows : List (List Val)) (s : Gs), (rows.foldl (gstep ky) s).G.length ≤ s.G.length + rows.length := by
    intro rows
    induction rows with
    | nil => intro s; simp
    | cons r rows ih => intro s; have := ih (gstep ky s r); have := (gstep_len ky s r).2; rw [List.foldl_cons]; simp only [List.length_cons]; omega
  have := this rows ⟨[], []⟩
  simpa [gfold] using this
/-- append onto a slice with a right that lies at a place that is no numeral. -/
theorem st_appO {P : Program} {ti : TI} {N : Nat} {ds : List (Option Tmp)} {K : Tm → List Ob → Prop} {o : Oper} {rest : List Oper} {T : Tm} {L L' : List Ob} {x y : Operand} {t tx E : TypeId} {es xs : List (List AC)} {i n k by_ d : Nat} {vx : AV} (hd : o.dst = some d) (hN : Nat.blt d N = true) (hg : gdv ds T o.guard = some true)
    (ho : o.op = .call { callee := .builtin .append, args := #[x, y], argTypes := #[t, tx] }) (hx : look T x = some (.one (.own es i))) (hy : look T y = some vx) (hl : listOf vx = some xs) (ht : ti.elem t = some E) (hsz : ti.size E = some k) (hb : ti.bytes E = some by_) (hL : L[i]? = some (.spare n k))
    (hφ : (ti.elem tx).isSome ∧ es.length = n ∧ (ti.zok E = true ∧ 0 < k) ∧ (∀ e ∈ xs, e.length = k) ∧ (n + xs.length) * by_ ≤ 140737488355328 ∧ n + xs.length ≤ 140737488355328) (hL' : L.set i (.spare (n + xs.length) k) = L')
    (h : awOps P ti N ds K rest ((d, .one (.own (es ++ xs) i)) :: T) L') : awOps P ti N ds K (o :: rest) T L :=
  st_lop hd hN hg (v := .one (.own (es ++ xs) i)) (L' := L.set i (.spare (n + xs.length) k)) (φ := (ti.elem tx).isSome ∧ k = k ∧ es.length = n ∧ (ti.zok E = true ∧ 0 < k) ∧ (∀ e ∈ xs, e.length = k) ∧ (n + xs.length) * by_ ≤ 140737488355328 ∧ n + xs.length ≤ 140737488355328)
    (by rw [ho]; simp [lop, hx, hy, lopApp, hl, ht, hsz, hb, hL]) ⟨hφ.1, rfl, hφ.2⟩ (by rw [hL']; exact h)
end Go.Proofs.YtfpbmfalamappaaGreatDoor

namespace Go.Proofs.YtfpbmfalamappaaGreatDoor
open Go.RowKit Go.MapKept
set_option maxRecDepth 100000
theorem gfold_glen (ky : List Val → ByteArray) (rows : List (List Val)) : ∀ g ∈ (gfold ky rows).G, g.length ≤ rows.length := by
  have : ∀ (rows : List (List Val)) (s : Gs) (b : Nat), (∀ g ∈ s.G, g.length ≤ b) → ∀ g ∈ (rows.foldl (gstep ky) s).G, g.length ≤ b + rows.length := by
    intro rows
    induction rows with
    | nil => intro s b h g hg; simpa using h g hg
    | cons r rows ih =>
      intro s b h g hg
      rw [List.foldl_cons] at hg
      have := ih (gstep ky s r) (b + 1) (fun g hg => by
        unfold gstep at hg
        cases hb : mhas s.M (ky r) with
        | true =>
          rw [hb, cond_true] at hg
          rcases List.mem_or_eq_of_mem_set hg with hg | rfl
          · have := h g hg; omega
          · rw [List.length_append, List.length_singleton, List.getD_eq_getElem?_getD]
            cases hq : s.G[(mget s.M (ky r)).toNat]? with
            | none => simp
            | some x => have := h x (List.mem_of_getElem? hq); simp; omega
        | false =>
          rw [hb, cond_false] at hg
          rcases List.mem_append.1 hg with hg | hg
          · have := h g hg; omega
          · simp at hg; subst hg; simp) g hg
      simp only [List.length_cons]; omega
  have h := this rows ⟨[], []⟩ 0 (fun g hg => by cases hg)
  intro g hg
  have := h g hg
  omega
theorem gfold_mem (ky : List Val → ByteArray) (rows : List (List Val)) : ∀ g ∈ (gfold ky rows).G, ∀ r ∈ g, r ∈ rows := by
  have : ∀ (rows : List (List Val)) (s : Gs), ∀ g ∈ (rows.foldl (gstep ky) s).G, ∀ x ∈ g, (∃ g' ∈ s.G, x ∈ g') ∨ x ∈ rows := by
    intro rows
    induction rows with
    | nil => intro s g hg x hx; exact .inl ⟨g, hg, hx⟩
    | cons r rows ih =>
      intro s g hg x hx
      rw [List.foldl_cons] at hg
      rcases ih (gstep ky s r) g hg x hx with ⟨g', hg', hx'⟩ | h
      · unfold gstep at hg'
        cases hb : mhas s.M (ky r) with
        | true =>
          rw [hb, cond_true] at hg'
          rcases List.mem_or_eq_of_mem_set hg' with hg' | rfl
          · exact .inl ⟨g', hg', hx'⟩
          · rcases List.mem_append.1 hx' with hx' | hx'
            · rw [List.getD_eq_getElem?_getD] at hx'
              cases hq : s.G[(mget s.M (ky r)).toNat]? with
              | none => rw [hq] at hx'; simp at hx'
              | some y => rw [hq] at hx'; exact .inl ⟨y, List.mem_of_getElem? hq, hx'⟩
            · simp at hx'; exact .inr (by rw [hx']; simp)
        | false =>
          rw [hb, cond_false] at hg'
          rcases List.mem_append.1 hg' with hg' | hg'
          · exact .inl ⟨g', hg', hx'⟩
          · simp at hg'; subst hg'; simp at hx'; exact .inr (by rw [hx']; simp)
      · exact .inr (List.mem_cons_of_mem _ h)
  intro g hg x hx
  rcases this rows ⟨[], []⟩ g hg x hx with ⟨g', hg', _⟩ | h
  · cases hg'
  · exact h
def slot8 (G : Grps) : AV := match G with
  | [] => .one .emp
  | _ :: _ => .one (.sl 4 (23 + 65536 * G.length) 0 G.length)
def glS (kk : List Int) (rows : List (List Val)) (S : Gs) : List Ob := match S.G with
  | [] => hd3 kk rows S.M
  | _ :: _ => GLo kk rows S.M S.G
theorem glS_ne {kk : List Int} {rows : List (List Val)} {S : Gs} (h : S.G ≠ []) : glS kk rows S = GLo kk rows S.M S.G := by
  unfold glS
  split
  · rename_i e; exact absurd e h
  · rfl
theorem slot8_ne {G : Grps} (h : G ≠ []) : slot8 G = .one (.sl 4 (23 + 65536 * G.length) 0 G.length) := by
  cases G with
  | nil => exact absurd rfl h
  | cons g r => rfl
theorem slot8_below {kk : List Int} {rows : List (List Val)} {S : Gs} : (slot8 S.G).below (glS kk rows S).length := by
  by_cases h : S.G = []
  · rw [h]; trivial
  · rw [slot8_ne h, glS_ne h, GLo_len h]
    show 4 < 4 + 2 * S.G.length
    cases hG : S.G with
    | nil => exact absurd hG h
    | cons g r => simp
theorem glS_below {kk : List Int} {rows : List (List Val)} {S : Gs} : belowL (glS kk rows S).length (glS kk rows S) := by
  by_cases h : S.G = []
  · unfold glS; rw [h]; exact ⟨box2_below, boxe_below _, mapI_below _ _, trivial⟩
  · rw [glS_ne h, GLo_len h]; exact belowL_of (GLo_below (Nat.le_refl _))
theorem glS_le {kk : List Int} {rows : List (List Val)} {S : Gs} : 3 ≤ (glS kk rows S).length := by
  by_cases h : S.G = []
  · unfold glS; rw [h]; exact Nat.le_refl _
  · rw [glS_ne h, GLo_len h]; omega
theorem normR_gs : ∀ (G : Grps) (k : Nat), normR (gsF k G) = some (G.map fun g => [AC.lst (gRow g)])
  | [], _ => rfl
  | g :: r, k => by
    have := normR_gs r (k + 1)
    simp only [gsF, normR, normL, SV.norm, this, List.map_cons]
def tGrps (G : Grps) : AC := .lst (G.map fun g => [AC.lst (gRow g)])
theorem grpKeys_len (kinds : List Int) : ∀ (keys acc : List Int), (grpKeys kinds keys acc).1.length ≤ acc.length + keys.length
  | [], acc => by simp [grpKeys]
  | k :: ks, acc => by
    unfold grpKeys
    cases inK kinds k with
    | true => rw [cond_true]; have := grpKeys_len kinds ks (acc ++ [kinds.getD k.toNat 0]); simp at this ⊢; omega
    | false => rw [cond_false]; simp
theorem grpAggs_len (kinds : List Int) : ∀ (l : List Ag) (acc : List Int), (grpAggs kinds l acc).1.length ≤ acc.length + l.length
  | [], acc => by simp [grpAggs]
  | a :: l, acc => by
    unfold grpAggs
    cases decide (agErr kinds a = 0) with
    | true => rw [cond_true]; have := grpAggs_len kinds l (acc ++ [agKind kinds a]); simp at this ⊢; omega
    | false => rw [cond_false]; simp
theorem grpF_len (kinds keys : List Int) (aggs : List Ag) : (grpF kinds keys aggs).1.length ≤ keys.length + aggs.length := by
  unfold grpF
  have h1 := grpKeys_len kinds keys []
  have h2 := grpAggs_len kinds aggs (grpKeys kinds keys []).1
  cases decide ((grpKeys kinds keys []).2 = 0) with
  | true => rw [cond_true]; simp at h1; omega
  | false => rw [cond_false]; simp
def grpRow (keys : List Int) (aggs : List Ag) (g : List (List Val)) : List Val := pickV (g.headD []) keys ++ aggs.map fun a => aggV a.1 a.2 g
theorem grp_below {kk keys : List Int} {aggs : List Ag} {rows : List (List Val)} (S : Gs) (a b : Int) : belowT (glS kk rows S).length [(0, .agg [.c (tInts kk), .c (tRows rows)]), (1, .one (.c (tInts keys))), (2, .one (.c (tAggs aggs))), (3, .one (.ptr 0 0)), (6, .one (.ptr 1 0)), (7, .one (.mp 2)), (8, slot8 S.G), (31, .one (.c (tRows rows))), (32, .one (.c (.int .i64 a))), (33, .one (.c (.int .i64 b)))] := by
  have hle := glS_le (kk := kk) (rows := rows) (S := S)
  refine ⟨fun x hx => ?_, trivial, trivial, by show 0 < _; omega, by show 1 < _; omega, by show 2 < _; omega, slot8_below, trivial, trivial, trivial, trivial⟩
  rcases List.mem_cons.1 hx with rfl | hx
  · trivial
  rcases List.mem_cons.1 hx with rfl | hx
  · trivial
  cases hx
set_option maxHeartbeats 4000000 in
theorem group_pure (it : Int → ByteArray) (kk keys : List Int) (aggs : List Ag) (rows : List (List Val)) (h1 : kk.length ≤ 100000) (h2 : keys.length ≤ 100000) (h3 : aggs.length ≤ 100000) (hl : rows.length ≤ 19) (h0 : keys ≠ []) (hr : ∀ r ∈ rows, r.length ≤ 1000000) (hk : ∀ r ∈ rows, Pure Tryz.prog 54 [.one (tRow (pickV r keys))] (.val (.one (.str (keyS it (pickV r keys)))))) : Pure Tryz.prog 18 [.agg [tInts kk, tRows rows], .one (tInts keys), .one (tAggs aggs)] (.val (.agg [tInts (grpF kk keys aggs).1, sortR ((gfold (fun r => keyS it (pickV r keys)) rows).G.map (grpRow keys aggs))])) := by
  refine pure_of_aw tabG_ok Tryz.func18 rfl rfl Tryz.ntmps18 (by simp) ?_
  simp only [argT, PV.av, List.map_cons, List.map_nil]
  obtain ⟨n, hn⟩ : ∃ n, rows.length = n := ⟨_, rfl⟩
  have hml : (((rows.map fun r => [tRow r]).length : Nat) : Int) = n := by simp [hn]
  have hkz : decide ((((keys.map fun x => [AC.int .i64 x]).length : Nat) : Int) = 0) = false := by
    cases keys with
    | nil => exact absurd rfl h0
    | cons x l => simp; omega
  obtain ⟨inf, hinf, hiz⟩ : ∃ inf, Tryz.prog.info? 23 = some inf ∧ inf.zero = some (.slice none 0 0) := by
    have hh : (Tryz.prog.info? 23).bind (·.zero) = some (.slice none 0 0) := by kernel_rfl
    cases hi : Tryz.prog.info? 23 with
    | none => rw [hi] at hh; cases hh
    | some j => rw [hi] at hh; exact ⟨j, rfl, by simpa using hh⟩
  obtain ⟨ky, hky⟩ : ∃ ky : List Val → ByteArray, ky = fun r => keyS it (pickV r keys) := ⟨_, rfl⟩
  rw [← hky]
  have hkP : ∀ r ∈ rows, Pure Tryz.prog 54 [.one (tRow (pickV r keys))] (.val (.one (.str (ky r)))) := fun r h => by rw [hky]; exact hk r h
  repeat' (first | refine st_nil ?_ | rw [hkz] | (refine st_pop rfl rfl rfl rfl ?_ ?_; · exact ok_) | (refine st_lop rfl rfl rfl rfl ?_ ?_; · exact ok_) | (refine st_store rfl rfl rfl ?_ ?_; · exact ok_) | (refine st_lit rfl rfl rfl rfl ?_ ?_; · exact ok_) | refine st_skip rfl rfl rfl ?_ | refine st_skip0 rfl rfl ?_ | (refine st_if rfl (fun hb => ?_) (fun hb => ?_) <;> (first | exact no_ hb | rw [hb])) | refine aw_seq ?_ | refine aw_region tabG_ok _ rfl ?_ | refine aw_drawn2 tabS_ok _ rfl mixed (by decide +kernel) ?_ | (refine aw_cond rfl (fun hb => ?_) (fun hb => ?_) <;> (try exact no_ hb)) | refine aw_block ?_ | refine aw_exit ?_ | refine aw_ret ?_ | refine aw_skip ?_ | (refine st_sop rfl rfl rfl rfl rfl sop_makeMap ?_))
  refine aw_loop (fun i : Nat => [(0, .agg [.c (tInts kk), .c (tRows rows)]), (1, .one (.c (tInts keys))), (2, .one (.c (tAggs aggs))), (3, .one (.ptr 0 0)), (6, .one (.ptr 1 0)), (7, .one (.mp 2)), (8, slot8 (gfold ky (rows.take i)).G), (31, .one (.c (tRows rows))), (32, .one (.c (.int .i64 n))), (33, .one (.c (.int .i64 i)))]) (fun i => glS kk rows (gfold ky (rows.take i))) (fun i => i ≤ n) (fun i => n - i) 0 (by omega) (fun _ _ => Nat.zero_le _)
    (fits_mk ⟨rfl, rfl, rfl, rfl, rfl, rfl, rfl, rfl, slot_int hml, rfl, trivial⟩ [] rfl (grp_below _ _ _) glS_below) ?_
  intro i hi
  have hok := gfold_ok ky (rows.take i)
  have hGl := gfold_len ky (rows.take i)
  have hgb := gfold_glen ky (rows.take i)
  rw [List.length_take] at hGl
  by_cases hlt : i < n
  · obtain ⟨r, hx⟩ := get_of_lt (show i < rows.length by omega)
    have hrm := List.mem_of_getElem? hx
    have hnx : gfold ky (rows.take (i + 1)) = gstep ky (gfold ky (rows.take i)) r := by rw [take_succ hx]; exact gfold_snoc _ _ _
    have hN : decide ((i : Int) < n) = true := by simp; exact hlt
    have hpk := pick_pure r keys (hr r hrm) (by omega)
    have hkr := hkP r hrm
    generalize gfold ky (rows.take i) = S at hok hGl hgb hnx
    obtain ⟨M, G⟩ := S
    unfold gstep at hnx
    dsimp only at hok hGl hgb hnx ⊢
    have hcnt : rows.length ≤ 19 := hl
    cases G with
    | nil =>
      have hmh : mhas M (ky r) = false := by
        cases hh : mhas M (ky r) with
        | false => rfl
        | true => have := hok.idx _ hh; simp at this; omega
      rw [hmh, cond_false] at hnx
      have e1 : glS kk rows ⟨M, []⟩ = hd3 kk rows M := rfl
      have e2 : slot8 [] = .one .emp := rfl
      rw [e1, e2]
      repeat' (first | refine st_nil ?_ | rw [hN] | rw [hmh] | (refine st_sop rfl rfl rfl rfl rfl (sop_app0 (E := 23) (k := 1) (by_ := 24) (xs := [[.emp]]) tabG_ok rfl rfl rfl ⟨rfl, _, rfl, by decide⟩ rfl (by decide) rfl rfl rfl (by decide) (by decide) (by decide) (by decide)) ?_) | (refine st_sop rfl rfl rfl rfl rfl (sop_litNil (E := 23) tabG_ok rfl (by decide) rfl rfl hinf hiz) ?_) | (refine st_pop rfl rfl rfl rfl ?_ ?_; · (repeat' (first | exact trivial | rfl | exact Nat.le_of_ble_eq_true rfl | omega | (intro e he; simp at he; subst he; rfl) | decide | apply And.intro))) | (refine st_idx rfl rfl rfl rfl rfl rfl rfl rfl (idx_map hx) ?_ ?_; · exact ⟨by omega, rfl⟩) | (refine st_lop rfl rfl rfl rfl ?_ ?_; · (repeat' (first | exact trivial | rfl | exact Nat.le_of_ble_eq_true rfl | omega | (intro e he; simp at he; subst he; rfl) | decide | apply And.intro))) | (refine st_store rfl rfl rfl ?_ ?_; · (repeat' (first | exact trivial | rfl | exact Nat.le_of_ble_eq_true rfl | omega | (intro e he; simp at he; subst he; rfl) | decide | apply And.intro))) | (refine st_lit rfl rfl rfl rfl ?_ ?_; · (repeat' (first | exact trivial | rfl | exact Nat.le_of_ble_eq_true rfl | omega | (intro e he; simp at he; subst he; rfl) | decide | apply And.intro))) | refine st_skip rfl rfl rfl ?_ | refine st_skip0 rfl rfl ?_ | refine st_call rfl rfl rfl rfl hpk rfl ?_ | refine st_call rfl rfl rfl rfl hkr rfl ?_ | (refine st_if rfl (fun hb => ?_) (fun hb => ?_) <;> (first | exact no_ hb | rw [hb])) | refine aw_seq ?_ | refine aw_region tabG_ok _ rfl ?_ | refine aw_drawn2 tabS_ok _ rfl mixed (by decide +kernel) ?_ | (refine aw_cond rfl (fun hb => ?_) (fun hb => ?_) <;> (try exact no_ hb)) | refine aw_block ?_ | refine aw_exit ?_ | refine aw_ret ?_ | refine aw_skip ?_ | (refine st_sopq rfl rfl rfl rfl rfl (sop_getOk (M := M) tabG_ok rfl rfl rfl rfl rfl rfl) ?_) | (refine st_sop0 rfl rfl rfl rfl (sop_put (M := M) tabG_ok rfl rfl rfl rfl rfl rfl) ?_))
      exact ⟨i + 1, by omega, by omega, by rw [hnx]; exact fits_mk ⟨rfl, rfl, rfl, rfl, rfl, rfl, rfl, rfl, rfl, slot_int (wrap_eq (by omega) (by omega)), trivial⟩ [] (rfl) (grp_below _ _ _) glS_below⟩
    | cons g0 G0 =>
      generalize hGe : g0 :: G0 = G at hok hGl hgb hnx ⊢
      have hGn : G ≠ [] := by rw [← hGe]; simp
      have e1 : glS kk rows ⟨M, G⟩ = GLo kk rows M G := glS_ne hGn
      rw [e1, slot8_ne hGn]
      have hLl := GLo_len (kk := kk) (rows := rows) (M := M) hGn
      cases hmh : mhas M (ky r) with
      | true =>
        rw [hmh, cond_true] at hnx
        obtain ⟨hj0, hj1⟩ := hok.idx _ hmh
        dsimp only at hj0 hj1
        obtain ⟨j, hjj⟩ : ∃ j : Nat, mget M (ky r) = j := ⟨(mget M (ky r)).toNat, by omega⟩
        rw [hjj] at hnx hj0 hj1
        obtain ⟨g, hg⟩ := get_of_lt (show j < G.length by omega)
        have ej : 0 + ((j : Nat) : Int).toNat = j := by simp
        have hgj : (gsF 0 G)[0 + ((j : Nat) : Int).toNat]? = some [.own (gRow g) (5 + 2 * (0 + j))] := by rw [ej]; exact gsF_get G 0 j g hg
        have hgD : G.getD ((j : Nat) : Int).toNat [] = g := by rw [List.getD_eq_getElem?_getD]; simp [hg]
        rw [hgD] at hnx
        have ej2 : ((j : Nat) : Int).toNat = j := by simp
        rw [ej2] at hnx
        have hLj : (GLo kk rows M G)[5 + 2 * (0 + j)]? = some (.spare g.length 1) := by
          unfold GLo
          rw [List.getElem?_append_right (by simp [hd3] <;> omega)]
          have e5 : 5 + 2 * (0 + j) - (hd3 kk rows M ++ [garb, Ob.row (23 + 65536 * G.length) (gsF 0 G) 1]).length = 2 * j := by simp [hd3] <;> omega
          rw [e5]; exact tks_get hg
        have hset : (GLo kk rows M G).set (5 + 2 * (0 + j)) (.spare (g.length + 1) 1) = hd3 kk rows M ++ [garb, .row (23 + 65536 * G.length) (gsF 0 G) 1] ++ tks (G.set j (g ++ [r])) := by
          unfold GLo
          rw [List.set_append_right _ _ (by simp [hd3] <;> omega)]
          have e5 : 5 + 2 * (0 + j) - (hd3 kk rows M ++ [garb, Ob.row (23 + 65536 * G.length) (gsF 0 G) 1]).length = 2 * j := by simp [hd3] <;> omega
          have e6 : g.length + 1 = (g ++ [r]).length := by simp
          rw [e5, e6, tks_set (g ++ [r]) (by omega)]
        have hgl : (gRow g).length = g.length := by simp [gRow]
        have hgb2 := hgb g (List.mem_of_getElem? hg)
        rw [List.length_take] at hgb2
        have hstr : (hd3 kk rows M ++ [garb, .row (23 + 65536 * G.length) (gsF 0 G) 1] ++ tks (G.set j (g ++ [r]))).set 4 (.row (23 + 65536 * G.length) ((gsF 0 G).set (0 + ((j : Nat) : Int).toNat) [.own (gRow g ++ [[tRow r]]) (5 + 2 * (0 + j))]) 1) = GLo kk rows M (G.set j (g ++ [r])) := by
          have e7 : gRow g ++ [[tRow r]] = gRow (g ++ [r]) := by simp [gRow]
          rw [ej, e7, gsF_set G 0 j (g ++ [r]) (by omega)]
          unfold GLo
          rw [List.length_set]
          rfl
        have hG2 : G.set j (g ++ [r]) ≠ [] := by intro e; have := congrArg List.length e; simp at this; exact hGn this
        repeat' (first | refine st_nil ?_ | rw [hN] | rw [hmh] | rw [hjj] | (refine st_ldr rfl rfl rfl rfl rfl rfl rfl (e := [.own (gRow g) (5 + 2 * (0 + j))]) (by exact hgj) rfl ?_) | (refine st_appO (k := 1) (by_ := 24) rfl rfl rfl rfl rfl rfl rfl rfl rfl rfl (by exact hLj) ⟨rfl, hgl, ⟨rfl, by decide⟩, by intro e he; simp at he; subst he; rfl, by show (_ + 1) * 24 ≤ _; omega, by show _ + 1 ≤ _; omega⟩ (by exact hset) ?_) | (refine st_str rfl rfl rfl rfl rfl rfl (e := [.own (gRow g) (5 + 2 * (0 + j))]) (by exact hgj) ⟨Nat.le_refl _, rfl⟩ (by exact hstr) ?_) | (refine st_pop rfl rfl rfl rfl ?_ ?_; · (repeat' (first | exact trivial | rfl | exact Nat.le_of_ble_eq_true rfl | omega | (intro e he; simp at he; subst he; rfl) | apply And.intro))) | (refine st_idx rfl rfl rfl rfl rfl rfl rfl rfl (idx_map hx) ?_ ?_; · exact ⟨by omega, rfl⟩) | (refine st_lop rfl rfl rfl rfl ?_ ?_; · (repeat' (first | exact trivial | rfl | exact Nat.le_of_ble_eq_true rfl | omega | (intro e he; simp at he; subst he; rfl) | apply And.intro))) | (refine st_store rfl rfl rfl ?_ ?_; · (repeat' (first | exact trivial | rfl | exact Nat.le_of_ble_eq_true rfl | omega | (intro e he; simp at he; subst he; rfl) | apply And.intro))) | (refine st_lit rfl rfl rfl rfl ?_ ?_; · (repeat' (first | exact trivial | rfl | exact Nat.le_of_ble_eq_true rfl | omega | (intro e he; simp at he; subst he; rfl) | apply And.intro))) | refine st_skip rfl rfl rfl ?_ | refine st_skip0 rfl rfl ?_ | refine st_call rfl rfl rfl rfl hpk rfl ?_ | refine st_call rfl rfl rfl rfl hkr rfl ?_ | (refine st_if rfl (fun hb => ?_) (fun hb => ?_) <;> (first | exact no_ hb | rw [hb])) | refine aw_seq ?_ | refine aw_region tabG_ok _ rfl ?_ | refine aw_drawn2 tabS_ok _ rfl mixed (by decide +kernel) ?_ | (refine aw_cond rfl (fun hb => ?_) (fun hb => ?_) <;> (try exact no_ hb)) | refine aw_block ?_ | refine aw_exit ?_ | refine aw_ret ?_ | refine aw_skip ?_ | (refine st_sopq rfl rfl rfl rfl rfl (sop_getOk (M := M) tabG_ok rfl rfl rfl rfl rfl rfl) ?_))
        exact ⟨i + 1, by omega, by omega, by rw [hnx]; exact fits_mk ⟨rfl, rfl, rfl, rfl, rfl, rfl, (by rw [slot8_ne hG2, List.length_set]; rfl), rfl, rfl, slot_int (wrap_eq (by omega) (by omega)), trivial⟩ [] (by rw [glS_ne hG2]; exact (List.append_nil _).symm) (grp_below _ _ _) glS_below⟩
      | false =>
        rw [hmh, cond_false] at hnx
        obtain ⟨M2, hM2⟩ : ∃ M2, M2 = mputI M (ky r) (G.length : Nat) := ⟨_, rfl⟩
        rw [← hM2] at hnx
        have hput : (GLo kk rows M G).set 2 (.map (mapI (mputI M (ky r) (G.length : Nat)))) = GLo kk rows M2 G := by rw [hM2]; rfl
        have hsrc : srcS (GLo kk rows M2 G ++ [garb]) (.one (.sl (GLo kk rows M2 G).length (23 + 65536) 0 1)) = some [[SV.emp]] := by simp [srcS, garb]
        have hsok : srcOK tabG (GLo kk rows M2 G ++ [garb]) 1 75 (.one (.sl (GLo kk rows M2 G).length (23 + 65536) 0 1)) := ⟨rfl, [[SV.emp]], by simp [garb], by decide⟩
        have hL2 : (GLo kk rows M2 G ++ [garb]).set 4 (Ob.row (23 + 65536 * G.length + 65536) (gsF 0 G ++ [[SV.emp]]) 1) = hd3 kk rows M2 ++ [garb, Ob.row (23 + 65536 * G.length + 65536) (gsF 0 G ++ [[SV.emp]]) 1] ++ (tks G ++ [garb]) := by
          unfold GLo hd3; simp
        have hL2l : (hd3 kk rows M2 ++ [garb, Ob.row (23 + 65536 * G.length + 65536) (gsF 0 G ++ [[SV.emp]]) 1] ++ (tks G ++ [garb])).length = 5 + 2 * G.length := by
          have := tks_len hGn
          simp [hd3]; omega
        have eG : 0 + ((G.length : Nat) : Int).toNat = G.length := by simp
        have hgG : (gsF 0 G ++ [[SV.emp]])[0 + ((G.length : Nat) : Int).toNat]? = some [.emp] := by
          rw [eG, List.getElem?_append_right (by rw [gsF_len]; exact Nat.le_refl _), gsF_len]; simp
        have hstr : ((hd3 kk rows M2 ++ [garb, Ob.row (23 + 65536 * G.length + 65536) (gsF 0 G ++ [[SV.emp]]) 1] ++ (tks G ++ [garb])) ++ [Ob.spare 1 1]).set 4 (Ob.row (23 + 65536 * G.length + 65536) ((gsF 0 G ++ [[SV.emp]]).set (0 + ((G.length : Nat) : Int).toNat) [SV.own [[tRow r]] (hd3 kk rows M2 ++ [garb, Ob.row (23 + 65536 * G.length + 65536) (gsF 0 G ++ [[SV.emp]]) 1] ++ (tks G ++ [garb])).length]) 1) = GLo kk rows M2 (G ++ [[r]]) := by
          have e8 : (gsF 0 G ++ [[SV.emp]]).set G.length [SV.own [[tRow r]] (5 + 2 * G.length)] = gsF 0 (G ++ [[r]]) := by
            rw [gsF_snoc, List.set_append_right _ _ (by rw [gsF_len]; exact Nat.le_refl _), gsF_len]
            simp [gRow]
          rw [eG, hL2l, e8]
          have e9 : 23 + 65536 * G.length + 65536 = 23 + 65536 * (G ++ [[r]]).length := by rw [List.length_append]; simp; omega
          rw [e9]
          unfold GLo
          rw [tks_snoc [r] hGn]
          unfold hd3; simp
        have hG2 : G ++ [[r]] ≠ [] := by simp
        have e9 : 23 + 65536 * (G ++ [[r]]).length = 23 + 65536 * G.length + 65536 := by rw [List.length_append]; simp; omega
        have e10 : (G ++ [[r]]).length = G.length + 1 := by simp
        repeat' (first | refine st_nil ?_ | rw [hN] | rw [hmh] | (refine st_sop0 (L' := GLo kk rows M2 G) rfl rfl rfl rfl (by rw [← hput]; exact sop_put (M := M) tabG_ok rfl rfl rfl rfl rfl rfl) ?_) | (refine st_sop (L' := GLo kk rows M2 G ++ [garb]) rfl rfl rfl rfl rfl (sop_litNil (E := 23) tabG_ok rfl (by decide) rfl rfl hinf hiz) ?_) | (refine st_sop (v := .one (.sl 4 (23 + 65536 * G.length + 65536) 0 (G.length + 1))) (L' := hd3 kk rows M2 ++ [garb, Ob.row (23 + 65536 * G.length + 65536) (gsF 0 G ++ [[SV.emp]]) 1] ++ (tks G ++ [garb])) rfl rfl rfl rfl rfl (by rw [← hL2]; exact sop_app (k := 1) (by_ := 24) (xs := [[SV.emp]]) tabG_ok rfl rfl rfl hsrc hsok rfl (by show (23 + 65536 * G.length) % 65536 = 23; omega) rfl rfl rfl (by decide) (gsF_len G 0) (by show (_ + 1) * 24 ≤ _; omega) (by show _ + 1 ≤ _; omega)) ?_) | (refine st_ldr rfl rfl rfl rfl rfl rfl rfl (e := [SV.emp]) (by exact hgG) rfl ?_) | (refine st_str rfl rfl rfl rfl rfl rfl (e := [SV.emp]) (by exact hgG) ⟨Nat.le_refl _, rfl⟩ (by exact hstr) ?_) | (refine st_pop rfl rfl rfl rfl ?_ ?_; · (repeat' (first | exact trivial | rfl | exact Nat.le_of_ble_eq_true rfl | omega | (intro e he; simp at he; subst he; rfl) | decide | (show _ < _ + 1; omega) | apply And.intro))) | (refine st_idx rfl rfl rfl rfl rfl rfl rfl rfl (idx_map hx) ?_ ?_; · exact ⟨by omega, rfl⟩) | (refine st_lop rfl rfl rfl rfl ?_ ?_; · (repeat' (first | exact trivial | rfl | exact Nat.le_of_ble_eq_true rfl | omega | (intro e he; simp at he; subst he; rfl) | decide | (show _ < _ + 1; omega) | apply And.intro))) | (refine st_store rfl rfl rfl ?_ ?_; · (repeat' (first | exact trivial | rfl | exact Nat.le_of_ble_eq_true rfl | omega | (intro e he; simp at he; subst he; rfl) | decide | (show _ < _ + 1; omega) | apply And.intro))) | (refine st_lit rfl rfl rfl rfl ?_ ?_; · (repeat' (first | exact trivial | rfl | exact Nat.le_of_ble_eq_true rfl | omega | (intro e he; simp at he; subst he; rfl) | decide | (show _ < _ + 1; omega) | apply And.intro))) | refine st_skip rfl rfl rfl ?_ | refine st_skip0 rfl rfl ?_ | refine st_call rfl rfl rfl rfl hpk rfl ?_ | refine st_call rfl rfl rfl rfl hkr rfl ?_ | (refine st_if rfl (fun hb => ?_) (fun hb => ?_) <;> (first | exact no_ hb | rw [hb])) | refine aw_seq ?_ | refine aw_region tabG_ok _ rfl ?_ | refine aw_drawn2 tabS_ok _ rfl mixed (by decide +kernel) ?_ | (refine aw_cond rfl (fun hb => ?_) (fun hb => ?_) <;> (try exact no_ hb)) | refine aw_block ?_ | refine aw_exit ?_ | refine aw_ret ?_ | refine aw_skip ?_ | (refine st_sopq rfl rfl rfl rfl rfl (sop_getOk (M := M) tabG_ok rfl rfl rfl rfl rfl rfl) ?_))
        exact ⟨i + 1, by omega, by omega, by rw [hnx]; exact fits_mk ⟨rfl, rfl, rfl, rfl, rfl, rfl, (by rw [slot8_ne hG2, e9, e10]; rfl), rfl, rfl, slot_int (wrap_eq (by omega) (by omega)), trivial⟩ [] (by rw [glS_ne hG2]; exact (List.append_nil _).symm) (grp_below _ _ _) glS_below⟩
  · have htk : rows.take i = rows := List.take_of_length_le (by omega)
    have hN : decide ((i : Int) < n) = false := by simp; omega
    rw [htk] at hok hGl ⊢
    have hgb := gfold_glen ky rows
    have hgm := gfold_mem ky rows
    generalize gfold ky rows = S at hok hGl hgb hgm
    obtain ⟨M, G⟩ := S
    dsimp only at hok hGl hgb hgm ⊢
    suffices hmain : Aw Tryz.prog 111 0 _ _ [(1, .one (.c (tInts keys))), (2, .one (.c (tAggs aggs))), (3, .one (.ptr 0 0)), (6, .one (.ptr 1 0)), (8, .one (.c (tGrps G))), (32, .one (.c (.int .i64 n))), (33, .one (.c (.int .i64 i)))] [.box [.c (tInts kk), .c (tRows rows)], .box [.emp, .emp]] by
      by_cases hGn : G = []
      · have hs8 : slot8 G = .one .emp := by rw [hGn]; rfl
        have hgS : glS kk rows ⟨M, G⟩ = hd3 kk rows M := by unfold glS; rw [hGn]
        have htG : tGrps G = .lst [] := by rw [hGn]; rfl
        rw [hs8, hgS]
        rw [htG] at hmain
        refine aw_norm 8 (x := .emp) (y := .lst []) rfl rfl ?_
        exact aw_fit (T1 := [(1, .one (.c (tInts keys))), (2, .one (.c (tAggs aggs))), (3, .one (.ptr 0 0)), (6, .one (.ptr 1 0)), (8, .one (.c (.lst []))), (32, .one (.c (.int .i64 n))), (33, .one (.c (.int .i64 i)))]) (L1 := [.box [.c (tInts kk), .c (tRows rows)], .box [.emp, .emp]]) (Nat.zero_le _) (fits_mk ⟨rfl, rfl, rfl, rfl, rfl, rfl, rfl, trivial⟩ [_] rfl ⟨trivial, trivial, by show 0 < 2; omega, by show 1 < 2; omega, trivial, trivial, trivial, trivial⟩ ⟨box2_below, boxe_below _, trivial⟩) hmain
      · rw [show glS kk rows ⟨M, G⟩ = GLo kk rows M G from glS_ne hGn, slot8_ne hGn]
        refine aw_freeze1 4 8 (L := GLo kk rows M G) rfl (normR_gs G 0) rfl (by simp) ?_
        exact aw_fit (T1 := [(1, .one (.c (tInts keys))), (2, .one (.c (tAggs aggs))), (3, .one (.ptr 0 0)), (6, .one (.ptr 1 0)), (8, .one (.c (tGrps G))), (32, .one (.c (.int .i64 n))), (33, .one (.c (.int .i64 i)))]) (L1 := [.box [.c (tInts kk), .c (tRows rows)], .box [.emp, .emp]]) (Nat.zero_le _) (fits_mk ⟨rfl, rfl, rfl, rfl, rfl, rfl, rfl, trivial⟩ _ rfl ⟨trivial, trivial, by show 0 < 2; omega, by show 1 < 2; omega, trivial, trivial, trivial, trivial⟩ ⟨box2_below, boxe_below _, trivial⟩) hmain
    obtain ⟨m, hm⟩ : ∃ m, G.length = m := ⟨_, rfl⟩
    have hmG : (((G.map fun g => [AC.lst (gRow g)]).length : Nat) : Int) = m := by simp [hm]
    have hgr := grouped_pure kk keys aggs h1 h2 h3
    have hgl := grpF_len kk keys aggs
    have hbag := bag_pure (grpF kk keys aggs).1 (G.map (grpRow keys aggs)) (by omega) (by rw [List.length_map]; omega) (fun r hr' => by
      obtain ⟨g, hg, rfl⟩ := List.mem_map.1 hr'
      have hlen : (grpRow keys aggs g).length = keys.length + aggs.length := by simp [grpRow, pickV]
      have hk1 : 0 < keys.length := by cases keys with | nil => exact absurd rfl h0 | cons x l => simp
      exact ⟨by intro e; rw [e] at hlen; simp at hlen; omega, by omega⟩)
    have hkg : decide ((0 : Int) < ((keys.map fun x => [AC.int .i64 x]).length : Nat)) = true := by
      cases keys with
      | nil => exact absurd rfl h0
      | cons x l => simp <;> omega
    repeat' (first | refine st_nil ?_ | rw [hN] | (refine st_pop rfl rfl rfl rfl ?_ ?_; · exact ok_) | (refine st_lop rfl rfl rfl rfl ?_ ?_; · exact ok_) | (refine st_store rfl rfl rfl ?_ ?_; · exact ok_) | (refine st_lit rfl rfl rfl rfl ?_ ?_; · exact ok_) | refine st_skip rfl rfl rfl ?_ | refine st_skip0 rfl rfl ?_ | (refine st_if rfl (fun hb => ?_) (fun hb => ?_) <;> (first | exact no_ hb | rw [hb])) | refine aw_seq ?_ | refine aw_region tabG_ok _ rfl ?_ | refine aw_drawn2 tabS_ok _ rfl mixed (by decide +kernel) ?_ | (refine aw_cond rfl (fun hb => ?_) (fun hb => ?_) <;> (try exact no_ hb)) | refine aw_block ?_ | refine aw_exit ?_ | refine aw_ret ?_ | refine aw_skip ?_)
    refine aw_tok 14 1 rfl ?_
    refine aw_loop (fun j : Nat => [(1, .one (.c (tInts keys))), (2, .one (.c (tAggs aggs))), (3, .one (.ptr 0 0)), (6, .one (.ptr 1 0)), (14, .one (.own (((G.take j).map (grpRow keys aggs)).map fun r => [tRow r]) 2)), (68, .one (.c (tGrps G))), (69, .one (.c (.int .i64 m))), (70, .one (.c (.int .i64 j)))]) (fun j => [.box [.c (tInts kk), .c (tRows rows)], .box [.emp, .emp], .spare j 1]) (fun j => j ≤ m) (fun j => m - j) 0 (by omega) (fun _ _ => Nat.zero_le _)
      (fits_mk ⟨rfl, rfl, rfl, rfl, rfl, rfl, slot_int hmG, rfl, trivial⟩ [] rfl ⟨trivial, trivial, by show 0 < 3; omega, by show 1 < 3; omega, by show 2 < 3; omega, trivial, trivial, trivial, trivial⟩ ⟨box2_below, boxe_below _, trivial, trivial⟩) ?_
    intro j hj
    by_cases hlj : j < m
    · obtain ⟨g, hg⟩ := get_of_lt (show j < G.length by omega)
      have hgmem := List.mem_of_getElem? hg
      have hNj : decide ((j : Int) < m) = true := by simp; exact hlj
      obtain ⟨x, g', hgx⟩ : ∃ x g', g = x :: g' := by
        cases g with
        | nil => exact absurd rfl (hok.ne [] hgmem)
        | cons x g' => exact ⟨x, g', rfl⟩
      have hxr := hr x (hgm g hgmem x (by rw [hgx]; simp))
      have hga : ∀ r ∈ g, r.length ≤ 1000000 := fun r h => hr r (hgm g hgmem r h)
      have hgl2 := hgb g hgmem
      have hout : ((G.take (j + 1)).map (grpRow keys aggs)).map (fun r => [tRow r]) = ((G.take j).map (grpRow keys aggs)).map (fun r => [tRow r]) ++ [[tRow (grpRow keys aggs g)]] := by rw [take_succ hg]; simp
      have holen : (((G.take j).map (grpRow keys aggs)).map fun r => [tRow r]).length = j := by simp; omega
      have hidx : (G.map fun g => [AC.lst (gRow g)])[((j : Nat) : Int).toNat]? = some [.lst (gRow g)] := idx_map hg
      have hhead : g.headD [] = x := by rw [hgx]; rfl
      subst hgx
      generalize hOut : ((G.take j).map (grpRow keys aggs)).map (fun r => [tRow r]) = Out at holen hout
      repeat' (first | refine st_nil ?_ | rw [hNj] | rw [hkg] | (refine st_pop rfl rfl rfl rfl ?_ ?_; · exact ok_) | (refine st_idx rfl rfl rfl rfl rfl rfl rfl rfl hidx ?_ ?_; · exact ⟨by omega, rfl⟩) | (refine st_lop rfl rfl rfl rfl ?_ ?_; · exact ok_) | (refine st_store rfl rfl rfl ?_ ?_; · exact ok_) | (refine st_lit rfl rfl rfl rfl ?_ ?_; · exact ok_) | refine st_skip rfl rfl rfl ?_ | refine st_skip0 rfl rfl ?_ | (refine st_run [] (r' := .one (.own ((pickV x keys).map cV) 3)) (L' := [.box [.c (tInts kk), .c (tRows rows)], .box [.emp, .emp], .spare j 1, .spare keys.length 3]) rfl rfl rfl rfl (pick_run x keys hxr (by omega)) rfl ⟨rfl, by simp, fun i x hx => by simp at hx, fun x hx => by simp at hx, args_below ⟨trivial, trivial, trivial⟩⟩ rfl rfl ?_) | (refine st_if rfl (fun hb => ?_) (fun hb => ?_) <;> (first | exact no_ hb | rw [hb])) | refine aw_seq ?_ | refine aw_region tabG_ok _ rfl ?_ | refine aw_drawn2 tabS_ok _ rfl mixed (by decide +kernel) ?_ | (refine aw_cond rfl (fun hb => ?_) (fun hb => ?_) <;> (try exact no_ hb)) | refine aw_block ?_ | refine aw_exit ?_ | refine aw_ret ?_ | refine aw_skip ?_)
      obtain ⟨q, hq⟩ : ∃ q, aggs.length = q := ⟨_, rfl⟩
      have hqm : (((aggs.map cA).length : Nat) : Int) = q := by simp [hq]
      have hpl : (pickV x keys).length = keys.length := by simp [pickV]
      refine aw_loop (fun a : Nat => [(1, .one (.c (tInts keys))), (2, .one (.c (tAggs aggs))), (3, .one (.ptr 0 0)), (6, .one (.ptr 1 0)), (14, .one (.own Out 2)), (16, .one (.c (.lst (gRow (x :: g'))))), (17, .one (.own ((pickV x keys ++ (aggs.take a).map fun z => aggV z.1 z.2 (x :: g')).map cV) 3)), (68, .one (.c (tGrps G))), (69, .one (.c (.int .i64 m))), (70, .one (.c (.int .i64 j))), (82, .one (.c (tAggs aggs))), (83, .one (.c (.int .i64 q))), (84, .one (.c (.int .i64 a)))]) (fun a => [.box [.c (tInts kk), .c (tRows rows)], .box [.emp, .emp], .spare j 1, .spare (keys.length + a) 3]) (fun a => a ≤ q) (fun a => q - a) 0 (by omega) (fun _ _ => Nat.zero_le _)
        (fits_mk ⟨rfl, rfl, rfl, rfl, rfl, rfl, slot_own (by simp), rfl, rfl, rfl, rfl, slot_int hqm, rfl, trivial⟩ [] rfl ⟨trivial, trivial, by show 0 < 4; omega, by show 1 < 4; omega, by show 2 < 4; omega, trivial, by show 3 < 4; omega, trivial, trivial, trivial, trivial, trivial, trivial, trivial⟩ ⟨box2_below, boxe_below _, trivial, trivial, trivial⟩) ?_
      intro a ha
      by_cases hla : a < q
      · obtain ⟨z, hz⟩ := get_of_lt (show a < aggs.length by omega)
        have hNa : decide ((a : Int) < q) = true := by simp; exact hla
        have hzi : (aggs.map cA)[((a : Nat) : Int).toNat]? = some [.int .i64 z.1, .int .i64 z.2] := idx_map hz
        have hag := agg_pure z.1 z.2 (x :: g') (by simp only [List.length_cons] at hgl2 ⊢; omega) hga
        have hrow : (pickV x keys ++ (aggs.take (a + 1)).map fun z => aggV z.1 z.2 (x :: g')).map cV = (pickV x keys ++ (aggs.take a).map fun z => aggV z.1 z.2 (x :: g')).map cV ++ [cV (aggV z.1 z.2 (x :: g'))] := by rw [take_succ hz]; simp
        have hrl : ((pickV x keys ++ (aggs.take a).map fun z => aggV z.1 z.2 (x :: g')).map cV).length = keys.length + a := by simp [pickV]; omega
        generalize (pickV x keys ++ (aggs.take a).map fun z => aggV z.1 z.2 (x :: g')).map cV = Row at hrow hrl
        repeat' (first | refine st_nil ?_ | rw [hNa] | (refine st_pop rfl rfl rfl rfl ?_ ?_; · (repeat' (first | exact trivial | rfl | exact Nat.le_of_ble_eq_true rfl | omega | (intro e he; simp at he; subst he; rfl) | exact hrl | (show (_ + 1) * 32 ≤ _; omega) | (show _ + 1 ≤ _; omega) | apply And.intro))) | (refine st_idx rfl rfl rfl rfl rfl rfl rfl rfl hzi ?_ ?_; · exact ⟨by omega, rfl⟩) | (refine st_lop rfl rfl rfl rfl ?_ ?_; · (repeat' (first | exact trivial | rfl | exact Nat.le_of_ble_eq_true rfl | omega | (intro e he; simp at he; subst he; rfl) | exact hrl | (show (_ + 1) * 32 ≤ _; omega) | (show _ + 1 ≤ _; omega) | apply And.intro))) | (refine st_store rfl rfl rfl ?_ ?_; · (repeat' (first | exact trivial | rfl | exact Nat.le_of_ble_eq_true rfl | omega | (intro e he; simp at he; subst he; rfl) | exact hrl | (show (_ + 1) * 32 ≤ _; omega) | (show _ + 1 ≤ _; omega) | apply And.intro))) | (refine st_lit rfl rfl rfl rfl ?_ ?_; · (repeat' (first | exact trivial | rfl | exact Nat.le_of_ble_eq_true rfl | omega | (intro e he; simp at he; subst he; rfl) | exact hrl | (show (_ + 1) * 32 ≤ _; omega) | (show _ + 1 ≤ _; omega) | apply And.intro))) | refine st_skip rfl rfl rfl ?_ | refine st_skip0 rfl rfl ?_ | refine st_call rfl rfl rfl rfl hag rfl ?_ | (refine st_if rfl (fun hb => ?_) (fun hb => ?_) <;> (first | exact no_ hb | rw [hb])) | refine aw_seq ?_ | refine aw_region tabG_ok _ rfl ?_ | refine aw_drawn2 tabS_ok _ rfl mixed (by decide +kernel) ?_ | (refine aw_cond rfl (fun hb => ?_) (fun hb => ?_) <;> (try exact no_ hb)) | refine aw_block ?_ | refine aw_exit ?_ | refine aw_ret ?_ | refine aw_skip ?_)
        exact ⟨a + 1, by omega, by omega, fits_mk ⟨rfl, rfl, rfl, rfl, rfl, rfl, slot_own (by rw [hrow]; rfl), rfl, rfl, rfl, rfl, rfl, slot_int (wrap_eq (by omega) (by omega)), trivial⟩ [_] rfl ⟨trivial, trivial, by show 0 < 4; omega, by show 1 < 4; omega, by show 2 < 4; omega, trivial, by show 3 < 4; omega, trivial, trivial, trivial, trivial, trivial, trivial, trivial⟩ ⟨box2_below, boxe_below _, trivial, trivial, trivial⟩⟩
      · have hNa : decide ((a : Int) < q) = false := by simp; omega
        have hta : aggs.take a = aggs := List.take_of_length_le (by omega)
        rw [hta]
        have hgrow : grpRow keys aggs (x :: g') = pickV x keys ++ aggs.map fun z => aggV z.1 z.2 (x :: g') := rfl
        rw [← hgrow]
        repeat' (first | refine st_nil ?_ | rw [hNa] | (refine st_pop rfl rfl rfl rfl ?_ ?_; · (repeat' (first | exact trivial | rfl | exact Nat.le_of_ble_eq_true rfl | omega | (intro e he; simp at he; subst he; rfl) | exact holen | (show (_ + 1) * 24 ≤ _; omega) | (show _ + 1 ≤ _; omega) | apply And.intro))) | (refine st_lop rfl rfl rfl rfl ?_ ?_; · (repeat' (first | exact trivial | rfl | exact Nat.le_of_ble_eq_true rfl | omega | (intro e he; simp at he; subst he; rfl) | exact holen | (show (_ + 1) * 24 ≤ _; omega) | (show _ + 1 ≤ _; omega) | apply And.intro))) | (refine st_store rfl rfl rfl ?_ ?_; · (repeat' (first | exact trivial | rfl | exact Nat.le_of_ble_eq_true rfl | omega | (intro e he; simp at he; subst he; rfl) | exact holen | (show (_ + 1) * 24 ≤ _; omega) | (show _ + 1 ≤ _; omega) | apply And.intro))) | (refine st_lit rfl rfl rfl rfl ?_ ?_; · (repeat' (first | exact trivial | rfl | exact Nat.le_of_ble_eq_true rfl | omega | (intro e he; simp at he; subst he; rfl) | exact holen | (show (_ + 1) * 24 ≤ _; omega) | (show _ + 1 ≤ _; omega) | apply And.intro))) | refine st_skip rfl rfl rfl ?_ | refine st_skip0 rfl rfl ?_ | (refine st_if rfl (fun hb => ?_) (fun hb => ?_) <;> (first | exact no_ hb | rw [hb])) | refine aw_seq ?_ | refine aw_region tabG_ok _ rfl ?_ | refine aw_drawn2 tabS_ok _ rfl mixed (by decide +kernel) ?_ | (refine aw_cond rfl (fun hb => ?_) (fun hb => ?_) <;> (try exact no_ hb)) | refine aw_block ?_ | refine aw_exit ?_ | refine aw_ret ?_ | refine aw_skip ?_)
        exact ⟨j + 1, by omega, by omega, fits_mk ⟨rfl, rfl, rfl, rfl, slot_own (by rw [hout]; rfl), rfl, rfl, slot_int (wrap_eq (by omega) (by omega)), trivial⟩ [_] rfl ⟨trivial, trivial, by show 0 < 3; omega, by show 1 < 3; omega, by show 2 < 3; omega, trivial, trivial, trivial, trivial⟩ ⟨box2_below, boxe_below _, trivial, trivial⟩⟩
    · have hNj : decide ((j : Int) < m) = false := by simp; omega
      have htj : G.take j = G := List.take_of_length_le (by omega)
      rw [htj]
      repeat' (first | refine st_nil ?_ | rw [hNj] | (refine st_pop rfl rfl rfl rfl ?_ ?_; · exact ok_) | (refine st_lop rfl rfl rfl rfl ?_ ?_; · exact ok_) | (refine st_store rfl rfl rfl ?_ ?_; · exact ok_) | (refine st_lit rfl rfl rfl rfl ?_ ?_; · exact ok_) | refine st_skip rfl rfl rfl ?_ | refine st_skip0 rfl rfl ?_ | refine st_call rfl rfl rfl rfl hgr rfl ?_ | refine st_call rfl rfl rfl rfl hbag rfl ?_ | (refine st_if rfl (fun hb => ?_) (fun hb => ?_) <;> (first | exact no_ hb | rw [hb])) | refine aw_seq ?_ | refine aw_region tabG_ok _ rfl ?_ | refine aw_drawn2 tabS_ok _ rfl mixed (by decide +kernel) ?_ | (refine aw_cond rfl (fun hb => ?_) (fun hb => ?_) <;> (try exact no_ hb)) | refine aw_block ?_ | refine aw_exit ?_ | refine aw_ret ?_ | refine aw_skip ?_)
      exact end_ret (res_of rfl ⟨Nat.le_refl 2, trivial⟩ rfl)
end Go.Proofs.YtfpbmfalamappaaGreatDoor

namespace Go.Proofs.YtfpbmfalamappaaGreatDoor
open Go.RowKit Go.MapKept
set_option maxRecDepth 100000
set_option maxHeartbeats 4000000 in
theorem group0_pure (kk : List Int) (aggs : List Ag) (h1 : kk.length ≤ 100000) (h3 : aggs.length ≤ 100000) (h0 : aggs ≠ []) : Pure Tryz.prog 18 [.agg [tInts kk, tRows []], .one (tInts []), .one (tAggs aggs)] (.val (.agg [tInts (grpF kk [] aggs).1, sortR [aggs.map fun z => aggV z.1 z.2 []]])) := by
  refine pure_of_aw tabG_ok Tryz.func18 rfl rfl Tryz.ntmps18 (by simp) ?_
  simp only [argT, PV.av, List.map_cons, List.map_nil]
  obtain ⟨inf, hinf, hiz⟩ : ∃ inf, Tryz.prog.info? 23 = some inf ∧ inf.zero = some (.slice none 0 0) := by
    have hh : (Tryz.prog.info? 23).bind (·.zero) = some (.slice none 0 0) := by kernel_rfl
    cases hi : Tryz.prog.info? 23 with
    | none => rw [hi] at hh; cases hh
    | some j => rw [hi] at hh; exact ⟨j, rfl, by simpa using hh⟩
  have hgr := grouped_pure kk [] aggs h1 (Nat.zero_le _) h3
  have hgl := grpF_len kk [] aggs
  simp only [List.length_nil] at hgl
  have hbag := bag_pure (grpF kk [] aggs).1 [aggs.map fun z => aggV z.1 z.2 []] (by omega) (by simp) (fun r hr' => by
    simp at hr'; subst hr'
    exact ⟨by intro e; exact h0 (List.map_eq_nil_iff.1 e), by simp; omega⟩)
  repeat' (first | refine st_nil ?_ | (refine st_sop rfl rfl rfl rfl rfl (sop_app0 (E := 23) (k := 1) (by_ := 24) (xs := [[.emp]]) tabG_ok rfl rfl rfl ⟨rfl, _, rfl, by decide⟩ rfl (by decide) rfl rfl rfl (by decide) (by decide) (by decide) (by decide)) ?_) | (refine st_sop rfl rfl rfl rfl rfl (sop_litNil (E := 23) tabG_ok rfl (by decide) rfl rfl hinf hiz) ?_) | (refine st_pop rfl rfl rfl rfl ?_ ?_; · (repeat' (first | exact trivial | rfl | exact Nat.le_of_ble_eq_true rfl | omega | decide | apply And.intro))) | (refine st_lop rfl rfl rfl rfl ?_ ?_; · (repeat' (first | exact trivial | rfl | exact Nat.le_of_ble_eq_true rfl | omega | decide | apply And.intro))) | (refine st_store rfl rfl rfl ?_ ?_; · (repeat' (first | exact trivial | rfl | exact Nat.le_of_ble_eq_true rfl | omega | decide | apply And.intro))) | (refine st_lit rfl rfl rfl rfl ?_ ?_; · (repeat' (first | exact trivial | rfl | exact Nat.le_of_ble_eq_true rfl | omega | decide | apply And.intro))) | refine st_skip rfl rfl rfl ?_ | refine st_skip0 rfl rfl ?_ | (refine st_if rfl (fun hb => ?_) (fun hb => ?_) <;> (first | exact no_ hb | rw [hb])) | refine aw_seq ?_ | refine aw_region tabG_ok _ rfl ?_ | refine aw_drawn2 tabS_ok _ rfl mixed (by decide +kernel) ?_ | (refine aw_cond rfl (fun hb => ?_) (fun hb => ?_) <;> (try exact no_ hb)) | refine aw_block ?_ | refine aw_exit ?_ | refine aw_ret ?_ | refine aw_skip ?_ | (refine st_sop rfl rfl rfl rfl rfl sop_makeMap ?_) | (refine st_sop0 rfl rfl rfl rfl (sop_put (M := []) tabG_ok rfl rfl rfl rfl rfl rfl) ?_))
  refine aw_loop (fun _ : Unit => [(1, .one (.c (tInts []))), (2, .one (.c (tAggs aggs))), (3, .one (.ptr 0 0)), (6, .one (.ptr 1 0)), (8, .one (.sl 4 (23 + 65536) 0 1)), (32, .one (.c (.int .i64 0))), (33, .one (.c (.int .i64 0)))]) (fun _ => [.box [.c (tInts kk), .c (tRows [])], .box [.emp, .emp], .map (mapI [(⟨#[]⟩, 0)]), garb, .row (23 + 65536) [[.emp]] 1]) (fun _ => True) (fun _ => 0) () trivial (fun _ _ => Nat.zero_le _)
    (fits_mk ⟨rfl, rfl, rfl, rfl, rfl, rfl, rfl, trivial⟩ [] rfl ⟨trivial, trivial, by show 0 < 5; omega, by show 1 < 5; omega, by show 4 < 5; omega, trivial, trivial, trivial⟩ ⟨box2_below, boxe_below _, mapI_below _ _, garb_below _, garb_below _, trivial⟩) ?_
  intro _ _
  refine aw_freeze1 4 8 rfl (cs := [[.lst []]]) rfl rfl rfl ?_
  repeat' (first | refine st_nil ?_ | (refine st_pop rfl rfl rfl rfl ?_ ?_; · exact ok_) | (refine st_lop rfl rfl rfl rfl ?_ ?_; · exact ok_) | (refine st_store rfl rfl rfl ?_ ?_; · exact ok_) | (refine st_lit rfl rfl rfl rfl ?_ ?_; · exact ok_) | refine st_skip rfl rfl rfl ?_ | refine st_skip0 rfl rfl ?_ | (refine st_if rfl (fun hb => ?_) (fun hb => ?_) <;> (first | exact no_ hb | rw [hb])) | refine aw_seq ?_ | refine aw_region tabG_ok _ rfl ?_ | refine aw_drawn2 tabS_ok _ rfl mixed (by decide +kernel) ?_ | (refine aw_cond rfl (fun hb => ?_) (fun hb => ?_) <;> (try exact no_ hb)) | refine aw_block ?_ | refine aw_exit ?_ | refine aw_ret ?_ | refine aw_skip ?_)
  refine aw_tok 14 1 rfl ?_
  refine aw_loop (fun j : Nat => [(1, .one (.c (tInts []))), (2, .one (.c (tAggs aggs))), (3, .one (.ptr 0 0)), (6, .one (.ptr 1 0)), (14, .one (.own (((List.replicate j (aggs.map fun z => aggV z.1 z.2 [])).map fun r => [tRow r])) 5)), (68, .one (.c (.lst [[.lst []]]))), (69, .one (.c (.int .i64 1))), (70, .one (.c (.int .i64 j)))]) (fun j => [.box [.c (tInts kk), .c (tRows [])], .box [.emp, .emp], .map (mapI [(⟨#[]⟩, 0)]), garb, .dead, .spare j 1]) (fun j => j ≤ 1) (fun j => 1 - j) 0 (by omega) (fun _ _ => Nat.zero_le _)
    (fits_mk ⟨rfl, rfl, rfl, rfl, rfl, rfl, rfl, rfl, trivial⟩ [] rfl ⟨trivial, trivial, by show 0 < 6; omega, by show 1 < 6; omega, by show 5 < 6; omega, trivial, trivial, trivial, trivial⟩ ⟨box2_below, boxe_below _, mapI_below _ _, garb_below _, trivial, trivial, trivial⟩) ?_
  intro j hj
  have hj' : j = 0 ∨ j = 1 := by omega
  rcases hj' with rfl | rfl
  · repeat' (first | refine st_nil ?_ | (refine st_pop rfl rfl rfl rfl ?_ ?_; · exact ok_) | (refine st_lop rfl rfl rfl rfl ?_ ?_; · exact ok_) | (refine st_store rfl rfl rfl ?_ ?_; · exact ok_) | (refine st_lit rfl rfl rfl rfl ?_ ?_; · exact ok_) | refine st_skip rfl rfl rfl ?_ | refine st_skip0 rfl rfl ?_ | (refine st_if rfl (fun hb => ?_) (fun hb => ?_) <;> (first | exact no_ hb | rw [hb])) | refine aw_seq ?_ | refine aw_region tabG_ok _ rfl ?_ | refine aw_drawn2 tabS_ok _ rfl mixed (by decide +kernel) ?_ | (refine aw_cond rfl (fun hb => ?_) (fun hb => ?_) <;> (try exact no_ hb)) | refine aw_block ?_ | refine aw_exit ?_ | refine aw_ret ?_ | refine aw_skip ?_)
    refine aw_tok 17 3 rfl ?_
    obtain ⟨q, hq⟩ : ∃ q, aggs.length = q := ⟨_, rfl⟩
    have hqm : (((aggs.map cA).length : Nat) : Int) = q := by simp [hq]
    refine aw_loop (fun a : Nat => [(1, .one (.c (tInts []))), (2, .one (.c (tAggs aggs))), (3, .one (.ptr 0 0)), (6, .one (.ptr 1 0)), (14, .one (.own [] 5)), (16, .one (.c (.lst []))), (17, .one (.own (((aggs.take a).map fun z => aggV z.1 z.2 []).map cV) 6)), (68, .one (.c (.lst [[.lst []]]))), (69, .one (.c (.int .i64 1))), (70, .one (.c (.int .i64 0))), (82, .one (.c (tAggs aggs))), (83, .one (.c (.int .i64 q))), (84, .one (.c (.int .i64 a)))]) (fun a => [.box [.c (tInts kk), .c (tRows [])], .box [.emp, .emp], .map (mapI [(⟨#[]⟩, 0)]), garb, .dead, .spare 0 1, .spare a 3]) (fun a => a ≤ q) (fun a => q - a) 0 (by omega) (fun _ _ => Nat.zero_le _)
      (fits_mk ⟨rfl, rfl, rfl, rfl, rfl, rfl, rfl, rfl, rfl, rfl, rfl, slot_int hqm, rfl, trivial⟩ [] rfl ⟨trivial, trivial, by show 0 < 7; omega, by show 1 < 7; omega, by show 5 < 7; omega, trivial, by show 6 < 7; omega, trivial, trivial, trivial, trivial, trivial, trivial, trivial⟩ ⟨box2_below, boxe_below _, mapI_below _ _, garb_below _, trivial, trivial, trivial, trivial⟩) ?_
    intro a ha
    by_cases hla : a < q
    · obtain ⟨z, hz⟩ := get_of_lt (show a < aggs.length by omega)
      have hNa : decide ((a : Int) < q) = true := by simp; exact hla
      have hzi : (aggs.map cA)[((a : Nat) : Int).toNat]? = some [.int .i64 z.1, .int .i64 z.2] := idx_map hz
      have hag := agg_pure z.1 z.2 [] (by simp) (by simp)
      have hrow : ((aggs.take (a + 1)).map fun z => aggV z.1 z.2 []).map cV = ((aggs.take a).map fun z => aggV z.1 z.2 []).map cV ++ [cV (aggV z.1 z.2 [])] := by rw [take_succ hz]; simp
      have hrl : (((aggs.take a).map fun z => aggV z.1 z.2 []).map cV).length = a := by simp; omega
      generalize ((aggs.take a).map fun z => aggV z.1 z.2 []).map cV = Row at hrow hrl
      repeat' (first | refine st_nil ?_ | rw [hNa] | (refine st_pop rfl rfl rfl rfl ?_ ?_; · (repeat' (first | exact trivial | rfl | exact Nat.le_of_ble_eq_true rfl | omega | (intro e he; simp at he; subst he; rfl) | exact hrl | (show (_ + 1) * 32 ≤ _; omega) | (show _ + 1 ≤ _; omega) | apply And.intro))) | (refine st_idx rfl rfl rfl rfl rfl rfl rfl rfl hzi ?_ ?_; · exact ⟨by omega, rfl⟩) | (refine st_lop rfl rfl rfl rfl ?_ ?_; · (repeat' (first | exact trivial | rfl | exact Nat.le_of_ble_eq_true rfl | omega | (intro e he; simp at he; subst he; rfl) | exact hrl | (show (_ + 1) * 32 ≤ _; omega) | (show _ + 1 ≤ _; omega) | apply And.intro))) | (refine st_store rfl rfl rfl ?_ ?_; · (repeat' (first | exact trivial | rfl | exact Nat.le_of_ble_eq_true rfl | omega | (intro e he; simp at he; subst he; rfl) | exact hrl | (show (_ + 1) * 32 ≤ _; omega) | (show _ + 1 ≤ _; omega) | apply And.intro))) | (refine st_lit rfl rfl rfl rfl ?_ ?_; · (repeat' (first | exact trivial | rfl | exact Nat.le_of_ble_eq_true rfl | omega | (intro e he; simp at he; subst he; rfl) | exact hrl | (show (_ + 1) * 32 ≤ _; omega) | (show _ + 1 ≤ _; omega) | apply And.intro))) | refine st_skip rfl rfl rfl ?_ | refine st_skip0 rfl rfl ?_ | refine st_call rfl rfl rfl rfl hag rfl ?_ | (refine st_if rfl (fun hb => ?_) (fun hb => ?_) <;> (first | exact no_ hb | rw [hb])) | refine aw_seq ?_ | refine aw_region tabG_ok _ rfl ?_ | refine aw_drawn2 tabS_ok _ rfl mixed (by decide +kernel) ?_ | (refine aw_cond rfl (fun hb => ?_) (fun hb => ?_) <;> (try exact no_ hb)) | refine aw_block ?_ | refine aw_exit ?_ | refine aw_ret ?_ | refine aw_skip ?_)
      exact ⟨a + 1, by omega, by omega, fits_mk ⟨rfl, rfl, rfl, rfl, rfl, rfl, slot_own (by rw [hrow]; rfl), rfl, rfl, rfl, rfl, rfl, slot_int (wrap_eq (by omega) (by omega)), trivial⟩ [_] rfl ⟨trivial, trivial, by show 0 < 7; omega, by show 1 < 7; omega, by show 5 < 7; omega, trivial, by show 6 < 7; omega, trivial, trivial, trivial, trivial, trivial, trivial, trivial⟩ ⟨box2_below, boxe_below _, mapI_below _ _, garb_below _, trivial, trivial, trivial, trivial⟩⟩
    · have hNa : decide ((a : Int) < q) = false := by simp; omega
      have hta : aggs.take a = aggs := List.take_of_length_le (by omega)
      rw [hta]
      repeat' (first | refine st_nil ?_ | rw [hNa] | (refine st_pop rfl rfl rfl rfl ?_ ?_; · (repeat' (first | exact trivial | rfl | exact Nat.le_of_ble_eq_true rfl | omega | (intro e he; simp at he; subst he; rfl) | decide | apply And.intro))) | (refine st_lop rfl rfl rfl rfl ?_ ?_; · (repeat' (first | exact trivial | rfl | exact Nat.le_of_ble_eq_true rfl | omega | (intro e he; simp at he; subst he; rfl) | decide | apply And.intro))) | (refine st_store rfl rfl rfl ?_ ?_; · (repeat' (first | exact trivial | rfl | exact Nat.le_of_ble_eq_true rfl | omega | (intro e he; simp at he; subst he; rfl) | decide | apply And.intro))) | (refine st_lit rfl rfl rfl rfl ?_ ?_; · (repeat' (first | exact trivial | rfl | exact Nat.le_of_ble_eq_true rfl | omega | (intro e he; simp at he; subst he; rfl) | decide | apply And.intro))) | refine st_skip rfl rfl rfl ?_ | refine st_skip0 rfl rfl ?_ | (refine st_if rfl (fun hb => ?_) (fun hb => ?_) <;> (first | exact no_ hb | rw [hb])) | refine aw_seq ?_ | refine aw_region tabG_ok _ rfl ?_ | refine aw_drawn2 tabS_ok _ rfl mixed (by decide +kernel) ?_ | (refine aw_cond rfl (fun hb => ?_) (fun hb => ?_) <;> (try exact no_ hb)) | refine aw_block ?_ | refine aw_exit ?_ | refine aw_ret ?_ | refine aw_skip ?_)
      exact ⟨1, by omega, by omega, fits_mk ⟨rfl, rfl, rfl, rfl, rfl, rfl, rfl, rfl, trivial⟩ [_] rfl ⟨trivial, trivial, by show 0 < 6; omega, by show 1 < 6; omega, by show 5 < 6; omega, trivial, trivial, trivial, trivial⟩ ⟨box2_below, boxe_below _, mapI_below _ _, garb_below _, trivial, trivial, trivial⟩⟩
  · repeat' (first | refine st_nil ?_ | (refine st_pop rfl rfl rfl rfl ?_ ?_; · exact ok_) | (refine st_lop rfl rfl rfl rfl ?_ ?_; · exact ok_) | (refine st_store rfl rfl rfl ?_ ?_; · exact ok_) | (refine st_lit rfl rfl rfl rfl ?_ ?_; · exact ok_) | refine st_skip rfl rfl rfl ?_ | refine st_skip0 rfl rfl ?_ | refine st_call rfl rfl rfl rfl hgr rfl ?_ | refine st_call rfl rfl rfl rfl hbag rfl ?_ | (refine st_if rfl (fun hb => ?_) (fun hb => ?_) <;> (first | exact no_ hb | rw [hb])) | refine aw_seq ?_ | refine aw_region tabG_ok _ rfl ?_ | refine aw_drawn2 tabS_ok _ rfl mixed (by decide +kernel) ?_ | (refine aw_cond rfl (fun hb => ?_) (fun hb => ?_) <;> (try exact no_ hb)) | refine aw_block ?_ | refine aw_exit ?_ | refine aw_ret ?_ | refine aw_skip ?_)
    exact end_ret (res_of rfl ⟨Nat.le_refl 2, trivial⟩ rfl)
end Go.Proofs.YtfpbmfalamappaaGreatDoor
