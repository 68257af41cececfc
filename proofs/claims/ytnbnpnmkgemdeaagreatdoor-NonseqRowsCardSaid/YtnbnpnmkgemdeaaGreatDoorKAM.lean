/- Parts of the proof, joined. No condition. -/
import Derived.Shelf.LaysM
import Derived.Shelf.Strconv.Itoa3
import Derived.Ground.NamesProg
import Derived.Test.YtnbnpnmkgemdeaaGreatDoorProg
import Derived.Test.YtnbnpnmkgemdeaaGreatDoorKAI
import Derived.Lib.Walk
import Derived.Lib.ItoaMem
import Derived.WalkKit
import Derived.BigCall
import Derived.BigGuard
import Derived.Lib.AppendIntMem
import Derived.Test.YtnbnpnmkgemdeaaGreatDoorKAL
set_option linter.unusedSimpArgs false
set_option linter.unusedVariables false
namespace Go.Proofs
open Go.Shelf
def Tryz.laysM171_ren : Go.Shelf.Ren := ⟨fun | 171 => 185 | 243 => 229 | 246 => 275 | 283 => 295 | 284 => 296 | 285 => 297 | 286 => 298 | 129 => 198 | 317 => 307 | 318 => 308 | 319 => 309 | 320 => 310 | 337 => 313 | 338 => 314 | n => n, fun | 3 => 3 | 9 => 9 | 2 => 2 | 4 => 4 | 171 => 290 | 0 => 0 | 53 => 238 | 37 => 217 | 5 => 5 | 173 => 292 | 212 => 299 | 51 => 236 | 20 => 20 | 213 => 300 | 46 => 176 | 232 => 302 | 233 => 303 | n => n, fun | 17 => 1 | 18 => 2 | 19 => 3 | n => n⟩
theorem Tryz.laysM171 : Go.Proofs.LaysM.n171 Tryz.prog Tryz.laysM171_ren := {
  mixed := by kernel_rfl
  f129 := Tryz.func198.trans (congrArg some (by kernel_rfl))
  f171 := Tryz.func185.trans (congrArg some (by kernel_rfl))
  f243 := Tryz.func229.trans (congrArg some (by kernel_rfl))
  f246 := Tryz.func275.trans (congrArg some (by kernel_rfl))
  f283 := Tryz.func295.trans (congrArg some (by kernel_rfl))
  f284 := Tryz.func296.trans (congrArg some (by kernel_rfl))
  f285 := Tryz.func297.trans (congrArg some (by kernel_rfl))
  f286 := Tryz.func298.trans (congrArg some (by kernel_rfl))
  f317 := Tryz.func307.trans (congrArg some (by kernel_rfl))
  f318 := Tryz.func308.trans (congrArg some (by kernel_rfl))
  f319 := Tryz.func309.trans (congrArg some (by kernel_rfl))
  f320 := Tryz.func310.trans (congrArg some (by kernel_rfl))
  f337 := Tryz.func313.trans (congrArg some (by kernel_rfl))
  f338 := Tryz.func314.trans (congrArg some (by kernel_rfl))
  t0 := Tryz.underlying0
  a0 := Tryz.isAgg0
  z0 := Tryz.sizeOf0
  v0 := Tryz.zeroValue0
  t2 := Tryz.underlying2
  a2 := Tryz.isAgg2
  z2 := Tryz.sizeOf2
  v2 := Tryz.zeroValue2
  t3 := Tryz.underlying3
  a3 := Tryz.isAgg3
  z3 := Tryz.sizeOf3
  v3 := Tryz.zeroValue3
  t4 := Tryz.underlying4
  a4 := Tryz.isAgg4
  z4 := Tryz.sizeOf4
  v4 := Tryz.zeroValue4
  t5 := Tryz.underlying5
  a5 := Tryz.isAgg5
  z5 := Tryz.sizeOf5
  v5 := Tryz.zeroValue5
  t9 := Tryz.underlying9
  a9 := Tryz.isAgg9
  z9 := Tryz.sizeOf9
  v9 := Tryz.zeroValue9
  t20 := Tryz.underlying20
  a20 := Tryz.isAgg20
  z20 := Tryz.sizeOf20
  v20 := Tryz.zeroValue20
  t37 := Tryz.underlying217
  a37 := Tryz.isAgg217
  z37 := Tryz.sizeOf217
  v37 := Tryz.zeroValue217
  t46 := Tryz.underlying176
  a46 := Tryz.isAgg176
  z46 := Tryz.sizeOf176
  v46 := Tryz.zeroValue176
  t51 := Tryz.underlying236
  a51 := Tryz.isAgg236
  z51 := Tryz.sizeOf236
  v51 := Tryz.zeroValue236
  t53 := Tryz.underlying238
  a53 := Tryz.isAgg238
  z53 := Tryz.sizeOf238
  v53 := Tryz.zeroValue238
  t171 := Tryz.underlying290
  a171 := Tryz.isAgg290
  z171 := Tryz.sizeOf290
  v171 := Tryz.zeroValue290
  t173 := Tryz.underlying292
  a173 := Tryz.isAgg292
  z173 := Tryz.sizeOf292
  v173 := Tryz.zeroValue292
  t212 := Tryz.underlying299
  a212 := Tryz.isAgg299
  z212 := Tryz.sizeOf299
  v212 := Tryz.zeroValue299
  t213 := Tryz.underlying300
  a213 := Tryz.isAgg300
  z213 := Tryz.sizeOf300
  t232 := Tryz.underlying302
  a232 := Tryz.isAgg302
  z232 := Tryz.sizeOf302
  v232 := Tryz.zeroValue302
  t233 := Tryz.underlying303
  a233 := Tryz.isAgg303
  z233 := Tryz.sizeOf303
  v233 := Tryz.zeroValue303
  g17 := by kernel_rfl
  g18 := by kernel_rfl
  g19 := by kernel_rfl
  i0 := by kernel_rfl
  i2 := by kernel_rfl
  i3 := by kernel_rfl
  i4 := by kernel_rfl
  i5 := by kernel_rfl
  i9 := by kernel_rfl
  i20 := by kernel_rfl
  i37 := by kernel_rfl
  i46 := by kernel_rfl
  i51 := by kernel_rfl
  i53 := by kernel_rfl
  i171 := by kernel_rfl
  i173 := by kernel_rfl
  i212 := by kernel_rfl
  i232 := by kernel_rfl
  i233 := by kernel_rfl
  m17 := by kernel_rfl
  m18 := by kernel_rfl
  m19 := by kernel_rfl }
end Go.Proofs
namespace Go.Proofs.YtnbnpnmkgemdeaaGreatDoor
open Go.Shelf Go.RowKit Go.Sort Go.Lib
set_option maxHeartbeats 6400000
set_option maxRecDepth 100000
section
variable {P : Program} {ρ : Ren}
def TabC (g : Nat) (w : World) : Prop := ∀ q, q < 20 → w.cell? ⟨g, q, none⟩ = some (.int .u64 ((10 ^ q : Nat) : Int))
theorem TabC.alloc {g : Nat} {w : World} (h : TabC g w) (o : Obj) : TabC g (w.alloc o) := fun q hq => by
  rw [World.cell?_alloc_old]
  · exact h q hq
  · exact Nat.ne_of_lt (lt_of_cell (h q hq))
abbrev encB (b : UInt8) : Value := Value.int .u8 (b.toNat : Int)
theorem numDigits_c (L : LaysM.n284 P ρ) (u : Nat) (h1 : 1 ≤ u) (h2 : u < 18446744073709551616) (w : World) (hT : TabC (ρ.g 17) w) :
    Calls P (ρ.f 284) #[.int .u64 u] w fun e w' => e = .returned (.int .i64 (Lib.nDigits u)) ∧ w' = w := by
  have mixed := L.mixed
  have t53 := L.t53; have a53 := L.a53; have z53 := L.z53; have v53 := L.v53
  have t3 := L.t3; have a3 := L.a3; have z3 := L.z3; have v3 := L.v3
  have t212 := L.t212; have a212 := L.a212; have z212 := L.z212; have v212 := L.v212
  have t0 := L.t0; have a0 := L.a0; have z0 := L.z0; have v0 := L.v0
  have t4 := L.t4; have a4 := L.a4; have z4 := L.z4; have v4 := L.v4
  have e129 : ∀ args w, (callFunc (ρ.f 129) args).run P w = .ok (.enter (ρ.f 129) args) w := enters_of L.f129 (by kernel_rfl) rfl
  have e317 : ∀ args w, (callFunc (ρ.f 317) args).run P w = .ok (.enter (ρ.f 317) args) w := enters_of L.f317 (by kernel_rfl) rfl
  have e318 : ∀ args w, (callFunc (ρ.f 318) args).run P w = .ok (.enter (ρ.f 318) args) w := enters_of L.f318 (by kernel_rfl) rfl
  obtain ⟨hnd, h19⟩ := Lib.numDigits_eq u h1 h2
  have hL : Lib.bitLen u ≤ 64 := Lib.bitLen_le u 64 (Nat.le_refl _) h2
  have hcell := hT (Lib.l10 (Lib.bitLen u)) (by omega)
  have hto : ((u : Int)).toNat = u := by omega
  generalize hq : Lib.l10 (Lib.bitLen u) = q at hnd h19 hcell
  generalize hT2 : 10 ^ q = T at hnd hcell
  have h20 : q < 20 := by omega
  have Hnd := Lib.hid hnd
  clear hnd hT
  go_enter L.f284, Body.n284_ntmps ρ
  go_wp2_with (first
    | (go_at_fn (ρ.f 129); refine (Any.bits_Len64 { L with } _ _ (by omega) (by omega)).mono ?_; rintro e w' ⟨rfl, rfl⟩)
    | (go_at_fn (ρ.f 317); refine (Any.internal_strconv_log10Pow2 { L with } _ (by first | exact hL | (rw [hto]; exact hL)) _).mono ?_; rintro e w' ⟨rfl, rfl⟩)
    | (go_at_fn (ρ.f 318); refine (Any.internal_strconv_bool2_int { L with } _ _).mono ?_; rintro e w' ⟨rfl, rfl⟩))
  all_goals go_ret
  all_goals (
    refine ⟨?_, rfl⟩
    have hnd := Hnd.out
    congr 2
    split at hnd <;> simp_all <;> omega)
theorem formatInt_c (L : LaysM.n246 P ρ) (n : Int) (h0 : -9223372036854775808 ≤ n) (h1 : n ≤ 9223372036854775807) (w : World) (hT : TabC (ρ.g 17) w) :
    Calls P (ρ.f 246) #[.int .i64 n, .int .i64 10] w fun e w' => e = .returned (.string ⟨(Lib.itoa n).toArray⟩) ∧ ∃ k os, w' = grow (w.drewN k) os := by
  by_cases hs : 0 ≤ n ∧ n < 100
  · obtain ⟨i, rfl⟩ : ∃ i : Nat, n = i := ⟨n.toNat, by omega⟩
    refine (Any.internal_strconv_FormatInt_10_small { L with } i (by omega) w).mono ?_
    rintro e w' ⟨rfl, rfl⟩
    exact ⟨by rw [Lib.itoa_nonneg], 0, #[], by simp [World.drewN_zero]⟩
  have mixed := L.mixed
  have t2 := L.t2; have a2 := L.a2; have z2 := L.z2; have v2 := L.v2
  have t3 := L.t3; have a3 := L.a3; have z3 := L.z3; have v3 := L.v3
  have t9 := L.t9; have a9 := L.a9; have z9 := L.z9; have v9 := L.v9
  have t4 := L.t4; have a4 := L.a4; have z4 := L.z4; have v4 := L.v4
  have t171 := L.t171; have a171 := L.a171; have z171 := L.z171; have v171 := L.v171
  have t0 := L.t0; have a0 := L.a0; have z0 := L.z0; have v0 := L.v0
  have t53 := L.t53; have a53 := L.a53; have z53 := L.z53; have v53 := L.v53
  have t37 := L.t37; have a37 := L.a37; have z37 := L.z37; have v37 := L.v37
  have t5 := L.t5; have a5 := L.a5; have z5 := L.z5; have v5 := L.v5
  have t173 := L.t173; have a173 := L.a173; have z173 := L.z173; have v173 := L.v173
  have e284 : ∀ args w, (callFunc (ρ.f 284) args).run P w = .ok (.enter (ρ.f 284) args) w := enters_of L.f284 (by kernel_rfl) rfl
  have e285 : ∀ args w, (callFunc (ρ.f 285) args).run P w = .ok (.enter (ρ.f 285) args) w := enters_of L.f285 (by kernel_rfl) rfl
  obtain ⟨u, hu⟩ : ∃ u : Nat, u = n.natAbs := ⟨_, rfl⟩
  have hu1 : 1 ≤ u := by omega
  have hu64 : u < 18446744073709551616 := by omega
  have hd20 : Lib.nDigits u ≤ 20 := by have := Lib.numDigits_eq u hu1 hu64; split at this <;> omega
  have hb3 : Lib.nDigits u ≤ 23 := by omega
  have hal : P.arrayLen (ρ.t 171) = 24 := by simp [Program.arrayLen, L.t171]
  have hel : P.underlying (ρ.t 171) = some (.array (P.arrayLen (ρ.t 171)) (P.elem (ρ.t 171))) := by simp [Program.arrayLen, Program.elem, L.t171]
  have hsl1 : ∀ W, (Instr.sliceAt (ρ.t 171) (.pointer (some ⟨w.heap.size, 0, none⟩)) (some (.int .i64 1)) (some (.int .i64 (1 + (Lib.nDigits u : Int)))) none).run P W = .ok (.slice (some ⟨w.heap.size, 1, none⟩) (Lib.nDigits u) 23) W := fun W => by
    rw [run_sliceAt_array_lh W (ρ.t 171) ⟨w.heap.size, 0, none⟩ hel .i64 .i64 1 (1 + (Lib.nDigits u : Int)) (by omega) (by omega) (by rw [hal]; omega)]
    go_simp
    omega
  have hsl2 : ∀ W, (Instr.sliceAt (ρ.t 171) (.pointer (some ⟨w.heap.size, 0, none⟩)) none (some (.int .i64 (1 + (Lib.nDigits u : Int)))) none).run P W = .ok (.slice (some ⟨w.heap.size, 0, none⟩) (1 + Lib.nDigits u) 24) W := fun W => by
    rw [run_sliceAt_array_h W (ρ.t 171) ⟨w.heap.size, 0, none⟩ hel .i64 (1 + (Lib.nDigits u : Int)) (by omega) (by rw [hal]; omega)]
    go_simp
    omega
  have hH0 := Lib.holds_zero w (ρ.t 171) (Lib.nDigits u) (by omega)
  have hfmt := Any.internal_strconv_formatBase10 { L with } w.heap.size 1 23 u (Array.replicate (Lib.nDigits u) 0) (w.alloc (.cells Lib.zeros24 (ρ.t 171))) hH0 (by rw [Array.size_replicate]; exact Lib.lt_pow_nDigits u) hu64 (by rw [Array.size_replicate]; omega)
  rw [Array.size_replicate] at hfmt
  have HH0 := Lib.hid hH0
  have hT1 := hT.alloc (.cells Lib.zeros24 (ρ.t 171))
  have hdig := numDigits_c (ρ := ρ) { L with } u hu1 hu64 _ hT1
  clear hH0 hT hT1 hal hel
  by_cases hn : n < 0
  · have hw : IntKind.u64.wrap (-IntKind.u64.wrap (-(u : Int))) = (u : Int) := by rw [IntKind.wrap_u64, IntKind.wrap_u64]; omega
    obtain rfl : n = -(u : Int) := by omega
    clear hs hu
    go_enter L.f246, Body.n246_ntmps ρ
    go_wp2_with (go_at_fn (ρ.f 284); refine hdig.mono ?_; rintro e w' ⟨rfl, rfl⟩)
    go_at_fn (ρ.f 285)
    refine hfmt.mono ?_
    rintro e w' ⟨rfl, k, v', dk, rfl, hF⟩
    have hc0 : ((putRow encB (w.alloc (.cells Lib.zeros24 (ρ.t 171))) w.heap.size 1 dk).drewN k).cell? ⟨w.heap.size, 0, none⟩ = some (.int .u8 0) := by
      rw [World.cell?_drewN, cell?_putRow_other _ _ _ _ _ _ (Or.inr (Or.inl (Nat.zero_lt_one))), World.cell?_alloc_new]
      exact Lib.zeros24_at 0 (by omega)
    have hf0 : ((putRow encB (w.alloc (.cells Lib.zeros24 (ρ.t 171))) w.heap.size 1 dk).drewN k).frozen? ⟨w.heap.size, 0, none⟩ = false := by
      rw [World.frozen?_drewN, frozen?_putRow]
      exact World.frozen?_alloc_new _ _ _ _
    have hcv : (convert (ρ.t 37) (ρ.t 9) (.slice (some ⟨w.heap.size, 0, none⟩) (1 + Lib.nDigits u) 24)).run P (((putRow encB (w.alloc (.cells Lib.zeros24 (ρ.t 171))) w.heap.size 1 dk).drewN k).setCell ⟨w.heap.size, 0, none⟩ (.int .u8 45)) = .ok (.string ⟨(45 :: Lib.decDigits u).toArray⟩) (((putRow encB (w.alloc (.cells Lib.zeros24 (ρ.t 171))) w.heap.size 1 dk).drewN k).setCell ⟨w.heap.size, 0, none⟩ (.int .u8 45)) := by
      have h := run_convert_bytes_back (P := P) (((putRow encB (w.alloc (.cells Lib.zeros24 (ρ.t 171))) w.heap.size 1 dk).drewN k).setCell ⟨w.heap.size, 0, none⟩ (.int .u8 45)) (ρ.t 37) (ρ.t 9) (ρ.t 5) ⟨w.heap.size, 0, none⟩ 24 (45 :: Lib.decDigits u) L.t37 L.t5 L.t9 (fun j hj => by
        rw [Lib.add_plain]
        cases j with
        | zero => exact World.cell?_setCell_same _ _ _ hc0
        | succ i =>
          have hi : i < (Lib.decDigits u).length := by simpa using hj
          rw [World.cell?_setCell_other _ _ _ _ (by simp), List.getElem_cons_succ, Lib.row_is_numeral hF i hi, World.cell?_drewN, show 0 + (i + 1) = 1 + i by omega]
          exact cell?_putRow encB _ w.heap.size 1 _ dk HH0.out (by rw [hF.size, Array.size_replicate]) i (by rw [hF.size]; rw [Lib.decDigits_length] at hi; exact hi))
      rw [List.length_cons, Lib.decDigits_length, Nat.add_comm] at h
      exact h
    go_wp2
    go_ret
    obtain ⟨os, eo⟩ := Lib.fin_neg w (.cells Lib.zeros24 (ρ.t 171)) dk k (.int .u8 45)
    exact ⟨by rw [Lib.itoa_neg u hu1]; rfl, k, os, eo⟩
  · obtain rfl : n = (u : Int) := by omega
    clear hu hsl2
    go_enter L.f246, Body.n246_ntmps ρ
    go_wp2_with (go_at_fn (ρ.f 284); refine hdig.mono ?_; rintro e w' ⟨rfl, rfl⟩)
    go_at_fn (ρ.f 285)
    refine hfmt.mono ?_
    rintro e w' ⟨rfl, k, v', dk, rfl, hF⟩
    have hcv : (convert (ρ.t 37) (ρ.t 9) (.slice (some ⟨w.heap.size, 1, none⟩) (Lib.nDigits u) 23)).run P ((putRow encB (w.alloc (.cells Lib.zeros24 (ρ.t 171))) w.heap.size 1 dk).drewN k) = .ok (.string ⟨(Lib.decDigits u).toArray⟩) ((putRow encB (w.alloc (.cells Lib.zeros24 (ρ.t 171))) w.heap.size 1 dk).drewN k) := by
      have h := run_convert_bytes_back (P := P) ((putRow encB (w.alloc (.cells Lib.zeros24 (ρ.t 171))) w.heap.size 1 dk).drewN k) (ρ.t 37) (ρ.t 9) (ρ.t 5) ⟨w.heap.size, 1, none⟩ 23 (Lib.decDigits u) L.t37 L.t5 L.t9 (fun j hj => by
        rw [Lib.row_is_numeral hF j hj, Lib.add_plain, World.cell?_drewN]
        exact cell?_putRow encB _ w.heap.size 1 _ dk HH0.out (by rw [hF.size, Array.size_replicate]) j (by rw [hF.size]; rw [Lib.decDigits_length] at hj; exact hj))
      rw [Lib.decDigits_length] at h
      exact h
    go_wp2
    go_ret
    obtain ⟨os, eo⟩ := Lib.fin_pos w (.cells Lib.zeros24 (ρ.t 171)) dk k
    exact ⟨by rw [Lib.itoa_nonneg]; rfl, k, os, eo⟩
theorem itoa1_c (L : LaysM.n243 P ρ) (n : Int) (h0 : -9223372036854775808 ≤ n) (h1 : n ≤ 9223372036854775807) (w : World) (hT : TabC (ρ.g 17) w) :
    Calls P (ρ.f 243) #[.int .i64 n] w fun e w' => e = .returned (.string ⟨(Lib.itoa n).toArray⟩) ∧ ∃ k os, w' = grow (w.drewN k) os := by
  have mixed := L.mixed
  have t3 := L.t3; have a3 := L.a3; have z3 := L.z3; have v3 := L.v3
  have t9 := L.t9; have a9 := L.a9; have z9 := L.z9; have v9 := L.v9
  have e246 : ∀ args w, (callFunc (ρ.f 246) args).run P w = .ok (.enter (ρ.f 246) args) w := enters_of L.f246 (by kernel_rfl) rfl
  have hf := formatInt_c (ρ := ρ) { L with } n h0 h1 w hT
  go_enter L.f243, Body.n243_ntmps ρ
  go_wp2_with (go_at_fn (ρ.f 246); refine hf.mono ?_; rintro e w' ⟨rfl, k, os, rfl⟩)
  go_ret
  exact ⟨rfl, k, os, rfl⟩
theorem itoa_c (L : LaysM.n171 P ρ) (n : Int) (h0 : -9223372036854775808 ≤ n) (h1 : n ≤ 9223372036854775807) (w : World) (hT : TabC (ρ.g 17) w) :
    Calls P (ρ.f 171) #[.int .i64 n] w fun e w' => e = .returned (.string ⟨(Lib.itoa n).toArray⟩) ∧ ∃ k os, w' = grow (w.drewN k) os := by
  have mixed := L.mixed
  have t3 := L.t3; have a3 := L.a3; have z3 := L.z3; have v3 := L.v3
  have t9 := L.t9; have a9 := L.a9; have z9 := L.z9; have v9 := L.v9
  have e243 : ∀ args w, (callFunc (ρ.f 243) args).run P w = .ok (.enter (ρ.f 243) args) w := enters_of L.f243 (by kernel_rfl) rfl
  have hf := itoa1_c (ρ := ρ) { L with } n h0 h1 w hT
  go_enter L.f171, Body.n171_ntmps ρ
  go_wp2_with (go_at_fn (ρ.f 243); refine hf.mono ?_; rintro e w' ⟨rfl, k, os, rfl⟩)
  go_ret
  exact ⟨rfl, k, os, rfl⟩
end
def itoaB (n : Int) : ByteArray := ⟨(Lib.itoa n).toArray⟩
theorem ext_grow (R : PH) (w : World) (k : Nat) (os : Array Obj) : Ext (· < w.heap.size) R R w (grow (w.drewN k) os) := by
  exact ⟨Kept.of (Lib.below_grow _ w (Nat.le_refl _) k os), PH.sub_refl _, fun _ _ _ => rfl⟩
theorem itoa_pure (n : Int) (h0 : -9223372036854775808 ≤ n) (h1 : n ≤ 9223372036854775807) : Pure Tryz.prog 185 [.one (.int .i64 n)] (.val (.one (.str (itoaB n)))) := by
  refine ⟨⟨_, Tryz.func185, by kernel_rfl, by kernel_rfl⟩, fun R w vs hR hs hv => ?_⟩
  obtain ⟨v, rfl⟩ : ∃ v, vs = #[v] := by
    match vs, hs with
    | ⟨[v]⟩, _ => exact ⟨v, rfl⟩
  have := hv 0 v _ rfl rfl
  cases this
  have hT : TabC (Tryz.laysM171_ren.g 17) w := fun q hq => hR _ _ _ (R.tab q _ (by unfold tabCell; rw [if_pos hq]; norm_cast))
  refine (show Calls Tryz.prog 185 #[.int .i64 n] w _ from itoa_c Tryz.laysM171 n h0 h1 w hT).mono ?_
  rintro e w' ⟨rfl, k, os, rfl⟩
  refine ⟨_, R, rfl, ext_grow R w k os, fun b o u h => ?_, .str _⟩
  have h1 := hR b o u h
  rw [← h1]; unfold World.cell?
  rw [show (grow (w.drewN k) os).heap[b]? = w.heap[b]? from (ext_grow R w k os).below.block b (lt_of_cell h1)]
end Go.Proofs.YtnbnpnmkgemdeaaGreatDoor
namespace Go.Proofs.YtnbnpnmkgemdeaaGreatDoor
open Go.RowKit Go.MapKept
set_option maxRecDepth 100000
def tabK : TI := { tabX with dyn := false }
theorem tabK_ok : TIok Tryz.prog tabK := ⟨tabX_ok.size, tabX_ok.agg, tabX_ok.elem, tabX_ok.field, tabX_ok.zero, tabX_ok.bytes, tabX_ok.kind, tabX_ok.struct, tabX_ok.zok, tabX_ok.eqs⟩
def tabKS : TI := { tabK with soft := true }
theorem tabKS_ok : TIok Tryz.prog tabKS := ⟨tabX_ok.size, tabX_ok.agg, tabX_ok.elem, tabX_ok.field, tabX_ok.zero, tabX_ok.bytes, tabX_ok.kind, tabX_ok.struct, tabX_ok.zok, tabX_ok.eqs⟩
def c32 : ByteArray := ⟨#[32]⟩
def keyNs (v : Val) : List Int := [v.kind, v.int, v.text.size]
def numS (a : ByteArray) (l : List Int) : ByteArray := l.foldl (fun a n => a ++ itoaB n ++ c32) a
def keyC (l : List Val) : ByteArray := l.foldl (fun a v => numS a (keyNs v) ++ v.text) ⟨#[]⟩
theorem keyC_snoc (l : List Val) (v : Val) : keyC (l ++ [v]) = numS (keyC l) (keyNs v) ++ v.text := by unfold keyC; rw [List.foldl_append]; rfl
theorem numS_snoc (a : ByteArray) (l : List Int) (n : Int) : numS a (l ++ [n]) = numS a l ++ itoaB n ++ c32 := by unfold numS; rw [List.foldl_append]; rfl
def VOK (v : Val) : Prop := (-9223372036854775808 ≤ v.kind ∧ v.kind ≤ 9223372036854775807) ∧ (-9223372036854775808 ≤ v.int ∧ v.int ≤ 9223372036854775807) ∧ v.text.size ≤ 10000000000
theorem itoaB_size (n : Int) (h0 : -9223372036854775808 ≤ n) (h1 : n ≤ 9223372036854775807) : (itoaB n).size ≤ 30 ∧ 0 < (itoaB n).size := by
  unfold itoaB
  show (Lib.itoa n).toArray.size ≤ 30 ∧ 0 < (Lib.itoa n).toArray.size
  rw [List.size_toArray]
  have key : ∀ u : Nat, u < 18446744073709551616 → Lib.nDigits u ≤ 20 := by
    intro u h
    rcases Nat.eq_zero_or_pos u with rfl | h1
    · rw [Lib.nDigits_small (by omega)]; omega
    · have := Lib.numDigits_eq u h1 h; split at this <;> omega
  by_cases hn : n < 0
  · obtain ⟨u, rfl⟩ : ∃ u : Nat, n = -(u : Int) := ⟨n.natAbs, by omega⟩
    rw [Lib.itoa_neg u (by omega), List.length_cons, Lib.decDigits_length]
    have := key u (by omega); omega
  · obtain ⟨u, rfl⟩ : ∃ u : Nat, n = (u : Int) := ⟨n.toNat, by omega⟩
    rw [Lib.itoa_nonneg, Lib.decDigits_length]
    have := key u (by omega); have := Lib.nDigits_pos u; omega
theorem numS_size : ∀ (l : List Int) (a : ByteArray), (∀ n ∈ l, -9223372036854775808 ≤ n ∧ n ≤ 9223372036854775807) → (numS a l).size ≤ a.size + 31 * l.length
  | [], a, _ => by simp [numS]
  | n :: l, a, h => by
    have h1 := numS_size l (a ++ itoaB n ++ c32) fun x hx => h x (List.mem_cons_of_mem _ hx)
    have h2 := (itoaB_size n (h n (by simp)).1 (h n (by simp)).2).1
    have hc : c32.size = 1 := rfl
    have e : numS a (n :: l) = numS (a ++ itoaB n ++ c32) l := rfl
    rw [e]
    simp only [ByteArray.size_append, hc] at h1
    rw [List.length_cons]; omega
theorem keyC_size (l : List Val) (h : ∀ v ∈ l, VOK v) : (keyC l).size ≤ l.length * 10000000100 := by
  have key : ∀ (l : List Val) (a : ByteArray), (∀ v ∈ l, VOK v) → (l.foldl (fun a v => numS a (keyNs v) ++ v.text) a).size ≤ a.size + l.length * 10000000100 := by
    intro l
    induction l with
    | nil => intro a _; simp
    | cons v l ih =>
      intro a h
      obtain ⟨h1, h2, h3⟩ := h v (by simp)
      rw [List.foldl_cons]
      have q1 := ih (numS a (keyNs v) ++ v.text) fun x hx => h x (List.mem_cons_of_mem _ hx)
      have q2 := numS_size (keyNs v) a (by
        intro n hn
        simp only [keyNs, List.mem_cons, List.not_mem_nil, or_false] at hn
        rcases hn with rfl | rfl | rfl
        · exact h1
        · exact h2
        · omega)
      have e3 : (keyNs v).length = 3 := rfl
      simp only [ByteArray.size_append] at q1
      rw [List.length_cons]
      omega
  have := key l ⟨#[]⟩ h
  have e : (⟨#[]⟩ : ByteArray).size = 0 := rfl
  rw [e, Nat.zero_add] at this
  exact this
def pB (fresh : Bool) : SV := if fresh then .c (.nul .ptr) else (.ep 0 (219 + 65536) 0 0)
theorem pB_ren (b : Bool) : (pB b).ren [0, 1] = pB b := by cases b <;> rfl
theorem pB_below (b : Bool) {n : Nat} (h : 0 < n) : (pB b).below n := by cases b <;> first | exact h | exact True.intro
theorem writeStringB (b : Bool) (u : Nat) (s t : ByteArray) (hu : u % 65536 = 5) (hs : s.size ≤ 100000000000000) (ht : t.size ≤ 1000000000000) : Run Tryz.prog 184 [bldB (pB b) u s 0, bldR u s] [.one (.ep 0 (219 + 65536) 0 0), .one (.c (.str t))] [bldB (.ep 0 (219 + 65536) 0 0) (u + 65536) (s ++ t) 0, bldR (u + 65536) (s ++ t)] (.tup [.one (.int .i64 t.size), .one (.nul .iface)]) := by
  cases b
  · exact writeString1 u s t hu hs ht
  · exact writeString0 u s t hu hs ht
theorem rf2 {L : List Ob} {p : SV} {u : Nat} {s : ByteArray} {x : AV} {xs : List AV} (hL0 : L[0]? = some (bldB p u s 0)) (hL1 : L[1]? = some (bldR u s)) (hp : p.ren [0, 1] = p) (hpb : p.below 2) (hx : ∀ y ∈ x :: xs, y.below 2) : RunFits [0, 1] [bldB p u s 0, bldR u s] (x :: xs) L := by
  refine runfits2 ?_ (by rw [bldR_ren]; exact hL1) (by decide) (bld_below hpb (by show 1 < 2; omega)) (byteRow_below _ _ _) hx
  rw [hL0]
  show some (Ob.row _ [[p, SV.sl 1 u 0 s.size]] 2) = some (Ob.row _ [[p.ren [0, 1], SV.sl 1 u 0 s.size]] 2)
  rw [hp]
theorem j2 {L L' : List Ob} {u : Nat} {s : ByteArray} (h : (L.set 0 (bldB (.ep 0 (219 + 65536) 0 0) u s 0)).set 1 (bldR u s) = L') : joinL [0, 1] L [bldB (.ep 0 (219 + 65536) 0 0) u s 0, bldR u s] = L' := join2 rfl (bldR_ren _ _ _) h
def keyOb (l : List Val) (i : Nat) : List Ob := [bldB (pB (decide (i = 0))) (5 + 458752 * i) (keyC (l.take i)) 0, bldR (5 + 458752 * i) (keyC (l.take i))]
def keyOc (u : Nat) (a : ByteArray) (f : Bool) (ns : List Int) (bx : Ob) (j : Nat) : List Ob := [bldB (pB (f && decide (j = 0))) (u + 131072 * j) (numS a (ns.take j)) 0, bldR (u + 131072 * j) (numS a (ns.take j)), bx]
set_option maxHeartbeats 4000000 in
theorem keyC_pure (l : List Val) (hl : l.length ≤ 1000) (h : ∀ v ∈ l, VOK v) : Pure Tryz.prog 139 [.one (tRow l)] (.val (.one (.str (keyC l)))) := by
  refine pure_of_aw tabK_ok Tryz.func139 rfl rfl Tryz.ntmps139 (by simp) ?_
  simp only [argT, PV.av, List.map_cons, List.map_nil]
  obtain ⟨inf, hinf, hiz⟩ : ∃ inf, Tryz.prog.info? 219 = some inf ∧ inf.zero = some (.agg #[.pointer none, .slice none 0 0]) := by
    have hh : (Tryz.prog.info? 219).bind (·.zero) = some (.agg #[.pointer none, .slice none 0 0]) := by kernel_rfl
    cases hi : Tryz.prog.info? 219 with
    | none => rw [hi] at hh; cases hh
    | some j => rw [hi] at hh; exact ⟨j, rfl, by simpa using hh⟩
  have hc : c32.size = 1 := rfl
  have he0 : (⟨#[]⟩ : ByteArray).size = 0 := rfl
  obtain ⟨n, hn⟩ : ∃ n, l.length = n := ⟨_, rfl⟩
  repeat' (first
    | refine st_nil ?_
    | (refine st_sop rfl rfl rfl rfl rfl (sop_allocBuilder (Eb := 5) (k := 1) hinf hiz (by decide) (by decide) (by decide)) ?_)
    | (refine st_pop rfl rfl rfl rfl ?_ ?_; · (repeat' (first | exact trivial | rfl | exact Nat.le_of_ble_eq_true rfl | omega | refine List.forall_mem_cons.2 ⟨?_, ?_⟩ | exact fun _ h => nomatch h | apply And.intro)))
    | (refine st_lop rfl rfl rfl rfl ?_ ?_; · (repeat' (first | exact trivial | rfl | exact Nat.le_of_ble_eq_true rfl | omega | refine List.forall_mem_cons.2 ⟨?_, ?_⟩ | exact fun _ h => nomatch h | apply And.intro)))
    | (refine st_store rfl rfl rfl ?_ ?_; · (repeat' (first | exact trivial | rfl | exact Nat.le_of_ble_eq_true rfl | omega | refine List.forall_mem_cons.2 ⟨?_, ?_⟩ | exact fun _ h => nomatch h | apply And.intro)))
    | (refine st_lit rfl rfl rfl rfl ?_ ?_; · (repeat' (first | exact trivial | rfl | exact Nat.le_of_ble_eq_true rfl | omega | refine List.forall_mem_cons.2 ⟨?_, ?_⟩ | exact fun _ h => nomatch h | apply And.intro)))
    | refine st_skip rfl rfl rfl ?_
    | refine st_skip0 rfl rfl ?_
    | (refine st_if rfl (fun hb => ?_) (fun hb => ?_) <;> (first | (exfalso; revert hb; decide) | (exfalso; simp at hb; done) | (exfalso; simp at hb; omega) | rw [hb]))
    | refine aw_seq ?_
    | refine aw_region tabK_ok _ rfl ?_
    | refine aw_drawn2 tabKS_ok _ rfl mixed (by decide +kernel) ?_
    | (refine aw_cond rfl (fun hb => ?_) (fun hb => ?_) <;> (try (first | (exfalso; revert hb; decide) | (exfalso; simp at hb; done) | (exfalso; simp at hb; omega))))
    | refine aw_block ?_
    | refine aw_exit ?_
    | refine aw_ret ?_
    | refine aw_skip ?_)
  refine aw_loop (fun i : Nat => [(0, .one (.c (tRow l))), (3, .one (.ep 0 (219 + 65536) 0 0)), (8, .one (.c (tRow l))), (9, .one (.c (.int .i64 n))), (10, .one (.c (.int .i64 i)))]) (fun i => keyOb l i) (fun i => i ≤ n) (fun i => n - i) 0 (by omega) (fun _ _ => Nat.zero_le _)
    (fits_mk ⟨rfl, rfl, rfl, slot_int (by simp [hn]), rfl, trivial⟩ [] rfl ⟨trivial, (by show 0 < 2; omega), trivial, trivial, trivial, trivial⟩ ⟨bld_below (pB_below _ (by show 0 < 2; omega)) (by show 1 < 2; omega), byteRow_below _ _ _, trivial⟩) ?_
  intro i hi
  have hsz := keyC_size (l.take i) fun v hv => h v (List.mem_of_mem_take hv)
  rw [List.length_take] at hsz
  by_cases hlt2 : i < n
  · obtain ⟨v, hv⟩ := get_of_lt (show i < l.length by omega)
    obtain ⟨k1, k2, k3⟩ := h v (List.mem_of_getElem? hv)
    have hsn := keyC_snoc (l.take i) v
    rw [← take_succ hv] at hsn
    have hu : (5 + 458752 * i) % 65536 = 5 := by omega
    have e0 : keyOb l i = [bldB (pB (decide (i = 0))) (5 + 458752 * i) (keyC (l.take i)) 0, bldR (5 + 458752 * i) (keyC (l.take i))] := rfl
    rw [e0]
    generalize keyC (l.take i) = a0 at hsz hsn
    obtain ⟨kd, nn, tx⟩ := v
    simp only at k1 k2 k3
    repeat' (first
      | refine st_nil ?_
      | (refine st_pop rfl rfl rfl rfl ?_ ?_; · (repeat' (first | exact trivial | rfl | exact Nat.le_of_ble_eq_true rfl | omega | refine List.forall_mem_cons.2 ⟨?_, ?_⟩ | exact fun _ h => nomatch h | apply And.intro)))
      | (refine st_idx rfl rfl rfl rfl rfl rfl rfl rfl (idx_map hv) ?_ ?_; · exact ⟨by omega, rfl⟩)
      | (refine st_lop rfl rfl rfl rfl ?_ ?_; · (repeat' (first | exact trivial | rfl | exact Nat.le_of_ble_eq_true rfl | omega | refine List.forall_mem_cons.2 ⟨?_, ?_⟩ | exact fun _ h => nomatch h | apply And.intro)))
      | (refine st_store rfl rfl rfl ?_ ?_; · (repeat' (first | exact trivial | rfl | exact Nat.le_of_ble_eq_true rfl | omega | refine List.forall_mem_cons.2 ⟨?_, ?_⟩ | exact fun _ h => nomatch h | apply And.intro)))
      | (refine st_lit rfl rfl rfl rfl ?_ ?_; · (repeat' (first | exact trivial | rfl | exact Nat.le_of_ble_eq_true rfl | omega | refine List.forall_mem_cons.2 ⟨?_, ?_⟩ | exact fun _ h => nomatch h | apply And.intro)))
      | refine st_skip rfl rfl rfl ?_
      | refine st_skip0 rfl rfl ?_
      | (refine st_if rfl (fun hb => ?_) (fun hb => ?_) <;> (first | (exfalso; revert hb; decide) | (exfalso; simp at hb; done) | (exfalso; simp at hb; omega) | rw [hb]))
      | refine aw_seq ?_
      | refine aw_region tabK_ok _ rfl ?_
      | refine aw_drawn2 tabKS_ok _ rfl mixed (by decide +kernel) ?_
      | (refine aw_cond rfl (fun hb => ?_) (fun hb => ?_) <;> (try (first | (exfalso; revert hb; decide) | (exfalso; simp at hb; done) | (exfalso; simp at hb; omega))))
      | refine aw_block ?_
      | refine aw_exit ?_
      | refine aw_ret ?_
      | refine aw_skip ?_)
    refine aw_loop (fun j : Nat => [(0, .one (.c (tRow l))), (3, .one (.ep 0 (219 + 65536) 0 0)), (5, .one (.ptr 2 0)), (8, .one (.c (tRow l))), (9, .one (.c (.int .i64 n))), (10, .one (.c (.int .i64 i))), (21, .one (.c (.lst ([kd, nn, (tx.size : Int)].map fun x => [AC.int .i64 x])))), (22, .one (.c (.int .i64 3))), (23, .one (.c (.int .i64 j)))]) (fun j => keyOc (5 + 458752 * i) a0 (decide (i = 0)) [kd, nn, tx.size] (.box [.c (.int .i64 kd), .c (.int .i64 nn), .c (.str tx)]) j) (fun j => j ≤ 3) (fun j => 3 - j) 0 (by omega) (fun _ _ => Nat.zero_le _)
      (fits_mk ⟨rfl, rfl, rfl, rfl, rfl, rfl, rfl, rfl, rfl, trivial⟩ [] ?_ ⟨trivial, (by show 0 < 3; omega), (by show 2 < 3; omega), trivial, trivial, trivial, trivial, trivial, trivial, trivial⟩ ⟨bld_below (pB_below _ (by show 0 < 3; omega)) (by show 1 < 3; omega), byteRow_below _ _ _, ob_below (by rfl), trivial⟩) ?_
    · simp only [keyOc, Nat.mul_zero, Nat.add_zero, List.take_zero, decide_true, Bool.and_true]; rfl
    intro j hj
    by_cases hj3 : j < 3
    · obtain ⟨x, hx⟩ := get_of_lt (show j < [kd, nn, (tx.size : Int)].length by exact hj3)
      have hxr : -9223372036854775808 ≤ x ∧ x ≤ 9223372036854775807 := by
        have := List.mem_of_getElem? hx
        simp only [List.mem_cons, List.not_mem_nil, or_false] at this
        rcases this with rfl | rfl | rfl
        · exact k1
        · exact k2
        · omega
      have hit := itoa_pure x hxr.1 hxr.2
      repeat' (first
        | refine st_nil ?_
        | (refine st_pop rfl rfl rfl rfl ?_ ?_; · (repeat' (first | exact trivial | rfl | exact Nat.le_of_ble_eq_true rfl | omega | refine List.forall_mem_cons.2 ⟨?_, ?_⟩ | exact fun _ h => nomatch h | apply And.intro)))
        | (refine st_idx rfl rfl rfl rfl rfl rfl rfl rfl (idx_map hx) ?_ ?_; · exact ⟨by omega, rfl⟩)
        | (refine st_lop rfl rfl rfl rfl ?_ ?_; · (repeat' (first | exact trivial | rfl | exact Nat.le_of_ble_eq_true rfl | omega | refine List.forall_mem_cons.2 ⟨?_, ?_⟩ | exact fun _ h => nomatch h | apply And.intro)))
        | (refine st_store rfl rfl rfl ?_ ?_; · (repeat' (first | exact trivial | rfl | exact Nat.le_of_ble_eq_true rfl | omega | refine List.forall_mem_cons.2 ⟨?_, ?_⟩ | exact fun _ h => nomatch h | apply And.intro)))
        | (refine st_lit rfl rfl rfl rfl ?_ ?_; · (repeat' (first | exact trivial | rfl | exact Nat.le_of_ble_eq_true rfl | omega | refine List.forall_mem_cons.2 ⟨?_, ?_⟩ | exact fun _ h => nomatch h | apply And.intro)))
        | refine st_skip rfl rfl rfl ?_
        | refine st_skip0 rfl rfl ?_
        | refine st_call rfl rfl rfl rfl hit rfl ?_
        | (refine st_if rfl (fun hb => ?_) (fun hb => ?_) <;> (first | (exfalso; revert hb; decide) | (exfalso; simp at hb; done) | (exfalso; simp at hb; omega) | rw [hb]))
        | refine aw_seq ?_
        | refine aw_region tabK_ok _ rfl ?_
        | refine aw_drawn2 tabKS_ok _ rfl mixed (by decide +kernel) ?_
        | (refine aw_cond rfl (fun hb => ?_) (fun hb => ?_) <;> (try (first | (exfalso; revert hb; decide) | (exfalso; simp at hb; done) | (exfalso; simp at hb; omega))))
        | refine aw_block ?_
        | refine aw_exit ?_
        | refine aw_ret ?_
        | refine aw_skip ?_)
      have hitz := itoaB_size x hxr.1 hxr.2
      have hns := numS_size ([kd, nn, (tx.size : Int)].take j) a0 (by
        intro y hy
        have := List.mem_of_mem_take hy
        simp only [List.mem_cons, List.not_mem_nil, or_false] at this
        rcases this with rfl | rfl | rfl
        · exact k1
        · exact k2
        · omega)
      have hl3 : ([kd, nn, (tx.size : Int)].take j).length ≤ 3 := by rw [List.length_take]; exact Nat.le_trans (Nat.min_le_right _ _) (Nat.le_refl _)
      have hsj := numS_snoc a0 ([kd, nn, (tx.size : Int)].take j) x
      rw [← take_succ hx] at hsj
      have hu2 : (5 + 458752 * i + 131072 * j) % 65536 = 5 := by omega
      have eC : keyOc (5 + 458752 * i) a0 (decide (i = 0)) [kd, nn, (tx.size : Int)] (.box [.c (.int .i64 kd), .c (.int .i64 nn), .c (.str tx)]) j = [bldB (pB (decide (i = 0) && decide (j = 0))) (5 + 458752 * i + 131072 * j) (numS a0 ([kd, nn, (tx.size : Int)].take j)) 0, bldR (5 + 458752 * i + 131072 * j) (numS a0 ([kd, nn, (tx.size : Int)].take j)), (.box [.c (.int .i64 kd), .c (.int .i64 nn), .c (.str tx)])] := rfl
      have eC2 : keyOc (5 + 458752 * i) a0 (decide (i = 0)) [kd, nn, (tx.size : Int)] (.box [.c (.int .i64 kd), .c (.int .i64 nn), .c (.str tx)]) (j + 1) = [bldB (.ep 0 (219 + 65536) 0 0) (5 + 458752 * i + 131072 * j + 65536 + 65536) (numS a0 ([kd, nn, (tx.size : Int)].take j) ++ itoaB x ++ c32) 0, bldR (5 + 458752 * i + 131072 * j + 65536 + 65536) (numS a0 ([kd, nn, (tx.size : Int)].take j) ++ itoaB x ++ c32), (.box [.c (.int .i64 kd), .c (.int .i64 nn), .c (.str tx)])] := by
        unfold keyOc
        rw [hsj, show decide (j + 1 = 0) = false by simp, Bool.and_false, show 5 + 458752 * i + 131072 * (j + 1) = 5 + 458752 * i + 131072 * j + 65536 + 65536 by omega]
        rfl
      rw [eC]
      generalize numS a0 ([kd, nn, (tx.size : Int)].take j) = b0 at hns eC2
      generalize 5 + 458752 * i + 131072 * j = u0 at hu2 eC2
      generalize hB1 : itoaB x = b1 at hitz eC2
      refine st_run [0, 1] rfl rfl rfl rfl (writeStringB _ u0 b0 b1 hu2 (by omega) (by omega)) rfl (rf2 rfl rfl (pB_ren _) (pB_below _ (by show 0 < 2; omega)) (fun y hy => by rcases List.mem_cons.1 hy with rfl | hy <;> first | (show 0 < 2; omega) | (rcases List.mem_cons.1 hy with rfl | hy <;> first | exact True.intro | cases hy) | cases hy)) rfl (j2 (L' := [bldB (.ep 0 (219 + 65536) 0 0) (u0 + 65536) (b0 ++ b1) 0, bldR (u0 + 65536) (b0 ++ b1), (.box [.c (.int .i64 kd), .c (.int .i64 nn), .c (.str tx)])]) rfl) ?_
      repeat' (first
        | refine st_nil ?_
        | (refine st_pop rfl rfl rfl rfl ?_ ?_; · (repeat' (first | exact trivial | rfl | exact Nat.le_of_ble_eq_true rfl | omega | apply And.intro)))
        | (refine st_lop rfl rfl rfl rfl ?_ ?_; · (repeat' (first | exact trivial | rfl | exact Nat.le_of_ble_eq_true rfl | omega | apply And.intro)))
        | (refine st_store rfl rfl rfl ?_ ?_; · (repeat' (first | exact trivial | rfl | exact Nat.le_of_ble_eq_true rfl | omega | apply And.intro)))
        | (refine st_lit rfl rfl rfl rfl ?_ ?_; · (repeat' (first | exact trivial | rfl | exact Nat.le_of_ble_eq_true rfl | omega | apply And.intro)))
        | refine st_skip rfl rfl rfl ?_
        | refine st_skip0 rfl rfl ?_
        | (refine st_if rfl (fun hb => ?_) (fun hb => ?_) <;> (first | (exfalso; revert hb; decide) | (exfalso; simp at hb; done) | (exfalso; simp at hb; omega) | rw [hb]))
        | refine aw_seq ?_
        | refine aw_region tabK_ok _ rfl ?_
        | refine aw_drawn2 tabKS_ok _ rfl mixed (by decide +kernel) ?_
        | (refine aw_cond rfl (fun hb => ?_) (fun hb => ?_) <;> (try (first | (exfalso; revert hb; decide) | (exfalso; simp at hb; done) | (exfalso; simp at hb; omega))))
        | refine aw_block ?_
        | refine aw_exit ?_
        | refine aw_ret ?_
        | refine aw_skip ?_)
      refine st_run [0, 1] rfl rfl rfl rfl (writeByte1 (u0 + 65536) (b0 ++ b1) 32 (by omega) (by simp only [ByteArray.size_append]; omega)) rfl (rf2 rfl rfl rfl (by show 0 < 2; omega) (fun y hy => by rcases List.mem_cons.1 hy with rfl | hy <;> first | (show 0 < 2; omega) | (rcases List.mem_cons.1 hy with rfl | hy <;> first | exact True.intro | cases hy) | cases hy)) rfl (j2 (L' := [bldB (.ep 0 (219 + 65536) 0 0) (u0 + 65536 + 65536) (b0 ++ b1 ++ c32) 0, bldR (u0 + 65536 + 65536) (b0 ++ b1 ++ c32), (.box [.c (.int .i64 kd), .c (.int .i64 nn), .c (.str tx)])]) rfl) ?_
      repeat' (first
        | refine st_nil ?_
        | (refine st_pop rfl rfl rfl rfl ?_ ?_; · (repeat' (first | exact trivial | rfl | exact Nat.le_of_ble_eq_true rfl | omega | apply And.intro)))
        | (refine st_lop rfl rfl rfl rfl ?_ ?_; · (repeat' (first | exact trivial | rfl | exact Nat.le_of_ble_eq_true rfl | omega | apply And.intro)))
        | (refine st_store rfl rfl rfl ?_ ?_; · (repeat' (first | exact trivial | rfl | exact Nat.le_of_ble_eq_true rfl | omega | apply And.intro)))
        | (refine st_lit rfl rfl rfl rfl ?_ ?_; · (repeat' (first | exact trivial | rfl | exact Nat.le_of_ble_eq_true rfl | omega | apply And.intro)))
        | refine st_skip rfl rfl rfl ?_
        | refine st_skip0 rfl rfl ?_
        | (refine st_if rfl (fun hb => ?_) (fun hb => ?_) <;> (first | (exfalso; revert hb; decide) | (exfalso; simp at hb; done) | (exfalso; simp at hb; omega) | rw [hb]))
        | refine aw_seq ?_
        | refine aw_region tabK_ok _ rfl ?_
        | refine aw_drawn2 tabKS_ok _ rfl mixed (by decide +kernel) ?_
        | (refine aw_cond rfl (fun hb => ?_) (fun hb => ?_) <;> (try (first | (exfalso; revert hb; decide) | (exfalso; simp at hb; done) | (exfalso; simp at hb; omega))))
        | refine aw_block ?_
        | refine aw_exit ?_
        | refine aw_ret ?_
        | refine aw_skip ?_)
      exact ⟨j + 1, by omega, by omega, fits_mk ⟨rfl, rfl, rfl, rfl, rfl, rfl, rfl, rfl, slot_int (wrap_eq (by omega) (by omega)), trivial⟩ [] (by rw [eC2]; rfl) (by rw [eC2]; exact ⟨trivial, (by show 0 < 3; omega), (by show 2 < 3; omega), trivial, trivial, trivial, trivial, trivial, trivial, trivial⟩) (by rw [eC2]; exact ⟨bld_below (by show 0 < 3; omega) (by show 1 < 3; omega), byteRow_below _ _ _, ob_below (by rfl), trivial⟩)⟩
    · have hj4 : j = 3 := by omega
      subst hj4
      have hns := numS_size [kd, nn, (tx.size : Int)] a0 (by
        intro y hy
        simp only [List.mem_cons, List.not_mem_nil, or_false] at hy
        rcases hy with rfl | rfl | rfl
        · exact k1
        · exact k2
        · omega)
      have hl3 : [kd, nn, (tx.size : Int)].length = 3 := rfl
      have eC : keyOc (5 + 458752 * i) a0 (decide (i = 0)) [kd, nn, (tx.size : Int)] (.box [.c (.int .i64 kd), .c (.int .i64 nn), .c (.str tx)]) 3 = [bldB (.ep 0 (219 + 65536) 0 0) (5 + 458752 * i + 393216) (numS a0 [kd, nn, (tx.size : Int)]) 0, bldR (5 + 458752 * i + 393216) (numS a0 [kd, nn, (tx.size : Int)]), (.box [.c (.int .i64 kd), .c (.int .i64 nn), .c (.str tx)])] := by
        unfold keyOc
        rw [show decide (3 = 0) = false by simp, Bool.and_false]
        rfl
      have eN : keyOb l (i + 1) = [bldB (.ep 0 (219 + 65536) 0 0) (5 + 458752 * i + 393216 + 65536) (numS a0 [kd, nn, (tx.size : Int)] ++ tx) 0, bldR (5 + 458752 * i + 393216 + 65536) (numS a0 [kd, nn, (tx.size : Int)] ++ tx)] := by
        unfold keyOb
        rw [hsn, show decide (i + 1 = 0) = false by simp, show 5 + 458752 * (i + 1) = 5 + 458752 * i + 393216 + 65536 by omega]
        rfl
      rw [eC]
      generalize numS a0 [kd, nn, (tx.size : Int)] = b0 at hns eN
      have hu2 : (5 + 458752 * i + 393216) % 65536 = 5 := by omega
      generalize 5 + 458752 * i + 393216 = u0 at hu2 eN
      repeat' (first
        | refine st_nil ?_
        | (refine st_pop rfl rfl rfl rfl ?_ ?_; · (repeat' (first | exact trivial | rfl | exact Nat.le_of_ble_eq_true rfl | omega | apply And.intro)))
        | (refine st_lop rfl rfl rfl rfl ?_ ?_; · (repeat' (first | exact trivial | rfl | exact Nat.le_of_ble_eq_true rfl | omega | apply And.intro)))
        | (refine st_store rfl rfl rfl ?_ ?_; · (repeat' (first | exact trivial | rfl | exact Nat.le_of_ble_eq_true rfl | omega | apply And.intro)))
        | (refine st_lit rfl rfl rfl rfl ?_ ?_; · (repeat' (first | exact trivial | rfl | exact Nat.le_of_ble_eq_true rfl | omega | apply And.intro)))
        | refine st_skip rfl rfl rfl ?_
        | refine st_skip0 rfl rfl ?_
        | (refine st_if rfl (fun hb => ?_) (fun hb => ?_) <;> (first | (exfalso; revert hb; decide) | (exfalso; simp at hb; done) | (exfalso; simp at hb; omega) | rw [hb]))
        | refine aw_seq ?_
        | refine aw_region tabK_ok _ rfl ?_
        | refine aw_drawn2 tabKS_ok _ rfl mixed (by decide +kernel) ?_
        | (refine aw_cond rfl (fun hb => ?_) (fun hb => ?_) <;> (try (first | (exfalso; revert hb; decide) | (exfalso; simp at hb; done) | (exfalso; simp at hb; omega))))
        | refine aw_block ?_
        | refine aw_exit ?_
        | refine aw_ret ?_
        | refine aw_skip ?_)
      refine st_run [0, 1] rfl rfl rfl rfl (writeString1 u0 b0 tx hu2 (by omega) (by omega)) rfl (rf2 rfl rfl rfl (by show 0 < 2; omega) (fun y hy => by rcases List.mem_cons.1 hy with rfl | hy <;> first | (show 0 < 2; omega) | (rcases List.mem_cons.1 hy with rfl | hy <;> first | exact True.intro | cases hy) | cases hy)) rfl (j2 (L' := [bldB (.ep 0 (219 + 65536) 0 0) (u0 + 65536) (b0 ++ tx) 0, bldR (u0 + 65536) (b0 ++ tx), (.box [.c (.int .i64 kd), .c (.int .i64 nn), .c (.str tx)])]) rfl) ?_
      repeat' (first
        | refine st_nil ?_
        | (refine st_pop rfl rfl rfl rfl ?_ ?_; · (repeat' (first | exact trivial | rfl | exact Nat.le_of_ble_eq_true rfl | omega | apply And.intro)))
        | (refine st_lop rfl rfl rfl rfl ?_ ?_; · (repeat' (first | exact trivial | rfl | exact Nat.le_of_ble_eq_true rfl | omega | apply And.intro)))
        | (refine st_store rfl rfl rfl ?_ ?_; · (repeat' (first | exact trivial | rfl | exact Nat.le_of_ble_eq_true rfl | omega | apply And.intro)))
        | (refine st_lit rfl rfl rfl rfl ?_ ?_; · (repeat' (first | exact trivial | rfl | exact Nat.le_of_ble_eq_true rfl | omega | apply And.intro)))
        | refine st_skip rfl rfl rfl ?_
        | refine st_skip0 rfl rfl ?_
        | (refine st_if rfl (fun hb => ?_) (fun hb => ?_) <;> (first | (exfalso; revert hb; decide) | (exfalso; simp at hb; done) | (exfalso; simp at hb; omega) | rw [hb]))
        | refine aw_seq ?_
        | refine aw_region tabK_ok _ rfl ?_
        | refine aw_drawn2 tabKS_ok _ rfl mixed (by decide +kernel) ?_
        | (refine aw_cond rfl (fun hb => ?_) (fun hb => ?_) <;> (try (first | (exfalso; revert hb; decide) | (exfalso; simp at hb; done) | (exfalso; simp at hb; omega))))
        | refine aw_block ?_
        | refine aw_exit ?_
        | refine aw_ret ?_
        | refine aw_skip ?_)
      exact ⟨i + 1, by omega, by omega, fits_mk ⟨rfl, rfl, rfl, rfl, slot_int (wrap_eq (by omega) (by omega)), trivial⟩ [(.box [.c (.int .i64 kd), .c (.int .i64 nn), .c (.str tx)])] (by rw [eN]; rfl) (by rw [eN]; exact ⟨trivial, (by show 0 < 2; omega), trivial, trivial, trivial, trivial⟩) (by rw [eN]; exact ⟨bld_below (by show 0 < 2; omega) (by show 1 < 2; omega), byteRow_below _ _ _, trivial⟩)⟩
  · have hi2 : i = l.length := by omega
    have htk : l.take i = l := by rw [hi2, List.take_length]
    by_cases hi0 : i = 0
    · subst hi0
      have hnil : l = [] := List.eq_nil_of_length_eq_zero hi2.symm
      subst hnil
      have e0 : keyOb [] 0 = [bldB (.c (.nul .ptr)) 5 ⟨#[]⟩ 0, bldR 5 ⟨#[]⟩] := rfl
      rw [e0]
      repeat' (first
        | refine st_nil ?_
        | (refine st_pop rfl rfl rfl rfl ?_ ?_; · (repeat' (first | exact trivial | rfl | exact Nat.le_of_ble_eq_true rfl | omega | apply And.intro)))
        | (refine st_lop rfl rfl rfl rfl ?_ ?_; · (repeat' (first | exact trivial | rfl | exact Nat.le_of_ble_eq_true rfl | omega | apply And.intro)))
        | (refine st_store rfl rfl rfl ?_ ?_; · (repeat' (first | exact trivial | rfl | exact Nat.le_of_ble_eq_true rfl | omega | apply And.intro)))
        | (refine st_lit rfl rfl rfl rfl ?_ ?_; · (repeat' (first | exact trivial | rfl | exact Nat.le_of_ble_eq_true rfl | omega | apply And.intro)))
        | refine st_skip rfl rfl rfl ?_
        | refine st_skip0 rfl rfl ?_
        | (refine st_if rfl (fun hb => ?_) (fun hb => ?_) <;> (first | (exfalso; revert hb; decide) | (exfalso; simp at hb; done) | (exfalso; simp at hb; omega) | rw [hb]))
        | refine aw_seq ?_
        | refine aw_region tabK_ok _ rfl ?_
        | refine aw_drawn2 tabKS_ok _ rfl mixed (by decide +kernel) ?_
        | (refine aw_cond rfl (fun hb => ?_) (fun hb => ?_) <;> (try (first | (exfalso; revert hb; decide) | (exfalso; simp at hb; done) | (exfalso; simp at hb; omega))))
        | refine aw_block ?_
        | refine aw_exit ?_
        | refine aw_ret ?_
        | refine aw_skip ?_)
      refine st_run [0, 1] rfl rfl rfl rfl string0 rfl (rf2 rfl rfl rfl True.intro (fun y hy => by rcases List.mem_cons.1 hy with rfl | hy <;> first | (show 0 < 2; omega) | (rcases List.mem_cons.1 hy with rfl | hy <;> first | exact True.intro | cases hy) | cases hy)) rfl (join2 rfl (bldR_ren _ _ _) (L' := [bldB (.c (.nul .ptr)) 5 ⟨#[]⟩ 0, bldR 5 ⟨#[]⟩]) rfl) ?_
      repeat' (first
        | refine st_nil ?_
        | (refine st_pop rfl rfl rfl rfl ?_ ?_; · (repeat' (first | exact trivial | rfl | exact Nat.le_of_ble_eq_true rfl | omega | apply And.intro)))
        | (refine st_lop rfl rfl rfl rfl ?_ ?_; · (repeat' (first | exact trivial | rfl | exact Nat.le_of_ble_eq_true rfl | omega | apply And.intro)))
        | (refine st_store rfl rfl rfl ?_ ?_; · (repeat' (first | exact trivial | rfl | exact Nat.le_of_ble_eq_true rfl | omega | apply And.intro)))
        | (refine st_lit rfl rfl rfl rfl ?_ ?_; · (repeat' (first | exact trivial | rfl | exact Nat.le_of_ble_eq_true rfl | omega | apply And.intro)))
        | refine st_skip rfl rfl rfl ?_
        | refine st_skip0 rfl rfl ?_
        | (refine st_if rfl (fun hb => ?_) (fun hb => ?_) <;> (first | (exfalso; revert hb; decide) | (exfalso; simp at hb; done) | (exfalso; simp at hb; omega) | rw [hb]))
        | refine aw_seq ?_
        | refine aw_region tabK_ok _ rfl ?_
        | refine aw_drawn2 tabKS_ok _ rfl mixed (by decide +kernel) ?_
        | (refine aw_cond rfl (fun hb => ?_) (fun hb => ?_) <;> (try (first | (exfalso; revert hb; decide) | (exfalso; simp at hb; done) | (exfalso; simp at hb; omega))))
        | refine aw_block ?_
        | refine aw_exit ?_
        | refine aw_ret ?_
        | refine aw_skip ?_)
      exact end_ret (res_of rfl (by trivial) rfl)
    · have e1 : keyOb l i = [bldB (.ep 0 (219 + 65536) 0 0) (5 + 458752 * i) (keyC l) 0, bldR (5 + 458752 * i) (keyC l)] := by unfold keyOb; rw [htk, show decide (i = 0) = false by simpa using hi0]; rfl
      rw [e1]
      rw [htk] at hsz
      have hu : (5 + 458752 * i) % 65536 = 5 := by omega
      generalize 5 + 458752 * i = u0 at hu
      have hpos : 0 < (keyC l).size := by
        obtain ⟨v, hv⟩ := get_of_lt (show i - 1 < l.length by omega)
        have hsn := keyC_snoc (l.take (i - 1)) v
        rw [← take_succ hv, show i - 1 + 1 = i by omega, htk] at hsn
        obtain ⟨q1, q2, q3⟩ := h v (List.mem_of_getElem? hv)
        have := (itoaB_size v.kind q1.1 q1.2).2
        rw [hsn]
        show 0 < (numS (keyC (List.take (i - 1) l)) [v.kind, v.int, (v.text.size : Int)] ++ v.text).size
        have e3 : numS (keyC (List.take (i - 1) l)) [v.kind, v.int, (v.text.size : Int)] = keyC (List.take (i - 1) l) ++ itoaB v.kind ++ c32 ++ itoaB v.int ++ c32 ++ itoaB v.text.size ++ c32 := rfl
        rw [e3]
        simp only [ByteArray.size_append]; omega
      generalize keyC l = s0 at hsz hpos
      repeat' (first
        | refine st_nil ?_
        | (refine st_pop rfl rfl rfl rfl ?_ ?_; · (repeat' (first | exact trivial | rfl | exact Nat.le_of_ble_eq_true rfl | omega | apply And.intro)))
        | (refine st_lop rfl rfl rfl rfl ?_ ?_; · (repeat' (first | exact trivial | rfl | exact Nat.le_of_ble_eq_true rfl | omega | apply And.intro)))
        | (refine st_store rfl rfl rfl ?_ ?_; · (repeat' (first | exact trivial | rfl | exact Nat.le_of_ble_eq_true rfl | omega | apply And.intro)))
        | (refine st_lit rfl rfl rfl rfl ?_ ?_; · (repeat' (first | exact trivial | rfl | exact Nat.le_of_ble_eq_true rfl | omega | apply And.intro)))
        | refine st_skip rfl rfl rfl ?_
        | refine st_skip0 rfl rfl ?_
        | (refine st_if rfl (fun hb => ?_) (fun hb => ?_) <;> (first | (exfalso; revert hb; decide) | (exfalso; simp at hb; done) | (exfalso; simp at hb; omega) | rw [hb]))
        | refine aw_seq ?_
        | refine aw_region tabK_ok _ rfl ?_
        | refine aw_drawn2 tabKS_ok _ rfl mixed (by decide +kernel) ?_
        | (refine aw_cond rfl (fun hb => ?_) (fun hb => ?_) <;> (try (first | (exfalso; revert hb; decide) | (exfalso; simp at hb; done) | (exfalso; simp at hb; omega))))
        | refine aw_block ?_
        | refine aw_exit ?_
        | refine aw_ret ?_
        | refine aw_skip ?_)
      refine st_run [0, 1] rfl rfl rfl rfl (string1 u0 s0 hu hpos (by omega)) rfl (rf2 rfl rfl rfl (by show 0 < 2; omega) (fun y hy => by rcases List.mem_cons.1 hy with rfl | hy <;> first | (show 0 < 2; omega) | (rcases List.mem_cons.1 hy with rfl | hy <;> first | exact True.intro | cases hy) | cases hy)) rfl (join2 rfl rfl (L' := [bldB (.ep 0 (219 + 65536) 0 0) u0 s0 0, .dead]) rfl) ?_
      repeat' (first
        | refine st_nil ?_
        | (refine st_pop rfl rfl rfl rfl ?_ ?_; · (repeat' (first | exact trivial | rfl | exact Nat.le_of_ble_eq_true rfl | omega | apply And.intro)))
        | (refine st_lop rfl rfl rfl rfl ?_ ?_; · (repeat' (first | exact trivial | rfl | exact Nat.le_of_ble_eq_true rfl | omega | apply And.intro)))
        | (refine st_store rfl rfl rfl ?_ ?_; · (repeat' (first | exact trivial | rfl | exact Nat.le_of_ble_eq_true rfl | omega | apply And.intro)))
        | (refine st_lit rfl rfl rfl rfl ?_ ?_; · (repeat' (first | exact trivial | rfl | exact Nat.le_of_ble_eq_true rfl | omega | apply And.intro)))
        | refine st_skip rfl rfl rfl ?_
        | refine st_skip0 rfl rfl ?_
        | (refine st_if rfl (fun hb => ?_) (fun hb => ?_) <;> (first | (exfalso; revert hb; decide) | (exfalso; simp at hb; done) | (exfalso; simp at hb; omega) | rw [hb]))
        | refine aw_seq ?_
        | refine aw_region tabK_ok _ rfl ?_
        | refine aw_drawn2 tabKS_ok _ rfl mixed (by decide +kernel) ?_
        | (refine aw_cond rfl (fun hb => ?_) (fun hb => ?_) <;> (try (first | (exfalso; revert hb; decide) | (exfalso; simp at hb; done) | (exfalso; simp at hb; omega))))
        | refine aw_block ?_
        | refine aw_exit ?_
        | refine aw_ret ?_
        | refine aw_skip ?_)
      exact end_ret (res_of rfl (by trivial) rfl)
end Go.Proofs.YtnbnpnmkgemdeaaGreatDoor
