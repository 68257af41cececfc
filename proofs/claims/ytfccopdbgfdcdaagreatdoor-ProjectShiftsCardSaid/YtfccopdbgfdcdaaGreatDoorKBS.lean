/- Parts of the proof, joined. No condition. -/
import Derived.Test.YtfccopdbgfdcdaaGreatDoorKBR
import Derived.Test.YtfccopdbgfdcdaaGreatDoorKBP
import Derived.Test.YtfccopdbgfdcdaaGreatDoorKAL
import Derived.Test.YtfccopdbgfdcdaaGreatDoorKBH
set_option linter.unusedSimpArgs false
set_option linter.unusedVariables false
namespace Go.Proofs.YtfccopdbgfdcdaaGreatDoor
open Go.RowKit Go.MapKept
set_option maxRecDepth 100000
set_option linter.unusedVariables false
set_option linter.unusedSimpArgs false
noncomputable def rowsL (l : List Fct) : List (List Val) := Classical.choose (rowsP_eq l)
theorem rowsL_of (l : List Fct) : RowsOf l (rowsL l) := (Classical.choose_spec (rowsP_eq l)).1
noncomputable def canon (l : List Fct) : List Fct := bagOf l (rowsL l)
theorem canon_of {l : List Fct} {R : List (List Val)} (h : RowsOf l R) : bagOf l R = canon l := by unfold canon; rw [RowsOf.ext h (rowsL_of l)]
theorem canon_len {l : List Fct} (hn : l.length ≤ 300) : (canon l).length ≤ l.length := bag_len (rowsL_of l) hn
theorem canon_mem {l : List Fct} (hn : l.length ≤ 300) {f : Fct} (h : f ∈ canon l) : pvalB f.valid = true ∧ ∃ g ∈ l, g.row = f.row := by
  unfold canon bagOf at h
  obtain ⟨r, hr, h⟩ := List.mem_flatMap.1 h
  obtain ⟨p, hp, rfl⟩ := List.mem_map.1 h
  obtain ⟨g, hg, _, e⟩ := ((rowsL_of l).2 r).1 hr
  exact ⟨lev_valid _ (Nat.le_trans (perOf_le2 l r) hn) p hp, g, hg, e⟩
theorem fcts_canon {l : List Fct} (h : FctsOK l) : FctsOK (canon l) := by
  have hn : l.length ≤ 300 := by have := h.1; omega
  refine ⟨Nat.le_trans (canon_len hn) h.1, fun f hf => ?_⟩
  obtain ⟨_, g, hg, e⟩ := canon_mem hn hf
  rw [← e]; exact h.2 g hg
theorem gBag_canon {l : List Fct} (h : FctsOK l) : gBag l = some (canon l) := by
  obtain ⟨R, hR, e⟩ := gBag_eq l h
  rw [e, canon_of hR]
theorem gBagR_canon {l : List Fct} (hn : l.length ≤ 63) (hr : ∀ f ∈ l, f.row.length ≤ 1000000) : gBagR l = some (canon l) := by
  obtain ⟨R, hR, e, _⟩ := gBagR_eq l hn hr
  rw [e, canon_of hR]
theorem fcts_rows {l : List Fct} (h : FctsOK l) : ∀ f ∈ l, f.row.length ≤ 1000000 := fun f hf => by have := (h.2 f hf).1; omega
theorem gBagR_fcts {l : List Fct} (h : FctsOK l) : gBagR l = some (canon l) := gBagR_canon (by have := h.1; omega) (fcts_rows h)
theorem gIdent_fcts {l : List Fct} (h : FctsOK l) : gIdent l l = some true := gIdent_refl l (by have := h.1; omega) (fcts_rows h)
theorem gAlike_refl {r : Rln} (hk : r.kinds.length ≤ 1000000) (h : FctsOK r.facts) : gAlike r r = some true := by
  unfold gAlike
  rw [gSameKinds_refl _ hk, Option.bind_some, cond_true, gIdent_fcts h]; rfl
theorem gRelation_canon {k : List Int} {l : List Fct} (hk : k.length ≤ 1000000) (h : FctsOK l) : gRelation k l = some ⟨k, canon l⟩ := by
  unfold gRelation
  rw [decide_eq_true (by omega), cond_true, gBag_canon h]; rfl
structure RlnOK (r : Rln) : Prop where
  len : r.facts.length ≤ 16
  kinds : r.kinds.length ≤ 48
  per : ∀ f ∈ r.facts, pvalB f.valid = true
  row : ∀ f ∈ r.facts, f.row.length = r.kinds.length
  val : ∀ f ∈ r.facts, ∀ v ∈ f.row, vF v = true
theorem RlnOK.fcts {r : Rln} (h : RlnOK r) : FctsOK r.facts := ⟨by have := h.len; omega, fun f hf => ⟨by rw [h.row f hf]; have := h.kinds; omega, fun v hv => (vv_of (h.val f hf v hv)).vok⟩⟩
theorem gFits8_sem {row : List Val} {kinds : List Int} (hk : kinds.length ≤ 1000000) : ∃ b, gFits8 row kinds = some b ∧ (b = true → row.length = kinds.length ∧ ∀ v ∈ row, vF v = true) := by
  by_cases he : row.length = kinds.length
  · obtain ⟨b, hb⟩ := gFits8_ex row kinds (by omega)
    refine ⟨b, hb, fun hbt => ⟨he, ?_⟩⟩
    subst hbt
    unfold gFits8 at hb
    rw [show decide (((row.length : Nat) : Int) ≠ ((kinds.length : Nat) : Int)) = false from decide_eq_false (by omega), cond_false] at hb
    have key : ∀ (n i : Nat), i ≤ row.length → row.length - i < n → (loopM (gFits8_B1 row kinds) n (i : Int)).bind gFits8_K1 = some true → ∀ v ∈ row.drop i, vF v = true := by
      intro n
      induction n with
      | zero => intro i _ h; omega
      | succ n ih =>
        intro i hi hn hb v hv
        rw [loopM] at hb
        by_cases hlt : i < row.length
        · obtain ⟨x, hx⟩ := get_of_lt hlt
          obtain ⟨k, hk⟩ := get_of_lt (l := kinds) (i := i) (by omega)
          have h1 : gFits8_B1 row kinds (i : Int) = bif (!vF x) then some (.ret false) else bif decide (x.kind ≠ 0) then bif decide (x.kind ≠ k) then some (.ret false) else some (.next ((i + 1 : Nat) : Int)) else some (.next ((i + 1 : Nat) : Int)) := by
            unfold gFits8_B1
            dsimp only
            rw [lt_dec hx, cond_true, getI_nat hx, getI_nat hk]
            simp only [Option.bind_some]
            rw [gValidR_eq, Option.bind_some, wrapN (by omega)]
          have hd : row.drop i = x :: row.drop (i + 1) := by rw [List.drop_eq_getElem_cons hlt, (List.getElem?_eq_some_iff.1 hx).2]
          rw [hd] at hv
          cases hvx : vF x with
          | false => rw [h1, hvx] at hb; exact absurd (show (some false : Option Bool) = some true from hb) (by decide)
          | true =>
            have h2 : gFits8_B1 row kinds (i : Int) = some (.next ((i + 1 : Nat) : Int)) := by
              rw [h1, hvx, Bool.not_true, cond_false]
              cases c1 : decide (x.kind ≠ 0) with
              | false => rfl
              | true =>
                cases c2 : decide (x.kind ≠ k) with
                | false => rfl
                | true => rw [h1, hvx, Bool.not_true, cond_false, c1, c2] at hb; exact absurd (show (some false : Option Bool) = some true from hb) (by decide)
            rw [h2] at hb
            rcases List.mem_cons.1 hv with rfl | hv
            · exact hvx
            · exact ih (i + 1) (by omega) (by omega) hb v hv
        · rw [List.drop_eq_nil_of_le (by omega)] at hv; cases hv
    exact fun v hv => key fuel 0 (Nat.zero_le _) (by unfold fuel; omega) hb v (by rw [List.drop_zero]; exact hv)
  · refine ⟨false, ?_, fun h => by cases h⟩
    unfold gFits8
    rw [show decide (((row.length : Nat) : Int) ≠ ((kinds.length : Nat) : Int)) = true from decide_eq_true (by omega)]; rfl
theorem gSound_sem {r : Rln} (hl : r.facts.length ≤ 1000) (hk : r.kinds.length ≤ 48) : ∃ b, gSound r = some b ∧ (b = true → (∀ f ∈ r.facts, pvalB f.valid = true) ∧ (∀ f ∈ r.facts, f.row.length = r.kinds.length) ∧ ∀ f ∈ r.facts, ∀ v ∈ f.row, vF v = true) := by
  have key : ∀ (n i : Nat), i ≤ r.facts.length → r.facts.length - i < n → ∃ b, (loopM (gSound_B1 r) n (i : Int)).bind (gSound_K1 r) = some b ∧ (b = true → ∀ f ∈ r.facts.drop i, pvalB f.valid = true ∧ f.row.length = r.kinds.length ∧ ∀ v ∈ f.row, vF v = true) := by
    intro n
    induction n with
    | zero => intro i _ h; omega
    | succ n ih =>
      intro i hi hn
      rw [loopM]
      by_cases hlt : i < r.facts.length
      · obtain ⟨x, hx⟩ := get_of_lt hlt
        have hd : r.facts.drop i = x :: r.facts.drop (i + 1) := by rw [List.drop_eq_getElem_cons hlt, (List.getElem?_eq_some_iff.1 hx).2]
        obtain ⟨b, hb, hb2⟩ := gFits8_sem (row := x.row) (kinds := r.kinds) (by omega)
        have h1 : gSound_B1 r (i : Int) = bif !(pvalB x.valid) then some (.ret false) else bif !b then some (.ret false) else some (.next ((i + 1 : Nat) : Int)) := by
          unfold gSound_B1
          dsimp only
          rw [lt_dec hx, cond_true, getI_nat hx, Option.bind_some, gValid1_eq, Option.bind_some, hb, Option.bind_some, wrapN (by omega)]
        rw [h1]
        cases hp : pvalB x.valid with
        | false => exact ⟨false, rfl, fun h => by cases h⟩
        | true =>
          cases b with
          | false => exact ⟨false, rfl, fun h => by cases h⟩
          | true =>
            obtain ⟨c, hc, hc2⟩ := ih (i + 1) (by omega) (by omega)
            refine ⟨c, hc, fun h f hf => ?_⟩
            rw [hd] at hf
            rcases List.mem_cons.1 hf with rfl | hf
            · exact ⟨hp, hb2 rfl⟩
            · exact hc2 h f hf
      · have : i = r.facts.length := by omega
        subst this
        have h1 : gSound_B1 r ((r.facts.length : Nat) : Int) = some (.exit ((r.facts.length : Nat) : Int)) := by
          unfold gSound_B1
          dsimp only
          rw [lt_decF, cond_false]
        rw [h1]
        obtain ⟨b, hb⟩ := gKinds_ex r.kinds (by omega)
        have : ∃ c, gSound_K1 r (.inl ((r.facts.length : Nat) : Int)) = some c := by
          unfold gSound_K1
          dsimp only
          rw [hb]
          cases decide ((0 : Int) < ((r.kinds.length : Nat) : Int)) <;> cases decide (((r.kinds.length : Nat) : Int) ≤ 48) <;> exact ⟨_, rfl⟩
        obtain ⟨c, hc⟩ := this
        refine ⟨c, hc, fun _ f hf => ?_⟩
        rw [List.drop_length] at hf; cases hf
  obtain ⟨b, hb, hb2⟩ := key fuel 0 (Nat.zero_le _) (by unfold fuel; omega)
  refine ⟨b, hb, fun h => ?_⟩
  have := hb2 h
  rw [List.drop_zero] at this
  exact ⟨fun f hf => (this f hf).1, fun f hf => (this f hf).2.1, fun f hf => (this f hf).2.2⟩
theorem gFew23_sem (r : Rln) : ∃ b, gFew23 r = some b ∧ (b = true → RlnOK r) := by
  unfold gFew23
  by_cases h1 : r.facts.length ≤ 16
  · rw [decide_eq_true (show ((r.facts.length : Nat) : Int) ≤ 16 by omega), cond_true]
    by_cases h2 : r.kinds.length ≤ 48
    · rw [decide_eq_true (show ((r.kinds.length : Nat) : Int) ≤ 48 by omega), cond_true]
      obtain ⟨b, hb, hb2⟩ := gSound_sem (r := r) (by omega) h2
      rw [hb]
      exact ⟨b, rfl, fun h => ⟨h1, h2, (hb2 h).1, (hb2 h).2.1, (hb2 h).2.2⟩⟩
    · rw [decide_eq_false (show ¬ ((r.kinds.length : Nat) : Int) ≤ 48 by omega)]
      exact ⟨false, rfl, fun h => by cases h⟩
  · rw [decide_eq_false (show ¬ ((r.facts.length : Nat) : Int) ≤ 16 by omega)]
    exact ⟨false, rfl, fun h => by cases h⟩
end Go.Proofs.YtfccopdbgfdcdaaGreatDoor
namespace Go.Proofs.YtfccopdbgfdcdaaGreatDoor.Aw
open Go.RowKit Go.MapKept
set_option linter.unusedVariables false
def ownL (f : FuncId) : Bool := Nat.beq f 186 || Nat.beq f 188 || Nat.beq f 190 || Nat.beq f 191 || Nat.beq f 206 || Nat.beq f 224 || Nat.beq f 223 || Nat.beq f 125 || Nat.beq f 179 || Nat.beq f 171 || Nat.beq f 192 || Nat.beq f 138 || Nat.beq f 177 || Nat.beq f 212 || Nat.beq f 208 || Nat.beq f 209 || Nat.beq f 226 || Nat.beq f 235 || Nat.beq f 174 || Nat.beq f 194 || Nat.beq f 195 || Nat.beq f 196 || Nat.beq f 197 || Nat.beq f 198 || Nat.beq f 199 || Nat.beq f 200 || Nat.beq f 201 || Nat.beq f 210 || Nat.beq f 213 || Nat.beq f 214 || Nat.beq f 204 || Nat.beq f 215 || Nat.beq f 216 || Nat.beq f 217 || Nat.beq f 218 || Nat.beq f 219 || Nat.beq f 220 || Nat.beq f 221 || Nat.beq f 222 || Nat.beq f 228 || Nat.beq f 229 || Nat.beq f 230
def rowL (f : FuncId) (d : Nat) : Bool := Nat.beq f 49 || Nat.beq f 142 || Nat.beq f 170 || Nat.beq f 188 || Nat.beq f 190 || (Nat.beq f 136 && Nat.beq d 41) || (Nat.beq f 136 && Nat.beq d 42)
def frzT (f : FuncId) (id : Nat) : List Nat :=
  if (Nat.beq f 16 && Nat.beq id 1) = true then [3] else
  if (Nat.beq f 21 && Nat.beq id 1) = true then [3] else
  if (Nat.beq f 23 && Nat.beq id 1) = true then [4, 5] else
  if (Nat.beq f 36 && Nat.beq id 1) = true then [3] else
  if (Nat.beq f 49 && Nat.beq id 18) = true then [5] else
  []
def flgT (f : FuncId) (id : Nat) : Bool × Bool :=
  (false, true)
def badL (f : FuncId) : Bool := Nat.beq f 129
def tabX : TI := { tab with owns := ownL }
theorem tabX_ok : TIok Tryz.prog tabX := ⟨tab_ok.size, tab_ok.agg, tab_ok.elem, tab_ok.field, tab_ok.zero, tab_ok.bytes, tab_ok.kind, tab_ok.struct, tab_ok.zok, tab_ok.eqs⟩
def stpsOf : List (List AC) → Option (List Stp)
  | [] => some []
  | [.int .i64 a, .int .i64 b] :: l => match stpsOf l with
    | some r => some (⟨a, b⟩ :: r)
    | none => none
  | _ => none
theorem stpsOf_eq : ∀ {es : List (List AC)} {l : List Stp}, stpsOf es = some l → es = l.map cStp
  | [], l, h => by cases h; rfl
  | e :: es, l, h => by
    unfold stpsOf at h
    split at h
    · rename_i hq; cases hq
    · rename_i a b es' heq
      obtain ⟨rfl, rfl⟩ := List.cons.inj heq
      split at h
      · rename_i r hr
        cases h
        rw [List.map_cons, ← stpsOf_eq hr]; rfl
      · cases h
    · cases h
def ascOk : List Stp → Bool
  | [] => true
  | x :: l => (l.all fun y => decide (x.lo < y.lo)) && ascOk l
def levOKb (l : List Stp) : Bool := decide (l.length ≤ 1000) && (ascOk l && l.all fun s => decide (s.lo < 1099511627776) && decide (s.n ≤ 600))
theorem ascOk_pw : ∀ {l : List Stp}, ascOk l = true → l.Pairwise fun x y => x.lo < y.lo
  | [], _ => List.Pairwise.nil
  | x :: l, h => by
    unfold ascOk at h
    rw [Bool.and_eq_true, List.all_eq_true] at h
    exact List.pairwise_cons.2 ⟨fun y hy => of_decide_eq_true (h.1 y hy), ascOk_pw h.2⟩
theorem levOK_of {l : List Stp} (h : levOKb l = true) : LevOK l := by
  unfold levOKb at h
  rw [Bool.and_eq_true, Bool.and_eq_true, List.all_eq_true] at h
  obtain ⟨h1, h2, h3⟩ := h
  refine ⟨of_decide_eq_true h1, ?_, fun s hs => ?_, fun s hs => ?_⟩
  · intro i j x y hij hx hy
    rw [List.getElem?_map] at hx hy
    obtain ⟨a, ha, rfl⟩ := Option.map_eq_some_iff.1 hx
    obtain ⟨b, hb, rfl⟩ := Option.map_eq_some_iff.1 hy
    obtain ⟨hi, ea⟩ := List.getElem?_eq_some_iff.1 ha
    obtain ⟨hj, eb⟩ := List.getElem?_eq_some_iff.1 hb
    have := List.pairwise_iff_getElem.1 (ascOk_pw h2) i j hi hj hij
    rw [ea, eb] at this
    exact this
  · have := h3 s hs; rw [Bool.and_eq_true] at this; exact of_decide_eq_true this.1
  · have := h3 s hs; rw [Bool.and_eq_true] at this; exact of_decide_eq_true this.2
def orcT : FuncId → List PV → Option CV := fun g ps => match Nat.beq g 90, ps with
  | true, [.one (.lst es)] => match stpsOf es with
    | some l => match levOKb l with
      | true => some (.val (.one (.lst ((levV l).map cPer))))
      | false => none
    | none => none
  | _, _ => none
theorem orcT_ok (g : FuncId) (ps : List PV) (r : CV) (h : orcT g ps = some r) : Pure Tryz.prog g ps r := by
  unfold orcT at h
  split at h
  · rename_i es hg
    split at h
    · rename_i l hl
      split at h
      · rename_i hb
        cases h
        rw [Nat.eq_of_beq_eq_true hg, stpsOf_eq hl]
        exact lev_pure l (levOK_of hb)
      · cases h
    · cases h
  · cases h
noncomputable def cx : Cx := { P := Tryz.prog, ti := tabX, xs := ⟨224, 223⟩, row := rowL, frz := frzT, flg := flgT, orc := orcT, bad := badL }
theorem ne_ok : NoEsc Tryz.prog 224 := ⟨_, Tryz.func224, by kernel_rfl, by kernel_rfl, by kernel_rfl, by kernel_rfl⟩
theorem cs_ok : CmpS Tryz.prog 223 := ⟨_, Tryz.func223, by kernel_rfl, by kernel_rfl, by kernel_rfl, by kernel_rfl⟩
theorem names_ok : namesB Tryz.prog.funcs.toList = true := by kernel_rfl
theorem codes_ok : codesB cx Tryz.prog.funcs.toList 0 = true := by kernel_rfl
theorem cx_ok : CxOK cx := CxOK.of tabX_ok ⟨ne_ok, cs_ok⟩ mixed names_ok codes_ok (orcT_ok)
theorem awake_run : (evF cx 64).1 14 [] = some (.val (.one (.bool true))) := by kernel_rfl
theorem awake_pure : Pure Tryz.prog 14 [] (.val (.one (.bool true))) := (evF_ok cx_ok 64).1 _ _ _ awake_run
end Go.Proofs.YtfccopdbgfdcdaaGreatDoor.Aw
namespace Go.Proofs.YtfccopdbgfdcdaaGreatDoor
open Go.RowKit Go.MapKept
set_option maxRecDepth 100000
set_option maxHeartbeats 8000000
set_option linter.unusedVariables false
set_option linter.unusedSimpArgs false
end Go.Proofs.YtfccopdbgfdcdaaGreatDoor
namespace Go.Proofs.YtfccopdbgfdcdaaGreatDoor
open Go.RowKit Go.MapKept
set_option maxRecDepth 100000
set_option maxHeartbeats 8000000
set_option linter.unusedVariables false
set_option linter.unusedSimpArgs false
noncomputable section
def gLawShifts (a_r : Rln) (a_n : Int) : Option (Bool) := (gFew23 a_r).bind fun r_1 => bif (!r_1) then
  some (true)
 else
  (gShiftP a_r a_n).bind fun r_4 => (gShiftR a_r a_n).bind fun r_5 => (gAlike r_4 r_5).bind fun r_6 => bif r_6 then
    some (true)
  else
    some false
theorem gLawShifts_ok {a_r : Rln} {a_n : Int} {r : Bool} (H : gLawShifts a_r a_n = some r) : Pure Tryz.prog 6 [.agg (cRln a_r), .one (.int .i64 a_n)] (.val (.one (.bool r))) := by
  unfold gLawShifts at H
  refine pure_of_aw tab_ok Tryz.func6 rfl rfl Tryz.ntmps6 (by simp) ?_
  simp only [argT, PV.av, List.map_cons, List.map_nil]
  obtain ⟨r_1, c1, H⟩ := bind_some H
  replace c1 := gFew23_ok c1
  try simp only [List.map_append, List.map_cons, List.map_nil, List.nil_append, tE_eq] at c1
  rcases Bool.eq_false_or_eq_true (!r_1) with q_2 | q_2
  · replace H := cnd_t q_2 H
    have hc_3 := Aw.awake_pure
    try simp only [List.map_append, List.map_cons, List.map_nil, List.nil_append, tE_eq] at hc_3
    obtain rfl := Option.some.inj H
    exact go_
  · replace H := cnd_f q_2 H
    obtain ⟨r_4, c2, H⟩ := bind_some H
    replace c2 := gShiftP_ok c2
    try simp only [List.map_append, List.map_cons, List.map_nil, List.nil_append, tE_eq] at c2
    obtain ⟨r_5, c3, H⟩ := bind_some H
    replace c3 := gShiftR_ok c3
    try simp only [List.map_append, List.map_cons, List.map_nil, List.nil_append, tE_eq] at c3
    obtain ⟨r_6, c4, H⟩ := bind_some H
    replace c4 := gAlike_ok c4
    try simp only [List.map_append, List.map_cons, List.map_nil, List.nil_append, tE_eq] at c4
    rcases Bool.eq_false_or_eq_true r_6 with q_7 | q_7
    · replace H := cnd_t q_7 H
      have hc_8 := Aw.awake_pure
      try simp only [List.map_append, List.map_cons, List.map_nil, List.nil_append, tE_eq] at hc_8
      obtain rfl := Option.some.inj H
      exact go_
    · replace H := cnd_f q_7 H
      obtain rfl := Option.some.inj H
      exact go_
end
end Go.Proofs.YtfccopdbgfdcdaaGreatDoor
namespace Go.Proofs.YtfccopdbgfdcdaaGreatDoor
open Go.RowKit Go.MapKept
set_option maxRecDepth 100000
set_option maxHeartbeats 8000000
set_option linter.unusedVariables false
set_option linter.unusedSimpArgs false
end Go.Proofs.YtfccopdbgfdcdaaGreatDoor
namespace Go.Proofs.YtfccopdbgfdcdaaGreatDoor
open Go.RowKit Go.MapKept
set_option maxRecDepth 100000
set_option maxHeartbeats 8000000
set_option linter.unusedVariables false
set_option linter.unusedSimpArgs false
end Go.Proofs.YtfccopdbgfdcdaaGreatDoor
namespace Go.Proofs.YtfccopdbgfdcdaaGreatDoor
open Go.RowKit Go.MapKept
set_option maxRecDepth 100000
set_option linter.unusedVariables false
set_option linter.unusedSimpArgs false
def shP (n : Int) (p : Per) : Per :=
  let m := max (-1099511627776) (min n 1099511627776)
  ⟨max 0 (p.lo + m), if p.hi < 1099511627776 then min 1099511627776 (p.hi + m) else p.hi⟩
def shG (n : Int) (f : Fct) : List Fct := if (shP n f.valid).lo < (shP n f.valid).hi then [⟨f.row, shP n f.valid⟩] else []
theorem shG_len (n : Int) (f : Fct) : (shG n f).length ≤ 1 := by unfold shG; split <;> simp
theorem flat_le {α β : Type} (g : α → List β) (h : ∀ x, (g x).length ≤ 1) : ∀ l : List α, (l.flatMap g).length ≤ l.length
  | [] => by simp
  | x :: l => by rw [List.flatMap_cons, List.length_append, List.length_cons]; have := flat_le g h l; have := h x; omega
def shL (n : Int) (l : List Fct) : List Fct := l.flatMap (shG n)
theorem fcts_flat {l : List Fct} (h : FctsOK l) (g : Fct → List Fct) (h1 : ∀ f, (g f).length ≤ 1) (h2 : ∀ f, ∀ x ∈ g f, x.row = f.row) : FctsOK (l.flatMap g) := by
  refine ⟨Nat.le_trans (flat_le g h1 l) h.1, fun f hf => ?_⟩
  obtain ⟨x, hx, hf⟩ := List.mem_flatMap.1 hf
  rw [h2 x f hf]; exact h.2 x hx
theorem shG_row (n : Int) (f x : Fct) (h : x ∈ shG n f) : x.row = f.row := by
  unfold shG at h
  split at h
  · rw [List.mem_singleton.1 h]
  · cases h
theorem fcts_sh {l : List Fct} (h : FctsOK l) (n : Int) : FctsOK (shL n l) := fcts_flat h _ (shG_len n) (fun f x hx => shG_row n f x hx)
theorem gMoved_eq {at_ n : Int} (ha : 0 ≤ at_ ∧ at_ ≤ 1099511627776) (hn : IOk n) : gMoved at_ n = some (if n < -1099511627776 then 0 else if 1099511627776 < n then 1099511627776 else min (max (at_ + n) 0) 1099511627776) := by
  unfold gMoved
  by_cases h1 : n < -1099511627776
  · rw [decide_eq_true h1, cond_true, if_pos h1]
  · rw [decide_eq_false h1, cond_false, if_neg h1]
    by_cases h2 : 1099511627776 < n
    · rw [decide_eq_true h2, cond_true, if_pos h2]
    · rw [decide_eq_false h2, cond_false, if_neg h2, wrap_in (by omega)]
      congr 1
      unfold mnI mxI
      split <;> split <;> omega
theorem shiftP_body {r : Rln} {n : Int} (hn : IOk n) (hl : r.facts.length ≤ 1000) {s : List Fct} {i : Nat} {x : Fct} (hx : r.facts[i]? = some x) (hp : pvalB x.valid = true) (hs : s.length + (shG n x).length ≤ 3518437208883) : gShiftP_B1 r n (s, (i : Int)) = some (.next (s ++ shG n x, ((i + 1 : Nat) : Int))) := by
  have hi := (List.getElem?_eq_some_iff.1 hx).1
  obtain ⟨q1, q2, q3⟩ := pval_facts hp
  unfold gShiftP_B1
  dsimp only
  rw [lt_dec hx, cond_true, getI_nat hx, Option.bind_some, gMoved_eq (by omega) hn, Option.bind_some, wrapN (by omega), gMoved_eq (at_ := x.valid.hi) (by omega) hn]
  have hm : ∀ a b : Int, pvalB ⟨a, b⟩ = decide (0 ≤ a ∧ a < b ∧ b ≤ 1099511627776) := by
    intro a b
    rw [Bool.eq_iff_iff, decide_eq_true_eq]
    unfold pvalB
    simp only [Bool.and_eq_true, decide_eq_true_eq]
    constructor <;> intro h <;> omega
  have fin : ∀ (c : Bool) (a b : Int), (c = decide ((shP n x.valid).lo < (shP n x.valid).hi)) → (c = true → a = (shP n x.valid).lo ∧ b = (shP n x.valid).hi) →
      (bif c then (bif decide (s.length + 1 ≤ 3518437208883) then some (Step.next (s ++ [(⟨x.row, ⟨a, b⟩⟩ : Fct)], ((i + 1 : Nat) : Int))) else none) else some (Step.next (s, ((i + 1 : Nat) : Int)))) = some ((.next (s ++ shG n x, ((i + 1 : Nat) : Int))) : Step (List Fct × Int) Rln) := by
    intro c a b h1 h2
    unfold shG at hs ⊢
    by_cases hc : (shP n x.valid).lo < (shP n x.valid).hi
    · rw [if_pos hc] at hs ⊢
      have : c = true := by rw [h1]; exact decide_eq_true hc
      obtain ⟨rfl, rfl⟩ := h2 this
      rw [this, cond_true, decide_eq_true (show s.length + 1 ≤ 3518437208883 from hs), cond_true]
    · rw [if_neg hc, List.append_nil]
      have : c = false := by rw [h1]; exact decide_eq_false hc
      rw [this, cond_false]
  by_cases hF : x.valid.hi < 1099511627776
  · rw [decide_eq_true hF, cond_true, Option.bind_some, gPV_eq, Option.bind_some, hm]
    refine fin _ _ _ ?_ ?_
    · rw [Bool.eq_iff_iff, decide_eq_true_eq, decide_eq_true_eq]
      unfold shP
      dsimp only
      rw [if_pos hF]
      split
      · omega
      · split <;> omega
    · intro h
      have h := of_decide_eq_true h
      unfold shP
      dsimp only
      rw [if_pos hF]
      split at h
      · omega
      · split at h
        · omega
        · rename_i h1 h2
          rw [if_neg h1, if_neg h2, if_neg h1, if_neg h2]
          omega
  · rw [decide_eq_false hF, cond_false, gPV_eq, Option.bind_some, hm]
    refine fin _ _ _ ?_ ?_
    · rw [Bool.eq_iff_iff, decide_eq_true_eq, decide_eq_true_eq]
      unfold shP
      dsimp only
      rw [if_neg hF]
      split
      · omega
      · split <;> omega
    · intro h
      have h := of_decide_eq_true h
      unfold shP
      dsimp only
      rw [if_neg hF]
      split at h
      · rename_i h1
        rw [if_pos h1]; omega
      · split at h
        · omega
        · rename_i h1 h2
          rw [if_neg h1, if_neg h2]
          omega
theorem gShiftP_eq {r : Rln} {n : Int} (hn : IOk n) (H : RlnOK r) : gShiftP r n = some ⟨r.kinds, canon (shL n r.facts)⟩ := by
  have hl := H.len
  unfold gShiftP
  rw [loop_app (l := r.facts) (shG n) 3518437208883 (fun s i x hx hs => shiftP_body hn (by omega) hx (H.per x (List.mem_of_getElem? hx)) hs) ?_ (by unfold fuel; omega) [] (by have := flat_le (shG n) (shG_len n) r.facts; simp only [List.length_nil]; omega)]
  · rw [Option.bind_some, List.nil_append]
    unfold gShiftP_K1
    dsimp only
    rw [show List.flatMap (shG n) r.facts = shL n r.facts from rfl, gRelation_canon (k := r.kinds) (by have := H.kinds; omega) (fcts_sh H.fcts n)]; rfl
  · intro s
    unfold gShiftP_B1
    dsimp only
    rw [lt_decF, cond_false]
theorem gShiftR_eq {r : Rln} {n : Int} (hn : IOk n) (H : RlnOK r) : gShiftR r n = some ⟨r.kinds, canon (shL n r.facts)⟩ := by
  have hl := H.len
  unfold gShiftR
  rw [loop_app (l := r.facts) (shG n) 3518437208883 ?_ ?_ (by unfold fuel; omega) [] (by have := flat_le (shG n) (shG_len n) r.facts; simp only [List.length_nil]; omega)]
  · rw [Option.bind_some, List.nil_append]
    unfold gShiftR_K1
    dsimp only
    rw [show List.flatMap (shG n) r.facts = shL n r.facts from rfl, gBagR_fcts (fcts_sh H.fcts n)]; rfl
  · intro s i x hx hs
    have hi := (List.getElem?_eq_some_iff.1 hx).1
    obtain ⟨q1, q2, q3⟩ := pval_facts (H.per x (List.mem_of_getElem? hx))
    have hm : mxI (-1099511627776) (mnI n 1099511627776) = max (-1099511627776) (min n 1099511627776) := by unfold mxI mnI; split <;> split <;> omega
    have hlo : mxI 0 (IntKind.i64.wrap (x.valid.lo + max (-1099511627776) (min n 1099511627776))) = (shP n x.valid).lo := by
      rw [wrap_in (by omega)]
      unfold shP mxI
      dsimp only
      split <;> omega
    unfold gShiftR_B1
    dsimp only
    rw [lt_dec hx, cond_true, getI_nat hx, Option.bind_some, wrapN (by omega), hm, hlo]
    unfold shG at hs ⊢
    by_cases hF : x.valid.hi < 1099511627776
    · have hhi : mnI 1099511627776 (IntKind.i64.wrap (x.valid.hi + max (-1099511627776) (min n 1099511627776))) = (shP n x.valid).hi := by
        rw [wrap_in (by omega)]
        unfold shP mnI
        dsimp only
        rw [if_pos hF]
        split <;> omega
      rw [decide_eq_true hF, cond_true, hhi]
      by_cases hc : (shP n x.valid).lo < (shP n x.valid).hi
      · rw [if_pos hc] at hs ⊢
        rw [decide_eq_true hc, cond_true, decide_eq_true (show s.length + 1 ≤ 3518437208883 from hs), cond_true]
      · rw [if_neg hc, decide_eq_false hc, cond_false, List.append_nil]
    · have hhi : x.valid.hi = (shP n x.valid).hi := by
        unfold shP
        dsimp only
        rw [if_neg hF]
      rw [decide_eq_false hF, cond_false]
      by_cases hc : (shP n x.valid).lo < (shP n x.valid).hi
      · rw [if_pos hc] at hs ⊢
        rw [hhi, decide_eq_true hc, cond_true, decide_eq_true (show s.length + 1 ≤ 3518437208883 from hs), cond_true]
      · rw [if_neg hc, hhi, decide_eq_false hc, cond_false, List.append_nil]
  · intro s
    unfold gShiftR_B1
    dsimp only
    rw [lt_decF, cond_false]
theorem gLawShifts_true (r : Rln) (n : Int) (hn : IOk n) : gLawShifts r n = some true := by
  obtain ⟨b, hb, hok⟩ := gFew23_sem r
  unfold gLawShifts
  rw [hb, Option.bind_some]
  cases b with
  | false => rfl
  | true =>
    have H := hok rfl
    rw [Bool.not_true, cond_false, gShiftP_eq hn H, Option.bind_some, gShiftR_eq hn H, Option.bind_some, gAlike_refl (by have := H.kinds; dsimp only; omega) (fcts_canon (fcts_sh H.fcts n))]; rfl
end Go.Proofs.YtfccopdbgfdcdaaGreatDoor
namespace Go.Proofs.YtfccopdbgfdcdaaGreatDoor
open Go.RowKit Go.MapKept
set_option maxRecDepth 100000
set_option maxHeartbeats 8000000
set_option linter.unusedVariables false
set_option linter.unusedSimpArgs false
end Go.Proofs.YtfccopdbgfdcdaaGreatDoor
namespace Go.Proofs.YtfccopdbgfdcdaaGreatDoor
open Go.RowKit Go.MapKept
set_option maxRecDepth 100000
set_option maxHeartbeats 8000000
set_option linter.unusedVariables false
set_option linter.unusedSimpArgs false
end Go.Proofs.YtfccopdbgfdcdaaGreatDoor
namespace Go.Proofs.YtfccopdbgfdcdaaGreatDoor
open Go.RowKit Go.MapKept
set_option maxRecDepth 100000
set_option maxHeartbeats 8000000
set_option linter.unusedVariables false
set_option linter.unusedSimpArgs false
end Go.Proofs.YtfccopdbgfdcdaaGreatDoor
namespace Go.Proofs.YtfccopdbgfdcdaaGreatDoor
open Go.RowKit Go.MapKept
set_option maxRecDepth 100000
set_option maxHeartbeats 8000000
set_option linter.unusedVariables false
set_option linter.unusedSimpArgs false
end Go.Proofs.YtfccopdbgfdcdaaGreatDoor
namespace Go.Proofs.YtfccopdbgfdcdaaGreatDoor
open Go.RowKit Go.MapKept
set_option maxRecDepth 100000
set_option linter.unusedVariables false
set_option linter.unusedSimpArgs false
end Go.Proofs.YtfccopdbgfdcdaaGreatDoor
namespace Go.Proofs.YtfccopdbgfdcdaaGreatDoor
open Go.RowKit Go.MapKept
set_option linter.unusedVariables false
theorem projectShifts_pure {r : Rln} {n : Int} (q0 : okRln r) (q1 : IOk n) : Pure Tryz.prog 6 [.agg (cRln r), .one (.int .i64 n)] (.val (.one (.bool true))) := gLawShifts_ok (gLawShifts_true r n q1)
end Go.Proofs.YtfccopdbgfdcdaaGreatDoor
