/- Bridges: contracts in words of memory become contracts over trees. No condition. -/
import Derived.Test.YtllenmkmompjpaaTc
import Derived.Test.YtllenmkmompjpaaStepsLevels
import Derived.Test.YtllenmkmompjpaaPlainReb
namespace Go.Proofs.Ytllenmkmompjpaa
open Go.RowKit

def cP (p : Int × Int) : List AC := [.int .i64 p.1, .int .i64 p.2]
def cI (n : Int) : List AC := [.int .i64 n]
def vP (l : List (Int × Int)) : AC := .lst (l.map cP)
def vI (l : List Int) : AC := .lst (l.map cI)

section
variable {P : Program} {R : PH} {w : World}
/-- A tree of pairs reads as pairs. -/
theorem rd_of (hR : ∀ b o u, R b o = some u → w.cell? ⟨b, o, none⟩ = some u) {v : Value} {l : List (Int × Int)} (h : PRep R v (vP l)) : ∃ A c, v = .slice A l.length c ∧ Rd e2 2 w w.heap.size A l.length l := by
  obtain ⟨a, c, news, rfl, hc, hcells, hreg⟩ := lst_cells (k := 2) h (by intro e he; simp only [List.mem_map] at he; obtain ⟨x, _, rfl⟩ := he; rfl)
  refine ⟨a, c, by simp, rfl, fun hp => ?_⟩
  obtain ⟨b, o, rfl, hb⟩ := hreg (by simpa using hp)
  have key : ∀ (i : Nat) x, l[i]? = some x → w.cell? ⟨b, o + (i * 2 + 0), none⟩ = some (.int .i64 x.1) ∧ w.cell? ⟨b, o + (i * 2 + 1), none⟩ = some (.int .i64 x.2) := by
    intro i x hx
    have he : (l.map cP)[i]? = some (cP x) := by rw [List.getElem?_map, hx]; rfl
    obtain ⟨u0, h0, p0⟩ := hcells.get i _ 0 _ he rfl
    obtain ⟨u1, h1, p1⟩ := hcells.get i _ 1 _ he rfl
    cases p0; cases p1
    exact ⟨hR _ _ _ (hb _ _ h0), hR _ _ _ (hb _ _ h1)⟩
  refine ⟨b, o, rfl, ?_, fun i x hx j u hu => ?_⟩
  · obtain ⟨x, hx⟩ := get_of_lt hp
    exact lt_of_cell (key 0 x hx).1
  · have := key i x hx
    match j, hu with
    | 0, hu => simp [e2] at hu; subst hu; exact this.1
    | 1, hu => simp [e2] at hu; subst hu; exact this.2
    | j + 2, hu => simp [e2] at hu
theorem rd_of1 (hR : ∀ b o u, R b o = some u → w.cell? ⟨b, o, none⟩ = some u) {v : Value} {l : List Int} (h : PRep R v (vI l)) : ∃ A c, v = .slice A l.length c ∧ Rd e1 1 w w.heap.size A l.length l := by
  obtain ⟨a, c, news, rfl, hc, hcells, hreg⟩ := lst_cells (k := 1) h (by intro e he; simp only [List.mem_map] at he; obtain ⟨x, _, rfl⟩ := he; rfl)
  refine ⟨a, c, by simp, rfl, fun hp => ?_⟩
  obtain ⟨b, o, rfl, hb⟩ := hreg (by simpa using hp)
  have key : ∀ (i : Nat) x, l[i]? = some x → w.cell? ⟨b, o + (i * 1 + 0), none⟩ = some (.int .i64 x) := by
    intro i x hx
    have he : (l.map cI)[i]? = some (cI x) := by rw [List.getElem?_map, hx]; rfl
    obtain ⟨u0, h0, p0⟩ := hcells.get i _ 0 _ he rfl
    cases p0
    exact hR _ _ _ (hb _ _ h0)
  refine ⟨b, o, rfl, ?_, fun i x hx j u hu => ?_⟩
  · obtain ⟨x, hx⟩ := get_of_lt hp
    exact lt_of_cell (key 0 x hx)
  · have := key i x hx
    match j, hu with
    | 0, hu => simp [e1] at hu; subst hu; exact this
    | j + 1, hu => simp [e1] at hu

def newR (R : PH) (w w' : World) : PH := fun b o => if b < w.heap.size then R b o else w'.cell? ⟨b, o, none⟩
theorem newR_ext (hR : ∀ b o u, R b o = some u → w.cell? ⟨b, o, none⟩ = some u) {w' : World} (hg : Gr w w') : Ext (· < w.heap.size) R (newR R w w') w w' ∧ ∀ b o u, newR R w w' b o = some u → w'.cell? ⟨b, o, none⟩ = some u := by
  refine ⟨⟨Kept.of hg.out, fun b o u h => ?_, fun b o hb => ?_⟩, fun b o u h => ?_⟩
  · have := lt_of_cell (hR b o u h)
    unfold newR; rw [if_pos this]; exact h
  · unfold newR; rw [if_pos hb]
  · unfold newR at h
    split at h
    · rename_i hb; rw [hg.cells.1 b o hb]; exact hR _ _ _ h
    · exact h
theorem own_prep {w' : World} {E : TypeId} {v : Value} {l : List (Int × Int)} (ho : Own e2 2 E w' w.heap.size v l) : PRep (newR R w w') v (vP l) := by
  obtain ⟨A, c, rfl⟩ := ho.form
  have hrd := ho.rds e2_len
  have hlt := World.ownsRow.lt ho
  have hc : l.length ≤ c := by
    rcases ho.2 with ⟨hv, hn⟩ | ⟨g, cap, cur, hv, _, _, hle, _⟩
    · omega
    · injection hv with _ _ h3; omega
  by_cases hz : l.length = 0
  · have : l = [] := List.eq_nil_of_length_eq_zero hz
    subst this
    exact prep_nil _ _ _
  · obtain ⟨b, o, rfl, hb, hcell⟩ := hrd.2 (by omega)
    have hge : w.heap.size ≤ b := (hlt b rfl).1
    have key : ∀ (i : Nat) x, l[i]? = some x → newR R w w' b (o + (i * 2 + 0)) = some (.int .i64 x.1) ∧ newR R w w' b (o + (i * 2 + 1)) = some (.int .i64 x.2) := by
      intro i x hx
      unfold newR
      rw [if_neg (by omega), if_neg (by omega), ← Nat.add_assoc, ← Nat.add_assoc]
      exact ⟨hcell i x hx 0 _ rfl, hcell i x hx 1 _ rfl⟩
    refine .lst _ _ _ _ 2 (fun j => (newR R w w' b (o + j)).getD Go.undef) b o (by simp) hc (by intro e he; simp only [List.mem_map] at he; obtain ⟨x, _, rfl⟩ := he; rfl) (fun _ => rfl) (fun j hj => ?_) (fun i e j y he hy => ?_)
    · have hi : j / 2 < l.length := by omega
      have hx : l[j / 2]? = some l[j / 2] := List.getElem?_eq_getElem hi
      have := key _ _ hx
      have hm : j = j / 2 * 2 + j % 2 := by omega
      rcases Nat.mod_two_eq_zero_or_one j with h0 | h0
      · rw [h0] at hm; rw [hm, this.1]; rfl
      · rw [h0] at hm; rw [hm, this.2]; rfl
    · rw [List.getElem?_map] at he
      cases hx : l[i]? with
      | none => simp [hx] at he
      | some x =>
        rw [hx] at he; simp only [Option.map_some, Option.some.injEq] at he; subst he
        have := key i x hx
        match j, hy with
        | 0, hy => simp [cP] at hy; subst hy; rw [this.1]; exact .int _ _
        | 1, hy => simp [cP] at hy; subst hy; rw [this.2]; exact .int _ _
        | j + 2, hy => simp [cP] at hy
theorem own_prep1 {w' : World} {E : TypeId} {v : Value} {l : List Int} (ho : Own e1 1 E w' w.heap.size v l) : PRep (newR R w w') v (vI l) := by
  obtain ⟨A, c, rfl⟩ := ho.form
  have hrd := ho.rds e1_len
  have hlt := World.ownsRow.lt ho
  have hc : l.length ≤ c := by
    rcases ho.2 with ⟨hv, hn⟩ | ⟨g, cap, cur, hv, _, _, hle, _⟩
    · omega
    · injection hv with _ _ h3; omega
  by_cases hz : l.length = 0
  · have : l = [] := List.eq_nil_of_length_eq_zero hz
    subst this
    exact prep_nil _ _ _
  · obtain ⟨b, o, rfl, hb, hcell⟩ := hrd.2 (by omega)
    have hge : w.heap.size ≤ b := (hlt b rfl).1
    have key : ∀ (i : Nat) x, l[i]? = some x → newR R w w' b (o + (i * 1 + 0)) = some (.int .i64 x) := by
      intro i x hx
      unfold newR
      rw [if_neg (by omega), ← Nat.add_assoc]
      exact hcell i x hx 0 _ rfl
    refine .lst _ _ _ _ 1 (fun j => (newR R w w' b (o + j)).getD Go.undef) b o (by simp) hc (by intro e he; simp only [List.mem_map] at he; obtain ⟨x, _, rfl⟩ := he; rfl) (fun _ => rfl) (fun j hj => ?_) (fun i e j y he hy => ?_)
    · have hi : j < l.length := by omega
      have hx : l[j]? = some l[j] := List.getElem?_eq_getElem hi
      have := key _ _ hx
      simp only [Nat.mul_one, Nat.add_zero] at this
      rw [this]; rfl
    · rw [List.getElem?_map] at he
      cases hx : l[i]? with
      | none => simp [hx] at he
      | some x =>
        rw [hx] at he; simp only [Option.map_some, Option.some.injEq] at he; subst he
        have := key i x hx
        match j, hy with
        | 0, hy => simp [cI] at hy; subst hy; rw [this]; exact .int _ _
        | j + 1, hy => simp [cI] at hy
end

theorem two_args {vs : Array Value} {p q : PV} (h : vs.size = [p, q].length) : ∃ v u, vs = #[v, u] := by
  obtain ⟨l⟩ := vs
  match l, h with
  | [a, b], _ => exact ⟨a, b, rfl⟩
theorem fine_pure (l : List (Int × Int)) : Pure Try.prog 15 [.one (vP l)] (vBool (fineB l.length l)) := by
  refine ⟨⟨_, Try.func15, rfl, rfl⟩, fun R w vs hR hs hv => ?_⟩
  obtain ⟨v, rfl⟩ : ∃ v, vs = #[v] := ⟨vs[0]'(by rw [hs]; simp), by apply Array.ext <;> simp_all⟩
  obtain ⟨A, c, rfl, ha⟩ := rd_of hR (hv 0 v _ rfl rfl)
  refine (fine_any A _ c l w ha).mono ?_
  rintro e w' ⟨rfl, hg⟩
  exact ⟨_, _, rfl, (newR_ext hR hg).1, (newR_ext hR hg).2, .bool _⟩
theorem greatest_pure (l : List (Int × Int)) (hn : l.length ≤ 1000000) : Pure Try.prog 19 [.one (vP l)] (vInt (greatest l)) := by
  refine ⟨⟨_, Try.func19, rfl, rfl⟩, fun R w vs hR hs hv => ?_⟩
  obtain ⟨v, rfl⟩ : ∃ v, vs = #[v] := ⟨vs[0]'(by rw [hs]; simp), by apply Array.ext <;> simp_all⟩
  obtain ⟨A, c, rfl, ha⟩ := rd_of hR (hv 0 v _ rfl rfl)
  refine (greatest_ref A _ c l w ha hn).mono ?_
  rintro e w' ⟨rfl, hg⟩
  exact ⟨_, _, rfl, (newR_ext hR hg).1, (newR_ext hR hg).2, .int _ _⟩
theorem awake_pure : Pure Try.prog 11 [] (vBool true) := by
  refine ⟨⟨_, Try.func11, rfl, rfl⟩, fun R w vs hR hs hv => ?_⟩
  obtain rfl : vs = #[] := by apply Array.ext <;> simp_all
  refine (awake_any w).mono ?_
  rintro e w' ⟨rfl, hg⟩
  exact ⟨_, _, rfl, (newR_ext hR hg).1, (newR_ext hR hg).2, .bool _⟩
theorem atl_pure (l : List (Int × Int)) (n : Int) (hn : l.length ≤ 100000) (hasc : Asc l) (hF : ∀ s ∈ l, s.1 < 1099511627776) : Pure Try.prog 17 [.one (vP l), .one (.int .i64 n)] (.val (.one (vP (atl l n)))) := by
  refine ⟨⟨_, Try.func17, rfl, rfl⟩, fun R w vs hR hs hv => ?_⟩
  obtain ⟨v, u, rfl⟩ := two_args hs
  obtain ⟨A, c, rfl, ha⟩ := rd_of hR (hv 0 v _ rfl rfl)
  have h1 := hv 1 u _ rfl rfl
  cases h1
  refine (atl_prog A _ c l n w ha hn hasc hF).mono ?_
  rintro e w' ⟨A', m', c', rfl, ho, hg⟩
  exact ⟨_, _, rfl, (newR_ext hR hg).1, (newR_ext hR hg).2, own_prep ho⟩
theorem lev_pure (l : List (Int × Int)) (hn : l.length ≤ 1000) (hasc : Asc l) (hF : ∀ s ∈ l, s.1 < 1099511627776) (hM : ∀ s ∈ l, s.2 ≤ 12) : Pure Try.prog 20 [.one (vP l)] (.val (.one (vP (levM l)))) := by
  refine ⟨⟨_, Try.func20, rfl, rfl⟩, fun R w vs hR hs hv => ?_⟩
  obtain ⟨v, rfl⟩ : ∃ v, vs = #[v] := ⟨vs[0]'(by rw [hs]; simp), by apply Array.ext <;> simp_all⟩
  obtain ⟨A, c, rfl, ha⟩ := rd_of hR (hv 0 v _ rfl rfl)
  refine (lev_prog A _ c l w ha hn hasc hF hM).mono ?_
  rintro e w' ⟨A', m', c', rfl, ho, hg⟩
  exact ⟨_, _, rfl, (newR_ext hR hg).1, (newR_ext hR hg).2, own_prep ho⟩
theorem insert_pure (l : List Int) (z : Int) (hn : l.length ≤ 1000000) : Pure Try.prog 46 [.one (vI l), .one (.int .i64 z)] (.val (.one (vI (ins z l)))) := by
  refine ⟨⟨_, Try.func46, rfl, rfl⟩, fun R w vs hR hs hv => ?_⟩
  obtain ⟨v, u, rfl⟩ := two_args hs
  obtain ⟨A, c, rfl, ha⟩ := rd_of1 hR (hv 0 v _ rfl rfl)
  have h1 := hv 1 u _ rfl rfl
  cases h1
  refine (insert_ref A _ c l z w ha hn).mono ?_
  rintro e w' ⟨A', m', c', rfl, ho, hg⟩
  exact ⟨_, _, rfl, (newR_ext hR hg).1, (newR_ext hR hg).2, own_prep1 ho⟩
end Go.Proofs.Ytllenmkmompjpaa
