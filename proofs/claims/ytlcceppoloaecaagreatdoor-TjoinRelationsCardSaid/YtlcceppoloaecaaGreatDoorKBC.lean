/- Parts of the proof, joined. No condition. -/
import Derived.Test.YtlcceppoloaecaaGreatDoorKBB
import Derived.Test.YtlcceppoloaecaaGreatDoorKAW
set_option linter.unusedSimpArgs false
set_option linter.unusedVariables false
namespace Go.Proofs.YtlcceppoloaecaaGreatDoor.St
open Go.RowKit
theorem Rd.drop {α : Type} {enc : α → List Value} {k : Nat} {w : World} {B n b o i : Nat} {l : List α} (h : Rd enc k w B (some ⟨b, o, none⟩) n l) (hi : i < n) : Rd enc k w B (some ⟨b, o + i * k, none⟩) (n - i) (l.drop i) := by
  refine ⟨by rw [List.length_drop, h.1], fun _ => ?_⟩
  obtain ⟨b', o', e, hb, hc⟩ := h.2 (by omega)
  injection e with e
  injection e with e1 e2
  subst e1 e2
  refine ⟨b, o + i * k, rfl, hb, fun q x hx j u hu => ?_⟩
  have := hc (i + q) x (by rw [← List.getElem?_drop]; exact hx) j u hu
  rw [← this, Nat.add_mul]
  congr 2; omega
end Go.Proofs.YtlcceppoloaecaaGreatDoor.St
