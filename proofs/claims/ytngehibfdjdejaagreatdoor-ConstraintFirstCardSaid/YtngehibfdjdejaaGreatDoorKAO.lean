/- Parts of the proof, joined. No condition. -/
import Derived.Test.YtngehibfdjdejaaGreatDoorKAL
set_option linter.unusedSimpArgs false
set_option linter.unusedVariables false
namespace Go.Proofs.YtngehibfdjdejaaGreatDoor
open Go.RowKit Go.MapKept
set_option maxRecDepth 100000
noncomputable def mcE:MC:=fun g L zs=>match Nat.beq g 20 with
 | true=>runW cx cpE crE g L zs
 | false=>none
theorem mcE_ok : ∀ g L zs outs,mcE g L zs=some outs→RunM cx.P g L zs outs:=by
 intro g L zs outs h
 unfold mcE at h
 split at h
 ·exact runW_ok cx_ok cpE_ok crE_ok h
 ·cases h
theorem vio_run:pureW cx cpE crE mcE 13 [smT,smF]=some [some vV,some vV]:=by kernel_rfl
theorem violations_pure:Pure cx.P 13 [smT,smF] vV:=pureW_ok cx_ok cpE_ok crE_ok mcE_ok vio_run (by intro x hx;simp at hx;exact hx)
end Go.Proofs.YtngehibfdjdejaaGreatDoor
