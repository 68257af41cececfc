/- Parts of the proof, joined. No condition. -/
import Derived.Test.YtngehibfdjdejaaGreatDoorKAL
set_option linter.unusedSimpArgs false
set_option linter.unusedVariables false
namespace Go.Proofs.YtngehibfdjdejaaGreatDoor
open Go.RowKit Go.MapKept
set_option maxRecDepth 100000
noncomputable def chR:Option (CV × List Ent):=pureG cx cpE crE 14 [smT,smF]
noncomputable def chG:List Ent:=(chR.map (·.2)).getD []
theorem chR_run:chR.map (·.1)=some vC:=by kernel_rfl
theorem chG_all:chG.all (fun e=>(itE cx cpE crE 14 e 0).isSome)=true:=by kernel_rfl
theorem chG_eq (l:Nat):chG.map (fun e=>itE cx cpE crE 14 e l)=chG.map (fun e=>itR (itE cx cpE crE 14 e 0) l):=by kernel_rfl
theorem checks_pure:Pure cx.P 14 [smT,smF] vC:=pureG_ok cx_ok cpE_ok crE_ok (some2 [] chR_run) (okE_of chG_all chG_eq)
end Go.Proofs.YtngehibfdjdejaaGreatDoor
