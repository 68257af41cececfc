/- Parts of the proof, joined. No condition. -/
import Derived.Test.YtngehibfdjdejaaGreatDoorKAL
set_option linter.unusedSimpArgs false
set_option linter.unusedVariables false
namespace Go.Proofs.YtngehibfdjdejaaGreatDoor
open Go.RowKit Go.MapKept
set_option maxRecDepth 100000
def avOf:PV→AV
 | .one x => .one (.c x)
 | .agg xs => .agg (xs.map .c)
def nuA:List AV:=[avOf smT,avOf smF]
noncomputable def nuR:Option (List Ob × AV × List Ent):=runG cx cpE crE 12 [.dead] nuA
noncomputable def nuL:List Ob:=(nuR.map (·.1)).getD []
noncomputable def nuV:AV:=(nuR.map (·.2.1)).getD .undef
noncomputable def nuG:List Ent:=(nuR.map (·.2.2)).getD []
theorem nuR_some:nuR.isSome=true:=by kernel_rfl
theorem nuG_all:nuG.all (fun e=>(itE cx cpE crE 12 e 0).isSome)=true:=by kernel_rfl
theorem nuG_eq (l:Nat):nuG.map (fun e=>itE cx cpE crE 12 e l)=nuG.map (fun e=>itR (itE cx cpE crE 12 e 0) l):=by kernel_rfl
theorem nuR_eq:nuR=some (nuL,nuV,nuG):=some3 ([]:List Ob) AV.undef ([]:List Ent) nuR_some
theorem nulls_run:RunAll cx.P 12 [.dead] nuA nuL nuV:=runG_ok cx_ok cpE_ok crE_ok nuR_eq (okE_of nuG_all nuG_eq)
end Go.Proofs.YtngehibfdjdejaaGreatDoor
