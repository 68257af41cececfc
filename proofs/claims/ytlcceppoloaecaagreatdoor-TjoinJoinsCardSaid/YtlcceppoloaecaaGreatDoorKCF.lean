/- Parts of the proof, joined. No condition. -/
import Derived.Test.YtlcceppoloaecaaGreatDoorKAA
import Derived.Test.YtlcceppoloaecaaGreatDoorKBW
import Derived.Test.YtlcceppoloaecaaGreatDoorKBZ
import Derived.Test.YtlcceppoloaecaaGreatDoorKCA
import Derived.Test.YtlcceppoloaecaaGreatDoorKCB
set_option linter.unusedSimpArgs false
set_option linter.unusedVariables false
namespace Go.Proofs.YtlcceppoloaecaaGreatDoor.Aw
open Go.RowKit Go.MapKept
set_option maxRecDepth 100000
structure Call where
 f:FuncId
 ps:List PV
 r:CV
def alK:List Call:=[⟨12,asa,rsa⟩,⟨14,asb,rsb⟩,⟨18,asc,rsc⟩,⟨20,asd,rsd⟩,⟨22,ase,rse⟩,⟨24,asf,rsf⟩]
def abZ (g:FuncId) (ps:List PV):List Call->Option CV
 | []=>none
 | c::l=>match Nat.beq c.f g&&Ep aan c.ps ps with
  | true=>some c.r
  | false=>abZ g ps l
theorem Ye {g:FuncId} {ps:List PV} {r:CV} : ∀ {l:List Call}, (∀ c∈l,Pure Tryz.prog c.f c.ps c.r)->abZ g ps l=some r->Pure Tryz.prog g ps r
 | [],_,h=>by cases h
 | c::l,hl,h=>by
  unfold abZ at h
  split at h
  ·rename_i hc
   cases h
   rw [aqg] at hc
   have h1:=hl c (aqM ..)
   rw [Nat.eq_of_beq_eq_true hc.1,ng ace _ _ hc.2] at h1
   exact h1
  ·exact Ye (fun d hd=>hl d (aqm _ hd)) h
theorem akF : ∀ c∈alK,Pure Tryz.prog c.f c.ps c.r:=by
 intro c hc
 simp only [alK,aqf,List.not_mem_nil,or_false] at hc
 rcases hc with rfl|rfl|rfl|rfl|rfl|rfl
 ·exact anX
 ·exact ant
 ·exact an7
 ·exact aog
 ·exact anR
 ·exact anv
def ami:FuncId->List PV->Option CV:=fun g ps=>match abZ g ps alK with
 | some r=>some r
 | none=>aes g ps
theorem ajc (g:FuncId) (ps:List PV) (r:CV) (h:ami g ps=some r):Pure Tryz.prog g ps r:=by
 unfold ami at h
 split at h
 ·rename_i r' h1
  cases h
  exact Ye akF h1
 ·exact ac0 g ps r h
noncomputable def cxA:Cx := { cx with orc:=ami }
theorem afK:BA cxA Tryz.prog.funcs.toList 0=true:=by kernel_rfl
theorem al6:Jo cxA:=Jo.of aj ⟨acN,ac3⟩ mixed Gu afK (ajc)
theorem aeX:(evF cxA 64).1 10 []=some (.val (.one (.bool true))):=by kernel_rfl
theorem dG:Pure Tryz.prog 10 [] (.val (.one (.bool true))):=(oz al6 64).1 _ _ _ aeX
end Go.Proofs.YtlcceppoloaecaaGreatDoor.Aw
