/- Parts of the proof, joined. No condition. -/
import Derived.Test.YtlcceppoloaecaaGreatDoorKAA
import Derived.Test.YtlcceppoloaecaaGreatDoorKBK
import Derived.Test.YtlcceppoloaecaaGreatDoorKBM
import Derived.Test.YtlcceppoloaecaaGreatDoorKBN
import Derived.Test.YtlcceppoloaecaaGreatDoorKBO
set_option linter.unusedSimpArgs false
set_option linter.unusedVariables false
namespace Go.Proofs.YtlcceppoloaecaaGreatDoor.Aw
open Go.RowKit Go.MapKept
set_option maxRecDepth 100000
structure Call where
 f:FuncId
 ps:List PV
 r:CV
def O_:List Call:=[⟨12,Uw,Uk⟩,⟨14,TS,Uo⟩,⟨18,asc,TP⟩,⟨20,asd,TH⟩,⟨22,UC,T_⟩,⟨24,TK,Uz⟩]
def H8 (g:FuncId) (ps:List PV):List Call->Option CV
 | []=>none
 | c::l=>match Nat.beq c.f g&&qF Fz c.ps ps with
  | true=>some c.r
  | false=>H8 g ps l
theorem ED {g:FuncId} {ps:List PV} {r:CV} : ∀ {l:List Call}, (∀ c∈l,Pure Tryz.prog c.f c.ps c.r)->H8 g ps l=some r->Pure Tryz.prog g ps r
 | [],_,h=>by cases h
 | c::l,hl,h=>by
  unfold H8 at h
  split at h
  ·rename_i hc
   cases h
   rw [Vu] at hc
   have h1:=hl c (VU ..)
   rw [Nat.eq_of_beq_eq_true hc.1,fZ Hu _ _ hc.2] at h1
   exact h1
  ·exact ED (fun d hd=>hl d (VA _ hd)) h
theorem Nr : ∀ c∈O_,Pure Tryz.prog c.f c.ps c.r:=by
 intro c hc
 simp only [O_,Vt,List.not_mem_nil,or_false] at hc
 rcases hc with rfl|rfl|rfl|rfl|rfl|rfl
 ·exact Sz
 ·exact Q7
 ·exact Sm
 ·exact RP
 ·exact Rx
 ·exact Rv
def P7:FuncId->List PV->Option CV:=fun g ps=>match H8 g ps O_ with
 | some r=>some r
 | none=>JA g ps
theorem Nh (g:FuncId) (ps:List PV) (r:CV) (h:P7 g ps=some r):Pure Tryz.prog g ps r:=by
 unfold P7 at h
 split at h
 ·rename_i r' h1
  cases h
  exact ED Nr h1
 ·exact GQ g ps r h
noncomputable def Ua:Cx := { cx with orc:=P7 }
theorem Ip:mX Ua Tryz.prog.funcs.toList 0=true:=by kernel_rfl
theorem PD:sO Ua:=sO.of ae ⟨H_,Ig⟩ mixed rJ Ip (Nh)
theorem Io:(Jw Ua 64).1 10 []=some (.val (.one (.bool true))):=by kernel_rfl
theorem gy:Pure Tryz.prog 10 [] (.val (.one (.bool true))):=(iw PD 64).1 _ _ _ Io
end Go.Proofs.YtlcceppoloaecaaGreatDoor.Aw
