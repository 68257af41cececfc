/- Parts of the proof, joined. No condition. -/
import Derived.Test.YtngehibfdjdejaaGreatDoorKAM
import Derived.Test.YtngehibfdjdejaaGreatDoorKAN
import Derived.Test.YtngehibfdjdejaaGreatDoorKAO
set_option linter.unusedSimpArgs false
set_option linter.unusedVariables false
namespace Go.Proofs.YtngehibfdjdejaaGreatDoor
open Go.RowKit Go.MapKept
set_option maxRecDepth 100000
structure Call where
 f:FuncId
 ps:List PV
 r:CV
def lookA (g:FuncId) (ps:List PV):List Call→Option CV
 | []=>none
 | c::l=>match Nat.beq c.f g&&eqLs eqPv c.ps ps with
  | true=>some c.r
  | false=>lookA g ps l
theorem lookA_ok {g:FuncId} {ps:List PV} {r:CV} : ∀ {l:List Call}, (∀ c∈l,Pure Tryz.prog c.f c.ps c.r)→lookA g ps l=some r→Pure Tryz.prog g ps r
 | [],_,h=>by cases h
 | c::l,hl,h=>by
  unfold lookA at h
  split at h
  ·rename_i hc
   cases h
   rw [Bool.and_eq_true] at hc
   have h1:=hl c (List.mem_cons_self ..)
   rw [Nat.eq_of_beq_eq_true hc.1,eqLs_ok eqPv_ok _ _ hc.2] at h1
   exact h1
  ·exact lookA_ok (fun d hd=>hl d (List.mem_cons_of_mem _ hd)) h
def cpT:CP:=fun g ps=>lookA g ps [⟨14,[smT,smF],vC⟩,⟨13,[smT,smF],vV⟩]
theorem cpT_ok : ∀ g ps r,cpT g ps=some r→Pure cx.P g ps r:=by
 intro g ps r h
 refine lookA_ok (l:=[_,_]) ?_ h
 intro c hc
 simp only [List.mem_cons,List.not_mem_nil,or_false] at hc
 rcases hc with rfl|rfl
 ·exact checks_pure
 ·exact violations_pure
noncomputable def crT:CR:=fun g L zs=>match Nat.beq g 12&&eqLs eqAv zs nuA,L with
 | true,[.dead]=>some (nuL,nuV)
 | _,_=>none
theorem crT_ok : ∀ g L zs L1 r,crT g L zs=some (L1,r)→RunAll cx.P g L zs L1 r:=by
 intro g L zs L1 r h
 unfold crT at h
 split at h
 ·rename_i hc
  cases h
  rw [Bool.and_eq_true] at hc
  rw [Nat.eq_of_beq_eq_true hc.1,eqLs_ok eqAv_ok _ _ hc.2]
  exact nulls_run
 ·cases h
theorem table_run:pureB cx cpT crT 8 [smT,smF]=some vT:=by kernel_rfl
theorem table_pure:Pure cx.P 8 [smT,smF] vT:=pureB_ok cx_ok cpT_ok crT_ok table_run
def orcA:FuncId→List PV→Option CV:=fun g ps=>lookA g ps [⟨8,[smT,smF],vT⟩]
theorem orcA_ok (g:FuncId) (ps:List PV) (r:CV) (h:orcA g ps=some r):Pure Tryz.prog g ps r:=by
 refine lookA_ok (l:=[_]) ?_ h
 intro c hc
 simp only [List.mem_cons,List.not_mem_nil,or_false] at hc
 rw [hc];exact table_pure
noncomputable def cxA:Cx := { cx with orc:=orcA }
theorem codes_okA:codesB cxA Tryz.prog.funcs.toList 0=true:=by kernel_rfl
theorem cxA_ok:CxOK cxA:=CxOK.of tabX_ok ⟨ne_ok,cs_ok⟩ mixed names_ok codes_okA orcA_ok
theorem awake_run:(evF cxA 64).1 6 []=some (.val (.one (.bool true))):=by kernel_rfl
theorem awake_pure:Pure Tryz.prog 6 [] (.val (.one (.bool true))):=(evF_ok cxA_ok 64).1 _ _ _ awake_run
end Go.Proofs.YtngehibfdjdejaaGreatDoor
