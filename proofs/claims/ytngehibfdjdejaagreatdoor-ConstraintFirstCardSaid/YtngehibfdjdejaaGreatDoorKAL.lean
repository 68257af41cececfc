/- Parts of the proof, joined. No condition. -/
import Derived.Test.YtngehibfdjdejaaGreatDoorKAK
import Derived.Test.YtngehibfdjdejaaGreatDoorKAI
set_option linter.unusedSimpArgs false
set_option linter.unusedVariables false
namespace Go.Proofs.YtngehibfdjdejaaGreatDoor
open Go.RowKit Go.MapKept
set_option maxRecDepth 100000
def row1:AC := .lst [[.int .i64 1, .int .i64 1, .str ⟨#[]⟩],[.int .i64 0, .int .i64 0, .str ⟨#[]⟩]]
def row2:AC := .lst [[.int .i64 1, .int .i64 2, .str ⟨#[]⟩],[.int .i64 1, .int .i64 0, .str ⟨#[]⟩]]
def row3:AC := .lst [[.int .i64 1, .int .i64 2, .str ⟨#[]⟩],[.int .i64 1, .int .i64 5, .str ⟨#[]⟩]]
def smT:PV := .agg [.str ⟨#[116]⟩, .lst [[.str ⟨#[97]⟩, .int .i64 1, .bool false],[.str ⟨#[98]⟩, .int .i64 1, .bool false]], .lst [[.int .i64 0]], .lst [], .lst [[.int .i64 11, .int .i64 0, .int .i64 0, .int .i64 0, .str ⟨#[]⟩, .str ⟨#[]⟩, .lst [[.int .i64 2, .int .i64 1, .int .i64 0, .int .i64 0, .str ⟨#[]⟩, .str ⟨#[]⟩, .lst []],[.int .i64 1, .int .i64 0, .int .i64 1, .int .i64 0, .str ⟨#[]⟩, .str ⟨#[]⟩, .lst []]]]]]
def smF:PV := .one (.lst [[row1, .int .i64 0, .int .i64 3],[row2, .int .i64 1, .int .i64 4],[row3, .int .i64 3, .int .i64 6]])
def vC:CV := .val (.one (.lst [[.int .i64 4, .str ⟨#[116]⟩, .int .i64 0,row2, .int .i64 1, .int .i64 4]]))
def vV:CV := .val (.one (.lst [[.int .i64 2, .str ⟨#[116]⟩, .int .i64 0,row2, .int .i64 3, .int .i64 4],[.int .i64 2, .str ⟨#[116]⟩, .int .i64 0,row3, .int .i64 3, .int .i64 4]]))
def vT:CV := .val (.one (.lst [[.int .i64 1, .str ⟨#[116]⟩, .int .i64 1,row1, .int .i64 0, .int .i64 3],[.int .i64 2, .str ⟨#[116]⟩, .int .i64 0,row2, .int .i64 3, .int .i64 4],[.int .i64 2, .str ⟨#[116]⟩, .int .i64 0,row3, .int .i64 3, .int .i64 4],[.int .i64 4, .str ⟨#[116]⟩, .int .i64 0,row2, .int .i64 1, .int .i64 4]]))
noncomputable def cpE:CP:=(evF cx 64).1
noncomputable def crE:CR:=(evF cx 64).2
theorem cpE_ok : ∀ g ps r,cpE g ps=some r→Pure cx.P g ps r:=(evF_ok cx_ok 64).1
theorem crE_ok : ∀ g L zs L1 r,crE g L zs=some (L1,r)→RunAll cx.P g L zs L1 r:=(evF_ok cx_ok 64).2
theorem some3 {α β γ:Type} (d:α) (e:β) (f:γ) {x:Option (α × β × γ)} (h:x.isSome=true):x=some ((x.map (·.1)).getD d,(x.map (·.2.1)).getD e,(x.map (·.2.2)).getD f):=by
 cases x with
 | none=>cases h
 | some y=>rfl
theorem some2 {α β:Type} (e:β) {a:α} {x:Option (α × β)} (h:x.map (·.1)=some a):x=some (a,(x.map (·.2)).getD e):=by
 cases x with
 | none=>cases h
 | some y=>obtain ⟨u,v⟩:=y;cases h;rfl
end Go.Proofs.YtngehibfdjdejaaGreatDoor
