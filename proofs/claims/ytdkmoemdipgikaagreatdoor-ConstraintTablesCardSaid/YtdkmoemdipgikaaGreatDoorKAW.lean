/- Parts. No condition. -/
import Derived.Test.YtdkmoemdipgikaaGreatDoorKAU
import Derived.Deep.RegionLaw
set_option linter.unusedSimpArgs false
set_option linter.unusedVariables false
namespace Go.Proofs.YtdkmoemdipgikaaGreatDoor.St
open Go.RowKit
theorem Own.cap {α:Type}{enc:α→List Value}{k:Nat}{w:World}{E:TypeId}{base n c:Nat}{A:Option Addr}{l:List α}(h:Own enc k E w base (.slice A n c) l):n≤c:=by
 rcases h.2 with⟨hv,_⟩|⟨g,cap,cur,hv,_,_,hc,_⟩
 ·injection hv with h1 h2 h3;omega
 ·injection hv with h1 h2 h3;omega
