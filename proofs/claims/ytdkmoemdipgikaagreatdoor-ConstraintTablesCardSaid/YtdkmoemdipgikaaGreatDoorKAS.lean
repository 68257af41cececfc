/- Parts. No condition. -/
import Derived.Test.YtdkmoemdipgikaaGreatDoorKAR
set_option linter.unusedSimpArgs false
set_option linter.unusedVariables false
namespace Go.Proofs.YtdkmoemdipgikaaGreatDoor.St
open Go.RowKit
theorem Rd.take {α:Type}{enc:α→List Value}{k:Nat}{w:World}{B n j:Nat}{A:Option Addr}{l:List α}(h:Rd enc k w B A n l)(hj:j≤n):Rd enc k w B A j (l.take j):=by
 refine⟨by rw[List.length_take,h.1];omega,fun h0=>?_⟩;obtain⟨b,o,e,hb,hc⟩:=h.2 m0;refine⟨b,o,e,hb,fun i x hx=>hc i x ?_⟩;have hi:i<j:=by have:=(List.getElem?_eq_some_iff.1 hx).1;simp at this;omega
 rwa[List.getElem?_take_of_lt hi]at hx
theorem tK (w:World)(o:Obj)(nb:Nat)(h:nb=w.heap.size):(w.alloc o).heap[nb]?=some o:=by subst h;exact heap_alloc_new w o
