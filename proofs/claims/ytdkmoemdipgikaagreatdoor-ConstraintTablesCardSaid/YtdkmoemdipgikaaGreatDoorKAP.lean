/- Parts. No condition. -/
import Derived.Test.YtdkmoemdipgikaaGreatDoorKAL
set_option linter.unusedSimpArgs false
set_option linter.unusedVariables false
namespace Go.Proofs.YtdkmoemdipgikaaGreatDoor.St
open Go.RowKit
theorem z_:(Tryz.prog.info? 164).map (fun i=>(i.zero,i.size,i.bytes))=some (some (.agg #[.int .i64 0,.int .i64 0]),2,16):=k7
theorem uB {w:World}{ops:Array Oper}{rest:List Oper}{o:Oper}{a:Act}{Q:Exit→Act→World→Prop}{cs:Array Value}(hgd:o.guard=none)(s x:Operand)
  (ho:o.op = .call { callee := .builtin .append,args :=#[s,x],argTypes :=#[88,88] }) (base:Nat) (v:Value) (l:List (Int×Int)) (hs:a.eval s=v) (hown:Own e2 2 164 w base v l) (xs:List (Int×Int)) (c:Nat)
  (hx:a.eval x = .slice (some ⟨w.heap.size,0,none⟩) xs.length c) (hcs:cs=(xs.flatMap e2).toArray) (hlen:l.length+xs.length≤1000000000) (hbase:base≤w.heap.size)
  (h:∀ A n c w',Own e2 2 164 w' base (.slice A n c) (l++xs)→Below base w w'→wpList Tryz.prog ops Q rest (a.put o.dst (.slice A n c)) w') :
  wpList Tryz.prog ops Q (o::rest) a (w.alloc (.cells cs 164)):=by
 obtain⟨i0,hi,hz0,hz1,hz2⟩:=info_parts z_;exact oj hgd s x 88 ho i0 _ 16 Tryz.underlying88 hi hz0 hz1 hz2 rfl m0 dy lS v l hs hown xs c hx hcs m0 m0 hbase h
def bO (l:List (Int×Int))(p:Int×Int):List (Int×Int):=if (l.getLast?.map (·.2))=some p.2 then l else l++[p]
theorem uI (l:List (Int×Int))(p:Int×Int):l.length≤(bO l p).length∧(bO l p).length≤l.length+1:=by
 unfold bO;split<;>simp
theorem pI {α:Type}{l:List α}{x:α}(h:l[l.length-1]?=some x):l.getLast?=some x:=by rw[List.getLast?_eq_getElem?];exact h
set_option maxHeartbeats 1000000 in
theorem mL (base:Nat)(A:Option Addr)(m c:Nat)(l:List (Int×Int))(at_ n:Int)(w:World)(ho:Own e2 2 164 w base (.slice A m c) l)(hn:m≤1000000)(hbase:base≤w.heap.size) :
  Calls Tryz.prog 179 #[.slice A m c,.int .i64 at_,.int .i64 n] w fun e w' =>∃ A' m' c',e = .returned (.slice A' m' c')∧Own e2 2 164 w' base (.slice A' m' c') (bO l (at_,n))∧Below base w w':=by
 have ha:=ho.rds dy;have hmp:=Lib.hid ho.len;by_cases h0:0<m
 ·obtain⟨b1,o1,x1,y1,rfl,hb1,hx1,c1,c2⟩:=ha.at2 (i:=m-1) m0
  have hlast:l.getLast?=some (x1,y1):=pI (by rw[hmp.out];exact hx1);have h0b:decide (0<(m:Int))=true:=by simpa using h0
  by_cases hy:y1=n
  ·have hyb:(y1==n)=true:=by simpa using hy
   have hp:bO l (at_,n)=l:=by unfold bO;rw[if_pos (by rw[hlast,hy];rfl)]
   have HP:=Lib.hid hp;clear hp hlast hx1 hy
   go_enter Tryz.func179,Tryz.ntmps179
   go_wp2
   go_ret
   rw[HP.out];exact⟨_,_,_,rfl,ho,Below.refl _ _⟩
  ·have hyb:(y1==n)=false:=by simpa using hy
   have hp:bO l (at_,n)=l++[(at_,n)]:=by unfold bO;rw[if_neg (by rw[hlast];simpa using hy)]
   have HP:=Lib.hid hp;clear hp hlast hx1 hy
   go_enter Tryz.func179,Tryz.ntmps179
   go_wp2_with (at_builtin;refine uB rfl (.tmp 23) (.tmp 27) rfl base (.slice (some ⟨b1,o1,none⟩) m c) l rfl ho [(at_,n)] 1 rfl rfl (by rw[hmp.out];simp;omega) hbase ?_;intro A' n' c' w1 hown hbel)
   go_ret
   rw[HP.out];exact⟨_,_,_,rfl,hown,hbel⟩
 ·obtain rfl:m=0:=m0
  have hl:l=[]:=List.eq_nil_of_length_eq_zero hmp.out;subst hl
  go_enter Tryz.func179,Tryz.ntmps179
  go_wp2_with (at_builtin;refine uB rfl (.tmp 23) (.tmp 27) rfl base (.slice A 0 c) [] rfl ho [(at_,n)] 1 rfl rfl m5 hbase ?_;intro A' n' c' w1 hown hbel)
  go_ret
  exact⟨_,_,_,rfl,hown,hbel⟩
