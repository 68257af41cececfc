/- Parts. No condition. -/
import Derived.Test.YtdkmoemdipgikaaGreatDoorKAU
set_option linter.unusedSimpArgs false
set_option linter.unusedVariables false
namespace Go.Proofs.YtdkmoemdipgikaaGreatDoor.St
open Go.RowKit
def nt (y:Int):Nat:=(if y<0 then 0 else y).toNat
def bnd (l:List (Int×Int))(i:Nat):Int:=((l[i]?).map (·.1)).getD 1099511627776
theorem aa1 {l:List (Int×Int)}{n:Int}{k:Nat}{x y:Int}(hx:l[k]?=some (x,y)):xJ l n (k+1)=if n<=y then eL (xJ l n k) (x,bnd l (k+1))else xJ l n k:=by
 rw[yc hx];rfl
theorem uF (E:List Int)(a:Int)(n:Nat):(BJ E a n).length=n:=by unfold BJ;simp;omega
theorem I7 {E:List Int}{a:Int}{n j:Nat}(hj:j<n):(BJ E a n)[j]?=if j<E.length then E[j]? else some a:=by
 unfold BJ;by_cases h:j<E.length
 ·rw[if_pos h,amK m8,List.getElem?_take_of_lt hj]
 ·rw[if_neg h,amD m8,List.getElem?_replicate,if_pos m8]
def af8 (l:List (Int×Int))(E:List Int)(i:Nat)(j:Nat)(C:List (Int×Int)):Prop :=
 (∃ e,E[j]?=some e/\xJ l ((j:Int)+1) i=C++[(e,bnd l i)])\/(E[j]?=none/\xJ l ((j:Int)+1) i=C /\ ∀ p∈C,p.2<bnd l i)
theorem aer {l:List (Int×Int)}{i:Nat}{x y:Int}(hx:l[i]?=some (x,y)):bnd l i=x:=by unfold bnd;rw[hx];rfl
theorem aip {l:List (Int×Int)}(ha:Asc l)(hF:∀ s∈l,s.1<1099511627776){i:Nat}{x y:Int}(hx:l[i]?=some (x,y)):x<bnd l (i+1):=by
 unfold bnd
 cases h:l[i+1]? with
 |none=>exact hF (x,y) (amC hx)
 |some s=>exact ha i (i+1) _ _ m0 hx h
theorem xW {y:Int}{j:Nat}:j<nt y↔(j:Int)+1<=y:=by unfold nt;split<;>omega
theorem af8.next {l:List (Int×Int)}(ha:Asc l)(hF:∀ s∈l,s.1<1099511627776){E:List Int}{i j:Nat}{C:List (Int×Int)}{x y:Int}(hx:l[i]?=some (x,y))(h:af8 l E i j C) :
  af8 l (BJ E x (nt y)) (i+1) j (C++(if nt y<=j then(E[j]?).toList.map (fun f=>(f,x))else [])):=by
 have hb:=aer hx;have hlt:=aip ha hF hx;have hnx:=aa1 (n:=(j:Int)+1) hx;rcases h with⟨e,he,hC⟩|⟨he,hC,hlt2⟩
 ·rw[hb]at hC
  have hjE:j<E.length:=(amw.1 he).1;by_cases hj:j<nt y
  ·left
   rw[if_neg m0,am5];refine⟨e,by rw[I7 hj,if_pos hjE];exact he,?_⟩;rw[hnx,if_pos (xW.1 hj),hC,Ji (x0:=e) (y0:=x) m5 (Int.le_refl _) hlt,if_pos rfl];simp
  ·right
   rw[if_pos m0,he];refine⟨anj (by rw[uF];omega),?_,?_⟩
   ·rw[hnx,if_neg (fun h=>hj (xW.2 h)),hC];rfl
   ·intro p hp
    have hp':p∈xJ l ((j:Int)+1) i:=by rw[hC];simpa using hp
    have:=adB ha _ i x y hx p hp';omega
 ·rw[hb]at hlt2
  have hjE:¬ j<E.length:=fun h=>by rw[amF h]at he;cases he
  have hext:C++(if nt y<=j then(E[j]?).toList.map (fun f=>(f,x))else [])=C:=by rw[he];simp
  rw[hext];by_cases hj:j<nt y
  ·left
   refine⟨x,by rw[I7 hj,if_neg hjE],?_⟩;rw[hnx,if_pos (xW.1 hj),hC]
   cases hq:C.getLast? with
   |none =>
    rw[List.getLast?_eq_none_iff]at hq;subst hq;rfl
   |some q =>
    obtain⟨x0,y0⟩:=q;have h1:=hlt2 (x0,y0) (List.mem_of_getLast? hq);simp at h1;rw[Ji hq m0 hlt,if_neg m0]
  ·right
   refine⟨anj (by rw[uF];omega),by rw[hnx,if_neg (fun h=>hj (xW.2 h))];exact hC,fun p hp=>?_⟩;have:=hlt2 p hp;omega
