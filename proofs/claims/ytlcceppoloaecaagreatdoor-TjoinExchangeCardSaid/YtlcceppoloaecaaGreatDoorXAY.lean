/- Parts. No condition. -/
import Derived.Test.YtlcceppoloaecaaGreatDoorXAV
set_option linter.unusedSimpArgs false
set_option linter.unusedVariables false
namespace Go.Proofs.YtlcceppoloaecaaGreatDoor.St
open Go.RowKit
def lQ (y:Int):Nat:=(if y<0 then 0 else y).toNat
def wu (s:List Int×List (Int×Int))(p:Int×Int):List Int×List (Int×Int):=(ww s.1 p.1 (lQ p.2),s.2++(s.1.drop (lQ p.2)).map fun f=>(f,p.1))
def j_ (l:List (Int×Int))(k:Nat):List Int×List (Int×Int):=(l.take k).foldl wu ([],[])
def KG (l:List (Int×Int)):List (Int×Int):=(j_ l l.length).2++(j_ l l.length).1.map fun f=>(f,1099511627776)
def gN (l:List (Int×Int)):List (Int×Int):=(List.range 600).flatMap fun j:Nat=>EM l ((j:Int)+1)
def bnd (l:List (Int×Int))(i:Nat):Int:=((l[i]?).map (·.1)).getD 1099511627776
theorem pp {l:List (Int×Int)}{k:Nat}{x y:Int}(hx:l[k]?=some (x,y)):j_ l (k+1)=wu (j_ l k) (x,y):=iC hx
theorem afu {l:List (Int×Int)}{n:Int}{k:Nat}{x y:Int}(hx:l[k]?=some (x,y)):Bo l n (k+1)=if n<=y then fc (Bo l n k) (x,bnd l (k+1))else Bo l n k:=by
 rw[EZ hx];rfl
theorem oj (E:List Int)(a:Int)(n:Nat):(ww E a n).length=n:=by unfold ww;simp;omega
theorem MM {E:List Int}{a:Int}{n j:Nat}(hj:j<n):(ww E a n)[j]?=if j<E.length then E[j]? else some a:=by
 unfold ww;by_cases h:j<E.length
 ·rw[if_pos h,arl m8,List.getElem?_take_of_lt hj]
 ·rw[if_neg h,arc m8,List.getElem?_replicate,if_pos m8]
def ak_ (l:List (Int×Int))(E:List Int)(i:Nat)(j:Nat)(C:List (Int×Int)):Prop :=
 (∃ e,E[j]?=some e/\Bo l ((j:Int)+1) i=C++[(e,bnd l i)])\/(E[j]?=none/\Bo l ((j:Int)+1) i=C /\ ∀ p∈C,p.2<bnd l i)
theorem aio {l:List (Int×Int)}{i:Nat}{x y:Int}(hx:l[i]?=some (x,y)):bnd l i=x:=by unfold bnd;rw[hx];rfl
theorem anp {l:List (Int×Int)}(ha:Asc l)(hF:∀ s∈l,s.1<1099511627776){i:Nat}{x y:Int}(hx:l[i]?=some (x,y)):x<bnd l (i+1):=by
 unfold bnd
 cases h:l[i+1]? with
 |none=>exact hF (x,y) (arb hx)
 |some s=>exact ha i (i+1) _ _ m0 hx h
theorem Bg {y:Int}{j:Nat}:j<lQ y↔(j:Int)+1<=y:=by unfold lQ;split<;>omega
theorem ak_.next {l:List (Int×Int)}(ha:Asc l)(hF:∀ s∈l,s.1<1099511627776){E:List Int}{i j:Nat}{C:List (Int×Int)}{x y:Int}(hx:l[i]?=some (x,y))(h:ak_ l E i j C) :
  ak_ l (ww E x (lQ y)) (i+1) j (C++(if lQ y<=j then(E[j]?).toList.map (fun f=>(f,x))else [])):=by
 have hb:=aio hx;have hlt:=anp ha hF hx;have hnx:=afu (n:=(j:Int)+1) hx;rcases h with⟨e,he,hC⟩|⟨he,hC,hlt2⟩
 ·rw[hb]at hC
  have hjE:j<E.length:=(aq6.1 he).1;by_cases hj:j<lQ y
  ·left
   rw[if_neg m0,arJ];refine⟨e,by rw[MM hj,if_pos hjE];exact he,?_⟩;rw[hnx,if_pos (Bg.1 hj),hC,Lt (x0:=e) (y0:=x) m5 (Int.le_refl _) hlt,if_pos rfl];simp
  ·right
   rw[if_pos m0,he];refine⟨arY (by rw[oj];omega),?_,?_⟩
   ·rw[hnx,if_neg (fun h=>hj (Bg.2 h)),hC];rfl
   ·intro p hp
    have hp':p∈Bo l ((j:Int)+1) i:=by rw[hC];simpa using hp
    have:=ajG ha _ i x y hx p hp';omega
 ·rw[hb]at hlt2
  have hjE:¬ j<E.length:=fun h=>by rw[arf h]at he;cases he
  have hext:C++(if lQ y<=j then(E[j]?).toList.map (fun f=>(f,x))else [])=C:=by rw[he];simp
  rw[hext];by_cases hj:j<lQ y
  ·left
   refine⟨x,by rw[MM hj,if_neg hjE],?_⟩;rw[hnx,if_pos (Bg.1 hj),hC]
   cases hq:C.getLast? with
   |none =>
    rw[List.getLast?_eq_none_iff]at hq;subst hq;rfl
   |some q =>
    obtain⟨x0,y0⟩:=q;have h1:=hlt2 (x0,y0) (List.mem_of_getLast? hq);simp at h1;rw[Lt hq m0 hlt,if_neg m0]
  ·right
   refine⟨arY (by rw[oj];omega),by rw[hnx,if_neg (fun h=>hj (Bg.2 h))];exact hC,fun p hp=>?_⟩;have:=hlt2 p hp;omega
theorem ir (E:List Int)(a:Nat)(φ:Int->Int×Int):∀ M,(List.range M).flatMap (fun j=>if a<=j then(E[j]?).toList.map φ else [])=((E.take M).drop a).map φ
 |0=>by simp
 |M+1=>by
  rw[List.range_succ,List.flatMap_append,ir E a φ M];simp only[arN,List.flatMap_nil,arJ];rw[List.take_add_one];by_cases h:a<=M
  ·rw[if_pos h]
   by_cases h2:M<E.length
   ·rw[List.drop_append_of_le_length m8,ark]
   ·rw[arY m0];simp
  ·rw[if_neg h,arJ]
   rw[List.drop_of_length_le m8,List.drop_of_length_le (by cases hq:E[M]?<;>simp<;>omega)]
theorem qj {α β:Type}(f g:α->List β):∀ l:List α,(l.flatMap fun x=>f x++g x).Perm (l.flatMap f++l.flatMap g)
 |[] => .refl _
 |x::l=>by
  simp only[arN];refine((qj f g l).append_left (f x++g x)).trans ?_;rw[arA,arA];refine List.Perm.append_left _ ?_;rw[<- arA,<- arA];exact List.perm_append_comm.append_right _
theorem wV {l:List (Int×Int)}(ha:Asc l)(hF:∀ s∈l,s.1<1099511627776)(hM:∀ s∈l,s.2<=600):∀ i,i<=l.length->(j_ l i).1.length<=600 /\ ∃ C:Nat->List (Int×Int),(∀ j,ak_ l (j_ l i).1 i j (C j))/\(j_ l i).2.Perm ((List.range 600).flatMap C)
 |0,_=>⟨by simp[j_],fun _=>[],fun j => .inr ⟨rfl,rfl,m5⟩,by simp[j_]⟩
 |i+1,hi=>by
  obtain⟨h1,C,h2,h3⟩:=wV ha hF hM i m0;obtain⟨x,y,hx⟩:∃ x y,l[i]?=some (x,y):=⟨l[i].1,l[i].2,by rw[arf m0]⟩;have hy:y<=600:=hM (x,y) (arb hx);rw[pp hx];refine⟨?_,fun j=>C j++(if lQ y<=j then((j_ l i).1[j]?).toList.map (fun f=>(f,x))else []),fun j=>(h2 j).next ha hF hx,?_⟩
  ·show(ww _ _ _).length<=600
   rw[oj];unfold lQ;split<;>omega
  ·refine List.Perm.trans ?_ (qj _ _ _).symm
   rw[ir,arP h1];exact h3.append_right _
theorem GZ {l:List (Int×Int)}(ha:Asc l)(hF:∀ s∈l,s.1<1099511627776)(hM:∀ s∈l,s.2<=600):(KG l).Perm (gN l):=by
 obtain⟨h1,C,h2,h3⟩:=wV ha hF hM l.length (aro _);unfold KG gN;have hb:bnd l l.length=1099511627776:=by unfold bnd;rw[arY (aro _)];rfl
 have h4:∀ j:Nat,EM l ((j:Int)+1)=C j++(if 0<=j then((j_ l l.length).1[j]?).toList.map (fun f=>(f,1099511627776))else []):=by
  intro j;rw[if_pos (aru _),<- Kp l _ (aro _)];rcases h2 j with⟨e,he,hC⟩|⟨he,hC,_⟩
  ·rw[hC,he,hb];rfl
  ·rw[hC,he];simp
 rw[funext h4];refine List.Perm.trans ?_ (qj _ _ _).symm;rw[ir,arP h1];exact h3.append_right _
