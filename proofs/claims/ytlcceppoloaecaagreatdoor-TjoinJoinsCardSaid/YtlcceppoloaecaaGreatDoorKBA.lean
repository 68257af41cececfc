/- Parts. No condition. -/
import Derived.Test.YtlcceppoloaecaaGreatDoorKAX
set_option linter.unusedSimpArgs false
set_option linter.unusedVariables false
namespace Go.Proofs.YtlcceppoloaecaaGreatDoor.St
open Go.RowKit
def mq (y:Int):Nat:=(if y<0 then 0 else y).toNat
def wS (s:List Int×List (Int×Int))(p:Int×Int):List Int×List (Int×Int):=(yT s.1 p.1 (mq p.2),s.2++(s.1.drop (mq p.2)).map λf=>(f,p.1))
def kO (l:List (Int×Int))(k:Nat):List Int×List (Int×Int):=(l.take k).foldl wS ([],[])
def Nz (l:List (Int×Int)):List (Int×Int):=(kO l l.length).2++(kO l l.length).1.map λf=>(f,1099511627776)
def gm (l:List (Int×Int)):List (Int×Int):=(List.range 600).flatMap λj:Nat=>Is l ((j:Int)+1)
def bnd (l:List (Int×Int))(i:Nat):Int:=((l[i]?).map (·.1)).getD 1099511627776
theorem nt {l:List (Int×Int)}{k:Nat}{x y:Int}(hx:l[k]?=some (x,y)):kO l (k+1)=wS (kO l k) (x,y):=gH hx
theorem aaJ {l:List (Int×Int)}{n:Int}{k:Nat}{x y:Int}(hx:l[k]?=some (x,y)):HB l n (k+1)=if n<=y then fh (HB l n k) (x,bnd l (k+1))else HB l n k:=by
 rw[Dn hx];rfl
theorem nX (E:List Int)(a:Int)(n:Nat):(yT E a n).length=n:=by unfold yT;simp;omega
theorem LO {E:List Int}{a:Int}{n j:Nat}(hj:j<n):(yT E a n)[j]?=if j<E.length then E[j]? else some a:=by
 unfold yT;by_cases h:j<E.length
 ·rw[if_pos h,aqE m8,List.getElem?_take_of_lt hj]
 ·rw[if_neg h,aqx m8,List.getElem?_replicate,if_pos m8]
def ajJ (l:List (Int×Int))(E:List Int)(i:Nat)(j:Nat)(C:List (Int×Int)):Prop :=
 (∃ e,E[j]?=some e/\HB l ((j:Int)+1) i=C++[(e,bnd l i)])\/(E[j]?=none/\HB l ((j:Int)+1) i=C /\ ∀ p∈C,p.2<bnd l i)
theorem aec {l:List (Int×Int)}{i:Nat}{x y:Int}(hx:l[i]?=some (x,y)):bnd l i=x:=by unfold bnd;rw[hx];rfl
theorem ajE {l:List (Int×Int)}(ha:Asc l)(hF:∀ s∈l,s.1<1099511627776){i:Nat}{x y:Int}(hx:l[i]?=some (x,y)):x<bnd l (i+1):=by
 unfold bnd
 cases h:l[i+1]? with
 |none=>exact hF (x,y) (aqw hx)
 |some s=>exact ha i (i+1) _ _ m0 hx h
theorem DK {y:Int}{j:Nat}:j<mq y↔(j:Int)+1<=y:=by unfold mq;split<;>omega
theorem ajJ.next {l:List (Int×Int)}(ha:Asc l)(hF:∀ s∈l,s.1<1099511627776){E:List Int}{i j:Nat}{C:List (Int×Int)}{x y:Int}(hx:l[i]?=some (x,y))(h:ajJ l E i j C) :
  ajJ l (yT E x (mq y)) (i+1) j (C++(if mq y<=j then(E[j]?).toList.map (λf=>(f,x))else [])):=by
 have hb:=aec hx;have hlt:=ajE ha hF hx;have hnx:=aaJ (n:=(j:Int)+1) hx;obtain⟨e,he,hC⟩|⟨he,hC,hlt2⟩:=h
 ·rw[hb]at hC
  have hjE:j<E.length:=(aqp.1 he).1;by_cases hj:j<mq y
  ·left
   rw[if_neg m0,aqZ];refine⟨e,by rw[LO hj,if_pos hjE];exact he,?_⟩;rw[hnx,if_pos (DK.1 hj),hC,IG (x0:=e) (y0:=x) m5 (Int.le_refl _) hlt,if_pos rfl];simp
  ·right
   rw[if_pos m0,he];refine⟨ard (by rw[nX];omega),?_,?_⟩
   ·rw[hnx,if_neg (λh=>hj (DK.2 h)),hC];rfl
   ·intro p hp
    have hp':p∈HB l ((j:Int)+1) i:=by rw[hC];simpa using hp
    have:=agi ha _ i x y hx p hp';omega
 ·rw[hb]at hlt2
  have hjE:¬ j<E.length:=λh=>by rw[aqz h]at he;cases he
  have hext:C++(if mq y<=j then(E[j]?).toList.map (λf=>(f,x))else [])=C:=by rw[he];simp
  rw[hext];by_cases hj:j<mq y
  ·left
   refine⟨x,by rw[LO hj,if_neg hjE],?_⟩;rw[hnx,if_pos (DK.1 hj),hC]
   cases hq:C.getLast? with
   |none =>
    rw[List.getLast?_eq_none_iff]at hq;subst hq;rfl
   |some q =>
    obtain⟨x0,y0⟩:=q;have h1:=hlt2 (x0,y0) (List.mem_of_getLast? hq);simp at h1;rw[IG hq m0 hlt,if_neg m0]
  ·right
   refine⟨ard (by rw[nX];omega),by rw[hnx,if_neg (λh=>hj (DK.2 h))];exact hC,λp hp=>?_⟩;have:=hlt2 p hp;omega
theorem fD (E:List Int)(a:Nat)(φ:Int->Int×Int):∀ M,(List.range M).flatMap (λj=>if a<=j then(E[j]?).toList.map φ else [])=((E.take M).drop a).map φ
 |0=>by simp
 |M+1=>by
  rw[List.range_succ,List.flatMap_append,fD E a φ M];simp only[aq3,List.flatMap_nil,aqZ];rw[List.take_add_one];by_cases h:a<=M
  ·rw[if_pos h]
   by_cases h2:M<E.length
   ·rw[List.drop_append_of_le_length m8,aqD]
   ·rw[ard m0];simp
  ·rw[if_neg h,aqZ]
   rw[List.drop_of_length_le m8,List.drop_of_length_le (by cases hq:E[M]?<;>simp<;>omega)]
theorem mH {α β:Type}(f g:α->List β):∀ l:List α,(l.flatMap λx=>f x++g x).Perm (l.flatMap f++l.flatMap g)
 |[] => .refl _
 |x::l=>by
  simp only[aq3];refine((mH f g l).append_left (f x++g x)).trans ?_;rw[aqR,aqR];refine List.Perm.append_left _ ?_;rw[<- aqR,<- aqR];exact List.perm_append_comm.append_right _
theorem wq {l:List (Int×Int)}(ha:Asc l)(hF:∀ s∈l,s.1<1099511627776)(hM:∀ s∈l,s.2<=600):∀ i,i<=l.length->(kO l i).1.length<=600 /\ ∃ C:Nat->List (Int×Int),(∀ j,ajJ l (kO l i).1 i j (C j))/\(kO l i).2.Perm ((List.range 600).flatMap C)
 |0,_=>⟨by simp[kO],λ_=>[],λj => .inr ⟨rfl,rfl,m5⟩,by simp[kO]⟩
 |i+1,hi=>by
  obtain⟨h1,C,h2,h3⟩:=wq ha hF hM i m0;obtain⟨x,y,hx⟩:∃ x y,l[i]?=some (x,y):=⟨l[i].1,l[i].2,by rw[aqz m0]⟩;have hy:y<=600:=hM (x,y) (aqw hx);rw[nt hx];refine⟨?_,λj=>C j++(if mq y<=j then((kO l i).1[j]?).toList.map (λf=>(f,x))else []),λj=>(h2 j).next ha hF hx,?_⟩
  ·show(yT _ _ _).length<=600
   rw[nX];unfold mq;split<;>omega
  ·refine List.Perm.trans ?_ (mH _ _ _).symm
   rw[fD,aq5 h1];exact h3.append_right _
theorem EO {l:List (Int×Int)}(ha:Asc l)(hF:∀ s∈l,s.1<1099511627776)(hM:∀ s∈l,s.2<=600):(Nz l).Perm (gm l):=by
 obtain⟨h1,C,h2,h3⟩:=wq ha hF hM l.length (aqG _);unfold Nz gm;have hb:bnd l l.length=1099511627776:=by unfold bnd;rw[ard (aqG _)];rfl
 have h4:∀ j:Nat,Is l ((j:Int)+1)=C j++(if 0<=j then((kO l l.length).1[j]?).toList.map (λf=>(f,1099511627776))else []):=by
  intro j;rw[if_pos (aqL _),<- Ic l _ (aqG _)];obtain⟨e,he,hC⟩|⟨he,hC,_⟩:=h2 j
  ·rw[hC,he,hb];rfl
  ·rw[hC,he];simp
 rw[funext h4];refine List.Perm.trans ?_ (mH _ _ _).symm;rw[fD,aq5 h1];exact h3.append_right _
