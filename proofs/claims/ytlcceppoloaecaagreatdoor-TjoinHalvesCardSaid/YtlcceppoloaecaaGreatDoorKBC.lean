/- Parts. No condition. -/
import Derived.Test.YtlcceppoloaecaaGreatDoorKAZ
set_option linter.unusedSimpArgs false
set_option linter.unusedVariables false
namespace Go.Proofs.YtlcceppoloaecaaGreatDoor.St
open Go.RowKit
def lF (y:Int):Nat:=(if y<0 then 0 else y).toNat
def wI (s:List Int×List (Int×Int))(p:Int×Int):List Int×List (Int×Int):=(vv s.1 p.1 (lF p.2),s.2++(s.1.drop (lF p.2)).map fun f=>(f,p.1))
def jT (l:List (Int×Int))(k:Nat):List Int×List (Int×Int):=(l.take k).foldl wI ([],[])
def IC (l:List (Int×Int)):List (Int×Int):=(jT l l.length).2++(jT l l.length).1.map fun f=>(f,1099511627776)
def gq (l:List (Int×Int)):List (Int×Int):=(List.range 600).flatMap fun j:Nat=>DI l ((j:Int)+1)
def bnd (l:List (Int×Int))(i:Nat):Int:=((l[i]?).map (·.1)).getD 1099511627776
theorem nv {l:List (Int×Int)}{k:Nat}{x y:Int}(hx:l[k]?=some (x,y)):jT l (k+1)=wI (jT l k) (x,y):=ib hx
theorem aeK {l:List (Int×Int)}{n:Int}{k:Nat}{x y:Int}(hx:l[k]?=some (x,y)):AD l n (k+1)=if n<=y then eY (AD l n k) (x,bnd l (k+1))else AD l n k:=by
 rw[Bd hx];rfl
theorem nL (E:List Int)(a:Int)(n:Nat):(vv E a n).length=n:=by unfold vv;simp;omega
theorem La {E:List Int}{a:Int}{n j:Nat}(hj:j<n):(vv E a n)[j]?=if j<E.length then E[j]? else some a:=by
 unfold vv;by_cases h:j<E.length
 ·rw[if_pos h,aqm m8,List.getElem?_take_of_lt hj]
 ·rw[if_neg h,aqf m8,List.getElem?_replicate,if_pos m8]
def ajA (l:List (Int×Int))(E:List Int)(i:Nat)(j:Nat)(C:List (Int×Int)):Prop :=
 (∃ e,E[j]?=some e/\AD l ((j:Int)+1) i=C++[(e,bnd l i)])\/(E[j]?=none/\AD l ((j:Int)+1) i=C /\ ∀ p∈C,p.2<bnd l i)
theorem agd {l:List (Int×Int)}{i:Nat}{x y:Int}(hx:l[i]?=some (x,y)):bnd l i=x:=by unfold bnd;rw[hx];rfl
theorem ams {l:List (Int×Int)}(ha:Asc l)(hF:∀ s∈l,s.1<1099511627776){i:Nat}{x y:Int}(hx:l[i]?=some (x,y)):x<bnd l (i+1):=by
 unfold bnd
 cases h:l[i+1]? with
 |none=>exact hF (x,y) (aqe hx)
 |some s=>exact ha i (i+1) _ _ m0 hx h
theorem AY {y:Int}{j:Nat}:j<lF y↔(j:Int)+1<=y:=by unfold lF;split<;>omega
theorem ajA.next {l:List (Int×Int)}(ha:Asc l)(hF:∀ s∈l,s.1<1099511627776){E:List Int}{i j:Nat}{C:List (Int×Int)}{x y:Int}(hx:l[i]?=some (x,y))(h:ajA l E i j C) :
  ajA l (vv E x (lF y)) (i+1) j (C++(if lF y<=j then(E[j]?).toList.map (fun f=>(f,x))else [])):=by
 have hb:=agd hx;have hlt:=ams ha hF hx;have hnx:=aeK (n:=(j:Int)+1) hx;rcases h with⟨e,he,hC⟩|⟨he,hC,hlt2⟩
 ·rw[hb]at hC
  have hjE:j<E.length:=(ap_.1 he).1;by_cases hj:j<lF y
  ·left
   rw[if_neg m0,aqI];refine⟨e,by rw[La hj,if_pos hjE];exact he,?_⟩;rw[hnx,if_pos (AY.1 hj),hC,K8 (x0:=e) (y0:=x) m5 (Int.le_refl _) hlt,if_pos rfl];simp
  ·right
   rw[if_pos m0,he];refine⟨aqX (by rw[nL];omega),?_,?_⟩
   ·rw[hnx,if_neg (fun h=>hj (AY.2 h)),hC];rfl
   ·intro p hp
    have hp':p∈AD l ((j:Int)+1) i:=by rw[hC];simpa using hp
    have:=ag7 ha _ i x y hx p hp';omega
 ·rw[hb]at hlt2
  have hjE:¬ j<E.length:=fun h=>by rw[aqh h]at he;cases he
  have hext:C++(if lF y<=j then(E[j]?).toList.map (fun f=>(f,x))else [])=C:=by rw[he];simp
  rw[hext];by_cases hj:j<lF y
  ·left
   refine⟨x,by rw[La hj,if_neg hjE],?_⟩;rw[hnx,if_pos (AY.1 hj),hC]
   cases hq:C.getLast? with
   |none =>
    rw[List.getLast?_eq_none_iff]at hq;subst hq;rfl
   |some q =>
    obtain⟨x0,y0⟩:=q;have h1:=hlt2 (x0,y0) (List.mem_of_getLast? hq);simp at h1;rw[K8 hq m0 hlt,if_neg m0]
  ·right
   refine⟨aqX (by rw[nL];omega),by rw[hnx,if_neg (fun h=>hj (AY.2 h))];exact hC,fun p hp=>?_⟩;have:=hlt2 p hp;omega
theorem g_ (E:List Int)(a:Nat)(φ:Int->Int×Int):∀ M,(List.range M).flatMap (fun j=>if a<=j then(E[j]?).toList.map φ else [])=((E.take M).drop a).map φ
 |0=>by simp
 |M+1=>by
  rw[List.range_succ,List.flatMap_append,g_ E a φ M];simp only[aqM,List.flatMap_nil,aqI];rw[List.take_add_one];by_cases h:a<=M
  ·rw[if_pos h]
   by_cases h2:M<E.length
   ·rw[List.drop_append_of_le_length m8,aql]
   ·rw[aqX m0];simp
  ·rw[if_neg h,aqI]
   rw[List.drop_of_length_le m8,List.drop_of_length_le (by cases hq:E[M]?<;>simp<;>omega)]
theorem ql {α β:Type}(f g:α->List β):∀ l:List α,(l.flatMap fun x=>f x++g x).Perm (l.flatMap f++l.flatMap g)
 |[] => .refl _
 |x::l=>by
  simp only[aqM];refine((ql f g l).append_left (f x++g x)).trans ?_;rw[aqA,aqA];refine List.Perm.append_left _ ?_;rw[<- aqA,<- aqA];exact List.perm_append_comm.append_right _
theorem vG {l:List (Int×Int)}(ha:Asc l)(hF:∀ s∈l,s.1<1099511627776)(hM:∀ s∈l,s.2<=600):∀ i,i<=l.length->(jT l i).1.length<=600 /\ ∃ C:Nat->List (Int×Int),(∀ j,ajA l (jT l i).1 i j (C j))/\(jT l i).2.Perm ((List.range 600).flatMap C)
 |0,_=>⟨by simp[jT],fun _=>[],fun j => .inr ⟨rfl,rfl,m5⟩,by simp[jT]⟩
 |i+1,hi=>by
  obtain⟨h1,C,h2,h3⟩:=vG ha hF hM i m0;obtain⟨x,y,hx⟩:∃ x y,l[i]?=some (x,y):=⟨l[i].1,l[i].2,by rw[aqh m0]⟩;have hy:y<=600:=hM (x,y) (aqe hx);rw[nv hx];refine⟨?_,fun j=>C j++(if lF y<=j then((jT l i).1[j]?).toList.map (fun f=>(f,x))else []),fun j=>(h2 j).next ha hF hx,?_⟩
  ·show(vv _ _ _).length<=600
   rw[nL];unfold lF;split<;>omega
  ·refine List.Perm.trans ?_ (ql _ _ _).symm
   rw[g_,aqO h1];exact h3.append_right _
theorem G3 {l:List (Int×Int)}(ha:Asc l)(hF:∀ s∈l,s.1<1099511627776)(hM:∀ s∈l,s.2<=600):(IC l).Perm (gq l):=by
 obtain⟨h1,C,h2,h3⟩:=vG ha hF hM l.length (aqo _);unfold IC gq;have hb:bnd l l.length=1099511627776:=by unfold bnd;rw[aqX (aqo _)];rfl
 have h4:∀ j:Nat,DI l ((j:Int)+1)=C j++(if 0<=j then((jT l l.length).1[j]?).toList.map (fun f=>(f,1099511627776))else []):=by
  intro j;rw[if_pos (aqu _),<- II l _ (aqo _)];rcases h2 j with⟨e,he,hC⟩|⟨he,hC,_⟩
  ·rw[hC,he,hb];rfl
  ·rw[hC,he];simp
 rw[funext h4];refine List.Perm.trans ?_ (ql _ _ _).symm;rw[g_,aqO h1];exact h3.append_right _
