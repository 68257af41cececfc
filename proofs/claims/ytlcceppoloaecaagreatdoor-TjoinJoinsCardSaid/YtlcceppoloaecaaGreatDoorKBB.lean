/- Parts of the proof, joined. No condition. -/
import Derived.Test.YtlcceppoloaecaaGreatDoorKAA
import Derived.Test.YtlcceppoloaecaaGreatDoorKAY
set_option linter.unusedSimpArgs false
set_option linter.unusedVariables false
namespace Go.Proofs.YtlcceppoloaecaaGreatDoor.St
open Go.RowKit
def rM (y:Int):Nat:=(if y<0 then 0 else y).toNat
def FP (s:List Int × List (Int × Int)) (p:Int × Int):List Int × List (Int × Int):=(Hw s.1 p.1 (rM p.2),s.2++(s.1.drop (rM p.2)).map fun f=>(f,p.1))
def pU (l:List (Int × Int)) (k:Nat):List Int × List (Int × Int):=(l.take k).foldl FP ([],[])
def Ux (l:List (Int × Int)):List (Int × Int):=(pU l l.length).2++(pU l l.length).1.map fun f=>(f,1099511627776)
def nC (l:List (Int × Int)):List (Int × Int):=(List.range 600).flatMap fun j:Nat=>Lt l ((j:Int)+1)
def bnd (l:List (Int × Int)) (i:Nat):Int:=((l[i]?).map (·.1)).getD 1099511627776
theorem xN {l:List (Int × Int)} {k:Nat} {x y:Int} (hx:l[k]?=some (x,y)):pU l (k+1)=FP (pU l k) (x,y):=jb hx
theorem afg {l:List (Int × Int)} {n:Int} {k:Nat} {x y:Int} (hx:l[k]?=some (x,y)):Li l n (k+1)=if n<=y then jV (Li l n k) (x,bnd l (k+1)) else Li l n k:=by
 rw [Ni hx];rfl
theorem wI (E:List Int) (a:Int) (n:Nat):(Hw E a n).length=n:=by unfold Hw;simp;omega
theorem WK {E:List Int} {a:Int} {n j:Nat} (hj:j<n):(Hw E a n)[j]?=if j<E.length then E[j]? else some a:=by
 unfold Hw
 by_cases h:j<E.length
 ·rw [if_pos h,aqc (by simp;omega),List.getElem?_take_of_lt hj]
 ·rw [if_neg h,ap7 (by simp;omega),List.getElem?_replicate,if_pos (by simp;omega)]
def aka (l:List (Int × Int)) (E:List Int) (i:Nat) (j:Nat) (C:List (Int × Int)):Prop :=
 (∃ e,E[j]?=some e/\Li l ((j:Int)+1) i=C++[(e,bnd l i)])\/(E[j]?=none/\Li l ((j:Int)+1) i=C /\ ∀ p∈C,p.2<bnd l i)
theorem agH {l:List (Int × Int)} {i:Nat} {x y:Int} (hx:l[i]?=some (x,y)):bnd l i=x:=by unfold bnd;rw [hx];rfl
theorem alO {l:List (Int × Int)} (ha:Asc l) (hF : ∀ s∈l,s.1<1099511627776) {i:Nat} {x y:Int} (hx:l[i]?=some (x,y)):x<bnd l (i+1):=by
 unfold bnd
 cases h:l[i+1]? with
 | none=>exact hF (x,y) (ap6 hx)
 | some s=>exact ha i (i+1) _ _ (by omega) hx h
theorem LM {y:Int} {j:Nat} : j<rM y↔(j:Int)+1<=y:=by unfold rM;split<;>omega
theorem aka.next {l:List (Int × Int)} (ha:Asc l) (hF : ∀ s∈l,s.1<1099511627776) {E:List Int} {i j:Nat} {C:List (Int × Int)} {x y:Int} (hx:l[i]?=some (x,y)) (h:aka l E i j C) :
  aka l (Hw E x (rM y)) (i+1) j (C++(if rM y<=j then (E[j]?).toList.map (fun f=>(f,x)) else [])):=by
 have hb:=agH hx
 have hlt:=alO ha hF hx
 have hnx:=afg (n:=(j:Int)+1) hx
 rcases h with ⟨e,he,hC⟩|⟨he,hC,hlt2⟩
 ·rw [hb] at hC
  have hjE:j<E.length:=(ap0.1 he).1
  by_cases hj:j<rM y
  ·left
   rw [if_neg (by omega),aqy]
   refine ⟨e,by rw [WK hj,if_pos hjE];exact he,?_⟩
   rw [hnx,if_pos (LM.1 hj),hC,Ze (x0:=e) (y0:=x) (by simp) (Int.le_refl _) hlt,if_pos rfl]
   simp
  ·right
   rw [if_pos (by omega),he]
   refine ⟨aqN (by rw [wI];omega),?_,?_⟩
   ·rw [hnx,if_neg (fun h=>hj (LM.2 h)),hC];rfl
   ·intro p hp
    have hp':p∈Li l ((j:Int)+1) i:=by rw [hC];simpa using hp
    have:=age ha _ i x y hx p hp'
    omega
 ·rw [hb] at hlt2
  have hjE : ¬ j<E.length:=fun h=>by rw [ap9 h] at he;cases he
  have hext:C++(if rM y<=j then (E[j]?).toList.map (fun f=>(f,x)) else [])=C:=by rw [he];simp
  rw [hext]
  by_cases hj:j<rM y
  ·left
   refine ⟨x,by rw [WK hj,if_neg hjE],?_⟩
   rw [hnx,if_pos (LM.1 hj),hC]
   cases hq:C.getLast? with
   | none =>
    rw [List.getLast?_eq_none_iff] at hq
    subst hq
    rfl
   | some q =>
    obtain ⟨x0,y0⟩:=q
    have h1:=hlt2 (x0,y0) (List.mem_of_getLast? hq)
    simp at h1
    rw [Ze hq (by omega) hlt,if_neg (by omega)]
  ·right
   refine ⟨aqN (by rw [wI];omega),by rw [hnx,if_neg (fun h=>hj (LM.2 h))];exact hC,fun p hp=>?_⟩
   have:=hlt2 p hp
   omega
theorem mo (E:List Int) (a:Nat) (φ:Int->Int × Int) : ∀ M,(List.range M).flatMap (fun j=>if a<=j then (E[j]?).toList.map φ else [])=((E.take M).drop a).map φ
 | 0=>by simp
 | M+1=>by
  rw [List.range_succ,List.flatMap_append,mo E a φ M]
  simp only [aqC,List.flatMap_nil,aqy]
  rw [List.take_add_one]
  by_cases h:a<=M
  ·rw [if_pos h]
   by_cases h2:M<E.length
   ·rw [List.drop_append_of_le_length (by simp;omega),aqb]
   ·rw [aqN (by omega)];simp
  ·rw [if_neg h,aqy]
   rw [List.drop_of_length_le (by simp;omega),List.drop_of_length_le (by cases hq:E[M]?<;>simp<;>omega)]
theorem x9 {α β:Type} (f g:α->List β) : ∀ l:List α,(l.flatMap fun x=>f x++g x).Perm (l.flatMap f++l.flatMap g)
 | [] => .refl _
 | x::l=>by
  simp only [aqC]
  refine ((x9 f g l).append_left (f x++g x)).trans ?_
  rw [aqp,aqp]
  refine List.Perm.append_left _ ?_
  rw [<- aqp, <- aqp]
  exact List.perm_append_comm.append_right _
theorem G8 {l:List (Int × Int)} (ha:Asc l) (hF : ∀ s∈l,s.1<1099511627776) (hM : ∀ s∈l,s.2<=600) : ∀ i,i<=l.length->(pU l i).1.length<=600 /\ ∃ C:Nat->List (Int × Int),(∀ j,aka l (pU l i).1 i j (C j))/\(pU l i).2.Perm ((List.range 600).flatMap C)
 | 0,_=>⟨by simp [pU],fun _=>[],fun j => .inr ⟨rfl,rfl,by simp⟩,by simp [pU]⟩
 | i+1,hi=>by
  obtain ⟨h1,C,h2,h3⟩:=G8 ha hF hM i (by omega)
  obtain ⟨x,y,hx⟩ : ∃ x y,l[i]?=some (x,y):=⟨l[i].1,l[i].2,by rw [ap9 (by omega)]⟩
  have hy:y<=600:=hM (x,y) (ap6 hx)
  rw [xN hx]
  refine ⟨?_,fun j=>C j++(if rM y<=j then ((pU l i).1[j]?).toList.map (fun f=>(f,x)) else []),fun j=>(h2 j).next ha hF hx,?_⟩
  ·show (Hw _ _ _).length<=600
   rw [wI]
   unfold rM
   split<;>omega
  ·refine List.Perm.trans ?_ (x9 _ _ _).symm
   rw [mo,aqE h1]
   exact h3.append_right _
theorem Re {l:List (Int × Int)} (ha:Asc l) (hF : ∀ s∈l,s.1<1099511627776) (hM : ∀ s∈l,s.2<=600):(Ux l).Perm (nC l):=by
 obtain ⟨h1,C,h2,h3⟩:=G8 ha hF hM l.length (aqe _)
 unfold Ux nC
 have hb:bnd l l.length=1099511627776:=by unfold bnd;rw [aqN (aqe _)];rfl
 have h4 : ∀ j:Nat,Lt l ((j:Int)+1)=C j++(if 0<=j then ((pU l l.length).1[j]?).toList.map (fun f=>(f,1099511627776)) else []):=by
  intro j
  rw [if_pos (aqj _), <- TV l _ (aqe _)]
  rcases h2 j with ⟨e,he,hC⟩|⟨he,hC,_⟩
  ·rw [hC,he,hb];rfl
  ·rw [hC,he];simp
 rw [funext h4]
 refine List.Perm.trans ?_ (x9 _ _ _).symm
 rw [mo,aqE h1]
 exact h3.append_right _
end Go.Proofs.YtlcceppoloaecaaGreatDoor.St
