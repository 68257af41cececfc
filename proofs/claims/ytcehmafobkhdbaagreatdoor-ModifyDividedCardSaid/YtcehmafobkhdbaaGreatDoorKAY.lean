/- Parts of the proof, joined. No condition. -/
import Derived.Test.YtcehmafobkhdbaaGreatDoorKAV
set_option linter.unusedSimpArgs false
set_option linter.unusedVariables false
namespace Go.Proofs.YtcehmafobkhdbaaGreatDoor.St
open Go.RowKit
def qM (y:Int):Nat:=(if y<0 then 0 else y).toNat
def Ei (s:List Int × List (Int × Int)) (p:Int × Int):List Int × List (Int × Int):=(Ec s.1 p.1 (qM p.2),s.2++(s.1.drop (qM p.2)).map fun f=>(f,p.1))
def oU (l:List (Int × Int)) (k:Nat):List Int × List (Int × Int):=(l.take k).foldl Ei ([],[])
def OZ (l:List (Int × Int)):List (Int × Int):=(oU l l.length).2++(oU l l.length).1.map fun f=>(f,1099511627776)
def mR (l:List (Int × Int)):List (Int × Int):=(List.range 600).flatMap fun j:Nat=>Hf l ((j:Int)+1)
def bnd (l:List (Int × Int)) (i:Nat):Int:=((l[i]?).map (·.1)).getD 1099511627776
theorem uT {l:List (Int × Int)} {k:Nat} {x y:Int} (hx:l[k]?=some (x,y)):oU l (k+1)=Ei (oU l k) (x,y):=iL hx
theorem WI {l:List (Int × Int)} {n:Int} {k:Nat} {x y:Int} (hx:l[k]?=some (x,y)):Hz l n (k+1)=if n<=y then jR (Hz l n k) (x,bnd l (k+1)) else Hz l n k:=by
 rw [Jn hx];rfl
theorem uH (E:List Int) (a:Int) (n:Nat):(Ec E a n).length=n:=by unfold Ec;simp;omega
theorem RS {E:List Int} {a:Int} {n j:Nat} (hj:j<n):(Ec E a n)[j]?=if j<E.length then E[j]? else some a:=by
 unfold Ec
 by_cases h:j<E.length
 ·rw [if_pos h,ag9 (by simp;omega),List.getElem?_take_of_lt hj]
 ·rw [if_neg h,ag2 (by simp;omega),List.getElem?_replicate,if_pos (by simp;omega)]
def ace (l:List (Int × Int)) (E:List Int) (i:Nat) (j:Nat) (C:List (Int × Int)):Prop :=
 (∃ e,E[j]?=some e/\Hz l ((j:Int)+1) i=C++[(e,bnd l i)])\/(E[j]?=none/\Hz l ((j:Int)+1) i=C /\ ∀ p∈C,p.2<bnd l i)
theorem aaj {l:List (Int × Int)} {i:Nat} {x y:Int} (hx:l[i]?=some (x,y)):bnd l i=x:=by unfold bnd;rw [hx];rfl
theorem ad8 {l:List (Int × Int)} (ha:Asc l) (hF : ∀ s∈l,s.1<1099511627776) {i:Nat} {x y:Int} (hx:l[i]?=some (x,y)):x<bnd l (i+1):=by
 unfold bnd
 cases h:l[i+1]? with
 | none=>exact hF (x,y) (ag1 hx)
 | some s=>exact ha i (i+1) _ _ (by omega) hx h
theorem Ha {y:Int} {j:Nat} : j<qM y↔(j:Int)+1<=y:=by unfold qM;split<;>omega
theorem ace.next {l:List (Int × Int)} (ha:Asc l) (hF : ∀ s∈l,s.1<1099511627776) {E:List Int} {i j:Nat} {C:List (Int × Int)} {x y:Int} (hx:l[i]?=some (x,y)) (h:ace l E i j C) :
  ace l (Ec E x (qM y)) (i+1) j (C++(if qM y<=j then (E[j]?).toList.map (fun f=>(f,x)) else [])):=by
 have hb:=aaj hx
 have hlt:=ad8 ha hF hx
 have hnx:=WI (n:=(j:Int)+1) hx
 rcases h with ⟨e,he,hC⟩|⟨he,hC,hlt2⟩
 ·rw [hb] at hC
  have hjE:j<E.length:=(agV.1 he).1
  by_cases hj:j<qM y
  ·left
   rw [if_neg (by omega),ahs]
   refine ⟨e,by rw [RS hj,if_pos hjE];exact he,?_⟩
   rw [hnx,if_pos (Ha.1 hj),hC,Q9 (x0:=e) (y0:=x) (by simp) (Int.le_refl _) hlt,if_pos rfl]
   simp
  ·right
   rw [if_pos (by omega),he]
   refine ⟨ahH (by rw [uH];omega),?_,?_⟩
   ·rw [hnx,if_neg (fun h=>hj (Ha.2 h)),hC];rfl
   ·intro p hp
    have hp':p∈Hz l ((j:Int)+1) i:=by rw [hC];simpa using hp
    have:=Zu ha _ i x y hx p hp'
    omega
 ·rw [hb] at hlt2
  have hjE : ¬ j<E.length:=fun h=>by rw [ag4 h] at he;cases he
  have hext:C++(if qM y<=j then (E[j]?).toList.map (fun f=>(f,x)) else [])=C:=by rw [he];simp
  rw [hext]
  by_cases hj:j<qM y
  ·left
   refine ⟨x,by rw [RS hj,if_neg hjE],?_⟩
   rw [hnx,if_pos (Ha.1 hj),hC]
   cases hq:C.getLast? with
   | none =>
    rw [List.getLast?_eq_none_iff] at hq
    subst hq
    rfl
   | some q =>
    obtain ⟨x0,y0⟩:=q
    have h1:=hlt2 (x0,y0) (List.mem_of_getLast? hq)
    simp at h1
    rw [Q9 hq (by omega) hlt,if_neg (by omega)]
  ·right
   refine ⟨ahH (by rw [uH];omega),by rw [hnx,if_neg (fun h=>hj (Ha.2 h))];exact hC,fun p hp=>?_⟩
   have:=hlt2 p hp
   omega
theorem lV (E:List Int) (a:Nat) (φ:Int->Int × Int) : ∀ M,(List.range M).flatMap (fun j=>if a<=j then (E[j]?).toList.map φ else [])=((E.take M).drop a).map φ
 | 0=>by simp
 | M+1=>by
  rw [List.range_succ,List.flatMap_append,lV E a φ M]
  simp only [ahw,List.flatMap_nil,ahs]
  rw [List.take_add_one]
  by_cases h:a<=M
  ·rw [if_pos h]
   by_cases h2:M<E.length
   ·rw [List.drop_append_of_le_length (by simp;omega),ag8]
   ·rw [ahH (by omega)];simp
  ·rw [if_neg h,ahs]
   rw [List.drop_of_length_le (by simp;omega),List.drop_of_length_le (by cases hq:E[M]?<;>simp<;>omega)]
theorem xz {α β:Type} (f g:α->List β) : ∀ l:List α,(l.flatMap fun x=>f x++g x).Perm (l.flatMap f++l.flatMap g)
 | [] => .refl _
 | x::l=>by
  simp only [ahw]
  refine ((xz f g l).append_left (f x++g x)).trans ?_
  rw [ahk,ahk]
  refine List.Perm.append_left _ ?_
  rw [<- ahk, <- ahk]
  exact List.perm_append_comm.append_right _
theorem Dy {l:List (Int × Int)} (ha:Asc l) (hF : ∀ s∈l,s.1<1099511627776) (hM : ∀ s∈l,s.2<=600) : ∀ i,i<=l.length->(oU l i).1.length<=600 /\ ∃ C:Nat->List (Int × Int),(∀ j,ace l (oU l i).1 i j (C j))/\(oU l i).2.Perm ((List.range 600).flatMap C)
 | 0,_=>⟨by simp [oU],fun _=>[],fun j => .inr ⟨rfl,rfl,by simp⟩,by simp [oU]⟩
 | i+1,hi=>by
  obtain ⟨h1,C,h2,h3⟩:=Dy ha hF hM i (by omega)
  obtain ⟨x,y,hx⟩ : ∃ x y,l[i]?=some (x,y):=⟨l[i].1,l[i].2,by rw [ag4 (by omega)]⟩
  have hy:y<=600:=hM (x,y) (ag1 hx)
  rw [uT hx]
  refine ⟨?_,fun j=>C j++(if qM y<=j then ((oU l i).1[j]?).toList.map (fun f=>(f,x)) else []),fun j=>(h2 j).next ha hF hx,?_⟩
  ·show (Ec _ _ _).length<=600
   rw [uH]
   unfold qM
   split<;>omega
  ·refine List.Perm.trans ?_ (xz _ _ _).symm
   rw [lV,ahy h1]
   exact h3.append_right _
theorem ND {l:List (Int × Int)} (ha:Asc l) (hF : ∀ s∈l,s.1<1099511627776) (hM : ∀ s∈l,s.2<=600):(OZ l).Perm (mR l):=by
 obtain ⟨h1,C,h2,h3⟩:=Dy ha hF hM l.length (ag' _)
 unfold OZ mR
 have hb:bnd l l.length=1099511627776:=by unfold bnd;rw [ahH (ag' _)];rfl
 have h4 : ∀ j:Nat,Hf l ((j:Int)+1)=C j++(if 0<=j then ((oU l l.length).1[j]?).toList.map (fun f=>(f,1099511627776)) else []):=by
  intro j
  rw [if_pos (ahe _), <- O6 l _ (ag' _)]
  rcases h2 j with ⟨e,he,hC⟩|⟨he,hC,_⟩
  ·rw [hC,he,hb];rfl
  ·rw [hC,he];simp
 rw [funext h4]
 refine List.Perm.trans ?_ (xz _ _ _).symm
 rw [lV,ahy h1]
 exact h3.append_right _
end Go.Proofs.YtcehmafobkhdbaaGreatDoor.St
