/- Parts of the proof, joined. No condition. -/
import Derived.Test.YtfccopdbgfdcdaaGreatDoorKAA
import Derived.Test.YtfccopdbgfdcdaaGreatDoorKBA
set_option linter.unusedSimpArgs false
set_option linter.unusedVariables false
namespace Go.Proofs.YtfccopdbgfdcdaaGreatDoor.St
open Go.RowKit
def pF (y:Int):Nat:=(if y<0 then 0 else y).toNat
def B_ (s:List Int × List (Int × Int)) (p:Int × Int):List Int × List (Int × Int):=(BL s.1 p.1 (pF p.2),s.2++(s.1.drop (pF p.2)).map fun f=>(f,p.1))
def mM (l:List (Int × Int)) (k:Nat):List Int × List (Int × Int):=(l.take k).foldl B_ ([],[])
def Ng (l:List (Int × Int)):List (Int × Int):=(mM l l.length).2++(mM l l.length).1.map fun f=>(f,1099511627776)
def j_ (l:List (Int × Int)):List (Int × Int):=(List.range 600).flatMap fun j:Nat=>Fh l ((j:Int)+1)
def bnd (l:List (Int × Int)) (i:Nat):Int:=((l[i]?).map (·.1)).getD 1099511627776
theorem tL {l:List (Int × Int)} {k:Nat} {x y:Int} (hx:l[k]?=some (x,y)):mM l (k+1)=B_ (mM l k) (x,y):=gP hx
theorem Uz {l:List (Int × Int)} {n:Int} {k:Nat} {x y:Int} (hx:l[k]?=some (x,y)):Fs l n (k+1)=if n<=y then iE (Fs l n k) (x,bnd l (k+1)) else Fs l n k:=by
 rw [Ir hx];rfl
theorem tN (E:List Int) (a:Int) (n:Nat):(BL E a n).length=n:=by unfold BL;simp;omega
theorem Qb {E:List Int} {a:Int} {n j:Nat} (hj:j<n):(BL E a n)[j]?=if j<E.length then E[j]? else some a:=by
 unfold BL
 by_cases h:j<E.length
 ·rw [if_pos h,adW (by simp;omega),List.getElem?_take_of_lt hj]
 ·rw [if_neg h,adP (by simp;omega),List.getElem?_replicate,if_pos (by simp;omega)]
def YW (l:List (Int × Int)) (E:List Int) (i:Nat) (j:Nat) (C:List (Int × Int)):Prop :=
 (∃ e,E[j]?=some e/\Fs l ((j:Int)+1) i=C++[(e,bnd l i)])\/(E[j]?=none/\Fs l ((j:Int)+1) i=C /\ ∀ p∈C,p.2<bnd l i)
theorem WV {l:List (Int × Int)} {i:Nat} {x y:Int} (hx:l[i]?=some (x,y)):bnd l i=x:=by unfold bnd;rw [hx];rfl
theorem abb {l:List (Int × Int)} (ha:Asc l) (hF : ∀ s∈l,s.1<1099511627776) {i:Nat} {x y:Int} (hx:l[i]?=some (x,y)):x<bnd l (i+1):=by
 unfold bnd
 cases h:l[i+1]? with
 | none=>exact hF (x,y) (adO hx)
 | some s=>exact ha i (i+1) _ _ (by omega) hx h
theorem E9 {y:Int} {j:Nat} : j<pF y↔(j:Int)+1<=y:=by unfold pF;split<;>omega
theorem YW.next {l:List (Int × Int)} (ha:Asc l) (hF : ∀ s∈l,s.1<1099511627776) {E:List Int} {i j:Nat} {C:List (Int × Int)} {x y:Int} (hx:l[i]?=some (x,y)) (h:YW l E i j C) :
  YW l (BL E x (pF y)) (i+1) j (C++(if pF y<=j then (E[j]?).toList.map (fun f=>(f,x)) else [])):=by
 have hb:=WV hx
 have hlt:=abb ha hF hx
 have hnx:=Uz (n:=(j:Int)+1) hx
 rcases h with ⟨e,he,hC⟩|⟨he,hC,hlt2⟩
 ·rw [hb] at hC
  have hjE:j<E.length:=(adI.1 he).1
  by_cases hj:j<pF y
  ·left
   rw [if_neg (by omega),aeg]
   refine ⟨e,by rw [Qb hj,if_pos hjE];exact he,?_⟩
   rw [hnx,if_pos (E9.1 hj),hC,Qm (x0:=e) (y0:=x) (by simp) (Int.le_refl _) hlt,if_pos rfl]
   simp
  ·right
   rw [if_pos (by omega),he]
   refine ⟨aeu (by rw [tN];omega),?_,?_⟩
   ·rw [hnx,if_neg (fun h=>hj (E9.2 h)),hC];rfl
   ·intro p hp
    have hp':p∈Fs l ((j:Int)+1) i:=by rw [hC];simpa using hp
    have:=Wm ha _ i x y hx p hp'
    omega
 ·rw [hb] at hlt2
  have hjE : ¬ j<E.length:=fun h=>by rw [adR h] at he;cases he
  have hext:C++(if pF y<=j then (E[j]?).toList.map (fun f=>(f,x)) else [])=C:=by rw [he];simp
  rw [hext]
  by_cases hj:j<pF y
  ·left
   refine ⟨x,by rw [Qb hj,if_neg hjE],?_⟩
   rw [hnx,if_pos (E9.1 hj),hC]
   cases hq:C.getLast? with
   | none =>
    rw [List.getLast?_eq_none_iff] at hq
    subst hq
    rfl
   | some q =>
    obtain ⟨x0,y0⟩:=q
    have h1:=hlt2 (x0,y0) (List.mem_of_getLast? hq)
    simp at h1
    rw [Qm hq (by omega) hlt,if_neg (by omega)]
  ·right
   refine ⟨aeu (by rw [tN];omega),by rw [hnx,if_neg (fun h=>hj (E9.2 h))];exact hC,fun p hp=>?_⟩
   have:=hlt2 p hp
   omega
theorem jH (E:List Int) (a:Nat) (φ:Int->Int × Int) : ∀ M,(List.range M).flatMap (fun j=>if a<=j then (E[j]?).toList.map φ else [])=((E.take M).drop a).map φ
 | 0=>by simp
 | M+1=>by
  rw [List.range_succ,List.flatMap_append,jH E a φ M]
  simp only [aej,List.flatMap_nil,aeg]
  rw [List.take_add_one]
  by_cases h:a<=M
  ·rw [if_pos h]
   by_cases h2:M<E.length
   ·rw [List.drop_append_of_le_length (by simp;omega),adV]
   ·rw [aeu (by omega)];simp
  ·rw [if_neg h,aeg]
   rw [List.drop_of_length_le (by simp;omega),List.drop_of_length_le (by cases hq:E[M]?<;>simp<;>omega)]
theorem vU {α β:Type} (f g:α->List β) : ∀ l:List α,(l.flatMap fun x=>f x++g x).Perm (l.flatMap f++l.flatMap g)
 | [] => .refl _
 | x::l=>by
  simp only [aej]
  refine ((vU f g l).append_left (f x++g x)).trans ?_
  rw [ad_,ad_]
  refine List.Perm.append_left _ ?_
  rw [<- ad_, <- ad_]
  exact List.perm_append_comm.append_right _
theorem CJ {l:List (Int × Int)} (ha:Asc l) (hF : ∀ s∈l,s.1<1099511627776) (hM : ∀ s∈l,s.2<=600) : ∀ i,i<=l.length->(mM l i).1.length<=600 /\ ∃ C:Nat->List (Int × Int),(∀ j,YW l (mM l i).1 i j (C j))/\(mM l i).2.Perm ((List.range 600).flatMap C)
 | 0,_=>⟨by simp [mM],fun _=>[],fun j => .inr ⟨rfl,rfl,by simp⟩,by simp [mM]⟩
 | i+1,hi=>by
  obtain ⟨h1,C,h2,h3⟩:=CJ ha hF hM i (by omega)
  obtain ⟨x,y,hx⟩ : ∃ x y,l[i]?=some (x,y):=⟨l[i].1,l[i].2,by rw [adR (by omega)]⟩
  have hy:y<=600:=hM (x,y) (adO hx)
  rw [tL hx]
  refine ⟨?_,fun j=>C j++(if pF y<=j then ((mM l i).1[j]?).toList.map (fun f=>(f,x)) else []),fun j=>(h2 j).next ha hF hx,?_⟩
  ·show (BL _ _ _).length<=600
   rw [tN]
   unfold pF
   split<;>omega
  ·refine List.Perm.trans ?_ (vU _ _ _).symm
   rw [jH,ael h1]
   exact h3.append_right _
theorem KZ {l:List (Int × Int)} (ha:Asc l) (hF : ∀ s∈l,s.1<1099511627776) (hM : ∀ s∈l,s.2<=600):(Ng l).Perm (j_ l):=by
 obtain ⟨h1,C,h2,h3⟩:=CJ ha hF hM l.length (adY _)
 unfold Ng j_
 have hb:bnd l l.length=1099511627776:=by unfold bnd;rw [aeu (adY _)];rfl
 have h4 : ∀ j:Nat,Fh l ((j:Int)+1)=C j++(if 0<=j then ((mM l l.length).1[j]?).toList.map (fun f=>(f,1099511627776)) else []):=by
  intro j
  rw [if_pos (ad4 _), <- LQ l _ (adY _)]
  rcases h2 j with ⟨e,he,hC⟩|⟨he,hC,_⟩
  ·rw [hC,he,hb];rfl
  ·rw [hC,he];simp
 rw [funext h4]
 refine List.Perm.trans ?_ (vU _ _ _).symm
 rw [jH,ael h1]
 exact h3.append_right _
end Go.Proofs.YtfccopdbgfdcdaaGreatDoor.St
