/- Parts of the proof, joined. No condition. -/
import Derived.Test.YtlcceppoloaecaaGreatDoorKAA
import Derived.Test.YtlcceppoloaecaaGreatDoorKAX
set_option linter.unusedSimpArgs false
set_option linter.unusedVariables false
namespace Go.Proofs.YtlcceppoloaecaaGreatDoor.St
open Go.RowKit
def kK (y:Int):Nat:=(if y<0 then 0 else y).toNat
def Bh (s:List Int × List (Int × Int)) (p:Int × Int):List Int × List (Int × Int):=(xA s.1 p.1 (kK p.2),s.2++(s.1.drop (kK p.2)).map fun f=>(f,p.1))
def oZ (l:List (Int × Int)) (k:Nat):List Int × List (Int × Int):=(l.take k).foldl Bh ([],[])
def Rj (l:List (Int × Int)):List (Int × Int):=(oZ l l.length).2++(oZ l l.length).1.map fun f=>(f,1099511627776)
def vL (l:List (Int × Int)):List (Int × Int):=(List.range 600).flatMap fun j:Nat=>Gv l ((j:Int)+1)
def bnd (l:List (Int × Int)) (i:Nat):Int:=((l[i]?).map (·.1)).getD 1099511627776
theorem sF {l:List (Int × Int)} {k:Nat} {x y:Int} (hx:l[k]?=some (x,y)):oZ l (k+1)=Bh (oZ l k) (x,y):=dB hx
theorem JC {l:List (Int × Int)} {n:Int} {k:Nat} {x y:Int} (hx:l[k]?=some (x,y)):vB l n (k+1)=if n<=y then gu (vB l n k) (x,bnd l (k+1)) else vB l n k:=by
 rw [xz hx];rfl
theorem qL (E:List Int) (a:Int) (n:Nat):(xA E a n).length=n:=by unfold xA;simp;omega
theorem Dh {E:List Int} {a:Int} {n j:Nat} (hj:j<n):(xA E a n)[j]?=if j<E.length then E[j]? else some a:=by
 unfold xA
 by_cases h:j<E.length
 ·rw [if_pos h,Vq (by simp;omega),List.getElem?_take_of_lt hj]
 ·rw [if_neg h,Vj (by simp;omega),List.getElem?_replicate,if_pos (by simp;omega)]
def M4 (l:List (Int × Int)) (E:List Int) (i:Nat) (j:Nat) (C:List (Int × Int)):Prop :=
 (∃ e,E[j]?=some e/\vB l ((j:Int)+1) i=C++[(e,bnd l i)])\/(E[j]?=none/\vB l ((j:Int)+1) i=C /\ ∀ p∈C,p.2<bnd l i)
theorem Kc {l:List (Int × Int)} {i:Nat} {x y:Int} (hx:l[i]?=some (x,y)):bnd l i=x:=by unfold bnd;rw [hx];rfl
theorem Qr {l:List (Int × Int)} (ha:Asc l) (hF : ∀ s∈l,s.1<1099511627776) {i:Nat} {x y:Int} (hx:l[i]?=some (x,y)):x<bnd l (i+1):=by
 unfold bnd
 cases h:l[i+1]? with
 | none=>exact hF (x,y) (Vi hx)
 | some s=>exact ha i (i+1) _ _ (by omega) hx h
theorem u_ {y:Int} {j:Nat} : j<kK y↔(j:Int)+1<=y:=by unfold kK;split<;>omega
theorem M4.next {l:List (Int × Int)} (ha:Asc l) (hF : ∀ s∈l,s.1<1099511627776) {E:List Int} {i j:Nat} {C:List (Int × Int)} {x y:Int} (hx:l[i]?=some (x,y)) (h:M4 l E i j C) :
  M4 l (xA E x (kK y)) (i+1) j (C++(if kK y<=j then (E[j]?).toList.map (fun f=>(f,x)) else [])):=by
 have hb:=Kc hx
 have hlt:=Qr ha hF hx
 have hnx:=JC (n:=(j:Int)+1) hx
 rcases h with ⟨e,he,hC⟩|⟨he,hC,hlt2⟩
 ·rw [hb] at hC
  have hjE:j<E.length:=(Vb.1 he).1
  by_cases hj:j<kK y
  ·left
   rw [if_neg (by omega),VJ]
   refine ⟨e,by rw [Dh hj,if_pos hjE];exact he,?_⟩
   rw [hnx,if_pos (u_.1 hj),hC,Ea (x0:=e) (y0:=x) (by simp) (Int.le_refl _) hlt,if_pos rfl]
   simp
  ·right
   rw [if_pos (by omega),he]
   refine ⟨VV (by rw [qL];omega),?_,?_⟩
   ·rw [hnx,if_neg (fun h=>hj (u_.2 h)),hC];rfl
   ·intro p hp
    have hp':p∈vB l ((j:Int)+1) i:=by rw [hC];simpa using hp
    have:=Kk ha _ i x y hx p hp'
    omega
 ·rw [hb] at hlt2
  have hjE : ¬ j<E.length:=fun h=>by rw [Vl h] at he;cases he
  have hext:C++(if kK y<=j then (E[j]?).toList.map (fun f=>(f,x)) else [])=C:=by rw [he];simp
  rw [hext]
  by_cases hj:j<kK y
  ·left
   refine ⟨x,by rw [Dh hj,if_neg hjE],?_⟩
   rw [hnx,if_pos (u_.1 hj),hC]
   cases hq:C.getLast? with
   | none =>
    rw [List.getLast?_eq_none_iff] at hq
    subst hq
    rfl
   | some q =>
    obtain ⟨x0,y0⟩:=q
    have h1:=hlt2 (x0,y0) (List.mem_of_getLast? hq)
    simp at h1
    rw [Ea hq (by omega) hlt,if_neg (by omega)]
  ·right
   refine ⟨VV (by rw [qL];omega),by rw [hnx,if_neg (fun h=>hj (u_.2 h))];exact hC,fun p hp=>?_⟩
   have:=hlt2 p hp
   omega
theorem fq (E:List Int) (a:Nat) (φ:Int->Int × Int) : ∀ M,(List.range M).flatMap (fun j=>if a<=j then (E[j]?).toList.map φ else [])=((E.take M).drop a).map φ
 | 0=>by simp
 | M+1=>by
  rw [List.range_succ,List.flatMap_append,fq E a φ M]
  simp only [VM,List.flatMap_nil,VJ]
  rw [List.take_add_one]
  by_cases h:a<=M
  ·rw [if_pos h]
   by_cases h2:M<E.length
   ·rw [List.drop_append_of_le_length (by simp;omega),Vp]
   ·rw [VV (by omega)];simp
  ·rw [if_neg h,VJ]
   rw [List.drop_of_length_le (by simp;omega),List.drop_of_length_le (by cases hq:E[M]?<;>simp<;>omega)]
theorem lw {α β:Type} (f g:α->List β) : ∀ l:List α,(l.flatMap fun x=>f x++g x).Perm (l.flatMap f++l.flatMap g)
 | [] => .refl _
 | x::l=>by
  simp only [VM]
  refine ((lw f g l).append_left (f x++g x)).trans ?_
  rw [VD,VD]
  refine List.Perm.append_left _ ?_
  rw [<- VD, <- VD]
  exact List.perm_append_comm.append_right _
theorem rf {l:List (Int × Int)} (ha:Asc l) (hF : ∀ s∈l,s.1<1099511627776) (hM : ∀ s∈l,s.2<=600) : ∀ i,i<=l.length->(oZ l i).1.length<=600 /\ ∃ C:Nat->List (Int × Int),(∀ j,M4 l (oZ l i).1 i j (C j))/\(oZ l i).2.Perm ((List.range 600).flatMap C)
 | 0,_=>⟨by simp [oZ],fun _=>[],fun j => .inr ⟨rfl,rfl,by simp⟩,by simp [oZ]⟩
 | i+1,hi=>by
  obtain ⟨h1,C,h2,h3⟩:=rf ha hF hM i (by omega)
  obtain ⟨x,y,hx⟩ : ∃ x y,l[i]?=some (x,y):=⟨l[i].1,l[i].2,by rw [Vl (by omega)]⟩
  have hy:y<=600:=hM (x,y) (Vi hx)
  rw [sF hx]
  refine ⟨?_,fun j=>C j++(if kK y<=j then ((oZ l i).1[j]?).toList.map (fun f=>(f,x)) else []),fun j=>(h2 j).next ha hF hx,?_⟩
  ·show (xA _ _ _).length<=600
   rw [qL]
   unfold kK
   split<;>omega
  ·refine List.Perm.trans ?_ (lw _ _ _).symm
   rw [fq,VO h1]
   exact h3.append_right _
theorem IP {l:List (Int × Int)} (ha:Asc l) (hF : ∀ s∈l,s.1<1099511627776) (hM : ∀ s∈l,s.2<=600):(Rj l).Perm (vL l):=by
 obtain ⟨h1,C,h2,h3⟩:=rf ha hF hM l.length (Vs _)
 unfold Rj vL
 have hb:bnd l l.length=1099511627776:=by unfold bnd;rw [VV (Vs _)];rfl
 have h4 : ∀ j:Nat,Gv l ((j:Int)+1)=C j++(if 0<=j then ((oZ l l.length).1[j]?).toList.map (fun f=>(f,1099511627776)) else []):=by
  intro j
  rw [if_pos (Vx _), <- Cy l _ (Vs _)]
  rcases h2 j with ⟨e,he,hC⟩|⟨he,hC,_⟩
  ·rw [hC,he,hb];rfl
  ·rw [hC,he];simp
 rw [funext h4]
 refine List.Perm.trans ?_ (lw _ _ _).symm
 rw [fq,VO h1]
 exact h3.append_right _
end Go.Proofs.YtlcceppoloaecaaGreatDoor.St
