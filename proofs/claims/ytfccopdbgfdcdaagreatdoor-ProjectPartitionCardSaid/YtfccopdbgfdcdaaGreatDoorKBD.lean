/- Parts of the proof, joined. No condition. -/
import Derived.Test.YtfccopdbgfdcdaaGreatDoorKBA
set_option linter.unusedSimpArgs false
set_option linter.unusedVariables false
namespace Go.Proofs.YtfccopdbgfdcdaaGreatDoor.St
open Go.RowKit
def clipL (y:Int):Nat:=(if y<0 then 0 else y).toNat
def levStep (s:List Int × List (Int × Int)) (p:Int × Int):List Int × List (Int × Int):=(setE s.1 p.1 (clipL p.2),s.2++(s.1.drop (clipL p.2)).map fun f=>(f,p.1))
def levK (l:List (Int × Int)) (k:Nat):List Int × List (Int × Int):=(l.take k).foldl levStep ([],[])
def levD (l:List (Int × Int)):List (Int × Int):=(levK l l.length).2++(levK l l.length).1.map fun f=>(f,1099511627776)
def levAll (l:List (Int × Int)):List (Int × Int):=(List.range 600).flatMap fun j:Nat=>atl l ((j:Int)+1)
def bnd (l:List (Int × Int)) (i:Nat):Int:=((l[i]?).map (·.1)).getD 1099511627776
theorem levK_next {l:List (Int × Int)} {k:Nat} {x y:Int} (hx:l[k]?=some (x,y)):levK l (k+1)=levStep (levK l k) (x,y):=foldl_take hx
theorem atK_next' {l:List (Int × Int)} {n:Int} {k:Nat} {x y:Int} (hx:l[k]?=some (x,y)):atK l n (k+1)=if n≤y then joinP (atK l n k) (x,bnd l (k+1)) else atK l n k:=by
 rw [atK_next hx];rfl
theorem setE_len (E:List Int) (a:Int) (n:Nat):(setE E a n).length=n:=by unfold setE;simp;omega
theorem setE_get {E:List Int} {a:Int} {n j:Nat} (hj:j<n):(setE E a n)[j]?=if j<E.length then E[j]? else some a:=by
 unfold setE
 by_cases h:j<E.length
 ·rw [if_pos h,List.getElem?_append_left (by simp;omega),List.getElem?_take_of_lt hj]
 ·rw [if_neg h,List.getElem?_append_right (by simp;omega),List.getElem?_replicate,if_pos (by simp;omega)]
def LevJ (l:List (Int × Int)) (E:List Int) (i:Nat) (j:Nat) (C:List (Int × Int)):Prop :=
 (∃ e,E[j]?=some e∧atK l ((j:Int)+1) i=C++[(e,bnd l i)])∨(E[j]?=none∧atK l ((j:Int)+1) i=C ∧ ∀ p∈C,p.2<bnd l i)
theorem bnd_some {l:List (Int × Int)} {i:Nat} {x y:Int} (hx:l[i]?=some (x,y)):bnd l i=x:=by unfold bnd;rw [hx];rfl
theorem bnd_lt {l:List (Int × Int)} (ha:Asc l) (hF : ∀ s∈l,s.1<1099511627776) {i:Nat} {x y:Int} (hx:l[i]?=some (x,y)):x<bnd l (i+1):=by
 unfold bnd
 cases h:l[i+1]? with
 | none=>exact hF (x,y) (List.mem_of_getElem? hx)
 | some s=>exact ha i (i+1) _ _ (by omega) hx h
theorem clip_le {y:Int} {j:Nat} : j<clipL y↔(j:Int)+1≤y:=by unfold clipL;split<;>omega
theorem LevJ.next {l:List (Int × Int)} (ha:Asc l) (hF : ∀ s∈l,s.1<1099511627776) {E:List Int} {i j:Nat} {C:List (Int × Int)} {x y:Int} (hx:l[i]?=some (x,y)) (h:LevJ l E i j C) :
  LevJ l (setE E x (clipL y)) (i+1) j (C++(if clipL y≤j then (E[j]?).toList.map (fun f=>(f,x)) else [])):=by
 have hb:=bnd_some hx
 have hlt:=bnd_lt ha hF hx
 have hnx:=atK_next' (n:=(j:Int)+1) hx
 rcases h with ⟨e,he,hC⟩|⟨he,hC,hlt2⟩
 ·rw [hb] at hC
  have hjE:j<E.length:=(List.getElem?_eq_some_iff.1 he).1
  by_cases hj:j<clipL y
  ·left
   rw [if_neg (by omega),List.append_nil]
   refine ⟨e,by rw [setE_get hj,if_pos hjE];exact he,?_⟩
   rw [hnx,if_pos (clip_le.1 hj),hC,joinP_eq (x0:=e) (y0:=x) (by simp) (Int.le_refl _) hlt,if_pos rfl]
   simp
  ·right
   rw [if_pos (by omega),he]
   refine ⟨List.getElem?_eq_none (by rw [setE_len];omega),?_,?_⟩
   ·rw [hnx,if_neg (fun h=>hj (clip_le.2 h)),hC];rfl
   ·intro p hp
    have hp':p∈atK l ((j:Int)+1) i:=by rw [hC];simpa using hp
    have:=atK_le ha _ i x y hx p hp'
    omega
 ·rw [hb] at hlt2
  have hjE : ¬ j<E.length:=fun h=>by rw [List.getElem?_eq_getElem h] at he;cases he
  have hext:C++(if clipL y≤j then (E[j]?).toList.map (fun f=>(f,x)) else [])=C:=by rw [he];simp
  rw [hext]
  by_cases hj:j<clipL y
  ·left
   refine ⟨x,by rw [setE_get hj,if_neg hjE],?_⟩
   rw [hnx,if_pos (clip_le.1 hj),hC]
   cases hq:C.getLast? with
   | none =>
    rw [List.getLast?_eq_none_iff] at hq
    subst hq
    rfl
   | some q =>
    obtain ⟨x0,y0⟩:=q
    have h1:=hlt2 (x0,y0) (List.mem_of_getLast? hq)
    simp at h1
    rw [joinP_eq hq (by omega) hlt,if_neg (by omega)]
  ·right
   refine ⟨List.getElem?_eq_none (by rw [setE_len];omega),by rw [hnx,if_neg (fun h=>hj (clip_le.2 h))];exact hC,fun p hp=>?_⟩
   have:=hlt2 p hp
   omega
theorem flatMap_range_take (E:List Int) (a:Nat) (φ:Int→Int × Int) : ∀ M,(List.range M).flatMap (fun j=>if a≤j then (E[j]?).toList.map φ else [])=((E.take M).drop a).map φ
 | 0=>by simp
 | M+1=>by
  rw [List.range_succ,List.flatMap_append,flatMap_range_take E a φ M]
  simp only [List.flatMap_cons,List.flatMap_nil,List.append_nil]
  rw [List.take_add_one]
  by_cases h:a≤M
  ·rw [if_pos h]
   by_cases h2:M<E.length
   ·rw [List.drop_append_of_le_length (by simp;omega),List.map_append]
   ·rw [List.getElem?_eq_none (by omega)];simp
  ·rw [if_neg h,List.append_nil]
   rw [List.drop_of_length_le (by simp;omega),List.drop_of_length_le (by cases hq:E[M]?<;>simp<;>omega)]
theorem flatMap_perm {α β:Type} (f g:α→List β) : ∀ l:List α,(l.flatMap fun x=>f x++g x).Perm (l.flatMap f++l.flatMap g)
 | [] => .refl _
 | x::l=>by
  simp only [List.flatMap_cons]
  refine ((flatMap_perm f g l).append_left (f x++g x)).trans ?_
  rw [List.append_assoc,List.append_assoc]
  refine List.Perm.append_left _ ?_
  rw [← List.append_assoc, ← List.append_assoc]
  exact List.perm_append_comm.append_right _
theorem levK_inv {l:List (Int × Int)} (ha:Asc l) (hF : ∀ s∈l,s.1<1099511627776) (hM : ∀ s∈l,s.2≤600) : ∀ i,i≤l.length→(levK l i).1.length≤600 ∧ ∃ C:Nat→List (Int × Int),(∀ j,LevJ l (levK l i).1 i j (C j))∧(levK l i).2.Perm ((List.range 600).flatMap C)
 | 0,_=>⟨by simp [levK],fun _=>[],fun j => .inr ⟨rfl,rfl,by simp⟩,by simp [levK]⟩
 | i+1,hi=>by
  obtain ⟨h1,C,h2,h3⟩:=levK_inv ha hF hM i (by omega)
  obtain ⟨x,y,hx⟩ : ∃ x y,l[i]?=some (x,y):=⟨l[i].1,l[i].2,by rw [List.getElem?_eq_getElem (by omega)]⟩
  have hy:y≤600:=hM (x,y) (List.mem_of_getElem? hx)
  rw [levK_next hx]
  refine ⟨?_,fun j=>C j++(if clipL y≤j then ((levK l i).1[j]?).toList.map (fun f=>(f,x)) else []),fun j=>(h2 j).next ha hF hx,?_⟩
  ·show (setE _ _ _).length≤600
   rw [setE_len]
   unfold clipL
   split<;>omega
  ·refine List.Perm.trans ?_ (flatMap_perm _ _ _).symm
   rw [flatMap_range_take,List.take_of_length_le h1]
   exact h3.append_right _
theorem levD_perm {l:List (Int × Int)} (ha:Asc l) (hF : ∀ s∈l,s.1<1099511627776) (hM : ∀ s∈l,s.2≤600):(levD l).Perm (levAll l):=by
 obtain ⟨h1,C,h2,h3⟩:=levK_inv ha hF hM l.length (Nat.le_refl _)
 unfold levD levAll
 have hb:bnd l l.length=1099511627776:=by unfold bnd;rw [List.getElem?_eq_none (Nat.le_refl _)];rfl
 have h4 : ∀ j:Nat,atl l ((j:Int)+1)=C j++(if 0≤j then ((levK l l.length).1[j]?).toList.map (fun f=>(f,1099511627776)) else []):=by
  intro j
  rw [if_pos (Nat.zero_le _), ← atK_all l _ (Nat.le_refl _)]
  rcases h2 j with ⟨e,he,hC⟩|⟨he,hC,_⟩
  ·rw [hC,he,hb];rfl
  ·rw [hC,he];simp
 rw [funext h4]
 refine List.Perm.trans ?_ (flatMap_perm _ _ _).symm
 rw [flatMap_range_take,List.take_of_length_le h1]
 exact h3.append_right _
end Go.Proofs.YtfccopdbgfdcdaaGreatDoor.St
