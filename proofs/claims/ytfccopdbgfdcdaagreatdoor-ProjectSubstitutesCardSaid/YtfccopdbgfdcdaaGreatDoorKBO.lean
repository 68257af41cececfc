/- Parts of the proof, joined. No condition. -/
import Derived.Test.YtfccopdbgfdcdaaGreatDoorKAA
import Derived.Test.YtfccopdbgfdcdaaGreatDoorKBN
import Derived.Test.YtfccopdbgfdcdaaGreatDoorKBL
import Derived.Test.YtfccopdbgfdcdaaGreatDoorKBM
import Derived.Test.YtfccopdbgfdcdaaGreatDoorKAM
import Derived.Test.YtfccopdbgfdcdaaGreatDoorKBI
import Derived.ProofKit
import Derived.OpenShut
import Derived.ChangeOld
import Derived.Deep.Slices
set_option linter.unusedSimpArgs false
set_option linter.unusedVariables false
namespace Go.Proofs.YtfccopdbgfdcdaaGreatDoor
open Go.RowKit Go.MapKept
set_option maxRecDepth 100000
set_option maxHeartbeats 8000000
def jv (a_rel:Int) (a_p:aW) (a_q:aW):Option (Bool):=bif (decide (a_rel=(0:Int))) then some (decide (a_p.hi<a_q.lo)) else
 bif (decide (a_rel=(1:Int))) then some (decide (a_p.hi=a_q.lo)) else
 bif (decide (a_rel=(2:Int))) then bif (decide (a_p.lo<a_q.lo)) then bif (decide (a_q.lo<a_p.hi)) then some (decide (a_p.hi<a_q.hi)) else
 some false else
 some false else
 bif (decide (a_rel=(3:Int))) then bif (decide (a_p.lo=a_q.lo)) then some (decide (a_p.hi<a_q.hi)) else
 some false else
 bif (decide (a_rel=(4:Int))) then bif (decide (a_q.lo<a_p.lo)) then some (decide (a_p.hi<a_q.hi)) else
 some false else
 bif (decide (a_rel=(5:Int))) then bif (decide (a_p.hi=a_q.hi)) then some (decide (a_q.lo<a_p.lo)) else
 some false else
 bif (decide (a_rel=(6:Int))) then some (dw [.c (.int .i64 a_p.lo), .c (.int .i64 a_p.hi)] [.c (.int .i64 a_q.lo), .c (.int .i64 a_q.hi)]) else
 bif (decide (a_rel=(7:Int))) then bif (decide (a_p.hi=a_q.hi)) then some (decide (a_p.lo<a_q.lo)) else
 some false else
 bif (decide (a_rel=(8:Int))) then bif (decide (a_p.lo<a_q.lo)) then some (decide (a_q.hi<a_p.hi)) else
 some false else
 bif (decide (a_rel=(9:Int))) then bif (decide (a_p.lo=a_q.lo)) then some (decide (a_q.hi<a_p.hi)) else
 some false else
 bif (decide (a_rel=(10:Int))) then bif (decide (a_q.lo<a_p.lo)) then bif (decide (a_p.lo<a_q.hi)) then some (decide (a_q.hi<a_p.hi)) else
 some false else
 some false else
 bif (decide (a_rel=(11:Int))) then some (decide (a_q.hi=a_p.lo)) else
 bif (decide (a_rel=(12:Int))) then some (decide (a_q.hi<a_p.lo)) else
 some false
theorem aab {a_rel:Int} {a_p:aW} {a_q:aW} {r:Bool} (H:jv a_rel a_p a_q=some r):Pure Tryz.prog 93 [.one (.int .i64 a_rel), .agg (dP a_p), .agg (dP a_q)] (.val (.one (.bool r))):=by
 unfold jv at H
 refine po_ Tryz.func93 Tryz.ntmps93 ?_
 rcases aa H with ⟨q_1,H⟩|⟨q_1,H⟩
 ·cases H
  exact af
 rcases aa H with ⟨q_2,H⟩|⟨q_2,H⟩
 ·cases H
  exact af
 refine bv ?_
 rcases aa H with ⟨q_3,H⟩|⟨q_3,H⟩
 ·rcases aa H with ⟨q_4,H⟩|⟨q_4,H⟩
  ·rcases aa H with ⟨q_5,H⟩|⟨q_5,H⟩
   ·cases H
    exact af
   cases H
   exact af
  cases H
  exact af
 rcases aa H with ⟨q_6,H⟩|⟨q_6,H⟩
 ·rcases aa H with ⟨q_7,H⟩|⟨q_7,H⟩
  ·cases H
   exact af
  cases H
  exact af
 rcases aa H with ⟨q_8,H⟩|⟨q_8,H⟩
 ·refine bv ?_
  rcases aa H with ⟨q_9,H⟩|⟨q_9,H⟩
  ·cases H
   exact af
  cases H
  exact af
 refine bv ?_
 rcases aa H with ⟨q_10,H⟩|⟨q_10,H⟩
 ·rcases aa H with ⟨q_11,H⟩|⟨q_11,H⟩
  ·cases H
   exact af
  cases H
  exact af
 rcases aa H with ⟨q_12,H⟩|⟨q_12,H⟩
 ·cases H
  exact af
 rcases aa H with ⟨q_13,H⟩|⟨q_13,H⟩
 ·refine bv ?_
  rcases aa H with ⟨q_14,H⟩|⟨q_14,H⟩
  ·cases H
   exact af
  cases H
  exact af
 refine bv ?_
 rcases aa H with ⟨q_15,H⟩|⟨q_15,H⟩
 ·rcases aa H with ⟨q_16,H⟩|⟨q_16,H⟩
  ·cases H
   exact af
  cases H
  exact af
 rcases aa H with ⟨q_17,H⟩|⟨q_17,H⟩
 ·rcases aa H with ⟨q_18,H⟩|⟨q_18,H⟩
  ·cases H
   exact af
  cases H
  exact af
 rcases aa H with ⟨q_19,H⟩|⟨q_19,H⟩
 ·refine bv ?_
  rcases aa H with ⟨q_20,H⟩|⟨q_20,H⟩
  ·rcases aa H with ⟨q_21,H⟩|⟨q_21,H⟩
   ·cases H
    exact af
   cases H
   exact af
  cases H
  exact af
 refine bv ?_
 rcases aa H with ⟨q_22,H⟩|⟨q_22,H⟩
 ·cases H
  exact af
 rcases aa H with ⟨q_23,H⟩|⟨q_23,H⟩
 ·cases H
  exact af
 cases H
 exact af
def y_ (a_rel:Int) (a_p:aW) (a_q:aW):Option (Bool):=(lT a_p).bind fun r_1=>bif r_1 then (lT a_q).bind fun r_3=>bif r_3 then (jv a_rel a_p a_q).bind fun r_5=>some r_5 else
 some false else
 some false
theorem Gt {a_rel:Int} {a_p:aW} {a_q:aW} {r:Bool} (H:y_ a_rel a_p a_q=some r):Pure Tryz.prog 56 [.one (.int .i64 a_rel), .agg (dP a_p), .agg (dP a_q)] (.val (.one (.bool r))):=by
 unfold y_ at H
 refine po_ Tryz.func56 Tryz.ntmps56 ?_
 obtain ⟨r_1,c1,H⟩:=bd_ H
 replace c1:=kW c1
 rcases aa H with ⟨q_2,H⟩|⟨q_2,H⟩
 ·obtain ⟨r_3,c2,H⟩:=bd_ H
  replace c2:=kW c2
  rcases aa H with ⟨q_4,H⟩|⟨q_4,H⟩
  ·obtain ⟨r_5,c3,H⟩:=bd_ H
   replace c3:=aab c3
   cases H
   exact af
  cases H
  exact af
 cases H
 exact af
def ug (a_p:aW) (a_q:aW):(Int)->Option (Step (Int) (Int × Bool)):=fun s=>match s with
 | rel_1=>bif (decide (rel_1<(13:Int))) then (y_ rel_1 a_p a_q).bind fun r_3=>bif r_3 then some (.ret (rel_1,true)) else
 some (.next (IntKind.i64.wrap (rel_1+(1:Int)))) else
 some (.exit rel_1)
def wV:Sum (Int) (Int × Bool)->Option ((Int × Bool))
 | .inl rel_1=>some ((0:Int),false)
 | .inr q=>some q
def Ou (a_p:aW) (a_q:aW):Option (Int × Bool):=(az (ug a_p a_q) fuel (0:Int)).bind (wV)
theorem Wt {a_p:aW} {a_q:aW} {r:Int × Bool} (H:Ou a_p a_q=some r):Pure Tryz.prog 160 [.agg (dP a_p), .agg (dP a_q)] (.tup [.one (.int .i64 r.1), .one (.bool r.2)]):=by
 unfold Ou at H
 refine po_ Tryz.func160 Tryz.ntmps160 ?_
 refine bv ?_
 refine alM_ (fun s:Int=>match s with|rel_1=>[(2, .one (.ptr 0 0)),(3, .one (.ptr 1 0)),(6, .one (.c (.int .i64 rel_1)))]) (fun s=>match s with|rel_1=>[.box [.c (.int .i64 a_p.lo), .c (.int .i64 a_p.hi)], .box [.c (.int .i64 a_q.lo), .c (.int .i64 a_q.hi)]]) H (fun _=>ad4 _)
  (fm_ dL [] rfl bL cZ) ?_
 rintro rel_1 st1 hb1 hk1
 unfold ug at hb1
 dsimp only at hb1 ⊢
 rcases aa hb1 with ⟨q_2,hb1⟩|⟨q_2,hb1⟩
 ·obtain ⟨r_3,c1,hb1⟩:=bd_ hb1
  replace c1:=Gt c1
  rcases aa hb1 with ⟨q_4,hb1⟩|⟨q_4,hb1⟩
  ·cases hb1
   have hx1:wV (.inr (rel_1,true))=some _:=hk1
   unfold wV at hx1
   dsimp only at hx1
   cases hx1
   exact af
  cases hb1
  refine bv ?_
  exact ⟨_,rfl,fm_ dL [] rfl bL cZ⟩
 cases hb1
 have hx1:wV (.inl rel_1)=some _:=hk1
 unfold wV at hx1
 dsimp only at hx1
 cases hx1
 exact af
set_option maxHeartbeats 8000000
def su (a_rel:Int) (a_l:(List Val)):Option (Val):=(P6 a_l (1:Int)).bind fun r_1=>bif (!r_1) then (eX ).bind fun r_3=>some r_3 else
 (aA a_l (0:Int)).bind fun x_4=>(aA a_l (1:Int)).bind fun x_5=>(aA a_l (2:Int)).bind fun x_6=>(aA a_l (3:Int)).bind fun x_7=>(Ou (⟨x_4.int,x_5.int⟩:aW) (⟨x_6.int,x_7.int⟩:aW)).bind fun r_8=>bif (!r_8.2) then (eX ).bind fun r_10=>some r_10 else
 (vC (decide (r_8.1=a_rel))).bind fun r_11=>some r_11
theorem Ms {a_rel:Int} {a_l:(List Val)} {r:Val} (H:su a_rel a_l=some r):Pure Tryz.prog 119 [.one (.int .i64 a_rel), .one (.lst (a_l.map cV))] (.val (.agg (cV r))):=by
 unfold su at H
 refine po_ Tryz.func119 Tryz.ntmps119 ?_
 obtain ⟨r_1,c1,H⟩:=bd_ H
 replace c1:=FC c1
 rcases aa H with ⟨q_2,H⟩|⟨q_2,H⟩
 ·obtain ⟨r_3,c2,H⟩:=bd_ H
  replace c2:=bX c2
  cases H
  exact af
 obtain ⟨x_4,i3z,i3,i3x,H⟩:=aR (f:=cV) H
 obtain ⟨x_5,i4z,i4,i4x,H⟩:=aR (f:=cV) H
 obtain ⟨x_6,i5z,i5,i5x,H⟩:=aR (f:=cV) H
 obtain ⟨x_7,i6z,i6,i6x,H⟩:=aR (f:=cV) H
 obtain ⟨r_8,c7,H⟩:=bd_ H
 replace c7:=Wt c7
 rcases aa H with ⟨q_9,H⟩|⟨q_9,H⟩
 ·obtain ⟨r_10,c8,H⟩:=bd_ H
  replace c8:=bX c8
  cases H
  exact af
 obtain ⟨r_11,c9,H⟩:=bd_ H
 replace c9:=om c9
 cases H
 exact af
def xX (a_op:Int) (a_l:(List Val)):Option (Val):=(P6 a_l (2:Int)).bind fun r_1=>bif (!r_1) then (eX ).bind fun r_3=>some r_3 else
 bif (decide (a_op=(19:Int))) then (aA a_l (0:Int)).bind fun x_5=>(aA a_l (1:Int)).bind fun x_6=>bif (decide (x_5.text.size+x_6.text.size<=9223372036854775807)) then ((Hg (x_5.text++x_6.text)).bind fun r_7=>some r_7) else none else
 (aA a_l (0:Int)).bind fun x_8=>(qo ((x_8.text.size:Nat):Int)).bind fun r_9=>some r_9
theorem KQ {a_op:Int} {a_l:(List Val)} {r:Val} (H:xX a_op a_l=some r):Pure Tryz.prog 117 [.one (.int .i64 a_op), .one (.lst (a_l.map cV))] (.val (.agg (cV r))):=by
 unfold xX at H
 refine po_ Tryz.func117 Tryz.ntmps117 ?_
 obtain ⟨r_1,c1,H⟩:=bd_ H
 replace c1:=FC c1
 rcases aa H with ⟨q_2,H⟩|⟨q_2,H⟩
 ·obtain ⟨r_3,c2,H⟩:=bd_ H
  replace c2:=bX c2
  cases H
  exact af
 rcases aa H with ⟨q_4,H⟩|⟨q_4,H⟩
 ·obtain ⟨x_5,i3z,i3,i3x,H⟩:=aR (f:=cV) H
  obtain ⟨x_6,i4z,i4,i4x,H⟩:=aR (f:=cV) H
  obtain ⟨g5,H⟩:=bu H
  obtain ⟨r_7,c6,H⟩:=bd_ H
  replace c6:=UY c6
  try simp only [adV,adT,adX,adN,aj] at c6
  cases H
  exact af
 obtain ⟨x_8,i7z,i7,i7x,H⟩:=aR (f:=cV) H
 obtain ⟨r_9,c8,H⟩:=bd_ H
 replace c8:=mF c8
 cases H
 exact af
def vZ (a_l:(List Val)):(Int)->Option (Step (Int) (Val)):=fun s=>match s with
 | i_7=>bif (decide (i_7<((a_l.length:Nat):Int))) then (aA a_l i_7).bind fun x_9=>bif (decide (x_9.kind≠(0:Int))) then some (.ret x_9) else
 some (.next (IntKind.i64.wrap (i_7+(1:Int)))) else
 some (.exit i_7)
def pz:Sum (Int) (Val)->Option ((Val))
 | .inl i_7=>(eX ).bind fun r_11=>some r_11
 | .inr q=>some q
def uT (a_op:Int) (a_l:(List Val)):Option (Val):=bif (decide (a_op=(22:Int))) then (aA a_l (0:Int)).bind fun x_2=>(ik x_2).bind fun r_3=>bif (decide (r_3=(2:Int))) then (aA a_l (1:Int)).bind fun x_5=>some x_5 else
 (aA a_l (2:Int)).bind fun x_6=>some x_6 else
 (az (vZ a_l) fuel (0:Int)).bind (pz)
theorem I9 {a_op:Int} {a_l:(List Val)} {r:Val} (H:uT a_op a_l=some r):Pure Tryz.prog 118 [.one (.int .i64 a_op), .one (.lst (a_l.map cV))] (.val (.agg (cV r))):=by
 unfold uT at H
 refine po_ Tryz.func118 Tryz.ntmps118 ?_
 rcases aa H with ⟨q_1,H⟩|⟨q_1,H⟩
 ·obtain ⟨x_2,i1z,i1,i1x,H⟩:=aR (f:=cV) H
  obtain ⟨r_3,c2,H⟩:=bd_ H
  replace c2:=lJ c2
  rcases aa H with ⟨q_4,H⟩|⟨q_4,H⟩
  ·obtain ⟨x_5,i3z,i3,i3x,H⟩:=aR (f:=cV) H
   cases H
   exact af
  obtain ⟨x_6,i4z,i4,i4x,H⟩:=aR (f:=cV) H
  cases H
  exact af
 refine bv ?_
 refine alM_ (fun s:Int=>match s with|i_7=>[(1, .one (.c (.lst (a_l.map cV)))),(4, .one (.ptr 0 0)),(5, .one (.c (.int .i64 i_7)))]) (fun s=>match s with|i_7=>[.box [.c (.int .i64 (0:Int)), .c (.int .i64 (0:Int)), .c (.str ByteArray.empty)]]) H (fun _=>ad4 _)
  (fm_ dL [] rfl bL cZ) ?_
 rintro i_7 st1 hb1 hk1
 unfold vZ at hb1
 dsimp only at hb1 ⊢
 rcases aa hb1 with ⟨q_8,hb1⟩|⟨q_8,hb1⟩
 ·obtain ⟨x_9,i5z,i5,i5x,hb1⟩:=aR (f:=cV) hb1
  rcases aa hb1 with ⟨q_10,hb1⟩|⟨q_10,hb1⟩
  ·cases hb1
   have hx1:pz (.inr x_9)=some _:=hk1
   unfold pz at hx1
   dsimp only at hx1
   cases hx1
   exact af
  cases hb1
  refine bv ?_
  exact ⟨_,rfl,fm_ dL [] rfl bL cZ⟩
 cases hb1
 have hx1:pz (.inl i_7)=some _:=hk1
 unfold pz at hx1
 dsimp only at hx1
 obtain ⟨r_11,c6,hx1⟩:=bd_ hx1
 replace c6:=bX c6
 cases hx1
 exact af
def Eg (a_e:Ex) (a_row:(List Val)):Option (Val):=bif (decide (a_e.op=(2:Int))) then (Rs a_row a_e.int).bind fun r_2=>(dQ r_2).bind fun r_3=>bif (!r_3) then (eX ).bind fun r_5=>some r_5 else
 some r_2 else
 (dQ a_e.v).bind fun r_6=>bif (!r_6) then (eX ).bind fun r_8=>some r_8 else
 some a_e.v
theorem Qa {a_e:Ex} {a_row:(List Val)} {r:Val} (H:Eg a_e a_row=some r):Pure Tryz.prog 110 [.agg (tE a_e), .one (.lst (a_row.map cV))] (.val (.agg (cV r))):=by
 unfold Eg at H
 rw [aj a_e]
 refine po_ Tryz.func110 Tryz.ntmps110 ?_
 rcases aa H with ⟨q_1,H⟩|⟨q_1,H⟩
 ·obtain ⟨r_2,c1,H⟩:=bd_ H
  replace c1:=Na c1
  obtain ⟨r_3,c2,H⟩:=bd_ H
  replace c2:=pg c2
  rcases aa H with ⟨q_4,H⟩|⟨q_4,H⟩
  ·obtain ⟨r_5,c3,H⟩:=bd_ H
   replace c3:=bX c3
   cases H
   exact af
  cases H
  exact af
 obtain ⟨r_6,c4,H⟩:=bd_ H
 replace c4:=pg c4
 rcases aa H with ⟨q_7,H⟩|⟨q_7,H⟩
 ·obtain ⟨r_8,c5,H⟩:=bd_ H
  replace c5:=bX c5
  cases H
  exact af
 cases H
 exact af
set_option maxHeartbeats 8000000
def Iz (B:List (List Val)) (x:List Val):Nat->Nat
 | 0=>0
 | j+1=>match B[j]? with
  | some y=>if cu x y<0 then Iz B x j else j+1
  | none=>j+1
def PE (B:List (List Val)) (x:List Val):List (List Val):=B.take (Iz B x B.length)++x::B.drop (Iz B x B.length)
def gD (l:List (List Val)):List (List Val):=l.foldl PE []
theorem K9 (B:List (List Val)) (x:List Val) : ∀ j,j<=B.length->Iz B x j<=j/\(∀ i y,Iz B x j<=i->i<j->B[i]?=some y->cu x y<0)/\(∀ q,Iz B x j=q+1 -> ∃ y,B[q]?=some y /\ ¬ cu x y<0)
 | 0,_=>⟨adY _,fun i y _ h=>by omega,fun q h=>by simp [Iz] at h⟩
 | j+1,hj=>by
  obtain ⟨y,hy⟩:=gol_ (show j<B.length by omega)
  have e:Iz B x (j+1)=if cu x y<0 then Iz B x j else j+1:=by rw [Iz,hy]
  rw [e]
  by_cases h:cu x y<0
  ·rw [if_pos h]
   obtain ⟨h1,h2,h3⟩:=K9 B x j (by omega)
   refine ⟨by omega,fun i z hi hij hz=>?_,h3⟩
   by_cases hij':i<j
   ·exact h2 i z hi hij' hz
   ·have:i=j:=by omega
    subst this
    rw [hy] at hz
    obtain rfl:=aee hz
    exact h
  ·rw [if_neg h]
   refine ⟨adY _,fun i z hi hij=>by omega,fun q hq=>?_⟩
   obtain rfl:j=q:=by omega
   exact ⟨y,hy,h⟩
theorem Ud (B:List (List Val)) (x:List Val):(PE B x).Perm (x::B):=by
 unfold PE
 refine List.perm_middle.trans ?_
 rw [aer]
theorem Yw {B:List (List Val)} (x:List Val) (h:Asc cu B):Asc cu (PE B x):=by
 obtain ⟨h1,h2,h3⟩:=K9 B x B.length (adY _)
 unfold PE
 generalize Iz B x B.length=p at h1 h2 h3
 have hB:Asc cu (B.take p++B.drop p):=by rw [aer];exact h
 obtain ⟨ht,hd,hc⟩:=List.pairwise_append.1 hB
 have hx : ∀ b∈B.drop p,cu x b<=0:=by
  intro b hb
  obtain ⟨i,hi⟩:=List.getElem?_of_mem hb
  rw [aes] at hi
  have:=h2 (p+i) b (by omega) (adI.1 hi).1 hi
  omega
 have hl : ∀ a∈B.take p,cu a x<=0:=by
  intro a ha
  cases p with
  | zero=>simp at ha
  | succ q =>
   obtain ⟨y,hy,hn⟩:=h3 q rfl
   have hyx:cu y x<=0:=by
    have:=tCr_.anti x y
    have:=tCr_.anti y x
    omega
   have hq:q<B.length:=(adI.1 hy).1
   have ey:=(adI.1 hy).2
   rw [List.take_succ_eq_append_getElem hq,ey] at ha ht
   rcases ad'.1 ha with ha|ha
   ·exact tCr_.le_trans ((List.pairwise_append.1 ht).2.2 a ha y (by simp)) hyx
   ·obtain rfl:a=y:=by simpa using ha
    exact hyx
 refine List.pairwise_append.2 ⟨ht,aeC.2 ⟨hx,hd⟩,fun a ha b hb=>?_⟩
 rcases adZ.1 hb with rfl|hb
 ·exact hl a ha
 ·exact hc a ha b hb
theorem DK : ∀ (l B:List (List Val)),Asc cu B->Asc cu (l.foldl PE B)/\(l.foldl PE B).Perm (l++B)
 | [],B,h=>⟨h,List.Perm.refl _⟩
 | x::l,B,h=>by
  obtain ⟨h1,h2⟩:=DK l (PE B x) (Yw x h)
  refine ⟨h1,h2.trans ?_⟩
  refine ((Ud B x).append_left l).trans ?_
  exact List.perm_middle
theorem Ec (l:List (List Val)):Asc cu (gD l):=(DK l [] List.Pairwise.nil).1
theorem gL (l:List (List Val)):(gD l).Perm l:=by
 have:=(DK l [] List.Pairwise.nil).2
 rwa [aeg] at this
theorem NA {l r:List (List Val)} (h1:Asc cu r) (h2:r.Perm l):gD l=r:=Aa tCr_ (Ec l) h1 ((gL l).trans h2.symm)
def push {α β ρ:Type} (g:α->β) (N:Nat) (s:List β) (x:α):Option (Sum (List β) ρ):=bif decide (s.length+1<=N) then some (.inl (s++[g x])) else none
theorem KW {α β ρ:Type} (g:α->β) (N:Nat) : ∀ (l:List α) (s:List β),s.length+l.length<=N->dh (ρ:=ρ) (push g N) s l=some (.inl (s++l.map g))
 | [],s,_=>by simp [dh]
 | x::l,s,h=>by
  have h':s.length+(l.length+1)<=N:=by simpa using h
  have e:push (ρ:=ρ) g N s x=some (.inl (s++[g x])):=by unfold push;rw [show decide (s.length+1<=N)=true from adM (by omega)];rfl
  rw [dh,e]
  have:=KW (ρ:=ρ) g N l (s++[g x]) (by simp;omega)
  simpa using this
theorem L_ {α σ ρ:Type} {f:σ->α->Option (Sum σ ρ)} : ∀ (l:List α) (s:σ),(∀ s x,x∈l -> ∃ r,f s x=some r) -> ∃ r,dh f s l=some r
 | [],s,_=>⟨_,rfl⟩
 | x::l,s,h=>by
  obtain ⟨r,hr⟩:=h s x (aet ..)
  rw [dh,hr]
  cases r with
  | inl s'=>exact L_ l s' fun s y hy=>h s y (ad7 _ hy)
  | inr r=>exact ⟨_,rfl⟩
theorem Pe (x y:List Val) (hx:x.length<=1000000) (hy:y.length<=1000000):zb x y []=some (decide (cu x y<0)):=by
 unfold zb
 rw [bW (l:=([]:List JV)) (mk:=fun (_:Unit) i=>i) (f:=fun (_:Unit) (_:JV)=>(none:Option (Sum Unit Bool))) ?_ ?_ (by unfold fuel;simp) ()]
 ·show jM x y (.inl ((([]:List JV).length:Nat):Int))=_
  unfold jM
  rw [mr x y (by omega) (by omega)];rfl
 ·intro s i x hx;simp at hx
 ·intro s
  unfold AO
  dsimp only
  rw [lF_,adJ]
def VQ (x y:List Val):Bool := !decide (cu y x<0)
theorem nN (x y:List Val):VQ x y=true↔cu x y<=0:=by
 unfold VQ
 have:=tCr_.anti x y
 have:=tCr_.anti y x
 simp
 omega
theorem uQ {a b:List (List Val)} (ha:a.length<=1000000) (hb:b.length<=1000000) (hra : ∀ r∈a,r.length<=1000000) (hrb : ∀ r∈b,r.length<=1000000) : ∀ (n i k:Nat) (out:List (List Val)),i<=a.length->k<=b.length->out.length=i+k->(a.length-i)+(b.length-k)<n->(az (eD a b []) n (out,(i:Int),(k:Int))).bind uu=some (out++List.merge (a.drop i) (b.drop k) VQ)
 | 0,_,_,_,_,_,_,h=>by omega
 | n+1,i,k,out,h1,h2,ho,hn=>by
  have hg:decide (out.length+1<=5864062014805)=true:=adM (by omega)
  rw [az]
  by_cases hlt:i<a.length
  ·obtain ⟨x,hx⟩:=gol_ hlt
   have ex:=(adI.1 hx).2
   have hne:decide ((i:Int)=((a.length:Nat):Int))=false:=adL (by omega)
   have ihA:=uQ ha hb hra hrb n (i+1) k (out++[x]) (by omega) (by omega) (by simp;omega) (by omega)
   by_cases hlb:k<b.length
   ·obtain ⟨y,hy⟩:=gol_ hlb
    have ey:=(adI.1 hy).2
    have ihB:=uQ ha hb hra hrb n i (k+1) (out++[y]) (by omega) (by omega) (by simp;omega) (by omega)
    have eb:eD a b [] (out,(i:Int),(k:Int))=bif decide (cu y x<0) then some (.next (out++[y],(i:Int),((k+1:Nat):Int))) else some (.next (out++[x],((i+1:Nat):Int),(k:Int))):=by
     unfold eD
     dsimp only
     rw [aI hx,adK,hne,adJ,aI hy,adK,gn_ hy,gn_ hx]
     simp only [adH]
     rw [Pe y x (hrb y (adO hy)) (hra x (adO hx)),wrapN (by omega),wrapN (by omega),hg]
     rfl
    rw [eb,aed hlt,aed hlb,ex,ey,List.cons_merge_cons]
    rw [aed hlb,ey] at ihA
    rw [aed hlt,ex] at ihB
    by_cases hc:cu y x<0
    ·rw [show decide (cu y x<0)=true from adM hc,adK,if_neg (by unfold VQ;simp [hc])]
     dsimp only
     rw [ihB];simp
    ·rw [show decide (cu y x<0)=false from adL hc,adJ,if_pos (by unfold VQ;simp [hc])]
     dsimp only
     rw [ihA];simp
   ·have hk:k=b.length:=by omega
    have eb:eD a b [] (out,(i:Int),(k:Int))=some (.next (out++[x],((i+1:Nat):Int),(k:Int))):=by
     unfold eD
     dsimp only
     rw [aI hx,adK,hne,adJ,hk,lF_,adJ,gn_ hx]
     simp only [adH]
     rw [wrapN (by omega),hg]
     rfl
    rw [eb]
    dsimp only
    rw [ihA,aed hlt,ex,hk,aeB,List.merge_right,List.merge_right]
    simp
  ·have hi:i=a.length:=by omega
   subst hi
   by_cases hlb:k<b.length
   ·obtain ⟨y,hy⟩:=gol_ hlb
    have ey:=(adI.1 hy).2
    have ihB:=uQ ha hb hra hrb n a.length (k+1) (out++[y]) (by omega) (by omega) (by simp;omega) (by omega)
    have eb:eD a b [] (out,((a.length:Nat):Int),(k:Int))=some (.next (out++[y],((a.length:Nat):Int),((k+1:Nat):Int))):=by
     unfold eD
     dsimp only
     rw [lF_,adJ,aI hy,adK,show decide (((a.length:Nat):Int)=((a.length:Nat):Int))=true from adM rfl,adK,gn_ hy]
     simp only [adH]
     rw [wrapN (by omega),hg]
     rfl
    rw [eb]
    dsimp only
    rw [ihB,aed hlb,ey,aeB,List.nil_merge,List.nil_merge]
    simp
   ·have hk:k=b.length:=by omega
    subst hk
    have eb:eD a b [] (out,((a.length:Nat):Int),((b.length:Nat):Int))=some (.exit (out,((a.length:Nat):Int),((b.length:Nat):Int))):=by
     unfold eD
     dsimp only
     rw [lF_,adJ,lF_,adJ]
    rw [eb,aeB,aeB,List.nil_merge,aeg]
    rfl
theorem Re {a b:List (List Val)} (ha:a.length<=1000000) (hb:b.length<=1000000) (hra : ∀ r∈a,r.length<=1000000) (hrb : ∀ r∈b,r.length<=1000000):CW a b []=some (List.merge a b VQ):=by
 unfold CW
 have:=uQ ha hb hra hrb fuel 0 0 [] (ad4 _) (ad4 _) rfl (by unfold fuel;omega)
 rw [show (((0:Nat):Int))=0 from rfl] at this
 rw [this];simp
theorem Vg {a b:List (List Val)} (ha:Asc cu a) (hb:Asc cu b):Asc cu (List.merge a b VQ):=by
 have:=List.pairwise_merge (le:=VQ) (fun x y z h1 h2=>(nN x z).2 (tCr_.le_trans ((nN x y).1 h1) ((nN y z).1 h2))) (fun x y=>by
  rw [Bool.or_eq_true,nN,nN];exact tCr_.total x y) a b (ha.imp fun h=>(nN _ _).2 h) (hb.imp fun h=>(nN _ _).2 h)
 exact this.imp fun h=>(nN _ _).1 h
theorem Un : ∀ (n:Nat) (l:List (List Val)),l.length<=n->l.length<=1000000->(∀ r∈l,r.length<=1000000) -> ∃ r,DW (n+1) l []=some r/\Asc cu r/\r.Perm l:=by
 intro n
 induction n with
 | zero =>
  intro l h _ _
  have:l=[]:=by cases l with|nil=>rfl|cons _ _=>simp at h
  subst this
  exact ⟨[],rfl,List.Pairwise.nil,List.Perm.refl _⟩
 | succ n ih =>
  intro l h hl hr
  match l,h,hl,hr with
  | [],_,_,_=>exact ⟨[],rfl,List.Pairwise.nil,List.Perm.refl _⟩
  | [x],_,_,hr =>
   have hx:=hr x (by simp)
   refine ⟨[x],?_,by simp [Asc],List.Perm.refl _⟩
   show uo (DW (n+1)) [x] []=_
   unfold uo
   simp only [ad5,aec]
   rw [show aA [x] 0=some x from rfl]
   simp only [adH]
   rw [show decide (x.length<=4398046511104)=true from adM (by omega)]
   rfl
  | x::y::t,h,hl,hr =>
   generalize hL:x::y::t=l at h hl hr
   have h2:2<=l.length:=by rw [<- hL];simp
   have hm:IntKind.i64.wrap (((l.length:Nat):Int).tdiv (2:Int))=((l.length/2:Nat):Int):=by
    rw [show ((l.length:Nat):Int).tdiv 2=((l.length/2:Nat):Int) from rfl]
    exact iY (by omega) (by omega)
   have s1:jI l 0 ((l.length/2:Nat):Int)=some (l.take (l.length/2)):=by
    unfold jI
    rw [if_pos (by omega),Int.toNat_natCast];rfl
   have s2:jI l ((l.length/2:Nat):Int) ((l.length:Nat):Int)=some (l.drop (l.length/2)):=by
    unfold jI
    rw [if_pos (by omega),Int.toNat_natCast,Int.toNat_natCast,List.take_length]
   obtain ⟨r1,e1,a1,p1⟩:=ih (l.take (l.length/2)) (by simp;omega) (by simp;omega) fun r hr'=>hr r (aeD hr')
   obtain ⟨r2,e2,a2,p2⟩:=ih (l.drop (l.length/2)) (by simp;omega) (by simp;omega) fun r hr'=>hr r (List.mem_of_mem_drop hr')
   refine ⟨List.merge r1 r2 VQ,?_,Vg a1 a2,?_⟩
   ·show uo (DW (n+1)) l []=_
    unfold uo
    rw [show decide (((l.length:Nat):Int)=0)=false from adL (by omega),adJ,show decide (((l.length:Nat):Int)=1)=false from adL (by omega),adJ,show decide ((2:Int)≠0)=true from rfl,adK,hm,s1,s2]
    simp only [adH]
    rw [e1,e2]
    simp only [adH]
    rw [Re (by rw [p1.length_eq];simp;omega) (by rw [p2.length_eq];simp;omega) (fun r hr'=>hr r (aeD (p1.mem_iff.1 hr'))) (fun r hr'=>hr r (List.mem_of_mem_drop (p2.mem_iff.1 hr')))]
    rfl
   ·refine (List.merge_perm_append VQ).trans ((p1.append p2).trans ?_)
    rw [aer]
theorem za (l:List (List Val)) (hl:l.length<=63) (hr : ∀ r∈l,r.length<=1000000):w_ l=some (gD l):=by
 obtain ⟨r,e,a,p⟩:=Un 63 l hl (by omega) hr
 unfold w_
 rw [e,NA a p];rfl
theorem zD {s:ByteArray} (hs:s.size<=1000000) : ∀ (n i:Nat),i<=s.size->s.size-i<n -> ∃ r,(az (lU s) n (i:Int)).bind dU=some r
 | 0,_,_,h=>by omega
 | n+1,i,h1,hn=>by
  rw [az]
  unfold lU
  dsimp only
  by_cases hlt:i<s.size
  ·rw [show decide ((i:Int)<((s.size:Nat):Int))=true from adM (by omega),adK]
   obtain ⟨b,hb⟩ : ∃ b,Va s (i:Int)=some b:=by
    unfold Va
    rw [if_pos (by omega)]
    exact ⟨s[i],by simp [hlt]⟩
   rw [hb]
   simp only [adH]
   cases decide (((b.toNat:Nat):Int)<32) with
   | true=>exact ⟨_,rfl⟩
   | false =>
    cases decide ((126:Int)<((b.toNat:Nat):Int)) with
    | true=>exact ⟨_,rfl⟩
    | false =>
     simp only [adJ]
     rw [wrapN (by omega)]
     exact zD hs n (i+1) (by omega) (by omega)
  ·rw [show decide ((i:Int)<((s.size:Nat):Int))=false from adL (by omega),adJ]
   exact ⟨_,rfl⟩
theorem Jm {s:ByteArray} (hs:s.size<=1000000) : ∃ r,oV s=some r:=by
 have:=zD hs fuel 0 (ad4 _) (by unfold fuel;omega)
 rw [show (((0:Nat):Int))=0 from rfl] at this
 exact this
theorem Iu (v:Val) : ∃ r,dQ v=some r:=by
 unfold dQ
 cases decide (v.kind=0) with
 | true=>cases decide (v.int=0)<;>exact ⟨_,rfl⟩
 | false =>
  cases decide (v.kind=1) with
  | true=>cases (v.text.toList==(⟨#[]⟩:ByteArray).toList)<;>cases decide ((-1125899906842624:Int)<=v.int)<;>exact ⟨_,rfl⟩
  | false =>
   cases decide (v.kind=2) with
   | true =>
    cases decide (v.int=0) with
    | false=>exact ⟨_,rfl⟩
    | true =>
     by_cases h:((v.text.size:Nat):Int)<=200
     ·obtain ⟨r,hr⟩:=Jm (s:=v.text) (by omega)
      rw [show decide (((v.text.size:Nat):Int)<=200)=true from adM h,hr]
      exact ⟨_,rfl⟩
     ·rw [show decide (((v.text.size:Nat):Int)<=200)=false from adL h]
      exact ⟨_,rfl⟩
   | false =>
    cases decide (v.kind=3) with
    | true=>cases (v.text.toList==(⟨#[]⟩:ByteArray).toList)<;>cases decide (v.int=0)<;>exact ⟨_,rfl⟩
    | false=>exact ⟨_,rfl⟩
theorem VS (row:List Val) (kinds:List Int) (h:row.length<=1000000) : ∃ r,wK row kinds=some r:=by
 unfold wK
 by_cases he:row.length=kinds.length
 ·rw [show decide (((row.length:Nat):Int)≠((kinds.length:Nat):Int))=false from adL (by omega),adJ]
  have hz:(row.zip kinds).length=row.length:=by simp;omega
  have k:=bW (l:=row.zip kinds) (body:=iP row kinds) (mk:=fun (_:Unit) i=>i) (f:=fun (_:Unit) (x:Val × Int)=>(dQ x.1).bind fun r=>bif (!r) then some (.inr false) else bif decide (x.1.kind≠0) then bif decide (x.1.kind≠x.2) then some (.inr false) else some (.inl ()) else some (.inl ())) ?_ ?_ (by unfold fuel;omega) ()
  ·obtain ⟨r,hr⟩:=L_ (σ:=Unit) (ρ:=Bool) (f:=fun (_:Unit) (x:Val × Int)=>(dQ x.1).bind fun r=>bif (!r) then some (.inr false) else bif decide (x.1.kind≠0) then bif decide (x.1.kind≠x.2) then some (.inr false) else some (.inl ()) else some (.inl ())) (row.zip kinds) () (by
    intro s x _
    obtain ⟨r,hr⟩:=Iu x.1
    rw [hr]
    cases r<;>cases decide (x.1.kind≠0)<;>cases decide (x.1.kind≠x.2)<;>exact ⟨_,rfl⟩)
   rw [k,hr]
   cases r with
   | inl _=>exact ⟨_,rfl⟩
   | inr _=>exact ⟨_,rfl⟩
  ·intro s i x hx
   obtain ⟨h1,h2⟩:=List.getElem?_zip_eq_some.1 hx
   have hi:i<row.length:=(adI.1 h1).1
   unfold iP
   dsimp only
   rw [aI h1,adK,gn_ h1,gn_ h2]
   simp only [adH]
   rw [wrapN (by omega)]
   cases dQ x.1 with
   | none=>rfl
   | some r=>cases r<;>cases decide (x.1.kind≠0)<;>cases decide (x.1.kind≠x.2)<;>rfl
  ·intro s
   unfold iP
   dsimp only
   rw [hz,lF_,adJ]
 ·rw [show decide (((row.length:Nat):Int)≠((kinds.length:Nat):Int))=true from adM (by omega)]
  exact ⟨_,rfl⟩
theorem Yd (k:Int) : ∃ r,EI k=some r:=by
 unfold EI
 cases decide (k=1)<;>cases decide (k=2)<;>exact ⟨_,rfl⟩
theorem Vk (l:List Int) (h:l.length<=1000000) : ∃ r,Ho l=some r:=by
 unfold Ho
 have k:=bW (l:=l) (body:=rW l) (mk:=fun (_:Unit) i=>i) (f:=fun (_:Unit) (x:Int)=>(EI x).bind fun r=>bif (!r) then some (.inr false) else some (.inl ())) ?_ ?_ (by unfold fuel;omega) ()
 ·obtain ⟨r,hr⟩:=L_ (σ:=Unit) (ρ:=Bool) (f:=fun (_:Unit) (x:Int)=>(EI x).bind fun r=>bif (!r) then some (.inr false) else some (.inl ())) l () (by
   intro s x _
   obtain ⟨r,hr⟩:=Yd x
   rw [hr]
   cases r<;>exact ⟨_,rfl⟩)
  rw [k,hr]
  cases r with
  | inl _=>exact ⟨_,rfl⟩
  | inr _=>exact ⟨_,rfl⟩
 ·intro s i x hx
  have hi:i<l.length:=(adI.1 hx).1
  unfold rW
  dsimp only
  rw [aI hx,adK,gn_ hx]
  simp only [adH]
  rw [wrapN (by omega)]
  cases EI x with
  | none=>rfl
  | some r=>cases r<;>rfl
 ·intro s
  unfold rW
  dsimp only
  rw [lF_,adJ]
theorem wy (l:List Int) (h:l.length<=1000000):lh l l=some true:=by
 unfold lh
 simp only [ne_eq,not_true_eq_false,decide_false,adJ]
 rw [bW (l:=l) (mk:=fun (_:Unit) i=>i) (f:=fun (_:Unit) (_:Int)=>(some (.inl ()):Option (Sum Unit Bool))) ?_ ?_ (by unfold fuel;omega) ()]
 ·have : ∀ l:List Int,dh (fun (_:Unit) (_:Int)=>(some (.inl ()):Option (Sum Unit Bool))) () l=some (.inl ()):=by
   intro l
   induction l with
   | nil=>rfl
   | cons x l ih=>rw [dh];exact ih
  rw [this];rfl
 ·intro s i x hx
  have hi:i<l.length:=(adI.1 hx).1
  unfold lQ
  dsimp only
  rw [aI hx,adK,gn_ hx]
  simp only [adH]
  rw [wrapN (by omega)]
  simp [tF]
 ·intro s
  unfold lQ
  dsimp only
  rw [lF_,adJ]
theorem Hf (l:List (List Val)) (h:l.length<=1000000) (hr : ∀ r∈l,r.length<=1000000):r_ l l=some true:=by
 unfold r_
 simp only [ne_eq,not_true_eq_false,decide_false,adJ]
 rw [bW (l:=l) (mk:=fun (_:Unit) i=>i) (f:=fun (_:Unit) (x:List Val)=>((kI x x).bind fun r=>bif (!r) then some (.inr false) else some (.inl ()):Option (Sum Unit Bool))) ?_ ?_ (by unfold fuel;omega) ()]
 ·have : ∀ l:List (List Val),(∀ r∈l,r.length<=1000000)->dh (fun (_:Unit) (x:List Val)=>((kI x x).bind fun r=>bif (!r) then some (.inr false) else some (.inl ()):Option (Sum Unit Bool))) () l=some (.inl ()):=by
   intro l
   induction l with
   | nil=>intro _;rfl
   | cons x l ih =>
    intro hr
    have hx:=hr x (aet ..)
    have e:kI x x=some true:=by
     unfold kI
     rw [mr x x (by omega) (by omega),tCr_.refl];rfl
    rw [dh,e]
    exact ih fun r hr'=>hr r (ad7 _ hr')
  rw [this l hr];rfl
 ·intro s i x hx
  have hi:i<l.length:=(adI.1 hx).1
  unfold nC
  dsimp only
  rw [aI hx,adK,gn_ hx]
  simp only [adH]
  rw [wrapN (by omega)]
  cases kI x x with
  | none=>rfl
  | some r=>cases r<;>rfl
 ·intro s
  unfold nC
  dsimp only
  rw [lF_,adJ]
theorem rP (b:zw) (h1:b.kinds.length<=1000000) (h2:b.rows.length<=1000000) (h3 : ∀ r∈b.rows,r.length<=1000000):qb b b=some true:=by
 unfold qb
 rw [wy _ h1]
 simp only [adH,adK]
 rw [Hf _ h2 h3];rfl
theorem CX {α:Type} : ∀ {l:List α}, l.length=2 -> ∃ c0 c1,l=[c0,c1]
 | [c0,c1],_=>⟨c0,c1,rfl⟩
theorem YB {α:Type} : ∀ {l:List α}, l.length=3 -> ∃ c0 c1 c2,l=[c0,c1,c2]
 | [c0,c1,c2],_=>⟨c0,c1,c2,rfl⟩
theorem ack {α:Type} : ∀ {l:List α}, l.length=7 -> ∃ c0 c1 c2 c3 c4 c5 c6,l=[c0,c1,c2,c3,c4,c5,c6]
 | [c0,c1,c2,c3,c4,c5,c6],_=>⟨c0,c1,c2,c3,c4,c5,c6,rfl⟩
theorem addr_add (b o n:Nat):(⟨b,o,none⟩:Addr).add n=⟨b,o+n,none⟩:=by
 unfold Addr.add
 split<;>simp_all
def RW {W:World} (hT:mI (fun b o=>W.cell? ⟨b,o,none⟩)):PH:=⟨fun b o=>W.cell? ⟨b,o,none⟩,hT⟩
def nz {W:World} (hT:mI (fun b o=>W.cell? ⟨b,o,none⟩)) (cs:List Value) (es:List AC):Prop:=cs.length=es.length /\ ∀ (j:Nat) u x,cs[j]?=some u->es[j]?=some x->bH (RW hT) u x
theorem nz.app {W:World} {hT:mI (fun b o=>W.cell? ⟨b,o,none⟩)} {c1 c2:List Value} {e1 e2:List AC} (h1:nz hT c1 e1) (h2:nz hT c2 e2):nz hT (c1++c2) (e1++e2):=by
 refine ⟨by rw [adQ,adQ,h1.1,h2.1],fun j u x hu hx=>?_⟩
 have hl:=h1.1
 by_cases hj:j<c1.length
 ·rw [adW hj] at hu
  rw [adW (by omega)] at hx
  exact h1.2 j u x hu hx
 ·rw [adP (by omega)] at hu
  rw [adP (by omega), <- hl] at hx
  exact h2.2 _ u x hu hx
theorem nz.one {W:World} {hT:mI (fun b o=>W.cell? ⟨b,o,none⟩)} {v:Value} {e:AC} (h:bH (RW hT) v e):nz hT [v] [e]:=by
 refine ⟨rfl,fun j u x hu hx=>?_⟩
 match j,hu,hx with
 | 0,hu,hx=>simp at hu hx;subst hu hx;exact h
 | j+1,hu,hx=>simp at hu
def zl (n:Int):Prop := -9223372036854775808<=n/\n<=9223372036854775807
def SOk (s:ByteArray):Prop:=s.size<=9223372036854775807
def zR {α:Type} (k:Nat) (Q:α->Prop) (l:List α):Prop:=l.length*k<=reachBytes /\ ∀ a∈l,Q a
def wJ {H:Type} (t:TypeId) (d:DataW H):Prop := ∀ n∈DataW.weights Tryz.prog t d,n<=reachBytes
theorem SA {H:Type} {e:TypeId} : ∀ {l:List (DataW H)} {d:DataW H}, d∈l -> ∀ n∈DataW.weights Tryz.prog e d,n∈DataW.weightsAll Tryz.prog e l
 | x::l,d,h,n,hn=>by
  rw [DataW.weightsAll,ad']
  rcases adZ.1 h with rfl|h
  ·exact .inl hn
  ·exact .inr (SA h n hn)
theorem oZ {H:Type} : ∀ {ts:List TypeId} {l:List (DataW H)} {i:Nat} {t:TypeId} {d:DataW H}, ts[i]?=some t->l[i]?=some d -> ∀ n∈DataW.weights Tryz.prog t d,n∈DataW.weightsEach Tryz.prog ts l
 | t0::ts,d0::l,0,t,d,h1,h2,n,hn=>by
  simp at h1 h2;subst h1 h2
  rw [DataW.weightsEach,ad'];exact .inl hn
 | t0::ts,d0::l,i+1,t,d,h1,h2,n,hn=>by
  rw [DataW.weightsEach,ad'];exact .inr (oZ (by simpa using h1) (by simpa using h2) n hn)
 | [],_,i,t,d,h1,_,n,hn=>by simp at h1
 | _::_,[],i,t,d,_,h2,n,hn=>by simp at h2
section
variable {H:Type} {enc:TypeId × Value->H} {W:World} {hT:mI (fun b o=>W.cell? ⟨b,o,none⟩)} {base:Nat} {spare:Nat->Bool} {held:Bool}
theorem dN {t:TypeId} (ht:Tryz.prog.underlying t=some (.int .i64)) {cs:List Value} {fuel:Nat} {x:DataW H × List MemPlace} (h:DataW.trod enc Tryz.prog W base spare held fuel t cs=some x) : ∃ n:Int,nz hT cs [.int .i64 n]/\zl n:=by
 obtain ⟨n,rfl,_,hw⟩:=DataW.trod_int ht h
 rw [Lit.wf,ad1] at hw
 exact ⟨n,nz.one (.int _ _),aea hw.1,aea hw.2⟩
theorem Pi {t:TypeId} (ht:Tryz.prog.underlying t=some .string) {cs:List Value} {fuel:Nat} {x:DataW H × List MemPlace} (h:DataW.trod enc Tryz.prog W base spare held fuel t cs=some x) : ∃ s:ByteArray,nz hT cs [.str s]/\SOk s:=by
 obtain ⟨s,rfl,_,hs⟩:=DataW.trod_string ht h
 exact ⟨s,nz.one (.str _),hs⟩
theorem dB {α:Type} {t e:TypeId} {k:Nat} {f:α->List AC} {Q:α->Prop} (ht:Tryz.prog.underlying t=some (.slice e)) (hk:Tryz.prog.cellsOf e=k) {by_:Nat} (hby:Tryz.prog.bytesOf e=by_) (hk0:0<k) (hf : ∀ x,(f x).length=k) {cs:List Value} {fuel:Nat} {x:DataW H × List MemPlace} (h:DataW.trod enc Tryz.prog W base spare held fuel t cs=some x) (hw:wJ t x.1)
  (hr : ∀ (fuel':Nat) (cs':List Value) (x':DataW H × List MemPlace),fuel'<fuel->DataW.trod enc Tryz.prog W base spare held fuel' e cs'=some x'->wJ e x'.1 -> ∃ a,nz hT cs' (f a)/\Q a) : ∃ l:List α,nz hT cs [.lst (l.map f)]/\zR by_ Q l:=by
 rcases DataW.trod_slice ht h with ⟨rfl,_⟩|⟨a,len,cap,elems,rest,n,hfu,rfl,hxe,_,hlc,hm,hel,hx,_,_⟩
 ·exact ⟨[],nz.one (fH _ _ _),by simp,fun a ha=>by cases ha⟩
 ·have hww:(∀ n∈DataW.weightsAll Tryz.prog e (elems.map (·.1)),n<=reachBytes)/\len*by_<=reachBytes:=by
   rw [hxe] at hw
   unfold wJ at hw
   simp only [DataW.weights,ht] at hw
   refine ⟨fun n hn=>hw n (ad7 _ (List.mem_append_left _ hn)),?_⟩
   have:=hw _ (aet ..)
   simp only [adU,hel,hby] at this
   exact Nat.le_trans (aei _ (Nat.le_add_right _ _)) this
  have hi : ∀ i,i<len -> ∃ y,(∃ cs',W.cells? base (a.add (i*k)) k=some cs'/\nz hT cs' (f y))/\Q y:=by
   intro i hlt
   have h1:=hx i hlt
   rw [adR (by omega),hk] at h1
   cases hc:W.cells? base (a.add (i*k)) k with
   | none=>rw [hc] at h1;cases h1
   | some cs'=>rw [hc] at h1;obtain ⟨y,h2,h3⟩:=hr n cs' _ (by omega) h1 (fun m hm=>hww.1 m (SA (List.mem_map_of_mem (f:=fun p:DataW H × List MemPlace=>p.1) (List.getElem_mem (by omega))) m hm));exact ⟨y,⟨cs',rfl,h2⟩,h3⟩
  rcases Nat.eq_zero_or_pos len with h0|h0
  ·subst h0;exact ⟨[],nz.one (fH _ _ _),by simp,fun a ha=>by cases ha⟩
  ·obtain ⟨y0,⟨cs0,hc0,_⟩,_⟩:=hi 0 h0
   let g:Nat->α:=fun i=>if h:i<len then Classical.choose (hi i h) else y0
   have hg : ∀ i,i<len->(∃ cs',W.cells? base (a.add (i*k)) k=some cs'/\nz hT cs' (f (g i)))/\Q (g i):=by
    intro i hlt
    have:g i=Classical.choose (hi i hlt):=by simp [g,hlt]
    rw [this]
    exact Classical.choose_spec (hi i hlt)
   obtain ⟨b,off,spot⟩:=a
   have hs0:spot=none:=by
    obtain ⟨_,hl,hat⟩:=World.cells?_some hc0
    have h1:=hat 0 hk0
    rw [adR (by omega)] at h1
    have:=World.cell?_spot h1
    simpa [Addr.add] using this
   subst hs0
   refine ⟨(List.range len).map g,nz.one ?_,(by rw [adU,List.length_range];exact hww.2),?_⟩
   ·have cell : ∀ i,i<len -> ∀ j,j<k -> ∃ u y,W.cell? ⟨b,off+(i*k+j),none⟩=some u/\(f (g i))[j]?=some y/\bH (RW hT) u y:=by
     intro i hlt j hj
     obtain ⟨⟨cs',hc,hcr⟩,_⟩:=hg i hlt
     obtain ⟨_,hl,hat⟩:=World.cells?_some hc
     have h1:=hat j hj
     rw [adR (by omega)] at h1
     have hfl:=hf (g i)
     refine ⟨_,_,?_,adR (by omega),hcr.2 j _ _ (adR (by omega)) (adR (by omega))⟩
     rw [addr_add,addr_add,Nat.add_assoc] at h1
     exact h1
    refine .lst (some ⟨b,off,none⟩) len cap _ k (fun j=>(W.cell? ⟨b,off+j,none⟩).getD (.bool false)) b off (by simp) hlc ?_ (fun _=>rfl) ?_ ?_
    ·intro e he
     simp only [List.map_map,aeh] at he
     obtain ⟨i,_,rfl⟩:=he
     exact hf _
    ·intro j hj
     have hd:j/k<len:=by rw [Nat.div_lt_iff_lt_mul hk0];exact hj
     obtain ⟨u,y,h1,_,_⟩:=cell (j/k) hd (j%k) (Nat.mod_lt _ hk0)
     have hjj:j/k*k+j%k=j:=by rw [Nat.mul_comm];exact Nat.div_add_mod j k
     rw [hjj] at h1
     show W.cell? _=_
     rw [h1];rfl
    ·intro i e j x he hxx
     have hlt:i<len:=by have:=(adI.1 he).1;simpa using this
     have:e=f (g i):=by simp [hlt] at he;exact he.symm
     subst this
     have hj:j<k:=by have:=(adI.1 hxx).1;rw [hf] at this;exact this
     obtain ⟨u,y,h1,h2,h3⟩:=cell i hlt j hj
     rw [h2] at hxx
     obtain rfl:=aee hxx
     rw [h1];exact h3
   ·intro a ha
    simp only [aeh,List.mem_range] at ha
    obtain ⟨i,hlt,rfl⟩:=ha
    exact (hg i hlt).2
theorem Bp {s:TypeId} {x:DataW H × List MemPlace} {fs:Array Field} {n:Nat} {cs:List Value} {xs:List (DataW H × List MemPlace)} (hs:Tryz.prog.underlying s=some (.struct fs)) (hx:x=(.agg (xs.map (·.1)),xs.flatMap (·.2))) (hw:wJ s x.1) (hl:xs.length=fs.size) (hf : ∀ (i:Nat) (f:Field),fs[i]?=some f->DataW.trod enc Tryz.prog W base spare held n f.type ((cs.drop f.offset).take (Tryz.prog.cellsOf f.type))=xs[i]?)
  (i:Nat) {f:Field} {t o k:Nat} (hi:fs[i]?=some f) (h1:f.type=t) (h2:f.offset=o) (h3:Tryz.prog.cellsOf t=k) : ∃ y,DataW.trod enc Tryz.prog W base spare held n t ((cs.drop o).take k)=some y/\wJ t y.1:=by
 have hlt:i<fs.size:=(aeq.1 hi).1
 have:=hf i f hi
 rw [h1,h2,h3,adR (by omega)] at this
 refine ⟨_,this,fun m hm=>?_⟩
 rw [hx] at hw
 unfold wJ at hw
 simp only [DataW.weights,hs] at hw
 refine hw m (oZ (i:=i) ?_ ?_ m hm)
 ·rw [ad6,Array.getElem?_toList,hi];simp [h1]
 ·rw [ad6,adR (by omega)];rfl
end
structure zG (x:Val):Prop where
 kind:zl x.kind
 int:zl x.int
 text:SOk x.text
section
variable {H:Type} {enc:TypeId × Value->H} {W:World} {hT:mI (fun b o=>W.cell? ⟨b,o,none⟩)} {base:Nat} {spare:Nat->Bool} {held:Bool}
theorem YF : ∀ (fuel:Nat) {cs:List Value} {x:DataW H × List MemPlace}, DataW.trod enc Tryz.prog W base spare held fuel 27 cs=some x->wJ 27 x.1 -> ∃ a:Val,nz hT cs (cV a)/\zG a:=by
 intro fuel
 intro cs x h hw
 obtain ⟨xs,n,hfu,hxe,hlen,hxs,hf⟩:=DataW.trod_struct Tryz.underlying27 h
 rw [show Tryz.prog.cellsOf 27=3 by kernel_rfl] at hlen
 obtain ⟨c0,c1,c2,rfl⟩:=YB hlen
 obtain ⟨y0,h0,w0⟩:=Bp Tryz.underlying27 hxe hw hxs hf 0 (t:=3) (o:=0) (k:=1) rfl rfl rfl (by kernel_rfl)
 replace h0:DataW.trod enc Tryz.prog W base spare held n 3 [c0]=some y0:=h0
 obtain ⟨l0,r0,q0⟩:=dN Tryz.underlying3 h0
 obtain ⟨y1,h1,w1⟩:=Bp Tryz.underlying27 hxe hw hxs hf 1 (t:=3) (o:=1) (k:=1) rfl rfl rfl (by kernel_rfl)
 replace h1:DataW.trod enc Tryz.prog W base spare held n 3 [c1]=some y1:=h1
 obtain ⟨l1,r1,q1⟩:=dN Tryz.underlying3 h1
 obtain ⟨y2,h2,w2⟩:=Bp Tryz.underlying27 hxe hw hxs hf 2 (t:=9) (o:=2) (k:=1) rfl rfl rfl (by kernel_rfl)
 replace h2:DataW.trod enc Tryz.prog W base spare held n 9 [c2]=some y2:=h2
 obtain ⟨l2,r2,q2⟩:=Pi Tryz.underlying9 h2
 exact ⟨⟨l0,l1,l2⟩,((r0.app r1).app r2),⟨q0,q1,q2⟩⟩
end
structure EG (x:aW):Prop where
 lo:zl x.lo
 hi:zl x.hi
section
variable {H:Type} {enc:TypeId × Value->H} {W:World} {hT:mI (fun b o=>W.cell? ⟨b,o,none⟩)} {base:Nat} {spare:Nat->Bool} {held:Bool}
theorem RL : ∀ (fuel:Nat) {cs:List Value} {x:DataW H × List MemPlace}, DataW.trod enc Tryz.prog W base spare held fuel 43 cs=some x->wJ 43 x.1 -> ∃ a:aW,nz hT cs (dP a)/\EG a:=by
 intro fuel
 intro cs x h hw
 obtain ⟨xs,n,hfu,hxe,hlen,hxs,hf⟩:=DataW.trod_struct Tryz.underlying43 h
 rw [show Tryz.prog.cellsOf 43=2 by kernel_rfl] at hlen
 obtain ⟨c0,c1,rfl⟩:=CX hlen
 obtain ⟨y0,h0,w0⟩:=Bp Tryz.underlying43 hxe hw hxs hf 0 (t:=3) (o:=0) (k:=1) rfl rfl rfl (by kernel_rfl)
 replace h0:DataW.trod enc Tryz.prog W base spare held n 3 [c0]=some y0:=h0
 obtain ⟨l0,r0,q0⟩:=dN Tryz.underlying3 h0
 obtain ⟨y1,h1,w1⟩:=Bp Tryz.underlying43 hxe hw hxs hf 1 (t:=3) (o:=1) (k:=1) rfl rfl rfl (by kernel_rfl)
 replace h1:DataW.trod enc Tryz.prog W base spare held n 3 [c1]=some y1:=h1
 obtain ⟨l1,r1,q1⟩:=dN Tryz.underlying3 h1
 exact ⟨⟨l0,l1⟩,(r0.app r1),⟨q0,q1⟩⟩
theorem Nh {cs:List Value} {fuel:Nat} {x:DataW H × List MemPlace} (h:DataW.trod enc Tryz.prog W base spare held fuel 70 cs=some x) (hw:wJ 70 x.1) : ∃ l:List Val,nz hT cs [.lst (l.map cV)]/\zR 32 zG l :=
 dB (k:=3) (f:=cV) (Q:=zG) Tryz.underlying70 (by kernel_rfl) (by kernel_rfl) (by decide) (fun _=>rfl) h hw (fun f c x _ h hw=>YF f h hw)
end
structure TP (x:aG):Prop where
 row:(zR 32 zG) x.row
 valid:EG x.valid
section
variable {H:Type} {enc:TypeId × Value->H} {W:World} {hT:mI (fun b o=>W.cell? ⟨b,o,none⟩)} {base:Nat} {spare:Nat->Bool} {held:Bool}
theorem aaB : ∀ (fuel:Nat) {cs:List Value} {x:DataW H × List MemPlace}, DataW.trod enc Tryz.prog W base spare held fuel 72 cs=some x->wJ 72 x.1 -> ∃ a:aG,nz hT cs (aY a)/\TP a:=by
 intro fuel
 intro cs x h hw
 obtain ⟨xs,n,hfu,hxe,hlen,hxs,hf⟩:=DataW.trod_struct Tryz.underlying72 h
 rw [show Tryz.prog.cellsOf 72=3 by kernel_rfl] at hlen
 obtain ⟨c0,c1,c2,rfl⟩:=YB hlen
 obtain ⟨y0,h0,w0⟩:=Bp Tryz.underlying72 hxe hw hxs hf 0 (t:=70) (o:=0) (k:=1) rfl rfl rfl (by kernel_rfl)
 replace h0:DataW.trod enc Tryz.prog W base spare held n 70 [c0]=some y0:=h0
 obtain ⟨l0,r0,q0⟩:=Nh h0 w0
 obtain ⟨y1,h1,w1⟩:=Bp Tryz.underlying72 hxe hw hxs hf 1 (t:=43) (o:=1) (k:=2) rfl rfl rfl (by kernel_rfl)
 replace h1:DataW.trod enc Tryz.prog W base spare held n 43 [c1,c2]=some y1:=h1
 obtain ⟨l1,r1,q1⟩:=RL n h1 w1
 exact ⟨⟨l0,l1⟩,(r0.app r1),⟨q0,q1⟩⟩
theorem XX {cs:List Value} {fuel:Nat} {x:DataW H × List MemPlace} (h:DataW.trod enc Tryz.prog W base spare held fuel 22 cs=some x) (hw:wJ 22 x.1) : ∃ l:List Int,nz hT cs [.lst (l.map (fun x=>[AC.int .i64 x]))]/\zR 8 zl l :=
 dB (k:=1) (f:=(fun x=>[AC.int .i64 x])) (Q:=zl) Tryz.underlying22 (by kernel_rfl) (by kernel_rfl) (by decide) (fun _=>rfl) h hw (fun f c x _ h hw=>dN Tryz.underlying3 h)
theorem aaX {cs:List Value} {fuel:Nat} {x:DataW H × List MemPlace} (h:DataW.trod enc Tryz.prog W base spare held fuel 23 cs=some x) (hw:wJ 23 x.1) : ∃ l:List aG,nz hT cs [.lst (l.map aY)]/\zR 40 TP l :=
 dB (k:=3) (f:=aY) (Q:=TP) Tryz.underlying23 (by kernel_rfl) (by kernel_rfl) (by decide) (fun _=>rfl) h hw (fun f c x _ h hw=>aaB f h hw)
end
structure wE (x:bI):Prop where
 kinds:(zR 8 zl) x.kinds
 facts:(zR 40 TP) x.facts
section
variable {H:Type} {enc:TypeId × Value->H} {W:World} {hT:mI (fun b o=>W.cell? ⟨b,o,none⟩)} {base:Nat} {spare:Nat->Bool} {held:Bool}
theorem Xt : ∀ (fuel:Nat) {cs:List Value} {x:DataW H × List MemPlace}, DataW.trod enc Tryz.prog W base spare held fuel 25 cs=some x->wJ 25 x.1 -> ∃ a:bI,nz hT cs (dW a)/\wE a:=by
 intro fuel
 intro cs x h hw
 obtain ⟨xs,n,hfu,hxe,hlen,hxs,hf⟩:=DataW.trod_struct Tryz.underlying25 h
 rw [show Tryz.prog.cellsOf 25=2 by kernel_rfl] at hlen
 obtain ⟨c0,c1,rfl⟩:=CX hlen
 obtain ⟨y0,h0,w0⟩:=Bp Tryz.underlying25 hxe hw hxs hf 0 (t:=22) (o:=0) (k:=1) rfl rfl rfl (by kernel_rfl)
 replace h0:DataW.trod enc Tryz.prog W base spare held n 22 [c0]=some y0:=h0
 obtain ⟨l0,r0,q0⟩:=XX h0 w0
 obtain ⟨y1,h1,w1⟩:=Bp Tryz.underlying25 hxe hw hxs hf 1 (t:=23) (o:=1) (k:=1) rfl rfl rfl (by kernel_rfl)
 replace h1:DataW.trod enc Tryz.prog W base spare held n 23 [c1]=some y1:=h1
 obtain ⟨l1,r1,q1⟩:=aaX h1 w1
 exact ⟨⟨l0,l1⟩,(r0.app r1),⟨q0,q1⟩⟩
end
inductive l8:Ex->Prop
 | mk {op:Int} {int:Int} {v:Val} {nm:ByteArray} {args:(List Ex)} (h0:zl op) (h1:zl int) (h2:zG v) (h3:SOk nm) (h4:args.length*88<=reachBytes) (g4 : ∀ a∈args,l8 a):l8 (.mk op int v nm args)
section
variable {H:Type} {enc:TypeId × Value->H} {W:World} {hT:mI (fun b o=>W.cell? ⟨b,o,none⟩)} {base:Nat} {spare:Nat->Bool} {held:Bool}
theorem aao : ∀ (fuel:Nat) {cs:List Value} {x:DataW H × List MemPlace}, DataW.trod enc Tryz.prog W base spare held fuel 30 cs=some x->wJ 30 x.1 -> ∃ a:Ex,nz hT cs (tE a)/\l8 a:=by
 intro fuel
 induction fuel using Nat.strongRecOn with
 | ind fuel ih =>
 intro cs x h hw
 obtain ⟨xs,n,hfu,hxe,hlen,hxs,hf⟩:=DataW.trod_struct Tryz.underlying30 h
 rw [show Tryz.prog.cellsOf 30=7 by kernel_rfl] at hlen
 obtain ⟨c0,c1,c2,c3,c4,c5,c6,rfl⟩:=ack hlen
 obtain ⟨y0,h0,w0⟩:=Bp Tryz.underlying30 hxe hw hxs hf 0 (t:=3) (o:=0) (k:=1) rfl rfl rfl (by kernel_rfl)
 replace h0:DataW.trod enc Tryz.prog W base spare held n 3 [c0]=some y0:=h0
 obtain ⟨l0,r0,q0⟩:=dN Tryz.underlying3 h0
 obtain ⟨y1,h1,w1⟩:=Bp Tryz.underlying30 hxe hw hxs hf 1 (t:=3) (o:=1) (k:=1) rfl rfl rfl (by kernel_rfl)
 replace h1:DataW.trod enc Tryz.prog W base spare held n 3 [c1]=some y1:=h1
 obtain ⟨l1,r1,q1⟩:=dN Tryz.underlying3 h1
 obtain ⟨y2,h2,w2⟩:=Bp Tryz.underlying30 hxe hw hxs hf 2 (t:=27) (o:=2) (k:=3) rfl rfl rfl (by kernel_rfl)
 replace h2:DataW.trod enc Tryz.prog W base spare held n 27 [c2,c3,c4]=some y2:=h2
 obtain ⟨l2,r2,q2⟩:=YF n h2 w2
 obtain ⟨y3,h3,w3⟩:=Bp Tryz.underlying30 hxe hw hxs hf 3 (t:=9) (o:=5) (k:=1) rfl rfl rfl (by kernel_rfl)
 replace h3:DataW.trod enc Tryz.prog W base spare held n 9 [c5]=some y3:=h3
 obtain ⟨l3,r3,q3⟩:=Pi Tryz.underlying9 h3
 obtain ⟨y4,h4,w4⟩:=Bp Tryz.underlying30 hxe hw hxs hf 4 (t:=28) (o:=6) (k:=1) rfl rfl rfl (by kernel_rfl)
 replace h4:DataW.trod enc Tryz.prog W base spare held n 28 [c6]=some y4:=h4
 obtain ⟨l4,r4,q4⟩:=dB (k:=7) (f:=tE) (Q:=l8) Tryz.underlying28 (by kernel_rfl) (by kernel_rfl) (by decide) M8 h4 w4 (fun f c x hlt h hw=>ih f (by omega) h hw)
 exact ⟨.mk l0 l1 l2 l3 l4,(by rw [aj];exact ((((r0.app r1).app r2).app r3).app r4)), .mk q0 q1 q2 q3 q4.1 q4.2⟩
end
section
variable {H:Type} {enc:TypeId × Value->H} {W:World} {hT:mI (fun b o=>W.cell? ⟨b,o,none⟩)} {base:Nat} {spare:Nat->Bool} {held:Bool}
theorem Yh {cs:List Value} {fuel:Nat} {x:DataW H × List MemPlace} (h:DataW.trod enc Tryz.prog W base spare held fuel 28 cs=some x) (hw:wJ 28 x.1) : ∃ l:List Ex,nz hT cs [.lst (l.map tE)]/\zR 88 l8 l :=
 dB (k:=7) (f:=tE) (Q:=l8) Tryz.underlying28 (by kernel_rfl) (by kernel_rfl) (by decide) M8 h hw (fun f c x _ h hw=>aao f h hw)
end
end Go.Proofs.YtfccopdbgfdcdaaGreatDoor
