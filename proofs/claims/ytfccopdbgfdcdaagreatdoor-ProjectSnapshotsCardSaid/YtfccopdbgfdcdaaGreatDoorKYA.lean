/- Parts of the proof, joined. No condition. -/
import Derived.Test.YtfccopdbgfdcdaaGreatDoorKAF
import Derived.Test.YtfccopdbgfdcdaaGreatDoorKAE
import Derived.LoopN
import Derived.Test.YtfccopdbgfdcdaaGreatDoorKAL
import Derived.Test.YtfccopdbgfdcdaaGreatDoorKBI
import Derived.Test.YtfccopdbgfdcdaaGreatDoorKAM
import Derived.Test.YtfccopdbgfdcdaaGreatDoorKBN
import Derived.Test.YtfccopdbgfdcdaaGreatDoorKBM
import Derived.Test.YtfccopdbgfdcdaaGreatDoorKBO
import Derived.Test.YtfccopdbgfdcdaaGreatDoorKBQ
import Derived.Test.YtfccopdbgfdcdaaGreatDoorKBU
import Derived.Test.YtfccopdbgfdcdaaGreatDoorKBR
import Derived.Test.YtfccopdbgfdcdaaGreatDoorKBT
import Derived.Test.YtfccopdbgfdcdaaGreatDoorKBF
import Derived.Test.YtfccopdbgfdcdaaGreatDoorKBG
import Derived.Test.YtfccopdbgfdcdaaGreatDoorKBP
import Derived.Test.YtfccopdbgfdcdaaGreatDoorKBV
set_option linter.unusedSimpArgs false
set_option linter.unusedVariables false
namespace Go.Proofs.YtfccopdbgfdcdaaGreatDoor
open Go.RowKit
section
variable {P:Program} {ti:TI} {N n0:Nat} {Q:AX→Tm→List Ob→Prop} {T:Tm} {L:List Ob}
theorem aw_tokBox {c:Code} (id j k:Nat) {cs:List SV} (hid:L[id]?=some (.box cs)) (hj:cs[j]?=some .emp) (h:Aw P N n0 c Q T (L.set id (.box (cs.set j (.own [] L.length)))++[.spare 0 k])):Aw P N n0 c Q T L:=by
 intro hn B R γ w a hi hT
 have hlt:=(List.getElem?_eq_some_iff.1 hid).1
 have hm:Mv R R γ (γ++[.none]) L (L.set id (.box (cs.set j (.own [] L.length)))++[.spare 0 k]):=by
  refine ⟨PH.sub_refl _,by simp,fun t n k' hlt' e=>⟨n,?_,Nat.le_refl _,fun _=>?_⟩,fun t ver es0 k' hlt' e=>⟨ver,es0,?_,Nat.le_refl _,fun _=>⟨rfl,?_⟩⟩,fun i b e=>?_⟩
  ·rw [List.getElem?_append_left (by simpa using hlt')] at e
   have hne:t≠id:=by rintro rfl;rw [List.getElem?_set_self hlt'] at e;cases e
   rw [List.getElem?_set_ne (Ne.symm hne)] at e;exact e
  ·rw [List.getElem?_append_left (by rw [hi.len];exact hlt')]
  ·rw [List.getElem?_append_left (by simpa using hlt')] at e
   have hne:t≠id:=by rintro rfl;rw [List.getElem?_set_self hlt'] at e;cases e
   rw [List.getElem?_set_ne (Ne.symm hne)] at e;exact e
  ·rw [List.getElem?_append_left (by rw [hi.len];exact hlt')]
  ·rw [List.getElem?_append_left (List.getElem?_eq_some_iff.1 e).1];exact e
 refine wp_mono (h (by simp;omega) B R (γ++[.none]) w a ?_ (hT.mv hm)) fun _ _ _ hh=>hh.ext (Ext.refl _ _ _) hi.len (MvN.of hn hm)
 have gcase : ∀ j h,(γ++[Gh.none])[j]?=some h→(j=γ.length∧h = .none)∨(j<γ.length∧γ[j]?=some h):=by
  intro j h hh
  by_cases hid:j<γ.length
  ·rw [List.getElem?_append_left hid] at hh;exact .inr ⟨hid,hh⟩
  ·have:j=γ.length:=by have:=(List.getElem?_eq_some_iff.1 hh).1;simp at this;omega
   subst this
   rw [List.getElem?_append_right (by omega)] at hh
   simp at hh
   exact .inl ⟨rfl,hh.symm⟩
 have it:=hi.tok k
 refine ⟨by simp [hi.len],hi.val,fun i y g hy hg=>?_,it.inj,it.new,hi.bsz⟩
 rcases gcase i g hg with ⟨rfl,rfl⟩|⟨hl2,hg'⟩
 ·rw [List.getElem?_append_right (by simp [hi.len])] at hy
  simp [hi.len] at hy;subst hy;rfl
 ·rw [List.getElem?_append_left (by simp;rw [← hi.len];exact hl2)] at hy
  by_cases hii:i=id
  ·subst hii
   rw [List.getElem?_set_self hlt] at hy
   injection hy with hy;subst hy
   have hob:=hi.obj i _ _ hid hg'
   match g,hob with
   | .box b,⟨⟨vs,E,h1,h2,h3⟩,h4⟩ =>
    refine ⟨⟨vs,E,h1,by simp [h2],fun q u x hu hx=>?_⟩,h4⟩
    by_cases hq:q=j
    ·subst hq
     rw [List.getElem?_set_self (List.getElem?_eq_some_iff.1 hj).1] at hx
     injection hx with hx;subst hx
     obtain ⟨ad,rfl⟩:=h3 q u _ hu hj
     exact ⟨prep_nil _ _ _,by simp,fun n2 k2 _=>⟨by simp,by simp,fun _=>⟨.none,by rw [← hi.len];simp,ad,by simp⟩⟩⟩
    ·rw [List.getElem?_set_ne (Ne.symm hq)] at hx
     exact SV.mv hm (h3 q u x hu hx)
  ·rw [List.getElem?_set_ne (Ne.symm hii)] at hy
   exact (hi.obj i y g hy hg').mv hm (fun _ _=>rfl) (fun _ _ _ h=>h)
end
open Go.RowKit Go.MapKept
structure Bag where
 kinds:(List Int)
 rows:(List (List Val))
def cBag (x:Bag):List AC:=[.lst (x.kinds.map (fun x=>[AC.int .i64 x])), .lst (x.rows.map (fun x=>[AC.lst (x.map cV)]))]
set_option maxRecDepth 100000
set_option maxHeartbeats 8000000
def gSameRows_B1 (a_a:(List (List Val))) (a_b:(List (List Val))):(Int)→Option (Step (Int) (Bool)):=fun s=>match s with
 | i_2=>bif (decide (i_2<((a_a.length:Nat):Int))) then (getI a_a i_2).bind fun x_4=>(getI a_b i_2).bind fun x_5=>(gEqual8 x_4 x_5).bind fun r_6=>bif (!r_6) then some (.ret false) else
 some (.next (IntKind.i64.wrap (i_2+(1:Int)))) else
 some (.exit i_2)
def gSameRows_K1:Sum (Int) (Bool)→Option ((Bool))
 | .inl i_2=>some true
 | .inr q=>some q
def gSameRows (a_a:(List (List Val))) (a_b:(List (List Val))):Option (Bool):=bif (decide (((a_a.length:Nat):Int)≠((a_b.length:Nat):Int))) then some false else
 (loopM (gSameRows_B1 a_a a_b) fuel (0:Int)).bind (gSameRows_K1)
theorem gSameRows_ok {a_a:(List (List Val))} {a_b:(List (List Val))} {r:Bool} (H:gSameRows a_a a_b=some r):Pure Tryz.prog 59 [.one (.lst (a_a.map (fun x=>[AC.lst (x.map cV)]))), .one (.lst (a_b.map (fun x=>[AC.lst (x.map cV)])))] (.val (.one (.bool r))):=by
 unfold gSameRows at H
 refine po_ Tryz.func59 Tryz.ntmps59 ?_
 rcases cnd_ H with ⟨q_1,H⟩|⟨q_1,H⟩
 ·cases H
  exact go_
 refine gt_ ?_
 refine alM_ (fun s:Int=>match s with|i_2=>[(0, .one (.c (.lst (a_a.map (fun x=>[AC.lst (x.map cV)]))))),(1, .one (.c (.lst (a_b.map (fun x=>[AC.lst (x.map cV)]))))),(5, .one (.c (.int .i64 i_2)))]) (fun s=>match s with|i_2=>[]) H (fun _=>Nat.zero_le _)
  (fm_ br_ [] rfl bt_ trivial) ?_
 rintro i_2 st1 hb1 hk1
 unfold gSameRows_B1 at hb1
 dsimp only at hb1 ⊢
 rcases cnd_ hb1 with ⟨q_3,hb1⟩|⟨q_3,hb1⟩
 ·obtain ⟨x_4,i1z,i1,i1x,hb1⟩:=idx_ (f:=(fun x=>[AC.lst (x.map cV)])) hb1
  obtain ⟨x_5,i2z,i2,i2x,hb1⟩:=idx_ (f:=(fun x=>[AC.lst (x.map cV)])) hb1
  obtain ⟨r_6,c3,hb1⟩:=bd_ hb1
  replace c3:=gEqual8_ok c3
  rcases cnd_ hb1 with ⟨q_7,hb1⟩|⟨q_7,hb1⟩
  ·cases hb1
   have hx1:gSameRows_K1 (.inr false)=some _:=hk1
   unfold gSameRows_K1 at hx1
   dsimp only at hx1
   cases hx1
   exact go_
  cases hb1
  refine gt_ ?_
  exact ⟨_,rfl,fm_ br_ [] rfl bt_ trivial⟩
 cases hb1
 have hx1:gSameRows_K1 (.inl i_2)=some _:=hk1
 unfold gSameRows_K1 at hx1
 dsimp only at hx1
 cases hx1
 exact go_
def gExactly (a_a:Bag) (a_b:Bag):Option (Bool):=(gSameKinds a_a.kinds a_b.kinds).bind fun r_1=>bif r_1 then (gSameRows a_a.rows a_b.rows).bind fun r_3=>some r_3 else
 some false
theorem gExactly_ok {a_a:Bag} {a_b:Bag} {r:Bool} (H:gExactly a_a a_b=some r):Pure Tryz.prog 28 [.agg (cBag a_a), .agg (cBag a_b)] (.val (.one (.bool r))):=by
 unfold gExactly at H
 refine po_ Tryz.func28 Tryz.ntmps28 ?_
 obtain ⟨r_1,c1,H⟩:=bd_ H
 replace c1:=gSameKinds_ok c1
 rcases cnd_ H with ⟨q_2,H⟩|⟨q_2,H⟩
 ·obtain ⟨r_3,c2,H⟩:=bd_ H
  replace c2:=gSameRows_ok c2
  cases H
  exact go_
 cases H
 exact go_
set_option maxHeartbeats 8000000
noncomputable section
def gContains1 (a_p:Per) (a_t:Int):Option (Bool):=(gValid1 a_p).bind fun r_1=>bif r_1 then bif (decide (a_p.lo≤a_t)) then some (decide (a_t<a_p.hi)) else
 some false else
 some false
theorem gContains1_ok {a_p:Per} {a_t:Int} {r:Bool} (H:gContains1 a_p a_t=some r):Pure Tryz.prog 95 [.agg (cPer a_p), .one (.int .i64 a_t)] (.val (.one (.bool r))):=by
 unfold gContains1 at H
 refine po_ Tryz.func95 Tryz.ntmps95 ?_
 obtain ⟨r_1,c1,H⟩:=bd_ H
 replace c1:=gValid1_ok c1
 rcases cnd_ H with ⟨q_2,H⟩|⟨q_2,H⟩
 ·rcases cnd_ H with ⟨q_3,H⟩|⟨q_3,H⟩
  ·cases H
   exact go_
  cases H
  exact go_
 cases H
 exact go_
def gAt22_B1 (a_l:(List Fct)) (a_t:Int):((List (List Val)) × Int)→Option (Step ((List (List Val)) × Int) ((List (List Val)))):=fun s=>match s with
 | (out_1,i_2)=>bif (decide (i_2<((a_l.length:Nat):Int))) then (getI a_l i_2).bind fun x_4=>(gContains1 x_4.valid a_t).bind fun r_5=>bif r_5 then bif (decide (out_1.length+1≤5864062014805)) then (some (.next ((out_1++[x_4.row]),(IntKind.i64.wrap (i_2+(1:Int)))))) else none else
 some (.next (out_1,(IntKind.i64.wrap (i_2+(1:Int))))) else
 some (.exit (out_1,i_2))
def gAt22_K1:Sum ((List (List Val)) × Int) ((List (List Val)))→Option (((List (List Val))))
 | .inl (out_1,i_2)=>(gSortR out_1).bind fun r_7=>some r_7
 | .inr q=>some q
def gAt22 (a_l:(List Fct)) (a_t:Int):Option ((List (List Val))):=(loopM (gAt22_B1 a_l a_t) fuel ([],(0:Int))).bind (gAt22_K1)
theorem gAt22_ok {a_l:(List Fct)} {a_t:Int} {r:(List (List Val))} (H:gAt22 a_l a_t=some r):Pure Tryz.prog 60 [.one (.lst (a_l.map cFct)), .one (.int .i64 a_t)] (.val (.one (.lst (r.map (fun x=>[AC.lst (x.map cV)]))))):=by
 unfold gAt22 at H
 refine po_ Tryz.func60 Tryz.ntmps60 ?_
 refine gt_ ?_
 refine aw_tok 5 1 rfl ?_
 refine alM_ (fun s:(List (List Val)) × Int=>match s with|(out_1,i_2)=>[(0, .one (.c (.lst (a_l.map cFct)))),(1, .one (.c (.int .i64 a_t))),(5, .one (.own (out_1.map (fun x=>[AC.lst (x.map cV)])) 0)),(6, .one (.c (.int .i64 i_2)))]) (fun s=>match s with|(out_1,i_2)=>[.spare out_1.length 1]) H (fun _=>Nat.zero_le _)
  (fm_ br_ [] rfl bt_ bo_) ?_
 rintro ⟨out_1,i_2⟩ st1 hb1 hk1
 unfold gAt22_B1 at hb1
 dsimp only at hb1 ⊢
 rcases cnd_ hb1 with ⟨q_3,hb1⟩|⟨q_3,hb1⟩
 ·obtain ⟨x_4,i1z,i1,i1x,hb1⟩:=idx_ (f:=cFct) hb1
  obtain ⟨r_5,c2,hb1⟩:=bd_ hb1
  replace c2:=gContains1_ok c2
  rcases cnd_ hb1 with ⟨q_6,hb1⟩|⟨q_6,hb1⟩
  ·obtain ⟨g3,hb1⟩:=grd_d hb1
   cases hb1
   refine gt_ ?_
   exact ⟨_,rfl,fm_ bs_ [] be_ bt_ bo_⟩
  cases hb1
  refine gt_ ?_
  exact ⟨_,rfl,fm_ bs_ [] be_ bt_ bo_⟩
 cases hb1
 have hx1:gAt22_K1 (.inl (out_1,i_2))=some _:=hk1
 unfold gAt22_K1 at hx1
 dsimp only at hx1
 obtain ⟨r_7,c4,hx1⟩:=bd_ hx1
 replace c4:=gSortR_ok c4
 cases hx1
 exact go_
def gCanon (a_l:(List Fct)):Option (Bool):=(gBagR a_l).bind fun r_1=>(gIdent a_l r_1).bind fun r_2=>some r_2
theorem gCanon_ok {a_l:(List Fct)} {r:Bool} (H:gCanon a_l=some r):Pure Tryz.prog 27 [.one (.lst (a_l.map cFct))] (.val (.one (.bool r))):=by
 unfold gCanon at H
 refine po_ Tryz.func27 Tryz.ntmps27 ?_
 obtain ⟨r_1,c1,H⟩:=bd_ H
 replace c1:=gBagR_ok c1
 obtain ⟨r_2,c2,H⟩:=bd_ H
 replace c2:=gIdent_ok c2
 cases H
 exact go_
end
theorem gSameRows_refl (l:List (List Val)) (h:l.length≤1000000) (hr : ∀ r∈l,r.length≤1000000):gSameRows l l=some true:=by
 unfold gSameRows
 simp only [ne_eq,not_true_eq_false,decide_false,cond_false]
 rw [loop_list (l:=l) (mk:=fun (_:Unit) i=>i) (f:=fun (_:Unit) (x:List Val)=>((gEqual8 x x).bind fun r=>bif (!r) then some (.inr false) else some (.inl ()):Option (Sum Unit Bool))) ?_ ?_ (by unfold fuel;omega) ()]
 ·have : ∀ l:List (List Val),(∀ r∈l,r.length≤1000000)→foldS (fun (_:Unit) (x:List Val)=>((gEqual8 x x).bind fun r=>bif (!r) then some (.inr false) else some (.inl ()):Option (Sum Unit Bool))) () l=some (.inl ()):=by
   intro l
   induction l with
   | nil=>intro _;rfl
   | cons x l ih =>
    intro hr
    have hx:=hr x (List.mem_cons_self ..)
    have e:gEqual8 x x=some true:=by
     unfold gEqual8
     rw [gCmp8_eq x x (by omega) (by omega),tCr_.refl];rfl
    rw [foldS,e]
    exact ih fun r hr'=>hr r (List.mem_cons_of_mem _ hr')
  rw [this l hr];rfl
 ·intro s i x hx
  have hi:i<l.length:=(List.getElem?_eq_some_iff.1 hx).1
  unfold gSameRows_B1
  dsimp only
  rw [lt_dec hx,cond_true,gn_ hx]
  simp only [Option.bind_some]
  rw [wrapN (by omega)]
  cases gEqual8 x x with
  | none=>rfl
  | some r=>cases r<;>rfl
 ·intro s
  unfold gSameRows_B1
  dsimp only
  rw [lF_,cond_false]
theorem gExactly_refl (b:Bag) (h1:b.kinds.length≤1000000) (h2:b.rows.length≤1000000) (h3 : ∀ r∈b.rows,r.length≤1000000):gExactly b b=some true:=by
 unfold gExactly
 rw [gSameKinds_refl _ h1]
 simp only [Option.bind_some,cond_true]
 rw [gSameRows_refl _ h2 h3];rfl
theorem gContains1_eq (p:Per) (t:Int):gContains1 p t=some (pvalB p&&(decide (p.lo≤t)&&decide (t<p.hi))):=by
 unfold gContains1
 rw [gValid1_eq,Option.bind_some]
 cases pvalB p<;>cases decide (p.lo≤t)<;>rfl
set_option maxHeartbeats 8000000
noncomputable section
def gFilter21_B1 (a_b:Bag) (a_e:Ex):((List (List Val)) × Int)→Option (Step ((List (List Val)) × Int) (Bag)):=fun s=>match s with
 | (c_1,i_2)=>bif (decide (i_2<((a_b.rows.length:Nat):Int))) then (getI a_b.rows i_2).bind fun x_4=>(gTruthR11 a_e x_4).bind fun r_5=>bif (decide (r_5=(2:Int))) then bif (decide (c_1.length+1≤5864062014805)) then (some (.next ((c_1++[x_4]),(IntKind.i64.wrap (i_2+(1:Int)))))) else none else
 some (.next (c_1,(IntKind.i64.wrap (i_2+(1:Int))))) else
 some (.exit (c_1,i_2))
def gFilter21_K1 (a_b:Bag):Sum ((List (List Val)) × Int) (Bag)→Option ((Bag))
 | .inl (c_1,i_2)=>(gSortR c_1).bind fun r_7=>some (⟨a_b.kinds,r_7⟩:Bag)
 | .inr q=>some q
def gFilter21 (a_b:Bag) (a_e:Ex):Option (Bag):=(loopM (gFilter21_B1 a_b a_e) fuel ([],(0:Int))).bind (gFilter21_K1 a_b)
theorem gFilter21_ok {a_b:Bag} {a_e:Ex} {r:Bag} (H:gFilter21 a_b a_e=some r):Pure Tryz.prog 30 [.agg (cBag a_b), .agg (tE a_e)] (.val (.agg (cBag r))):=by
 unfold gFilter21 at H
 rw [tE_eq a_e]
 refine po_ Tryz.func30 Tryz.ntmps30 ?_
 refine gt_ ?_
 refine aw_tokBox 3 1 1 rfl rfl ?_
 refine alM_ (fun s:(List (List Val)) × Int=>match s with|(c_1,i_2)=>[(2, .one (.ptr 0 0)),(3, .one (.ptr 1 0)),(4, .one (.ptr 2 0)),(5, .one (.ptr 3 0)),(6, .one (.c (.int .i64 i_2)))]) (fun s=>match s with|(c_1,i_2)=>[.box [.c (.lst (a_b.kinds.map (fun x=>[AC.int .i64 x]))), .c (.lst (a_b.rows.map (fun x=>[AC.lst (x.map cV)])))], .box [.c (.int .i64 a_e.op), .c (.int .i64 a_e.int), .c (.int .i64 a_e.v.kind), .c (.int .i64 a_e.v.int), .c (.str a_e.v.text), .c (.str a_e.nm), .c (.lst (a_e.args.map tE))], .box [.emp, .emp], .box [.c (.lst (a_b.kinds.map (fun x=>[AC.int .i64 x]))), .own (c_1.map (fun x=>[AC.lst (x.map cV)])) 4], .spare c_1.length 1]) H (fun _=>Nat.zero_le _)
  (fm_ br_ [] rfl bt_ bo_) ?_
 rintro ⟨c_1,i_2⟩ st1 hb1 hk1
 unfold gFilter21_B1 at hb1
 dsimp only at hb1 ⊢
 rcases cnd_ hb1 with ⟨q_3,hb1⟩|⟨q_3,hb1⟩
 ·obtain ⟨x_4,i1z,i1,i1x,hb1⟩:=idx_ (f:=(fun x=>[AC.lst (x.map cV)])) hb1
  obtain ⟨r_5,c2,hb1⟩:=bd_ hb1
  replace c2:=gTruthR11_ok c2
  try simp only [List.map_append,List.map_cons,List.map_nil,List.nil_append,tE_eq] at c2
  rcases cnd_ hb1 with ⟨q_6,hb1⟩|⟨q_6,hb1⟩
  ·obtain ⟨g3,hb1⟩:=grd_d hb1
   cases hb1
   refine gt_ ?_
   exact ⟨_,rfl,fm_ br_ [] be_ bt_ bo_⟩
  cases hb1
  refine gt_ ?_
  exact ⟨_,rfl,fm_ br_ [] be_ bt_ bo_⟩
 cases hb1
 have hx1:gFilter21_K1 a_b (.inl (c_1,i_2))=some _:=hk1
 unfold gFilter21_K1 at hx1
 dsimp only at hx1
 obtain ⟨r_7,c4,hx1⟩:=bd_ hx1
 replace c4:=gSortR_ok c4
 cases hx1
 exact go_
def gSnap (a_r:Rln) (a_t:Int):Option (Bag):=(gAt22 a_r.facts a_t).bind fun r_1=>some (⟨a_r.kinds,r_1⟩:Bag)
theorem gSnap_ok {a_r:Rln} {a_t:Int} {r:Bag} (H:gSnap a_r a_t=some r):Pure Tryz.prog 29 [.agg (cRln a_r), .one (.int .i64 a_t)] (.val (.agg (cBag r))):=by
 unfold gSnap at H
 refine po_ Tryz.func29 Tryz.ntmps29 ?_
 obtain ⟨r_1,c1,H⟩:=bd_ H
 replace c1:=gAt22_ok c1
 cases H
 exact go_
end
end Go.Proofs.YtfccopdbgfdcdaaGreatDoor
namespace Go.Proofs.YtfccopdbgfdcdaaGreatDoor.St
open Go.RowKit
theorem rat_out {l:List (Int × Int)} {t:Int} (h : ¬ (0≤t∧t<1099511627776)):rat l t=0:=by unfold rat;rw [if_neg h]
theorem cnt_append (X Y:List (Int × Int)) (t:Int):cnt (X++Y) t=cnt X t+cnt Y t:=by simp [cnt]
theorem cnt_one {a b t:Int} (h0:0≤a) (h1:a<b) (h2:b≤1099511627776):cnt [(a,b)] t=if a≤t∧t<b then 1 else 0:=by
 have hv:pvalid (a,b)=true:=by simp [pvalid];omega
 simp [cnt,pcontains,hv]
theorem atStep_cnt (n t v:Int) (out:List (Int × Int)) {a b:Int} (h0:0≤a) (h1:a<b) (h2:b≤1099511627776) (hout : ∀ q∈out,pvalid q=true∧q.2≤a) :
  (∀ q∈atStep n out ((a,b),v),pvalid q=true∧q.2≤b)∧cnt (atStep n out ((a,b),v)) t=cnt out t+(if n≤v∧a≤t∧t<b then 1 else 0):=by
 have hv:pvalid (a,b)=true:=by simp [pvalid];omega
 have happ:(∀ q∈out++[(a,b)],pvalid q=true∧q.2≤b)∧cnt (out++[(a,b)]) t=cnt out t+(if a≤t∧t<b then 1 else 0):=by
  refine ⟨fun q hq=>?_,by rw [cnt_append,cnt_one h0 h1 h2]⟩
  rcases List.mem_append.1 hq with e|e
  ·have:=hout q e;exact ⟨this.1,by omega⟩
  ·simp at e;subst e;exact ⟨hv,Int.le_refl _⟩
 unfold atStep
 by_cases hn:n≤v
 ·rw [if_pos hn]
  simp only [hn,true_and]
  unfold joinP
  split
  ·rename_i q hq
   split
   ·rename_i hle
    have hmem:q∈out:=List.mem_of_getLast? hq
    obtain ⟨hq1,hq2⟩:=hout q hmem
    have hle':a≤q.2:=hle
    have hqe:q.2=a:=by omega
    have hsp:out=out.dropLast++[q]:=by
     have hne:out≠[]:=by intro e;rw [e] at hmem;simp at hmem
     rw [List.getLast?_eq_some_getLast hne] at hq
     injection hq with hq
     rw [← hq];exact (List.dropLast_concat_getLast hne).symm
    have hqv:0≤q.1∧q.1<q.2∧q.2≤1099511627776:=by simp [pvalid] at hq1;omega
    have hm:max q.2 b=b:=by omega
    show (∀ x∈out.dropLast++[(q.1,max q.2 b)],pvalid x=true∧x.2≤b)∧cnt (out.dropLast++[(q.1,max q.2 b)]) t=_
    rw [hm]
    refine ⟨fun x hx=>?_,?_⟩
    ·rcases List.mem_append.1 hx with e|e
     ·have:=hout x (List.dropLast_subset _ e);exact ⟨this.1,by omega⟩
     ·simp at e;subst e;exact ⟨by simp [pvalid];omega,Int.le_refl _⟩
    ·have e1:cnt out t=cnt out.dropLast t+cnt [(q.1,q.2)] t:=by rw [← cnt_append];exact congrArg (cnt · t) hsp
     rw [e1,cnt_append,cnt_one hqv.1 (by omega) h2,cnt_one hqv.1 hqv.2.1 hqv.2.2]
     split<;>split<;>split<;>omega
   ·exact happ
  ·exact happ
 ·rw [if_neg hn]
  refine ⟨fun q hq=>?_,by simp [hn]⟩
  have:=hout q hq;exact ⟨this.1,by omega⟩
theorem cnt_segs (n t:Int) (ht:t<1099511627776) : ∀ (r:List (Int × Int)) (x:Int × Int) (out:List (Int × Int)),0≤x.1→(x::r).Pairwise (fun p q=>p.1<q.1)→(∀ s∈x::r,s.1<1099511627776)→(∀ q∈out,pvalid q=true∧q.2≤x.1) →
  cnt ((segs (x::r)).foldl (atStep n) out) t=cnt out t+(if x.1≤t∧n≤lastV x.2 r t then 1 else 0)
 | [],x,out,h0,_,hM,hout=>by
  have:=(atStep_cnt n t x.2 out h0 (hM x (by simp)) (Int.le_refl _) hout).2
  simp only [segs,List.foldl_cons,List.foldl_nil,this]
  have e:lastV x.2 [] t=x.2:=rfl
  rw [e]
  split<;>split<;>omega
 | y::r,x,out,h0,hp,hM,hout=>by
  have hxy:x.1<y.1:=(List.pairwise_cons.1 hp).1 y (by simp)
  have hy:=(List.pairwise_cons.1 hp).2
  obtain ⟨h1,h2⟩:=atStep_cnt n t x.2 out h0 hxy (by have:=hM y (by simp);omega) hout
  have ih:=cnt_segs n t ht r y _ (by omega) hy (fun s hs=>hM s (List.mem_cons_of_mem _ hs)) h1
  have e:segs (x::y::r)=((x.1,y.1),x.2)::segs (y::r):=rfl
  rw [e,List.foldl_cons,ih,h2,lastV_cons]
  by_cases hyt:y.1≤t
  ·rw [if_pos hyt]
   split<;>split<;>split<;>omega
  ·rw [if_neg hyt]
   have e2:lastV x.2 r t=x.2:=lastV_skip fun q hq=>by have:=(List.pairwise_cons.1 hy).1 q hq;omega
   rw [e2]
   split<;>split<;>split<;>omega
theorem cnt_atl {l:List (Int × Int)} (h:svalid l=true) (n t:Int) (h1:0≤t) (h2:t<1099511627776):cnt (atl l n) t=if n≤rat l t then 1 else 0:=by
 match l,h with
 | p::r,h =>
  have ha:=svalid_asc h
  have hp0:p.1=0:=ha.2.2.2 p rfl
  simp only [svalid,Bool.and_eq_true] at h
  have hv:=validFrom_asc h.2
  have:=cnt_segs n t h2 r p [] (by omega) hv.1 ha.2.1 (by simp)
  unfold atl
  rw [this,rat_in h1 h2,lastV_cons,if_pos (show p.1≤t by omega)]
  have e:cnt [] t=0:=rfl
  rw [e]
  simp [hp0,h1]
theorem cnt_levTo {l:List (Int × Int)} (h:svalid l=true) (t:Int) (h1:0≤t) (h2:t<1099511627776) (h3:0≤rat l t) : ∀ k:Nat,cnt (levTo l k) t=if (k:Int)≤rat l t then (k:Int) else rat l t
 | 0=>by
  have e:cnt (levTo l 0) t=0:=rfl
  rw [e];split<;>omega
 | k+1=>by
  rw [levTo_succ,cnt_append,cnt_levTo h t h1 h2 h3 k,cnt_atl h _ t h1 h2]
  split<;>split<;>split<;>omega
theorem cnt_perm {a b:List (Int × Int)} (h:a.Perm b) (t:Int):cnt a t=cnt b t:=by
 unfold cnt
 induction h with
 | nil=>rfl
 | cons x _ ih=>simp only [List.map_cons,List.sum_cons,ih]
 | swap x y l=>simp only [List.map_cons,List.sum_cons];omega
 | trans _ _ ih1 ih2=>exact ih1.trans ih2
theorem cnt_levM {l:List (Int × Int)} (h:svalid l=true) (t:Int) (h1:0≤t) (h2:t<1099511627776) (h3:0≤rat l t) (h4:rat l t≤600):cnt (levM l) t=rat l t:=by
 have hp:(levM l).Perm (levTo l 600):=by
  have h0:=(place_all (levAll l) [] .nil).2
  rw [List.nil_append] at h0
  have e:levAll l=levTo l 600:=by unfold levAll levTo;rfl
  rw [← e];exact h0
 rw [cnt_perm hp,cnt_levTo h t h1 h2 h3]
 split<;>omega
end Go.Proofs.YtfccopdbgfdcdaaGreatDoor.St
namespace Go.Proofs.YtfccopdbgfdcdaaGreatDoor
open Go.RowKit
theorem cont_range {p:Per} {t:Int} (h:contB p t=true):0≤t∧t<1099511627776:=by
 unfold contB St.pcontains St.pvalid at h
 simp only [Bool.and_eq_true,decide_eq_true_eq] at h
 omega
theorem cntP_out {t:Int} (h : ¬(0≤t∧t<1099511627776)) (ps:List Per):cntP ps t=0:=by
 unfold cntP
 rw [List.length_eq_zero_iff,List.filter_eq_nil_iff]
 exact fun p _ hp=>h (cont_range hp)
theorem steps_rat (ps:List Per) (hn:ps.length≤300) (t:Int):St.rat (stepsOf ps) t=(cntP ps t:Int):=by
 by_cases h:0≤t∧t<1099511627776
 ·rw [show stepsOf ps=St.combS (St.rsum ((ones ps).map toC)) (St.ofPts ((ones ps).map toC)) from rfl,(St.of_ok _).2 t h.1 h.2,St.rsum_ones t (ones_two ps) (by simp [ones];omega),ones_P,St.isum_onesF,cnt_nat]
 ·rw [St.rat_out h,cntP_out h];rfl
theorem steps_bound (ps:List Per) (hn:ps.length≤300) (t:Int):0≤St.rat (stepsOf ps) t∧St.rat (stepsOf ps) t≤600:=by
 have:=steps_rat ps hn t
 have:=cntP_le ps t
 omega
theorem lev_cnt (ps:List Per) (hn:ps.length≤300) (t:Int):cntP (levOf ps) t=cntP ps t:=by
 by_cases h:0≤t∧t<1099511627776
 ·have h1:=cnt_nat (levOf ps) t
  rw [lev_P,St.cnt_levM (steps_valid ps) t h.1 h.2 (steps_bound ps hn t).1 (steps_bound ps hn t).2,steps_rat ps hn] at h1
  omega
 ·rw [cntP_out h,cntP_out h]
open Go.RowKit Go.MapKept
set_option maxRecDepth 100000
theorem perOf_app (s t:List Fct) (r:List Val):perOf (s++t) r=perOf s r++perOf t r:=by unfold perOf;rw [List.filter_append,List.map_append]
theorem perOf_same (r:List Val) : ∀ ps:List Per,(∀ p∈ps,St.pvalid (toP p)=true)→perOf (ps.map fun p=>(⟨r,p⟩:Fct)) r=ps
 | [],_=>rfl
 | p::ps,h=>by
  have ih:=perOf_same r ps fun q hq=>h q (List.mem_cons_of_mem _ hq)
  have hp:pvalB p=true:=h p (List.mem_cons_self ..)
  unfold perOf at ih ⊢
  rw [List.map_cons,List.filter_cons_of_pos (by simp [hp]),List.map_cons,ih]
theorem perOf_other {r x:List Val} (hx:x≠r) (ps:List Per):perOf (ps.map fun p=>(⟨x,p⟩:Fct)) r=[]:=by
 unfold perOf
 rw [List.map_eq_nil_iff,List.filter_eq_nil_iff]
 intro f hf h
 obtain ⟨p,_,rfl⟩:=List.mem_map.1 hf
 simp only [Bool.and_eq_true,decide_eq_true_eq] at h
 exact hx h.2
theorem perOf_runs (L:List Val→List Per) (hL : ∀ r, ∀ p∈L r,St.pvalid (toP p)=true) : ∀ (R:List (List Val)),SRows R → ∀ r,perOf (R.flatMap fun r=>(L r).map fun p=>(⟨r,p⟩:Fct)) r=if r∈R then L r else []
 | [],_,r=>rfl
 | x::R,h,r=>by
  have ih:=perOf_runs L hL R (List.Pairwise.of_cons h) r
  rw [List.flatMap_cons,perOf_app,ih]
  by_cases hx:x=r
  ·subst hx
   rw [perOf_same x _ (hL x),if_neg (srows_ne h),if_pos (List.mem_cons_self ..),List.append_nil]
  ·rw [perOf_other hx,List.nil_append]
   by_cases hr:r∈R
   ·rw [if_pos hr,if_pos (List.mem_cons_of_mem _ hr)]
   ·rw [if_neg hr,if_neg (by intro h;rcases List.mem_cons.1 h with h|h;exact hx h.symm;exact hr h)]
theorem per_out {l:List Fct} {R:List (List Val)} (h:RowsOf l R) {r:List Val} (hr:r∉R):perOf l r=[]:=by
 unfold perOf
 rw [List.map_eq_nil_iff,List.filter_eq_nil_iff]
 intro f hf hc
 rw [Bool.and_eq_true] at hc
 exact hr ((h.2 r).2 ⟨f,hf,hc.1,of_decide_eq_true hc.2⟩)
section
variable {l:List Fct} {R:List (List Val)} (h:RowsOf l R) (hn:l.length≤300)
include h hn
theorem bag_per (r:List Val):perOf (bagOf l R) r=if r∈R then levOf (perOf l r) else [] :=
 perOf_runs (fun r=>levOf (perOf l r)) (fun r p hp=>lev_valid _ (Nat.le_trans (perOf_le2 l r) hn) p hp) R h.1 r
end
def rowsAt (l:List Fct) (t:Int):List (List Val):=(l.filter fun f=>contB f.valid t).map (·.row)
theorem count_at (t:Int) (r:List Val) : ∀ l:List Fct,(rowsAt l t).count r=cntP (perOf l r) t
 | []=>rfl
 | f::l=>by
  have ih:=count_at t r l
  unfold rowsAt at ih ⊢
  have e:perOf (f::l) r=(if (pvalB f.valid&&decide (f.row=r))=true then [f.valid] else [])++perOf l r:=by
   unfold perOf
   rw [List.filter_cons]
   split<;>simp
  rw [List.filter_cons,e]
  by_cases hc:contB f.valid t=true
  ·have hv:pvalB f.valid=true:=by
    have:=hc
    rw [contB_eq,Bool.and_eq_true] at this
    exact this.1
   rw [if_pos hc,List.map_cons,List.count_cons,ih]
   by_cases hr:f.row=r
   ·simp only [hv,hr,decide_true,Bool.and_self,if_true,List.cons_append,List.nil_append,beq_self_eq_true]
    rw [cntP_cons,if_pos hc];omega
   ·simp [hr]
  ·rw [if_neg hc,ih]
   split
   ·rw [List.cons_append,List.nil_append,cntP_cons,if_neg hc,Nat.zero_add]
   ·rfl
theorem bag_at {l:List Fct} {R:List (List Val)} (h:RowsOf l R) (hn:l.length≤300) (t:Int):(rowsAt (bagOf l R) t).Perm (rowsAt l t):=by
 rw [List.perm_iff_count]
 intro r
 rw [count_at,count_at,bag_per h hn r]
 split
 ·exact lev_cnt _ (Nat.le_trans (perOf_le2 l r) hn) t
 ·rename_i hr
  rw [per_out h hr]
def Apart (p q:Per):Prop:=p.hi<q.lo∨q.hi<p.lo∨(p.lo≤q.lo∧q.hi≤p.hi)∨(q.lo≤p.lo∧p.hi≤q.hi)
def Lam (L:List Per):Prop := ∀ p∈L, ∀ q∈L,Apart p q
def PerV (p:Per):Prop:=0≤p.lo∧p.lo<p.hi∧p.hi≤1099511627776
theorem pv_iff (p:Per):St.pvalid (toP p)=true↔PerV p:=by
 unfold St.pvalid PerV toP
 simp only [Bool.and_eq_true,decide_eq_true_eq]
 omega
theorem cont_iff {p:Per} (h:PerV p) (t:Int):contB p t=true↔p.lo≤t∧t<p.hi:=by
 rw [contB_eq,(pv_iff p).2 h,Bool.true_and,Bool.and_eq_true,decide_eq_true_eq,decide_eq_true_eq]
theorem cnt_mono {s t:Int} : ∀ L:List Per,(∀ p∈L,contB p s=true→contB p t=true)→cntP L s≤cntP L t
 | [],_=>Nat.le_refl _
 | p::L,h=>by
  have ih:=cnt_mono L fun q hq=>h q (List.mem_cons_of_mem _ hq)
  have h0:=h p (List.mem_cons_self ..)
  rw [cntP_cons,cntP_cons]
  by_cases hs:contB p s=true
  ·rw [if_pos hs,if_pos (h0 hs)];omega
  ·rw [if_neg hs];omega
theorem cntP_app (A B:List Per) (t:Int):cntP (A++B) t=cntP A t+cntP B t:=by
 unfold cntP;rw [List.filter_append,List.length_append]
theorem cnt_lt {s t:Int} {L:List Per} (h : ∀ p∈L,contB p s=true→contB p t=true) {q:Per} (hq:q∈L) (h1:contB q t=true) (h2:contB q s=false):cntP L s<cntP L t:=by
 obtain ⟨A,B,rfl⟩:=List.append_of_mem hq
 have hA:=cnt_mono A fun p hp=>h p (by simp [hp])
 have hB:=cnt_mono B fun p hp=>h p (by simp [hp])
 rw [cntP_app,cntP_app,cntP_cons,cntP_cons,if_pos h1,if_neg (by rw [h2];decide)]
 omega
theorem cnt_ex {s t:Int} {L:List Per} (h:cntP L s<cntP L t) : ∃ q∈L,contB q t=true∧contB q s=false:=by
 apply Classical.byContradiction
 intro hn
 have:=cnt_mono (s:=t) (t:=s) L fun p hp h1=>by
  cases h2:contB p s
  ·exact absurd ⟨p,hp,h1,h2⟩ hn
  ·rfl
 omega
theorem ex_min : ∀ L:List Per,L≠[] → ∃ p∈L, ∀ q∈L,p.hi-p.lo≤q.hi-q.lo
 | [],h=>absurd rfl h
 | p::L,_=>by
  by_cases hL:L=[]
  ·subst hL
   exact ⟨p,List.mem_cons_self .., fun q hq=>by simp at hq;subst hq;omega⟩
  ·obtain ⟨m,hm,h⟩:=ex_min L hL
   by_cases hpm:p.hi-p.lo≤m.hi-m.lo
   ·exact ⟨p,List.mem_cons_self .., fun q hq=>by
     rcases List.mem_cons.1 hq with rfl|hq
     ·omega
     ·have:=h q hq;omega⟩
   ·exact ⟨m,List.mem_cons_of_mem _ hm,fun q hq=>by
     rcases List.mem_cons.1 hq with rfl|hq
     ·omega
     ·exact h q hq⟩
theorem per_ext {p q:Per} (h1:p.lo=q.lo) (h2:p.hi=q.hi):p=q:=by
 cases p;cases q;simp_all
theorem falls {M:List Per} (hM:Lam M) (vM : ∀ p∈M,PerV p) {q:Per} (hq:q∈M):cntP M q.hi<cntP M (q.hi-1):=by
 have vq:=vM q hq
 unfold PerV at vq
 refine cnt_lt (fun s hs h=>?_) hq ((cont_iff (vM q hq) _).2 (by omega)) ?_
 ·have vs:=vM s hs
  have ha:=hM q hq s hs
  rw [cont_iff vs] at h ⊢
  unfold PerV at vs
  unfold Apart at ha
  omega
 ·cases h:contB q q.hi
  ·rfl
  ·have:=(cont_iff (vM q hq) _).1 h
   omega
theorem rises {M:List Per} (hM:Lam M) (vM : ∀ p∈M,PerV p) {q:Per} (hq:q∈M):cntP M (q.lo-1)<cntP M q.lo:=by
 have vq:=vM q hq
 unfold PerV at vq
 refine cnt_lt (fun s hs h=>?_) hq ((cont_iff (vM q hq) _).2 (by omega)) ?_
 ·have vs:=vM s hs
  have ha:=hM q hq s hs
  rw [cont_iff vs] at h ⊢
  unfold PerV at vs
  unfold Apart at ha
  omega
 ·cases h:contB q (q.lo-1)
  ·rfl
  ·have:=(cont_iff (vM q hq) _).1 h
   omega
theorem lam_uniq : ∀ (n:Nat) (L M:List Per),L.length=n→Lam L→Lam M→(∀ p∈L,PerV p)→(∀ p∈M,PerV p)→(∀ t,cntP L t=cntP M t)→L.Perm M
 | 0,L,M,hn,_,_,_,vM,hc=>by
  obtain rfl:=List.length_eq_zero_iff.1 hn
  cases M with
  | nil=>exact .nil
  | cons q M =>
   have vq:=vM q (List.mem_cons_self ..)
   have h:=hc q.lo
   rw [cntP_cons,if_pos ((cont_iff vq _).2 (by unfold PerV at vq;omega))] at h
   simp [cntP] at h
   omega
 | n+1,L,M,hn,hL,hM,vL,vM,hc=>by
  obtain ⟨p,hp,hmin⟩:=ex_min L (by intro e;rw [e] at hn;simp at hn)
  have vp:=vL p hp
  have vp':=vp
  unfold PerV at vp'
  have sup : ∀ q∈L, ∀ t,p.lo≤t→t<p.hi→contB q t=true→q.lo≤p.lo∧p.hi≤q.hi:=by
   intro q hq t h1 h2 h3
   rw [cont_iff (vL q hq)] at h3
   have ha:=hL p hp q hq
   have hm:=hmin q hq
   unfold Apart at ha
   omega
  have const : ∀ s t,p.lo≤s→s<p.hi→p.lo≤t→t<p.hi→cntP L s≤cntP L t:=by
   intro s t h1 h2 h3 h4
   refine cnt_mono L fun q hq h=>?_
   have:=sup q hq s h1 h2 h
   rw [cont_iff (vL q hq)]
   omega
  have r1:=rises hL vL hp
  have f1:=falls hL vL hp
  rw [hc,hc] at r1 f1
  obtain ⟨q,hq,q1,q2⟩:=cnt_ex r1
  obtain ⟨r,hr,e1,e2⟩:=cnt_ex f1
  have vq:=vM q hq
  have vr:=vM r hr
  have vq':=vq
  have vr':=vr
  unfold PerV at vq' vr'
  rw [cont_iff vq] at q1
  rw [cont_iff vr] at e1
  have q3 : ¬ (q.lo≤p.lo-1∧p.lo-1<q.hi):=fun h=>by rw [(cont_iff vq _).2 h] at q2;cases q2
  have e3 : ¬ (r.lo≤p.hi∧p.hi<r.hi):=fun h=>by rw [(cont_iff vr _).2 h] at e2;cases e2
  have q4:p.hi≤q.hi:=by
   apply Classical.byContradiction
   intro hlt
   have f2:=falls hM vM hq
   have:=const (q.hi-1) q.hi (by omega) (by omega) (by omega) (by omega)
   rw [hc,hc] at this
   omega
  have e4:r.lo≤p.lo:=by
   apply Classical.byContradiction
   intro hlt
   have f2:=rises hM vM hr
   have:=const r.lo (r.lo-1) (by omega) (by omega) (by omega) (by omega)
   rw [hc,hc] at this
   omega
  have hpM:p∈M:=by
   have ha:=hM q hq r hr
   unfold Apart at ha
   rcases ha with h|h|h|h
   ·omega
   ·omega
   ·rw [show p=r from per_ext (by omega) (by omega)];exact hr
   ·rw [show p=q from per_ext (by omega) (by omega)];exact hq
  obtain ⟨A,B,rfl⟩:=List.append_of_mem hp
  obtain ⟨C,D,rfl⟩:=List.append_of_mem hpM
  have sL : ∀ x∈A++B,x∈A++p::B:=fun x hx=>by simp at hx ⊢;rcases hx with h|h<;>simp [h]
  have sM : ∀ x∈C++D,x∈C++p::D:=fun x hx=>by simp at hx ⊢;rcases hx with h|h<;>simp [h]
  have ih:=lam_uniq n (A++B) (C++D) (by simp at hn ⊢;omega) (fun x hx y hy=>hL x (sL x hx) y (sL y hy)) (fun x hx y hy=>hM x (sM x hx) y (sM y hy)) (fun x hx=>vL x (sL x hx)) (fun x hx=>vM x (sM x hx)) (fun t=>by
   have:=hc t
   rw [cntP_app,cntP_app,cntP_cons,cntP_cons] at this
   rw [cntP_app,cntP_app]
   omega)
  exact List.perm_middle.trans ((ih.cons p).trans List.perm_middle.symm)
theorem levK_stk {l:List (Int × Int)} (ha:St.Asc l) : ∀ k,k≤l.length→(k=0∧St.levK l k=([],[])) ∨ ∃ x y,l[k-1]?=some (x,y)∧0<k∧Stk (St.levK l k).1 (St.levK l k).2 x
 | 0,_ => .inl ⟨rfl,rfl⟩
 | k+1,hk=>by
  have ih:=levK_stk ha k (by omega)
  have hx:l[k]?=some (l[k]'(by omega)):=List.getElem?_eq_getElem (by omega)
  generalize l[k]'(by omega)=p at hx
  obtain ⟨x,y⟩:=p
  refine .inr ⟨x,y,by simpa using hx,by omega,?_⟩
  rw [St.levK_next hx]
  unfold St.levStep
  dsimp only
  rcases ih with ⟨_,e⟩|⟨x0,y0,hx0,hk0,h⟩
  ·rw [e]
   exact Stk.next (x:=x-1) ⟨.nil,fun p hp=>(by cases hp),fun p hp=>(by cases hp),fun f hf=>(by cases hf)⟩ (by omega) _
  ·exact h.next (by have:=ha (k-1) k _ _ (by omega) hx0 hx;exact this) _
theorem levD_lam {l:List (Int × Int)} (ha:St.Asc l) (hF : ∀ s∈l,s.1<1099511627776) : ∀ p∈St.levD l, ∀ q∈St.levD l,ApS p q:=by
 unfold St.levD
 rcases levK_stk ha l.length (Nat.le_refl _) with ⟨_,e⟩|⟨x,y,hx,hk,h⟩
 ·rw [e];intro p hp;cases hp
 ·have:=h.pop (y:=1099511627776) (hF _ (List.mem_of_getElem? hx)) 0
  rw [List.drop_zero] at this
  exact this.1
theorem lev_lam (ps:List Per) (hn:ps.length≤300):Lam (levOf ps):=by
 obtain ⟨ha,hF,_,_⟩:=St.svalid_asc (steps_valid ps)
 intro p hp q hq
 have h:=levD_lam ha hF _ ((lev_perm ps hn).subset (List.mem_map_of_mem hp)) _ ((lev_perm ps hn).subset (List.mem_map_of_mem hq))
 exact h
theorem lev_sorted (ps:List Per):(levOf ps).Pairwise fun p q=>St.LexLe (toP p) (toP q):=by
 have h:=(St.place_all (St.levAll (stepsOf ps)) [] .nil).1
 have e:(levOf ps).map toP=(St.levAll (stepsOf ps)).foldl St.placeP []:=lev_P ps
 rw [← e,List.pairwise_map] at h
 exact h
theorem lex_unique : ∀ {l m:List Per}, (l.Pairwise fun p q=>St.LexLe (toP p) (toP q))→(m.Pairwise fun p q=>St.LexLe (toP p) (toP q))→l.Perm m→l=m
 | [],m,_,_,h=>(List.Perm.nil_eq h)
 | p::l,[],_,_,h=>absurd h.length_eq (by simp)
 | p::l,q::m,hl,hm,h=>by
  have hp:p∈q::m:=h.subset (List.mem_cons_self ..)
  have hq:q∈p::l:=h.symm.subset (List.mem_cons_self ..)
  have e:p=q:=by
   rcases List.mem_cons.1 hp with e|hp
   ·exact e
   ·rcases List.mem_cons.1 hq with e|hq
    ·exact e.symm
    ·have h1:=List.rel_of_pairwise_cons hl hq
     have h2:=List.rel_of_pairwise_cons hm hp
     unfold St.LexLe toP at h1 h2
     dsimp only at h1 h2
     exact per_ext (by omega) (by omega)
  subst e
  rw [lex_unique (List.Pairwise.of_cons hl) (List.Pairwise.of_cons hm) ((List.perm_cons p).1 h)]
theorem rowsAt_filter (c:List Val→Bool) (t:Int) : ∀ l:List Fct,rowsAt (l.filter fun f=>c f.row) t=(rowsAt l t).filter c
 | []=>rfl
 | f::l=>by
  have ih:=rowsAt_filter c t l
  unfold rowsAt at ih ⊢
  rw [List.filter_cons,List.filter_cons]
  by_cases h1:c f.row=true<;>by_cases h2:contB f.valid t=true
  ·rw [if_pos h1,if_pos h2,List.filter_cons,if_pos h2,List.map_cons,List.map_cons,List.filter_cons,if_pos h1,ih]
  ·rw [if_pos h1,if_neg h2,List.filter_cons,if_neg h2,ih]
  ·rw [if_neg h1,if_pos h2,List.map_cons,List.filter_cons,if_neg h1,ih]
  ·rw [if_neg h1,if_neg h2,ih]
theorem rowsAt_len (l:List Fct) (t:Int):(rowsAt l t).length≤l.length:=by unfold rowsAt;rw [List.length_map];exact List.length_filter_le _ _
theorem rowsAt_mem {l:List Fct} {t:Int} {r:List Val} (h:r∈rowsAt l t) : ∃ f∈l,f.row=r:=by
 obtain ⟨f,hf,rfl⟩:=List.mem_map.1 h
 exact ⟨f,(List.mem_filter.1 hf).1,rfl⟩
theorem cnt_pos {ps:List Per} {p:Per} (hp:p∈ps) {t:Int} (h:contB p t=true):0<cntP ps t:=by
 unfold cntP
 exact List.length_pos_of_mem (List.mem_filter.2 ⟨hp,h⟩)
theorem row_pos {l:List Fct} {R:List (List Val)} (h:RowsOf l R) (r:List Val):r∈R ↔ ∃ t,0<cntP (perOf l r) t:=by
 constructor
 ·intro hr
  obtain ⟨f,hf,hv,e⟩:=(h.2 r).1 hr
  have hp:f.valid∈perOf l r:=List.mem_map.2 ⟨f,List.mem_filter.2 ⟨hf,by simp [hv,e]⟩,rfl⟩
  have hV:=(pv_iff f.valid).1 (show St.pvalid (toP f.valid)=true from hv)
  exact ⟨f.valid.lo,cnt_pos hp ((cont_iff hV _).2 ⟨Int.le_refl _,hV.2.1⟩)⟩
 ·rintro ⟨t,ht⟩
  refine Classical.byContradiction fun hr=>?_
  rw [per_out h hr] at ht
  exact absurd ht (by simp [cntP])
theorem levOf_ext {ps qs:List Per} (hn:ps.length≤300) (hm:qs.length≤300) (h : ∀ t,cntP ps t=cntP qs t):levOf ps=levOf qs:=by
 have hc : ∀ t,cntP (levOf ps) t=cntP (levOf qs) t:=fun t=>by rw [lev_cnt ps hn,lev_cnt qs hm,h]
 exact lex_unique (lev_sorted ps) (lev_sorted qs) (lam_uniq _ (levOf ps) (levOf qs) rfl (lev_lam ps hn) (lev_lam qs hm) (fun p hp=>(pv_iff p).1 (lev_valid ps hn p hp)) (fun p hp=>(pv_iff p).1 (lev_valid qs hm p hp)) hc)
theorem bag_ext {l m:List Fct} {R T:List (List Val)} (h:RowsOf l R) (k:RowsOf m T) (hl:l.length≤300) (hm:m.length≤300) (hp : ∀ t,(rowsAt l t).Perm (rowsAt m t)):bagOf l R=bagOf m T:=by
 have hc : ∀ r t,cntP (perOf l r) t=cntP (perOf m r) t:=fun r t=>by rw [← count_at, ← count_at];exact (hp t).count_eq r
 have hR:R=T:=srows_ext h.1 k.1 fun r=>by rw [row_pos h,row_pos k];simp only [hc]
 subst hR
 unfold bagOf
 rw [List.flatMap_def,List.flatMap_def]
 congr 1
 refine List.map_congr_left fun r _=>?_
 rw [levOf_ext (Nat.le_trans (perOf_le2 l r) hl) (Nat.le_trans (perOf_le2 m r) hm) (hc r)]
theorem gContains1_cont (p:Per) (t:Int):gContains1 p t=some (contB p t):=by
 rw [gContains1_eq,contB_eq];rfl
theorem gAt22_eq (l:List Fct) (t:Int) (hn:l.length≤63) (hr : ∀ f∈l,f.row.length≤1000000):gAt22 l t=some (sortV (rowsAt l t)):=by
 unfold gAt22
 have e:(l.flatMap fun f=>if contB f.valid t=true then [f.row] else [])=rowsAt l t:=by
  unfold rowsAt
  induction l with
  | nil=>rfl
  | cons f l ih =>
   rw [List.flatMap_cons,ih (by simp at hn;omega) (fun g hg=>hr g (List.mem_cons_of_mem _ hg)),List.filter_cons]
   split<;>rfl
 have hl:(rowsAt l t).length≤l.length:=by unfold rowsAt;rw [List.length_map];exact List.length_filter_le _ _
 rw [loop_app (l:=l) (fun f=>if contB f.valid t=true then [f.row] else []) 5864062014805 ?_ ?_ (by unfold fuel;omega) [] (by rw [e];simp only [List.length_nil];omega)]
 ·rw [Option.bind_some,e,List.nil_append]
  unfold gAt22_K1
  dsimp only
  rw [gSortR_eq _ (by omega) (fun r hrr=>by
   unfold rowsAt at hrr
   obtain ⟨f,hf,rfl⟩:=List.mem_map.1 hrr
   exact hr f (List.mem_filter.1 hf).1)]
  rfl
 ·intro o i x hx ho
  have hi:=(List.getElem?_eq_some_iff.1 hx).1
  unfold gAt22_B1
  dsimp only
  rw [lt_dec hx,cond_true,gn_ hx]
  simp only [Option.bind_some]
  rw [gContains1_cont,Option.bind_some]
  by_cases hv:contB x.valid t=true
  ·rw [if_pos hv] at ho ⊢
   rw [hv,cond_true,show decide (o.length+1≤5864062014805)=true from decide_eq_true (by simpa using ho),cond_true,wrapN (by omega)]
  ·rw [if_neg hv]
   rw [Bool.not_eq_true] at hv
   rw [hv,cond_false,wrapN (by omega),List.append_nil]
 ·intro o
  unfold gAt22_B1
  dsimp only
  rw [lF_,cond_false]
theorem sortV_same {a b:List (List Val)} (h:a.Perm b):sortV a=sortV b :=
 asc_unique tCr_ (sortV_asc a) (sortV_asc b) ((sortV_perm a).trans (h.trans (sortV_perm b).symm))
theorem canon_at {l:List Fct} (hn:l.length≤300) (t:Int):(rowsAt (canon l) t).Perm (rowsAt l t):=bag_at (rowsL_of l) hn t
theorem canon_ext {l m:List Fct} (hl:l.length≤300) (hm:m.length≤300) (hp : ∀ t,(rowsAt l t).Perm (rowsAt m t)):canon l=canon m:=bag_ext (rowsL_of l) (rowsL_of m) hl hm hp
theorem canon_canon {l:List Fct} (hn:l.length≤300):canon (canon l)=canon l:=canon_ext (Nat.le_trans (canon_len hn) hn) hn (canon_at hn)
theorem gCanon_canon {l:List Fct} (h:FctsOK l):gCanon (canon l)=some true:=by
 unfold gCanon
 rw [gBagR_fcts (fcts_canon h),Option.bind_some,canon_canon (by have:=h.1;omega),gIdent_fcts (fcts_canon h)];rfl
theorem gSnap_eq {r:Rln} {t:Int} (h:FctsOK r.facts):gSnap r t=some ⟨r.kinds,sortV (rowsAt r.facts t)⟩:=by
 unfold gSnap
 rw [gAt22_eq _ _ (by have:=h.1;omega) (fcts_rows h)];rfl
theorem sort_rows {l:List Fct} {t:Int} (h:FctsOK l):(sortV (rowsAt l t)).length≤1000000 ∧ ∀ x∈sortV (rowsAt l t),x.length≤1000000:=by
 refine ⟨?_,fun x hx=>?_⟩
 ·rw [(sortV_perm _).length_eq];have:=rowsAt_len l t;have:=h.1;omega
 ·obtain ⟨f,hf,rfl⟩:=rowsAt_mem ((sortV_perm _).subset hx)
  exact fcts_rows h f hf
set_option maxHeartbeats 8000000
noncomputable section
def gLawSnapshots (a_r:Rln) (a_e:Ex) (a_t:Int):Option (Bool):=(gFew23 a_r).bind fun r_1=>bif (!r_1) then some (true) else
 (gChooses a_e a_r.kinds).bind fun r_4=>bif (!r_4) then some (true) else
 (gFilterP a_r a_e).bind fun r_7=>(gCanon r_7.facts).bind fun r_8=>bif r_8 then (gSnap r_7 a_t).bind fun r_10=>(gSnap a_r a_t).bind fun r_11=>(gFilter21 r_11 a_e).bind fun r_12=>(gExactly r_10 r_12).bind fun r_13=>bif r_13 then some (true) else
 some false else
 some false
theorem gLawSnapshots_ok {a_r:Rln} {a_e:Ex} {a_t:Int} {r:Bool} (H:gLawSnapshots a_r a_e a_t=some r):Pure Tryz.prog 7 [.agg (cRln a_r), .agg (tE a_e), .one (.int .i64 a_t)] (.val (.one (.bool r))):=by
 unfold gLawSnapshots at H
 rw [tE_eq a_e]
 refine po_ Tryz.func7 Tryz.ntmps7 ?_
 obtain ⟨r_1,c1,H⟩:=bd_ H
 replace c1:=gFew23_ok c1
 rcases cnd_ H with ⟨q_2,H⟩|⟨q_2,H⟩
 ·have hc_3:=Aw.awake_pure
  try simp only [List.map_append,List.map_cons,List.map_nil,List.nil_append,tE_eq] at hc_3
  cases H
  exact go_
 obtain ⟨r_4,c2,H⟩:=bd_ H
 replace c2:=gChooses_ok c2
 try simp only [List.map_append,List.map_cons,List.map_nil,List.nil_append,tE_eq] at c2
 rcases cnd_ H with ⟨q_5,H⟩|⟨q_5,H⟩
 ·have hc_6:=Aw.awake_pure
  try simp only [List.map_append,List.map_cons,List.map_nil,List.nil_append,tE_eq] at hc_6
  cases H
  exact go_
 obtain ⟨r_7,c3,H⟩:=bd_ H
 replace c3:=gFilterP_ok c3
 try simp only [List.map_append,List.map_cons,List.map_nil,List.nil_append,tE_eq] at c3
 obtain ⟨r_8,c4,H⟩:=bd_ H
 replace c4:=gCanon_ok c4
 rcases cnd_ H with ⟨q_9,H⟩|⟨q_9,H⟩
 ·obtain ⟨r_10,c5,H⟩:=bd_ H
  replace c5:=gSnap_ok c5
  obtain ⟨r_11,c6,H⟩:=bd_ H
  replace c6:=gSnap_ok c6
  obtain ⟨r_12,c7,H⟩:=bd_ H
  replace c7:=gFilter21_ok c7
  try simp only [List.map_append,List.map_cons,List.map_nil,List.nil_append,tE_eq] at c7
  obtain ⟨r_13,c8,H⟩:=bd_ H
  replace c8:=gExactly_ok c8
  rcases cnd_ H with ⟨q_14,H⟩|⟨q_14,H⟩
  ·have hc_15:=Aw.awake_pure
   try simp only [List.map_append,List.map_cons,List.map_nil,List.nil_append,tE_eq] at hc_15
   cases H
   exact go_
  cases H
  exact go_
 cases H
 exact go_
end
theorem gFilter21_eq {b:Bag} {e:Ex} (hl:b.rows.length≤63) (hr : ∀ x∈b.rows,x.length≤1000000) (he:exOK fuel e):gFilter21 b e=some ⟨b.kinds,sortV (b.rows.filter (selB e))⟩:=by
 unfold gFilter21
 rw [loop_app (l:=b.rows) (fun x=>if selB e x then [x] else []) 5864062014805 ?_ ?_ (by unfold fuel;omega) [] (by rw [flatMap_if];have:=List.length_filter_le (selB e) b.rows;simp only [List.length_nil];omega)]
 ·rw [Option.bind_some,List.nil_append,flatMap_if]
  unfold gFilter21_K1
  dsimp only
  rw [gSortR_eq _ (Nat.le_trans (List.length_filter_le _ _) hl) (fun x hx=>hr x (List.mem_filter.1 hx).1)];rfl
 ·intro s i x hx hs
  have hi:=(List.getElem?_eq_some_iff.1 hx).1
  unfold gFilter21_B1
  dsimp only
  rw [lt_dec hx,cond_true,gn_ hx,Option.bind_some,gTruthR11_eq he,Option.bind_some,wrapN (by omega)]
  show (bif selB e x then _ else _)=_
  cases hc:selB e x with
  | false=>simp
  | true =>
   rw [hc] at hs
   rw [cond_true,decide_eq_true (show s.length+1≤5864062014805 from hs)];rfl
 ·intro s
  unfold gFilter21_B1
  dsimp only
  rw [lF_,cond_false]
theorem sort_small {l:List Fct} {t:Int} (h:FctsOK l):(sortV (rowsAt l t)).length≤63:=by
 rw [(sortV_perm _).length_eq];have:=rowsAt_len l t;have:=h.1;omega
theorem gLawSnapshots_true (r:Rln) (e:Ex) (t:Int):gLawSnapshots r e t=some true:=by
 obtain ⟨b,hb,hok⟩:=gFew23_sem r
 unfold gLawSnapshots
 rw [hb,Option.bind_some]
 cases b with
 | false=>rfl
 | true =>
  have H:=hok rfl
  have hk:r.kinds.length≤1000000:=by have:=H.kinds;omega
  rw [Bool.not_true,cond_false]
  obtain ⟨c,hc,hok2⟩:=gChooses_sem e r.kinds
  rw [hc,Option.bind_some]
  cases c with
  | false=>rfl
  | true =>
   have he:=hok2 rfl
   have hF:FctsOK (r.facts.filter fun f=>selB e f.row):=fcts_sub H.fcts List.filter_sublist
   rw [Bool.not_true,cond_false,gFilterP_eq hk H.fcts he,Option.bind_some]
   dsimp only
   rw [gCanon_canon hF,Option.bind_some,cond_true,gSnap_eq (fcts_canon hF),Option.bind_some,gSnap_eq H.fcts,Option.bind_some,gFilter21_eq (b:=⟨r.kinds,sortV (rowsAt r.facts t)⟩) (sort_small H.fcts) (sort_rows H.fcts).2 he,Option.bind_some]
   dsimp only
   have e1:sortV (rowsAt (canon (r.facts.filter fun f=>selB e f.row)) t)=sortV ((sortV (rowsAt r.facts t)).filter (selB e)):=by
    have h1:=canon_at (l:=r.facts.filter fun f=>selB e f.row) (by have:=hF.1;omega) t
    rw [rowsAt_filter (selB e) t r.facts] at h1
    exact sortV_same (h1.trans ((sortV_perm (rowsAt r.facts t)).filter (selB e)).symm)
   have s1:=sort_rows (t:=t) (fcts_canon hF)
   rw [e1] at s1
   rw [e1,gExactly_refl ⟨r.kinds,sortV ((sortV (rowsAt r.facts t)).filter (selB e))⟩ hk s1.1 s1.2];rfl
theorem projectSnapshots_pure {r:Rln} {e:Ex} {t:Int} (q0:okRln r) (q1:okEx e) (q2:IOk t):Pure Tryz.prog 7 [.agg (cRln r), .agg (tE e), .one (.int .i64 t)] (.val (.one (.bool true))):=gLawSnapshots_ok (gLawSnapshots_true r e t)
end Go.Proofs.YtfccopdbgfdcdaaGreatDoor
