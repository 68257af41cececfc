/- Parts of the proof, joined. No condition. -/
import Derived.Test.YtfccopdbgfdcdaaGreatDoorKAL
import Derived.Test.YtfccopdbgfdcdaaGreatDoorKBI
import Derived.Test.YtfccopdbgfdcdaaGreatDoorKAM
import Derived.Test.YtfccopdbgfdcdaaGreatDoorKBN
import Derived.Test.YtfccopdbgfdcdaaGreatDoorKBM
import Derived.Test.YtfccopdbgfdcdaaGreatDoorKBO
import Derived.Test.YtfccopdbgfdcdaaGreatDoorKBQ
import Derived.Test.YtfccopdbgfdcdaaGreatDoorKBU
import Derived.Test.YtfccopdbgfdcdaaGreatDoorKBR
import Derived.Test.YtfccopdbgfdcdaaGreatDoorKBT
import Derived.Test.YtfccopdbgfdcdaaGreatDoorKBF
import Derived.Test.YtfccopdbgfdcdaaGreatDoorKBG
import Derived.Test.YtfccopdbgfdcdaaGreatDoorKBP
import Derived.Test.YtfccopdbgfdcdaaGreatDoorKBV
set_option linter.unusedSimpArgs false
set_option linter.unusedVariables false
namespace Go.Proofs.YtfccopdbgfdcdaaGreatDoor
open Go.RowKit Go.MapKept
structure Bag where
 kinds:(List Int)
 rows:(List (List Val))
def cBag (x:Bag):List AC:=[.lst (x.kinds.map (fun x=>[AC.int .i64 x])), .lst (x.rows.map (fun x=>[AC.lst (x.map cV)]))]
set_option maxRecDepth 100000
set_option maxHeartbeats 8000000
def gSameRows_B1 (a_a:(List (List Val))) (a_b:(List (List Val))):(Int)→Option (Step (Int) (Bool)):=fun s=>match s with
 | i_2=>bif (decide (i_2<((a_a.length:Nat):Int))) then (getI a_a i_2).bind fun x_4=>(getI a_b i_2).bind fun x_5=>(gEqual8 x_4 x_5).bind fun r_6=>bif (!r_6) then some (.ret false) else
 some (.next (IntKind.i64.wrap (i_2+(1:Int)))) else
 some (.exit i_2)
def gSameRows_K1:Sum (Int) (Bool)→Option ((Bool))
 | .inl i_2=>some true
 | .inr q=>some q
def gSameRows (a_a:(List (List Val))) (a_b:(List (List Val))):Option (Bool):=bif (decide (((a_a.length:Nat):Int)≠((a_b.length:Nat):Int))) then some false else
 (loopM (gSameRows_B1 a_a a_b) fuel (0:Int)).bind (gSameRows_K1)
theorem gSameRows_ok {a_a:(List (List Val))} {a_b:(List (List Val))} {r:Bool} (H:gSameRows a_a a_b=some r):Pure Tryz.prog 59 [.one (.lst (a_a.map (fun x=>[AC.lst (x.map cV)]))), .one (.lst (a_b.map (fun x=>[AC.lst (x.map cV)])))] (.val (.one (.bool r))):=by
 unfold gSameRows at H
 refine po_ Tryz.func59 Tryz.ntmps59 ?_
 rcases cnd_ H with ⟨q_1,H⟩|⟨q_1,H⟩
 ·cases H
  exact go_
 refine gt_ ?_
 refine alM_ (fun s:Int=>match s with|i_2=>[(0, .one (.c (.lst (a_a.map (fun x=>[AC.lst (x.map cV)]))))),(1, .one (.c (.lst (a_b.map (fun x=>[AC.lst (x.map cV)]))))),(5, .one (.c (.int .i64 i_2)))]) (fun s=>match s with|i_2=>[]) H (fun _=>Nat.zero_le _)
  (fm_ br_ [] rfl bt_ trivial) ?_
 rintro i_2 st1 hb1 hk1
 unfold gSameRows_B1 at hb1
 dsimp only at hb1 ⊢
 rcases cnd_ hb1 with ⟨q_3,hb1⟩|⟨q_3,hb1⟩
 ·obtain ⟨x_4,i1z,i1,i1x,hb1⟩:=idx_ (f:=(fun x=>[AC.lst (x.map cV)])) hb1
  obtain ⟨x_5,i2z,i2,i2x,hb1⟩:=idx_ (f:=(fun x=>[AC.lst (x.map cV)])) hb1
  obtain ⟨r_6,c3,hb1⟩:=bd_ hb1
  replace c3:=gEqual8_ok c3
  rcases cnd_ hb1 with ⟨q_7,hb1⟩|⟨q_7,hb1⟩
  ·cases hb1
   have hx1:gSameRows_K1 (.inr false)=some _:=hk1
   unfold gSameRows_K1 at hx1
   dsimp only at hx1
   cases hx1
   exact go_
  cases hb1
  refine gt_ ?_
  exact ⟨_,rfl,fm_ br_ [] rfl bt_ trivial⟩
 cases hb1
 have hx1:gSameRows_K1 (.inl i_2)=some _:=hk1
 unfold gSameRows_K1 at hx1
 dsimp only at hx1
 cases hx1
 exact go_
def gExactly (a_a:Bag) (a_b:Bag):Option (Bool):=(gSameKinds a_a.kinds a_b.kinds).bind fun r_1=>bif r_1 then (gSameRows a_a.rows a_b.rows).bind fun r_3=>some r_3 else
 some false
theorem gExactly_ok {a_a:Bag} {a_b:Bag} {r:Bool} (H:gExactly a_a a_b=some r):Pure Tryz.prog 28 [.agg (cBag a_a), .agg (cBag a_b)] (.val (.one (.bool r))):=by
 unfold gExactly at H
 refine po_ Tryz.func28 Tryz.ntmps28 ?_
 obtain ⟨r_1,c1,H⟩:=bd_ H
 replace c1:=gSameKinds_ok c1
 rcases cnd_ H with ⟨q_2,H⟩|⟨q_2,H⟩
 ·obtain ⟨r_3,c2,H⟩:=bd_ H
  replace c2:=gSameRows_ok c2
  cases H
  exact go_
 cases H
 exact go_
set_option maxHeartbeats 8000000
noncomputable section
def gContains1 (a_p:Per) (a_t:Int):Option (Bool):=(gValid1 a_p).bind fun r_1=>bif r_1 then bif (decide (a_p.lo≤a_t)) then some (decide (a_t<a_p.hi)) else
 some false else
 some false
theorem gContains1_ok {a_p:Per} {a_t:Int} {r:Bool} (H:gContains1 a_p a_t=some r):Pure Tryz.prog 95 [.agg (cPer a_p), .one (.int .i64 a_t)] (.val (.one (.bool r))):=by
 unfold gContains1 at H
 refine po_ Tryz.func95 Tryz.ntmps95 ?_
 obtain ⟨r_1,c1,H⟩:=bd_ H
 replace c1:=gValid1_ok c1
 rcases cnd_ H with ⟨q_2,H⟩|⟨q_2,H⟩
 ·rcases cnd_ H with ⟨q_3,H⟩|⟨q_3,H⟩
  ·cases H
   exact go_
  cases H
  exact go_
 cases H
 exact go_
def gAt22_B1 (a_l:(List Fct)) (a_t:Int):((List (List Val)) × Int)→Option (Step ((List (List Val)) × Int) ((List (List Val)))):=fun s=>match s with
 | (out_1,i_2)=>bif (decide (i_2<((a_l.length:Nat):Int))) then (getI a_l i_2).bind fun x_4=>(gContains1 x_4.valid a_t).bind fun r_5=>bif r_5 then bif (decide (out_1.length+1≤5864062014805)) then (some (.next ((out_1++[x_4.row]),(IntKind.i64.wrap (i_2+(1:Int)))))) else none else
 some (.next (out_1,(IntKind.i64.wrap (i_2+(1:Int))))) else
 some (.exit (out_1,i_2))
def gAt22_K1:Sum ((List (List Val)) × Int) ((List (List Val)))→Option (((List (List Val))))
 | .inl (out_1,i_2)=>(gSortR out_1).bind fun r_7=>some r_7
 | .inr q=>some q
def gAt22 (a_l:(List Fct)) (a_t:Int):Option ((List (List Val))):=(loopM (gAt22_B1 a_l a_t) fuel ([],(0:Int))).bind (gAt22_K1)
theorem gAt22_ok {a_l:(List Fct)} {a_t:Int} {r:(List (List Val))} (H:gAt22 a_l a_t=some r):Pure Tryz.prog 60 [.one (.lst (a_l.map cFct)), .one (.int .i64 a_t)] (.val (.one (.lst (r.map (fun x=>[AC.lst (x.map cV)]))))):=by
 unfold gAt22 at H
 refine po_ Tryz.func60 Tryz.ntmps60 ?_
 refine gt_ ?_
 refine aw_tok 5 1 rfl ?_
 refine alM_ (fun s:(List (List Val)) × Int=>match s with|(out_1,i_2)=>[(0, .one (.c (.lst (a_l.map cFct)))),(1, .one (.c (.int .i64 a_t))),(5, .one (.own (out_1.map (fun x=>[AC.lst (x.map cV)])) 0)),(6, .one (.c (.int .i64 i_2)))]) (fun s=>match s with|(out_1,i_2)=>[.spare out_1.length 1]) H (fun _=>Nat.zero_le _)
  (fm_ br_ [] rfl bt_ bo_) ?_
 rintro ⟨out_1,i_2⟩ st1 hb1 hk1
 unfold gAt22_B1 at hb1
 dsimp only at hb1 ⊢
 rcases cnd_ hb1 with ⟨q_3,hb1⟩|⟨q_3,hb1⟩
 ·obtain ⟨x_4,i1z,i1,i1x,hb1⟩:=idx_ (f:=cFct) hb1
  obtain ⟨r_5,c2,hb1⟩:=bd_ hb1
  replace c2:=gContains1_ok c2
  rcases cnd_ hb1 with ⟨q_6,hb1⟩|⟨q_6,hb1⟩
  ·obtain ⟨g3,hb1⟩:=grd_d hb1
   cases hb1
   refine gt_ ?_
   exact ⟨_,rfl,fm_ bs_ [] be_ bt_ bo_⟩
  cases hb1
  refine gt_ ?_
  exact ⟨_,rfl,fm_ bs_ [] be_ bt_ bo_⟩
 cases hb1
 have hx1:gAt22_K1 (.inl (out_1,i_2))=some _:=hk1
 unfold gAt22_K1 at hx1
 dsimp only at hx1
 obtain ⟨r_7,c4,hx1⟩:=bd_ hx1
 replace c4:=gSortR_ok c4
 cases hx1
 exact go_
end
theorem gSameRows_refl (l:List (List Val)) (h:l.length≤1000000) (hr : ∀ r∈l,r.length≤1000000):gSameRows l l=some true:=by
 unfold gSameRows
 simp only [ne_eq,not_true_eq_false,decide_false,cond_false]
 rw [loop_list (l:=l) (mk:=fun (_:Unit) i=>i) (f:=fun (_:Unit) (x:List Val)=>((gEqual8 x x).bind fun r=>bif (!r) then some (.inr false) else some (.inl ()):Option (Sum Unit Bool))) ?_ ?_ (by unfold fuel;omega) ()]
 ·have : ∀ l:List (List Val),(∀ r∈l,r.length≤1000000)→foldS (fun (_:Unit) (x:List Val)=>((gEqual8 x x).bind fun r=>bif (!r) then some (.inr false) else some (.inl ()):Option (Sum Unit Bool))) () l=some (.inl ()):=by
   intro l
   induction l with
   | nil=>intro _;rfl
   | cons x l ih =>
    intro hr
    have hx:=hr x (List.mem_cons_self ..)
    have e:gEqual8 x x=some true:=by
     unfold gEqual8
     rw [gCmp8_eq x x (by omega) (by omega),tCr_.refl];rfl
    rw [foldS,e]
    exact ih fun r hr'=>hr r (List.mem_cons_of_mem _ hr')
  rw [this l hr];rfl
 ·intro s i x hx
  have hi:i<l.length:=(List.getElem?_eq_some_iff.1 hx).1
  unfold gSameRows_B1
  dsimp only
  rw [lt_dec hx,cond_true,gn_ hx]
  simp only [Option.bind_some]
  rw [wrapN (by omega)]
  cases gEqual8 x x with
  | none=>rfl
  | some r=>cases r<;>rfl
 ·intro s
  unfold gSameRows_B1
  dsimp only
  rw [lF_,cond_false]
theorem gExactly_refl (b:Bag) (h1:b.kinds.length≤1000000) (h2:b.rows.length≤1000000) (h3 : ∀ r∈b.rows,r.length≤1000000):gExactly b b=some true:=by
 unfold gExactly
 rw [gSameKinds_refl _ h1]
 simp only [Option.bind_some,cond_true]
 rw [gSameRows_refl _ h2 h3];rfl
theorem gContains1_eq (p:Per) (t:Int):gContains1 p t=some (pvalB p&&(decide (p.lo≤t)&&decide (t<p.hi))):=by
 unfold gContains1
 rw [gValid1_eq,Option.bind_some]
 cases pvalB p<;>cases decide (p.lo≤t)<;>rfl
set_option maxHeartbeats 8000000
noncomputable section
def gMoved (a_at:Int) (a_n:Int):Option (Int):=bif (decide (a_n<(-1099511627776:Int))) then some (0:Int) else
 bif (decide ((1099511627776:Int)<a_n)) then some (1099511627776:Int) else
 some (mnI (mxI (IntKind.i64.wrap (a_at+a_n)) (0:Int)) (1099511627776:Int))
theorem gMoved_ok {a_at:Int} {a_n:Int} {r:Int} (H:gMoved a_at a_n=some r):Pure Tryz.prog 57 [.one (.int .i64 a_at), .one (.int .i64 a_n)] (.val (.one (.int .i64 r))):=by
 unfold gMoved at H
 refine po_ Tryz.func57 Tryz.ntmps57 ?_
 rcases cnd_ H with ⟨q_1,H⟩|⟨q_1,H⟩
 ·cases H
  exact go_
 rcases cnd_ H with ⟨q_2,H⟩|⟨q_2,H⟩
 ·cases H
  exact go_
 cases H
 exact go_
def gShiftP_B1 (a_r:Rln) (a_n:Int):((List Fct) × Int)→Option (Step ((List Fct) × Int) (Rln)):=fun s=>match s with
 | (out_1,v_2)=>bif (decide (v_2<((a_r.facts.length:Nat):Int))) then (getI a_r.facts v_2).bind fun x_4=>(gMoved x_4.valid.lo a_n).bind fun r_5=>bif (decide (x_4.valid.hi<(1099511627776:Int))) then (gMoved x_4.valid.hi a_n).bind fun r_7=>(gPV (⟨r_5,r_7⟩:Per)).bind fun r_8=>bif r_8 then bif (decide (out_1.length+1≤3518437208883)) then (some (.next ((out_1++[(⟨x_4.row,(⟨r_5,r_7⟩:Per)⟩:Fct)]),(IntKind.i64.wrap (v_2+(1:Int)))))) else none else
 some (.next (out_1,(IntKind.i64.wrap (v_2+(1:Int))))) else
 (gPV (⟨r_5,(1099511627776:Int)⟩:Per)).bind fun r_10=>bif r_10 then bif (decide (out_1.length+1≤3518437208883)) then (some (.next ((out_1++[(⟨x_4.row,(⟨r_5,(1099511627776:Int)⟩:Per)⟩:Fct)]),(IntKind.i64.wrap (v_2+(1:Int)))))) else none else
 some (.next (out_1,(IntKind.i64.wrap (v_2+(1:Int))))) else
 some (.exit (out_1,v_2))
def gShiftP_K1 (a_r:Rln):Sum ((List Fct) × Int) (Rln)→Option ((Rln))
 | .inl (out_1,v_2)=>(gRelation a_r.kinds out_1).bind fun r_12=>some r_12
 | .inr q=>some q
def gShiftP (a_r:Rln) (a_n:Int):Option (Rln):=(loopM (gShiftP_B1 a_r a_n) fuel ([],(0:Int))).bind (gShiftP_K1 a_r)
theorem gShiftP_ok {a_r:Rln} {a_n:Int} {r:Rln} (H:gShiftP a_r a_n=some r):Pure Tryz.prog 25 [.agg (cRln a_r), .one (.int .i64 a_n)] (.val (.agg (cRln r))):=by
 unfold gShiftP at H
 refine po_ Tryz.func25 Tryz.ntmps25 ?_
 refine gt_ ?_
 refine aw_tok 5 3 rfl ?_
 refine alM_ (fun s:(List Fct) × Int=>match s with|(out_1,v_2)=>[(1, .one (.c (.int .i64 a_n))),(2, .one (.ptr 0 0)),(4, .one (.ptr 1 0)),(5, .one (.own (out_1.map cFct) 2)),(10, .one (.c (.lst (a_r.facts.map cFct)))),(11, .one (.c (.int .i64 ((a_r.facts.length:Nat):Int)))),(12, .one (.c (.int .i64 v_2)))]) (fun s=>match s with|(out_1,v_2)=>[.box [.c (.lst (a_r.kinds.map (fun x=>[AC.int .i64 x]))), .c (.lst (a_r.facts.map cFct))], .box [.emp, .emp], .spare out_1.length 3]) H (fun _=>Nat.zero_le _)
  (fm_ br_ [] rfl bt_ bo_) ?_
 rintro ⟨out_1,v_2⟩ st1 hb1 hk1
 unfold gShiftP_B1 at hb1
 dsimp only at hb1 ⊢
 rcases cnd_ hb1 with ⟨q_3,hb1⟩|⟨q_3,hb1⟩
 ·obtain ⟨x_4,i1z,i1,i1x,hb1⟩:=idx_ (f:=cFct) hb1
  obtain ⟨r_5,c2,hb1⟩:=bd_ hb1
  replace c2:=gMoved_ok c2
  rcases cnd_ hb1 with ⟨q_6,hb1⟩|⟨q_6,hb1⟩
  ·obtain ⟨r_7,c3,hb1⟩:=bd_ hb1
   replace c3:=gMoved_ok c3
   obtain ⟨r_8,c4,hb1⟩:=bd_ hb1
   replace c4:=gPV_ok c4
   rcases cnd_ hb1 with ⟨q_9,hb1⟩|⟨q_9,hb1⟩
   ·obtain ⟨g5,hb1⟩:=grd_d hb1
    cases hb1
    refine gt_ ?_
    exact ⟨_,rfl,fm_ bs_ [_,_] be_ bt_ bo_⟩
   cases hb1
   refine gt_ ?_
   exact ⟨_,rfl,fm_ bs_ [_,_] be_ bt_ bo_⟩
  obtain ⟨r_10,c6,hb1⟩:=bd_ hb1
  replace c6:=gPV_ok c6
  rcases cnd_ hb1 with ⟨q_11,hb1⟩|⟨q_11,hb1⟩
  ·obtain ⟨g7,hb1⟩:=grd_d hb1
   cases hb1
   refine gt_ ?_
   exact ⟨_,rfl,fm_ bs_ [_,_] be_ bt_ bo_⟩
  cases hb1
  refine gt_ ?_
  exact ⟨_,rfl,fm_ bs_ [_,_] be_ bt_ bo_⟩
 cases hb1
 have hx1:gShiftP_K1 a_r (.inl (out_1,v_2))=some _:=hk1
 unfold gShiftP_K1 at hx1
 dsimp only at hx1
 obtain ⟨r_12,c8,hx1⟩:=bd_ hx1
 replace c8:=gRelation_ok c8
 cases hx1
 exact go_
end
set_option maxHeartbeats 8000000
noncomputable section
def gSnap (a_r:Rln) (a_t:Int):Option (Bag):=(gAt22 a_r.facts a_t).bind fun r_1=>some (⟨a_r.kinds,r_1⟩:Bag)
theorem gSnap_ok {a_r:Rln} {a_t:Int} {r:Bag} (H:gSnap a_r a_t=some r):Pure Tryz.prog 29 [.agg (cRln a_r), .one (.int .i64 a_t)] (.val (.agg (cBag r))):=by
 unfold gSnap at H
 refine po_ Tryz.func29 Tryz.ntmps29 ?_
 obtain ⟨r_1,c1,H⟩:=bd_ H
 replace c1:=gAt22_ok c1
 cases H
 exact go_
end
end Go.Proofs.YtfccopdbgfdcdaaGreatDoor
namespace Go.Proofs.YtfccopdbgfdcdaaGreatDoor.St
open Go.RowKit
theorem rat_out {l:List (Int × Int)} {t:Int} (h : ¬ (0≤t∧t<1099511627776)):rat l t=0:=by unfold rat;rw [if_neg h]
theorem cnt_append (X Y:List (Int × Int)) (t:Int):cnt (X++Y) t=cnt X t+cnt Y t:=by simp [cnt]
theorem cnt_one {a b t:Int} (h0:0≤a) (h1:a<b) (h2:b≤1099511627776):cnt [(a,b)] t=if a≤t∧t<b then 1 else 0:=by
 have hv:pvalid (a,b)=true:=by simp [pvalid];omega
 simp [cnt,pcontains,hv]
theorem atStep_cnt (n t v:Int) (out:List (Int × Int)) {a b:Int} (h0:0≤a) (h1:a<b) (h2:b≤1099511627776) (hout : ∀ q∈out,pvalid q=true∧q.2≤a) :
  (∀ q∈atStep n out ((a,b),v),pvalid q=true∧q.2≤b)∧cnt (atStep n out ((a,b),v)) t=cnt out t+(if n≤v∧a≤t∧t<b then 1 else 0):=by
 have hv:pvalid (a,b)=true:=by simp [pvalid];omega
 have happ:(∀ q∈out++[(a,b)],pvalid q=true∧q.2≤b)∧cnt (out++[(a,b)]) t=cnt out t+(if a≤t∧t<b then 1 else 0):=by
  refine ⟨fun q hq=>?_,by rw [cnt_append,cnt_one h0 h1 h2]⟩
  rcases List.mem_append.1 hq with e|e
  ·have:=hout q e;exact ⟨this.1,by omega⟩
  ·simp at e;subst e;exact ⟨hv,Int.le_refl _⟩
 unfold atStep
 by_cases hn:n≤v
 ·rw [if_pos hn]
  simp only [hn,true_and]
  unfold joinP
  split
  ·rename_i q hq
   split
   ·rename_i hle
    have hmem:q∈out:=List.mem_of_getLast? hq
    obtain ⟨hq1,hq2⟩:=hout q hmem
    have hle':a≤q.2:=hle
    have hqe:q.2=a:=by omega
    have hsp:out=out.dropLast++[q]:=by
     have hne:out≠[]:=by intro e;rw [e] at hmem;simp at hmem
     rw [List.getLast?_eq_some_getLast hne] at hq
     injection hq with hq
     rw [← hq];exact (List.dropLast_concat_getLast hne).symm
    have hqv:0≤q.1∧q.1<q.2∧q.2≤1099511627776:=by simp [pvalid] at hq1;omega
    have hm:max q.2 b=b:=by omega
    show (∀ x∈out.dropLast++[(q.1,max q.2 b)],pvalid x=true∧x.2≤b)∧cnt (out.dropLast++[(q.1,max q.2 b)]) t=_
    rw [hm]
    refine ⟨fun x hx=>?_,?_⟩
    ·rcases List.mem_append.1 hx with e|e
     ·have:=hout x (List.dropLast_subset _ e);exact ⟨this.1,by omega⟩
     ·simp at e;subst e;exact ⟨by simp [pvalid];omega,Int.le_refl _⟩
    ·have e1:cnt out t=cnt out.dropLast t+cnt [(q.1,q.2)] t:=by rw [← cnt_append];exact congrArg (cnt · t) hsp
     rw [e1,cnt_append,cnt_one hqv.1 (by omega) h2,cnt_one hqv.1 hqv.2.1 hqv.2.2]
     split<;>split<;>split<;>omega
   ·exact happ
  ·exact happ
 ·rw [if_neg hn]
  refine ⟨fun q hq=>?_,by simp [hn]⟩
  have:=hout q hq;exact ⟨this.1,by omega⟩
theorem cnt_segs (n t:Int) (ht:t<1099511627776) : ∀ (r:List (Int × Int)) (x:Int × Int) (out:List (Int × Int)),0≤x.1→(x::r).Pairwise (fun p q=>p.1<q.1)→(∀ s∈x::r,s.1<1099511627776)→(∀ q∈out,pvalid q=true∧q.2≤x.1) →
  cnt ((segs (x::r)).foldl (atStep n) out) t=cnt out t+(if x.1≤t∧n≤lastV x.2 r t then 1 else 0)
 | [],x,out,h0,_,hM,hout=>by
  have:=(atStep_cnt n t x.2 out h0 (hM x (by simp)) (Int.le_refl _) hout).2
  simp only [segs,List.foldl_cons,List.foldl_nil,this]
  have e:lastV x.2 [] t=x.2:=rfl
  rw [e]
  split<;>split<;>omega
 | y::r,x,out,h0,hp,hM,hout=>by
  have hxy:x.1<y.1:=(List.pairwise_cons.1 hp).1 y (by simp)
  have hy:=(List.pairwise_cons.1 hp).2
  obtain ⟨h1,h2⟩:=atStep_cnt n t x.2 out h0 hxy (by have:=hM y (by simp);omega) hout
  have ih:=cnt_segs n t ht r y _ (by omega) hy (fun s hs=>hM s (List.mem_cons_of_mem _ hs)) h1
  have e:segs (x::y::r)=((x.1,y.1),x.2)::segs (y::r):=rfl
  rw [e,List.foldl_cons,ih,h2,lastV_cons]
  by_cases hyt:y.1≤t
  ·rw [if_pos hyt]
   split<;>split<;>split<;>omega
  ·rw [if_neg hyt]
   have e2:lastV x.2 r t=x.2:=lastV_skip fun q hq=>by have:=(List.pairwise_cons.1 hy).1 q hq;omega
   rw [e2]
   split<;>split<;>split<;>omega
theorem cnt_atl {l:List (Int × Int)} (h:svalid l=true) (n t:Int) (h1:0≤t) (h2:t<1099511627776):cnt (atl l n) t=if n≤rat l t then 1 else 0:=by
 match l,h with
 | p::r,h =>
  have ha:=svalid_asc h
  have hp0:p.1=0:=ha.2.2.2 p rfl
  simp only [svalid,Bool.and_eq_true] at h
  have hv:=validFrom_asc h.2
  have:=cnt_segs n t h2 r p [] (by omega) hv.1 ha.2.1 (by simp)
  unfold atl
  rw [this,rat_in h1 h2,lastV_cons,if_pos (show p.1≤t by omega)]
  have e:cnt [] t=0:=rfl
  rw [e]
  simp [hp0,h1]
theorem cnt_levTo {l:List (Int × Int)} (h:svalid l=true) (t:Int) (h1:0≤t) (h2:t<1099511627776) (h3:0≤rat l t) : ∀ k:Nat,cnt (levTo l k) t=if (k:Int)≤rat l t then (k:Int) else rat l t
 | 0=>by
  have e:cnt (levTo l 0) t=0:=rfl
  rw [e];split<;>omega
 | k+1=>by
  rw [levTo_succ,cnt_append,cnt_levTo h t h1 h2 h3 k,cnt_atl h _ t h1 h2]
  split<;>split<;>split<;>omega
theorem cnt_perm {a b:List (Int × Int)} (h:a.Perm b) (t:Int):cnt a t=cnt b t:=by
 unfold cnt
 induction h with
 | nil=>rfl
 | cons x _ ih=>simp only [List.map_cons,List.sum_cons,ih]
 | swap x y l=>simp only [List.map_cons,List.sum_cons];omega
 | trans _ _ ih1 ih2=>exact ih1.trans ih2
theorem cnt_levM {l:List (Int × Int)} (h:svalid l=true) (t:Int) (h1:0≤t) (h2:t<1099511627776) (h3:0≤rat l t) (h4:rat l t≤600):cnt (levM l) t=rat l t:=by
 have hp:(levM l).Perm (levTo l 600):=by
  have h0:=(place_all (levAll l) [] .nil).2
  rw [List.nil_append] at h0
  have e:levAll l=levTo l 600:=by unfold levAll levTo;rfl
  rw [← e];exact h0
 rw [cnt_perm hp,cnt_levTo h t h1 h2 h3]
 split<;>omega
end Go.Proofs.YtfccopdbgfdcdaaGreatDoor.St
namespace Go.Proofs.YtfccopdbgfdcdaaGreatDoor
open Go.RowKit
theorem cont_range {p:Per} {t:Int} (h:contB p t=true):0≤t∧t<1099511627776:=by
 unfold contB St.pcontains St.pvalid at h
 simp only [Bool.and_eq_true,decide_eq_true_eq] at h
 omega
theorem cntP_out {t:Int} (h : ¬(0≤t∧t<1099511627776)) (ps:List Per):cntP ps t=0:=by
 unfold cntP
 rw [List.length_eq_zero_iff,List.filter_eq_nil_iff]
 exact fun p _ hp=>h (cont_range hp)
theorem steps_rat (ps:List Per) (hn:ps.length≤300) (t:Int):St.rat (stepsOf ps) t=(cntP ps t:Int):=by
 by_cases h:0≤t∧t<1099511627776
 ·rw [show stepsOf ps=St.combS (St.rsum ((ones ps).map toC)) (St.ofPts ((ones ps).map toC)) from rfl,(St.of_ok _).2 t h.1 h.2,St.rsum_ones t (ones_two ps) (by simp [ones];omega),ones_P,St.isum_onesF,cnt_nat]
 ·rw [St.rat_out h,cntP_out h];rfl
theorem steps_bound (ps:List Per) (hn:ps.length≤300) (t:Int):0≤St.rat (stepsOf ps) t∧St.rat (stepsOf ps) t≤600:=by
 have:=steps_rat ps hn t
 have:=cntP_le ps t
 omega
theorem lev_cnt (ps:List Per) (hn:ps.length≤300) (t:Int):cntP (levOf ps) t=cntP ps t:=by
 by_cases h:0≤t∧t<1099511627776
 ·have h1:=cnt_nat (levOf ps) t
  rw [lev_P,St.cnt_levM (steps_valid ps) t h.1 h.2 (steps_bound ps hn t).1 (steps_bound ps hn t).2,steps_rat ps hn] at h1
  omega
 ·rw [cntP_out h,cntP_out h]
open Go.RowKit Go.MapKept
set_option maxRecDepth 100000
theorem perOf_app (s t:List Fct) (r:List Val):perOf (s++t) r=perOf s r++perOf t r:=by unfold perOf;rw [List.filter_append,List.map_append]
theorem perOf_same (r:List Val) : ∀ ps:List Per,(∀ p∈ps,St.pvalid (toP p)=true)→perOf (ps.map fun p=>(⟨r,p⟩:Fct)) r=ps
 | [],_=>rfl
 | p::ps,h=>by
  have ih:=perOf_same r ps fun q hq=>h q (List.mem_cons_of_mem _ hq)
  have hp:pvalB p=true:=h p (List.mem_cons_self ..)
  unfold perOf at ih ⊢
  rw [List.map_cons,List.filter_cons_of_pos (by simp [hp]),List.map_cons,ih]
theorem perOf_other {r x:List Val} (hx:x≠r) (ps:List Per):perOf (ps.map fun p=>(⟨x,p⟩:Fct)) r=[]:=by
 unfold perOf
 rw [List.map_eq_nil_iff,List.filter_eq_nil_iff]
 intro f hf h
 obtain ⟨p,_,rfl⟩:=List.mem_map.1 hf
 simp only [Bool.and_eq_true,decide_eq_true_eq] at h
 exact hx h.2
theorem perOf_runs (L:List Val→List Per) (hL : ∀ r, ∀ p∈L r,St.pvalid (toP p)=true) : ∀ (R:List (List Val)),SRows R → ∀ r,perOf (R.flatMap fun r=>(L r).map fun p=>(⟨r,p⟩:Fct)) r=if r∈R then L r else []
 | [],_,r=>rfl
 | x::R,h,r=>by
  have ih:=perOf_runs L hL R (List.Pairwise.of_cons h) r
  rw [List.flatMap_cons,perOf_app,ih]
  by_cases hx:x=r
  ·subst hx
   rw [perOf_same x _ (hL x),if_neg (srows_ne h),if_pos (List.mem_cons_self ..),List.append_nil]
  ·rw [perOf_other hx,List.nil_append]
   by_cases hr:r∈R
   ·rw [if_pos hr,if_pos (List.mem_cons_of_mem _ hr)]
   ·rw [if_neg hr,if_neg (by intro h;rcases List.mem_cons.1 h with h|h;exact hx h.symm;exact hr h)]
theorem per_out {l:List Fct} {R:List (List Val)} (h:RowsOf l R) {r:List Val} (hr:r∉R):perOf l r=[]:=by
 unfold perOf
 rw [List.map_eq_nil_iff,List.filter_eq_nil_iff]
 intro f hf hc
 rw [Bool.and_eq_true] at hc
 exact hr ((h.2 r).2 ⟨f,hf,hc.1,of_decide_eq_true hc.2⟩)
section
variable {l:List Fct} {R:List (List Val)} (h:RowsOf l R) (hn:l.length≤300)
include h hn
theorem bag_per (r:List Val):perOf (bagOf l R) r=if r∈R then levOf (perOf l r) else [] :=
 perOf_runs (fun r=>levOf (perOf l r)) (fun r p hp=>lev_valid _ (Nat.le_trans (perOf_le2 l r) hn) p hp) R h.1 r
end
def rowsAt (l:List Fct) (t:Int):List (List Val):=(l.filter fun f=>contB f.valid t).map (·.row)
theorem count_at (t:Int) (r:List Val) : ∀ l:List Fct,(rowsAt l t).count r=cntP (perOf l r) t
 | []=>rfl
 | f::l=>by
  have ih:=count_at t r l
  unfold rowsAt at ih ⊢
  have e:perOf (f::l) r=(if (pvalB f.valid&&decide (f.row=r))=true then [f.valid] else [])++perOf l r:=by
   unfold perOf
   rw [List.filter_cons]
   split<;>simp
  rw [List.filter_cons,e]
  by_cases hc:contB f.valid t=true
  ·have hv:pvalB f.valid=true:=by
    have:=hc
    rw [contB_eq,Bool.and_eq_true] at this
    exact this.1
   rw [if_pos hc,List.map_cons,List.count_cons,ih]
   by_cases hr:f.row=r
   ·simp only [hv,hr,decide_true,Bool.and_self,if_true,List.cons_append,List.nil_append,beq_self_eq_true]
    rw [cntP_cons,if_pos hc];omega
   ·simp [hr]
  ·rw [if_neg hc,ih]
   split
   ·rw [List.cons_append,List.nil_append,cntP_cons,if_neg hc,Nat.zero_add]
   ·rfl
theorem bag_at {l:List Fct} {R:List (List Val)} (h:RowsOf l R) (hn:l.length≤300) (t:Int):(rowsAt (bagOf l R) t).Perm (rowsAt l t):=by
 rw [List.perm_iff_count]
 intro r
 rw [count_at,count_at,bag_per h hn r]
 split
 ·exact lev_cnt _ (Nat.le_trans (perOf_le2 l r) hn) t
 ·rename_i hr
  rw [per_out h hr]
def PerV (p:Per):Prop:=0≤p.lo∧p.lo<p.hi∧p.hi≤1099511627776
theorem pv_iff (p:Per):St.pvalid (toP p)=true↔PerV p:=by
 unfold St.pvalid PerV toP
 simp only [Bool.and_eq_true,decide_eq_true_eq]
 omega
theorem cont_iff {p:Per} (h:PerV p) (t:Int):contB p t=true↔p.lo≤t∧t<p.hi:=by
 rw [contB_eq,(pv_iff p).2 h,Bool.true_and,Bool.and_eq_true,decide_eq_true_eq,decide_eq_true_eq]
theorem rowsAt_app (a b:List Fct) (t:Int):rowsAt (a++b) t=rowsAt a t++rowsAt b t:=by unfold rowsAt;rw [List.filter_append,List.map_append]
theorem rowsAt_len (l:List Fct) (t:Int):(rowsAt l t).length≤l.length:=by unfold rowsAt;rw [List.length_map];exact List.length_filter_le _ _
theorem rowsAt_mem {l:List Fct} {t:Int} {r:List Val} (h:r∈rowsAt l t) : ∃ f∈l,f.row=r:=by
 obtain ⟨f,hf,rfl⟩:=List.mem_map.1 h
 exact ⟨f,(List.mem_filter.1 hf).1,rfl⟩
theorem gContains1_cont (p:Per) (t:Int):gContains1 p t=some (contB p t):=by
 rw [gContains1_eq,contB_eq];rfl
theorem gAt22_eq (l:List Fct) (t:Int) (hn:l.length≤63) (hr : ∀ f∈l,f.row.length≤1000000):gAt22 l t=some (sortV (rowsAt l t)):=by
 unfold gAt22
 have e:(l.flatMap fun f=>if contB f.valid t=true then [f.row] else [])=rowsAt l t:=by
  unfold rowsAt
  induction l with
  | nil=>rfl
  | cons f l ih =>
   rw [List.flatMap_cons,ih (by simp at hn;omega) (fun g hg=>hr g (List.mem_cons_of_mem _ hg)),List.filter_cons]
   split<;>rfl
 have hl:(rowsAt l t).length≤l.length:=by unfold rowsAt;rw [List.length_map];exact List.length_filter_le _ _
 rw [loop_app (l:=l) (fun f=>if contB f.valid t=true then [f.row] else []) 5864062014805 ?_ ?_ (by unfold fuel;omega) [] (by rw [e];simp only [List.length_nil];omega)]
 ·rw [Option.bind_some,e,List.nil_append]
  unfold gAt22_K1
  dsimp only
  rw [gSortR_eq _ (by omega) (fun r hrr=>by
   unfold rowsAt at hrr
   obtain ⟨f,hf,rfl⟩:=List.mem_map.1 hrr
   exact hr f (List.mem_filter.1 hf).1)]
  rfl
 ·intro o i x hx ho
  have hi:=(List.getElem?_eq_some_iff.1 hx).1
  unfold gAt22_B1
  dsimp only
  rw [lt_dec hx,cond_true,gn_ hx]
  simp only [Option.bind_some]
  rw [gContains1_cont,Option.bind_some]
  by_cases hv:contB x.valid t=true
  ·rw [if_pos hv] at ho ⊢
   rw [hv,cond_true,show decide (o.length+1≤5864062014805)=true from decide_eq_true (by simpa using ho),cond_true,wrapN (by omega)]
  ·rw [if_neg hv]
   rw [Bool.not_eq_true] at hv
   rw [hv,cond_false,wrapN (by omega),List.append_nil]
 ·intro o
  unfold gAt22_B1
  dsimp only
  rw [lF_,cond_false]
theorem sortV_same {a b:List (List Val)} (h:a.Perm b):sortV a=sortV b :=
 asc_unique tCr_ (sortV_asc a) (sortV_asc b) ((sortV_perm a).trans (h.trans (sortV_perm b).symm))
theorem canon_at {l:List Fct} (hn:l.length≤300) (t:Int):(rowsAt (canon l) t).Perm (rowsAt l t):=bag_at (rowsL_of l) hn t
set_option maxHeartbeats 8000000
noncomputable section
def gLawMoves (a_r:Rln) (a_n:Int) (a_t:Int):Option (Bool):=(gFew23 a_r).bind fun r_1=>bif (!r_1) then some (true) else
 bif (decide (a_n<(-1099511627776:Int))) then some (true) else
 bif (decide ((1099511627776:Int)<a_n)) then some (true) else
 bif (decide (a_t<(0:Int))) then some (true) else
 bif (decide ((1099511627776:Int)≤a_t)) then some (true) else
 bif (decide ((IntKind.i64.wrap (a_t-a_n))<(0:Int))) then some (true) else
 bif (decide ((1099511627776:Int)≤(IntKind.i64.wrap (a_t-a_n)))) then some (true) else
 (gShiftP a_r a_n).bind fun r_16=>(gSnap r_16 a_t).bind fun r_17=>(gSnap a_r (IntKind.i64.wrap (a_t-a_n))).bind fun r_18=>(gExactly r_17 r_18).bind fun r_19=>bif r_19 then some (true) else
 some false
theorem gLawMoves_ok {a_r:Rln} {a_n:Int} {a_t:Int} {r:Bool} (H:gLawMoves a_r a_n a_t=some r):Pure Tryz.prog 9 [.agg (cRln a_r), .one (.int .i64 a_n), .one (.int .i64 a_t)] (.val (.one (.bool r))):=by
 unfold gLawMoves at H
 refine po_ Tryz.func9 Tryz.ntmps9 ?_
 obtain ⟨r_1,c1,H⟩:=bd_ H
 replace c1:=gFew23_ok c1
 rcases cnd_ H with ⟨q_2,H⟩|⟨q_2,H⟩
 ·have hc_3:=Aw.awake_pure
  try simp only [List.map_append,List.map_cons,List.map_nil,List.nil_append,tE_eq] at hc_3
  cases H
  exact go_
 rcases cnd_ H with ⟨q_4,H⟩|⟨q_4,H⟩
 ·have hc_5:=Aw.awake_pure
  try simp only [List.map_append,List.map_cons,List.map_nil,List.nil_append,tE_eq] at hc_5
  cases H
  exact go_
 rcases cnd_ H with ⟨q_6,H⟩|⟨q_6,H⟩
 ·have hc_7:=Aw.awake_pure
  try simp only [List.map_append,List.map_cons,List.map_nil,List.nil_append,tE_eq] at hc_7
  cases H
  exact go_
 rcases cnd_ H with ⟨q_8,H⟩|⟨q_8,H⟩
 ·have hc_9:=Aw.awake_pure
  try simp only [List.map_append,List.map_cons,List.map_nil,List.nil_append,tE_eq] at hc_9
  cases H
  exact go_
 rcases cnd_ H with ⟨q_10,H⟩|⟨q_10,H⟩
 ·have hc_11:=Aw.awake_pure
  try simp only [List.map_append,List.map_cons,List.map_nil,List.nil_append,tE_eq] at hc_11
  cases H
  exact go_
 rcases cnd_ H with ⟨q_12,H⟩|⟨q_12,H⟩
 ·have hc_13:=Aw.awake_pure
  try simp only [List.map_append,List.map_cons,List.map_nil,List.nil_append,tE_eq] at hc_13
  cases H
  exact go_
 rcases cnd_ H with ⟨q_14,H⟩|⟨q_14,H⟩
 ·have hc_15:=Aw.awake_pure
  try simp only [List.map_append,List.map_cons,List.map_nil,List.nil_append,tE_eq] at hc_15
  cases H
  exact go_
 obtain ⟨r_16,c2,H⟩:=bd_ H
 replace c2:=gShiftP_ok c2
 obtain ⟨r_17,c3,H⟩:=bd_ H
 replace c3:=gSnap_ok c3
 obtain ⟨r_18,c4,H⟩:=bd_ H
 replace c4:=gSnap_ok c4
 obtain ⟨r_19,c5,H⟩:=bd_ H
 replace c5:=gExactly_ok c5
 rcases cnd_ H with ⟨q_20,H⟩|⟨q_20,H⟩
 ·have hc_21:=Aw.awake_pure
  try simp only [List.map_append,List.map_cons,List.map_nil,List.nil_append,tE_eq] at hc_21
  cases H
  exact go_
 cases H
 exact go_
end
def shP (n:Int) (p:Per):Per :=
 let m:=max (-1099511627776) (min n 1099511627776)
 ⟨max 0 (p.lo+m),if p.hi<1099511627776 then min 1099511627776 (p.hi+m) else p.hi⟩
def shG (n:Int) (f:Fct):List Fct:=if (shP n f.valid).lo<(shP n f.valid).hi then [⟨f.row,shP n f.valid⟩] else []
theorem shG_len (n:Int) (f:Fct):(shG n f).length≤1:=by unfold shG;split<;>simp
theorem flat_le {α β:Type} (g:α→List β) (h : ∀ x,(g x).length≤1) : ∀ l:List α,(l.flatMap g).length≤l.length
 | []=>by simp
 | x::l=>by rw [List.flatMap_cons,List.length_append,List.length_cons];have:=flat_le g h l;have:=h x;omega
def shL (n:Int) (l:List Fct):List Fct:=l.flatMap (shG n)
theorem fcts_flat {l:List Fct} (h:FctsOK l) (g:Fct→List Fct) (h1 : ∀ f,(g f).length≤1) (h2 : ∀ f, ∀ x∈g f,x.row=f.row):FctsOK (l.flatMap g):=by
 refine ⟨Nat.le_trans (flat_le g h1 l) h.1,fun f hf=>?_⟩
 obtain ⟨x,hx,hf⟩:=List.mem_flatMap.1 hf
 rw [h2 x f hf];exact h.2 x hx
theorem shG_row (n:Int) (f x:Fct) (h:x∈shG n f):x.row=f.row:=by
 unfold shG at h
 split at h
 ·rw [List.mem_singleton.1 h]
 ·cases h
theorem fcts_sh {l:List Fct} (h:FctsOK l) (n:Int):FctsOK (shL n l):=fcts_flat h _ (shG_len n) (fun f x hx=>shG_row n f x hx)
theorem gMoved_eq {at_ n:Int} (ha:0≤at_∧at_≤1099511627776) (hn:IOk n):gMoved at_ n=some (if n < -1099511627776 then 0 else if 1099511627776<n then 1099511627776 else min (max (at_+n) 0) 1099511627776):=by
 unfold gMoved
 by_cases h1:n < -1099511627776
 ·rw [decide_eq_true h1,cond_true,if_pos h1]
 ·rw [decide_eq_false h1,cond_false,if_neg h1]
  by_cases h2:1099511627776<n
  ·rw [decide_eq_true h2,cond_true,if_pos h2]
  ·rw [decide_eq_false h2,cond_false,if_neg h2,wrap_in (by omega)]
   congr 1
   unfold mnI mxI
   split<;>split<;>omega
theorem shiftP_body {r:Rln} {n:Int} (hn:IOk n) (hl:r.facts.length≤1000) {s:List Fct} {i:Nat} {x:Fct} (hx:r.facts[i]?=some x) (hp:pvalB x.valid=true) (hs:s.length+(shG n x).length≤3518437208883):gShiftP_B1 r n (s,(i:Int))=some (.next (s++shG n x,((i+1:Nat):Int))):=by
 have hi:=(List.getElem?_eq_some_iff.1 hx).1
 obtain ⟨q1,q2,q3⟩:=pval_facts hp
 unfold gShiftP_B1
 dsimp only
 rw [lt_dec hx,cond_true,gn_ hx,Option.bind_some,gMoved_eq (by omega) hn,Option.bind_some,wrapN (by omega),gMoved_eq (at_:=x.valid.hi) (by omega) hn]
 have hm : ∀ a b:Int,pvalB ⟨a,b⟩=decide (0≤a∧a<b∧b≤1099511627776):=by
  intro a b
  rw [Bool.eq_iff_iff,decide_eq_true_eq]
  unfold pvalB
  simp only [Bool.and_eq_true,decide_eq_true_eq]
  constructor<;>intro h<;>omega
 have fin : ∀ (c:Bool) (a b:Int),(c=decide ((shP n x.valid).lo<(shP n x.valid).hi))→(c=true→a=(shP n x.valid).lo∧b=(shP n x.valid).hi) →
   (bif c then (bif decide (s.length+1≤3518437208883) then some (Step.next (s++[(⟨x.row,⟨a,b⟩⟩:Fct)],((i+1:Nat):Int))) else none) else some (Step.next (s,((i+1:Nat):Int))))=some ((.next (s++shG n x,((i+1:Nat):Int))):Step (List Fct × Int) Rln):=by
  intro c a b h1 h2
  unfold shG at hs ⊢
  by_cases hc:(shP n x.valid).lo<(shP n x.valid).hi
  ·rw [if_pos hc] at hs ⊢
   have:c=true:=by rw [h1];exact decide_eq_true hc
   obtain ⟨rfl,rfl⟩:=h2 this
   rw [this,cond_true,decide_eq_true (show s.length+1≤3518437208883 from hs),cond_true]
  ·rw [if_neg hc,List.append_nil]
   have:c=false:=by rw [h1];exact decide_eq_false hc
   rw [this,cond_false]
 by_cases hF:x.valid.hi<1099511627776
 ·rw [decide_eq_true hF,cond_true,Option.bind_some,gPV_eq,Option.bind_some,hm]
  refine fin _ _ _ ?_ ?_
  ·rw [Bool.eq_iff_iff,decide_eq_true_eq,decide_eq_true_eq]
   unfold shP
   dsimp only
   rw [if_pos hF]
   split
   ·omega
   ·split<;>omega
  ·intro h
   have h:=of_decide_eq_true h
   unfold shP
   dsimp only
   rw [if_pos hF]
   split at h
   ·omega
   ·split at h
    ·omega
    ·rename_i h1 h2
     rw [if_neg h1,if_neg h2,if_neg h1,if_neg h2]
     omega
 ·rw [decide_eq_false hF,cond_false,gPV_eq,Option.bind_some,hm]
  refine fin _ _ _ ?_ ?_
  ·rw [Bool.eq_iff_iff,decide_eq_true_eq,decide_eq_true_eq]
   unfold shP
   dsimp only
   rw [if_neg hF]
   split
   ·omega
   ·split<;>omega
  ·intro h
   have h:=of_decide_eq_true h
   unfold shP
   dsimp only
   rw [if_neg hF]
   split at h
   ·rename_i h1
    rw [if_pos h1];omega
   ·split at h
    ·omega
    ·rename_i h1 h2
     rw [if_neg h1,if_neg h2]
     omega
theorem gShiftP_eq {r:Rln} {n:Int} (hn:IOk n) (H:RlnOK r):gShiftP r n=some ⟨r.kinds,canon (shL n r.facts)⟩:=by
 have hl:=H.len
 unfold gShiftP
 rw [loop_app (l:=r.facts) (shG n) 3518437208883 (fun s i x hx hs=>shiftP_body hn (by omega) hx (H.per x (List.mem_of_getElem? hx)) hs) ?_ (by unfold fuel;omega) [] (by have:=flat_le (shG n) (shG_len n) r.facts;simp only [List.length_nil];omega)]
 ·rw [Option.bind_some,List.nil_append]
  unfold gShiftP_K1
  dsimp only
  rw [show List.flatMap (shG n) r.facts=shL n r.facts from rfl,gRelation_canon (k:=r.kinds) (by have:=H.kinds;omega) (fcts_sh H.fcts n)];rfl
 ·intro s
  unfold gShiftP_B1
  dsimp only
  rw [lF_,cond_false]
theorem gSnap_eq {r:Rln} {t:Int} (h:FctsOK r.facts):gSnap r t=some ⟨r.kinds,sortV (rowsAt r.facts t)⟩:=by
 unfold gSnap
 rw [gAt22_eq _ _ (by have:=h.1;omega) (fcts_rows h)];rfl
theorem sort_rows {l:List Fct} {t:Int} (h:FctsOK l):(sortV (rowsAt l t)).length≤1000000 ∧ ∀ x∈sortV (rowsAt l t),x.length≤1000000:=by
 refine ⟨?_,fun x hx=>?_⟩
 ·rw [(sortV_perm _).length_eq];have:=rowsAt_len l t;have:=h.1;omega
 ·obtain ⟨f,hf,rfl⟩:=rowsAt_mem ((sortV_perm _).subset hx)
  exact fcts_rows h f hf
theorem rowsAt_sh {n t:Int} (hn : -1099511627776≤n∧n≤1099511627776) (ht:0≤t∧t<1099511627776) (hs:0≤t-n∧t-n<1099511627776) : ∀ l:List Fct,(∀ f∈l,pvalB f.valid=true)→rowsAt (shL n l) t=rowsAt l (t-n)
 | [],_=>rfl
 | f::l,h=>by
  have ih:=rowsAt_sh hn ht hs l (fun g hg=>h g (by simp [hg]))
  have hp:=h f (by simp)
  obtain ⟨q1,q2,q3⟩:=pval_facts hp
  have hV:PerV f.valid:=⟨q1,q2,q3⟩
  show rowsAt (shG n f++shL n l) t=_
  rw [rowsAt_app,ih]
  have hc:rowsAt (shG n f) t=if contB f.valid (t-n)=true then [f.row] else []:=by
   unfold shG
   have hsp:shP n f.valid=⟨max 0 (f.valid.lo+n),if f.valid.hi<1099511627776 then min 1099511627776 (f.valid.hi+n) else f.valid.hi⟩:=by
    unfold shP
    dsimp only
    rw [show max (-1099511627776) (min n 1099511627776)=n by omega]
   have hcF:contB f.valid (t-n)=true↔f.valid.lo≤t-n∧t-n<f.valid.hi:=cont_iff hV _
   by_cases hc:(shP n f.valid).lo<(shP n f.valid).hi
   ·rw [if_pos hc]
    have hV2:PerV (shP n f.valid):=by
     refine ⟨?_,hc,?_⟩
     ·rw [hsp];show 0≤max 0 (f.valid.lo+n);omega
     ·rw [hsp];show (if f.valid.hi<1099511627776 then min 1099511627776 (f.valid.hi+n) else f.valid.hi)≤_
      split<;>omega
    have hcS:contB (shP n f.valid) t=true↔(shP n f.valid).lo≤t∧t<(shP n f.valid).hi:=cont_iff hV2 _
    have hiff:contB (shP n f.valid) t=true↔contB f.valid (t-n)=true:=by
     rw [hcS,hcF,hsp]
     dsimp only
     split<;>omega
    unfold rowsAt
    by_cases h2:contB f.valid (t-n)=true
    ·rw [if_pos h2,List.filter_cons,if_pos (hiff.2 h2)];rfl
    ·rw [if_neg h2,List.filter_cons,if_neg (fun e=>h2 (hiff.1 e))];rfl
   ·rw [if_neg hc]
    have : ¬ contB f.valid (t-n)=true:=by
     rw [hcF]
     rw [hsp] at hc
     dsimp only at hc
     split at hc<;>omega
    rw [if_neg this];rfl
  rw [hc]
  unfold rowsAt
  rw [List.filter_cons]
  by_cases h2:contB f.valid (t-n)=true
  ·rw [if_pos h2,if_pos h2];rfl
  ·rw [if_neg h2,if_neg h2];rfl
theorem gLawMoves_true (r:Rln) (n t:Int) (hn:IOk n) (ht:IOk t):gLawMoves r n t=some true:=by
 obtain ⟨b,hb,hok⟩:=gFew23_sem r
 unfold gLawMoves
 rw [hb,Option.bind_some]
 cases b with
 | false=>rfl
 | true =>
  have H:=hok rfl
  rw [Bool.not_true,cond_false]
  by_cases h1:n < -1099511627776
  ·rw [decide_eq_true h1];rfl
  rw [decide_eq_false h1,cond_false]
  by_cases h2:1099511627776<n
  ·rw [decide_eq_true h2];rfl
  rw [decide_eq_false h2,cond_false]
  by_cases h3:t<0
  ·rw [decide_eq_true h3];rfl
  rw [decide_eq_false h3,cond_false]
  by_cases h4:1099511627776≤t
  ·rw [decide_eq_true h4];rfl
  rw [decide_eq_false h4,cond_false,wrap_in (by omega)]
  by_cases h5:t-n<0
  ·rw [decide_eq_true h5];rfl
  rw [decide_eq_false h5,cond_false]
  by_cases h6:1099511627776≤t-n
  ·rw [decide_eq_true h6];rfl
  rw [decide_eq_false h6,cond_false,gShiftP_eq hn H,Option.bind_some,gSnap_eq (fcts_canon (fcts_sh H.fcts n)),Option.bind_some,gSnap_eq H.fcts,Option.bind_some]
  dsimp only
  have hS:(shL n r.facts).length≤300:=by have:=(fcts_sh H.fcts n).1;omega
  rw [sortV_same (canon_at hS t),rowsAt_sh (by omega) (by omega) (by omega) r.facts H.per,gExactly_refl _ (by have:=H.kinds;dsimp only;omega) (sort_rows H.fcts).1 (sort_rows H.fcts).2];rfl
theorem projectMoves_pure {r:Rln} {n:Int} {t:Int} (q0:okRln r) (q1:IOk n) (q2:IOk t):Pure Tryz.prog 9 [.agg (cRln r), .one (.int .i64 n), .one (.int .i64 t)] (.val (.one (.bool true))):=gLawMoves_ok (gLawMoves_true r n t q1 q2)
end Go.Proofs.YtfccopdbgfdcdaaGreatDoor
