/- Parts of the proof, joined. No condition. -/
import Derived.Test.YtlcceppoloaecaaGreatDoorKAA
import Derived.Test.YtlcceppoloaecaaGreatDoorKBR
set_option linter.unusedSimpArgs false
set_option linter.unusedVariables false
namespace Go.Proofs.YtlcceppoloaecaaGreatDoor
open Go.RowKit Go.MapKept
set_option maxRecDepth 100000
set_option maxHeartbeats 8000000
noncomputable section
def acF (a_p:aP) (a_q:aP):Option (Bool):=(dX a_p).bind fun r_1=>bif r_1 then (dX a_q).bind fun r_3=>bif r_3 then bif (decide (a_p.lo<a_q.hi)) then some (decide (a_q.lo<a_p.hi)) else
 some false else
 some false else
 some false
theorem ahK {a_p:aP} {a_q:aP} {r:Bool} (H:acF a_p a_q=some r):Pure Tryz.prog 44 [.agg (bv a_p), .agg (bv a_q)] (.val (.one (.bool r))):=by
 unfold acF at H
 refine po_ Tryz.func44 Tryz.ntmps44 ?_
 obtain ⟨r_1,c1,H⟩:=bd_ H
 replace c1:=fC c1
 rcases af H with ⟨q_2,H⟩|⟨q_2,H⟩
 ·obtain ⟨r_3,c2,H⟩:=bd_ H
  replace c2:=fC c2
  rcases af H with ⟨q_4,H⟩|⟨q_4,H⟩
  ·rcases af H with ⟨q_5,H⟩|⟨q_5,H⟩
   ·cases H
    exact aK
   cases H
   exact aK
  cases H
  exact aK
 cases H
 exact aK
def GV (a_p:aP) (a_q:aP):Option (aP × Bool):=(acF a_p a_q).bind fun r_1=>bif (!r_1) then some ((⟨(0:Int),(0:Int)⟩:aP),false) else
 some ((⟨(PW a_p.lo a_q.lo),(mnI a_p.hi a_q.hi)⟩:aP),true)
theorem Qm {a_p:aP} {a_q:aP} {r:aP × Bool} (H:GV a_p a_q=some r):Pure Tryz.prog 95 [.agg (bv a_p), .agg (bv a_q)] (.tup [.agg (bv r.1), .one (.bool r.2)]):=by
 unfold GV at H
 refine po_ Tryz.func95 Tryz.ntmps95 ?_
 obtain ⟨r_1,c1,H⟩:=bd_ H
 replace c1:=ahK c1
 rcases af H with ⟨q_2,H⟩|⟨q_2,H⟩
 ·cases H
  exact aK
 cases H
 exact aK
def mU (a_l:(List aP)) (a_t:Int):(Int)->Option (Step (Int) (Bool)):=fun s=>match s with
 | i_1=>bif (decide (i_1<((a_l.length:Nat):Int))) then (aT a_l i_1).bind fun x_3=>(mE x_3 a_t).bind fun r_4=>bif r_4 then some (.ret true) else
 some (.next (IntKind.i64.wrap (i_1+(1:Int)))) else
 some (.exit i_1)
def ol:Sum (Int) (Bool)->Option ((Bool))
 | .inl i_1=>some false
 | .inr q=>some q
def abm (a_l:(List aP)) (a_t:Int):Option (Bool):=(az (mU a_l a_t) fuel (0:Int)).bind (ol)
theorem Ti {a_l:(List aP)} {a_t:Int} {r:Bool} (H:abm a_l a_t=some r):Pure Tryz.prog 159 [.one (.lst (a_l.map bv)), .one (.int .i64 a_t)] (.val (.one (.bool r))):=by
 unfold abm at H
 refine po_ Tryz.func159 Tryz.ntmps159 ?_
 refine bz ?_
 refine alM_ (fun s:Int=>match s with|i_1=>[(0, .one (.c (.lst (a_l.map bv)))),(1, .one (.c (.int .i64 a_t))),(5, .one (.c (.int .i64 i_1)))]) (fun s=>match s with|i_1=>[]) H (fun _=>aqj _)
  (fm_ bY [] rfl bA trivial) ?_
 rintro i_1 st1 hb1 hk1
 unfold mU at hb1
 dsimp only at hb1 ⊢
 rcases af hb1 with ⟨q_2,hb1⟩|⟨q_2,hb1⟩
 ·obtain ⟨x_3,i1z,i1,i1x,hb1⟩:=bn (f:=bv) hb1
  obtain ⟨r_4,c2,hb1⟩:=bd_ hb1
  replace c2:=Ec c2
  rcases af hb1 with ⟨q_5,hb1⟩|⟨q_5,hb1⟩
  ·cases hb1
   have hx1:ol (.inr true)=some _:=hk1
   unfold ol at hx1
   dsimp only at hx1
   cases hx1
   exact aK
  cases hb1
  refine bz ?_
  exact ⟨_,rfl,fm_ bY [] rfl bA trivial⟩
 cases hb1
 have hx1:ol (.inl i_1)=some _:=hk1
 unfold ol at hx1
 dsimp only at hx1
 cases hx1
 exact aK
def Pf (a_kind:Int) (a_a:Bool) (a_b:Bool):Option (Bool):=bif (decide (a_kind=(1:Int))) then bif a_a then some a_b else
 some false else
 bif (decide (a_kind=(2:Int))) then bif a_a then some true else
 some a_b else
 bif (decide (a_kind=(3:Int))) then bif a_a then some (!a_b) else
 some false else
 bif (!a_a) then some (!a_b) else
 some false
theorem afl {a_kind:Int} {a_a:Bool} {a_b:Bool} {r:Bool} (H:Pf a_kind a_a a_b=some r):Pure Tryz.prog 158 [.one (.int .i64 a_kind), .one (.bool a_a), .one (.bool a_b)] (.val (.one (.bool r))):=by
 unfold Pf at H
 refine po_ Tryz.func158 Tryz.ntmps158 ?_
 rcases af H with ⟨q_1,H⟩|⟨q_1,H⟩
 ·rcases af H with ⟨q_2,H⟩|⟨q_2,H⟩
  ·cases H
   exact aK
  cases H
  exact aK
 rcases af H with ⟨q_3,H⟩|⟨q_3,H⟩
 ·rcases af H with ⟨q_4,H⟩|⟨q_4,H⟩
  ·cases H
   exact aK
  cases H
  exact aK
 rcases af H with ⟨q_5,H⟩|⟨q_5,H⟩
 ·rcases af H with ⟨q_6,H⟩|⟨q_6,H⟩
  ·cases H
   exact aK
  cases H
  exact aK
 rcases af H with ⟨q_7,H⟩|⟨q_7,H⟩
 ·cases H
  exact aK
 cases H
 exact aK
def ji (a_l:(List Int)):((List Int) × Int)->Option (Step ((List Int) × Int) ((List Int))):=fun s=>match s with
 | (out_7,i_8)=>bif (decide (i_8<((a_l.length:Nat):Int))) then (aT a_l i_8).bind fun x_10=>bif (decide (out_7.length+1<=17592186044416)) then (some (.next ((out_7++[x_10]),(IntKind.i64.wrap (i_8+(1:Int)))))) else none else
 some (.exit (out_7,i_8))
def AQ:Sum ((List Int) × Int) ((List Int))->Option (((List Int)))
 | .inl (out_7,i_8)=>some out_7
 | .inr q=>some q
def F6 (a_l:(List Int)):((List Int) × Int)->Option (Step ((List Int) × Int) ((List Int))):=fun s=>match s with
 | (out_13,i_14)=>bif (decide (i_14<((a_l.length:Nat):Int))) then (aT a_l i_14).bind fun x_16=>bif (decide (out_13.length+1<=17592186044416)) then (some (.next ((out_13++[x_16]),(IntKind.i64.wrap (i_14+(1:Int)))))) else none else
 some (.exit (out_13,i_14))
def BV:Sum ((List Int) × Int) ((List Int))->Option (((List Int)))
 | .inl (out_13,i_14)=>some out_13
 | .inr q=>some q
def Ga (a_l:(List Int)):((List Int) × Int)->Option (Step ((List Int) × Int) ((List Int))):=fun s=>match s with
 | (out_17,i_18)=>bif (decide (i_18<((a_l.length:Nat):Int))) then (aT a_l i_18).bind fun x_20=>bif (decide (out_17.length+1<=17592186044416)) then (some (.next ((out_17++[x_20]),(IntKind.i64.wrap (i_18+(1:Int)))))) else none else
 some (.exit (out_17,i_18))
def Bi:Sum ((List Int) × Int) ((List Int))->Option (((List Int)))
 | .inl (out_17,i_18)=>some out_17
 | .inr q=>some q
def rW (a_l:(List Int)) (a_n:Int):((List Int) × Int)->Option (Step ((List Int) × Int) ((List Int))):=fun s=>match s with
 | (out_1,i_2)=>bif (decide (i_2<((a_l.length:Nat):Int))) then (aT a_l i_2).bind fun x_4=>bif (decide (x_4<a_n)) then bif (decide (out_1.length+1<=17592186044416)) then (some (.next ((out_1++[x_4]),(IntKind.i64.wrap (i_2+(1:Int)))))) else none else
 some (.exit (out_1,i_2)) else
 some (.exit (out_1,i_2))
def uj (a_l:(List Int)) (a_n:Int):Sum ((List Int) × Int) ((List Int))->Option (((List Int)))
 | .inl (out_1,i_2)=>bif (decide (i_2=((a_l.length:Nat):Int))) then bif (decide (out_1.length+1<=17592186044416)) then ((az (ji a_l) fuel ((out_1++[a_n]),i_2)).bind (AQ)) else none else
 (aT a_l i_2).bind fun x_11=>bif (decide (a_n<x_11)) then bif (decide (out_1.length+1<=17592186044416)) then ((az (F6 a_l) fuel ((out_1++[a_n]),i_2)).bind (BV)) else none else
 (az (Ga a_l) fuel (out_1,i_2)).bind (Bi)
 | .inr q=>some q
def RS (a_l:(List Int)) (a_n:Int):Option ((List Int)):=(az (rW a_l a_n) fuel ([],(0:Int))).bind (uj a_l a_n)
theorem Yk {a_l:(List Int)} {a_n:Int} {r:(List Int)} (H:RS a_l a_n=some r):Pure Tryz.prog 214 [.one (.lst (a_l.map (fun x=>[AC.int .i64 x]))), .one (.int .i64 a_n)] (.val (.one (.lst (r.map (fun x=>[AC.int .i64 x]))))):=by
 unfold RS at H
 refine po_ Tryz.func214 Tryz.ntmps214 ?_
 refine bz ?_
 refine dC 5 1 rfl ?_
 refine alM_ (fun s:(List Int) × Int=>match s with|(out_1,i_2)=>[(0, .one (.c (.lst (a_l.map (fun x=>[AC.int .i64 x]))))),(1, .one (.c (.int .i64 a_n))),(5, .one (.own (out_1.map (fun x=>[AC.int .i64 x])) 0)),(6, .one (.c (.int .i64 i_2)))]) (fun s=>match s with|(out_1,i_2)=>[.spare out_1.length 1]) H (fun _=>aqj _)
  (fm_ bY [] rfl bA cz) ?_
 rintro ⟨out_1,i_2⟩ st1 hb1 hk1
 unfold rW at hb1
 dsimp only at hb1 ⊢
 rcases af hb1 with ⟨q_3,hb1⟩|⟨q_3,hb1⟩
 ·obtain ⟨x_4,i1z,i1,i1x,hb1⟩:=bn (f:=(fun x=>[AC.int .i64 x])) hb1
  rcases af hb1 with ⟨q_5,hb1⟩|⟨q_5,hb1⟩
  ·obtain ⟨g2,hb1⟩:=aS hb1
   cases hb1
   refine bz ?_
   exact ⟨_,rfl,fm_ jD [] iR bA cz⟩
  cases hb1
  have hx1:uj a_l a_n (.inl (out_1,i_2))=some _:=hk1
  unfold uj at hx1
  dsimp only at hx1
  rcases af hx1 with ⟨q_6,hx1⟩|⟨q_6,hx1⟩
  ·obtain ⟨g3,hx1⟩:=aS hx1
   refine bz ?_
   refine alM_ (fun s:(List Int) × Int=>match s with|(out_7,i_8)=>[(0, .one (.c (.lst (a_l.map (fun x=>[AC.int .i64 x]))))),(5, .one (.own (out_7.map (fun x=>[AC.int .i64 x])) 0)),(6, .one (.c (.int .i64 i_8)))]) (fun s=>match s with|(out_7,i_8)=>[.spare out_7.length 1]) hx1 (fun _=>aqj _)
    (fm_ ⟨rfl,ry (by rw [aqb];rfl),rfl,trivial⟩ [] (by simp) bA cz) ?_
   rintro ⟨out_7,i_8⟩ st2 hb2 hk2
   unfold ji at hb2
   dsimp only at hb2 ⊢
   rcases af hb2 with ⟨q_9,hb2⟩|⟨q_9,hb2⟩
   ·obtain ⟨x_10,i4z,i4,i4x,hb2⟩:=bn (f:=(fun x=>[AC.int .i64 x])) hb2
    obtain ⟨g5,hb2⟩:=aS hb2
    cases hb2
    refine bz ?_
    exact ⟨_,rfl,fm_ jD [] iR bA cz⟩
   cases hb2
   have hx2:AQ (.inl (out_7,i_8))=some _:=hk2
   unfold AQ at hx2
   dsimp only at hx2
   cases hx2
   exact aK
  obtain ⟨x_11,i6z,i6,i6x,hx1⟩:=bn (f:=(fun x=>[AC.int .i64 x])) hx1
  cases aqw (i1.symm.trans i6)
  rcases af hx1 with ⟨q_12,hx1⟩|⟨q_12,hx1⟩
  ·obtain ⟨g7,hx1⟩:=aS hx1
   refine bz ?_
   refine alM_ (fun s:(List Int) × Int=>match s with|(out_13,i_14)=>[(0, .one (.c (.lst (a_l.map (fun x=>[AC.int .i64 x]))))),(5, .one (.own (out_13.map (fun x=>[AC.int .i64 x])) 0)),(6, .one (.c (.int .i64 i_14)))]) (fun s=>match s with|(out_13,i_14)=>[.spare out_13.length 1]) hx1 (fun _=>aqj _)
    (fm_ ⟨rfl,ry (by rw [aqb];rfl),rfl,trivial⟩ [] (by simp) bA cz) ?_
   rintro ⟨out_13,i_14⟩ st3 hb3 hk3
   unfold F6 at hb3
   dsimp only at hb3 ⊢
   rcases af hb3 with ⟨q_15,hb3⟩|⟨q_15,hb3⟩
   ·obtain ⟨x_16,i8z,i8,i8x,hb3⟩:=bn (f:=(fun x=>[AC.int .i64 x])) hb3
    obtain ⟨g9,hb3⟩:=aS hb3
    cases hb3
    refine bz ?_
    exact ⟨_,rfl,fm_ jD [] iR bA cz⟩
   cases hb3
   have hx3:BV (.inl (out_13,i_14))=some _:=hk3
   unfold BV at hx3
   dsimp only at hx3
   cases hx3
   exact aK
  refine bz ?_
  refine alM_ (fun s:(List Int) × Int=>match s with|(out_17,i_18)=>[(0, .one (.c (.lst (a_l.map (fun x=>[AC.int .i64 x]))))),(5, .one (.own (out_17.map (fun x=>[AC.int .i64 x])) 0)),(6, .one (.c (.int .i64 i_18)))]) (fun s=>match s with|(out_17,i_18)=>[.spare out_17.length 1]) hx1 (fun _=>aqj _)
   (fm_ bY [] rfl bA cz) ?_
  rintro ⟨out_17,i_18⟩ st4 hb4 hk4
  unfold Ga at hb4
  dsimp only at hb4 ⊢
  rcases af hb4 with ⟨q_19,hb4⟩|⟨q_19,hb4⟩
  ·obtain ⟨x_20,i10z,i10,i10x,hb4⟩:=bn (f:=(fun x=>[AC.int .i64 x])) hb4
   obtain ⟨g11,hb4⟩:=aS hb4
   cases hb4
   refine bz ?_
   exact ⟨_,rfl,fm_ jD [] iR bA cz⟩
  cases hb4
  have hx4:Bi (.inl (out_17,i_18))=some _:=hk4
  unfold Bi at hx4
  dsimp only at hx4
  cases hx4
  exact aK
 cases hb1
 have hx1:uj a_l a_n (.inl (out_1,i_2))=some _:=hk1
 unfold uj at hx1
 dsimp only at hx1
 rcases af hx1 with ⟨q_6,hx1⟩|⟨q_6,hx1⟩
 ·obtain ⟨g12,hx1⟩:=aS hx1
  refine bz ?_
  refine alM_ (fun s:(List Int) × Int=>match s with|(out_7,i_8)=>[(0, .one (.c (.lst (a_l.map (fun x=>[AC.int .i64 x]))))),(5, .one (.own (out_7.map (fun x=>[AC.int .i64 x])) 0)),(6, .one (.c (.int .i64 i_8)))]) (fun s=>match s with|(out_7,i_8)=>[.spare out_7.length 1]) hx1 (fun _=>aqj _)
   (fm_ ⟨rfl,ry (by rw [aqb];rfl),rfl,trivial⟩ [] (by simp) bA cz) ?_
  rintro ⟨out_7,i_8⟩ st2 hb2 hk2
  unfold ji at hb2
  dsimp only at hb2 ⊢
  rcases af hb2 with ⟨q_9,hb2⟩|⟨q_9,hb2⟩
  ·obtain ⟨x_10,i13z,i13,i13x,hb2⟩:=bn (f:=(fun x=>[AC.int .i64 x])) hb2
   obtain ⟨g14,hb2⟩:=aS hb2
   cases hb2
   refine bz ?_
   exact ⟨_,rfl,fm_ jD [] iR bA cz⟩
  cases hb2
  have hx2:AQ (.inl (out_7,i_8))=some _:=hk2
  unfold AQ at hx2
  dsimp only at hx2
  cases hx2
  exact aK
 obtain ⟨x_11,i15z,i15,i15x,hx1⟩:=bn (f:=(fun x=>[AC.int .i64 x])) hx1
 rcases af hx1 with ⟨q_12,hx1⟩|⟨q_12,hx1⟩
 ·obtain ⟨g16,hx1⟩:=aS hx1
  refine bz ?_
  refine alM_ (fun s:(List Int) × Int=>match s with|(out_13,i_14)=>[(0, .one (.c (.lst (a_l.map (fun x=>[AC.int .i64 x]))))),(5, .one (.own (out_13.map (fun x=>[AC.int .i64 x])) 0)),(6, .one (.c (.int .i64 i_14)))]) (fun s=>match s with|(out_13,i_14)=>[.spare out_13.length 1]) hx1 (fun _=>aqj _)
   (fm_ ⟨rfl,ry (by rw [aqb];rfl),rfl,trivial⟩ [] (by simp) bA cz) ?_
  rintro ⟨out_13,i_14⟩ st3 hb3 hk3
  unfold F6 at hb3
  dsimp only at hb3 ⊢
  rcases af hb3 with ⟨q_15,hb3⟩|⟨q_15,hb3⟩
  ·obtain ⟨x_16,i17z,i17,i17x,hb3⟩:=bn (f:=(fun x=>[AC.int .i64 x])) hb3
   obtain ⟨g18,hb3⟩:=aS hb3
   cases hb3
   refine bz ?_
   exact ⟨_,rfl,fm_ jD [] iR bA cz⟩
  cases hb3
  have hx3:BV (.inl (out_13,i_14))=some _:=hk3
  unfold BV at hx3
  dsimp only at hx3
  cases hx3
  exact aK
 refine bz ?_
 refine alM_ (fun s:(List Int) × Int=>match s with|(out_17,i_18)=>[(0, .one (.c (.lst (a_l.map (fun x=>[AC.int .i64 x]))))),(5, .one (.own (out_17.map (fun x=>[AC.int .i64 x])) 0)),(6, .one (.c (.int .i64 i_18)))]) (fun s=>match s with|(out_17,i_18)=>[.spare out_17.length 1]) hx1 (fun _=>aqj _)
  (fm_ bY [] rfl bA cz) ?_
 rintro ⟨out_17,i_18⟩ st4 hb4 hk4
 unfold Ga at hb4
 dsimp only at hb4 ⊢
 rcases af hb4 with ⟨q_19,hb4⟩|⟨q_19,hb4⟩
 ·obtain ⟨x_20,i19z,i19,i19x,hb4⟩:=bn (f:=(fun x=>[AC.int .i64 x])) hb4
  obtain ⟨g20,hb4⟩:=aS hb4
  cases hb4
  refine bz ?_
  exact ⟨_,rfl,fm_ jD [] iR bA cz⟩
 cases hb4
 have hx4:Bi (.inl (out_17,i_18))=some _:=hk4
 unfold Bi at hx4
 dsimp only at hx4
 cases hx4
 exact aK
def tC (a_l:(List aP)):((List Int) × Int)->Option (Step ((List Int) × Int) ((List Int))):=fun s=>match s with
 | (out_1,i_2)=>bif (decide (i_2<((a_l.length:Nat):Int))) then (aT a_l i_2).bind fun x_4=>(dX x_4).bind fun r_5=>bif r_5 then (RS out_1 x_4.lo).bind fun r_7=>(RS r_7 x_4.hi).bind fun r_8=>some (.next (r_8,(IntKind.i64.wrap (i_2+(1:Int))))) else
 some (.next (out_1,(IntKind.i64.wrap (i_2+(1:Int))))) else
 some (.exit (out_1,i_2))
def Ht:Sum ((List Int) × Int) ((List Int))->Option (((List Int)))
 | .inl (out_1,i_2)=>some out_1
 | .inr q=>some q
def ahY (a_l:(List aP)):Option ((List Int)):=(az (tC a_l) fuel ([],(0:Int))).bind (Ht)
theorem ahd {a_l:(List aP)} {r:(List Int)} (H:ahY a_l=some r):Pure Tryz.prog 157 [.one (.lst (a_l.map bv))] (.val (.one (.lst (r.map (fun x=>[AC.int .i64 x]))))):=by
 unfold ahY at H
 refine po_ Tryz.func157 Tryz.ntmps157 ?_
 refine bz ?_
 refine aiX 3 rfl rfl ?_
 refine alM_ (fun s:(List Int) × Int=>match s with|(out_1,i_2)=>[(0, .one (.c (.lst (a_l.map bv)))),(3, .one (.c (.lst (out_1.map (fun x=>[AC.int .i64 x]))))),(4, .one (.c (.int .i64 i_2)))]) (fun s=>match s with|(out_1,i_2)=>[]) H (fun _=>aqj _)
  (fm_ bY [] rfl bA trivial) ?_
 rintro ⟨out_1,i_2⟩ st1 hb1 hk1
 unfold tC at hb1
 dsimp only at hb1 ⊢
 rcases af hb1 with ⟨q_3,hb1⟩|⟨q_3,hb1⟩
 ·obtain ⟨x_4,i1z,i1,i1x,hb1⟩:=bn (f:=bv) hb1
  obtain ⟨r_5,c2,hb1⟩:=bd_ hb1
  replace c2:=fC c2
  rcases af hb1 with ⟨q_6,hb1⟩|⟨q_6,hb1⟩
  ·obtain ⟨r_7,c3,hb1⟩:=bd_ hb1
   replace c3:=Yk c3
   obtain ⟨r_8,c4,hb1⟩:=bd_ hb1
   replace c4:=Yk c4
   cases hb1
   refine bz ?_
   exact ⟨_,rfl,fm_ jD [] rfl bA trivial⟩
  cases hb1
  refine bz ?_
  exact ⟨_,rfl,fm_ jD [] rfl bA trivial⟩
 cases hb1
 have hx1:Ht (.inl (out_1,i_2))=some _:=hk1
 unfold Ht at hx1
 dsimp only at hx1
 cases hx1
 exact aK
end
end Go.Proofs.YtlcceppoloaecaaGreatDoor
