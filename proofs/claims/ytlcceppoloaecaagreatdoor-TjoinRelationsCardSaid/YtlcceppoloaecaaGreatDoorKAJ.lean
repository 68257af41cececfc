/- Parts of the proof, joined. No condition. -/
import Derived.Test.YtlcceppoloaecaaGreatDoorKAA
import Derived.Test.YtlcceppoloaecaaGreatDoorKAI
import Derived.Test.YtlcceppoloaecaaGreatDoorKAH
set_option linter.unusedSimpArgs false
set_option linter.unusedVariables false
namespace Go.Proofs.YtlcceppoloaecaaGreatDoor
open Go.RowKit Go.MapKept
set_option maxRecDepth 100000
set_option maxHeartbeats 8000000
noncomputable section
def J_ (a_p:bD) (a_q:bD):Option (Bool):=(dM a_p).bind fun r_1=>bif r_1 then (dM a_q).bind fun r_3=>bif r_3 then bif (decide (a_p.lo<a_q.hi)) then some (decide (a_q.lo<a_p.hi)) else
 some false else
 some false else
 some false
theorem M9 {a_p:bD} {a_q:bD} {r:Bool} (H:J_ a_p a_q=some r):Pure Tryz.prog 44 [.agg (gm a_p), .agg (gm a_q)] (.val (.one (.bool r))):=by
 unfold J_ at H
 refine po_ Tryz.func44 Tryz.ntmps44 ?_
 obtain ⟨r_1,c1,H⟩:=bd_ H
 replace c1:=gH c1
 rcases aa H with ⟨q_2,H⟩|⟨q_2,H⟩
 ·obtain ⟨r_3,c2,H⟩:=bd_ H
  replace c2:=gH c2
  rcases aa H with ⟨q_4,H⟩|⟨q_4,H⟩
  ·rcases aa H with ⟨q_5,H⟩|⟨q_5,H⟩
   ·cases H
    exact ah
   cases H
   exact ah
  cases H
  exact ah
 cases H
 exact ah
def rD (a_rel:Int) (a_p:bD) (a_q:bD):Option (Bool):=(Jz a_p a_q).bind fun r_1=>bif r_1.2 then some (decide (r_1.1=a_rel)) else
 some false
theorem EQ {a_rel:Int} {a_p:bD} {a_q:bD} {r:Bool} (H:rD a_rel a_p a_q=some r):Pure Tryz.prog 45 [.one (.int .i64 a_rel), .agg (gm a_p), .agg (gm a_q)] (.val (.one (.bool r))):=by
 unfold rD at H
 refine po_ Tryz.func45 Tryz.ntmps45 ?_
 obtain ⟨r_1,c1,H⟩:=bd_ H
 replace c1:=Ga c1
 rcases aa H with ⟨q_2,H⟩|⟨q_2,H⟩
 ·cases H
  exact ah
 cases H
 exact ah
def kD (a_b:(List aV)) (a_rel:Int) (v_2:Int) (x_4:aV):((List bA) × Int)->Option (Step ((List bA) × Int) ((List bA))):=fun s=>match s with
 | (out_5,v_6)=>bif (decide (v_6<((a_b.length:Nat):Int))) then (aT a_b v_6).bind fun x_8=>(rD a_rel x_4.valid x_8.valid).bind fun r_9=>bif r_9 then bif (decide (out_5.length+1<=8796093022208)) then (some (.next ((out_5++[(⟨v_2,v_6⟩:bA)]),(IntKind.i64.wrap (v_6+(1:Int)))))) else none else
 some (.next (out_5,(IntKind.i64.wrap (v_6+(1:Int))))) else
 some (.exit (out_5,v_6))
def oH (v_2:Int):Sum ((List bA) × Int) ((List bA))->Option (Step ((List bA) × Int) ((List bA)))
 | .inl (out_5,v_6)=>some (.next (out_5,(IntKind.i64.wrap (v_2+(1:Int)))))
 | .inr q=>some (.ret q)
def jZ (a_a:(List aV)) (a_b:(List aV)) (a_rel:Int):((List bA) × Int)->Option (Step ((List bA) × Int) ((List bA))):=fun s=>match s with
 | (out_1,v_2)=>bif (decide (v_2<((a_a.length:Nat):Int))) then (aT a_a v_2).bind fun x_4=>(az (kD a_b a_rel v_2 x_4) fuel (out_1,(0:Int))).bind (oH v_2) else
 some (.exit (out_1,v_2))
def sN:Sum ((List bA) × Int) ((List bA))->Option (((List bA)))
 | .inl (out_1,v_2)=>some out_1
 | .inr q=>some q
def r_ (a_a:(List aV)) (a_b:(List aV)) (a_rel:Int):Option ((List bA)):=(az (jZ a_a a_b a_rel) fuel ([],(0:Int))).bind (sN)
theorem zq {a_a:(List aV)} {a_b:(List aV)} {a_rel:Int} {r:(List bA)} (H:r_ a_a a_b a_rel=some r):Pure Tryz.prog 14 [.one (.lst (a_a.map a_)), .one (.lst (a_b.map a_)), .one (.int .i64 a_rel)] (.val (.one (.lst (r.map jb)))):=by
 unfold r_ at H
 refine po_ Tryz.func14 Tryz.ntmps14 ?_
 refine bv ?_
 refine Bz 7 2 rfl ?_
 refine alM_ (fun s:(List bA) × Int=>match s with|(out_1,v_2)=>[(1, .one (.c (.lst (a_b.map a_)))),(2, .one (.c (.int .i64 a_rel))),(7, .one (.own (out_1.map jb) 0)),(12, .one (.c (.lst (a_a.map a_)))),(13, .one (.c (.int .i64 ((a_a.length:Nat):Int)))),(14, .one (.c (.int .i64 v_2)))]) (fun s=>match s with|(out_1,v_2)=>[.spare out_1.length 2]) H (fun _=>Vx _)
  (fm_ fE [] rfl dC kY) ?_
 rintro ⟨out_1,v_2⟩ st3 hb3 hk3
 unfold jZ at hb3
 dsimp only at hb3 ⊢
 rcases aa hb3 with ⟨q_3,hb3⟩|⟨q_3,hb3⟩
 ·obtain ⟨x_4,i1z,i1,i1x,hb3⟩:=aX (f:=a_) hb3
  refine bv ?_
  refine alM_ (fun s:(List bA) × Int=>match s with|(out_5,v_6)=>[(1, .one (.c (.lst (a_b.map a_)))),(2, .one (.c (.int .i64 a_rel))),(7, .one (.own (out_5.map jb) 0)),(8, .one (.c (.int .i64 v_2))),(9, .one (.ptr 1 0)),(12, .one (.c (.lst (a_a.map a_)))),(13, .one (.c (.int .i64 ((a_a.length:Nat):Int)))),(14, .one (.c (.int .i64 v_2))),(19, .one (.c (.lst (a_b.map a_)))),(20, .one (.c (.int .i64 ((a_b.length:Nat):Int)))),(21, .one (.c (.int .i64 v_6)))]) (fun s=>match s with|(out_5,v_6)=>[.spare out_5.length 2, .box [.c (.lst (x_4.row.map cV)), .c (.int .i64 x_4.valid.lo), .c (.int .i64 x_4.valid.hi)]]) hb3 (fun _=>Vx _)
   (fm_ fE [] rfl dC kY) ?_
  rintro ⟨out_5,v_6⟩ st4 hb4 hk4
  unfold kD at hb4
  dsimp only at hb4 ⊢
  rcases aa hb4 with ⟨q_7,hb4⟩|⟨q_7,hb4⟩
  ·obtain ⟨x_8,i2z,i2,i2x,hb4⟩:=aX (f:=a_) hb4
   obtain ⟨r_9,c3,hb4⟩:=bd_ hb4
   replace c3:=EQ c3
   rcases aa hb4 with ⟨q_10,hb4⟩|⟨q_10,hb4⟩
   ·obtain ⟨g4,hb4⟩:=dO hb4
    cases hb4
    refine bv ?_
    exact ⟨_,rfl,fm_ DJ [_] D5 dC kY⟩
   cases hb4
   refine bv ?_
   exact ⟨_,rfl,fm_ DJ [_] D5 dC kY⟩
  cases hb4
  have hx4:oH v_2 (.inl (out_5,v_6))=some _:=hk4
  unfold oH at hx4
  dsimp only at hx4
  cases hx4
  refine bv ?_
  exact ⟨_,rfl,fm_ DJ [_] D5 dC kY⟩
 cases hb3
 have hx3:sN (.inl (out_1,v_2))=some _:=hk3
 unfold sN at hx3
 dsimp only at hx3
 cases hx3
 exact ah
def iX (a_a:(List aV)) (a_b:(List aV)) (i_2:Int):((List bA) × Int)->Option (Step ((List bA) × Int) ((List bA))):=fun s=>match s with
 | (out_4,k_5)=>bif (decide (k_5<((a_b.length:Nat):Int))) then (aT a_a i_2).bind fun x_7=>(aT a_b k_5).bind fun x_8=>(J_ x_7.valid x_8.valid).bind fun r_9=>bif r_9 then bif (decide (out_4.length+1<=8796093022208)) then (some (.next ((out_4++[(⟨i_2,k_5⟩:bA)]),(IntKind.i64.wrap (k_5+(1:Int)))))) else none else
 some (.next (out_4,(IntKind.i64.wrap (k_5+(1:Int))))) else
 some (.exit (out_4,k_5))
def lN (i_2:Int):Sum ((List bA) × Int) ((List bA))->Option (Step ((List bA) × Int) ((List bA)))
 | .inl (out_4,k_5)=>some (.next (out_4,(IntKind.i64.wrap (i_2+(1:Int)))))
 | .inr q=>some (.ret q)
def iY (a_a:(List aV)) (a_b:(List aV)):((List bA) × Int)->Option (Step ((List bA) × Int) ((List bA))):=fun s=>match s with
 | (out_1,i_2)=>bif (decide (i_2<((a_a.length:Nat):Int))) then (az (iX a_a a_b i_2) fuel (out_1,(0:Int))).bind (lN i_2) else
 some (.exit (out_1,i_2))
def p9:Sum ((List bA) × Int) ((List bA))->Option (((List bA)))
 | .inl (out_1,i_2)=>some out_1
 | .inr q=>some q
def qO (a_a:(List aV)) (a_b:(List aV)):Option ((List bA)):=(az (iY a_a a_b) fuel ([],(0:Int))).bind (p9)
theorem E9 {a_a:(List aV)} {a_b:(List aV)} {r:(List bA)} (H:qO a_a a_b=some r):Pure Tryz.prog 13 [.one (.lst (a_a.map a_)), .one (.lst (a_b.map a_))] (.val (.one (.lst (r.map jb)))):=by
 unfold qO at H
 refine po_ Tryz.func13 Tryz.ntmps13 ?_
 refine bv ?_
 refine Bz 5 2 rfl ?_
 refine alM_ (fun s:(List bA) × Int=>match s with|(out_1,i_2)=>[(0, .one (.c (.lst (a_a.map a_)))),(1, .one (.c (.lst (a_b.map a_)))),(5, .one (.own (out_1.map jb) 0)),(6, .one (.c (.int .i64 i_2)))]) (fun s=>match s with|(out_1,i_2)=>[.spare out_1.length 2]) H (fun _=>Vx _)
  (fm_ fE [] rfl dC kY) ?_
 rintro ⟨out_1,i_2⟩ st3 hb3 hk3
 unfold iY at hb3
 dsimp only at hb3 ⊢
 rcases aa hb3 with ⟨q_3,hb3⟩|⟨q_3,hb3⟩
 ·refine bv ?_
  refine alM_ (fun s:(List bA) × Int=>match s with|(out_4,k_5)=>[(0, .one (.c (.lst (a_a.map a_)))),(1, .one (.c (.lst (a_b.map a_)))),(5, .one (.own (out_4.map jb) 0)),(6, .one (.c (.int .i64 i_2))),(7, .one (.c (.int .i64 k_5)))]) (fun s=>match s with|(out_4,k_5)=>[.spare out_4.length 2]) hb3 (fun _=>Vx _)
   (fm_ fE [] rfl dC kY) ?_
  rintro ⟨out_4,k_5⟩ st4 hb4 hk4
  unfold iX at hb4
  dsimp only at hb4 ⊢
  rcases aa hb4 with ⟨q_6,hb4⟩|⟨q_6,hb4⟩
  ·obtain ⟨x_7,i1z,i1,i1x,hb4⟩:=aX (f:=a_) hb4
   obtain ⟨x_8,i2z,i2,i2x,hb4⟩:=aX (f:=a_) hb4
   obtain ⟨r_9,c3,hb4⟩:=bd_ hb4
   replace c3:=M9 c3
   rcases aa hb4 with ⟨q_10,hb4⟩|⟨q_10,hb4⟩
   ·obtain ⟨g4,hb4⟩:=dO hb4
    cases hb4
    refine bv ?_
    exact ⟨_,rfl,fm_ DJ [] D5 dC kY⟩
   cases hb4
   refine bv ?_
   exact ⟨_,rfl,fm_ DJ [] D5 dC kY⟩
  cases hb4
  have hx4:lN i_2 (.inl (out_4,k_5))=some _:=hk4
  unfold lN at hx4
  dsimp only at hx4
  cases hx4
  refine bv ?_
  exact ⟨_,rfl,fm_ DJ [] D5 dC kY⟩
 cases hb3
 have hx3:p9 (.inl (out_1,i_2))=some _:=hk3
 unfold p9 at hx3
 dsimp only at hx3
 cases hx3
 exact ah
def jg (a_a:(List aV)) (a_b:(List aV)) (a_rel:Int) (i_2:Int):((List bA) × Int)->Option (Step ((List bA) × Int) ((List bA))):=fun s=>match s with
 | (out_4,k_5)=>bif (decide (k_5<((a_b.length:Nat):Int))) then (aT a_a i_2).bind fun x_7=>(aT a_b k_5).bind fun x_8=>(lY a_rel x_7.valid x_8.valid).bind fun r_9=>bif r_9 then bif (decide (out_4.length+1<=8796093022208)) then (some (.next ((out_4++[(⟨i_2,k_5⟩:bA)]),(IntKind.i64.wrap (k_5+(1:Int)))))) else none else
 some (.next (out_4,(IntKind.i64.wrap (k_5+(1:Int))))) else
 some (.exit (out_4,k_5))
def lF (i_2:Int):Sum ((List bA) × Int) ((List bA))->Option (Step ((List bA) × Int) ((List bA)))
 | .inl (out_4,k_5)=>some (.next (out_4,(IntKind.i64.wrap (i_2+(1:Int)))))
 | .inr q=>some (.ret q)
def jo (a_a:(List aV)) (a_b:(List aV)) (a_rel:Int):((List bA) × Int)->Option (Step ((List bA) × Int) ((List bA))):=fun s=>match s with
 | (out_1,i_2)=>bif (decide (i_2<((a_a.length:Nat):Int))) then (az (jg a_a a_b a_rel i_2) fuel (out_1,(0:Int))).bind (lF i_2) else
 some (.exit (out_1,i_2))
def qo:Sum ((List bA) × Int) ((List bA))->Option (((List bA)))
 | .inl (out_1,i_2)=>some out_1
 | .inr q=>some q
def qK (a_a:(List aV)) (a_b:(List aV)) (a_rel:Int):Option ((List bA)):=(az (jo a_a a_b a_rel) fuel ([],(0:Int))).bind (qo)
theorem FJ {a_a:(List aV)} {a_b:(List aV)} {a_rel:Int} {r:(List bA)} (H:qK a_a a_b a_rel=some r):Pure Tryz.prog 15 [.one (.lst (a_a.map a_)), .one (.lst (a_b.map a_)), .one (.int .i64 a_rel)] (.val (.one (.lst (r.map jb)))):=by
 unfold qK at H
 refine po_ Tryz.func15 Tryz.ntmps15 ?_
 refine bv ?_
 refine Bz 7 2 rfl ?_
 refine alM_ (fun s:(List bA) × Int=>match s with|(out_1,i_2)=>[(0, .one (.c (.lst (a_a.map a_)))),(1, .one (.c (.lst (a_b.map a_)))),(2, .one (.c (.int .i64 a_rel))),(7, .one (.own (out_1.map jb) 0)),(8, .one (.c (.int .i64 i_2)))]) (fun s=>match s with|(out_1,i_2)=>[.spare out_1.length 2]) H (fun _=>Vx _)
  (fm_ fE [] rfl dC kY) ?_
 rintro ⟨out_1,i_2⟩ st3 hb3 hk3
 unfold jo at hb3
 dsimp only at hb3 ⊢
 rcases aa hb3 with ⟨q_3,hb3⟩|⟨q_3,hb3⟩
 ·refine bv ?_
  refine alM_ (fun s:(List bA) × Int=>match s with|(out_4,k_5)=>[(0, .one (.c (.lst (a_a.map a_)))),(1, .one (.c (.lst (a_b.map a_)))),(2, .one (.c (.int .i64 a_rel))),(7, .one (.own (out_4.map jb) 0)),(8, .one (.c (.int .i64 i_2))),(9, .one (.c (.int .i64 k_5)))]) (fun s=>match s with|(out_4,k_5)=>[.spare out_4.length 2]) hb3 (fun _=>Vx _)
   (fm_ fE [] rfl dC kY) ?_
  rintro ⟨out_4,k_5⟩ st4 hb4 hk4
  unfold jg at hb4
  dsimp only at hb4 ⊢
  rcases aa hb4 with ⟨q_6,hb4⟩|⟨q_6,hb4⟩
  ·obtain ⟨x_7,i1z,i1,i1x,hb4⟩:=aX (f:=a_) hb4
   obtain ⟨x_8,i2z,i2,i2x,hb4⟩:=aX (f:=a_) hb4
   obtain ⟨r_9,c3,hb4⟩:=bd_ hb4
   replace c3:=wY c3
   rcases aa hb4 with ⟨q_10,hb4⟩|⟨q_10,hb4⟩
   ·obtain ⟨g4,hb4⟩:=dO hb4
    cases hb4
    refine bv ?_
    exact ⟨_,rfl,fm_ DJ [] D5 dC kY⟩
   cases hb4
   refine bv ?_
   exact ⟨_,rfl,fm_ DJ [] D5 dC kY⟩
  cases hb4
  have hx4:lF i_2 (.inl (out_4,k_5))=some _:=hk4
  unfold lF at hx4
  dsimp only at hx4
  cases hx4
  refine bv ?_
  exact ⟨_,rfl,fm_ DJ [] D5 dC kY⟩
 cases hb3
 have hx3:qo (.inl (out_1,i_2))=some _:=hk3
 unfold qo at hx3
 dsimp only at hx3
 cases hx3
 exact ah
def gM (a_a:(List bA)) (a_b:(List bA)):(Int)->Option (Step (Int) (Bool)):=fun s=>match s with
 | i_2=>bif (decide (i_2<((a_a.length:Nat):Int))) then (aT a_a i_2).bind fun x_4=>(aT a_b i_2).bind fun x_5=>bif (!(bz [.c (.int .i64 x_4.a), .c (.int .i64 x_4.b)] [.c (.int .i64 x_5.a), .c (.int .i64 x_5.b)])) then some (.ret false) else
 some (.next (IntKind.i64.wrap (i_2+(1:Int)))) else
 some (.exit i_2)
def kV:Sum (Int) (Bool)->Option ((Bool))
 | .inl i_2=>some true
 | .inr q=>some q
def um (a_a:(List bA)) (a_b:(List bA)):Option (Bool):=bif (decide (((a_a.length:Nat):Int)≠((a_b.length:Nat):Int))) then some false else
 (az (gM a_a a_b) fuel (0:Int)).bind (kV)
theorem zL {a_a:(List bA)} {a_b:(List bA)} {r:Bool} (H:um a_a a_b=some r):Pure Tryz.prog 11 [.one (.lst (a_a.map jb)), .one (.lst (a_b.map jb))] (.val (.one (.bool r))):=by
 unfold um at H
 refine po_ Tryz.func11 Tryz.ntmps11 ?_
 rcases aa H with ⟨q_1,H⟩|⟨q_1,H⟩
 ·cases H
  exact ah
 refine bv ?_
 refine alM_ (fun s:Int=>match s with|i_2=>[(0, .one (.c (.lst (a_a.map jb)))),(1, .one (.c (.lst (a_b.map jb)))),(5, .one (.c (.int .i64 i_2)))]) (fun s=>match s with|i_2=>[]) H (fun _=>Vx _)
  (fm_ fE [] rfl dC trivial) ?_
 rintro i_2 st1 hb1 hk1
 unfold gM at hb1
 dsimp only at hb1 ⊢
 rcases aa hb1 with ⟨q_3,hb1⟩|⟨q_3,hb1⟩
 ·obtain ⟨x_4,i1z,i1,i1x,hb1⟩:=aX (f:=jb) hb1
  obtain ⟨x_5,i2z,i2,i2x,hb1⟩:=aX (f:=jb) hb1
  rcases aa hb1 with ⟨q_6,hb1⟩|⟨q_6,hb1⟩
  ·cases hb1
   have hx1:kV (.inr false)=some _:=hk1
   unfold kV at hx1
   dsimp only at hx1
   cases hx1
   exact ah
  cases hb1
  refine bv ?_
  exact ⟨_,rfl,fm_ fE [] rfl dC trivial⟩
 cases hb1
 have hx1:kV (.inl i_2)=some _:=hk1
 unfold kV at hx1
 dsimp only at hx1
 cases hx1
 exact ah
end
end Go.Proofs.YtlcceppoloaecaaGreatDoor
