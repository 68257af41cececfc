/- Parts of the proof, joined. No condition. -/
import Derived.Test.YtfccopdbgfdcdaaGreatDoorKAA
import Derived.Test.YtfccopdbgfdcdaaGreatDoorKBO
import Derived.Test.YtfccopdbgfdcdaaGreatDoorKBS
import Derived.Test.YtfccopdbgfdcdaaGreatDoorKBI
set_option linter.unusedSimpArgs false
set_option linter.unusedVariables false
namespace Go.Proofs.YtfccopdbgfdcdaaGreatDoor
open Go.RowKit Go.MapKept
set_option maxRecDepth 100000
set_option maxHeartbeats 8000000
def yG (a_l:(List Int)) (a_kind:Int):(Int)->Option (Step (Int) (Bool)):=fun s=>match s with
 | i_1=>bif (decide (i_1<((a_l.length:Nat):Int))) then (aA a_l i_1).bind fun x_3=>bif (decide (x_3≠a_kind)) then bif (decide (x_3≠(0:Int))) then some (.ret false) else
 some (.next (IntKind.i64.wrap (i_1+(1:Int)))) else
 some (.next (IntKind.i64.wrap (i_1+(1:Int)))) else
 some (.exit i_1)
def sQ:Sum (Int) (Bool)->Option ((Bool))
 | .inl i_1=>some true
 | .inr q=>some q
def iF (a_l:(List Int)) (a_kind:Int):Option (Bool):=(az (yG a_l a_kind) fuel (0:Int)).bind (sQ)
theorem dX {a_l:(List Int)} {a_kind:Int} {r:Bool} (H:iF a_l a_kind=some r):Pure Tryz.prog 183 [.one (.lst (a_l.map (fun x=>[AC.int .i64 x]))), .one (.int .i64 a_kind)] (.val (.one (.bool r))):=by
 unfold iF at H
 refine po_ Tryz.func183 Tryz.ntmps183 ?_
 refine bv ?_
 refine alM_ (fun s:Int=>match s with|i_1=>[(0, .one (.c (.lst (a_l.map (fun x=>[AC.int .i64 x]))))),(1, .one (.c (.int .i64 a_kind))),(5, .one (.c (.int .i64 i_1)))]) (fun s=>match s with|i_1=>[]) H (fun _=>ad4 _)
  (fm_ dL [] rfl bL trivial) ?_
 rintro i_1 st1 hb1 hk1
 unfold yG at hb1
 dsimp only at hb1 ⊢
 rcases aa hb1 with ⟨q_2,hb1⟩|⟨q_2,hb1⟩
 ·obtain ⟨x_3,i1z,i1,i1x,hb1⟩:=aR (f:=(fun x=>[AC.int .i64 x])) hb1
  rcases aa hb1 with ⟨q_4,hb1⟩|⟨q_4,hb1⟩
  ·rcases aa hb1 with ⟨q_5,hb1⟩|⟨q_5,hb1⟩
   ·cases hb1
    have hx1:sQ (.inr false)=some _:=hk1
    unfold sQ at hx1
    dsimp only at hx1
    cases hx1
    exact af
   cases hb1
   refine bv ?_
   exact ⟨_,rfl,fm_ dL [] rfl bL trivial⟩
  cases hb1
  refine bv ?_
  exact ⟨_,rfl,fm_ dL [] rfl bL trivial⟩
 cases hb1
 have hx1:sQ (.inl i_1)=some _:=hk1
 unfold sQ at hx1
 dsimp only at hx1
 cases hx1
 exact af
def F7 (a_l:(List Int)):(Int × Int)->Option (Step (Int × Int) (Int × Bool)):=fun s=>match s with
 | (k_1,i_2)=>bif (decide (i_2<((a_l.length:Nat):Int))) then (aA a_l i_2).bind fun x_4=>bif (decide (x_4=(0:Int))) then some (.next (k_1,(IntKind.i64.wrap (i_2+(1:Int))))) else
 bif (decide (k_1≠(0:Int))) then bif (decide (k_1≠x_4)) then some (.ret ((0:Int),false)) else
 some (.next (x_4,(IntKind.i64.wrap (i_2+(1:Int))))) else
 some (.next (x_4,(IntKind.i64.wrap (i_2+(1:Int))))) else
 some (.exit (k_1,i_2))
def oI:Sum (Int × Int) (Int × Bool)->Option ((Int × Bool))
 | .inl (k_1,i_2)=>some (k_1,true)
 | .inr q=>some q
def jE (a_l:(List Int)):Option (Int × Bool):=(az (F7 a_l) fuel ((0:Int),(0:Int))).bind (oI)
theorem iD {a_l:(List Int)} {r:Int × Bool} (H:jE a_l=some r):Pure Tryz.prog 184 [.one (.lst (a_l.map (fun x=>[AC.int .i64 x])))] (.tup [.one (.int .i64 r.1), .one (.bool r.2)]):=by
 unfold jE at H
 refine po_ Tryz.func184 Tryz.ntmps184 ?_
 refine bv ?_
 refine alM_ (fun s:Int × Int=>match s with|(k_1,i_2)=>[(0, .one (.c (.lst (a_l.map (fun x=>[AC.int .i64 x]))))),(4, .one (.c (.int .i64 k_1))),(5, .one (.c (.int .i64 i_2)))]) (fun s=>match s with|(k_1,i_2)=>[]) H (fun _=>ad4 _)
  (fm_ dL [] rfl bL trivial) ?_
 rintro ⟨k_1,i_2⟩ st1 hb1 hk1
 unfold F7 at hb1
 dsimp only at hb1 ⊢
 rcases aa hb1 with ⟨q_3,hb1⟩|⟨q_3,hb1⟩
 ·obtain ⟨x_4,i1z,i1,i1x,hb1⟩:=aR (f:=(fun x=>[AC.int .i64 x])) hb1
  rcases aa hb1 with ⟨q_5,hb1⟩|⟨q_5,hb1⟩
  ·cases hb1
   refine bv ?_
   exact ⟨_,rfl,fm_ dL [] rfl bL trivial⟩
  rcases aa hb1 with ⟨q_6,hb1⟩|⟨q_6,hb1⟩
  ·rcases aa hb1 with ⟨q_7,hb1⟩|⟨q_7,hb1⟩
   ·cases hb1
    have hx1:oI (.inr ((0:Int),false))=some _:=hk1
    unfold oI at hx1
    dsimp only at hx1
    cases hx1
    exact af
   cases hb1
   refine bv ?_
   exact ⟨_,rfl,fm_ dL [] rfl bL trivial⟩
  cases hb1
  refine bv ?_
  exact ⟨_,rfl,fm_ dL [] rfl bL trivial⟩
 cases hb1
 have hx1:oI (.inl (k_1,i_2))=some _:=hk1
 unfold oI at hx1
 dsimp only at hx1
 cases hx1
 exact af
def gRs11 (a_e:Ex) (a_l:(List Int)) (a_kinds:(List Int)):Option (Int × Bool):=bif (decide (a_e.op=(1:Int))) then some (a_e.v.kind,true) else
 bif (decide (a_e.op=(2:Int))) then (aA a_kinds a_e.int).bind fun x_3=>some (x_3,true) else
 bif (decide (a_e.op=(4:Int))) then (iF a_l (3:Int)).bind fun r_5=>some ((3:Int),r_5) else
 bif (decide (a_e.op=(5:Int))) then (iF a_l (3:Int)).bind fun r_7=>some ((3:Int),r_7) else
 bif (decide (a_e.op=(6:Int))) then (iF a_l (3:Int)).bind fun r_9=>some ((3:Int),r_9) else
 bif (decide (a_e.op=(7:Int))) then (jE a_l).bind fun r_11=>some ((3:Int),r_11.2) else
 bif (decide (a_e.op=(8:Int))) then (jE a_l).bind fun r_13=>some ((3:Int),r_13.2) else
 bif (decide (a_e.op=(9:Int))) then (jE a_l).bind fun r_15=>some ((3:Int),r_15.2) else
 bif (decide (a_e.op=(10:Int))) then (jE a_l).bind fun r_17=>some ((3:Int),r_17.2) else
 bif (decide (a_e.op=(11:Int))) then (jE a_l).bind fun r_19=>some ((3:Int),r_19.2) else
 bif (decide (a_e.op=(12:Int))) then (jE a_l).bind fun r_21=>some ((3:Int),r_21.2) else
 bif (decide (a_e.op=(13:Int))) then (iF a_l (1:Int)).bind fun r_23=>some ((1:Int),r_23) else
 bif (decide (a_e.op=(14:Int))) then (iF a_l (1:Int)).bind fun r_25=>some ((1:Int),r_25) else
 bif (decide (a_e.op=(15:Int))) then (iF a_l (1:Int)).bind fun r_27=>some ((1:Int),r_27) else
 bif (decide (a_e.op=(16:Int))) then (iF a_l (1:Int)).bind fun r_29=>some ((1:Int),r_29) else
 bif (decide (a_e.op=(17:Int))) then (iF a_l (1:Int)).bind fun r_31=>some ((1:Int),r_31) else
 bif (decide (a_e.op=(18:Int))) then (iF a_l (1:Int)).bind fun r_33=>some ((1:Int),r_33) else
 bif (decide (a_e.op=(19:Int))) then (iF a_l (2:Int)).bind fun r_35=>some ((2:Int),r_35) else
 bif (decide (a_e.op=(20:Int))) then (iF a_l (2:Int)).bind fun r_37=>some ((1:Int),r_37) else
 bif (decide (a_e.op=(21:Int))) then some ((3:Int),true) else
 bif (decide (a_e.op=(22:Int))) then (jI a_l (1:Int) ((a_l.length:Nat):Int)).bind fun s_40=>(jE s_40).bind fun r_41=>bif r_41.2 then (jI a_l (0:Int) (1:Int)).bind fun s_43=>(iF s_43 (3:Int)).bind fun r_44=>some (r_41.1,r_44) else
 some (r_41.1,false) else
 bif (decide (a_e.op=(23:Int))) then (jE a_l).bind fun r_46=>some (r_46.1,r_46.2) else
 (iF a_l (1:Int)).bind fun r_47=>some ((3:Int),r_47)
theorem BQ {a_e:Ex} {a_l:(List Int)} {a_kinds:(List Int)} {r:Int × Bool} (H:gRs11 a_e a_l a_kinds=some r):Pure Tryz.prog 151 [.agg (tE a_e), .one (.lst (a_l.map (fun x=>[AC.int .i64 x]))), .one (.lst (a_kinds.map (fun x=>[AC.int .i64 x])))] (.tup [.one (.int .i64 r.1), .one (.bool r.2)]):=by
 unfold gRs11 at H
 rw [aj a_e]
 refine po_ Tryz.func151 Tryz.ntmps151 ?_
 rcases aa H with ⟨q_1,H⟩|⟨q_1,H⟩
 ·cases H
  exact af
 rcases aa H with ⟨q_2,H⟩|⟨q_2,H⟩
 ·obtain ⟨x_3,i1z,i1,i1x,H⟩:=aR (f:=(fun x=>[AC.int .i64 x])) H
  cases H
  exact af
 refine bv ?_
 rcases aa H with ⟨q_4,H⟩|⟨q_4,H⟩
 ·obtain ⟨r_5,c2,H⟩:=bd_ H
  replace c2:=dX c2
  cases H
  exact af
 rcases aa H with ⟨q_6,H⟩|⟨q_6,H⟩
 ·obtain ⟨r_7,c3,H⟩:=bd_ H
  replace c3:=dX c3
  cases H
  exact af
 rcases aa H with ⟨q_8,H⟩|⟨q_8,H⟩
 ·obtain ⟨r_9,c4,H⟩:=bd_ H
  replace c4:=dX c4
  cases H
  exact af
 refine bv ?_
 rcases aa H with ⟨q_10,H⟩|⟨q_10,H⟩
 ·obtain ⟨r_11,c5,H⟩:=bd_ H
  replace c5:=iD c5
  cases H
  exact af
 rcases aa H with ⟨q_12,H⟩|⟨q_12,H⟩
 ·obtain ⟨r_13,c6,H⟩:=bd_ H
  replace c6:=iD c6
  cases H
  exact af
 rcases aa H with ⟨q_14,H⟩|⟨q_14,H⟩
 ·obtain ⟨r_15,c7,H⟩:=bd_ H
  replace c7:=iD c7
  cases H
  exact af
 refine bv ?_
 rcases aa H with ⟨q_16,H⟩|⟨q_16,H⟩
 ·obtain ⟨r_17,c8,H⟩:=bd_ H
  replace c8:=iD c8
  cases H
  exact af
 rcases aa H with ⟨q_18,H⟩|⟨q_18,H⟩
 ·obtain ⟨r_19,c9,H⟩:=bd_ H
  replace c9:=iD c9
  cases H
  exact af
 rcases aa H with ⟨q_20,H⟩|⟨q_20,H⟩
 ·obtain ⟨r_21,c10,H⟩:=bd_ H
  replace c10:=iD c10
  cases H
  exact af
 refine bv ?_
 rcases aa H with ⟨q_22,H⟩|⟨q_22,H⟩
 ·obtain ⟨r_23,c11,H⟩:=bd_ H
  replace c11:=dX c11
  cases H
  exact af
 rcases aa H with ⟨q_24,H⟩|⟨q_24,H⟩
 ·obtain ⟨r_25,c12,H⟩:=bd_ H
  replace c12:=dX c12
  cases H
  exact af
 rcases aa H with ⟨q_26,H⟩|⟨q_26,H⟩
 ·obtain ⟨r_27,c13,H⟩:=bd_ H
  replace c13:=dX c13
  cases H
  exact af
 refine bv ?_
 rcases aa H with ⟨q_28,H⟩|⟨q_28,H⟩
 ·obtain ⟨r_29,c14,H⟩:=bd_ H
  replace c14:=dX c14
  cases H
  exact af
 rcases aa H with ⟨q_30,H⟩|⟨q_30,H⟩
 ·obtain ⟨r_31,c15,H⟩:=bd_ H
  replace c15:=dX c15
  cases H
  exact af
 rcases aa H with ⟨q_32,H⟩|⟨q_32,H⟩
 ·obtain ⟨r_33,c16,H⟩:=bd_ H
  replace c16:=dX c16
  cases H
  exact af
 refine bv ?_
 rcases aa H with ⟨q_34,H⟩|⟨q_34,H⟩
 ·obtain ⟨r_35,c17,H⟩:=bd_ H
  replace c17:=dX c17
  cases H
  exact af
 rcases aa H with ⟨q_36,H⟩|⟨q_36,H⟩
 ·obtain ⟨r_37,c18,H⟩:=bd_ H
  replace c18:=dX c18
  cases H
  exact af
 rcases aa H with ⟨q_38,H⟩|⟨q_38,H⟩
 ·cases H
  exact af
 refine bv ?_
 rcases aa H with ⟨q_39,H⟩|⟨q_39,H⟩
 ·obtain ⟨s_40,u19,H⟩:=bd_ H
  obtain ⟨⟨u19a,u19b,u19c⟩,u19⟩:=fq u19
  have u19x:=EM (f:=(fun x=>[AC.int .i64 x])) u19
  obtain ⟨r_41,c20,H⟩:=bd_ H
  replace c20:=iD c20
  rcases aa H with ⟨q_42,H⟩|⟨q_42,H⟩
  ·obtain ⟨s_43,u21,H⟩:=bd_ H
   obtain ⟨⟨u21a,u21b,u21c⟩,u21⟩:=fq u21
   have u21x:=EM (f:=(fun x=>[AC.int .i64 x])) u21
   obtain ⟨r_44,c22,H⟩:=bd_ H
   replace c22:=dX c22
   cases H
   repeat' (first|refine gs_ ?_|rw [u19x]|rw [u21x]|rw [show ((0:Nat):Int)=0 from rfl])
   refine bE (bR rfl ?_ ?_)
   ·repeat' (first|exact trivial|rfl|exact adS rfl|omega|apply And.intro)
   ·first|rfl|(simp only [adV,adT,adX,adN]<;>rfl)
  cases H
  repeat' (first|refine gs_ ?_|rw [u19x]|rw [show ((0:Nat):Int)=0 from rfl])
  refine bE (bR rfl ?_ ?_)
  ·repeat' (first|exact trivial|rfl|exact adS rfl|omega|apply And.intro)
  ·first|rfl|(simp only [adV,adT,adX,adN]<;>rfl)
 rcases aa H with ⟨q_45,H⟩|⟨q_45,H⟩
 ·obtain ⟨r_46,c23,H⟩:=bd_ H
  replace c23:=iD c23
  cases H
  exact af
 obtain ⟨r_47,c24,H⟩:=bd_ H
 replace c24:=dX c24
 cases H
 exact af
def fD (a_e:Ex) (rec:Ex->Option Int):(Int × Int)->Option (Step (Int × Int) (Int)):=fun s=>match s with
 | (n_1,i_2)=>bif (decide (i_2<((a_e.args.length:Nat):Int))) then (aA a_e.args i_2).bind fun x_4=>(rec x_4).bind fun r_5=>some (.next ((zg n_1 r_5),(IntKind.i64.wrap (i_2+(1:Int))))) else
 some (.exit (n_1,i_2))
def vT:Sum (Int × Int) (Int)->Option ((Int))
 | .inl (n_1,i_2)=>some (IntKind.i64.wrap (n_1+(1:Int)))
 | .inr q=>some q
def rR (rec:Ex->Option Int) (a_e:Ex):Option (Int):=(az (fD a_e rec) fuel ((0:Int),(0:Int))).bind (vT)
theorem M6 {rec:Ex->Option Int}  (hrec : ∀ {x:Ex} {r:Int}, rec x=some r->Pure Tryz.prog 103 [.agg (tE x)] (.val (.one (.int .i64 r)))) {a_e:Ex} {r:Int} (H:rR rec a_e=some r):Pure Tryz.prog 103 [.agg (tE a_e)] (.val (.one (.int .i64 r))):=by
 unfold rR at H
 rw [aj a_e]
 refine po_ Tryz.func103 Tryz.ntmps103 ?_
 refine bv ?_
 refine alM_ (fun s:Int × Int=>match s with|(n_1,i_2)=>[(1, .one (.ptr 0 0)),(3, .one (.c (.int .i64 n_1))),(4, .one (.c (.int .i64 i_2)))]) (fun s=>match s with|(n_1,i_2)=>[.box [.c (.int .i64 a_e.op), .c (.int .i64 a_e.int), .c (.int .i64 a_e.v.kind), .c (.int .i64 a_e.v.int), .c (.str a_e.v.text), .c (.str a_e.nm), .c (.lst (a_e.args.map tE))]]) H (fun _=>ad4 _)
  (fm_ dL [] rfl bL cZ) ?_
 rintro ⟨n_1,i_2⟩ st1 hb1 hk1
 unfold fD at hb1
 dsimp only at hb1 ⊢
 rcases aa hb1 with ⟨q_3,hb1⟩|⟨q_3,hb1⟩
 ·obtain ⟨x_4,i1z,i1,i1x,hb1⟩:=aR (f:=tE) hb1
  simp only [adV,adT,adX,adN,aj] at i1x
  obtain ⟨r_5,c2,hb1⟩:=bd_ hb1
  replace c2:=hrec c2
  try simp only [adV,adT,adX,adN,aj] at c2
  cases hb1
  refine bv ?_
  exact ⟨_,rfl,fm_ dL [] rfl bL cZ⟩
 cases hb1
 have hx1:vT (.inl (n_1,i_2))=some _:=hk1
 unfold vT at hx1
 dsimp only at hx1
 cases hx1
 exact af
def o7:Nat->Ex->Option Int
 | 0,_=>none
 | n+1,x=>rR (o7 n) x
theorem Eo : ∀ (n:Nat) {x:Ex} {r:Int}, o7 n x=some r->Pure Tryz.prog 103 [.agg (tE x)] (.val (.one (.int .i64 r)))
 | 0,_,_,h=>nomatch h
 | n+1,_,_,h=>M6 (Eo n) h
def nJ (a_e:Ex) (a_kinds:(List Int)) (rec:Ex->List Int->Option (Int × Int)):((List Int) × Int)->Option (Step ((List Int) × Int) (Int × Int)):=fun s=>match s with
 | (l_8,i_9)=>bif (decide (i_9<((a_e.args.length:Nat):Int))) then (aA a_e.args i_9).bind fun x_11=>(rec x_11 a_kinds).bind fun r_12=>bif (decide (r_12.2≠(0:Int))) then some (.ret ((0:Int),r_12.2)) else
 bif (decide (l_8.length+1<=17592186044416)) then (some (.next ((l_8++[r_12.1]),(IntKind.i64.wrap (i_9+(1:Int)))))) else none else
 some (.exit (l_8,i_9))
def ky (a_e:Ex) (a_kinds:(List Int)):Sum ((List Int) × Int) (Int × Int)->Option ((Int × Int))
 | .inl (l_8,i_9)=>(gRs11 a_e l_8 a_kinds).bind fun r_14=>bif (!r_14.2) then some ((0:Int),(7:Int)) else
 some (r_14.1,(0:Int))
 | .inr q=>some q
def bz (a_e:Ex) (a_kinds:(List Int)) (rec:Ex->List Int->Option (Int × Int)):((List Int) × Int)->Option (Step ((List Int) × Int) (Int × Int)):=fun s=>match s with
 | (l_16,i_17)=>bif (decide (i_17<((a_e.args.length:Nat):Int))) then (aA a_e.args i_17).bind fun x_19=>(rec x_19 a_kinds).bind fun r_20=>bif (decide (r_20.2≠(0:Int))) then some (.ret ((0:Int),r_20.2)) else
 bif (decide (l_16.length+1<=17592186044416)) then (some (.next ((l_16++[r_20.1]),(IntKind.i64.wrap (i_17+(1:Int)))))) else none else
 some (.exit (l_16,i_17))
def gG (a_e:Ex) (a_kinds:(List Int)):Sum ((List Int) × Int) (Int × Int)->Option ((Int × Int))
 | .inl (l_16,i_17)=>(gRs11 a_e l_16 a_kinds).bind fun r_22=>bif (!r_22.2) then some ((0:Int),(7:Int)) else
 some (r_22.1,(0:Int))
 | .inr q=>some q
def lC (rec:Ex->List Int->Option (Int × Int)) (a_e:Ex) (a_kinds:(List Int)):Option (Int × Int):=(v_ a_e.op).bind fun r_1=>bif (decide (r_1.1<(0:Int))) then some ((0:Int),(7:Int)) else
 (jo a_e).bind fun r_3=>bif (!r_3) then some ((0:Int),(8:Int)) else
 bif (decide (a_e.op=(2:Int))) then bif (decide (a_e.int<(0:Int))) then some ((0:Int),(13:Int)) else
 bif (decide (((a_kinds.length:Nat):Int)<=a_e.int)) then some ((0:Int),(13:Int)) else
 (az (nJ a_e a_kinds rec) fuel ([],(0:Int))).bind (ky a_e a_kinds) else
 (az (bz a_e a_kinds rec) fuel ([],(0:Int))).bind (gG a_e a_kinds)
theorem Mk {rec:Ex->List Int->Option (Int × Int)}  (hrec : ∀ {x:Ex} {y:List Int} {r:Int × Int}, rec x y=some r->Pure Tryz.prog 104 [.agg (tE x), .one (.lst (y.map (fun x=>[AC.int .i64 x])))] (.tup [.one (.int .i64 r.1), .one (.int .i64 r.2)])) {a_e:Ex} {a_kinds:(List Int)} {r:Int × Int} (H:lC rec a_e a_kinds=some r):Pure Tryz.prog 104 [.agg (tE a_e), .one (.lst (a_kinds.map (fun x=>[AC.int .i64 x])))] (.tup [.one (.int .i64 r.1), .one (.int .i64 r.2)]):=by
 unfold lC at H
 rw [aj a_e]
 refine po_ Tryz.func104 Tryz.ntmps104 ?_
 obtain ⟨r_1,c1,H⟩:=bd_ H
 replace c1:=Kn c1
 rcases aa H with ⟨q_2,H⟩|⟨q_2,H⟩
 ·cases H
  exact af
 obtain ⟨r_3,c2,H⟩:=bd_ H
 replace c2:=EK c2
 try simp only [adV,adT,adX,adN,aj] at c2
 rcases aa H with ⟨q_4,H⟩|⟨q_4,H⟩
 ·cases H
  exact af
 rcases aa H with ⟨q_5,H⟩|⟨q_5,H⟩
 ·rcases aa H with ⟨q_6,H⟩|⟨q_6,H⟩
  ·cases H
   exact af
  rcases aa H with ⟨q_7,H⟩|⟨q_7,H⟩
  ·cases H
   exact af
  refine bv ?_
  refine dz 8 1 rfl ?_
  refine alM_ (fun s:(List Int) × Int=>match s with|(l_8,i_9)=>[(1, .one (.c (.lst (a_kinds.map (fun x=>[AC.int .i64 x]))))),(2, .one (.ptr 0 0)),(8, .one (.own (l_8.map (fun x=>[AC.int .i64 x])) 1)),(9, .one (.c (.int .i64 i_9)))]) (fun s=>match s with|(l_8,i_9)=>[.box [.c (.int .i64 a_e.op), .c (.int .i64 a_e.int), .c (.int .i64 a_e.v.kind), .c (.int .i64 a_e.v.int), .c (.str a_e.v.text), .c (.str a_e.nm), .c (.lst (a_e.args.map tE))], .spare l_8.length 1]) H (fun _=>ad4 _)
   (fm_ dL [] rfl bL cZ) ?_
  rintro ⟨l_8,i_9⟩ st1 hb1 hk1
  unfold nJ at hb1
  dsimp only at hb1 ⊢
  rcases aa hb1 with ⟨q_10,hb1⟩|⟨q_10,hb1⟩
  ·obtain ⟨x_11,i3z,i3,i3x,hb1⟩:=aR (f:=tE) hb1
   simp only [adV,adT,adX,adN,aj] at i3x
   obtain ⟨r_12,c4,hb1⟩:=bd_ hb1
   replace c4:=hrec c4
   try simp only [adV,adT,adX,adN,aj] at c4
   rcases aa hb1 with ⟨q_13,hb1⟩|⟨q_13,hb1⟩
   ·cases hb1
    have hx1:ky a_e a_kinds (.inr ((0:Int),r_12.2))=some _:=hk1
    unfold ky at hx1
    dsimp only at hx1
    cases hx1
    exact af
   obtain ⟨g5,hb1⟩:=bu hb1
   cases hb1
   refine bv ?_
   exact ⟨_,rfl,fm_ kM [] jY bL cZ⟩
  cases hb1
  have hx1:ky a_e a_kinds (.inl (l_8,i_9))=some _:=hk1
  unfold ky at hx1
  dsimp only at hx1
  obtain ⟨r_14,c6,hx1⟩:=bd_ hx1
  replace c6:=BQ c6
  try simp only [adV,adT,adX,adN,aj] at c6
  rcases aa hx1 with ⟨q_15,hx1⟩|⟨q_15,hx1⟩
  ·cases hx1
   exact af
  cases hx1
  exact af
 refine bv ?_
 refine dz 8 1 rfl ?_
 refine alM_ (fun s:(List Int) × Int=>match s with|(l_16,i_17)=>[(1, .one (.c (.lst (a_kinds.map (fun x=>[AC.int .i64 x]))))),(2, .one (.ptr 0 0)),(8, .one (.own (l_16.map (fun x=>[AC.int .i64 x])) 1)),(9, .one (.c (.int .i64 i_17)))]) (fun s=>match s with|(l_16,i_17)=>[.box [.c (.int .i64 a_e.op), .c (.int .i64 a_e.int), .c (.int .i64 a_e.v.kind), .c (.int .i64 a_e.v.int), .c (.str a_e.v.text), .c (.str a_e.nm), .c (.lst (a_e.args.map tE))], .spare l_16.length 1]) H (fun _=>ad4 _)
  (fm_ dL [] rfl bL cZ) ?_
 rintro ⟨l_16,i_17⟩ st2 hb2 hk2
 unfold bz at hb2
 dsimp only at hb2 ⊢
 rcases aa hb2 with ⟨q_18,hb2⟩|⟨q_18,hb2⟩
 ·obtain ⟨x_19,i7z,i7,i7x,hb2⟩:=aR (f:=tE) hb2
  simp only [adV,adT,adX,adN,aj] at i7x
  obtain ⟨r_20,c8,hb2⟩:=bd_ hb2
  replace c8:=hrec c8
  try simp only [adV,adT,adX,adN,aj] at c8
  rcases aa hb2 with ⟨q_21,hb2⟩|⟨q_21,hb2⟩
  ·cases hb2
   have hx2:gG a_e a_kinds (.inr ((0:Int),r_20.2))=some _:=hk2
   unfold gG at hx2
   dsimp only at hx2
   cases hx2
   exact af
  obtain ⟨g9,hb2⟩:=bu hb2
  cases hb2
  refine bv ?_
  exact ⟨_,rfl,fm_ kM [] jY bL cZ⟩
 cases hb2
 have hx2:gG a_e a_kinds (.inl (l_16,i_17))=some _:=hk2
 unfold gG at hx2
 dsimp only at hx2
 obtain ⟨r_22,c10,hx2⟩:=bd_ hx2
 replace c10:=BQ c10
 try simp only [adV,adT,adX,adN,aj] at c10
 rcases aa hx2 with ⟨q_23,hx2⟩|⟨q_23,hx2⟩
 ·cases hx2
  exact af
 cases hx2
 exact af
def df:Nat->Ex->List Int->Option (Int × Int)
 | 0,_,_=>none
 | n+1,x,y=>lC (df n) x y
theorem Ez : ∀ (n:Nat) {x:Ex} {y:List Int} {r:Int × Int}, df n x y=some r->Pure Tryz.prog 104 [.agg (tE x), .one (.lst (y.map (fun x=>[AC.int .i64 x])))] (.tup [.one (.int .i64 r.1), .one (.int .i64 r.2)])
 | 0,_,_,_,h=>nomatch h
 | n+1,_,_,_,h=>Mk (Ez n) h
def uA (a_e:Ex) (a_kinds:(List Int)):Option (Int × Int):=(o7 fuel a_e).bind fun r_1=>bif (decide ((24:Int)<r_1)) then some ((0:Int),(26:Int)) else
 (df fuel a_e a_kinds).bind fun r_3=>some (r_3.1,r_3.2)
theorem LC {a_e:Ex} {a_kinds:(List Int)} {r:Int × Int} (H:uA a_e a_kinds=some r):Pure Tryz.prog 66 [.agg (tE a_e), .one (.lst (a_kinds.map (fun x=>[AC.int .i64 x])))] (.tup [.one (.int .i64 r.1), .one (.int .i64 r.2)]):=by
 unfold uA at H
 rw [aj a_e]
 refine po_ Tryz.func66 Tryz.ntmps66 ?_
 obtain ⟨r_1,c1,H⟩:=bd_ H
 replace c1:=Eo fuel c1
 try simp only [adV,adT,adX,adN,aj] at c1
 rcases aa H with ⟨q_2,H⟩|⟨q_2,H⟩
 ·cases H
  exact af
 obtain ⟨r_3,c2,H⟩:=bd_ H
 replace c2:=Ez fuel c2
 try simp only [adV,adT,adX,adN,aj] at c2
 cases H
 exact af
def d_ (a_kinds:(List Int)) (a_l:(List Ex)):((List Int) × Int)->Option (Step ((List Int) × Int) ((List Int) × Int)):=fun s=>match s with
 | (out_1,i_2)=>bif (decide (i_2<((a_l.length:Nat):Int))) then (aA a_l i_2).bind fun x_4=>(uA x_4 a_kinds).bind fun r_5=>bif (decide (r_5.2≠(0:Int))) then some (.ret ([],r_5.2)) else
 bif (decide (r_5.1=(0:Int))) then some (.ret ([],(7:Int))) else
 bif (decide (out_1.length+1<=17592186044416)) then (some (.next ((out_1++[r_5.1]),(IntKind.i64.wrap (i_2+(1:Int)))))) else none else
 some (.exit (out_1,i_2))
def iL:Sum ((List Int) × Int) ((List Int) × Int)->Option (((List Int) × Int))
 | .inl (out_1,i_2)=>some (out_1,(0:Int))
 | .inr q=>some q
def lZ (a_kinds:(List Int)) (a_l:(List Ex)):Option ((List Int) × Int):=(az (d_ a_kinds a_l) fuel ([],(0:Int))).bind (iL)
theorem wh {a_kinds:(List Int)} {a_l:(List Ex)} {r:(List Int) × Int} (H:lZ a_kinds a_l=some r):Pure Tryz.prog 35 [.one (.lst (a_kinds.map (fun x=>[AC.int .i64 x]))), .one (.lst (a_l.map tE))] (.tup [.one (.lst (r.1.map (fun x=>[AC.int .i64 x]))), .one (.int .i64 r.2)]):=by
 unfold lZ at H
 refine po_ Tryz.func35 Tryz.ntmps35 ?_
 refine bv ?_
 refine dz 6 1 rfl ?_
 refine alM_ (fun s:(List Int) × Int=>match s with|(out_1,i_2)=>[(0, .one (.c (.lst (a_kinds.map (fun x=>[AC.int .i64 x]))))),(1, .one (.c (.lst (a_l.map tE)))),(6, .one (.own (out_1.map (fun x=>[AC.int .i64 x])) 0)),(7, .one (.c (.int .i64 i_2)))]) (fun s=>match s with|(out_1,i_2)=>[.spare out_1.length 1]) H (fun _=>ad4 _)
  (fm_ dL [] rfl bL cZ) ?_
 rintro ⟨out_1,i_2⟩ st1 hb1 hk1
 unfold d_ at hb1
 dsimp only at hb1 ⊢
 rcases aa hb1 with ⟨q_3,hb1⟩|⟨q_3,hb1⟩
 ·obtain ⟨x_4,i1z,i1,i1x,hb1⟩:=aR (f:=tE) hb1
  simp only [adV,adT,adX,adN,aj] at i1x
  obtain ⟨r_5,c2,hb1⟩:=bd_ hb1
  replace c2:=LC c2
  try simp only [adV,adT,adX,adN,aj] at c2
  rcases aa hb1 with ⟨q_6,hb1⟩|⟨q_6,hb1⟩
  ·cases hb1
   have hx1:iL (.inr ([],r_5.2))=some _:=hk1
   unfold iL at hx1
   dsimp only at hx1
   cases hx1
   exact af
  rcases aa hb1 with ⟨q_7,hb1⟩|⟨q_7,hb1⟩
  ·cases hb1
   have hx1:iL (.inr ([],(7:Int)))=some _:=hk1
   unfold iL at hx1
   dsimp only at hx1
   cases hx1
   exact af
  obtain ⟨g3,hb1⟩:=bu hb1
  cases hb1
  refine bv ?_
  exact ⟨_,rfl,fm_ kM [] jY bL cZ⟩
 cases hb1
 have hx1:iL (.inl (out_1,i_2))=some _:=hk1
 unfold iL at hx1
 dsimp only at hx1
 cases hx1
 exact af
def fA (a_e:Ex) (a_most:Int) (rec:Ex->Int->Option Int):(Int × Int)->Option (Step (Int × Int) (Int)):=fun s=>match s with
 | (n_1,i_2)=>bif (decide (i_2<((a_e.args.length:Nat):Int))) then bif (decide (n_1<a_most)) then (aA a_e.args i_2).bind fun x_5=>(rec x_5 (IntKind.i64.wrap (a_most-n_1))).bind fun r_6=>some (.next ((IntKind.i64.wrap (n_1+r_6)),(IntKind.i64.wrap (i_2+(1:Int))))) else
 some (.exit (n_1,i_2)) else
 some (.exit (n_1,i_2))
def mg:Sum (Int × Int) (Int)->Option ((Int))
 | .inl (n_1,i_2)=>some n_1
 | .inr q=>some q
def xx (rec:Ex->Int->Option Int) (a_e:Ex) (a_most:Int):Option (Int):=(az (fA a_e a_most rec) fuel ((1:Int),(0:Int))).bind (mg)
theorem Oj {rec:Ex->Int->Option Int}  (hrec : ∀ {x:Ex} {y:Int} {r:Int}, rec x y=some r->Pure Tryz.prog 72 [.agg (tE x), .one (.int .i64 y)] (.val (.one (.int .i64 r)))) {a_e:Ex} {a_most:Int} {r:Int} (H:xx rec a_e a_most=some r):Pure Tryz.prog 72 [.agg (tE a_e), .one (.int .i64 a_most)] (.val (.one (.int .i64 r))):=by
 unfold xx at H
 rw [aj a_e]
 refine po_ Tryz.func72 Tryz.ntmps72 ?_
 refine bv ?_
 refine alM_ (fun s:Int × Int=>match s with|(n_1,i_2)=>[(1, .one (.c (.int .i64 a_most))),(2, .one (.ptr 0 0)),(5, .one (.c (.int .i64 n_1))),(6, .one (.c (.int .i64 i_2)))]) (fun s=>match s with|(n_1,i_2)=>[.box [.c (.int .i64 a_e.op), .c (.int .i64 a_e.int), .c (.int .i64 a_e.v.kind), .c (.int .i64 a_e.v.int), .c (.str a_e.v.text), .c (.str a_e.nm), .c (.lst (a_e.args.map tE))]]) H (fun _=>ad4 _)
  (fm_ dL [] rfl bL cZ) ?_
 rintro ⟨n_1,i_2⟩ st1 hb1 hk1
 unfold fA at hb1
 dsimp only at hb1 ⊢
 rcases aa hb1 with ⟨q_3,hb1⟩|⟨q_3,hb1⟩
 ·rcases aa hb1 with ⟨q_4,hb1⟩|⟨q_4,hb1⟩
  ·obtain ⟨x_5,i1z,i1,i1x,hb1⟩:=aR (f:=tE) hb1
   simp only [adV,adT,adX,adN,aj] at i1x
   obtain ⟨r_6,c2,hb1⟩:=bd_ hb1
   replace c2:=hrec c2
   try simp only [adV,adT,adX,adN,aj] at c2
   cases hb1
   refine bv ?_
   exact ⟨_,rfl,fm_ dL [] rfl bL cZ⟩
  cases hb1
  have hx1:mg (.inl (n_1,i_2))=some _:=hk1
  unfold mg at hx1
  dsimp only at hx1
  cases hx1
  exact af
 cases hb1
 have hx1:mg (.inl (n_1,i_2))=some _:=hk1
 unfold mg at hx1
 dsimp only at hx1
 cases hx1
 exact af
def qZ:Nat->Ex->Int->Option Int
 | 0,_,_=>none
 | n+1,x,y=>xx (qZ n) x y
theorem Ij : ∀ (n:Nat) {x:Ex} {y:Int} {r:Int}, qZ n x y=some r->Pure Tryz.prog 72 [.agg (tE x), .one (.int .i64 y)] (.val (.one (.int .i64 r)))
 | 0,_,_,_,h=>nomatch h
 | n+1,_,_,_,h=>Oj (Ij n) h
def Dr (a_l:(List Ex)) (a_most:Int):Option (Bool):=(qZ fuel (Ex.mk (0:Int) (0:Int) (⟨(0:Int),(0:Int),ByteArray.empty⟩:Val) ByteArray.empty a_l) (IntKind.i64.wrap (a_most+(2:Int)))).bind fun r_1=>some (decide (r_1<=(IntKind.i64.wrap (a_most+(1:Int)))))
theorem Lu {a_l:(List Ex)} {a_most:Int} {r:Bool} (H:Dr a_l a_most=some r):Pure Tryz.prog 38 [.one (.lst (a_l.map tE)), .one (.int .i64 a_most)] (.val (.one (.bool r))):=by
 unfold Dr at H
 refine po_ Tryz.func38 Tryz.ntmps38 ?_
 obtain ⟨r_1,c1,H⟩:=bd_ H
 replace c1:=Ij fuel c1
 try simp only [adV,adT,adX,adN,aj] at c1
 cases H
 exact af
theorem Ew (e:Ex) (m:Int) (hm:1<=m/\m<=1000) (rec:Ex->Int->Option Int)
  (hrec : ∀ x∈e.args, ∀ k:Int,1<=k->k<m -> ∃ r,rec x k=some r/\1<=r/\r<=k/\(r<k->eY r.toNat x)) :
  ∀ (N i:Nat) (c:Int),1<=c->c<=m->i<=e.args.length->(m-c).toNat<N->(i:Int)<=c ->
   ∃ r j,az (fA e m rec) N (c,(i:Int))=some (.inl (r,j))/\c<=r/\r<=m/\(r<m->((e.args.length-i:Nat):Int)<=r-c /\ ∀ x∈e.args.drop i,eY (r-c).toNat x)
 | 0,i,c,_,_,_,h,_=>by omega
 | N+1,i,c,h1,h2,hi,hN,hic=>by
  rw [az]
  by_cases hlt:i<e.args.length
  ·obtain ⟨x,hx⟩:=gol_ hlt
   have hmem:=adO hx
   by_cases hc:c<m
   ·obtain ⟨w,hw,w1,w2,w3⟩:=hrec x hmem (m-c) (by omega) (by omega)
    have hb:fA e m rec (c,(i:Int))=some (.next (c+w,((i+1:Nat):Int))):=by
     unfold fA
     dsimp only
     rw [aI hx,adK,adM hc,adK,gn_ hx,adH,fJ (by omega),hw,adH,fJ (by omega),wrapN (by omega)]
    rw [hb]
    obtain ⟨r,j,e1,e2,e3,e4⟩:=Ew e m hm rec hrec N (i+1) (c+w) (by omega) (by omega) (by omega) (by omega) (by omega)
    refine ⟨r,j,e1,by omega,e3,fun hr=>?_⟩
    obtain ⟨f1,f2⟩:=e4 hr
    refine ⟨by omega,fun y hy=>?_⟩
    rw [aed hlt,(adI.1 hx).2] at hy
    rcases adZ.1 hy with rfl|hy
    ·exact jT (by omega) (w3 (by omega))
    ·exact jT (by omega) (f2 y hy)
   ·have hb:fA e m rec (c,(i:Int))=some (.exit (c,(i:Int))):=by
     unfold fA
     dsimp only
     rw [aI hx,adK,adL hc,adJ]
    rw [hb]
    exact ⟨c,_,rfl,Int.le_refl _,h2,fun hr=>absurd hr hc⟩
  ·have:i=e.args.length:=by omega
   subst this
   have hb:fA e m rec (c,((e.args.length:Nat):Int))=some (.exit (c,((e.args.length:Nat):Int))):=by
    unfold fA
    dsimp only
    rw [lF_,adJ]
   rw [hb]
   refine ⟨c,_,rfl,Int.le_refl _,h2,fun hr=>⟨by omega,fun y hy=>?_⟩⟩
   rw [aeB] at hy
   cases hy
theorem Kt : ∀ (n:Nat) (e:Ex) (m:Int),1<=m->m<=1000->m<=(n:Int) -> ∃ r,qZ n e m=some r/\1<=r/\r<=m/\(r<m->eY r.toNat e/\((e.args.length:Nat):Int)<r /\ ∀ x∈e.args,eY (r-1).toNat x)
 | 0,e,m,h1,_,h3=>by omega
 | n+1,e,m,h1,h2,h3=>by
  have hrec : ∀ x∈e.args, ∀ k:Int,1<=k->k<m -> ∃ r,qZ n x k=some r/\1<=r/\r<=k/\(r<k->eY r.toNat x):=by
   intro x _ k k1 k2
   obtain ⟨r,e1,e2,e3,e4⟩:=Kt n x k k1 (by omega) (by omega)
   exact ⟨r,e1,e2,e3,fun h=>(e4 h).1⟩
  obtain ⟨r,j,e1,e2,e3,e4⟩:=Ew e m ⟨h1,h2⟩ (qZ n) hrec fuel 0 1 (Int.le_refl _) h1 (ad4 _) (by unfold fuel;omega) (by omega)
  refine ⟨r,?_,e2,e3,fun hr=>?_⟩
  ·show xx (qZ n) e m=_
   unfold xx
   rw [show ((0:Nat):Int)=0 from rfl] at e1
   rw [e1];rfl
  ·obtain ⟨f1,f2⟩:=e4 hr
   rw [List.drop_zero] at f2
   refine ⟨?_,by omega,f2⟩
   obtain ⟨k,hk⟩ : ∃ k,r.toNat=k+1:=⟨r.toNat-1,by omega⟩
   rw [hk]
   refine ⟨by omega,fun x hx=>?_⟩
   have:=f2 x hx
   rwa [show (r-1).toNat=k by omega] at this
theorem DT (l:List Ex) : ∃ b,Dr l 200=some b/\(b=true->l.length<=200 /\ ∀ e∈l,eY 200 e):=by
 obtain ⟨r,e1,e2,e3,e4⟩:=Kt fuel (Ex.mk 0 0 ⟨0,0,ByteArray.empty⟩ ByteArray.empty l) 202 (by omega) (by omega) (by unfold fuel;omega)
 refine ⟨decide (r<=201),?_,fun h=>?_⟩
 ·unfold Dr
  rw [fJ (by omega),fJ (by omega)]
  show (qZ fuel (Ex.mk 0 0 ⟨0,0,ByteArray.empty⟩ ByteArray.empty l) 202).bind _=_
  rw [e1];rfl
 ·have:=aea h
  obtain ⟨_,f1,f2⟩:=e4 (by omega)
  exact ⟨by have:((l.length:Nat):Int)<r:=f1;omega,fun e he=>jT (by omega) (f2 e he)⟩
theorem J5 {e:Ex} (h:eY 200 e):eY fuel e:=jT (by unfold fuel;omega) h
set_option maxHeartbeats 8000000
def yE (a_l:(List Int)):(Int × Int)->Option (Step (Int × Int) (Int × Bool)):=fun s=>match s with
 | (kind_1,v_2)=>bif (decide (v_2<((a_l.length:Nat):Int))) then (aA a_l v_2).bind fun x_4=>bif (decide (x_4=(0:Int))) then some (.next (kind_1,(IntKind.i64.wrap (v_2+(1:Int))))) else
 bif (decide (kind_1≠(0:Int))) then bif (decide (kind_1≠x_4)) then some (.ret ((0:Int),false)) else
 some (.next (x_4,(IntKind.i64.wrap (v_2+(1:Int))))) else
 some (.next (x_4,(IntKind.i64.wrap (v_2+(1:Int))))) else
 some (.exit (kind_1,v_2))
def sS:Sum (Int × Int) (Int × Bool)->Option ((Int × Bool))
 | .inl (kind_1,v_2)=>some (kind_1,true)
 | .inr q=>some q
def kK (a_l:(List Int)):Option (Int × Bool):=(az (yE a_l) fuel ((0:Int),(0:Int))).bind (sS)
theorem iZ {a_l:(List Int)} {r:Int × Bool} (H:kK a_l=some r):Pure Tryz.prog 163 [.one (.lst (a_l.map (fun x=>[AC.int .i64 x])))] (.tup [.one (.int .i64 r.1), .one (.bool r.2)]):=by
 unfold kK at H
 refine po_ Tryz.func163 Tryz.ntmps163 ?_
 refine bv ?_
 refine alM_ (fun s:Int × Int=>match s with|(kind_1,v_2)=>[(4, .one (.c (.int .i64 kind_1))),(7, .one (.c (.lst (a_l.map (fun x=>[AC.int .i64 x]))))),(8, .one (.c (.int .i64 ((a_l.length:Nat):Int)))),(9, .one (.c (.int .i64 v_2)))]) (fun s=>match s with|(kind_1,v_2)=>[]) H (fun _=>ad4 _)
  (fm_ dL [] rfl bL trivial) ?_
 rintro ⟨kind_1,v_2⟩ st1 hb1 hk1
 unfold yE at hb1
 dsimp only at hb1 ⊢
 rcases aa hb1 with ⟨q_3,hb1⟩|⟨q_3,hb1⟩
 ·obtain ⟨x_4,i1z,i1,i1x,hb1⟩:=aR (f:=(fun x=>[AC.int .i64 x])) hb1
  rcases aa hb1 with ⟨q_5,hb1⟩|⟨q_5,hb1⟩
  ·cases hb1
   refine bv ?_
   exact ⟨_,rfl,fm_ dL [] rfl bL trivial⟩
  rcases aa hb1 with ⟨q_6,hb1⟩|⟨q_6,hb1⟩
  ·rcases aa hb1 with ⟨q_7,hb1⟩|⟨q_7,hb1⟩
   ·cases hb1
    have hx1:sS (.inr ((0:Int),false))=some _:=hk1
    unfold sS at hx1
    dsimp only at hx1
    cases hx1
    exact af
   cases hb1
   refine bv ?_
   exact ⟨_,rfl,fm_ dL [] rfl bL trivial⟩
  cases hb1
  refine bv ?_
  exact ⟨_,rfl,fm_ dL [] rfl bL trivial⟩
 cases hb1
 have hx1:sS (.inl (kind_1,v_2))=some _:=hk1
 unfold sS at hx1
 dsimp only at hx1
 cases hx1
 exact af
def adx:TI := { tab with owns:=fun f=>f==186||tab.owns f }
theorem S9:TIok Tryz.prog adx:=⟨tab_ok.size,tab_ok.agg,tab_ok.elem,tab_ok.field,tab_ok.zero,tab_ok.bytes,tab_ok.kind,tab_ok.struct,tab_ok.zok,tab_ok.eqs⟩
theorem Us (l:List Int) : ∀ e∈l.map (fun x=>[AC.int .i64 x]),e.length=1:=by intro e he;obtain ⟨x,_,rfl⟩:=aeh.1 he;rfl
theorem Rl (l:List Int) (h0:l≠[]) (hl:l.length<=1000000):Run Tryz.prog 186 [] [.one (.c (acA l))] [.spare l.length 1] (.one (.own (l.map fun x=>[AC.int .i64 x]) 0)):=by
 refine dV tab_ok Tryz.func186 rfl rfl Tryz.ntmps186 (by simp) ?_
 simp only [ut]
 obtain ⟨x,r,rfl⟩ : ∃ x r',l=x::r':=by cases l with|nil=>exact absurd rfl h0|cons x r=>exact ⟨x,r,rfl⟩
 have hw:=Us (x::r)
 have hlen:((x::r).map fun x=>[AC.int .i64 x]).length=r.length+1:=by simp
 simp only [ad5] at hl
 repeat' (first
  | refine st_nil ?_
  | (refine aP rfl rfl rfl rfl ?_ ?_; · (repeat' (first|exact trivial|rfl|exact adS rfl|omega|exact hw|(rw [hlen];omega)|apply And.intro)))
  | (refine aT rfl rfl rfl rfl ?_ ?_; · (repeat' (first|exact trivial|rfl|exact adS rfl|omega|exact hw|(rw [hlen];omega)|apply And.intro)))
  | (refine sS_ rfl rfl rfl ?_ ?_; · (repeat' (first|exact trivial|rfl|exact adS rfl|omega|exact hw|(rw [hlen];omega)|apply And.intro)))
  | (refine aS rfl rfl rfl rfl ?_ ?_; · (repeat' (first|exact trivial|rfl|exact adS rfl|omega|exact hw|(rw [hlen];omega)|apply And.intro)))
  | refine aK rfl rfl rfl ?_
  | refine sk0_ rfl rfl ?_
  | (refine bF rfl (fun hb=>?_) (fun hb=>?_)<;>(first|exact (fx_ hb).elim|rw [hb]))
  | refine aw_seq ?_
  | refine aw_region tab_ok _ rfl ?_
  | refine aw_drawn2 tabS_ok _ rfl mixed (by decide +kernel) ?_
  | (refine aJ rfl (fun hb=>?_) (fun hb=>?_)<;>(try exact (fx_ hb).elim))
  | refine aw_block ?_
  | refine aw_exit ?_
  | refine aw_ret ?_
  | refine aw_skip ?_
  | (refine fw rfl rfl rfl rfl rfl (Ih rfl rfl (tab_ok.kind 22 _ rfl)) ?_))
 all_goals exact ⟨.inr rfl,⟨.inl ⟨2,rfl,rfl⟩,⟨[],by rw [aeg];exact congrArg (fun n=>[Ob.spare n 1]) (by simp)⟩,ad4 _,cz ⟨trivial,trivial⟩,by show 0<1;omega⟩⟩
def Px (l:List Int):Bool := !l.isEmpty&&decide (l.length<=100000)
theorem Yo {l:List Int} (h:Px l=true):l≠[]/\l.length<=100000:=by
 unfold Px at h
 rw [ad1] at h
 refine ⟨?_,aea h.2⟩
 rintro rfl
 exact absurd h.1 (by decide)
theorem Vs {a b:Bool} (h:a=b):(CV.val (.one (.bool a))) = .val (.one (.bool b)):=by rw [h]
def wo (l:List Int) (k:Int):Option Bool:=bif Px l then (kK (l++[k])).bind fun r=>some (bif r.2 then decide (r.1=k) else false) else none
theorem mh {l:List Int} {k:Int} {r:Bool} (H:wo l k=some r):Pure Tryz.prog 162 [.one (.lst (l.map (fun x=>[AC.int .i64 x]))), .one (.int .i64 k)] (.val (.one (.bool r))):=by
 unfold wo at H
 obtain ⟨g,H⟩:=oN H
 refine pa_ S9 Tryz.func162 rfl rfl Tryz.ntmps162 (by simp) ?_
 simp only [argT,PV.av,adT,adX]
 obtain ⟨h0,hl⟩:=Yo g
 obtain ⟨⟨u1,u2⟩,hun,H⟩:=bd_ H
 replace hun:=iZ hun
 have htI:(l++[k]).map (fun x=>[AC.int .i64 x])=(l.map fun x=>[AC.int .i64 x])++[[.int .i64 k]]:=by simp
 rw [htI] at hun
 have hun':Pure Tryz.prog 163 [.one (.lst ((l.map fun x=>[AC.int .i64 x])++[[.int .i64 k]]))] (.tup [.one (.int .i64 u1), .one (.bool u2)]):=hun
 obtain rfl:=aee H
 have hlm:(l.map fun x=>[AC.int .i64 x]).length=l.length:=by simp
 repeat' (first
  | refine st_nil ?_
  | (refine aP rfl rfl rfl rfl ?_ ?_; · (repeat' (first|exact trivial|rfl|exact adS rfl|omega|(intro e he;simp at he;subst he;rfl)|exact hlm|(show (_+1)*8<=_;omega)|(show _+1<=_;omega)|apply And.intro)))
  | (refine aT rfl rfl rfl rfl ?_ ?_; · (repeat' (first|exact trivial|rfl|exact adS rfl|omega|(intro e he;simp at he;subst he;rfl)|exact hlm|(show (_+1)*8<=_;omega)|(show _+1<=_;omega)|apply And.intro)))
  | (refine sS_ rfl rfl rfl ?_ ?_; · (repeat' (first|exact trivial|rfl|exact adS rfl|omega|(intro e he;simp at he;subst he;rfl)|exact hlm|(show (_+1)*8<=_;omega)|(show _+1<=_;omega)|apply And.intro)))
  | (refine aS rfl rfl rfl rfl ?_ ?_; · (repeat' (first|exact trivial|rfl|exact adS rfl|omega|(intro e he;simp at he;subst he;rfl)|exact hlm|(show (_+1)*8<=_;omega)|(show _+1<=_;omega)|apply And.intro)))
  | refine aK rfl rfl rfl ?_
  | refine sk0_ rfl rfl ?_
  | refine cK rfl rfl rfl rfl hun' rfl ?_
  | (refine lH [] (r' := .one (.own (l.map fun x=>[AC.int .i64 x]) 0)) (L':=[.spare l.length 1]) rfl rfl rfl rfl (Rl l h0 (by omega)) rfl ⟨rfl,by simp,fun i x hx=>by simp at hx,fun x hx=>by simp at hx,uh ⟨trivial,trivial⟩⟩ rfl rfl ?_)
  | (refine bF rfl (fun hb=>?_) (fun hb=>?_)<;>(first|exact (fx_ hb).elim|rw [hb]))
  | refine aw_seq ?_
  | refine aw_region S9 _ rfl ?_
  | refine aw_drawn2 tabS_ok _ rfl mixed (by decide +kernel) ?_
  | (refine aJ rfl (fun hb=>?_) (fun hb=>?_)<;>(try exact (fx_ hb).elim))
  | refine aw_block ?_
  | refine aw_exit ?_
  | refine aw_ret ?_
  | refine aw_skip ?_)
 all_goals (refine bE (bR rfl (by trivial) (Vs ?_));simp only [*, adK,adJ])
def gRsP (a_e:Ex) (a_l:(List Int)):Option (Int × Bool):=bif (decide (a_e.op=(1:Int))) then some (a_e.v.kind,true) else
 bif (decide (a_e.op=(4:Int))) then (wo a_l (3:Int)).bind fun r_3=>some ((3:Int),r_3) else
 bif (decide (a_e.op=(5:Int))) then (wo a_l (3:Int)).bind fun r_5=>some ((3:Int),r_5) else
 bif (decide (a_e.op=(6:Int))) then (wo a_l (3:Int)).bind fun r_7=>some ((3:Int),r_7) else
 bif (decide (a_e.op=(7:Int))) then (kK a_l).bind fun r_9=>some ((3:Int),r_9.2) else
 bif (decide (a_e.op=(8:Int))) then (kK a_l).bind fun r_11=>some ((3:Int),r_11.2) else
 bif (decide (a_e.op=(9:Int))) then (kK a_l).bind fun r_13=>some ((3:Int),r_13.2) else
 bif (decide (a_e.op=(10:Int))) then (kK a_l).bind fun r_15=>some ((3:Int),r_15.2) else
 bif (decide (a_e.op=(11:Int))) then (kK a_l).bind fun r_17=>some ((3:Int),r_17.2) else
 bif (decide (a_e.op=(12:Int))) then (kK a_l).bind fun r_19=>some ((3:Int),r_19.2) else
 bif (decide (a_e.op=(19:Int))) then (wo a_l (2:Int)).bind fun r_21=>some ((2:Int),r_21) else
 bif (decide (a_e.op=(20:Int))) then (wo a_l (2:Int)).bind fun r_23=>some ((1:Int),r_23) else
 bif (decide (a_e.op=(21:Int))) then some ((3:Int),true) else
 bif (decide (a_e.op=(22:Int))) then (jI a_l (1:Int) ((a_l.length:Nat):Int)).bind fun s_26=>(kK s_26).bind fun r_27=>bif r_27.2 then (jI a_l (0:Int) (1:Int)).bind fun s_29=>(wo s_29 (3:Int)).bind fun r_30=>some (r_27.1,r_30) else
 some (r_27.1,false) else
 bif (decide (a_e.op=(23:Int))) then (kK a_l).bind fun r_32=>some (r_32.1,r_32.2) else
 bif (decide (a_e.op=(24:Int))) then (wo a_l (1:Int)).bind fun r_34=>some ((3:Int),r_34) else
 (wo a_l (1:Int)).bind fun r_35=>some ((1:Int),r_35)
theorem O6 {a_e:Ex} {a_l:(List Int)} {r:Int × Bool} (H:gRsP a_e a_l=some r):Pure Tryz.prog 123 [.agg (tE a_e), .one (.lst (a_l.map (fun x=>[AC.int .i64 x])))] (.tup [.one (.int .i64 r.1), .one (.bool r.2)]):=by
 unfold gRsP at H
 rw [aj a_e]
 refine po_ Tryz.func123 Tryz.ntmps123 ?_
 rcases aa H with ⟨q_1,H⟩|⟨q_1,H⟩
 ·cases H
  exact af
 rcases aa H with ⟨q_2,H⟩|⟨q_2,H⟩
 ·obtain ⟨r_3,c1,H⟩:=bd_ H
  replace c1:=mh c1
  cases H
  exact af
 refine bv ?_
 rcases aa H with ⟨q_4,H⟩|⟨q_4,H⟩
 ·obtain ⟨r_5,c2,H⟩:=bd_ H
  replace c2:=mh c2
  cases H
  exact af
 rcases aa H with ⟨q_6,H⟩|⟨q_6,H⟩
 ·obtain ⟨r_7,c3,H⟩:=bd_ H
  replace c3:=mh c3
  cases H
  exact af
 rcases aa H with ⟨q_8,H⟩|⟨q_8,H⟩
 ·obtain ⟨r_9,c4,H⟩:=bd_ H
  replace c4:=iZ c4
  cases H
  exact af
 refine bv ?_
 rcases aa H with ⟨q_10,H⟩|⟨q_10,H⟩
 ·obtain ⟨r_11,c5,H⟩:=bd_ H
  replace c5:=iZ c5
  cases H
  exact af
 rcases aa H with ⟨q_12,H⟩|⟨q_12,H⟩
 ·obtain ⟨r_13,c6,H⟩:=bd_ H
  replace c6:=iZ c6
  cases H
  exact af
 rcases aa H with ⟨q_14,H⟩|⟨q_14,H⟩
 ·obtain ⟨r_15,c7,H⟩:=bd_ H
  replace c7:=iZ c7
  cases H
  exact af
 refine bv ?_
 rcases aa H with ⟨q_16,H⟩|⟨q_16,H⟩
 ·obtain ⟨r_17,c8,H⟩:=bd_ H
  replace c8:=iZ c8
  cases H
  exact af
 rcases aa H with ⟨q_18,H⟩|⟨q_18,H⟩
 ·obtain ⟨r_19,c9,H⟩:=bd_ H
  replace c9:=iZ c9
  cases H
  exact af
 rcases aa H with ⟨q_20,H⟩|⟨q_20,H⟩
 ·obtain ⟨r_21,c10,H⟩:=bd_ H
  replace c10:=mh c10
  cases H
  exact af
 refine bv ?_
 rcases aa H with ⟨q_22,H⟩|⟨q_22,H⟩
 ·obtain ⟨r_23,c11,H⟩:=bd_ H
  replace c11:=mh c11
  cases H
  exact af
 rcases aa H with ⟨q_24,H⟩|⟨q_24,H⟩
 ·cases H
  exact af
 rcases aa H with ⟨q_25,H⟩|⟨q_25,H⟩
 ·obtain ⟨s_26,u12,H⟩:=bd_ H
  obtain ⟨⟨u12a,u12b,u12c⟩,u12⟩:=fq u12
  have u12x:=EM (f:=(fun x=>[AC.int .i64 x])) u12
  obtain ⟨r_27,c13,H⟩:=bd_ H
  replace c13:=iZ c13
  repeat' (first|refine gs_ ?_|rw [u12x]|rw [show ((0:Nat):Int)=0 from rfl])
  rcases aa H with ⟨q_28,H⟩|⟨q_28,H⟩
  ·obtain ⟨s_29,u14,H⟩:=bd_ H
   obtain ⟨⟨u14a,u14b,u14c⟩,u14⟩:=fq u14
   have u14x:=EM (f:=(fun x=>[AC.int .i64 x])) u14
   obtain ⟨r_30,c15,H⟩:=bd_ H
   replace c15:=mh c15
   cases H
   repeat' (first|refine gs_ ?_|rw [u12x]|rw [u14x]|rw [show ((0:Nat):Int)=0 from rfl])
   refine bE (bR rfl ?_ ?_)
   ·repeat' (first|exact trivial|rfl|exact adS rfl|omega|apply And.intro)
   ·first|rfl|(simp only [adV,adT,adX,adN]<;>rfl)
  cases H
  repeat' (first|refine gs_ ?_|rw [u12x]|rw [show ((0:Nat):Int)=0 from rfl])
  refine bE (bR rfl ?_ ?_)
  ·repeat' (first|exact trivial|rfl|exact adS rfl|omega|apply And.intro)
  ·first|rfl|(simp only [adV,adT,adX,adN]<;>rfl)
 refine bv ?_
 rcases aa H with ⟨q_31,H⟩|⟨q_31,H⟩
 ·obtain ⟨r_32,c16,H⟩:=bd_ H
  replace c16:=iZ c16
  cases H
  exact af
 rcases aa H with ⟨q_33,H⟩|⟨q_33,H⟩
 ·obtain ⟨r_34,c17,H⟩:=bd_ H
  replace c17:=mh c17
  cases H
  exact af
 obtain ⟨r_35,c18,H⟩:=bd_ H
 replace c18:=mh c18
 cases H
 exact af
def gz (a_e:Ex) (a_most:Int) (rec:Ex->Int->Option Int):(Int × Int)->Option (Step (Int × Int) (Int)):=fun s=>match s with
 | (n_2,v_3)=>bif (decide (v_3<((a_e.args.length:Nat):Int))) then (aA a_e.args v_3).bind fun x_5=>(rec x_5 (IntKind.i64.wrap (a_most-(1:Int)))).bind fun r_6=>some (.next ((zg n_2 (IntKind.i64.wrap ((1:Int)+r_6))),(IntKind.i64.wrap (v_3+(1:Int))))) else
 some (.exit (n_2,v_3))
def yf:Sum (Int × Int) (Int)->Option ((Int))
 | .inl (n_2,v_3)=>some n_2
 | .inr q=>some q
def xc (rec:Ex->Int->Option Int) (a_e:Ex) (a_most:Int):Option (Int):=bif (decide (a_most<=(1:Int))) then some (1:Int) else
 (az (gz a_e a_most rec) fuel ((1:Int),(0:Int))).bind (yf)
theorem Qk {rec:Ex->Int->Option Int}  (hrec : ∀ {x:Ex} {y:Int} {r:Int}, rec x y=some r->Pure Tryz.prog 121 [.agg (tE x), .one (.int .i64 y)] (.val (.one (.int .i64 r)))) {a_e:Ex} {a_most:Int} {r:Int} (H:xc rec a_e a_most=some r):Pure Tryz.prog 121 [.agg (tE a_e), .one (.int .i64 a_most)] (.val (.one (.int .i64 r))):=by
 unfold xc at H
 rw [aj a_e]
 refine po_ Tryz.func121 Tryz.ntmps121 ?_
 rcases aa H with ⟨q_1,H⟩|⟨q_1,H⟩
 ·cases H
  exact af
 refine bv ?_
 refine alM_ (fun s:Int × Int=>match s with|(n_2,v_3)=>[(1, .one (.c (.int .i64 a_most))),(5, .one (.c (.int .i64 n_2))),(11, .one (.c (.lst (a_e.args.map tE)))),(12, .one (.c (.int .i64 ((a_e.args.length:Nat):Int)))),(13, .one (.c (.int .i64 v_3)))]) (fun s=>match s with|(n_2,v_3)=>[.box [.c (.int .i64 a_e.op), .c (.int .i64 a_e.int), .c (.int .i64 a_e.v.kind), .c (.int .i64 a_e.v.int), .c (.str a_e.v.text), .c (.str a_e.nm), .c (.lst (a_e.args.map tE))]]) H (fun _=>ad4 _)
  (fm_ dL [] rfl bL cZ) ?_
 rintro ⟨n_2,v_3⟩ st1 hb1 hk1
 unfold gz at hb1
 dsimp only at hb1 ⊢
 rcases aa hb1 with ⟨q_4,hb1⟩|⟨q_4,hb1⟩
 ·obtain ⟨x_5,i1z,i1,i1x,hb1⟩:=aR (f:=tE) hb1
  simp only [adV,adT,adX,adN,aj] at i1x
  obtain ⟨r_6,c2,hb1⟩:=bd_ hb1
  replace c2:=hrec c2
  try simp only [adV,adT,adX,adN,aj] at c2
  cases hb1
  refine bv ?_
  exact ⟨_,rfl,fm_ dL [_] rfl bL cZ⟩
 cases hb1
 have hx1:yf (.inl (n_2,v_3))=some _:=hk1
 unfold yf at hx1
 dsimp only at hx1
 cases hx1
 exact af
def wm:Nat->Ex->Int->Option Int
 | 0,_,_=>none
 | n+1,x,y=>xc (wm n) x y
theorem Hq : ∀ (n:Nat) {x:Ex} {y:Int} {r:Int}, wm n x y=some r->Pure Tryz.prog 121 [.agg (tE x), .one (.int .i64 y)] (.val (.one (.int .i64 r)))
 | 0,_,_,_,h=>nomatch h
 | n+1,_,_,_,h=>Qk (Hq n) h
def TJ (a_e:Ex):Option (Int):=(wm fuel a_e (25:Int)).bind fun r_1=>some r_1
theorem XM {a_e:Ex} {r:Int} (H:TJ a_e=some r):Pure Tryz.prog 76 [.agg (tE a_e)] (.val (.one (.int .i64 r))):=by
 unfold TJ at H
 rw [aj a_e]
 refine po_ Tryz.func76 Tryz.ntmps76 ?_
 obtain ⟨r_1,c1,H⟩:=bd_ H
 replace c1:=Hq fuel c1
 try simp only [adV,adT,adX,adN,aj] at c1
 cases H
 exact af
def q9 (a_e:Ex) (a_kinds:(List Int)) (rec:Ex->List Int->Option (Int × Int)):((List Int) × Int)->Option (Step ((List Int) × Int) (Int × Int)):=fun s=>match s with
 | (l_9,v_10)=>bif (decide (v_10<((a_e.args.length:Nat):Int))) then (aA a_e.args v_10).bind fun x_12=>(rec x_12 a_kinds).bind fun r_13=>bif (decide (r_13.2≠(0:Int))) then some (.ret ((0:Int),r_13.2)) else
 bif (decide (l_9.length+1<=17592186044416)) then (some (.next ((l_9++[r_13.1]),(IntKind.i64.wrap (v_10+(1:Int)))))) else none else
 some (.exit (l_9,v_10))
def jN (a_e:Ex):Sum ((List Int) × Int) (Int × Int)->Option ((Int × Int))
 | .inl (l_9,v_10)=>(gRsP a_e l_9).bind fun r_15=>bif (!r_15.2) then some ((0:Int),(7:Int)) else
 some (r_15.1,(0:Int))
 | .inr q=>some q
def xm (rec:Ex->List Int->Option (Int × Int)) (a_e:Ex) (a_kinds:(List Int)):Option (Int × Int):=(vH a_e.op ((a_e.args.length:Nat):Int)).bind fun r_1=>bif (!r_1.2) then some ((0:Int),(7:Int)) else
 (qw a_e).bind fun r_3=>bif (!r_3) then some ((0:Int),(8:Int)) else
 bif (decide (a_e.op=(2:Int))) then bif (decide (a_e.int<(0:Int))) then some ((0:Int),(13:Int)) else
 bif (decide (((a_kinds.length:Nat):Int)<=a_e.int)) then some ((0:Int),(13:Int)) else
 (aA a_kinds a_e.int).bind fun x_8=>some (x_8,(0:Int)) else
 (az (q9 a_e a_kinds rec) fuel ([],(0:Int))).bind (jN a_e)
theorem NV {rec:Ex->List Int->Option (Int × Int)}  (hrec : ∀ {x:Ex} {y:List Int} {r:Int × Int}, rec x y=some r->Pure Tryz.prog 77 [.agg (tE x), .one (.lst (y.map (fun x=>[AC.int .i64 x])))] (.tup [.one (.int .i64 r.1), .one (.int .i64 r.2)])) {a_e:Ex} {a_kinds:(List Int)} {r:Int × Int} (H:xm rec a_e a_kinds=some r):Pure Tryz.prog 77 [.agg (tE a_e), .one (.lst (a_kinds.map (fun x=>[AC.int .i64 x])))] (.tup [.one (.int .i64 r.1), .one (.int .i64 r.2)]):=by
 unfold xm at H
 rw [aj a_e]
 refine po_ Tryz.func77 Tryz.ntmps77 ?_
 obtain ⟨r_1,c1,H⟩:=bd_ H
 replace c1:=He c1
 rcases aa H with ⟨q_2,H⟩|⟨q_2,H⟩
 ·cases H
  exact af
 obtain ⟨r_3,c2,H⟩:=bd_ H
 replace c2:=GG c2
 try simp only [adV,adT,adX,adN,aj] at c2
 rcases aa H with ⟨q_4,H⟩|⟨q_4,H⟩
 ·cases H
  exact af
 rcases aa H with ⟨q_5,H⟩|⟨q_5,H⟩
 ·rcases aa H with ⟨q_6,H⟩|⟨q_6,H⟩
  ·cases H
   exact af
  rcases aa H with ⟨q_7,H⟩|⟨q_7,H⟩
  ·cases H
   exact af
  obtain ⟨x_8,i3z,i3,i3x,H⟩:=aR (f:=(fun x=>[AC.int .i64 x])) H
  cases H
  exact af
 refine bv ?_
 refine dz 8 1 rfl ?_
 refine alM_ (fun s:(List Int) × Int=>match s with|(l_9,v_10)=>[(1, .one (.c (.lst (a_kinds.map (fun x=>[AC.int .i64 x]))))),(2, .one (.ptr 0 0)),(8, .one (.own (l_9.map (fun x=>[AC.int .i64 x])) 1)),(48, .one (.c (.lst (a_e.args.map tE)))),(49, .one (.c (.int .i64 ((a_e.args.length:Nat):Int)))),(50, .one (.c (.int .i64 v_10)))]) (fun s=>match s with|(l_9,v_10)=>[.box [.c (.int .i64 a_e.op), .c (.int .i64 a_e.int), .c (.int .i64 a_e.v.kind), .c (.int .i64 a_e.v.int), .c (.str a_e.v.text), .c (.str a_e.nm), .c (.lst (a_e.args.map tE))], .spare l_9.length 1]) H (fun _=>ad4 _)
  (fm_ dL [] rfl bL cZ) ?_
 rintro ⟨l_9,v_10⟩ st1 hb1 hk1
 unfold q9 at hb1
 dsimp only at hb1 ⊢
 rcases aa hb1 with ⟨q_11,hb1⟩|⟨q_11,hb1⟩
 ·obtain ⟨x_12,i4z,i4,i4x,hb1⟩:=aR (f:=tE) hb1
  simp only [adV,adT,adX,adN,aj] at i4x
  obtain ⟨r_13,c5,hb1⟩:=bd_ hb1
  replace c5:=hrec c5
  try simp only [adV,adT,adX,adN,aj] at c5
  rcases aa hb1 with ⟨q_14,hb1⟩|⟨q_14,hb1⟩
  ·cases hb1
   have hx1:jN a_e (.inr ((0:Int),r_13.2))=some _:=hk1
   unfold jN at hx1
   dsimp only at hx1
   cases hx1
   exact af
  obtain ⟨g6,hb1⟩:=bu hb1
  cases hb1
  refine bv ?_
  exact ⟨_,rfl,fm_ kM [_] jY bL cZ⟩
 cases hb1
 have hx1:jN a_e (.inl (l_9,v_10))=some _:=hk1
 unfold jN at hx1
 dsimp only at hx1
 obtain ⟨r_15,c7,hx1⟩:=bd_ hx1
 replace c7:=O6 c7
 try simp only [adV,adT,adX,adN,aj] at c7
 rcases aa hx1 with ⟨q_16,hx1⟩|⟨q_16,hx1⟩
 ·cases hx1
  exact af
 cases hx1
 exact af
def uE:Nat->Ex->List Int->Option (Int × Int)
 | 0,_,_=>none
 | n+1,x,y=>xm (uE n) x y
theorem IQ : ∀ (n:Nat) {x:Ex} {y:List Int} {r:Int × Int}, uE n x y=some r->Pure Tryz.prog 77 [.agg (tE x), .one (.lst (y.map (fun x=>[AC.int .i64 x])))] (.tup [.one (.int .i64 r.1), .one (.int .i64 r.2)])
 | 0,_,_,_,h=>nomatch h
 | n+1,_,_,_,h=>NV (IQ n) h
def KN (a_e:Ex) (a_kinds:(List Int)):Option (Int × Int):=(TJ a_e).bind fun r_1=>bif (decide ((24:Int)<r_1)) then some ((0:Int),(26:Int)) else
 (uE fuel a_e a_kinds).bind fun r_3=>some (r_3.1,r_3.2)
theorem Wz {a_e:Ex} {a_kinds:(List Int)} {r:Int × Int} (H:KN a_e a_kinds=some r):Pure Tryz.prog 48 [.agg (tE a_e), .one (.lst (a_kinds.map (fun x=>[AC.int .i64 x])))] (.tup [.one (.int .i64 r.1), .one (.int .i64 r.2)]):=by
 unfold KN at H
 rw [aj a_e]
 refine po_ Tryz.func48 Tryz.ntmps48 ?_
 obtain ⟨r_1,c1,H⟩:=bd_ H
 replace c1:=XM c1
 try simp only [adV,adT,adX,adN,aj] at c1
 rcases aa H with ⟨q_2,H⟩|⟨q_2,H⟩
 ·cases H
  exact af
 obtain ⟨r_3,c2,H⟩:=bd_ H
 replace c2:=IQ fuel c2
 try simp only [adV,adT,adX,adN,aj] at c2
 cases H
 exact af
end Go.Proofs.YtfccopdbgfdcdaaGreatDoor
