/- Parts of the proof, joined. No condition. -/
import Derived.Test.YtfpbmfalamappaaGreatDoorKAA
import Derived.Test.YtfpbmfalamappaaGreatDoorKAR
set_option linter.unusedSimpArgs false
set_option linter.unusedVariables false
namespace Go.Proofs.YtfpbmfalamappaaGreatDoor
open Go.RowKit Go.MapKept
set_option maxRecDepth 100000
set_option maxHeartbeats 8000000
def wM (a_l:(List Int)) (a_kind:Int):(Int)->Option (Step (Int) (Bool)):=fun s=>match s with
 | i_1=>bif (decide (i_1<((a_l.length:Nat):Int))) then (aL a_l i_1).bind fun x_3=>bif (decide (x_3≠a_kind)) then bif (decide (x_3≠(0:Int))) then some (.ret false) else
 some (.next (IntKind.i64.wrap (i_1+(1:Int)))) else
 some (.next (IntKind.i64.wrap (i_1+(1:Int)))) else
 some (.exit i_1)
def qG:Sum (Int) (Bool)->Option ((Bool))
 | .inl i_1=>some true
 | .inr q=>some q
def iA (a_l:(List Int)) (a_kind:Int):Option (Bool):=(ax (wM a_l a_kind) fuel (0:Int)).bind (qG)
theorem dZ {a_l:(List Int)} {a_kind:Int} {r:Bool} (H:iA a_l a_kind=some r):Pure Tryz.prog 178 [.one (.lst (a_l.map (fun x=>[AC.int .i64 x]))), .one (.int .i64 a_kind)] (.val (.one (.bool r))):=by
 unfold iA at H
 refine po_ Tryz.func178 Tryz.ntmps178 ?_
 refine bC ?_
 refine alM_ (fun s:Int=>match s with|i_1=>[(0, .one (.c (.lst (a_l.map (fun x=>[AC.int .i64 x]))))),(1, .one (.c (.int .i64 a_kind))),(5, .one (.c (.int .i64 i_1)))]) (fun s=>match s with|i_1=>[]) H (fun _=>abv _)
  (fm_ bV [] rfl bE trivial) ?_
 rintro i_1 st1 hb1 hk1
 unfold wM at hb1
 dsimp only at hb1 ⊢
 rcases cnd_ hb1 with ⟨q_2,hb1⟩|⟨q_2,hb1⟩
 ·obtain ⟨x_3,i1z,i1,i1x,hb1⟩:=aX (f:=(fun x=>[AC.int .i64 x])) hb1
  rcases cnd_ hb1 with ⟨q_4,hb1⟩|⟨q_4,hb1⟩
  ·rcases cnd_ hb1 with ⟨q_5,hb1⟩|⟨q_5,hb1⟩
   ·cases hb1
    have hx1:qG (.inr false)=some _:=hk1
    unfold qG at hx1
    dsimp only at hx1
    cases hx1
    exact go_
   cases hb1
   refine bC ?_
   exact ⟨_,rfl,fm_ bV [] rfl bE trivial⟩
  cases hb1
  refine bC ?_
  exact ⟨_,rfl,fm_ bV [] rfl bE trivial⟩
 cases hb1
 have hx1:qG (.inl i_1)=some _:=hk1
 unfold qG at hx1
 dsimp only at hx1
 cases hx1
 exact go_
def GA (a_l:(List Int)):(Int × Int)->Option (Step (Int × Int) (Int × Bool)):=fun s=>match s with
 | (k_1,i_2)=>bif (decide (i_2<((a_l.length:Nat):Int))) then (aL a_l i_2).bind fun x_4=>bif (decide (x_4=(0:Int))) then some (.next (k_1,(IntKind.i64.wrap (i_2+(1:Int))))) else
 bif (decide (k_1≠(0:Int))) then bif (decide (k_1≠x_4)) then some (.ret ((0:Int),false)) else
 some (.next (x_4,(IntKind.i64.wrap (i_2+(1:Int))))) else
 some (.next (x_4,(IntKind.i64.wrap (i_2+(1:Int))))) else
 some (.exit (k_1,i_2))
def ou:Sum (Int × Int) (Int × Bool)->Option ((Int × Bool))
 | .inl (k_1,i_2)=>some (k_1,true)
 | .inr q=>some q
def jv (a_l:(List Int)):Option (Int × Bool):=(ax (GA a_l) fuel ((0:Int),(0:Int))).bind (ou)
theorem iJ {a_l:(List Int)} {r:Int × Bool} (H:jv a_l=some r):Pure Tryz.prog 179 [.one (.lst (a_l.map (fun x=>[AC.int .i64 x])))] (.tup [.one (.int .i64 r.1), .one (.bool r.2)]):=by
 unfold jv at H
 refine po_ Tryz.func179 Tryz.ntmps179 ?_
 refine bC ?_
 refine alM_ (fun s:Int × Int=>match s with|(k_1,i_2)=>[(0, .one (.c (.lst (a_l.map (fun x=>[AC.int .i64 x]))))),(4, .one (.c (.int .i64 k_1))),(5, .one (.c (.int .i64 i_2)))]) (fun s=>match s with|(k_1,i_2)=>[]) H (fun _=>abv _)
  (fm_ bV [] rfl bE trivial) ?_
 rintro ⟨k_1,i_2⟩ st1 hb1 hk1
 unfold GA at hb1
 dsimp only at hb1 ⊢
 rcases cnd_ hb1 with ⟨q_3,hb1⟩|⟨q_3,hb1⟩
 ·obtain ⟨x_4,i1z,i1,i1x,hb1⟩:=aX (f:=(fun x=>[AC.int .i64 x])) hb1
  rcases cnd_ hb1 with ⟨q_5,hb1⟩|⟨q_5,hb1⟩
  ·cases hb1
   refine bC ?_
   exact ⟨_,rfl,fm_ bV [] rfl bE trivial⟩
  rcases cnd_ hb1 with ⟨q_6,hb1⟩|⟨q_6,hb1⟩
  ·rcases cnd_ hb1 with ⟨q_7,hb1⟩|⟨q_7,hb1⟩
   ·cases hb1
    have hx1:ou (.inr ((0:Int),false))=some _:=hk1
    unfold ou at hx1
    dsimp only at hx1
    cases hx1
    exact go_
   cases hb1
   refine bC ?_
   exact ⟨_,rfl,fm_ bV [] rfl bE trivial⟩
  cases hb1
  refine bC ?_
  exact ⟨_,rfl,fm_ bV [] rfl bE trivial⟩
 cases hb1
 have hx1:ou (.inl (k_1,i_2))=some _:=hk1
 unfold ou at hx1
 dsimp only at hx1
 cases hx1
 exact go_
def gRs11 (a_e:Ex) (a_l:(List Int)) (a_kinds:(List Int)):Option (Int × Bool):=bif (decide (a_e.op=(1:Int))) then some (a_e.v.kind,true) else
 bif (decide (a_e.op=(2:Int))) then (aL a_kinds a_e.int).bind fun x_3=>some (x_3,true) else
 bif (decide (a_e.op=(4:Int))) then (iA a_l (3:Int)).bind fun r_5=>some ((3:Int),r_5) else
 bif (decide (a_e.op=(5:Int))) then (iA a_l (3:Int)).bind fun r_7=>some ((3:Int),r_7) else
 bif (decide (a_e.op=(6:Int))) then (iA a_l (3:Int)).bind fun r_9=>some ((3:Int),r_9) else
 bif (decide (a_e.op=(7:Int))) then (jv a_l).bind fun r_11=>some ((3:Int),r_11.2) else
 bif (decide (a_e.op=(8:Int))) then (jv a_l).bind fun r_13=>some ((3:Int),r_13.2) else
 bif (decide (a_e.op=(9:Int))) then (jv a_l).bind fun r_15=>some ((3:Int),r_15.2) else
 bif (decide (a_e.op=(10:Int))) then (jv a_l).bind fun r_17=>some ((3:Int),r_17.2) else
 bif (decide (a_e.op=(11:Int))) then (jv a_l).bind fun r_19=>some ((3:Int),r_19.2) else
 bif (decide (a_e.op=(12:Int))) then (jv a_l).bind fun r_21=>some ((3:Int),r_21.2) else
 bif (decide (a_e.op=(13:Int))) then (iA a_l (1:Int)).bind fun r_23=>some ((1:Int),r_23) else
 bif (decide (a_e.op=(14:Int))) then (iA a_l (1:Int)).bind fun r_25=>some ((1:Int),r_25) else
 bif (decide (a_e.op=(15:Int))) then (iA a_l (1:Int)).bind fun r_27=>some ((1:Int),r_27) else
 bif (decide (a_e.op=(16:Int))) then (iA a_l (1:Int)).bind fun r_29=>some ((1:Int),r_29) else
 bif (decide (a_e.op=(17:Int))) then (iA a_l (1:Int)).bind fun r_31=>some ((1:Int),r_31) else
 bif (decide (a_e.op=(18:Int))) then (iA a_l (1:Int)).bind fun r_33=>some ((1:Int),r_33) else
 bif (decide (a_e.op=(19:Int))) then (iA a_l (2:Int)).bind fun r_35=>some ((2:Int),r_35) else
 bif (decide (a_e.op=(20:Int))) then (iA a_l (2:Int)).bind fun r_37=>some ((1:Int),r_37) else
 bif (decide (a_e.op=(21:Int))) then some ((3:Int),true) else
 bif (decide (a_e.op=(22:Int))) then (jE a_l (1:Int) ((a_l.length:Nat):Int)).bind fun s_40=>(jv s_40).bind fun r_41=>bif r_41.2 then (jE a_l (0:Int) (1:Int)).bind fun s_43=>(iA s_43 (3:Int)).bind fun r_44=>some (r_41.1,r_44) else
 some (r_41.1,false) else
 bif (decide (a_e.op=(23:Int))) then (jv a_l).bind fun r_46=>some (r_46.1,r_46.2) else
 (iA a_l (1:Int)).bind fun r_47=>some ((3:Int),r_47)
theorem Al {a_e:Ex} {a_l:(List Int)} {a_kinds:(List Int)} {r:Int × Bool} (H:gRs11 a_e a_l a_kinds=some r):Pure Tryz.prog 140 [.agg (tE a_e), .one (.lst (a_l.map (fun x=>[AC.int .i64 x]))), .one (.lst (a_kinds.map (fun x=>[AC.int .i64 x])))] (.tup [.one (.int .i64 r.1), .one (.bool r.2)]):=by
 unfold gRs11 at H
 rw [tE_eq a_e]
 refine po_ Tryz.func140 Tryz.ntmps140 ?_
 rcases cnd_ H with ⟨q_1,H⟩|⟨q_1,H⟩
 ·cases H
  exact go_
 rcases cnd_ H with ⟨q_2,H⟩|⟨q_2,H⟩
 ·obtain ⟨x_3,i1z,i1,i1x,H⟩:=aX (f:=(fun x=>[AC.int .i64 x])) H
  cases H
  exact go_
 refine bC ?_
 rcases cnd_ H with ⟨q_4,H⟩|⟨q_4,H⟩
 ·obtain ⟨r_5,c2,H⟩:=bd_ H
  replace c2:=dZ c2
  cases H
  exact go_
 rcases cnd_ H with ⟨q_6,H⟩|⟨q_6,H⟩
 ·obtain ⟨r_7,c3,H⟩:=bd_ H
  replace c3:=dZ c3
  cases H
  exact go_
 rcases cnd_ H with ⟨q_8,H⟩|⟨q_8,H⟩
 ·obtain ⟨r_9,c4,H⟩:=bd_ H
  replace c4:=dZ c4
  cases H
  exact go_
 refine bC ?_
 rcases cnd_ H with ⟨q_10,H⟩|⟨q_10,H⟩
 ·obtain ⟨r_11,c5,H⟩:=bd_ H
  replace c5:=iJ c5
  cases H
  exact go_
 rcases cnd_ H with ⟨q_12,H⟩|⟨q_12,H⟩
 ·obtain ⟨r_13,c6,H⟩:=bd_ H
  replace c6:=iJ c6
  cases H
  exact go_
 rcases cnd_ H with ⟨q_14,H⟩|⟨q_14,H⟩
 ·obtain ⟨r_15,c7,H⟩:=bd_ H
  replace c7:=iJ c7
  cases H
  exact go_
 refine bC ?_
 rcases cnd_ H with ⟨q_16,H⟩|⟨q_16,H⟩
 ·obtain ⟨r_17,c8,H⟩:=bd_ H
  replace c8:=iJ c8
  cases H
  exact go_
 rcases cnd_ H with ⟨q_18,H⟩|⟨q_18,H⟩
 ·obtain ⟨r_19,c9,H⟩:=bd_ H
  replace c9:=iJ c9
  cases H
  exact go_
 rcases cnd_ H with ⟨q_20,H⟩|⟨q_20,H⟩
 ·obtain ⟨r_21,c10,H⟩:=bd_ H
  replace c10:=iJ c10
  cases H
  exact go_
 refine bC ?_
 rcases cnd_ H with ⟨q_22,H⟩|⟨q_22,H⟩
 ·obtain ⟨r_23,c11,H⟩:=bd_ H
  replace c11:=dZ c11
  cases H
  exact go_
 rcases cnd_ H with ⟨q_24,H⟩|⟨q_24,H⟩
 ·obtain ⟨r_25,c12,H⟩:=bd_ H
  replace c12:=dZ c12
  cases H
  exact go_
 rcases cnd_ H with ⟨q_26,H⟩|⟨q_26,H⟩
 ·obtain ⟨r_27,c13,H⟩:=bd_ H
  replace c13:=dZ c13
  cases H
  exact go_
 refine bC ?_
 rcases cnd_ H with ⟨q_28,H⟩|⟨q_28,H⟩
 ·obtain ⟨r_29,c14,H⟩:=bd_ H
  replace c14:=dZ c14
  cases H
  exact go_
 rcases cnd_ H with ⟨q_30,H⟩|⟨q_30,H⟩
 ·obtain ⟨r_31,c15,H⟩:=bd_ H
  replace c15:=dZ c15
  cases H
  exact go_
 rcases cnd_ H with ⟨q_32,H⟩|⟨q_32,H⟩
 ·obtain ⟨r_33,c16,H⟩:=bd_ H
  replace c16:=dZ c16
  cases H
  exact go_
 refine bC ?_
 rcases cnd_ H with ⟨q_34,H⟩|⟨q_34,H⟩
 ·obtain ⟨r_35,c17,H⟩:=bd_ H
  replace c17:=dZ c17
  cases H
  exact go_
 rcases cnd_ H with ⟨q_36,H⟩|⟨q_36,H⟩
 ·obtain ⟨r_37,c18,H⟩:=bd_ H
  replace c18:=dZ c18
  cases H
  exact go_
 rcases cnd_ H with ⟨q_38,H⟩|⟨q_38,H⟩
 ·cases H
  exact go_
 refine bC ?_
 rcases cnd_ H with ⟨q_39,H⟩|⟨q_39,H⟩
 ·obtain ⟨s_40,u19,H⟩:=bd_ H
  obtain ⟨⟨u19a,u19b,u19c⟩,u19⟩:=eO u19
  have u19x:=DD (f:=(fun x=>[AC.int .i64 x])) u19
  obtain ⟨r_41,c20,H⟩:=bd_ H
  replace c20:=iJ c20
  rcases cnd_ H with ⟨q_42,H⟩|⟨q_42,H⟩
  ·obtain ⟨s_43,u21,H⟩:=bd_ H
   obtain ⟨⟨u21a,u21b,u21c⟩,u21⟩:=eO u21
   have u21x:=DD (f:=(fun x=>[AC.int .i64 x])) u21
   obtain ⟨r_44,c22,H⟩:=bd_ H
   replace c22:=dZ c22
   cases H
   repeat' (first|refine gs_ ?_|rw [u19x]|rw [u21x]|rw [show ((0:Nat):Int)=0 from rfl])
   refine aO (aR rfl ?_ ?_)
   ·repeat' (first|exact trivial|rfl|exact abj rfl|omega|apply And.intro)
   ·first|rfl|(simp only [abm,abk,abo,abd]<;>rfl)
  cases H
  repeat' (first|refine gs_ ?_|rw [u19x]|rw [show ((0:Nat):Int)=0 from rfl])
  refine aO (aR rfl ?_ ?_)
  ·repeat' (first|exact trivial|rfl|exact abj rfl|omega|apply And.intro)
  ·first|rfl|(simp only [abm,abk,abo,abd]<;>rfl)
 rcases cnd_ H with ⟨q_45,H⟩|⟨q_45,H⟩
 ·obtain ⟨r_46,c23,H⟩:=bd_ H
  replace c23:=iJ c23
  cases H
  exact go_
 obtain ⟨r_47,c24,H⟩:=bd_ H
 replace c24:=dZ c24
 cases H
 exact go_
def eY (a_e:Ex) (rec:Ex->Option Int):(Int × Int)->Option (Step (Int × Int) (Int)):=fun s=>match s with
 | (n_1,i_2)=>bif (decide (i_2<((a_e.args.length:Nat):Int))) then (aL a_e.args i_2).bind fun x_4=>(rec x_4).bind fun r_5=>some (.next ((SE n_1 r_5),(IntKind.i64.wrap (i_2+(1:Int))))) else
 some (.exit (n_1,i_2))
def sj:Sum (Int × Int) (Int)->Option ((Int))
 | .inl (n_1,i_2)=>some (IntKind.i64.wrap (n_1+(1:Int)))
 | .inr q=>some q
def rC (rec:Ex->Option Int) (a_e:Ex):Option (Int):=(ax (eY a_e rec) fuel ((0:Int),(0:Int))).bind (sj)
theorem KO {rec:Ex->Option Int}  (hrec : ∀ {x:Ex} {r:Int}, rec x=some r->Pure Tryz.prog 106 [.agg (tE x)] (.val (.one (.int .i64 r)))) {a_e:Ex} {r:Int} (H:rC rec a_e=some r):Pure Tryz.prog 106 [.agg (tE a_e)] (.val (.one (.int .i64 r))):=by
 unfold rC at H
 rw [tE_eq a_e]
 refine po_ Tryz.func106 Tryz.ntmps106 ?_
 refine bC ?_
 refine alM_ (fun s:Int × Int=>match s with|(n_1,i_2)=>[(1, .one (.ptr 0 0)),(3, .one (.c (.int .i64 n_1))),(4, .one (.c (.int .i64 i_2)))]) (fun s=>match s with|(n_1,i_2)=>[.box [.c (.int .i64 a_e.op), .c (.int .i64 a_e.int), .c (.int .i64 a_e.v.kind), .c (.int .i64 a_e.v.int), .c (.str a_e.v.text), .c (.str a_e.nm), .c (.lst (a_e.args.map tE))]]) H (fun _=>abv _)
  (fm_ bV [] rfl bE dw) ?_
 rintro ⟨n_1,i_2⟩ st1 hb1 hk1
 unfold eY at hb1
 dsimp only at hb1 ⊢
 rcases cnd_ hb1 with ⟨q_3,hb1⟩|⟨q_3,hb1⟩
 ·obtain ⟨x_4,i1z,i1,i1x,hb1⟩:=aX (f:=tE) hb1
  simp only [abm,abk,abo,abd,tE_eq] at i1x
  obtain ⟨r_5,c2,hb1⟩:=bd_ hb1
  replace c2:=hrec c2
  try simp only [abm,abk,abo,abd,tE_eq,tP_eq] at c2
  cases hb1
  refine bC ?_
  exact ⟨_,rfl,fm_ bV [] rfl bE dw⟩
 cases hb1
 have hx1:sj (.inl (n_1,i_2))=some _:=hk1
 unfold sj at hx1
 dsimp only at hx1
 cases hx1
 exact go_
def oZ:Nat->Ex->Option Int
 | 0,_=>none
 | n+1,x=>rC (oZ n) x
theorem Dq : ∀ (n:Nat) {x:Ex} {r:Int}, oZ n x=some r->Pure Tryz.prog 106 [.agg (tE x)] (.val (.one (.int .i64 r)))
 | 0,_,_,h=>nomatch h
 | n+1,_,_,h=>KO (Dq n) h
def mR (a_e:Ex) (a_kinds:(List Int)) (rec:Ex->List Int->Option (Int × Int)):((List Int) × Int)->Option (Step ((List Int) × Int) (Int × Int)):=fun s=>match s with
 | (l_8,i_9)=>bif (decide (i_9<((a_e.args.length:Nat):Int))) then (aL a_e.args i_9).bind fun x_11=>(rec x_11 a_kinds).bind fun r_12=>bif (decide (r_12.2≠(0:Int))) then some (.ret ((0:Int),r_12.2)) else
 bif (decide (l_8.length+1<=17592186044416)) then (some (.next ((l_8++[r_12.1]),(IntKind.i64.wrap (i_9+(1:Int)))))) else none else
 some (.exit (l_8,i_9))
def kr (a_e:Ex) (a_kinds:(List Int)):Sum ((List Int) × Int) (Int × Int)->Option ((Int × Int))
 | .inl (l_8,i_9)=>(gRs11 a_e l_8 a_kinds).bind fun r_14=>bif (!r_14.2) then some ((0:Int),(7:Int)) else
 some (r_14.1,(0:Int))
 | .inr q=>some q
def dA (a_e:Ex) (a_kinds:(List Int)) (rec:Ex->List Int->Option (Int × Int)):((List Int) × Int)->Option (Step ((List Int) × Int) (Int × Int)):=fun s=>match s with
 | (l_16,i_17)=>bif (decide (i_17<((a_e.args.length:Nat):Int))) then (aL a_e.args i_17).bind fun x_19=>(rec x_19 a_kinds).bind fun r_20=>bif (decide (r_20.2≠(0:Int))) then some (.ret ((0:Int),r_20.2)) else
 bif (decide (l_16.length+1<=17592186044416)) then (some (.next ((l_16++[r_20.1]),(IntKind.i64.wrap (i_17+(1:Int)))))) else none else
 some (.exit (l_16,i_17))
def iU (a_e:Ex) (a_kinds:(List Int)):Sum ((List Int) × Int) (Int × Int)->Option ((Int × Int))
 | .inl (l_16,i_17)=>(gRs11 a_e l_16 a_kinds).bind fun r_22=>bif (!r_22.2) then some ((0:Int),(7:Int)) else
 some (r_22.1,(0:Int))
 | .inr q=>some q
def ru (rec:Ex->List Int->Option (Int × Int)) (a_e:Ex) (a_kinds:(List Int)):Option (Int × Int):=(vg a_e.op).bind fun r_1=>bif (decide (r_1.1<(0:Int))) then some ((0:Int),(7:Int)) else
 (kC a_e).bind fun r_3=>bif (!r_3) then some ((0:Int),(8:Int)) else
 bif (decide (a_e.op=(2:Int))) then bif (decide (a_e.int<(0:Int))) then some ((0:Int),(13:Int)) else
 bif (decide (((a_kinds.length:Nat):Int)<=a_e.int)) then some ((0:Int),(13:Int)) else
 (ax (mR a_e a_kinds rec) fuel ([],(0:Int))).bind (kr a_e a_kinds) else
 (ax (dA a_e a_kinds rec) fuel ([],(0:Int))).bind (iU a_e a_kinds)
theorem K5 {rec:Ex->List Int->Option (Int × Int)}  (hrec : ∀ {x:Ex} {y:List Int} {r:Int × Int}, rec x y=some r->Pure Tryz.prog 107 [.agg (tE x), .one (.lst (y.map (fun x=>[AC.int .i64 x])))] (.tup [.one (.int .i64 r.1), .one (.int .i64 r.2)])) {a_e:Ex} {a_kinds:(List Int)} {r:Int × Int} (H:ru rec a_e a_kinds=some r):Pure Tryz.prog 107 [.agg (tE a_e), .one (.lst (a_kinds.map (fun x=>[AC.int .i64 x])))] (.tup [.one (.int .i64 r.1), .one (.int .i64 r.2)]):=by
 unfold ru at H
 rw [tE_eq a_e]
 refine po_ Tryz.func107 Tryz.ntmps107 ?_
 obtain ⟨r_1,c1,H⟩:=bd_ H
 replace c1:=IQ c1
 rcases cnd_ H with ⟨q_2,H⟩|⟨q_2,H⟩
 ·cases H
  exact go_
 obtain ⟨r_3,c2,H⟩:=bd_ H
 replace c2:=Du c2
 try simp only [abm,abk,abo,abd,tE_eq,tP_eq] at c2
 rcases cnd_ H with ⟨q_4,H⟩|⟨q_4,H⟩
 ·cases H
  exact go_
 rcases cnd_ H with ⟨q_5,H⟩|⟨q_5,H⟩
 ·rcases cnd_ H with ⟨q_6,H⟩|⟨q_6,H⟩
  ·cases H
   exact go_
  rcases cnd_ H with ⟨q_7,H⟩|⟨q_7,H⟩
  ·cases H
   exact go_
  refine bC ?_
  refine dh 8 1 rfl ?_
  refine alM_ (fun s:(List Int) × Int=>match s with|(l_8,i_9)=>[(1, .one (.c (.lst (a_kinds.map (fun x=>[AC.int .i64 x]))))),(2, .one (.ptr 0 0)),(8, .one (.own (l_8.map (fun x=>[AC.int .i64 x])) 1)),(9, .one (.c (.int .i64 i_9)))]) (fun s=>match s with|(l_8,i_9)=>[.box [.c (.int .i64 a_e.op), .c (.int .i64 a_e.int), .c (.int .i64 a_e.v.kind), .c (.int .i64 a_e.v.int), .c (.str a_e.v.text), .c (.str a_e.nm), .c (.lst (a_e.args.map tE))], .spare l_8.length 1]) H (fun _=>abv _)
   (fm_ bV [] rfl bE dw) ?_
  rintro ⟨l_8,i_9⟩ st1 hb1 hk1
  unfold mR at hb1
  dsimp only at hb1 ⊢
  rcases cnd_ hb1 with ⟨q_10,hb1⟩|⟨q_10,hb1⟩
  ·obtain ⟨x_11,i3z,i3,i3x,hb1⟩:=aX (f:=tE) hb1
   simp only [abm,abk,abo,abd,tE_eq] at i3x
   obtain ⟨r_12,c4,hb1⟩:=bd_ hb1
   replace c4:=hrec c4
   try simp only [abm,abk,abo,abd,tE_eq,tP_eq] at c4
   rcases cnd_ hb1 with ⟨q_13,hb1⟩|⟨q_13,hb1⟩
   ·cases hb1
    have hx1:kr a_e a_kinds (.inr ((0:Int),r_12.2))=some _:=hk1
    unfold kr at hx1
    dsimp only at hx1
    cases hx1
    exact go_
   obtain ⟨g5,hb1⟩:=aK hb1
   cases hb1
   refine bC ?_
   exact ⟨_,rfl,fm_ o8 [] kJ bE dw⟩
  cases hb1
  have hx1:kr a_e a_kinds (.inl (l_8,i_9))=some _:=hk1
  unfold kr at hx1
  dsimp only at hx1
  obtain ⟨r_14,c6,hx1⟩:=bd_ hx1
  replace c6:=Al c6
  try simp only [abm,abk,abo,abd,tE_eq,tP_eq] at c6
  rcases cnd_ hx1 with ⟨q_15,hx1⟩|⟨q_15,hx1⟩
  ·cases hx1
   exact go_
  cases hx1
  exact go_
 refine bC ?_
 refine dh 8 1 rfl ?_
 refine alM_ (fun s:(List Int) × Int=>match s with|(l_16,i_17)=>[(1, .one (.c (.lst (a_kinds.map (fun x=>[AC.int .i64 x]))))),(2, .one (.ptr 0 0)),(8, .one (.own (l_16.map (fun x=>[AC.int .i64 x])) 1)),(9, .one (.c (.int .i64 i_17)))]) (fun s=>match s with|(l_16,i_17)=>[.box [.c (.int .i64 a_e.op), .c (.int .i64 a_e.int), .c (.int .i64 a_e.v.kind), .c (.int .i64 a_e.v.int), .c (.str a_e.v.text), .c (.str a_e.nm), .c (.lst (a_e.args.map tE))], .spare l_16.length 1]) H (fun _=>abv _)
  (fm_ bV [] rfl bE dw) ?_
 rintro ⟨l_16,i_17⟩ st2 hb2 hk2
 unfold dA at hb2
 dsimp only at hb2 ⊢
 rcases cnd_ hb2 with ⟨q_18,hb2⟩|⟨q_18,hb2⟩
 ·obtain ⟨x_19,i7z,i7,i7x,hb2⟩:=aX (f:=tE) hb2
  simp only [abm,abk,abo,abd,tE_eq] at i7x
  obtain ⟨r_20,c8,hb2⟩:=bd_ hb2
  replace c8:=hrec c8
  try simp only [abm,abk,abo,abd,tE_eq,tP_eq] at c8
  rcases cnd_ hb2 with ⟨q_21,hb2⟩|⟨q_21,hb2⟩
  ·cases hb2
   have hx2:iU a_e a_kinds (.inr ((0:Int),r_20.2))=some _:=hk2
   unfold iU at hx2
   dsimp only at hx2
   cases hx2
   exact go_
  obtain ⟨g9,hb2⟩:=aK hb2
  cases hb2
  refine bC ?_
  exact ⟨_,rfl,fm_ o8 [] kJ bE dw⟩
 cases hb2
 have hx2:iU a_e a_kinds (.inl (l_16,i_17))=some _:=hk2
 unfold iU at hx2
 dsimp only at hx2
 obtain ⟨r_22,c10,hx2⟩:=bd_ hx2
 replace c10:=Al c10
 try simp only [abm,abk,abo,abd,tE_eq,tP_eq] at c10
 rcases cnd_ hx2 with ⟨q_23,hx2⟩|⟨q_23,hx2⟩
 ·cases hx2
  exact go_
 cases hx2
 exact go_
def kw:Nat->Ex->List Int->Option (Int × Int)
 | 0,_,_=>none
 | n+1,x,y=>ru (kw n) x y
theorem CJ : ∀ (n:Nat) {x:Ex} {y:List Int} {r:Int × Int}, kw n x y=some r->Pure Tryz.prog 107 [.agg (tE x), .one (.lst (y.map (fun x=>[AC.int .i64 x])))] (.tup [.one (.int .i64 r.1), .one (.int .i64 r.2)])
 | 0,_,_,_,h=>nomatch h
 | n+1,_,_,_,h=>K5 (CJ n) h
def wF (a_e:Ex) (a_kinds:(List Int)):Option (Int × Int):=(oZ fuel a_e).bind fun r_1=>bif (decide ((24:Int)<r_1)) then some ((0:Int),(26:Int)) else
 (kw fuel a_e a_kinds).bind fun r_3=>some (r_3.1,r_3.2)
theorem IB {a_e:Ex} {a_kinds:(List Int)} {r:Int × Int} (H:wF a_e a_kinds=some r):Pure Tryz.prog 69 [.agg (tE a_e), .one (.lst (a_kinds.map (fun x=>[AC.int .i64 x])))] (.tup [.one (.int .i64 r.1), .one (.int .i64 r.2)]):=by
 unfold wF at H
 rw [tE_eq a_e]
 refine po_ Tryz.func69 Tryz.ntmps69 ?_
 obtain ⟨r_1,c1,H⟩:=bd_ H
 replace c1:=Dq fuel c1
 try simp only [abm,abk,abo,abd,tE_eq,tP_eq] at c1
 rcases cnd_ H with ⟨q_2,H⟩|⟨q_2,H⟩
 ·cases H
  exact go_
 obtain ⟨r_3,c2,H⟩:=bd_ H
 replace c2:=CJ fuel c2
 try simp only [abm,abk,abo,abd,tE_eq,tP_eq] at c2
 cases H
 exact go_
def gPred21 (a_e:Ex) (a_kinds:(List Int)):Option (Int):=(wF a_e a_kinds).bind fun r_1=>bif (decide (r_1.2≠(0:Int))) then some r_1.2 else
 bif (decide (r_1.1≠(3:Int))) then bif (decide (r_1.1≠(0:Int))) then some (7:Int) else
 some (0:Int) else
 some (0:Int)
theorem gPred21_ok {a_e:Ex} {a_kinds:(List Int)} {r:Int} (H:gPred21 a_e a_kinds=some r):Pure Tryz.prog 32 [.agg (tE a_e), .one (.lst (a_kinds.map (fun x=>[AC.int .i64 x])))] (.val (.one (.int .i64 r))):=by
 unfold gPred21 at H
 rw [tE_eq a_e]
 refine po_ Tryz.func32 Tryz.ntmps32 ?_
 obtain ⟨r_1,c1,H⟩:=bd_ H
 replace c1:=IB c1
 try simp only [abm,abk,abo,abd,tE_eq,tP_eq] at c1
 rcases cnd_ H with ⟨q_2,H⟩|⟨q_2,H⟩
 ·cases H
  exact go_
 rcases cnd_ H with ⟨q_3,H⟩|⟨q_3,H⟩
 ·rcases cnd_ H with ⟨q_4,H⟩|⟨q_4,H⟩
  ·cases H
   exact go_
  cases H
  exact go_
 cases H
 exact go_
def cO (a_kinds:(List Int)) (a_l:(List Ex)):((List Int) × Int)->Option (Step ((List Int) × Int) ((List Int) × Int)):=fun s=>match s with
 | (out_1,i_2)=>bif (decide (i_2<((a_l.length:Nat):Int))) then (aL a_l i_2).bind fun x_4=>(wF x_4 a_kinds).bind fun r_5=>bif (decide (r_5.2≠(0:Int))) then some (.ret ([],r_5.2)) else
 bif (decide (r_5.1=(0:Int))) then some (.ret ([],(7:Int))) else
 bif (decide (out_1.length+1<=17592186044416)) then (some (.next ((out_1++[r_5.1]),(IntKind.i64.wrap (i_2+(1:Int)))))) else none else
 some (.exit (out_1,i_2))
def gM:Sum ((List Int) × Int) ((List Int) × Int)->Option (((List Int) × Int))
 | .inl (out_1,i_2)=>some (out_1,(0:Int))
 | .inr q=>some q
def gProj21 (a_kinds:(List Int)) (a_l:(List Ex)):Option ((List Int) × Int):=(ax (cO a_kinds a_l) fuel ([],(0:Int))).bind (gM)
theorem gProj21_ok {a_kinds:(List Int)} {a_l:(List Ex)} {r:(List Int) × Int} (H:gProj21 a_kinds a_l=some r):Pure Tryz.prog 33 [.one (.lst (a_kinds.map (fun x=>[AC.int .i64 x]))), .one (.lst (a_l.map tE))] (.tup [.one (.lst (r.1.map (fun x=>[AC.int .i64 x]))), .one (.int .i64 r.2)]):=by
 unfold gProj21 at H
 refine po_ Tryz.func33 Tryz.ntmps33 ?_
 refine bC ?_
 refine dh 6 1 rfl ?_
 refine alM_ (fun s:(List Int) × Int=>match s with|(out_1,i_2)=>[(0, .one (.c (.lst (a_kinds.map (fun x=>[AC.int .i64 x]))))),(1, .one (.c (.lst (a_l.map tE)))),(6, .one (.own (out_1.map (fun x=>[AC.int .i64 x])) 0)),(7, .one (.c (.int .i64 i_2)))]) (fun s=>match s with|(out_1,i_2)=>[.spare out_1.length 1]) H (fun _=>abv _)
  (fm_ bV [] rfl bE dw) ?_
 rintro ⟨out_1,i_2⟩ st1 hb1 hk1
 unfold cO at hb1
 dsimp only at hb1 ⊢
 rcases cnd_ hb1 with ⟨q_3,hb1⟩|⟨q_3,hb1⟩
 ·obtain ⟨x_4,i1z,i1,i1x,hb1⟩:=aX (f:=tE) hb1
  simp only [abm,abk,abo,abd,tE_eq] at i1x
  obtain ⟨r_5,c2,hb1⟩:=bd_ hb1
  replace c2:=IB c2
  try simp only [abm,abk,abo,abd,tE_eq,tP_eq] at c2
  rcases cnd_ hb1 with ⟨q_6,hb1⟩|⟨q_6,hb1⟩
  ·cases hb1
   have hx1:gM (.inr ([],r_5.2))=some _:=hk1
   unfold gM at hx1
   dsimp only at hx1
   cases hx1
   exact go_
  rcases cnd_ hb1 with ⟨q_7,hb1⟩|⟨q_7,hb1⟩
  ·cases hb1
   have hx1:gM (.inr ([],(7:Int)))=some _:=hk1
   unfold gM at hx1
   dsimp only at hx1
   cases hx1
   exact go_
  obtain ⟨g3,hb1⟩:=aK hb1
  cases hb1
  refine bC ?_
  exact ⟨_,rfl,fm_ o8 [] kJ bE dw⟩
 cases hb1
 have hx1:gM (.inl (out_1,i_2))=some _:=hk1
 unfold gM at hx1
 dsimp only at hx1
 cases hx1
 exact go_
def eT (a_e:Ex) (a_most:Int) (rec:Ex->Int->Option Int):(Int × Int)->Option (Step (Int × Int) (Int)):=fun s=>match s with
 | (n_1,i_2)=>bif (decide (i_2<((a_e.args.length:Nat):Int))) then bif (decide (n_1<a_most)) then (aL a_e.args i_2).bind fun x_5=>(rec x_5 (IntKind.i64.wrap (a_most-n_1))).bind fun r_6=>some (.next ((IntKind.i64.wrap (n_1+r_6)),(IntKind.i64.wrap (i_2+(1:Int))))) else
 some (.exit (n_1,i_2)) else
 some (.exit (n_1,i_2))
def lY:Sum (Int × Int) (Int)->Option ((Int))
 | .inl (n_1,i_2)=>some n_1
 | .inr q=>some q
def vR (rec:Ex->Int->Option Int) (a_e:Ex) (a_most:Int):Option (Int):=(ax (eT a_e a_most rec) fuel ((1:Int),(0:Int))).bind (lY)
theorem MP {rec:Ex->Int->Option Int}  (hrec : ∀ {x:Ex} {y:Int} {r:Int}, rec x y=some r->Pure Tryz.prog 42 [.agg (tE x), .one (.int .i64 y)] (.val (.one (.int .i64 r)))) {a_e:Ex} {a_most:Int} {r:Int} (H:vR rec a_e a_most=some r):Pure Tryz.prog 42 [.agg (tE a_e), .one (.int .i64 a_most)] (.val (.one (.int .i64 r))):=by
 unfold vR at H
 rw [tE_eq a_e]
 refine po_ Tryz.func42 Tryz.ntmps42 ?_
 refine bC ?_
 refine alM_ (fun s:Int × Int=>match s with|(n_1,i_2)=>[(1, .one (.c (.int .i64 a_most))),(2, .one (.ptr 0 0)),(5, .one (.c (.int .i64 n_1))),(6, .one (.c (.int .i64 i_2)))]) (fun s=>match s with|(n_1,i_2)=>[.box [.c (.int .i64 a_e.op), .c (.int .i64 a_e.int), .c (.int .i64 a_e.v.kind), .c (.int .i64 a_e.v.int), .c (.str a_e.v.text), .c (.str a_e.nm), .c (.lst (a_e.args.map tE))]]) H (fun _=>abv _)
  (fm_ bV [] rfl bE dw) ?_
 rintro ⟨n_1,i_2⟩ st1 hb1 hk1
 unfold eT at hb1
 dsimp only at hb1 ⊢
 rcases cnd_ hb1 with ⟨q_3,hb1⟩|⟨q_3,hb1⟩
 ·rcases cnd_ hb1 with ⟨q_4,hb1⟩|⟨q_4,hb1⟩
  ·obtain ⟨x_5,i1z,i1,i1x,hb1⟩:=aX (f:=tE) hb1
   simp only [abm,abk,abo,abd,tE_eq] at i1x
   obtain ⟨r_6,c2,hb1⟩:=bd_ hb1
   replace c2:=hrec c2
   try simp only [abm,abk,abo,abd,tE_eq,tP_eq] at c2
   cases hb1
   refine bC ?_
   exact ⟨_,rfl,fm_ bV [] rfl bE dw⟩
  cases hb1
  have hx1:lY (.inl (n_1,i_2))=some _:=hk1
  unfold lY at hx1
  dsimp only at hx1
  cases hx1
  exact go_
 cases hb1
 have hx1:lY (.inl (n_1,i_2))=some _:=hk1
 unfold lY at hx1
 dsimp only at hx1
 cases hx1
 exact go_
def pK:Nat->Ex->Int->Option Int
 | 0,_,_=>none
 | n+1,x,y=>vR (pK n) x y
theorem Eu : ∀ (n:Nat) {x:Ex} {y:Int} {r:Int}, pK n x y=some r->Pure Tryz.prog 42 [.agg (tE x), .one (.int .i64 y)] (.val (.one (.int .i64 r)))
 | 0,_,_,_,h=>nomatch h
 | n+1,_,_,_,h=>MP (Eu n) h
def Gq (a_l:(List Ex)) (a_most:Int):Option (Bool):=(pK fuel (Ex.mk (0:Int) (0:Int) (⟨(0:Int),(0:Int),ByteArray.empty⟩:Val) ByteArray.empty a_l) (IntKind.i64.wrap (a_most+(2:Int)))).bind fun r_1=>some (decide (r_1<=(IntKind.i64.wrap (a_most+(1:Int)))))
theorem Sy {a_l:(List Ex)} {a_most:Int} {r:Bool} (H:Gq a_l a_most=some r):Pure Tryz.prog 68 [.one (.lst (a_l.map tE)), .one (.int .i64 a_most)] (.val (.one (.bool r))):=by
 unfold Gq at H
 refine po_ Tryz.func68 Tryz.ntmps68 ?_
 obtain ⟨r_1,c1,H⟩:=bd_ H
 replace c1:=Eu fuel c1
 try simp only [abm,abk,abo,abd,tE_eq,tP_eq] at c1
 cases H
 exact go_
end Go.Proofs.YtfpbmfalamappaaGreatDoor
