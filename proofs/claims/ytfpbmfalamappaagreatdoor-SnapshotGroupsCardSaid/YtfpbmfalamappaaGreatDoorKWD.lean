/- Parts of the proof, joined. No condition. -/
import Derived.Test.YtfpbmfalamappaaGreatDoorKAA
import Derived.Test.YtfpbmfalamappaaGreatDoorKBC
import Derived.Test.YtfpbmfalamappaaGreatDoorKBD
import Derived.Test.YtfpbmfalamappaaGreatDoorKWB
import Derived.Test.YtfpbmfalamappaaGreatDoorKWA
set_option linter.unusedSimpArgs false
set_option linter.unusedVariables false
namespace Go.Proofs.YtfpbmfalamappaaGreatDoor
open Go.RowKit Go.MapKept
set_option maxRecDepth 100000
set_option maxHeartbeats 8000000
noncomputable section
def xg (a_row:(List Val)) (a_l:(List Int)):((List Val) × Int)->Option (Step ((List Val) × Int) ((List Val))):=fun s=>match s with
 | (out_1,i_2)=>bif (decide (i_2<((a_l.length:Nat):Int))) then (aL a_l i_2).bind fun x_4=>(ME a_row x_4).bind fun r_5=>bif (decide (out_1.length+1<=4398046511104)) then (some (.next ((out_1++[r_5]),(IntKind.i64.wrap (i_2+(1:Int)))))) else none else
 some (.exit (out_1,i_2))
def Bv:Sum ((List Val) × Int) ((List Val))->Option (((List Val)))
 | .inl (out_1,i_2)=>some out_1
 | .inr q=>some q
def GM (a_row:(List Val)) (a_l:(List Int)):Option ((List Val)):=(ax (xg a_row a_l) fuel ([],(0:Int))).bind (Bv)
theorem Rq {a_row:(List Val)} {a_l:(List Int)} {r:(List Val)} (H:GM a_row a_l=some r):Pure Tryz.prog 20 [.one (.lst (a_row.map cV)), .one (.lst (a_l.map (fun x=>[AC.int .i64 x])))] (.val (.one (.lst (r.map cV)))):=by
 unfold GM at H
 refine po_ Tryz.func20 Tryz.ntmps20 ?_
 refine bC ?_
 refine dh 5 3 rfl ?_
 refine alM_ (fun s:(List Val) × Int=>match s with|(out_1,i_2)=>[(0, .one (.c (.lst (a_row.map cV)))),(1, .one (.c (.lst (a_l.map (fun x=>[AC.int .i64 x]))))),(5, .one (.own (out_1.map cV) 0)),(6, .one (.c (.int .i64 i_2)))]) (fun s=>match s with|(out_1,i_2)=>[.spare out_1.length 3]) H (fun _=>abv _)
  (fm_ bV [] rfl bE dw) ?_
 rintro ⟨out_1,i_2⟩ st1 hb1 hk1
 unfold xg at hb1
 dsimp only at hb1 ⊢
 rcases cnd_ hb1 with ⟨q_3,hb1⟩|⟨q_3,hb1⟩
 ·obtain ⟨x_4,i1z,i1,i1x,hb1⟩:=aX (f:=(fun x=>[AC.int .i64 x])) hb1
  obtain ⟨r_5,c2,hb1⟩:=bd_ hb1
  replace c2:=DN c2
  obtain ⟨g3,hb1⟩:=aK hb1
  cases hb1
  refine bC ?_
  exact ⟨_,rfl,fm_ o8 [] kJ bE dw⟩
 cases hb1
 have hx1:Bv (.inl (out_1,i_2))=some _:=hk1
 unfold Bv at hx1
 dsimp only at hx1
 cases hx1
 exact go_
def yn (a_kinds:(List Int)) (a_l:(List Ag)):((List Int) × Int)->Option (Step ((List Int) × Int) ((List Int) × Int)):=fun s=>match s with
 | (out_8,i_9)=>bif (decide (i_9<((a_l.length:Nat):Int))) then (aL a_l i_9).bind fun x_11=>bif (decide (x_11.op≠(1:Int))) then bif (decide (x_11.op≠(2:Int))) then bif (decide (x_11.op≠(3:Int))) then bif (decide (x_11.op≠(4:Int))) then some (.ret ([],(7:Int))) else
 bif (decide (x_11.arg=(-1:Int))) then some (.ret ([],(6:Int))) else
 bif (decide (x_11.arg<(0:Int))) then some (.ret ([],(6:Int))) else
 bif (decide (((a_kinds.length:Nat):Int)<=x_11.arg)) then some (.ret ([],(6:Int))) else
 (aL a_kinds x_11.arg).bind fun x_24=>bif (decide (out_8.length+1<=17592186044416)) then (some (.next ((out_8++[x_24]),(IntKind.i64.wrap (i_9+(1:Int)))))) else none else
 bif (decide (x_11.arg=(-1:Int))) then some (.ret ([],(6:Int))) else
 bif (decide (x_11.arg<(0:Int))) then some (.ret ([],(6:Int))) else
 bif (decide (((a_kinds.length:Nat):Int)<=x_11.arg)) then some (.ret ([],(6:Int))) else
 (aL a_kinds x_11.arg).bind fun x_32=>bif (decide (out_8.length+1<=17592186044416)) then (some (.next ((out_8++[x_32]),(IntKind.i64.wrap (i_9+(1:Int)))))) else none else
 bif (decide (x_11.arg=(-1:Int))) then some (.ret ([],(6:Int))) else
 bif (decide (x_11.arg<(0:Int))) then some (.ret ([],(6:Int))) else
 bif (decide (((a_kinds.length:Nat):Int)<=x_11.arg)) then some (.ret ([],(6:Int))) else
 (aL a_kinds x_11.arg).bind fun x_39=>bif (decide (x_39≠(1:Int))) then some (.ret ([],(7:Int))) else
 bif (decide (out_8.length+1<=17592186044416)) then (some (.next ((out_8++[(1:Int)]),(IntKind.i64.wrap (i_9+(1:Int)))))) else none else
 bif (decide (x_11.arg=(-1:Int))) then bif (decide (out_8.length+1<=17592186044416)) then (some (.next ((out_8++[(1:Int)]),(IntKind.i64.wrap (i_9+(1:Int)))))) else none else
 bif (decide (x_11.arg<(0:Int))) then some (.ret ([],(6:Int))) else
 bif (decide (((a_kinds.length:Nat):Int)<=x_11.arg)) then some (.ret ([],(6:Int))) else
 bif (decide (out_8.length+1<=17592186044416)) then (some (.next ((out_8++[(1:Int)]),(IntKind.i64.wrap (i_9+(1:Int)))))) else none else
 some (.exit (out_8,i_9))
def aQ:Sum ((List Int) × Int) ((List Int) × Int)->Option (((List Int) × Int))
 | .inl (out_8,i_9)=>some (out_8,(0:Int))
 | .inr q=>some q
def x8 (a_kinds:(List Int)) (a_keys:(List Int)):((List Int) × Int)->Option (Step ((List Int) × Int) ((List Int) × Int)):=fun s=>match s with
 | (out_1,i_2)=>bif (decide (i_2<((a_keys.length:Nat):Int))) then (aL a_keys i_2).bind fun x_4=>bif (decide (x_4<(0:Int))) then some (.ret ([],(6:Int))) else
 bif (decide (((a_kinds.length:Nat):Int)<=x_4)) then some (.ret ([],(6:Int))) else
 (aL a_kinds x_4).bind fun x_7=>bif (decide (out_1.length+1<=17592186044416)) then (some (.next ((out_1++[x_7]),(IntKind.i64.wrap (i_2+(1:Int)))))) else none else
 some (.exit (out_1,i_2))
def fu (a_kinds:(List Int)) (a_l:(List Ag)):Sum ((List Int) × Int) ((List Int) × Int)->Option (((List Int) × Int))
 | .inl (out_1,i_2)=>(ax (yn a_kinds a_l) fuel (out_1,(0:Int))).bind (aQ)
 | .inr q=>some q
def kZ (a_kinds:(List Int)) (a_keys:(List Int)) (a_l:(List Ag)):Option ((List Int) × Int):=(ax (x8 a_kinds a_keys) fuel ([],(0:Int))).bind (fu a_kinds a_l)
theorem xY {a_kinds:(List Int)} {a_keys:(List Int)} {a_l:(List Ag)} {r:(List Int) × Int} (H:kZ a_kinds a_keys a_l=some r):Pure Tryz.prog 53 [.one (.lst (a_kinds.map (fun x=>[AC.int .i64 x]))), .one (.lst (a_keys.map (fun x=>[AC.int .i64 x]))), .one (.lst (a_l.map JH))] (.tup [.one (.lst (r.1.map (fun x=>[AC.int .i64 x]))), .one (.int .i64 r.2)]):=by
 unfold kZ at H
 refine po_ Tryz.func53 Tryz.ntmps53 ?_
 refine bC ?_
 refine dh 8 1 rfl ?_
 refine alM_ (fun s:(List Int) × Int=>match s with|(out_1,i_2)=>[(0, .one (.c (.lst (a_kinds.map (fun x=>[AC.int .i64 x]))))),(1, .one (.c (.lst (a_keys.map (fun x=>[AC.int .i64 x]))))),(2, .one (.c (.lst (a_l.map JH)))),(8, .one (.own (out_1.map (fun x=>[AC.int .i64 x])) 0)),(9, .one (.c (.int .i64 i_2)))]) (fun s=>match s with|(out_1,i_2)=>[.spare out_1.length 1]) H (fun _=>abv _)
  (fm_ bV [] rfl bE dw) ?_
 rintro ⟨out_1,i_2⟩ st1 hb1 hk1
 unfold x8 at hb1
 dsimp only at hb1 ⊢
 rcases cnd_ hb1 with ⟨q_3,hb1⟩|⟨q_3,hb1⟩
 ·obtain ⟨x_4,i1z,i1,i1x,hb1⟩:=aX (f:=(fun x=>[AC.int .i64 x])) hb1
  rcases cnd_ hb1 with ⟨q_5,hb1⟩|⟨q_5,hb1⟩
  ·cases hb1
   have hx1:fu a_kinds a_l (.inr ([],(6:Int)))=some _:=hk1
   unfold fu at hx1
   dsimp only at hx1
   cases hx1
   exact go_
  rcases cnd_ hb1 with ⟨q_6,hb1⟩|⟨q_6,hb1⟩
  ·cases hb1
   have hx1:fu a_kinds a_l (.inr ([],(6:Int)))=some _:=hk1
   unfold fu at hx1
   dsimp only at hx1
   cases hx1
   exact go_
  obtain ⟨x_7,i2z,i2,i2x,hb1⟩:=aX (f:=(fun x=>[AC.int .i64 x])) hb1
  obtain ⟨g3,hb1⟩:=aK hb1
  cases hb1
  refine bC ?_
  exact ⟨_,rfl,fm_ o8 [] kJ bE dw⟩
 cases hb1
 have hx1:fu a_kinds a_l (.inl (out_1,i_2))=some _:=hk1
 unfold fu at hx1
 dsimp only at hx1
 refine bC ?_
 refine alM_ (fun s:(List Int) × Int=>match s with|(out_8,i_9)=>[(0, .one (.c (.lst (a_kinds.map (fun x=>[AC.int .i64 x]))))),(2, .one (.c (.lst (a_l.map JH)))),(8, .one (.own (out_8.map (fun x=>[AC.int .i64 x])) 0)),(10, .one (.c (.int .i64 i_9)))]) (fun s=>match s with|(out_8,i_9)=>[.spare out_8.length 1]) hx1 (fun _=>abv _)
  (fm_ bV [] rfl bE dw) ?_
 rintro ⟨out_8,i_9⟩ st2 hb2 hk2
 unfold yn at hb2
 dsimp only at hb2 ⊢
 rcases cnd_ hb2 with ⟨q_10,hb2⟩|⟨q_10,hb2⟩
 ·obtain ⟨x_11,i4z,i4,i4x,hb2⟩:=aX (f:=JH) hb2
  rcases cnd_ hb2 with ⟨q_12,hb2⟩|⟨q_12,hb2⟩
  ·rcases cnd_ hb2 with ⟨q_13,hb2⟩|⟨q_13,hb2⟩
   ·rcases cnd_ hb2 with ⟨q_14,hb2⟩|⟨q_14,hb2⟩
    ·rcases cnd_ hb2 with ⟨q_15,hb2⟩|⟨q_15,hb2⟩
     ·cases hb2
      have hx2:aQ (.inr ([],(7:Int)))=some _:=hk2
      unfold aQ at hx2
      dsimp only at hx2
      cases hx2
      exact go_
     rcases cnd_ hb2 with ⟨q_16,hb2⟩|⟨q_16,hb2⟩
     ·have q_17:(decide (x_11.op=(1:Int)))=false:=by rw [Decidable.not_not.1 (of_decide_eq_false q_15)];decide
      have q_18:(decide (x_11.arg<(0:Int)))=true:=by rw [abD q_16];decide
      cases hb2
      have hx2:aQ (.inr ([],(6:Int)))=some _:=hk2
      unfold aQ at hx2
      dsimp only at hx2
      cases hx2
      exact go_
     rcases cnd_ hb2 with ⟨q_19,hb2⟩|⟨q_19,hb2⟩
     ·cases hb2
      have hx2:aQ (.inr ([],(6:Int)))=some _:=hk2
      unfold aQ at hx2
      dsimp only at hx2
      cases hx2
      exact go_
     rcases cnd_ hb2 with ⟨q_20,hb2⟩|⟨q_20,hb2⟩
     ·cases hb2
      have hx2:aQ (.inr ([],(6:Int)))=some _:=hk2
      unfold aQ at hx2
      dsimp only at hx2
      cases hx2
      exact go_
     have q_21:(decide (x_11.op=(2:Int)))=false:=by rw [Decidable.not_not.1 (of_decide_eq_false q_15)];decide
     have q_22:(decide (x_11.op=(3:Int)))=false:=by rw [Decidable.not_not.1 (of_decide_eq_false q_15)];decide
     have q_23:(decide (x_11.op=(4:Int)))=true:=by rw [Decidable.not_not.1 (of_decide_eq_false q_15)];decide
     obtain ⟨x_24,i5z,i5,i5x,hb2⟩:=aX (f:=(fun x=>[AC.int .i64 x])) hb2
     obtain ⟨g6,hb2⟩:=aK hb2
     cases hb2
     refine bC ?_
     exact ⟨_,rfl,fm_ o8 [_] kJ bE dw⟩
    rcases cnd_ hb2 with ⟨q_25,hb2⟩|⟨q_25,hb2⟩
    ·have q_26:(decide (x_11.op=(1:Int)))=false:=by rw [Decidable.not_not.1 (of_decide_eq_false q_14)];decide
     have q_27:(decide (x_11.arg<(0:Int)))=true:=by rw [abD q_25];decide
     cases hb2
     have hx2:aQ (.inr ([],(6:Int)))=some _:=hk2
     unfold aQ at hx2
     dsimp only at hx2
     cases hx2
     exact go_
    rcases cnd_ hb2 with ⟨q_28,hb2⟩|⟨q_28,hb2⟩
    ·cases hb2
     have hx2:aQ (.inr ([],(6:Int)))=some _:=hk2
     unfold aQ at hx2
     dsimp only at hx2
     cases hx2
     exact go_
    rcases cnd_ hb2 with ⟨q_29,hb2⟩|⟨q_29,hb2⟩
    ·cases hb2
     have hx2:aQ (.inr ([],(6:Int)))=some _:=hk2
     unfold aQ at hx2
     dsimp only at hx2
     cases hx2
     exact go_
    have q_30:(decide (x_11.op=(2:Int)))=false:=by rw [Decidable.not_not.1 (of_decide_eq_false q_14)];decide
    have q_31:(decide (x_11.op=(3:Int)))=true:=by rw [Decidable.not_not.1 (of_decide_eq_false q_14)];decide
    obtain ⟨x_32,i7z,i7,i7x,hb2⟩:=aX (f:=(fun x=>[AC.int .i64 x])) hb2
    obtain ⟨g8,hb2⟩:=aK hb2
    cases hb2
    refine bC ?_
    exact ⟨_,rfl,fm_ o8 [_] kJ bE dw⟩
   rcases cnd_ hb2 with ⟨q_33,hb2⟩|⟨q_33,hb2⟩
   ·have q_34:(decide (x_11.op=(1:Int)))=false:=by rw [Decidable.not_not.1 (of_decide_eq_false q_13)];decide
    have q_35:(decide (x_11.arg<(0:Int)))=true:=by rw [abD q_33];decide
    cases hb2
    have hx2:aQ (.inr ([],(6:Int)))=some _:=hk2
    unfold aQ at hx2
    dsimp only at hx2
    cases hx2
    exact go_
   rcases cnd_ hb2 with ⟨q_36,hb2⟩|⟨q_36,hb2⟩
   ·cases hb2
    have hx2:aQ (.inr ([],(6:Int)))=some _:=hk2
    unfold aQ at hx2
    dsimp only at hx2
    cases hx2
    exact go_
   rcases cnd_ hb2 with ⟨q_37,hb2⟩|⟨q_37,hb2⟩
   ·cases hb2
    have hx2:aQ (.inr ([],(6:Int)))=some _:=hk2
    unfold aQ at hx2
    dsimp only at hx2
    cases hx2
    exact go_
   have q_38:(decide (x_11.op=(2:Int)))=true:=by rw [Decidable.not_not.1 (of_decide_eq_false q_13)];decide
   obtain ⟨x_39,i9z,i9,i9x,hb2⟩:=aX (f:=(fun x=>[AC.int .i64 x])) hb2
   rcases cnd_ hb2 with ⟨q_40,hb2⟩|⟨q_40,hb2⟩
   ·cases hb2
    have hx2:aQ (.inr ([],(7:Int)))=some _:=hk2
    unfold aQ at hx2
    dsimp only at hx2
    cases hx2
    exact go_
   have q_41:(decide (x_11.op=(3:Int)))=false:=by rw [Decidable.not_not.1 (of_decide_eq_false q_13)];decide
   have q_42:(decide (x_11.op=(4:Int)))=false:=by rw [Decidable.not_not.1 (of_decide_eq_false q_13)];decide
   obtain ⟨g10,hb2⟩:=aK hb2
   cases hb2
   refine bC ?_
   exact ⟨_,rfl,fm_ o8 [_] kJ bE dw⟩
  rcases cnd_ hb2 with ⟨q_43,hb2⟩|⟨q_43,hb2⟩
  ·have q_44:(decide (x_11.op=(1:Int)))=true:=by rw [Decidable.not_not.1 (of_decide_eq_false q_12)];decide
   obtain ⟨g11,hb2⟩:=aK hb2
   cases hb2
   refine bC ?_
   exact ⟨_,rfl,fm_ o8 [_] kJ bE dw⟩
  rcases cnd_ hb2 with ⟨q_45,hb2⟩|⟨q_45,hb2⟩
  ·cases hb2
   have hx2:aQ (.inr ([],(6:Int)))=some _:=hk2
   unfold aQ at hx2
   dsimp only at hx2
   cases hx2
   exact go_
  rcases cnd_ hb2 with ⟨q_46,hb2⟩|⟨q_46,hb2⟩
  ·cases hb2
   have hx2:aQ (.inr ([],(6:Int)))=some _:=hk2
   unfold aQ at hx2
   dsimp only at hx2
   cases hx2
   exact go_
  have q_47:(decide (x_11.op=(2:Int)))=false:=by rw [Decidable.not_not.1 (of_decide_eq_false q_12)];decide
  have q_48:(decide (x_11.op=(3:Int)))=false:=by rw [Decidable.not_not.1 (of_decide_eq_false q_12)];decide
  have q_49:(decide (x_11.op=(4:Int)))=false:=by rw [Decidable.not_not.1 (of_decide_eq_false q_12)];decide
  obtain ⟨g12,hb2⟩:=aK hb2
  cases hb2
  refine bC ?_
  exact ⟨_,rfl,fm_ o8 [_] kJ bE dw⟩
 cases hb2
 have hx2:aQ (.inl (out_8,i_9))=some _:=hk2
 unfold aQ at hx2
 dsimp only at hx2
 cases hx2
 exact go_
end
set_option maxHeartbeats 8000000
noncomputable section
def kY (l_3:(List Val)):(Int × Int × Int)->Option (Step (Int × Int × Int) (Val)):=fun s=>match s with
 | (high_14,low_15,i_16)=>bif (decide (i_16<((l_3.length:Nat):Int))) then (aL l_3 i_16).bind fun x_18=>bif (decide ((1048576:Int)≠0)) then (bif (decide ((1048576:Int)≠0)) then (some (.next ((IntKind.i64.wrap (high_14+(IntKind.i64.wrap (x_18.int.tdiv (1048576:Int))))),(IntKind.i64.wrap (low_15+(x_18.int.tmod (1048576:Int)))),(IntKind.i64.wrap (i_16+(1:Int)))))) else none) else none else
 some (.exit (high_14,low_15,i_16))
def qJ:Sum (Int × Int × Int) (Val)->Option ((Val))
 | .inl (high_14,low_15,i_16)=>bif (decide ((1048576:Int)≠0)) then (bif (decide ((1048576:Int)≠0)) then (bif (decide ((1099511627776:Int)<(IntKind.i64.wrap (high_14+(IntKind.i64.wrap (low_15.tdiv (1048576:Int))))))) then (dJ ).bind fun r_20=>some r_20 else
 bif (decide ((IntKind.i64.wrap (high_14+(IntKind.i64.wrap (low_15.tdiv (1048576:Int)))))<(-1099511627776:Int))) then (dJ ).bind fun r_22=>some r_22 else
 (lM (IntKind.i64.wrap ((IntKind.i64.wrap ((IntKind.i64.wrap (high_14+(IntKind.i64.wrap (low_15.tdiv (1048576:Int)))))*(1048576:Int)))+(low_15.tmod (1048576:Int))))).bind fun r_23=>some r_23) else none) else none
 | .inr q=>some q
def kS (a_a:Ag) (l_3:(List Val)):(Int × Int × ByteArray × Int)->Option (Step (Int × Int × ByteArray × Int) (Val)):=fun s=>match s with
 | (c_25,c_26,c_27,i_28)=>bif (decide (i_28<((l_3.length:Nat):Int))) then (aL l_3 i_28).bind fun x_30=>(Av x_30 (⟨c_25,c_26,c_27⟩:Val)).bind fun r_31=>bif (decide (a_a.op=(3:Int))) then bif (decide (r_31<(0:Int))) then some (.next (x_30.kind,x_30.int,x_30.text,(IntKind.i64.wrap (i_28+(1:Int))))) else
 some (.next (c_25,c_26,c_27,(IntKind.i64.wrap (i_28+(1:Int))))) else
 bif (decide (a_a.op=(4:Int))) then bif (decide ((0:Int)<r_31)) then some (.next (x_30.kind,x_30.int,x_30.text,(IntKind.i64.wrap (i_28+(1:Int))))) else
 some (.next (c_25,c_26,c_27,(IntKind.i64.wrap (i_28+(1:Int))))) else
 some (.next (c_25,c_26,c_27,(IntKind.i64.wrap (i_28+(1:Int))))) else
 some (.exit (c_25,c_26,c_27,i_28))
def rq:Sum (Int × Int × ByteArray × Int) (Val)->Option ((Val))
 | .inl (c_25,c_26,c_27,i_28)=>some (⟨c_25,c_26,c_27⟩:Val)
 | .inr q=>some q
def xC (a_rows:(List (List Val))) (a_a:Ag):((List Val) × Int)->Option (Step ((List Val) × Int) (Val)):=fun s=>match s with
 | (l_3,i_4)=>bif (decide (i_4<((a_rows.length:Nat):Int))) then (aL a_rows i_4).bind fun x_6=>(aL x_6 a_a.arg).bind fun x_7=>bif (decide (x_7.kind≠(0:Int))) then bif (decide (l_3.length+1<=4398046511104)) then (some (.next ((l_3++[x_7]),(IntKind.i64.wrap (i_4+(1:Int)))))) else none else
 some (.next (l_3,(IntKind.i64.wrap (i_4+(1:Int))))) else
 some (.exit (l_3,i_4))
def w9 (a_a:Ag):Sum ((List Val) × Int) (Val)->Option ((Val))
 | .inl (l_3,i_4)=>bif (decide (a_a.op=(1:Int))) then (lM ((l_3.length:Nat):Int)).bind fun r_10=>some r_10 else
 bif (decide (((l_3.length:Nat):Int)=(0:Int))) then (dJ ).bind fun r_12=>some r_12 else
 bif (decide (a_a.op=(2:Int))) then (ax (kY l_3) fuel ((0:Int),(0:Int),(0:Int))).bind (qJ) else
 (aL l_3 (0:Int)).bind fun x_24=>(ax (kS a_a l_3) fuel (x_24.kind,x_24.int,x_24.text,(1:Int))).bind (rq)
 | .inr q=>some q
def EP (a_rows:(List (List Val))) (a_a:Ag):Option (Val):=bif (decide (a_a.arg<(0:Int))) then (lM ((a_rows.length:Nat):Int)).bind fun r_2=>some r_2 else
 (ax (xC a_rows a_a) fuel ([],(0:Int))).bind (w9 a_a)
theorem R6 {a_rows:(List (List Val))} {a_a:Ag} {r:Val} (H:EP a_rows a_a=some r):Pure Tryz.prog 99 [.one (.lst (a_rows.map (fun x=>[AC.lst (x.map cV)]))), .agg (JH a_a)] (.val (.agg (cV r))):=by
 unfold EP at H
 refine po_ Tryz.func99 Tryz.ntmps99 ?_
 rcases cnd_ H with ⟨q_1,H⟩|⟨q_1,H⟩
 ·obtain ⟨r_2,c1,H⟩:=bd_ H
  replace c1:=iK c1
  cases H
  exact go_
 refine bC ?_
 refine dh 5 3 rfl ?_
 refine alM_ (fun s:(List Val) × Int=>match s with|(l_3,i_4)=>[(0, .one (.c (.lst (a_rows.map (fun x=>[AC.lst (x.map cV)]))))),(3, .one (.ptr 0 0)),(4, .one (.ptr 1 0)),(5, .one (.own (l_3.map cV) 2)),(6, .one (.c (.int .i64 i_4)))]) (fun s=>match s with|(l_3,i_4)=>[.box [.c (.int .i64 a_a.op), .c (.int .i64 a_a.arg)], .box [.c (.int .i64 (0:Int)), .c (.int .i64 (0:Int)), .c (.str ByteArray.empty)], .spare l_3.length 3]) H (fun _=>abv _)
  (fm_ bV [] rfl bE dw) ?_
 rintro ⟨l_3,i_4⟩ st1 hb1 hk1
 unfold xC at hb1
 dsimp only at hb1 ⊢
 rcases cnd_ hb1 with ⟨q_5,hb1⟩|⟨q_5,hb1⟩
 ·obtain ⟨x_6,i2z,i2,i2x,hb1⟩:=aX (f:=(fun x=>[AC.lst (x.map cV)])) hb1
  obtain ⟨x_7,i3z,i3,i3x,hb1⟩:=aX (f:=cV) hb1
  rcases cnd_ hb1 with ⟨q_8,hb1⟩|⟨q_8,hb1⟩
  ·obtain ⟨g4,hb1⟩:=aK hb1
   cases hb1
   refine bC ?_
   exact ⟨_,rfl,fm_ o8 [] kJ bE dw⟩
  cases hb1
  refine bC ?_
  exact ⟨_,rfl,fm_ o8 [] kJ bE dw⟩
 cases hb1
 have hx1:w9 a_a (.inl (l_3,i_4))=some _:=hk1
 unfold w9 at hx1
 dsimp only at hx1
 rcases cnd_ hx1 with ⟨q_9,hx1⟩|⟨q_9,hx1⟩
 ·obtain ⟨r_10,c5,hx1⟩:=bd_ hx1
  replace c5:=iK c5
  cases hx1
  exact go_
 rcases cnd_ hx1 with ⟨q_11,hx1⟩|⟨q_11,hx1⟩
 ·obtain ⟨r_12,c6,hx1⟩:=bd_ hx1
  replace c6:=bT c6
  cases hx1
  exact go_
 rcases cnd_ hx1 with ⟨q_13,hx1⟩|⟨q_13,hx1⟩
 ·refine bC ?_
  refine alM_ (fun s:Int × Int × Int=>match s with|(high_14,low_15,i_16)=>[(4, .one (.ptr 1 0)),(5, .one (.own (l_3.map cV) 2)),(7, .one (.c (.int .i64 high_14))),(8, .one (.c (.int .i64 low_15))),(9, .one (.c (.int .i64 i_16)))]) (fun s=>match s with|(high_14,low_15,i_16)=>[.box [.c (.int .i64 a_a.op), .c (.int .i64 a_a.arg)], .box [.c (.int .i64 (0:Int)), .c (.int .i64 (0:Int)), .c (.str ByteArray.empty)], .spare l_3.length 3]) hx1 (fun _=>abv _)
   (fm_ bV [] rfl bE dw) ?_
  rintro ⟨high_14,low_15,i_16⟩ st2 hb2 hk2
  unfold kY at hb2
  dsimp only at hb2 ⊢
  rcases cnd_ hb2 with ⟨q_17,hb2⟩|⟨q_17,hb2⟩
  ·obtain ⟨x_18,i7z,i7,i7x,hb2⟩:=aX (f:=cV) hb2
   obtain ⟨g8,hb2⟩:=aK hb2
   obtain ⟨g9,hb2⟩:=aK hb2
   cases hb2
   refine bC ?_
   exact ⟨_,rfl,fm_ bV [] rfl bE dw⟩
  cases hb2
  have hx2:qJ (.inl (high_14,low_15,i_16))=some _:=hk2
  unfold qJ at hx2
  dsimp only at hx2
  obtain ⟨g10,hx2⟩:=aK hx2
  obtain ⟨g11,hx2⟩:=aK hx2
  rcases cnd_ hx2 with ⟨q_19,hx2⟩|⟨q_19,hx2⟩
  ·obtain ⟨r_20,c12,hx2⟩:=bd_ hx2
   replace c12:=bT c12
   cases hx2
   exact go_
  rcases cnd_ hx2 with ⟨q_21,hx2⟩|⟨q_21,hx2⟩
  ·obtain ⟨r_22,c13,hx2⟩:=bd_ hx2
   replace c13:=bT c13
   cases hx2
   exact go_
  obtain ⟨r_23,c14,hx2⟩:=bd_ hx2
  replace c14:=iK c14
  cases hx2
  exact go_
 obtain ⟨x_24,i15z,i15,i15x,hx1⟩:=aX (f:=cV) hx1
 refine bC ?_
 refine alM_ (fun s:Int × Int × ByteArray × Int=>match s with|(c_25,c_26,c_27,i_28)=>[(3, .one (.ptr 0 0)),(4, .one (.ptr 1 0)),(5, .one (.own (l_3.map cV) 2)),(10, .one (.ptr 3 0)),(11, .one (.c (.int .i64 i_28)))]) (fun s=>match s with|(c_25,c_26,c_27,i_28)=>[.box [.c (.int .i64 a_a.op), .c (.int .i64 a_a.arg)], .box [.c (.int .i64 (0:Int)), .c (.int .i64 (0:Int)), .c (.str ByteArray.empty)], .spare l_3.length 3, .box [.c (.int .i64 c_25), .c (.int .i64 c_26), .c (.str c_27)]]) hx1 (fun _=>abv _)
  (fm_ bV [] rfl bE dw) ?_
 rintro ⟨c_25,c_26,c_27,i_28⟩ st3 hb3 hk3
 unfold kS at hb3
 dsimp only at hb3 ⊢
 rcases cnd_ hb3 with ⟨q_29,hb3⟩|⟨q_29,hb3⟩
 ·obtain ⟨x_30,i16z,i16,i16x,hb3⟩:=aX (f:=cV) hb3
  obtain ⟨r_31,c17,hb3⟩:=bd_ hb3
  replace c17:=vk c17
  rcases cnd_ hb3 with ⟨q_32,hb3⟩|⟨q_32,hb3⟩
  ·rcases cnd_ hb3 with ⟨q_33,hb3⟩|⟨q_33,hb3⟩
   ·cases hb3
    refine bC ?_
    exact ⟨_,rfl,fm_ bV [] rfl bE dw⟩
   have q_34:(decide (a_a.op=(4:Int)))=false:=by rw [abD q_32];decide
   cases hb3
   refine bC ?_
   exact ⟨_,rfl,fm_ bV [] rfl bE dw⟩
  rcases cnd_ hb3 with ⟨q_35,hb3⟩|⟨q_35,hb3⟩
  ·rcases cnd_ hb3 with ⟨q_36,hb3⟩|⟨q_36,hb3⟩
   ·cases hb3
    refine bC ?_
    exact ⟨_,rfl,fm_ bV [] rfl bE dw⟩
   cases hb3
   refine bC ?_
   exact ⟨_,rfl,fm_ bV [] rfl bE dw⟩
  cases hb3
  refine bC ?_
  exact ⟨_,rfl,fm_ bV [] rfl bE dw⟩
 cases hb3
 have hx3:rq (.inl (c_25,c_26,c_27,i_28))=some _:=hk3
 unfold rq at hx3
 dsimp only at hx3
 cases hx3
 exact go_
def wN (a_rows:(List (List Val))) (a_l:(List Ag)):((List Val) × Int)->Option (Step ((List Val) × Int) ((List Val))):=fun s=>match s with
 | (row_1,k_2)=>bif (decide (k_2<((a_l.length:Nat):Int))) then (aL a_l k_2).bind fun x_4=>(EP a_rows x_4).bind fun r_5=>bif (decide (row_1.length+1<=4398046511104)) then (some (.next ((row_1++[r_5]),(IntKind.i64.wrap (k_2+(1:Int)))))) else none else
 some (.exit (row_1,k_2))
def Bg:Sum ((List Val) × Int) ((List Val))->Option (((List Val)))
 | .inl (row_1,k_2)=>some row_1
 | .inr q=>some q
def Cu (a_key:(List Val)) (a_rows:(List (List Val))) (a_l:(List Ag)):Option ((List Val)):=bif (decide (a_key.length<=4398046511104)) then ((ax (wN a_rows a_l) fuel (a_key,(0:Int))).bind (Bg)) else none
theorem Cv {a_key:(List Val)} {a_rows:(List (List Val))} {a_l:(List Ag)} {r:(List Val)} (H:Cu a_key a_rows a_l=some r):Pure Tryz.prog 60 [.one (.lst (a_key.map cV)), .one (.lst (a_rows.map (fun x=>[AC.lst (x.map cV)]))), .one (.lst (a_l.map JH))] (.val (.one (.lst (r.map cV)))):=by
 unfold Cu at H
 refine po_ Tryz.func60 Tryz.ntmps60 ?_
 obtain ⟨g1,H⟩:=aK H
 refine bC ?_
 refine alM_ (fun s:(List Val) × Int=>match s with|(row_1,k_2)=>[(1, .one (.c (.lst (a_rows.map (fun x=>[AC.lst (x.map cV)]))))),(2, .one (.c (.lst (a_l.map JH)))),(7, .one (.own (row_1.map cV) 0)),(8, .one (.c (.int .i64 k_2)))]) (fun s=>match s with|(row_1,k_2)=>[.spare row_1.length 3]) H (fun _=>abv _)
  (fm_ bV [] rfl bE dw) ?_
 rintro ⟨row_1,k_2⟩ st1 hb1 hk1
 unfold wN at hb1
 dsimp only at hb1 ⊢
 rcases cnd_ hb1 with ⟨q_3,hb1⟩|⟨q_3,hb1⟩
 ·obtain ⟨x_4,i2z,i2,i2x,hb1⟩:=aX (f:=JH) hb1
  obtain ⟨r_5,c3,hb1⟩:=bd_ hb1
  replace c3:=R6 c3
  obtain ⟨g4,hb1⟩:=aK hb1
  cases hb1
  refine bC ?_
  exact ⟨_,rfl,fm_ o8 [] kJ bE dw⟩
 cases hb1
 have hx1:Bg (.inl (row_1,k_2))=some _:=hk1
 unfold Bg at hx1
 dsimp only at hx1
 cases hx1
 exact go_
end
set_option maxHeartbeats 8000000
section
variable {P:Program} {ti:TI} {N n0:Nat} {ds:List (Option Tmp)} {K:Tm->List Ob->Prop} {rest:List Oper} {o:Oper} {T:Tm} {L:List Ob}
theorem Y_ {v:AV} {L':List Ob} {φ:Prop} {d:Nat} (hd:o.dst=some d) (hN:Nat.blt d N=true) {g0:Bool} (hg:jk ds T o.guard=some g0) (hp:Ec ti (look T) L o.op=some (v,L',φ)) (h:aU P ti N ds K rest ((d,v)::T) L')
  (hφ:φ:=by repeat' (first|exact trivial|rfl|exact abj rfl|omega|exact yo (by intro _;rfl) _|exact yo EQ _|exact yo En _|(intro e he;simp at he;subst he;rfl)|exact abl _|(simp only [abl,abg,abw,abF,abR]<;>omega)|apply And.intro)) (hg1:g0=true:=by first|rfl|exact lq (by first|assumption|exact lL (by assumption))|exact kP (by first|assumption|exact lV (by assumption))):aU P ti N ds K (o::rest) T L:=az hd hN (hg1▸hg) hp hφ h
end
noncomputable section
def iE:((List aZ) × (List aZ) × (List aZ))->Option (Step ((List aZ) × (List aZ) × (List aZ)) ((List aZ))):=fun s=>match s with
 | (a_6,b_7,out_8)=>bif (decide ((0:Int)<((a_6.length:Nat):Int))) then bif (decide ((0:Int)<((b_7.length:Nat):Int))) then (aL b_7 (0:Int)).bind fun x_11=>(aL a_6 (0:Int)).bind fun x_12=>(CB x_11.key x_12.key).bind fun r_13=>bif (decide (r_13<(0:Int))) then bif (decide (out_8.length+1<=2932031007402)) then ((jE b_7 (1:Int) ((b_7.length:Nat):Int)).bind fun s_15=>some (.next (a_6,s_15,(out_8++[x_11])))) else none else
 bif (decide (out_8.length+1<=2932031007402)) then ((jE a_6 (1:Int) ((a_6.length:Nat):Int)).bind fun s_16=>some (.next (s_16,b_7,(out_8++[x_12])))) else none else
 some (.exit (a_6,b_7,out_8)) else
 some (.exit (a_6,b_7,out_8))
def fC:Sum ((List aZ) × (List aZ) × (List aZ)) ((List aZ))->Option (((List aZ)))
 | .inl (a_6,b_7,out_8)=>bif (decide (out_8.length+a_6.length<=2932031007402)) then (bif (decide (out_8.length+a_6.length+b_7.length<=2932031007402)) then (some (out_8++a_6++b_7)) else none) else none
 | .inr q=>some q
def DZ (rec:List aZ->Option (List aZ)) (a_l:(List aZ)):Option ((List aZ)):=bif (decide (((a_l.length:Nat):Int)<(2:Int))) then some a_l else
 bif (decide ((2:Int)≠0)) then ((jE a_l (0:Int) (IntKind.i64.wrap (((a_l.length:Nat):Int).tdiv (2:Int)))).bind fun s_2=>(rec s_2).bind fun r_3=>bif (decide ((2:Int)≠0)) then ((jE a_l (IntKind.i64.wrap (((a_l.length:Nat):Int).tdiv (2:Int))) ((a_l.length:Nat):Int)).bind fun s_4=>(rec s_4).bind fun r_5=>(ax (iE) fuel (r_3,r_5,[])).bind (fC)) else none) else none
theorem OD {rec:List aZ->Option (List aZ)}  (hrec : ∀ {x:List aZ} {r:List aZ}, rec x=some r->Pure Tryz.prog 59 [.one (.lst (x.map cu))] (.val (.one (.lst (r.map cu))))) {a_l:(List aZ)} {r:(List aZ)} (H:DZ rec a_l=some r):Pure Tryz.prog 59 [.one (.lst (a_l.map cu))] (.val (.one (.lst (r.map cu)))):=by
 unfold DZ at H
 refine po_ Tryz.func59 Tryz.ntmps59 ?_
 rcases cnd_ H with ⟨q_1,H⟩|⟨q_1,H⟩
 ·cases H
  exact go_
 obtain ⟨g1,H⟩:=aK H
 obtain ⟨s_2,u2,H⟩:=bd_ H
 obtain ⟨⟨u2a,u2b,u2c⟩,u2⟩:=eO u2
 have u2x:=DD (f:=cu) u2
 obtain ⟨r_3,c3,H⟩:=bd_ H
 replace c3:=hrec c3
 obtain ⟨g4,H⟩:=aK H
 obtain ⟨s_4,u5,H⟩:=bd_ H
 obtain ⟨⟨u5a,u5b,u5c⟩,u5⟩:=eO u5
 have u5x:=DD (f:=cu) u5
 obtain ⟨r_5,c6,H⟩:=bd_ H
 replace c6:=hrec c6
 repeat' (first|refine p_ rfl rfl rfl rfl rfl ?_|refine st_nil ?_|refine x_ rfl rfl rfl rfl rfl rfl rfl rfl ?_|refine Y_ rfl rfl rfl rfl ?_|refine s_ rfl rfl rfl ?_|refine t_ rfl rfl rfl rfl ?_|refine k_ rfl rfl rfl ?_|refine k0_ rfl rfl ?_|refine c_ rfl rfl rfl rfl ?_|refine pick_t rfl rfl rfl rfl rfl rfl rfl ?_|refine pick_f rfl rfl rfl rfl rfl rfl rfl ?_|refine aw_seq ?_|refine aw_region tab_ok _ rfl ?_|refine aw_drawn2 tabS_ok _ rfl mixed (by decide +kernel) ?_|refine aw_condT rfl ?_|refine aw_condF rfl ?_|refine aw_block ?_|refine aw_exit ?_|refine aw_ret ?_|refine aw_skip ?_|rw [abl]|rw [mn_norm]|rw [mx_norm]|rw [u2x]|rw [u5x]|rw [show ((0:Nat):Int)=0 from rfl])
 refine dh 5 2 rfl ?_
 refine alM_ (fun s:(List aZ) × (List aZ) × (List aZ)=>match s with|(a_6,b_7,out_8)=>[(3, .one (.c (.lst (a_6.map cu)))),(4, .one (.c (.lst (b_7.map cu)))),(5, .one (.own (out_8.map cu) 0))]) (fun s=>match s with|(a_6,b_7,out_8)=>[.spare out_8.length 2]) H (fun _=>abv _)
  (fm_ bV [] rfl bE dw) ?_
 rintro ⟨a_6,b_7,out_8⟩ st1 hb1 hk1
 unfold iE at hb1
 dsimp only at hb1 ⊢
 rcases cnd_ hb1 with ⟨q_9,hb1⟩|⟨q_9,hb1⟩
 ·rcases cnd_ hb1 with ⟨q_10,hb1⟩|⟨q_10,hb1⟩
  ·obtain ⟨x_11,i7z,i7,i7x,hb1⟩:=aX (f:=cu) hb1
   obtain ⟨x_12,i8z,i8,i8x,hb1⟩:=aX (f:=cu) hb1
   obtain ⟨r_13,c9,hb1⟩:=bd_ hb1
   replace c9:=Az c9
   rcases cnd_ hb1 with ⟨q_14,hb1⟩|⟨q_14,hb1⟩
   ·obtain ⟨g10,hb1⟩:=aK hb1
    obtain ⟨s_15,u11,hb1⟩:=bd_ hb1
    obtain ⟨⟨u11a,u11b,u11c⟩,u11⟩:=eO u11
    have u11x:=DD (f:=cu) u11
    cases hb1
    repeat' (first|refine p_ rfl rfl rfl rfl rfl ?_|refine st_nil ?_|refine x_ rfl rfl rfl rfl rfl rfl rfl rfl ?_|refine Y_ rfl rfl rfl rfl ?_|refine s_ rfl rfl rfl ?_|refine t_ rfl rfl rfl rfl ?_|refine k_ rfl rfl rfl ?_|refine k0_ rfl rfl ?_|refine c_ rfl rfl rfl rfl ?_|refine pick_t rfl rfl rfl rfl rfl rfl rfl ?_|refine pick_f rfl rfl rfl rfl rfl rfl rfl ?_|refine aw_seq ?_|refine aw_region tab_ok _ rfl ?_|refine aw_drawn2 tabS_ok _ rfl mixed (by decide +kernel) ?_|refine aw_condT rfl ?_|refine aw_condF rfl ?_|refine aw_block ?_|refine aw_exit ?_|refine aw_ret ?_|refine aw_skip ?_|rw [abl]|rw [mn_norm]|rw [mx_norm]|rw [u2x]|rw [u5x]|rw [u11x]|rw [show ((0:Nat):Int)=0 from rfl])
    exact ⟨_,rfl,fm_ o8 [] kJ bE dw⟩
   obtain ⟨g12,hb1⟩:=aK hb1
   obtain ⟨s_16,u13,hb1⟩:=bd_ hb1
   obtain ⟨⟨u13a,u13b,u13c⟩,u13⟩:=eO u13
   have u13x:=DD (f:=cu) u13
   cases hb1
   repeat' (first|refine p_ rfl rfl rfl rfl rfl ?_|refine st_nil ?_|refine x_ rfl rfl rfl rfl rfl rfl rfl rfl ?_|refine Y_ rfl rfl rfl rfl ?_|refine s_ rfl rfl rfl ?_|refine t_ rfl rfl rfl rfl ?_|refine k_ rfl rfl rfl ?_|refine k0_ rfl rfl ?_|refine c_ rfl rfl rfl rfl ?_|refine pick_t rfl rfl rfl rfl rfl rfl rfl ?_|refine pick_f rfl rfl rfl rfl rfl rfl rfl ?_|refine aw_seq ?_|refine aw_region tab_ok _ rfl ?_|refine aw_drawn2 tabS_ok _ rfl mixed (by decide +kernel) ?_|refine aw_condT rfl ?_|refine aw_condF rfl ?_|refine aw_block ?_|refine aw_exit ?_|refine aw_ret ?_|refine aw_skip ?_|rw [abl]|rw [mn_norm]|rw [mx_norm]|rw [u2x]|rw [u5x]|rw [u13x]|rw [show ((0:Nat):Int)=0 from rfl])
   exact ⟨_,rfl,fm_ o8 [] kJ bE dw⟩
  cases hb1
  have hx1:fC (.inl (a_6,b_7,out_8))=some _:=hk1
  unfold fC at hx1
  dsimp only at hx1
  obtain ⟨g14,hx1⟩:=aK hx1
  obtain ⟨g15,hx1⟩:=aK hx1
  cases hx1
  repeat' (first|refine p_ rfl rfl rfl rfl rfl ?_|refine st_nil ?_|refine x_ rfl rfl rfl rfl rfl rfl rfl rfl ?_|refine Y_ rfl rfl rfl rfl ?_|refine s_ rfl rfl rfl ?_|refine t_ rfl rfl rfl rfl ?_|refine k_ rfl rfl rfl ?_|refine k0_ rfl rfl ?_|refine c_ rfl rfl rfl rfl ?_|refine pick_t rfl rfl rfl rfl rfl rfl rfl ?_|refine pick_f rfl rfl rfl rfl rfl rfl rfl ?_|refine aw_seq ?_|refine aw_region tab_ok _ rfl ?_|refine aw_drawn2 tabS_ok _ rfl mixed (by decide +kernel) ?_|refine aw_condT rfl ?_|refine aw_condF rfl ?_|refine aw_block ?_|refine aw_exit ?_|refine aw_ret ?_|refine aw_skip ?_|rw [abl]|rw [mn_norm]|rw [mx_norm]|rw [u2x]|rw [u5x]|rw [show ((0:Nat):Int)=0 from rfl])
  refine aO (aR rfl ?_ ?_)
  ·repeat' (first|exact trivial|rfl|exact abj rfl|omega|apply And.intro)
  ·first|rfl|(simp only [abm,abk,abo,abd]<;>rfl)
 cases hb1
 have hx1:fC (.inl (a_6,b_7,out_8))=some _:=hk1
 unfold fC at hx1
 dsimp only at hx1
 obtain ⟨g16,hx1⟩:=aK hx1
 obtain ⟨g17,hx1⟩:=aK hx1
 cases hx1
 repeat' (first|refine p_ rfl rfl rfl rfl rfl ?_|refine st_nil ?_|refine x_ rfl rfl rfl rfl rfl rfl rfl rfl ?_|refine Y_ rfl rfl rfl rfl ?_|refine s_ rfl rfl rfl ?_|refine t_ rfl rfl rfl rfl ?_|refine k_ rfl rfl rfl ?_|refine k0_ rfl rfl ?_|refine c_ rfl rfl rfl rfl ?_|refine pick_t rfl rfl rfl rfl rfl rfl rfl ?_|refine pick_f rfl rfl rfl rfl rfl rfl rfl ?_|refine aw_seq ?_|refine aw_region tab_ok _ rfl ?_|refine aw_drawn2 tabS_ok _ rfl mixed (by decide +kernel) ?_|refine aw_condT rfl ?_|refine aw_condF rfl ?_|refine aw_block ?_|refine aw_exit ?_|refine aw_ret ?_|refine aw_skip ?_|rw [abl]|rw [mn_norm]|rw [mx_norm]|rw [u2x]|rw [u5x]|rw [show ((0:Nat):Int)=0 from rfl])
 refine aO (aR rfl ?_ ?_)
 ·repeat' (first|exact trivial|rfl|exact abj rfl|omega|apply And.intro)
 ·first|rfl|(simp only [abm,abk,abo,abd]<;>rfl)
def Co:Nat->List aZ->Option (List aZ)
 | 0,_=>none
 | n+1,x=>DZ (Co n) x
theorem IZ : ∀ (n:Nat) {x:List aZ} {r:List aZ}, Co n x=some r->Pure Tryz.prog 59 [.one (.lst (x.map cu))] (.val (.one (.lst (r.map cu))))
 | 0,_,_,h=>nomatch h
 | n+1,_,_,h=>OD (IZ n) h
end
set_option maxHeartbeats 8000000
noncomputable section
def Dc:(Unit)->Option (Step (Unit) (Bag)):=fun s=>match s with
 | ()=>some (.exit ())
def p9 (r_1:(List Int) × Int) (r_10:(List Val)):Sum (Unit) (Bag)->Option ((Bag))
 | .inl ()=>(ku [r_10]).bind fun r_12=>some (⟨r_1.1,r_12⟩:Bag)
 | .inr q=>some q
def CE:(Unit)->Option (Step (Unit) (Bag)):=fun s=>match s with
 | ()=>some (.exit ())
def qd (r_1:(List Int) × Int):Sum (Unit) (Bag)->Option ((Bag))
 | .inl ()=>(ku ([]:(List (List Val)))).bind fun r_14=>some (⟨r_1.1,r_14⟩:Bag)
 | .inr q=>some q
def iD (r_7:(List aZ)) (i_16:Int):((List (List Val)) × Int)->Option (Step ((List (List Val)) × Int) (Bag)):=fun s=>match s with
 | (rows_18,k_19)=>bif (decide (k_19<((r_7.length:Nat):Int))) then (aL r_7 k_19).bind fun x_21=>(aL r_7 i_16).bind fun x_22=>(gU x_21.key x_22.key).bind fun r_23=>bif r_23 then bif (decide (rows_18.length+1<=5864062014805)) then (some (.next ((rows_18++[x_21.row]),(IntKind.i64.wrap (k_19+(1:Int)))))) else none else
 some (.exit (rows_18,k_19)) else
 some (.exit (rows_18,k_19))
def jN (a_l:(List Ag)) (r_7:(List aZ)) (c_15:(List (List Val))) (i_16:Int):Sum ((List (List Val)) × Int) (Bag)->Option (Step ((List (List Val)) × Int) (Bag))
 | .inl (rows_18,k_19)=>(aL r_7 i_16).bind fun x_25=>(Cu x_25.key rows_18 a_l).bind fun r_26=>bif (decide (c_15.length+1<=5864062014805)) then (some (.next ((c_15++[r_26]),k_19))) else none
 | .inr q=>some (.ret q)
def iF (a_l:(List Ag)) (r_7:(List aZ)):((List (List Val)) × Int)->Option (Step ((List (List Val)) × Int) (Bag)):=fun s=>match s with
 | (c_15,i_16)=>bif (decide (i_16<((r_7.length:Nat):Int))) then (ax (iD r_7 i_16) fuel ([],i_16)).bind (jN a_l r_7 c_15 i_16) else
 some (.exit (c_15,i_16))
def jM (r_1:(List Int) × Int):Sum ((List (List Val)) × Int) (Bag)->Option ((Bag))
 | .inl (c_15,i_16)=>(ku c_15).bind fun r_27=>some (⟨r_1.1,r_27⟩:Bag)
 | .inr q=>some q
def jU (a_b:Bag) (a_keys:(List Int)):((List aZ) × Int)->Option (Step ((List aZ) × Int) (Bag)):=fun s=>match s with
 | (all_2,i_3)=>bif (decide (i_3<((a_b.rows.length:Nat):Int))) then (aL a_b.rows i_3).bind fun x_5=>(GM x_5 a_keys).bind fun r_6=>bif (decide (all_2.length+1<=2932031007402)) then (some (.next ((all_2++[(⟨r_6,x_5⟩:aZ)]),(IntKind.i64.wrap (i_3+(1:Int)))))) else none else
 some (.exit (all_2,i_3))
def mo (a_keys:(List Int)) (a_l:(List Ag)) (r_1:(List Int) × Int):Sum ((List aZ) × Int) (Bag)->Option ((Bag))
 | .inl (all_2,i_3)=>(Co 64 all_2).bind fun r_7=>bif (decide (((r_7.length:Nat):Int)=(0:Int))) then bif (decide (((a_keys.length:Nat):Int)=(0:Int))) then (Cu ([]:(List Val)) ([]:(List (List Val))) a_l).bind fun r_10=>bif (decide (1<=5864062014805)) then ((ax (Dc) fuel ()).bind (p9 r_1 r_10)) else none else
 (ax (CE) fuel ()).bind (qd r_1) else
 (ax (iF a_l r_7) fuel ([],(0:Int))).bind (jM r_1)
 | .inr q=>some q
def rO (a_b:Bag) (a_keys:(List Int)) (a_l:(List Ag)):Option (Bag):=(kZ a_b.kinds a_keys a_l).bind fun r_1=>(ax (jU a_b a_keys) fuel ([],(0:Int))).bind (mo a_keys a_l r_1)
theorem WY {a_b:Bag} {a_keys:(List Int)} {a_l:(List Ag)} {r:Bag} (H:rO a_b a_keys a_l=some r):Pure Tryz.prog 19 [.agg (cBag a_b), .one (.lst (a_keys.map (fun x=>[AC.int .i64 x]))), .one (.lst (a_l.map JH))] (.val (.agg (cBag r))):=by
 unfold rO at H
 refine po_ Tryz.func19 Tryz.ntmps19 ?_
 obtain ⟨r_1,c1,H⟩:=bd_ H
 replace c1:=xY c1
 refine bC ?_
 refine dh 10 2 rfl ?_
 refine alM_ (fun s:(List aZ) × Int=>match s with|(all_2,i_3)=>[(1, .one (.c (.lst (a_keys.map (fun x=>[AC.int .i64 x]))))),(2, .one (.c (.lst (a_l.map JH)))),(3, .one (.ptr 0 0)),(6, .one (.ptr 1 0)),(9, .one (.ptr 2 0)),(10, .one (.own (all_2.map cu) 3)),(11, .one (.c (.int .i64 i_3)))]) (fun s=>match s with|(all_2,i_3)=>[.box [.c (.lst (a_b.kinds.map (fun x=>[AC.int .i64 x]))), .c (.lst (a_b.rows.map (fun x=>[AC.lst (x.map cV)])))], .box [.emp, .emp], .box [.c (.lst (r_1.1.map (fun x=>[AC.int .i64 x]))), .emp], .spare all_2.length 2]) H (fun _=>abv _)
  (fm_ bV [] rfl bE dw) ?_
 rintro ⟨all_2,i_3⟩ st1 hb1 hk1
 unfold jU at hb1
 dsimp only at hb1 ⊢
 rcases cnd_ hb1 with ⟨q_4,hb1⟩|⟨q_4,hb1⟩
 ·obtain ⟨x_5,i2z,i2,i2x,hb1⟩:=aX (f:=(fun x=>[AC.lst (x.map cV)])) hb1
  obtain ⟨r_6,c3,hb1⟩:=bd_ hb1
  replace c3:=Rq c3
  obtain ⟨g4,hb1⟩:=aK hb1
  cases hb1
  refine bC ?_
  exact ⟨_,rfl,fm_ o8 [] kJ bE dw⟩
 cases hb1
 have hx1:mo a_keys a_l r_1 (.inl (all_2,i_3))=some _:=hk1
 unfold mo at hx1
 dsimp only at hx1
 obtain ⟨r_7,c5,hx1⟩:=bd_ hx1
 replace c5:=IZ 64 c5
 rcases cnd_ hx1 with ⟨q_8,hx1⟩|⟨q_8,hx1⟩
 ·rcases cnd_ hx1 with ⟨q_9,hx1⟩|⟨q_9,hx1⟩
  ·obtain ⟨r_10,c6,hx1⟩:=bd_ hx1
   replace c6:=Cv c6
   try simp only [abm,abk,abo,abd,tE_eq,tP_eq] at c6
   obtain ⟨g7,hx1⟩:=aK hx1
   refine bC ?_
   refine alM_ (fun s:Unit=>match s with|()=>[(2, .one (.c (.lst (a_l.map JH)))),(6, .one (.ptr 1 0)),(9, .one (.ptr 2 0)),(10, .one (.c (.lst (r_7.map cu)))),(12, .one (.c (.int .i64 (0:Int))))]) (fun s=>match s with|()=>[.box [.c (.lst (a_b.kinds.map (fun x=>[AC.int .i64 x]))), .c (.lst (a_b.rows.map (fun x=>[AC.lst (x.map cV)])))], .box [.emp, .emp], .box [.c (.lst (r_1.1.map (fun x=>[AC.int .i64 x]))), .own ([r_10].map (fun x=>[AC.lst (x.map cV)])) 4], .spare all_2.length 2, .spare 1 1]) hx1 (fun _=>abv _)
    (fm_ bV [] rfl bE dw) ?_
   rintro ⟨⟩ st2 hb2 hk2
   unfold Dc at hb2
   try dsimp only at hb2 ⊢
   have q_11:(decide ((0:Int)<((r_7.length:Nat):Int)))=false:=by rw [abD q_8];decide
   cases hb2
   have hx2:p9 r_1 r_10 (.inl ())=some _:=hk2
   unfold p9 at hx2
   try dsimp only at hx2
   obtain ⟨r_12,c8,hx2⟩:=bd_ hx2
   replace c8:=fH c8
   try simp only [abm,abk,abo,abd,tE_eq,tP_eq] at c8
   cases hx2
   exact go_
  refine bC ?_
  refine alM_ (fun s:Unit=>match s with|()=>[(2, .one (.c (.lst (a_l.map JH)))),(6, .one (.ptr 1 0)),(9, .one (.ptr 2 0)),(10, .one (.c (.lst (r_7.map cu)))),(12, .one (.c (.int .i64 (0:Int))))]) (fun s=>match s with|()=>[.box [.c (.lst (a_b.kinds.map (fun x=>[AC.int .i64 x]))), .c (.lst (a_b.rows.map (fun x=>[AC.lst (x.map cV)])))], .box [.emp, .emp], .box [.c (.lst (r_1.1.map (fun x=>[AC.int .i64 x]))), .emp], .spare all_2.length 2]) hx1 (fun _=>abv _)
   (fm_ bV [] rfl bE dw) ?_
  rintro ⟨⟩ st3 hb3 hk3
  unfold CE at hb3
  try dsimp only at hb3 ⊢
  have q_13:(decide ((0:Int)<((r_7.length:Nat):Int)))=false:=by rw [abD q_8];decide
  cases hb3
  have hx3:qd r_1 (.inl ())=some _:=hk3
  unfold qd at hx3
  try dsimp only at hx3
  obtain ⟨r_14,c9,hx3⟩:=bd_ hx3
  replace c9:=fH c9
  try simp only [abm,abk,abo,abd,tE_eq,tP_eq] at c9
  cases hx3
  exact go_
 refine bC ?_
 refine nI 2 1 1 rfl rfl ?_
 refine alM_ (fun s:(List (List Val)) × Int=>match s with|(c_15,i_16)=>[(2, .one (.c (.lst (a_l.map JH)))),(6, .one (.ptr 1 0)),(9, .one (.ptr 2 0)),(10, .one (.c (.lst (r_7.map cu)))),(12, .one (.c (.int .i64 i_16)))]) (fun s=>match s with|(c_15,i_16)=>[.box [.c (.lst (a_b.kinds.map (fun x=>[AC.int .i64 x]))), .c (.lst (a_b.rows.map (fun x=>[AC.lst (x.map cV)])))], .box [.emp, .emp], .box [.c (.lst (r_1.1.map (fun x=>[AC.int .i64 x]))), .own (c_15.map (fun x=>[AC.lst (x.map cV)])) 4], .spare all_2.length 2, .spare c_15.length 1]) hx1 (fun _=>abv _)
  (fm_ bV [] rfl bE dw) ?_
 rintro ⟨c_15,i_16⟩ st6 hb6 hk6
 unfold iF at hb6
 dsimp only at hb6 ⊢
 rcases cnd_ hb6 with ⟨q_17,hb6⟩|⟨q_17,hb6⟩
 ·refine bC ?_
  refine dh 13 1 rfl ?_
  refine alM_ (fun s:(List (List Val)) × Int=>match s with|(rows_18,k_19)=>[(2, .one (.c (.lst (a_l.map JH)))),(6, .one (.ptr 1 0)),(9, .one (.ptr 2 0)),(10, .one (.c (.lst (r_7.map cu)))),(12, .one (.c (.int .i64 i_16))),(13, .one (.own (rows_18.map (fun x=>[AC.lst (x.map cV)])) 5)),(14, .one (.c (.int .i64 k_19)))]) (fun s=>match s with|(rows_18,k_19)=>[.box [.c (.lst (a_b.kinds.map (fun x=>[AC.int .i64 x]))), .c (.lst (a_b.rows.map (fun x=>[AC.lst (x.map cV)])))], .box [.emp, .emp], .box [.c (.lst (r_1.1.map (fun x=>[AC.int .i64 x]))), .own (c_15.map (fun x=>[AC.lst (x.map cV)])) 4], .spare all_2.length 2, .spare c_15.length 1, .spare rows_18.length 1]) hb6 (fun _=>abv _)
   (fm_ bV [] rfl bE dw) ?_
  rintro ⟨rows_18,k_19⟩ st7 hb7 hk7
  unfold iD at hb7
  dsimp only at hb7 ⊢
  rcases cnd_ hb7 with ⟨q_20,hb7⟩|⟨q_20,hb7⟩
  ·obtain ⟨x_21,i10z,i10,i10x,hb7⟩:=aX (f:=cu) hb7
   obtain ⟨x_22,i11z,i11,i11x,hb7⟩:=aX (f:=cu) hb7
   obtain ⟨r_23,c12,hb7⟩:=bd_ hb7
   replace c12:=oN c12
   rcases cnd_ hb7 with ⟨q_24,hb7⟩|⟨q_24,hb7⟩
   ·obtain ⟨g13,hb7⟩:=aK hb7
    cases hb7
    refine bC ?_
    exact ⟨_,rfl,fm_ o8 [] kJ bE dw⟩
   cases hb7
   have hx7:jN a_l r_7 c_15 i_16 (.inl (rows_18,k_19))=some _:=hk7
   unfold jN at hx7
   dsimp only at hx7
   obtain ⟨x_25,i14z,i14,i14x,hx7⟩:=aX (f:=cu) hx7
   cases abH (i11.symm.trans i14)
   obtain ⟨r_26,c15,hx7⟩:=bd_ hx7
   replace c15:=Cv c15
   obtain ⟨g16,hx7⟩:=aK hx7
   cases hx7
   refine bC ?_
   exact ⟨_,rfl,fm_ bV [_] kJ bE dw⟩
  cases hb7
  have hx7:jN a_l r_7 c_15 i_16 (.inl (rows_18,k_19))=some _:=hk7
  unfold jN at hx7
  dsimp only at hx7
  obtain ⟨x_25,i17z,i17,i17x,hx7⟩:=aX (f:=cu) hx7
  obtain ⟨r_26,c18,hx7⟩:=bd_ hx7
  replace c18:=Cv c18
  obtain ⟨g19,hx7⟩:=aK hx7
  cases hx7
  refine bC ?_
  exact ⟨_,rfl,fm_ bV [_] kJ bE dw⟩
 cases hb6
 have hx6:jM r_1 (.inl (c_15,i_16))=some _:=hk6
 unfold jM at hx6
 dsimp only at hx6
 obtain ⟨r_27,c20,hx6⟩:=bd_ hx6
 replace c20:=fH c20
 cases hx6
 exact go_
def I8 (a_b:Bag) (a_keys:(List Int)) (a_l:(List Ag)):Option (Bool):=bif (decide ((IntKind.i64.wrap (((a_keys.length:Nat):Int)+((a_l.length:Nat):Int)))=(0:Int))) then some false else
 bif (decide ((48:Int)<(IntKind.i64.wrap (((a_keys.length:Nat):Int)+((a_l.length:Nat):Int))))) then some false else
 (kZ a_b.kinds a_keys a_l).bind fun r_3=>some (decide (r_3.2=(0:Int)))
theorem Vn {a_b:Bag} {a_keys:(List Int)} {a_l:(List Ag)} {r:Bool} (H:I8 a_b a_keys a_l=some r):Pure Tryz.prog 16 [.agg (cBag a_b), .one (.lst (a_keys.map (fun x=>[AC.int .i64 x]))), .one (.lst (a_l.map JH))] (.val (.one (.bool r))):=by
 unfold I8 at H
 refine po_ Tryz.func16 Tryz.ntmps16 ?_
 rcases cnd_ H with ⟨q_1,H⟩|⟨q_1,H⟩
 ·cases H
  exact go_
 rcases cnd_ H with ⟨q_2,H⟩|⟨q_2,H⟩
 ·cases H
  exact go_
 obtain ⟨r_3,c1,H⟩:=bd_ H
 replace c1:=xY c1
 cases H
 exact go_
end
theorem rJ {a b:List (List Val)} (h:a.Perm b):aI a=aI b:=ol tCr_ (eH a) (eH b) ((bn a).trans (h.trans (bn b).symm))
abbrev KR:=List Val × List Val
def Ke (l:List KR):Prop:=l.Pairwise fun a b=>bD a.1 b.1<=0
def FV:List KR->List KR->List KR
 | [],b=>b
 | x::a,b=>go x (fun b=>FV a b) a b
 where
 go (x:KR) (rec:List KR->List KR) (a:List KR):List KR->List KR
  | []=>x::a
  | y::b=>if bD y.1 x.1<0 then y::go x rec a b else x::rec (y::b)
theorem zW (a:List KR):FV a []=a:=by
 cases a with
 | nil=>rfl
 | cons x a=>rfl
theorem xy (x y:KR) (a b:List KR):FV (x::a) (y::b)=if bD y.1 x.1<0 then y::FV (x::a) b else x::FV a (y::b):=rfl
theorem qA : ∀ (a b:List KR),(FV a b).Perm (a++b)
 | [],b=>List.Perm.refl _
 | x::a,[]=>by rw [zW,abJ]
 | x::a,y::b=>by
  rw [xy]
  split
  ·exact ((qA (x::a) b).cons y).trans (List.perm_middle (l₁:=x::a)).symm
  ·exact (qA a (y::b)).cons x
theorem le_tr {a b c:List Val} (h1:bD a b<=0) (h2:bD b c<=0):bD a c<=0:=by
 by_cases e1:bD a b=0
 ·rw [tCr_.zero _ _ e1];exact h2
 ·by_cases e2:bD b c=0
  ·rw [<- tCr_.zero _ _ e2];exact h1
  ·have:=tCr_.trans a b c (by omega) (by omega)
   omega
theorem Fy : ∀ {a b:List KR}, Ke a->Ke b->Ke (FV a b)
 | [],b,_,hb=>hb
 | x::a,[],ha,_=>by rw [zW];exact ha
 | x::a,y::b,ha,hb=>by
  rw [xy]
  have hxa:=ab2.1 ha
  have hyb:=ab2.1 hb
  split
  ·rename_i hlt
   refine ab2.2 ⟨fun z hz=>?_,Fy ha hyb.2⟩
   rcases abC.1 ((qA (x::a) b).mem_iff.1 hz) with h|h
   ·rcases abq.1 h with rfl|h
    ·omega
    ·exact le_tr (by omega) (hxa.1 z h)
   ·exact hyb.1 z h
  ·rename_i hge
   have hxy:bD x.1 y.1<=0:=by have:=tCr_.anti y.1 x.1;have:=tCr_.anti x.1 y.1;omega
   refine ab2.2 ⟨fun z hz=>?_,Fy hxa.2 hb⟩
   rcases abC.1 ((qA a (y::b)).mem_iff.1 hz) with h|h
   ·exact hxa.1 z h
   ·rcases abq.1 h with rfl|h
    ·exact hxy
    ·exact le_tr hxy (hyb.1 z h)
theorem uX (k:List Val) : ∀ {a b:List KR}, Ke a->Ke b->((FV a b).filter fun p=>decide (p.1=k))=(a.filter fun p=>decide (p.1=k))++b.filter fun p=>decide (p.1=k)
 | [],b,_,_=>rfl
 | x::a,[],_,_=>by rw [zW];simp
 | x::a,y::b,ha,hb=>by
  rw [xy]
  have hxa:=ab2.1 ha
  have hyb:=ab2.1 hb
  split
  ·rename_i hlt
   have ih:=uX k ha hyb.2
   by_cases e:y.1=k
   ·have h0:((x::a).filter fun p=>decide (p.1=k))=[]:=by
     rw [List.filter_eq_nil_iff]
     intro z hz hq
     have hzk:=abD hq
     have:bD x.1 z.1<=0:=by
      rcases abq.1 hz with rfl|hz
      ·rw [tCr_.refl];omega
      ·exact hxa.1 z hz
     rw [hzk, <- e] at this
     have:=tCr_.anti y.1 x.1
     omega
    rw [h0,abd] at ih
    rw [h0,List.filter_cons_of_pos (by simpa using e),List.filter_cons_of_pos (by simpa using e),ih]
    rfl
   ·rw [List.filter_cons_of_neg (by simpa using e),ih]
    rw [List.filter_cons_of_neg (p:=fun p=>decide (p.1=k)) (a:=y) (by simpa using e)]
  ·have ih:=uX k hxa.2 hb
   by_cases e:x.1=k
   ·rw [List.filter_cons_of_pos (by simpa using e),List.filter_cons_of_pos (by simpa using e),ih]
    rfl
   ·rw [List.filter_cons_of_neg (by simpa using e),List.filter_cons_of_neg (p:=fun p=>decide (p.1=k)) (a:=x) (by simpa using e),ih]
def BZ:Nat->List KR->List KR
 | 0,l=>l
 | n+1,l=>if l.length<2 then l else FV (BZ n (l.take (l.length/2))) (BZ n (l.drop (l.length/2)))
theorem wL : ∀ (n:Nat) (l:List KR),l.length<=n->Ke (BZ n l)/\(BZ n l).Perm l /\ ∀ k,((BZ n l).filter fun p=>decide (p.1=k))=l.filter fun p=>decide (p.1=k)
 | 0,l,h=>by
  have:l=[]:=abA (by omega)
  subst this
  exact ⟨List.Pairwise.nil,List.Perm.refl _,fun _=>rfl⟩
 | n+1,l,h=>by
  unfold BZ
  by_cases h2:l.length<2
  ·rw [if_pos h2]
   refine ⟨?_,List.Perm.refl _,fun _=>rfl⟩
   match l,h2 with
   | [],_=>exact List.Pairwise.nil
   | [x],_=>exact List.pairwise_singleton _ _
  ·rw [if_neg h2]
   obtain ⟨a1,a2,a3⟩:=wL n (l.take (l.length/2)) (by rw [abY];omega)
   obtain ⟨b1,b2,b3⟩:=wL n (l.drop (l.length/2)) (by rw [List.length_drop];omega)
   refine ⟨Fy a1 b1,?_,fun k=>?_⟩
   ·have:=(qA (BZ n (l.take (l.length/2))) (BZ n (l.drop (l.length/2)))).trans (a2.append b2)
    rwa [abU] at this
   ·rw [uX k a1 b1,a3,b3, <- List.filter_append,abU]
def runs:Nat->List KR->List (List Val × List (List Val))
 | 0,_=>[]
 | _,[]=>[]
 | n+1,(k,r)::l=>(k,r::(l.takeWhile fun p=>decide (p.1=k)).map (·.2))::runs n (l.dropWhile fun p=>decide (p.1=k))
theorem Mo (k:List Val) : ∀ l:List (List Val),cK (some k) l=cK none (l.dropWhile fun x=>decide (x=k))
 | []=>rfl
 | x::l=>by
  by_cases e:x=k
  ·subst e
   rw [List.dropWhile_cons_of_pos (by simp), <- Mo x l]
   unfold cK
   rw [if_pos rfl]
   cases l<;>rfl
  ·rw [List.dropWhile_cons_of_neg (by simpa using e)]
   unfold cK
   rw [if_neg (fun h=>e (by injection h with h;exact h.symm)),if_neg (fun h=>by cases h)]
theorem Dj (k:List Val) : ∀ l:List KR,(∀ p∈l,bD k p.1<=0)->Ke l->(l.takeWhile fun p=>decide (p.1=k))=(l.filter fun p=>decide (p.1=k))/\(l.dropWhile fun p=>decide (p.1=k))=l.filter fun p => !decide (p.1=k)
 | [],_,_=>⟨rfl,rfl⟩
 | x::l,h1,h2=>by
  have hc:=ab2.1 h2
  by_cases e:x.1=k
  ·have ih:=Dj k l (fun p hp=>h1 p (aby _ hp)) hc.2
   rw [List.takeWhile_cons_of_pos (by simpa using e),List.dropWhile_cons_of_pos (by simpa using e),List.filter_cons_of_pos (by simpa using e),List.filter_cons_of_neg (by simpa using e),ih.1,ih.2]
   exact ⟨rfl,rfl⟩
  ·have hlt:bD k x.1<0:=by
    have:=h1 x (by simp)
    by_cases h0:bD k x.1=0
    ·exact absurd (tCr_.zero _ _ h0).symm e
    ·omega
   have hne : ∀ p∈x::l, ¬ p.1=k:=by
    intro p hp q
    rcases abq.1 hp with rfl|hp
    ·exact e q
    ·have:=hc.1 p hp
     rw [q] at this
     have:=tCr_.anti k x.1
     omega
   rw [List.takeWhile_cons_of_neg (by simpa using e),List.dropWhile_cons_of_neg (by simpa using e)]
   refine ⟨(List.filter_eq_nil_iff.2 fun p hp=>by simpa using hne p hp).symm,(List.filter_eq_self.2 fun p hp=>by simpa using hne p hp).symm⟩
theorem map_drop (k:List Val) : ∀ l:List KR,((l.map (·.1)).dropWhile fun x=>decide (x=k))=(l.dropWhile fun p=>decide (p.1=k)).map (·.1)
 | []=>rfl
 | x::l=>by
  by_cases e:x.1=k
  ·rw [abk,List.dropWhile_cons_of_pos (by simpa using e),List.dropWhile_cons_of_pos (by simpa using e),map_drop k l]
  ·rw [abk,List.dropWhile_cons_of_neg (by simpa using e),List.dropWhile_cons_of_neg (by simpa using e),abk]
theorem Qm : ∀ (n:Nat) (l:List KR),l.length<=n->Ke l->runs n l=(cK none (l.map (·.1))).map fun k=>(k,(l.filter fun p=>decide (p.1=k)).map (·.2))
 | 0,l,h,_=>by
  have:l=[]:=abA (by omega)
  subst this;rfl
 | n+1,[],_,_=>rfl
 | n+1,(k,r)::l,h,ha=>by
  have hc:=ab2.1 ha
  have ht:=Dj k l (fun p hp=>hc.1 p hp) hc.2
  have hs:Ke (l.dropWhile fun p=>decide (p.1=k)):=by rw [ht.2];exact hc.2.sublist List.filter_sublist
  have ih:=Qm n (l.dropWhile fun p=>decide (p.1=k)) (by rw [ht.2];have:=List.length_filter_le (fun p:KR => !decide (p.1=k)) l;simp only [abw] at h;omega) hs
  have e1:runs (n+1) ((k,r)::l)=(k,r::(l.takeWhile fun p=>decide (p.1=k)).map (·.2))::runs n (l.dropWhile fun p=>decide (p.1=k)):=rfl
  have e2:cK none (((k,r)::l).map (·.1))=k::cK (some k) (l.map (·.1)):=by
   rw [abk]
   unfold cK
   rw [if_neg (fun h=>by cases h)]
   cases l.map (·.1)<;>rfl
  rw [e1,e2,Mo,map_drop,abk,ih,ht.1]
  congr 1
  ·rw [List.filter_cons_of_pos (by simp)];rfl
  ·refine List.map_congr_left fun k' hk'=>?_
   have hk2:=Aq k' _ _ hk'
   obtain ⟨p,hp,hpk⟩:=abK.1 hk2
   rw [ht.2] at hp
   have hne : ¬ p.1=k:=by have:=(List.mem_filter.1 hp).2;simpa using this
   have hkk : ¬ k=k':=fun q=>hne (by rw [hpk,q])
   rw [List.filter_cons_of_neg (by simpa using hkk),ht.2,List.filter_filter]
   congr 2
   refine List.filter_congr fun q _=>?_
   by_cases e:q.1=k'
   ·have : ¬ k'=k:=fun h=>hkk h.symm
    simp [e,this]
   ·simp [e]
theorem Dg (s t:ByteArray) (n:Int) : ∀ M:List (ByteArray × Int),ji (d9 M s n) t=(decide (t=s)||ji M t)
 | []=>by
  unfold ji d9 dQ
  by_cases e:t=s<;>simp [iR,e]
 | p::r=>by
  have ih:=Dg s t n r
  have hc : ∀ (q:ByteArray × Int) (m:List (ByteArray × Int)),ji (q::m) t=(decide (t=q.1)||ji m t):=by
   intro q m
   unfold ji dQ
   by_cases e:t=q.1<;>simp [iR,e]
  unfold d9
  by_cases e1:s=p.1
  ·rw [if_pos e1,hc,hc]
   by_cases e:t=s
   ·simp [e]
   ·have e2 : ¬ t=p.1:=fun q=>e (q.trans e1.symm)
    simp [e,e2]
  ·rw [if_neg e1,hc,hc,ih]
   by_cases e2:t=p.1<;>simp [e2]
theorem BI (x:List Val) : ∀ (l seen:List (List Val)),fF seen (l++[x])=fF seen l++(if x∈seen\/x∈l then [] else [x])
 | [],seen=>by
  by_cases h:x∈seen<;>simp [fF,h]
 | y::l,seen=>by
  rw [List.cons_append]
  unfold fF
  by_cases hy:y∈seen
  ·rw [if_pos hy,if_pos hy,BI x l seen]
   by_cases hx:x∈seen
   ·simp [hx]
   ·have : ¬ x=y:=fun e=>hx (by rw [e];exact hy)
    simp [hx,this]
  ·rw [if_neg hy,if_neg hy,BI x l (y::seen)]
   by_cases hx:x∈seen
   ·simp [hx]
   ·by_cases e:x=y<;>simp [hx,e]
theorem He (l:List (List Val)):(fF [] l).Nodup:=(bn _).nodup_iff.1 (by rw [Aa];exact pU (oI l))
def KS (ky:List Val->List Val) (rows:List (List Val)):kR:=(fF [] (rows.map ky)).map fun k=>rows.filter fun r=>decide (ky r=k)
structure GInv (ky:List Val->List Val) (rows:List (List Val)) (s:Gs):Prop where
 G:s.G=KS ky rows
 has : ∀ k,ji s.M (eX k)=decide (k∈rows.map ky)
 idx : ∀ (k:List Val) (i:Nat),(fF [] (rows.map ky))[i]?=some k->dm s.M (eX k)=(i:Int)
theorem xB (ky:List Val->List Val) (rows:List (List Val)) (r k:List Val):((rows++[r]).filter fun x=>decide (ky x=k))=(rows.filter fun x=>decide (ky x=k))++(if ky r=k then [r] else []):=by
 rw [List.filter_append]
 by_cases h:ky r=k<;>simp [h]
theorem RA {ky:List Val->List Val} {rows:List (List Val)} {s:Gs} (h:GInv ky rows s) (r:List Val):GInv ky (rows++[r]) (jY (fun x=>eX (ky x)) s r):=by
 have hm:(rows++[r]).map ky=rows.map ky++[ky r]:=by simp
 have hD:=BI (ky r) (rows.map ky) []
 have e0:jY (fun x=>eX (ky x)) s r=bif ji s.M (eX (ky r)) then ⟨s.M,s.G.set (dm s.M (eX (ky r))).toNat (s.G.getD (dm s.M (eX (ky r))).toNat []++[r])⟩ else ⟨d9 s.M (eX (ky r)) s.G.length,s.G++[[r]]⟩:=rfl
 rw [e0,h.has]
 by_cases hk:ky r∈rows.map ky
 ·rw [abb hk,aa']
  have hD2:fF [] (rows.map ky++[ky r])=fF [] (rows.map ky):=by rw [hD,if_pos (.inr hk),abJ]
  obtain ⟨i,hi⟩:=List.mem_iff_getElem?.1 ((ma _ _).2 hk)
  have hix:=h.idx _ i hi
  rw [hix]
  have hn:=He (rows.map ky)
  have hlt:=(aa9.1 hi).1
  refine ⟨?_,fun k=>?_,fun k j hj=>?_⟩
  ·show s.G.set i (s.G.getD i []++[r])=_
   unfold KS
   rw [hm,hD2,h.G]
   unfold KS
   apply List.ext_getElem?
   intro j
   rw [abx]
   by_cases e:j=i
   ·subst e
    rw [abt (by rw [abl];exact hlt),hi,abZ,abx,hi]
    simp [xB]
   ·rw [abu (Ne.symm e),abx]
    cases hj:(fF [] (rows.map ky))[j]? with
    | none=>rfl
    | some k =>
     have hne : ¬ ky r=k:=by
      intro q
      have hjlt:=(aa9.1 hj).1
      have:=(List.getElem_inj (h₀:=hjlt) (h₁:=hlt) hn).1 (by rw [(aa9.1 hj).2,(aa9.1 hi).2,q])
      exact e this
     simp [xB,hne]
  ·show ji s.M (eX k)=_
   rw [h.has,hm]
   by_cases e:k=ky r
   ·subst e;simp only [hk];simp
   ·simp [e]
  ·rw [hm,hD2] at hj
   exact h.idx k j hj
 ·rw [aba hk,aa_]
  have hD2:fF [] (rows.map ky++[ky r])=fF [] (rows.map ky)++[ky r]:=by rw [hD,if_neg (by simpa using hk)]
  have hlen:s.G.length=(fF [] (rows.map ky)).length:=by rw [h.G];unfold KS;simp
  refine ⟨?_,fun k=>?_,fun k j hj=>?_⟩
  ·show s.G++[[r]]=_
   unfold KS
   rw [hm,hD2,h.G,abm]
   unfold KS
   congr 1
   ·refine List.map_congr_left fun k hkm=>?_
    have hne : ¬ ky r=k:=fun q=>hk (by rw [q];exact (ma _ _).1 hkm)
    simp [xB,hne]
   ·have h0:(rows.filter fun x=>decide (ky x=ky r))=[]:=by
     rw [List.filter_eq_nil_iff]
     intro x hx hq
     exact hk (abK.2 ⟨x,hx,abD hq⟩)
    simp only [abk,abo,xB,h0,if_true,abd]
  ·show ji (d9 s.M (eX (ky r)) _) (eX k)=_
   rw [Dg,h.has,hm]
   by_cases e:k=ky r
   ·subst e;simp
   ·have : ¬ eX k=eX (ky r):=fun q=>e (vO q)
    simp [e,this]
  ·show dm (d9 s.M (eX (ky r)) _) (eX k)=_
   rw [hm,hD2] at hj
   rw [nX]
   by_cases hjl:j<(fF [] (rows.map ky)).length
   ·rw [abn hjl] at hj
    have hne : ¬ k=ky r:=fun q=>hk (by rw [<- q];exact (ma _ _).1 (abe hj))
    rw [if_neg (fun q=>hne (vO q))]
    exact h.idx k j hj
   ·rw [abf (by omega)] at hj
    have hj0:j-(fF [] (rows.map ky)).length=0:=by
     have:=(aa9.1 hj).1
     simpa using this
    rw [hj0] at hj
    simp at hj
    subst hj
    rw [if_pos rfl,hlen]
    omega
theorem Sl (ky:List Val->List Val) : ∀ (n:Nat) (rows:List (List Val)),rows.length=n->GInv ky rows (kM (fun x=>eX (ky x)) rows):=by
 intro n
 induction n with
 | zero =>
  intro rows h
  have:rows=[]:=abA h
  subst this
  exact ⟨rfl,fun k=>by simp [kM,ji,dQ,iR],fun k i h=>by simp [fF] at h⟩
 | succ n ih =>
  intro rows h
  rcases List.eq_nil_or_concat rows with rfl|⟨l,r,rfl⟩
  ·cases h
  ·rw [List.concat_eq_append,Gn]
   exact RA (ih l (by simpa using h)) r
theorem Zi (ky:List Val->List Val) (rows:List (List Val)):(kM (fun x=>eX (ky x)) rows).G=KS ky rows:=(Sl ky _ rows rfl).G
theorem NY (ky:List Val->List Val) (f:List Val->List (List Val)->List Val) (rows:List (List Val)):aI ((fF [] (rows.map ky)).map fun k=>f k (rows.filter fun r=>decide (ky r=k)))=aI ((cK none (aI (rows.map ky))).map fun k=>f k (rows.filter fun r=>decide (ky r=k))) :=
 rJ (by rw [<- Aa];exact ((bn _).map _).symm)
theorem BU {σ α τ ρ:Type} {l:List α} (enc:σ->Nat->τ) {body:τ->Option (Step τ ρ)} (f:σ->α->σ) (P:σ->Nat->Prop) (h1 : ∀ (s:σ) (i:Nat) (x:α),l[i]?=some x->P s i->body (enc s i)=some (.next (enc (f s x) (i+1)))/\P (f s x) (i+1)) (h2 : ∀ s,P s l.length->body (enc s l.length)=some (.exit (enc s l.length))) : ∀ (n i:Nat) (s:σ),i<=l.length->l.length-i<n->P s i->ax body n (enc s i)=some (.inl (enc ((l.drop i).foldl f s) l.length))/\P ((l.drop i).foldl f s) l.length
 | 0,i,s,_,h,_=>by omega
 | n+1,i,s,hi,hn,hP=>by
  rw [ax]
  by_cases hlt:i<l.length
  ·obtain ⟨x,hx⟩:=gol_ hlt
   obtain ⟨e1,e2⟩:=h1 s i x hx hP
   have ih:=BU enc f P h1 h2 n (i+1) (f s x) (by omega) (by omega) e2
   rw [e1,abG hlt,(aa9.1 hx).2,abX]
   exact ih
  ·have:i=l.length:=by omega
   subst this
   rw [h2 s hP,ab1]
   exact ⟨rfl,hP⟩
theorem Zg (row:List Val) (i:Int):vv row i=Qq row i:=rfl
theorem Sm (row:List Val) {l:List Int} (hl:l.length<=100000):GM row l=some (bY row l):=by
 unfold GM
 rw [eu (l:=l) (fun k=>[Qq row k]) 4398046511104 ?_ ?_ (by unfold fuel;omega) [] (by rw [fo_];simp;omega)]
 ·rw [aa8,abd,fo_];rfl
 ·intro s i x hx hs
  have hi:=(aa9.1 hx).1
  unfold xg
  dsimp only
  rw [aY hx,aa',gn_ hx,aa8,Qa,aa8,Zg,wrapN (by omega),abb (show s.length+1<=4398046511104 from hs),aa']
 ·intro s
  unfold xg
  dsimp only
  rw [lF_,aa_]
def WZ (v:Val):Prop := -1125899906842624<=v.int/\v.int<=1125899906842624
theorem XG {v:Val} (h:vF v=true):WZ v:=by
 have:=(uF h).int
 unfold WZ;omega
theorem Rk (s:Int × Int):Bz s=KJ s:=by
 unfold Bz KJ
 rw [show uD=(⟨0,0,ByteArray.empty⟩:Val) from rfl]
 generalize IntKind.i64.wrap (AQ (IntKind.i64.wrap (s.1+mg s.2))+G5 s.2)=n
 cases (bif decide (IntKind.i64.wrap (s.1+mg s.2) < -2147483648) then true else decide (2147483648<IntKind.i64.wrap (s.1+mg s.2))) with
 | true=>rfl
 | false =>
  rw [aa_,aa_]
  unfold mU
  by_cases h1:n < -1125899906842624
  ·rw [abb h1,aa',aa',if_neg (by omega)]
  ·rw [aba h1,aa_]
   by_cases h2:1125899906842624<n
   ·rw [abb h2,aa',if_neg (by omega)]
   ·rw [aba h2,aa_]
theorem Wl {l:List Val} (hl:l.length<=1000000) (hv : ∀ v∈l,WZ v):JX l=mU (Bo l):=by
 unfold JX
 rw [Rk]
 exact QV l hl hv
theorem GV (arg:Int) (rows:List (List Val)):uG arg rows=rows.flatMap (gI arg []):=by
 have : ∀ (rows:List (List Val)) (acc:List Val),rows.foldl (gI arg) acc=acc++rows.flatMap (gI arg []):=by
  intro rows
  induction rows with
  | nil=>intro acc;simp
  | cons r rows ih =>
   intro acc
   rw [abX,ih,abN, <- abB]
   congr 1
   unfold gI
   cases decide (arg<((r.length:Nat):Int)) with
   | false=>simp
   | true =>
    simp only [aa']
    cases r[arg.toNat]? with
    | none=>simp
    | some v =>
     dsimp only
     cases decide (v.kind≠0) with
     | false=>rw [aa_,aa_,abJ]
     | true=>rw [aa',aa'];rfl
 have:=this rows []
 simpa [uG] using this
theorem VK {arg:Int} {rows:List (List Val)} {v:Val} (h:v∈uG arg rows) : ∃ r∈rows,v∈r:=by
 rw [GV] at h
 obtain ⟨r,hr,hv⟩:=List.mem_flatMap.1 h
 refine ⟨r,hr,?_⟩
 unfold gI at hv
 cases h1:decide (arg<((r.length:Nat):Int)) with
 | false=>rw [h1] at hv;cases hv
 | true =>
  rw [h1,aa'] at hv
  cases h2:r[arg.toNat]? with
  | none=>rw [h2] at hv;cases hv
  | some w =>
   rw [h2] at hv
   simp only at hv
   cases h3:decide (w.kind≠0) with
   | false=>rw [h3] at hv;cases hv
   | true=>rw [h3,aa'] at hv;simp at hv;subst hv;exact abe h2
theorem TF (x:Int) (h : -1125899906842624<=x/\x<=1125899906842624) : -1073741824<=x.tdiv 1048576/\x.tdiv 1048576<=1073741824 /\ -1048576<x.tmod 1048576/\x.tmod 1048576<1048576:=by
 have h1:=Int.tmod_add_mul_tdiv x 1048576
 have h2:=Int.tmod_lt_of_pos x (show (0:Int)<1048576 by omega)
 have h3:=Int.lt_tmod_of_pos x (show (0:Int)<1048576 by omega)
 omega
theorem MK {l:List Val} (hl:l.length<=1000) (hv : ∀ v∈l,WZ v):(ax (kY l) fuel ((0:Int),(0:Int),(0:Int))).bind qJ=some (mU (Bo l)):=by
 have h1 : ∀ (s:Int × Int) (i:Nat) (x:Val),l[i]?=some x->(i<=l.length/\(-1073741824*(i:Int)<=s.1/\s.1<=1073741824*(i:Int)) /\ -1048576*(i:Int)<=s.2/\s.2<=1048576*(i:Int))->kY l (s.1,s.2,((i:Nat):Int))=some (.next ((Dm s x).1,(Dm s x).2,((i+1:Nat):Int)))/\(i+1<=l.length/\(-1073741824*((i+1:Nat):Int)<=(Dm s x).1/\(Dm s x).1<=1073741824*((i+1:Nat):Int)) /\ -1048576*((i+1:Nat):Int)<=(Dm s x).2/\(Dm s x).2<=1048576*((i+1:Nat):Int)):=by
  intro s i x hx hP
  obtain ⟨h0,⟨p1,p2⟩,p3,p4⟩:=hP
  have hi:=(aa9.1 hx).1
  obtain ⟨d1,d2,d3,d4⟩:=TF x.int (hv x (abe hx))
  refine ⟨?_,by omega,?_,?_⟩
  ·unfold kY Dm
   dsimp only
   rw [aY hx,aa',gn_ hx,aa8,show decide ((1048576:Int)≠0)=true from rfl,aa',aa',bJ (x:=x.int.tdiv 1048576) (by omega),bJ (x:=s.1+x.int.tdiv 1048576) (by omega),bJ (x:=s.2+x.int.tmod 1048576) (by omega),wrapN (by omega)]
  ·unfold Dm;simp only;omega
  ·unfold Dm;simp only;omega
 have h2 : ∀ s:Int × Int,kY l (s.1,s.2,((l.length:Nat):Int))=some (.exit (s.1,s.2,((l.length:Nat):Int))):=by
  intro s
  unfold kY
  dsimp only
  rw [lF_,aa_]
 have H:=BU (l:=l) (fun (s:Int × Int) (i:Nat)=>(s.1,s.2,((i:Nat):Int))) (body:=kY l) Dm (fun s i=>i<=l.length/\(-1073741824*(i:Int)<=s.1/\s.1<=1073741824*(i:Int)) /\ -1048576*(i:Int)<=s.2/\s.2<=1048576*(i:Int)) h1 (fun s _=>h2 s) fuel 0 (0,0) (abv _) (by unfold fuel;omega) ⟨abv _,by simp,by simp⟩
 rw [List.drop_zero] at H
 obtain ⟨e,hP⟩:=H
 have hsum:=FB l (0,0)
 generalize l.foldl Dm (0,0)=s at e hP hsum
 obtain ⟨a,b⟩:=s
 obtain ⟨_,⟨p1,p2⟩,p3,p4⟩:=hP
 simp only at p1 p2 p3 p4 hsum
 have hl2:((l.length:Nat):Int)<=1000:=by omega
 have e2:ax (kY l) fuel ((0:Int),(0:Int),(0:Int))=some (.inl (a,b,((l.length:Nat):Int))):=e
 rw [e2,aa8]
 have hd:=Int.tmod_add_mul_tdiv b 1048576
 have hd2:=Int.tmod_lt_of_pos b (show (0:Int)<1048576 by omega)
 have hd3:=Int.lt_tmod_of_pos b (show (0:Int)<1048576 by omega)
 have hs2:(a+b.tdiv 1048576)*1048576+b.tmod 1048576=Bo l:=by omega
 unfold qJ
 dsimp only
 rw [show decide ((1048576:Int)≠0)=true from rfl,aa',aa',bJ (x:=b.tdiv 1048576) (by omega),bJ (x:=a+b.tdiv 1048576) (by omega)]
 by_cases h1:1099511627776<a+b.tdiv 1048576
 ·rw [abb h1,aa',bR]
  unfold mU
  rw [if_neg (by omega)];rfl
 ·rw [aba h1,aa_]
  by_cases h2:a+b.tdiv 1048576 < -1099511627776
  ·rw [abb h2,aa',bR]
   unfold mU
   rw [if_neg (by omega)];rfl
  ·rw [aba h2,aa_,bJ (x:=(a+b.tdiv 1048576)*1048576) (by omega),hs2,bJ (by omega),Fe];rfl
theorem Kb (a:Ag) (x:Val) {l:List Val} (hl:l.length<=1000):(ax (kS a (x::l)) fuel (x.kind,x.int,x.text,(1:Int))).bind rq=some ((x::l).foldl (dI a.op) x):=by
 have h1 : ∀ (s:Val) (i:Nat) (y:Val),(x::l)[i]?=some y->True->kS a (x::l) (s.kind,s.int,s.text,((i:Nat):Int))=some (.next ((dI a.op s y).kind,(dI a.op s y).int,(dI a.op s y).text,((i+1:Nat):Int)))/\True:=by
  intro s i y hx _
  refine ⟨?_,trivial⟩
  have hi:=(aa9.1 hx).1
  rw [abw] at hi
  unfold kS dI
  dsimp only
  rw [aY hx,aa',gn_ hx,aa8,zT,aa8,wrapN (by omega)]
  by_cases h3:a.op=3
  ·rw [abb h3,aba (show ¬ a.op=4 by omega)]
   cases decide (ni y s<0)<;>rfl
  ·rw [aba h3]
   cases decide (a.op=4)<;>cases decide (0<ni y s)<;>rfl
 have h2 : ∀ s:Val,kS a (x::l) (s.kind,s.int,s.text,(((x::l).length:Nat):Int))=some (.exit (s.kind,s.int,s.text,(((x::l).length:Nat):Int))):=by
  intro s
  unfold kS
  dsimp only
  rw [lF_,aa_]
 have H:=BU (l:=x::l) (fun (s:Val) (i:Nat)=>(s.kind,s.int,s.text,((i:Nat):Int))) (body:=kS a (x::l)) (dI a.op) (fun _ _=>True) h1 (fun s _=>h2 s) fuel 1 x (by simp) (by rw [abw];unfold fuel;omega) trivial
 have e2:ax (kS a (x::l)) fuel (x.kind,x.int,x.text,(1:Int))=some (.inl _):=H.1
 rw [e2,aa8]
 unfold rq
 dsimp only
 have hxx:dI a.op x x=x:=by
  unfold dI
  cases (bif (bif decide (a.op=3) then decide (ni x x<0) else false) then true else (bif decide (a.op=4) then decide (0<ni x x) else false))<;>rfl
 rw [abX,hxx];rfl
theorem Sj {rows:List (List Val)} {a:Ag} (hl:rows.length<=1000) (hr : ∀ r∈rows,a.arg<((r.length:Nat):Int)) (hv : ∀ r∈rows, ∀ v∈r,WZ v):EP rows a=some (fZ a.op a.arg rows):=by
 unfold EP fZ
 cases h0:decide (a.arg<0) with
 | true=>rw [aa',aa',Fe];rfl
 | false =>
  have hneg:=of_decide_eq_false h0
  have hcl:=J7 a.arg rows
  rw [aa_,aa_,eu (l:=rows) (gI a.arg []) 1000000 ?_ ?_ (by unfold fuel;omega) [] (by rw [<- GV];simp only [abF];omega)]
  ·rw [aa8,abd, <- GV]
   have hcv : ∀ v∈uG a.arg rows,WZ v:=fun v h=>by obtain ⟨r,h1,h2⟩:=VK h;exact hv r h1 v h2
   unfold w9
   dsimp only
   cases h1:decide (a.op=1) with
   | true=>rw [aa',aa',Fe];rfl
   | false =>
    rw [aa_,aa_]
    generalize uG a.arg rows=C at hcl hcv
    cases C with
    | nil=>rw [show decide (((([]:List Val).length:Nat):Int)=0)=true from rfl,aa',bR];rfl
    | cons x l =>
     rw [aba (show ¬ (((x::l).length:Nat):Int)=0 by rw [abw];omega),aa_]
     simp only
     cases h2:decide (a.op=2) with
     | true=>rw [aa',aa',MK (by omega) hcv,Wl (by omega) hcv]
     | false =>
      rw [aa_,aa_,show aL (x::l) (0:Int)=some x from rfl,aa8]
      exact Kb a x (by rw [abw] at hcl;omega)
  ·intro s i x hx hs
   have hi:=(aa9.1 hx).1
   have hxa:=hr x (abe hx)
   obtain ⟨v,hv2⟩:=gol_ (show a.arg.toNat<x.length by omega)
   have hg:aL x a.arg=some v:=by
    have:=gn_ hv2
    rwa [show ((a.arg.toNat:Nat):Int)=a.arg by omega] at this
   unfold xC
   dsimp only
   unfold gI at hs ⊢
   rw [abb hxa,aa',hv2] at hs ⊢
   simp only at hs ⊢
   rw [aY hx,aa',gn_ hx,aa8,hg,aa8,wrapN (by omega)]
   cases hk:decide (v.kind≠0) with
   | false=>simp
   | true =>
    rw [hk,aa'] at hs
    rw [aa',aa',abb (show s.length+1<=4398046511104 by simp at hs;omega),aa'];rfl
  ·intro s
   unfold xC
   dsimp only
   rw [lF_,aa_]
theorem Jq {key:List Val} {rows:List (List Val)} {l:List Ag} (hk:key.length<=1000) (hl:l.length<=1000) (hn:rows.length<=1000) (hr : ∀ a∈l, ∀ r∈rows,a.arg<((r.length:Nat):Int)) (hv : ∀ r∈rows, ∀ v∈r,WZ v):Cu key rows l=some (key++l.map fun a=>fZ a.op a.arg rows):=by
 unfold Cu
 rw [abb (show key.length<=4398046511104 by omega),aa',eu (l:=l) (fun a=>[fZ a.op a.arg rows]) 4398046511104 ?_ ?_ (by unfold fuel;omega) key (by rw [fo_,abl];omega)]
 ·rw [aa8,fo_];rfl
 ·intro s i x hx hs
  have hi:=(aa9.1 hx).1
  unfold wN
  dsimp only
  rw [aY hx,aa',gn_ hx,aa8,Sj hn (hr x (abe hx)) hv,aa8,wrapN (by omega),abb (show s.length+1<=4398046511104 from hs),aa']
 ·intro s
  unfold wN
  dsimp only
  rw [lF_,aa_]
end Go.Proofs.YtfpbmfalamappaaGreatDoor
