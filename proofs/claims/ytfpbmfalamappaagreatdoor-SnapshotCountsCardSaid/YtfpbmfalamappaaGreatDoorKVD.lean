/- Parts of the proof, joined. No condition. -/
import Derived.Test.YtfpbmfalamappaaGreatDoorKAA
import Derived.Test.YtfpbmfalamappaaGreatDoorKBC
import Derived.Test.YtfpbmfalamappaaGreatDoorKBD
import Derived.Test.YtfpbmfalamappaaGreatDoorKVB
import Derived.Test.YtfpbmfalamappaaGreatDoorKVA
import Derived.Test.YtfpbmfalamappaaGreatDoorKVC
import Derived.Test.YtfpbmfalamappaaGreatDoorKAI
import Derived.Test.YtfpbmfalamappaaGreatDoorKBE
set_option linter.unusedSimpArgs false
set_option linter.unusedVariables false
namespace Go.Proofs.YtfpbmfalamappaaGreatDoor
open Go.RowKit Go.MapKept
set_option maxRecDepth 100000
set_option maxHeartbeats 8000000
noncomputable section
def xg (a_row:(List Val)) (a_l:(List Int)):((List Val) × Int)->Option (Step ((List Val) × Int) ((List Val))):=fun s=>match s with
 | (out_1,i_2)=>bif (decide (i_2<((a_l.length:Nat):Int))) then (aL a_l i_2).bind fun x_4=>(ME a_row x_4).bind fun r_5=>bif (decide (out_1.length+1<=4398046511104)) then (some (.next ((out_1++[r_5]),(IntKind.i64.wrap (i_2+(1:Int)))))) else none else
 some (.exit (out_1,i_2))
def Bv:Sum ((List Val) × Int) ((List Val))->Option (((List Val)))
 | .inl (out_1,i_2)=>some out_1
 | .inr q=>some q
def GM (a_row:(List Val)) (a_l:(List Int)):Option ((List Val)):=(ax (xg a_row a_l) fuel ([],(0:Int))).bind (Bv)
theorem Rq {a_row:(List Val)} {a_l:(List Int)} {r:(List Val)} (H:GM a_row a_l=some r):Pure Tryz.prog 20 [.one (.lst (a_row.map cV)), .one (.lst (a_l.map (fun x=>[AC.int .i64 x])))] (.val (.one (.lst (r.map cV)))):=by
 unfold GM at H
 refine po_ Tryz.func20 Tryz.ntmps20 ?_
 refine bC ?_
 refine dh 5 3 rfl ?_
 refine alM_ (fun s:(List Val) × Int=>match s with|(out_1,i_2)=>[(0, .one (.c (.lst (a_row.map cV)))),(1, .one (.c (.lst (a_l.map (fun x=>[AC.int .i64 x]))))),(5, .one (.own (out_1.map cV) 0)),(6, .one (.c (.int .i64 i_2)))]) (fun s=>match s with|(out_1,i_2)=>[.spare out_1.length 3]) H (fun _=>abv _)
  (fm_ bV [] rfl bE dw) ?_
 rintro ⟨out_1,i_2⟩ st1 hb1 hk1
 unfold xg at hb1
 dsimp only at hb1 ⊢
 rcases cnd_ hb1 with ⟨q_3,hb1⟩|⟨q_3,hb1⟩
 ·obtain ⟨x_4,i1z,i1,i1x,hb1⟩:=aX (f:=(fun x=>[AC.int .i64 x])) hb1
  obtain ⟨r_5,c2,hb1⟩:=bd_ hb1
  replace c2:=DN c2
  obtain ⟨g3,hb1⟩:=aK hb1
  cases hb1
  refine bC ?_
  exact ⟨_,rfl,fm_ o8 [] kJ bE dw⟩
 cases hb1
 have hx1:Bv (.inl (out_1,i_2))=some _:=hk1
 unfold Bv at hx1
 dsimp only at hx1
 cases hx1
 exact go_
def yn (a_kinds:(List Int)) (a_l:(List Ag)):((List Int) × Int)->Option (Step ((List Int) × Int) ((List Int) × Int)):=fun s=>match s with
 | (out_8,i_9)=>bif (decide (i_9<((a_l.length:Nat):Int))) then (aL a_l i_9).bind fun x_11=>bif (decide (x_11.op≠(1:Int))) then bif (decide (x_11.op≠(2:Int))) then bif (decide (x_11.op≠(3:Int))) then bif (decide (x_11.op≠(4:Int))) then some (.ret ([],(7:Int))) else
 bif (decide (x_11.arg=(-1:Int))) then some (.ret ([],(6:Int))) else
 bif (decide (x_11.arg<(0:Int))) then some (.ret ([],(6:Int))) else
 bif (decide (((a_kinds.length:Nat):Int)<=x_11.arg)) then some (.ret ([],(6:Int))) else
 (aL a_kinds x_11.arg).bind fun x_24=>bif (decide (out_8.length+1<=17592186044416)) then (some (.next ((out_8++[x_24]),(IntKind.i64.wrap (i_9+(1:Int)))))) else none else
 bif (decide (x_11.arg=(-1:Int))) then some (.ret ([],(6:Int))) else
 bif (decide (x_11.arg<(0:Int))) then some (.ret ([],(6:Int))) else
 bif (decide (((a_kinds.length:Nat):Int)<=x_11.arg)) then some (.ret ([],(6:Int))) else
 (aL a_kinds x_11.arg).bind fun x_32=>bif (decide (out_8.length+1<=17592186044416)) then (some (.next ((out_8++[x_32]),(IntKind.i64.wrap (i_9+(1:Int)))))) else none else
 bif (decide (x_11.arg=(-1:Int))) then some (.ret ([],(6:Int))) else
 bif (decide (x_11.arg<(0:Int))) then some (.ret ([],(6:Int))) else
 bif (decide (((a_kinds.length:Nat):Int)<=x_11.arg)) then some (.ret ([],(6:Int))) else
 (aL a_kinds x_11.arg).bind fun x_39=>bif (decide (x_39≠(1:Int))) then some (.ret ([],(7:Int))) else
 bif (decide (out_8.length+1<=17592186044416)) then (some (.next ((out_8++[(1:Int)]),(IntKind.i64.wrap (i_9+(1:Int)))))) else none else
 bif (decide (x_11.arg=(-1:Int))) then bif (decide (out_8.length+1<=17592186044416)) then (some (.next ((out_8++[(1:Int)]),(IntKind.i64.wrap (i_9+(1:Int)))))) else none else
 bif (decide (x_11.arg<(0:Int))) then some (.ret ([],(6:Int))) else
 bif (decide (((a_kinds.length:Nat):Int)<=x_11.arg)) then some (.ret ([],(6:Int))) else
 bif (decide (out_8.length+1<=17592186044416)) then (some (.next ((out_8++[(1:Int)]),(IntKind.i64.wrap (i_9+(1:Int)))))) else none else
 some (.exit (out_8,i_9))
def aQ:Sum ((List Int) × Int) ((List Int) × Int)->Option (((List Int) × Int))
 | .inl (out_8,i_9)=>some (out_8,(0:Int))
 | .inr q=>some q
def x8 (a_kinds:(List Int)) (a_keys:(List Int)):((List Int) × Int)->Option (Step ((List Int) × Int) ((List Int) × Int)):=fun s=>match s with
 | (out_1,i_2)=>bif (decide (i_2<((a_keys.length:Nat):Int))) then (aL a_keys i_2).bind fun x_4=>bif (decide (x_4<(0:Int))) then some (.ret ([],(6:Int))) else
 bif (decide (((a_kinds.length:Nat):Int)<=x_4)) then some (.ret ([],(6:Int))) else
 (aL a_kinds x_4).bind fun x_7=>bif (decide (out_1.length+1<=17592186044416)) then (some (.next ((out_1++[x_7]),(IntKind.i64.wrap (i_2+(1:Int)))))) else none else
 some (.exit (out_1,i_2))
def fu (a_kinds:(List Int)) (a_l:(List Ag)):Sum ((List Int) × Int) ((List Int) × Int)->Option (((List Int) × Int))
 | .inl (out_1,i_2)=>(ax (yn a_kinds a_l) fuel (out_1,(0:Int))).bind (aQ)
 | .inr q=>some q
def kZ (a_kinds:(List Int)) (a_keys:(List Int)) (a_l:(List Ag)):Option ((List Int) × Int):=(ax (x8 a_kinds a_keys) fuel ([],(0:Int))).bind (fu a_kinds a_l)
theorem xY {a_kinds:(List Int)} {a_keys:(List Int)} {a_l:(List Ag)} {r:(List Int) × Int} (H:kZ a_kinds a_keys a_l=some r):Pure Tryz.prog 53 [.one (.lst (a_kinds.map (fun x=>[AC.int .i64 x]))), .one (.lst (a_keys.map (fun x=>[AC.int .i64 x]))), .one (.lst (a_l.map JH))] (.tup [.one (.lst (r.1.map (fun x=>[AC.int .i64 x]))), .one (.int .i64 r.2)]):=by
 unfold kZ at H
 refine po_ Tryz.func53 Tryz.ntmps53 ?_
 refine bC ?_
 refine dh 8 1 rfl ?_
 refine alM_ (fun s:(List Int) × Int=>match s with|(out_1,i_2)=>[(0, .one (.c (.lst (a_kinds.map (fun x=>[AC.int .i64 x]))))),(1, .one (.c (.lst (a_keys.map (fun x=>[AC.int .i64 x]))))),(2, .one (.c (.lst (a_l.map JH)))),(8, .one (.own (out_1.map (fun x=>[AC.int .i64 x])) 0)),(9, .one (.c (.int .i64 i_2)))]) (fun s=>match s with|(out_1,i_2)=>[.spare out_1.length 1]) H (fun _=>abv _)
  (fm_ bV [] rfl bE dw) ?_
 rintro ⟨out_1,i_2⟩ st1 hb1 hk1
 unfold x8 at hb1
 dsimp only at hb1 ⊢
 rcases cnd_ hb1 with ⟨q_3,hb1⟩|⟨q_3,hb1⟩
 ·obtain ⟨x_4,i1z,i1,i1x,hb1⟩:=aX (f:=(fun x=>[AC.int .i64 x])) hb1
  rcases cnd_ hb1 with ⟨q_5,hb1⟩|⟨q_5,hb1⟩
  ·cases hb1
   have hx1:fu a_kinds a_l (.inr ([],(6:Int)))=some _:=hk1
   unfold fu at hx1
   dsimp only at hx1
   cases hx1
   exact go_
  rcases cnd_ hb1 with ⟨q_6,hb1⟩|⟨q_6,hb1⟩
  ·cases hb1
   have hx1:fu a_kinds a_l (.inr ([],(6:Int)))=some _:=hk1
   unfold fu at hx1
   dsimp only at hx1
   cases hx1
   exact go_
  obtain ⟨x_7,i2z,i2,i2x,hb1⟩:=aX (f:=(fun x=>[AC.int .i64 x])) hb1
  obtain ⟨g3,hb1⟩:=aK hb1
  cases hb1
  refine bC ?_
  exact ⟨_,rfl,fm_ o8 [] kJ bE dw⟩
 cases hb1
 have hx1:fu a_kinds a_l (.inl (out_1,i_2))=some _:=hk1
 unfold fu at hx1
 dsimp only at hx1
 refine bC ?_
 refine alM_ (fun s:(List Int) × Int=>match s with|(out_8,i_9)=>[(0, .one (.c (.lst (a_kinds.map (fun x=>[AC.int .i64 x]))))),(2, .one (.c (.lst (a_l.map JH)))),(8, .one (.own (out_8.map (fun x=>[AC.int .i64 x])) 0)),(10, .one (.c (.int .i64 i_9)))]) (fun s=>match s with|(out_8,i_9)=>[.spare out_8.length 1]) hx1 (fun _=>abv _)
  (fm_ bV [] rfl bE dw) ?_
 rintro ⟨out_8,i_9⟩ st2 hb2 hk2
 unfold yn at hb2
 dsimp only at hb2 ⊢
 rcases cnd_ hb2 with ⟨q_10,hb2⟩|⟨q_10,hb2⟩
 ·obtain ⟨x_11,i4z,i4,i4x,hb2⟩:=aX (f:=JH) hb2
  rcases cnd_ hb2 with ⟨q_12,hb2⟩|⟨q_12,hb2⟩
  ·rcases cnd_ hb2 with ⟨q_13,hb2⟩|⟨q_13,hb2⟩
   ·rcases cnd_ hb2 with ⟨q_14,hb2⟩|⟨q_14,hb2⟩
    ·rcases cnd_ hb2 with ⟨q_15,hb2⟩|⟨q_15,hb2⟩
     ·cases hb2
      have hx2:aQ (.inr ([],(7:Int)))=some _:=hk2
      unfold aQ at hx2
      dsimp only at hx2
      cases hx2
      exact go_
     rcases cnd_ hb2 with ⟨q_16,hb2⟩|⟨q_16,hb2⟩
     ·have q_17:(decide (x_11.op=(1:Int)))=false:=by rw [Decidable.not_not.1 (of_decide_eq_false q_15)];decide
      have q_18:(decide (x_11.arg<(0:Int)))=true:=by rw [abD q_16];decide
      cases hb2
      have hx2:aQ (.inr ([],(6:Int)))=some _:=hk2
      unfold aQ at hx2
      dsimp only at hx2
      cases hx2
      exact go_
     rcases cnd_ hb2 with ⟨q_19,hb2⟩|⟨q_19,hb2⟩
     ·cases hb2
      have hx2:aQ (.inr ([],(6:Int)))=some _:=hk2
      unfold aQ at hx2
      dsimp only at hx2
      cases hx2
      exact go_
     rcases cnd_ hb2 with ⟨q_20,hb2⟩|⟨q_20,hb2⟩
     ·cases hb2
      have hx2:aQ (.inr ([],(6:Int)))=some _:=hk2
      unfold aQ at hx2
      dsimp only at hx2
      cases hx2
      exact go_
     have q_21:(decide (x_11.op=(2:Int)))=false:=by rw [Decidable.not_not.1 (of_decide_eq_false q_15)];decide
     have q_22:(decide (x_11.op=(3:Int)))=false:=by rw [Decidable.not_not.1 (of_decide_eq_false q_15)];decide
     have q_23:(decide (x_11.op=(4:Int)))=true:=by rw [Decidable.not_not.1 (of_decide_eq_false q_15)];decide
     obtain ⟨x_24,i5z,i5,i5x,hb2⟩:=aX (f:=(fun x=>[AC.int .i64 x])) hb2
     obtain ⟨g6,hb2⟩:=aK hb2
     cases hb2
     refine bC ?_
     exact ⟨_,rfl,fm_ o8 [_] kJ bE dw⟩
    rcases cnd_ hb2 with ⟨q_25,hb2⟩|⟨q_25,hb2⟩
    ·have q_26:(decide (x_11.op=(1:Int)))=false:=by rw [Decidable.not_not.1 (of_decide_eq_false q_14)];decide
     have q_27:(decide (x_11.arg<(0:Int)))=true:=by rw [abD q_25];decide
     cases hb2
     have hx2:aQ (.inr ([],(6:Int)))=some _:=hk2
     unfold aQ at hx2
     dsimp only at hx2
     cases hx2
     exact go_
    rcases cnd_ hb2 with ⟨q_28,hb2⟩|⟨q_28,hb2⟩
    ·cases hb2
     have hx2:aQ (.inr ([],(6:Int)))=some _:=hk2
     unfold aQ at hx2
     dsimp only at hx2
     cases hx2
     exact go_
    rcases cnd_ hb2 with ⟨q_29,hb2⟩|⟨q_29,hb2⟩
    ·cases hb2
     have hx2:aQ (.inr ([],(6:Int)))=some _:=hk2
     unfold aQ at hx2
     dsimp only at hx2
     cases hx2
     exact go_
    have q_30:(decide (x_11.op=(2:Int)))=false:=by rw [Decidable.not_not.1 (of_decide_eq_false q_14)];decide
    have q_31:(decide (x_11.op=(3:Int)))=true:=by rw [Decidable.not_not.1 (of_decide_eq_false q_14)];decide
    obtain ⟨x_32,i7z,i7,i7x,hb2⟩:=aX (f:=(fun x=>[AC.int .i64 x])) hb2
    obtain ⟨g8,hb2⟩:=aK hb2
    cases hb2
    refine bC ?_
    exact ⟨_,rfl,fm_ o8 [_] kJ bE dw⟩
   rcases cnd_ hb2 with ⟨q_33,hb2⟩|⟨q_33,hb2⟩
   ·have q_34:(decide (x_11.op=(1:Int)))=false:=by rw [Decidable.not_not.1 (of_decide_eq_false q_13)];decide
    have q_35:(decide (x_11.arg<(0:Int)))=true:=by rw [abD q_33];decide
    cases hb2
    have hx2:aQ (.inr ([],(6:Int)))=some _:=hk2
    unfold aQ at hx2
    dsimp only at hx2
    cases hx2
    exact go_
   rcases cnd_ hb2 with ⟨q_36,hb2⟩|⟨q_36,hb2⟩
   ·cases hb2
    have hx2:aQ (.inr ([],(6:Int)))=some _:=hk2
    unfold aQ at hx2
    dsimp only at hx2
    cases hx2
    exact go_
   rcases cnd_ hb2 with ⟨q_37,hb2⟩|⟨q_37,hb2⟩
   ·cases hb2
    have hx2:aQ (.inr ([],(6:Int)))=some _:=hk2
    unfold aQ at hx2
    dsimp only at hx2
    cases hx2
    exact go_
   have q_38:(decide (x_11.op=(2:Int)))=true:=by rw [Decidable.not_not.1 (of_decide_eq_false q_13)];decide
   obtain ⟨x_39,i9z,i9,i9x,hb2⟩:=aX (f:=(fun x=>[AC.int .i64 x])) hb2
   rcases cnd_ hb2 with ⟨q_40,hb2⟩|⟨q_40,hb2⟩
   ·cases hb2
    have hx2:aQ (.inr ([],(7:Int)))=some _:=hk2
    unfold aQ at hx2
    dsimp only at hx2
    cases hx2
    exact go_
   have q_41:(decide (x_11.op=(3:Int)))=false:=by rw [Decidable.not_not.1 (of_decide_eq_false q_13)];decide
   have q_42:(decide (x_11.op=(4:Int)))=false:=by rw [Decidable.not_not.1 (of_decide_eq_false q_13)];decide
   obtain ⟨g10,hb2⟩:=aK hb2
   cases hb2
   refine bC ?_
   exact ⟨_,rfl,fm_ o8 [_] kJ bE dw⟩
  rcases cnd_ hb2 with ⟨q_43,hb2⟩|⟨q_43,hb2⟩
  ·have q_44:(decide (x_11.op=(1:Int)))=true:=by rw [Decidable.not_not.1 (of_decide_eq_false q_12)];decide
   obtain ⟨g11,hb2⟩:=aK hb2
   cases hb2
   refine bC ?_
   exact ⟨_,rfl,fm_ o8 [_] kJ bE dw⟩
  rcases cnd_ hb2 with ⟨q_45,hb2⟩|⟨q_45,hb2⟩
  ·cases hb2
   have hx2:aQ (.inr ([],(6:Int)))=some _:=hk2
   unfold aQ at hx2
   dsimp only at hx2
   cases hx2
   exact go_
  rcases cnd_ hb2 with ⟨q_46,hb2⟩|⟨q_46,hb2⟩
  ·cases hb2
   have hx2:aQ (.inr ([],(6:Int)))=some _:=hk2
   unfold aQ at hx2
   dsimp only at hx2
   cases hx2
   exact go_
  have q_47:(decide (x_11.op=(2:Int)))=false:=by rw [Decidable.not_not.1 (of_decide_eq_false q_12)];decide
  have q_48:(decide (x_11.op=(3:Int)))=false:=by rw [Decidable.not_not.1 (of_decide_eq_false q_12)];decide
  have q_49:(decide (x_11.op=(4:Int)))=false:=by rw [Decidable.not_not.1 (of_decide_eq_false q_12)];decide
  obtain ⟨g12,hb2⟩:=aK hb2
  cases hb2
  refine bC ?_
  exact ⟨_,rfl,fm_ o8 [_] kJ bE dw⟩
 cases hb2
 have hx2:aQ (.inl (out_8,i_9))=some _:=hk2
 unfold aQ at hx2
 dsimp only at hx2
 cases hx2
 exact go_
end
set_option maxHeartbeats 8000000
set_option maxHeartbeats 8000000
set_option maxHeartbeats 8000000
noncomputable section
def I8 (a_b:Bag) (a_keys:(List Int)) (a_l:(List Ag)):Option (Bool):=bif (decide ((IntKind.i64.wrap (((a_keys.length:Nat):Int)+((a_l.length:Nat):Int)))=(0:Int))) then some false else
 bif (decide ((48:Int)<(IntKind.i64.wrap (((a_keys.length:Nat):Int)+((a_l.length:Nat):Int))))) then some false else
 (kZ a_b.kinds a_keys a_l).bind fun r_3=>some (decide (r_3.2=(0:Int)))
theorem Vn {a_b:Bag} {a_keys:(List Int)} {a_l:(List Ag)} {r:Bool} (H:I8 a_b a_keys a_l=some r):Pure Tryz.prog 16 [.agg (cBag a_b), .one (.lst (a_keys.map (fun x=>[AC.int .i64 x]))), .one (.lst (a_l.map JH))] (.val (.one (.bool r))):=by
 unfold I8 at H
 refine po_ Tryz.func16 Tryz.ntmps16 ?_
 rcases cnd_ H with ⟨q_1,H⟩|⟨q_1,H⟩
 ·cases H
  exact go_
 rcases cnd_ H with ⟨q_2,H⟩|⟨q_2,H⟩
 ·cases H
  exact go_
 obtain ⟨r_3,c1,H⟩:=bd_ H
 replace c1:=xY c1
 cases H
 exact go_
end
abbrev KR:=List Val × List Val
theorem le_tr {a b c:List Val} (h1:bD a b<=0) (h2:bD b c<=0):bD a c<=0:=by
 by_cases e1:bD a b=0
 ·rw [tCr_.zero _ _ e1];exact h2
 ·by_cases e2:bD b c=0
  ·rw [<- tCr_.zero _ _ e2];exact h1
  ·have:=tCr_.trans a b c (by omega) (by omega)
   omega
def runs:Nat->List KR->List (List Val × List (List Val))
 | 0,_=>[]
 | _,[]=>[]
 | n+1,(k,r)::l=>(k,r::(l.takeWhile fun p=>decide (p.1=k)).map (·.2))::runs n (l.dropWhile fun p=>decide (p.1=k))
theorem map_drop (k:List Val) : ∀ l:List KR,((l.map (·.1)).dropWhile fun x=>decide (x=k))=(l.dropWhile fun p=>decide (p.1=k)).map (·.1)
 | []=>rfl
 | x::l=>by
  by_cases e:x.1=k
  ·rw [abk,List.dropWhile_cons_of_pos (by simpa using e),List.dropWhile_cons_of_pos (by simpa using e),map_drop k l]
  ·rw [abk,List.dropWhile_cons_of_neg (by simpa using e),List.dropWhile_cons_of_neg (by simpa using e),abk]
theorem Dg (s t:ByteArray) (n:Int) : ∀ M:List (ByteArray × Int),ji (d9 M s n) t=(decide (t=s)||ji M t)
 | []=>by
  unfold ji d9 dQ
  by_cases e:t=s<;>simp [iR,e]
 | p::r=>by
  have ih:=Dg s t n r
  have hc : ∀ (q:ByteArray × Int) (m:List (ByteArray × Int)),ji (q::m) t=(decide (t=q.1)||ji m t):=by
   intro q m
   unfold ji dQ
   by_cases e:t=q.1<;>simp [iR,e]
  unfold d9
  by_cases e1:s=p.1
  ·rw [if_pos e1,hc,hc]
   by_cases e:t=s
   ·simp [e]
   ·have e2 : ¬ t=p.1:=fun q=>e (q.trans e1.symm)
    simp [e,e2]
  ·rw [if_neg e1,hc,hc,ih]
   by_cases e2:t=p.1<;>simp [e2]
theorem BI (x:List Val) : ∀ (l seen:List (List Val)),fF seen (l++[x])=fF seen l++(if x∈seen\/x∈l then [] else [x])
 | [],seen=>by
  by_cases h:x∈seen<;>simp [fF,h]
 | y::l,seen=>by
  rw [List.cons_append]
  unfold fF
  by_cases hy:y∈seen
  ·rw [if_pos hy,if_pos hy,BI x l seen]
   by_cases hx:x∈seen
   ·simp [hx]
   ·have : ¬ x=y:=fun e=>hx (by rw [e];exact hy)
    simp [hx,this]
  ·rw [if_neg hy,if_neg hy,BI x l (y::seen)]
   by_cases hx:x∈seen
   ·simp [hx]
   ·by_cases e:x=y<;>simp [hx,e]
theorem He (l:List (List Val)):(fF [] l).Nodup:=(bn _).nodup_iff.1 (by rw [Aa];exact pU (oI l))
def KS (ky:List Val->List Val) (rows:List (List Val)):kR:=(fF [] (rows.map ky)).map fun k=>rows.filter fun r=>decide (ky r=k)
structure GInv (ky:List Val->List Val) (rows:List (List Val)) (s:Gs):Prop where
 G:s.G=KS ky rows
 has : ∀ k,ji s.M (eX k)=decide (k∈rows.map ky)
 idx : ∀ (k:List Val) (i:Nat),(fF [] (rows.map ky))[i]?=some k->dm s.M (eX k)=(i:Int)
theorem xB (ky:List Val->List Val) (rows:List (List Val)) (r k:List Val):((rows++[r]).filter fun x=>decide (ky x=k))=(rows.filter fun x=>decide (ky x=k))++(if ky r=k then [r] else []):=by
 rw [List.filter_append]
 by_cases h:ky r=k<;>simp [h]
theorem RA {ky:List Val->List Val} {rows:List (List Val)} {s:Gs} (h:GInv ky rows s) (r:List Val):GInv ky (rows++[r]) (jY (fun x=>eX (ky x)) s r):=by
 have hm:(rows++[r]).map ky=rows.map ky++[ky r]:=by simp
 have hD:=BI (ky r) (rows.map ky) []
 have e0:jY (fun x=>eX (ky x)) s r=bif ji s.M (eX (ky r)) then ⟨s.M,s.G.set (dm s.M (eX (ky r))).toNat (s.G.getD (dm s.M (eX (ky r))).toNat []++[r])⟩ else ⟨d9 s.M (eX (ky r)) s.G.length,s.G++[[r]]⟩:=rfl
 rw [e0,h.has]
 by_cases hk:ky r∈rows.map ky
 ·rw [abb hk,aa']
  have hD2:fF [] (rows.map ky++[ky r])=fF [] (rows.map ky):=by rw [hD,if_pos (.inr hk),abJ]
  obtain ⟨i,hi⟩:=List.mem_iff_getElem?.1 ((ma _ _).2 hk)
  have hix:=h.idx _ i hi
  rw [hix]
  have hn:=He (rows.map ky)
  have hlt:=(aa9.1 hi).1
  refine ⟨?_,fun k=>?_,fun k j hj=>?_⟩
  ·show s.G.set i (s.G.getD i []++[r])=_
   unfold KS
   rw [hm,hD2,h.G]
   unfold KS
   apply List.ext_getElem?
   intro j
   rw [abx]
   by_cases e:j=i
   ·subst e
    rw [abt (by rw [abl];exact hlt),hi,abZ,abx,hi]
    simp [xB]
   ·rw [abu (Ne.symm e),abx]
    cases hj:(fF [] (rows.map ky))[j]? with
    | none=>rfl
    | some k =>
     have hne : ¬ ky r=k:=by
      intro q
      have hjlt:=(aa9.1 hj).1
      have:=(List.getElem_inj (h₀:=hjlt) (h₁:=hlt) hn).1 (by rw [(aa9.1 hj).2,(aa9.1 hi).2,q])
      exact e this
     simp [xB,hne]
  ·show ji s.M (eX k)=_
   rw [h.has,hm]
   by_cases e:k=ky r
   ·subst e;simp only [hk];simp
   ·simp [e]
  ·rw [hm,hD2] at hj
   exact h.idx k j hj
 ·rw [aba hk,aa_]
  have hD2:fF [] (rows.map ky++[ky r])=fF [] (rows.map ky)++[ky r]:=by rw [hD,if_neg (by simpa using hk)]
  have hlen:s.G.length=(fF [] (rows.map ky)).length:=by rw [h.G];unfold KS;simp
  refine ⟨?_,fun k=>?_,fun k j hj=>?_⟩
  ·show s.G++[[r]]=_
   unfold KS
   rw [hm,hD2,h.G,abm]
   unfold KS
   congr 1
   ·refine List.map_congr_left fun k hkm=>?_
    have hne : ¬ ky r=k:=fun q=>hk (by rw [q];exact (ma _ _).1 hkm)
    simp [xB,hne]
   ·have h0:(rows.filter fun x=>decide (ky x=ky r))=[]:=by
     rw [List.filter_eq_nil_iff]
     intro x hx hq
     exact hk (abK.2 ⟨x,hx,abD hq⟩)
    simp only [abk,abo,xB,h0,if_true,abd]
  ·show ji (d9 s.M (eX (ky r)) _) (eX k)=_
   rw [Dg,h.has,hm]
   by_cases e:k=ky r
   ·subst e;simp
   ·have : ¬ eX k=eX (ky r):=fun q=>e (vO q)
    simp [e,this]
  ·show dm (d9 s.M (eX (ky r)) _) (eX k)=_
   rw [hm,hD2] at hj
   rw [nX]
   by_cases hjl:j<(fF [] (rows.map ky)).length
   ·rw [abn hjl] at hj
    have hne : ¬ k=ky r:=fun q=>hk (by rw [<- q];exact (ma _ _).1 (abe hj))
    rw [if_neg (fun q=>hne (vO q))]
    exact h.idx k j hj
   ·rw [abf (by omega)] at hj
    have hj0:j-(fF [] (rows.map ky)).length=0:=by
     have:=(aa9.1 hj).1
     simpa using this
    rw [hj0] at hj
    simp at hj
    subst hj
    rw [if_pos rfl,hlen]
    omega
theorem Sl (ky:List Val->List Val) : ∀ (n:Nat) (rows:List (List Val)),rows.length=n->GInv ky rows (kM (fun x=>eX (ky x)) rows):=by
 intro n
 induction n with
 | zero =>
  intro rows h
  have:rows=[]:=abA h
  subst this
  exact ⟨rfl,fun k=>by simp [kM,ji,dQ,iR],fun k i h=>by simp [fF] at h⟩
 | succ n ih =>
  intro rows h
  rcases List.eq_nil_or_concat rows with rfl|⟨l,r,rfl⟩
  ·cases h
  ·rw [List.concat_eq_append,Gn]
   exact RA (ih l (by simpa using h)) r
theorem Zi (ky:List Val->List Val) (rows:List (List Val)):(kM (fun x=>eX (ky x)) rows).G=KS ky rows:=(Sl ky _ rows rfl).G
theorem Qb {l m:List (List Val)} {body:Int->Option (Step Int Bool)} {K:Sum Int Bool->Option Bool} (h1 : ∀ (i:Nat) x y,l[i]?=some x->m[i]?=some y->body (i:Int)=bif !(decide (x=y)) then some (.ret false) else some (.next ((i+1:Nat):Int))) (h2:body ((l.length:Nat):Int)=some (.exit ((l.length:Nat):Int))) (k1 : ∀ j,K (.inl j)=some true) (k2 : ∀ q,K (.inr q)=some q) (hl:l.length=m.length) (hf:l.length<fuel):(ax body fuel (0:Int)).bind K=some (decide (l=m)):=by
 have key : ∀ (n i:Nat),i<=l.length->l.length-i<n->(ax body n (i:Int)).bind K=some (decide (l.drop i=m.drop i)):=by
  intro n
  induction n with
  | zero=>intro i _ h;omega
  | succ n ih =>
   intro i hi hn
   rw [ax]
   by_cases hlt:i<l.length
   ·obtain ⟨x,hx⟩:=gol_ hlt
    obtain ⟨y,hy⟩:=gol_ (l:=m) (i:=i) (by omega)
    have ex:=(aa9.1 hx).2
    have ey:=(aa9.1 hy).2
    rw [h1 i x y hx hy,abG hlt,ex,abG (show i<m.length by omega),ey]
    by_cases h:x=y
    ·subst h
     rw [abb rfl]
     show (ax body n _).bind K=_
     rw [ih (i+1) (by omega) (by omega)]
     simp
    ·rw [aba h]
     show K (.inr false)=_
     rw [k2]
     simp [h]
   ·have:i=l.length:=by omega
    subst this
    rw [h2]
    show K (.inl _)=_
    rw [k1,ab1,hl,ab1]
    rfl
 have:=key fuel 0 (abv _) (by omega)
 rw [List.drop_zero,List.drop_zero] at this
 exact this
theorem HZ {l m:List (List Val)} (hl:l.length<=1000000) (hm:m.length<=1000000) (hr : ∀ r∈l,r.length<=1000000) (hs : ∀ r∈m,r.length<=1000000):jS l m=some (decide (l=m)):=by
 unfold jS
 by_cases h:l.length=m.length
 ·rw [aba (show ¬ ((l.length:Nat):Int)≠((m.length:Nat):Int) by omega),aa_]
  refine Qb (l:=l) (m:=m) (fun i x y hx hy=>?_) ?_ (fun _=>rfl) (fun _=>rfl) h (by unfold fuel;omega)
  ·have hi:=(aa9.1 hx).1
   unfold iX
   dsimp only
   rw [aY hx,aa',gn_ hx,aa8,gn_ hy,aa8,pI x y (hr x (abe hx)) (hs y (abe hy)),aa8,wrapN (by omega)]
  ·unfold iX
   dsimp only
   rw [lF_,aa_]
 ·rw [abb (show ((l.length:Nat):Int)≠((m.length:Nat):Int) by omega),aa',aba]
  intro e;exact h (by rw [e])
theorem BU {σ α τ ρ:Type} {l:List α} (enc:σ->Nat->τ) {body:τ->Option (Step τ ρ)} (f:σ->α->σ) (P:σ->Nat->Prop) (h1 : ∀ (s:σ) (i:Nat) (x:α),l[i]?=some x->P s i->body (enc s i)=some (.next (enc (f s x) (i+1)))/\P (f s x) (i+1)) (h2 : ∀ s,P s l.length->body (enc s l.length)=some (.exit (enc s l.length))) : ∀ (n i:Nat) (s:σ),i<=l.length->l.length-i<n->P s i->ax body n (enc s i)=some (.inl (enc ((l.drop i).foldl f s) l.length))/\P ((l.drop i).foldl f s) l.length
 | 0,i,s,_,h,_=>by omega
 | n+1,i,s,hi,hn,hP=>by
  rw [ax]
  by_cases hlt:i<l.length
  ·obtain ⟨x,hx⟩:=gol_ hlt
   obtain ⟨e1,e2⟩:=h1 s i x hx hP
   have ih:=BU enc f P h1 h2 n (i+1) (f s x) (by omega) (by omega) e2
   rw [e1,abG hlt,(aa9.1 hx).2,abX]
   exact ih
  ·have:i=l.length:=by omega
   subst this
   rw [h2 s hP,ab1]
   exact ⟨rfl,hP⟩
theorem Zg (row:List Val) (i:Int):vv row i=Qq row i:=rfl
theorem Sm (row:List Val) {l:List Int} (hl:l.length<=100000):GM row l=some (bY row l):=by
 unfold GM
 rw [eu (l:=l) (fun k=>[Qq row k]) 4398046511104 ?_ ?_ (by unfold fuel;omega) [] (by rw [fo_];simp;omega)]
 ·rw [aa8,abd,fo_];rfl
 ·intro s i x hx hs
  have hi:=(aa9.1 hx).1
  unfold xg
  dsimp only
  rw [aY hx,aa',gn_ hx,aa8,Qa,aa8,Zg,wrapN (by omega),abb (show s.length+1<=4398046511104 from hs),aa']
 ·intro s
  unfold xg
  dsimp only
  rw [lF_,aa_]
def NK (aggs:List Ag) (p:List Val × List (List Val)):List Val:=p.1++aggs.map fun a=>fZ a.op a.arg p.2
def JO (keys:List Int) (aggs:List Ag) (rows:List (List Val)):List (List Val):=aI ((fF [] (rows.map fun r=>bY r keys)).map fun k=>NK aggs (k,rows.filter fun r=>decide (bY r keys=k)))
theorem Lr {α:Type} (p:α->Bool) : ∀ l:List α,(l.filter p).length+(l.filter fun x => !p x).length=l.length
 | []=>rfl
 | x::l=>by
  have:=Lr p l
  cases h:p x<;>simp [List.filter_cons,h]<;>omega
theorem QE (ky:List Val->List Val) : ∀ (D rows:List (List Val)),D.Nodup->(∀ r∈rows,ky r∈D)->(D.map fun k=>(rows.filter fun r=>decide (ky r=k)).length).sum=rows.length
 | [],rows,_,h=>by
  cases rows with
  | nil=>rfl
  | cons r l=>exact absurd (h r (by simp)) (by simp)
 | k::D,rows,hn,h=>by
  have hd:=List.nodup_cons.1 hn
  have ih:=QE ky D (rows.filter fun r => !decide (ky r=k)) hd.2 (fun r hr=>by
   have hm:=List.mem_filter.1 hr
   rcases abq.1 (h r hm.1) with e|e
   ·simp [e] at hm
   ·exact e)
  have e1:(D.map fun k'=>((rows.filter fun r => !decide (ky r=k)).filter fun r=>decide (ky r=k')).length)=D.map fun k'=>(rows.filter fun r=>decide (ky r=k')).length:=by
   refine List.map_congr_left fun k' hk'=>?_
   rw [List.filter_filter]
   congr 1
   refine List.filter_congr fun r _=>?_
   by_cases e:ky r=k'
   ·have : ¬ k'=k:=fun q=>hd.1 (by rw [<- q];exact hk')
    simp [e,this]
   ·simp [e]
  rw [e1] at ih
  rw [abk,List.sum_cons,ih]
  exact Lr (fun r=>decide (ky r=k)) rows
theorem YI (ky:List Val->List Val) (rows:List (List Val)):((KS ky rows).map List.length).sum=rows.length:=by
 unfold KS
 rw [List.map_map]
 exact QE ky _ rows (He _) fun r hr=>(ma _ _).2 (abK.2 ⟨r,hr,rfl⟩)
theorem YR (ky:List Val->List Val) (rows:List (List Val)) {k:List Val} (hk:k∈fF [] (rows.map ky)):ky ((rows.filter fun r=>decide (ky r=k)).headD [])=k:=by
 obtain ⟨r,hr,e⟩:=abK.1 ((ma _ _).1 hk)
 cases hf:rows.filter fun r=>decide (ky r=k) with
 | nil =>
  have:=List.filter_eq_nil_iff.1 hf r hr
  simp [e] at this
 | cons x l =>
  have:x∈rows.filter fun r=>decide (ky r=k):=by rw [hf];simp
  exact abD (List.mem_filter.1 this).2
def agP (aggs:List Ag):List LX:=aggs.map fun a=>(a.op,a.arg)
def grpB (b:Bag) (keys:List Int) (aggs:List Ag):Bool:=decide (b.kinds.length<=100000)&&decide (keys.length<=1000)&&decide (aggs.length<=1000)&&decide (0<keys.length+aggs.length)&&decide (b.rows.length<=300)&&C_ b.rows
theorem grpB_of {b:Bag} {keys:List Int} {aggs:List Ag} (h:grpB b keys aggs=true):b.kinds.length<=100000/\keys.length<=1000/\aggs.length<=1000/\0<keys.length+aggs.length/\b.rows.length<=300 /\ ∀ r∈b.rows,r.length<=1000 /\ ∀ v∈r,Uj v:=by
 unfold grpB at h
 simp only [abr,decide_eq_true_eq] at h
 obtain ⟨⟨⟨⟨⟨h1,h2⟩,h3⟩,h4⟩,h5⟩,h6⟩:=h
 exact ⟨h1,h2,h3,h4,h5,(GI h6).2⟩
def grpRows (keys:List Int) (aggs:List Ag) (rows:List (List Val)):List (List Val):=bif keys.isEmpty then [aggs.map fun a=>fZ a.op a.arg rows] else JO keys aggs rows
def gGroupS (b:Bag) (keys:List Int) (aggs:List Ag):Option Bag:=bif grpB b keys aggs then some ⟨(uH b.kinds keys (agP aggs)).1,grpRows keys aggs b.rows⟩ else none
theorem atV_vok {r:List Val} (h : ∀ v∈r,Uj v) (i:Int):Uj (Qq r i):=by
 have hn:Uj uD:=⟨⟨by decide,by decide⟩,⟨by decide,by decide⟩,by show (0:Nat)<=10000000000;omega⟩
 unfold Qq
 split
 ·cases hx:r[i.toNat]? with
  | none=>exact hn
  | some v=>exact h v (abe hx)
 ·exact hn
theorem grp_rows (keys:List Int) (aggs:List Ag) (rows:List (List Val)):aI ((kM (fun r=>dD dG (bY r keys)) rows).G.map (oL keys (agP aggs)))=JO keys aggs rows:=by
 have e:(kM (fun r=>dD dG (bY r keys)) rows).G=KS (fun r=>bY r keys) rows:=Zi (fun r=>bY r keys) rows
 rw [e]
 unfold KS JO
 rw [List.map_map]
 congr 1
 refine List.map_congr_left fun k hk=>?_
 have hh:=YR (fun r=>bY r keys) rows hk
 show bY ((rows.filter fun r=>decide (bY r keys=k)).headD []) keys++(agP aggs).map _=NK aggs _
 rw [hh]
 unfold NK agP
 rw [List.map_map];rfl
theorem agP_tree (aggs:List Ag):jb (agP aggs) = .lst (aggs.map JH):=by
 unfold jb agP
 rw [List.map_map];rfl
theorem agP_vals (aggs:List Ag) (rows:List (List Val)):((agP aggs).map fun z=>fZ z.1 z.2 rows)=aggs.map fun a=>fZ a.op a.arg rows:=by
 unfold agP
 rw [List.map_map];rfl
theorem gGroupS_ok {b:Bag} {keys:List Int} {aggs:List Ag} {r:Bag} (H:gGroupS b keys aggs=some r):Pure Tryz.prog 18 [.agg (cBag b), .one (.lst (keys.map (fun x=>[AC.int .i64 x]))), .one (.lst (aggs.map JH))] (.val (.agg (cBag r))):=by
 unfold gGroupS at H
 obtain ⟨g,H⟩:=nP H
 obtain rfl:=abH H
 obtain ⟨h1,h2,h3,h4,h5,h6⟩:=grpB_of g
 rw [<- agP_tree]
 have hal:(agP aggs).length=aggs.length:=abl _
 have hrow : ∀ r∈b.rows,r.length<=1000000:=fun r hr=>by have:=(h6 r hr).1;omega
 obtain ⟨kinds,rows⟩:=b
 simp only at h1 h5 h6 hrow
 cases keys with
 | nil =>
  have ha:agP aggs≠[]:=fun e=>by rw [e] at hal;simp at hal h4;omega
  cases rows with
  | nil =>
   have:=WR kinds (agP aggs) h1 (by omega) ha
   rw [agP_vals] at this
   exact this
  | cons x l =>
   have:=WT kinds (agP aggs) (x::l) h1 (by omega) ha h5 (by simp) hrow
   rw [agP_vals] at this
   exact this
 | cons k ks =>
  have:=Xt dG kinds (k::ks) (agP aggs) rows h1 (by omega) (by omega) h5 (by simp) hrow (fun r hr=>xE (bY r (k::ks)) (by show ((k::ks).map _).length<=_;rw [abl];exact h2) (fun v hv=>by
   obtain ⟨i,_,rfl⟩:=abK.1 hv
   exact atV_vok (h6 r hr).2 i))
  rw [grp_rows] at this
  exact this
theorem grp_step {kinds:List Int} {l:List Ag} {a:Ag} {i:Nat} (hx:l[i]?=some a) (hi:i<=1000) {acc:List Int} (hacc:acc.length<=1000000):yn kinds l (acc,(i:Int))=bif decide (Ff kinds (a.op,a.arg)=0) then some (.next (acc++[Hf kinds (a.op,a.arg)],((i+1:Nat):Int))) else some (.ret ([],Ff kinds (a.op,a.arg))):=by
 unfold yn
 dsimp only
 rw [aY hx,aa',gn_ hx,aa8,wrapN (by omega),abb (show acc.length+1<=17592186044416 by omega)]
 obtain ⟨op,arg⟩:=a
 dsimp only
 have hK : ∀ x,kinds[arg.toNat]?=some x->kinds.getD arg.toNat 0=x:=fun x h=>Qi h
 by_cases hr:arg<0
 ·by_cases hm:arg = -1
  ·subst hm
   by_cases h1:op=1
   ·subst h1;simp [Ff,Hf]
   ·by_cases h2:op=2
    ·subst h2;simp [Ff,Hf,Qf]
    ·by_cases h3:op=3
     ·subst h3;simp [Ff,Hf,Qf]
     ·by_cases h4:op=4
      ·subst h4;simp [Ff,Hf,Qf]
      ·have h5:(bif decide (op<1) then true else decide (4<op))=true:=by
        by_cases h6:op<1
        ·simp [h6]
        ·have:4<op:=by omega
         simp [h6,this]
       simp [Ff,h5,h1,h2,h3,h4]
  ·by_cases h1:op=1
   ·subst h1;simp [Ff,Hf,Qf,hr,hm]
   ·by_cases h2:op=2
    ·subst h2;simp [Ff,Hf,Qf,hr,hm]
    ·by_cases h3:op=3
     ·subst h3;simp [Ff,Hf,Qf,hr,hm]
     ·by_cases h4:op=4
      ·subst h4;simp [Ff,Hf,Qf,hr,hm]
      ·have h5:(bif decide (op<1) then true else decide (4<op))=true:=by
        by_cases h6:op<1
        ·simp [h6]
        ·have:4<op:=by omega
         simp [h6,this]
       simp [Ff,h5,h1,h2,h3,h4]
 ·have hm : ¬ arg = -1:=by omega
  by_cases hl:((kinds.length:Nat):Int)<=arg
  ·by_cases h1:op=1
   ·subst h1;simp [Ff,Hf,Qf,hr,hm,hl]
   ·by_cases h2:op=2
    ·subst h2;simp [Ff,Hf,Qf,hr,hm,hl]
    ·by_cases h3:op=3
     ·subst h3;simp [Ff,Hf,Qf,hr,hm,hl]
     ·by_cases h4:op=4
      ·subst h4;simp [Ff,Hf,Qf,hr,hm,hl]
      ·have h5:(bif decide (op<1) then true else decide (4<op))=true:=by
        by_cases h6:op<1
        ·simp [h6]
        ·have:4<op:=by omega
         simp [h6,this]
       simp [Ff,h5,h1,h2,h3,h4]
  ·obtain ⟨x,hx2⟩:=gol_ (show arg.toNat<kinds.length by omega)
   have hg:aL kinds arg=some x:=by
    have:=gn_ hx2
    rwa [show ((arg.toNat:Nat):Int)=arg by omega] at this
   have hd:=hK x hx2
   rw [hg]
   by_cases h1:op=1
   ·subst h1;simp [Ff,Hf,Qf,hr,hm,hl]
   ·by_cases h2:op=2
    ·subst h2
     by_cases hx1:x=1
     ·simp [Ff,Hf,Qf,hr,hm,hl,hx2,hx1]
     ·simp [Ff,Hf,Qf,hr,hm,hl,hx2,hx1]
    ·by_cases h3:op=3
     ·subst h3;simp [Ff,Hf,Qf,hr,hm,hl,hx2]
     ·by_cases h4:op=4
      ·subst h4;simp [Ff,Hf,Qf,hr,hm,hl,hx2]
      ·have h5:(bif decide (op<1) then true else decide (4<op))=true:=by
        by_cases h6:op<1
        ·simp [h6]
        ·have:4<op:=by omega
         simp [h6,this]
       simp [Ff,h5,h1,h2,h3,h4]
theorem agP_get {l:List Ag} {i:Nat} {a:Ag} (h:l[i]?=some a):(agP l)[i]?=some (a.op,a.arg):=by unfold agP;rw [abx,h];rfl
theorem grp_loop2 (kinds:List Int) {l:List Ag} (hl:l.length<=1000) : ∀ (n i:Nat) (acc:List Int),acc.length<=1000+i->i<=l.length->l.length-i<n->(ax (yn kinds l) n (acc,(i:Int))).bind aQ=some (lG kinds ((agP l).drop i) acc)
 | 0,i,acc,_,_,h=>by omega
 | n+1,i,acc,ha,hi,hn=>by
  rw [ax]
  by_cases hlt:i<l.length
  ·obtain ⟨a,hx⟩:=gol_ hlt
   rw [grp_step hx (by omega) (by omega),KY kinds (agP l) acc (agP_get hx)]
   cases decide (Ff kinds (a.op,a.arg)=0) with
   | true=>exact grp_loop2 kinds hl n (i+1) _ (by rw [abg,List.length_singleton];omega) (by omega) (by omega)
   | false=>rfl
  ·have:i=l.length:=by omega
   subst this
   have hb:yn kinds l (acc,((l.length:Nat):Int))=some (.exit (acc,((l.length:Nat):Int))):=by
    unfold yn
    dsimp only
    rw [lF_,aa_]
   have hd:(agP l).drop l.length=[]:=List.drop_eq_nil_of_le (by unfold agP;rw [abl];exact abp _)
   rw [hb,hd];rfl
theorem grp_loop1 (kinds:List Int) {keys:List Int} {l:List Ag} (hk:keys.length<=1000) (hl:l.length<=1000) : ∀ (n i:Nat) (acc:List Int),acc.length=i->i<=keys.length->keys.length-i<n->(ax (x8 kinds keys) n (acc,(i:Int))).bind (fu kinds l)=some (bif decide ((iw kinds (keys.drop i) acc).2=0) then lG kinds (agP l) (iw kinds (keys.drop i) acc).1 else ([],(iw kinds (keys.drop i) acc).2))
 | 0,i,acc,_,_,h=>by omega
 | n+1,i,acc,ha,hi,hn=>by
  rw [ax]
  by_cases hlt:i<keys.length
  ·obtain ⟨k,hx⟩:=gol_ hlt
   have hb:x8 kinds keys (acc,(i:Int))=bif Qf kinds k then some (.next (acc++[kinds.getD k.toNat 0],((i+1:Nat):Int))) else some (.ret ([],6)):=by
    unfold x8
    dsimp only
    rw [aY hx,aa',gn_ hx,aa8,wrapN (by omega),abb (show acc.length+1<=17592186044416 by omega)]
    by_cases h1:k<0
    ·simp [Qf,h1]
    ·by_cases h2:((kinds.length:Nat):Int)<=k
     ·simp [Qf,h1,h2]
     ·obtain ⟨x,hx2⟩:=gol_ (show k.toNat<kinds.length by omega)
      have hg:aL kinds k=some x:=by
       have:=gn_ hx2
       rwa [show ((k.toNat:Nat):Int)=k by omega] at this
      have hd:=Qi hx2
      rw [hg]
      simp [Qf,h1,h2,hx2]
   rw [hb,JS kinds keys acc hx]
   cases Qf kinds k with
   | true=>exact grp_loop1 kinds hk hl n (i+1) _ (by rw [abg,ha];rfl) (by omega) (by omega)
   | false=>rfl
  ·have:i=keys.length:=by omega
   subst this
   have hb:x8 kinds keys (acc,((keys.length:Nat):Int))=some (.exit (acc,((keys.length:Nat):Int))):=by
    unfold x8
    dsimp only
    rw [lF_,aa_]
   rw [hb,ab1]
   show fu kinds l (.inl (acc,((keys.length:Nat):Int)))=some (lG kinds (agP l) acc)
   unfold fu
   dsimp only
   have:=grp_loop2 kinds hl fuel 0 acc (by omega) (abv _) (by unfold fuel;omega)
   rw [List.drop_zero] at this
   exact this
theorem gGrouped21_eq (kinds:List Int) {keys:List Int} {l:List Ag} (hk:keys.length<=1000) (hl:l.length<=1000):kZ kinds keys l=some (uH kinds keys (agP l)):=by
 have:=grp_loop1 kinds hk hl fuel 0 [] rfl (abv _) (by unfold fuel;omega)
 rw [List.drop_zero] at this
 unfold kZ
 exact this
set_option maxHeartbeats 8000000
theorem gGroupedL_ex (b:Bag) {keys:List Int} {l:List Ag} (hk:keys.length<=4000000000000000000) (hl:l.length<=4000000000000000000) : ∃ c,I8 b keys l=some c:=by
 unfold I8
 rw [bJ (by omega)]
 by_cases h0:((keys.length:Nat):Int)+((l.length:Nat):Int)=0
 ·rw [abb h0];exact ⟨_,rfl⟩
 ·rw [aba h0,aa_]
  by_cases h1:(48:Int)<((keys.length:Nat):Int)+((l.length:Nat):Int)
  ·rw [abb h1];exact ⟨_,rfl⟩
  ·rw [aba h1,aa_,gGrouped21_eq b.kinds (by omega) (by omega)]
   exact ⟨_,rfl⟩
theorem grpB_mk {b:Bag} {keys:List Int} {l:List Ag} (hb:ym 40 b) (h0:0<keys.length+l.length) (h1:keys.length+l.length<=48):grpB b keys l=true:=by
 have hk:=hb.kinds;have hl:=hb.len
 unfold grpB
 rw [abb (show b.kinds.length<=100000 by omega),abb (show keys.length<=1000 by omega),abb (show l.length<=1000 by omega),abb h0,abb (show b.rows.length<=300 by omega),(hb.rk (by omega)).keys];rfl
theorem gGroupS_eq {b:Bag} {keys:List Int} {l:List Ag} (hb:ym 40 b) (h0:0<keys.length+l.length) (h1:keys.length+l.length<=48):gGroupS b keys l=some ⟨(uH b.kinds keys (agP l)).1,grpRows keys l b.rows⟩:=by
 unfold gGroupS
 rw [grpB_mk hb h0 h1];rfl
theorem grpRows_small {keys:List Int} {l:List Ag} {rows:List (List Val)} (hr:rows.length<=40) (h1:keys.length+l.length<=48):(grpRows keys l rows).length<=1000 /\ ∀ r∈grpRows keys l rows,r.length<=1000:=by
 unfold grpRows
 cases keys with
 | nil =>
  simp only [List.isEmpty_nil,aa']
  refine ⟨by simp,fun r hx=>?_⟩
  rw [List.mem_singleton] at hx
  rw [hx,abl]
  simp at h1;omega
 | cons k ks =>
  simp only [List.isEmpty_cons,aa_]
  unfold JO
  have hd:(fF [] (rows.map fun r=>bY r (k::ks))).length<=rows.length:=by
   have:=DK (rows.map fun r=>bY r (k::ks))
   rw [Kz,abl] at this
   exact this
  refine ⟨by rw [(bn _).length_eq,abl];omega,fun r hx=>?_⟩
  have hx:=(bn _).mem_iff.1 hx
  obtain ⟨y,hy,rfl⟩:=abK.1 hx
  rw [ma] at hy
  obtain ⟨z,_,rfl⟩:=abK.1 hy
  unfold NK
  rw [abg,abl]
  show ((k::ks).map _).length+_<=_
  rw [abl];omega
set_option maxHeartbeats 8000000
noncomputable section
def gLawCounts_B2 (a_b:Bag) (a_keys:(List Int)):((List (List Val)) × Int)->Option (Step ((List (List Val)) × Int) (Bool)):=fun s=>match s with
 | (l_18,i_19)=>bif (decide (i_19<((a_b.rows.length:Nat):Int))) then (aL a_b.rows i_19).bind fun x_21=>(GM x_21 a_keys).bind fun r_22=>bif (decide (l_18.length+1<=5864062014805)) then (some (.next ((l_18++[r_22]),(IntKind.i64.wrap (i_19+(1:Int)))))) else none else
 some (.exit (l_18,i_19))
def gLawCounts_K2 (a_b:Bag) (a_keys:(List Int)) (n_12:Int):Sum ((List (List Val)) × Int) (Bool)->Option ((Bool))
 | .inl (l_18,i_19)=>bif (decide (n_12=((a_b.rows.length:Nat):Int))) then (gGroupS a_b a_keys ([]:(List Ag))).bind fun r_24=>(oP l_18).bind fun r_25=>(jS r_24.rows r_25).bind fun r_26=>bif r_26 then some (true) else
 some false else
 some false
 | .inr q=>some q
def gLawCounts_B1 (a_keys:(List Int)) (r_11:Bag):(Int × Int)->Option (Step (Int × Int) (Bool)):=fun s=>match s with
 | (n_12,i_13)=>bif (decide (i_13<((r_11.rows.length:Nat):Int))) then (aL r_11.rows i_13).bind fun x_15=>bif (decide (((x_15.length:Nat):Int)≠(IntKind.i64.wrap (((a_keys.length:Nat):Int)+(1:Int))))) then some (.ret false) else
 (aL x_15 ((a_keys.length:Nat):Int)).bind fun x_17=>some (.next ((IntKind.i64.wrap (n_12+x_17.int)),(IntKind.i64.wrap (i_13+(1:Int))))) else
 some (.exit (n_12,i_13))
def gLawCounts_K1 (a_b:Bag) (a_keys:(List Int)):Sum (Int × Int) (Bool)->Option ((Bool))
 | .inl (n_12,i_13)=>(ax (gLawCounts_B2 a_b a_keys) fuel ([],(0:Int))).bind (gLawCounts_K2 a_b a_keys n_12)
 | .inr q=>some q
def gLawCounts (a_b:Bag) (a_keys:(List Int)):Option (Bool):=(gFew21 a_b (40:Int)).bind fun r_1=>bif (!r_1) then some (true) else
 bif (decide (((a_keys.length:Nat):Int)=(0:Int))) then some (true) else
 bif (decide ((48:Int)<=((a_keys.length:Nat):Int))) then some (true) else
 (I8 a_b a_keys ([]:(List Ag))).bind fun r_8=>bif (!r_8) then some (true) else
 (gGroupS a_b a_keys [(⟨(1:Int),(-1:Int)⟩:Ag)]).bind fun r_11=>(ax (gLawCounts_B1 a_keys r_11) fuel ((0:Int),(0:Int))).bind (gLawCounts_K1 a_b a_keys)
theorem gLawCounts_ok {a_b:Bag} {a_keys:(List Int)} {r:Bool} (H:gLawCounts a_b a_keys=some r):Pure Tryz.prog 5 [.agg (cBag a_b), .one (.lst (a_keys.map (fun x=>[AC.int .i64 x])))] (.val (.one (.bool r))):=by
 unfold gLawCounts at H
 refine po_ Tryz.func5 Tryz.ntmps5 ?_
 obtain ⟨r_1,c1,H⟩:=bd_ H
 replace c1:=gFew21_ok c1
 rcases cnd_ H with ⟨q_2,H⟩|⟨q_2,H⟩
 ·have hc_3:=awake_pure
  try simp only [abm,abk,abo,abd,tE_eq,tP_eq] at hc_3
  cases H
  exact go_
 rcases cnd_ H with ⟨q_4,H⟩|⟨q_4,H⟩
 ·have hc_5:=awake_pure
  try simp only [abm,abk,abo,abd,tE_eq,tP_eq] at hc_5
  cases H
  exact go_
 rcases cnd_ H with ⟨q_6,H⟩|⟨q_6,H⟩
 ·have hc_7:=awake_pure
  try simp only [abm,abk,abo,abd,tE_eq,tP_eq] at hc_7
  cases H
  exact go_
 obtain ⟨r_8,c2,H⟩:=bd_ H
 replace c2:=Vn c2
 try simp only [abm,abk,abo,abd,tE_eq,tP_eq] at c2
 rcases cnd_ H with ⟨q_9,H⟩|⟨q_9,H⟩
 ·have hc_10:=awake_pure
  try simp only [abm,abk,abo,abd,tE_eq,tP_eq] at hc_10
  cases H
  exact go_
 obtain ⟨r_11,c3,H⟩:=bd_ H
 replace c3:=gGroupS_ok c3
 try simp only [abm,abk,abo,abd,tE_eq,tP_eq] at c3
 refine bC ?_
 refine alM_ (fun s:Int × Int=>match s with|(n_12,i_13)=>[(1, .one (.c (.lst (a_keys.map (fun x=>[AC.int .i64 x]))))),(2, .one (.ptr 0 0)),(5, .one (.ptr 1 0)),(6, .one (.c (.int .i64 n_12))),(7, .one (.c (.int .i64 i_13)))]) (fun s=>match s with|(n_12,i_13)=>[.box [.c (.lst (a_b.kinds.map (fun x=>[AC.int .i64 x]))), .c (.lst (a_b.rows.map (fun x=>[AC.lst (x.map cV)])))], .box [.c (.lst (r_11.kinds.map (fun x=>[AC.int .i64 x]))), .c (.lst (r_11.rows.map (fun x=>[AC.lst (x.map cV)])))]]) H (fun _=>abv _)
  (fm_ bV [] rfl bE dw) ?_
 rintro ⟨n_12,i_13⟩ st1 hb1 hk1
 unfold gLawCounts_B1 at hb1
 dsimp only at hb1 ⊢
 rcases cnd_ hb1 with ⟨q_14,hb1⟩|⟨q_14,hb1⟩
 ·obtain ⟨x_15,i4z,i4,i4x,hb1⟩:=aX (f:=(fun x=>[AC.lst (x.map cV)])) hb1
  rcases cnd_ hb1 with ⟨q_16,hb1⟩|⟨q_16,hb1⟩
  ·cases hb1
   have hx1:gLawCounts_K1 a_b a_keys (.inr false)=some _:=hk1
   unfold gLawCounts_K1 at hx1
   dsimp only at hx1
   cases hx1
   exact go_
  obtain ⟨x_17,i5z,i5,i5x,hb1⟩:=aX (f:=cV) hb1
  cases hb1
  refine bC ?_
  exact ⟨_,rfl,fm_ bV [] rfl bE dw⟩
 cases hb1
 have hx1:gLawCounts_K1 a_b a_keys (.inl (n_12,i_13))=some _:=hk1
 unfold gLawCounts_K1 at hx1
 dsimp only at hx1
 refine bC ?_
 refine dh 8 1 rfl ?_
 refine alM_ (fun s:(List (List Val)) × Int=>match s with|(l_18,i_19)=>[(1, .one (.c (.lst (a_keys.map (fun x=>[AC.int .i64 x]))))),(2, .one (.ptr 0 0)),(6, .one (.c (.int .i64 n_12))),(8, .one (.own (l_18.map (fun x=>[AC.lst (x.map cV)])) 2)),(9, .one (.c (.int .i64 i_19)))]) (fun s=>match s with|(l_18,i_19)=>[.box [.c (.lst (a_b.kinds.map (fun x=>[AC.int .i64 x]))), .c (.lst (a_b.rows.map (fun x=>[AC.lst (x.map cV)])))], .box [.c (.lst (r_11.kinds.map (fun x=>[AC.int .i64 x]))), .c (.lst (r_11.rows.map (fun x=>[AC.lst (x.map cV)])))], .spare l_18.length 1]) hx1 (fun _=>abv _)
  (fm_ bV [] rfl bE dw) ?_
 rintro ⟨l_18,i_19⟩ st2 hb2 hk2
 unfold gLawCounts_B2 at hb2
 dsimp only at hb2 ⊢
 rcases cnd_ hb2 with ⟨q_20,hb2⟩|⟨q_20,hb2⟩
 ·obtain ⟨x_21,i6z,i6,i6x,hb2⟩:=aX (f:=(fun x=>[AC.lst (x.map cV)])) hb2
  obtain ⟨r_22,c7,hb2⟩:=bd_ hb2
  replace c7:=Rq c7
  obtain ⟨g8,hb2⟩:=aK hb2
  cases hb2
  refine bC ?_
  exact ⟨_,rfl,fm_ o8 [] kJ bE dw⟩
 cases hb2
 have hx2:gLawCounts_K2 a_b a_keys n_12 (.inl (l_18,i_19))=some _:=hk2
 unfold gLawCounts_K2 at hx2
 dsimp only at hx2
 rcases cnd_ hx2 with ⟨q_23,hx2⟩|⟨q_23,hx2⟩
 ·obtain ⟨r_24,c9,hx2⟩:=bd_ hx2
  replace c9:=gGroupS_ok c9
  try simp only [abm,abk,abo,abd,tE_eq,tP_eq] at c9
  obtain ⟨r_25,c10,hx2⟩:=bd_ hx2
  replace c10:=Il c10
  obtain ⟨r_26,c11,hx2⟩:=bd_ hx2
  replace c11:=Bb c11
  rcases cnd_ hx2 with ⟨q_27,hx2⟩|⟨q_27,hx2⟩
  ·have hc_28:=awake_pure
   try simp only [abm,abk,abo,abd,tE_eq,tP_eq] at hc_28
   cases hx2
   exact go_
  cases hx2
  exact go_
 cases hx2
 exact go_
end
theorem perm_sumI {l m:List Int} (h:l.Perm m):l.sum=m.sum:=by
 induction h with
 | nil=>rfl
 | cons x _ ih=>rw [List.sum_cons,List.sum_cons,ih]
 | swap x y l=>simp only [List.sum_cons];omega
 | trans _ _ h1 h2=>exact h1.trans h2
theorem cast_sumI : ∀ l:List Nat,(l.map fun n:Nat=>(n:Int)).sum=((l.sum:Nat):Int)
 | []=>rfl
 | x::l=>by rw [abk,List.sum_cons,List.sum_cons,cast_sumI l];omega
theorem fold_sumI {α:Type} (f:α->Int) : ∀ (l:List α) (s:Int),l.foldl (fun s x=>s+f x) s=s+(l.map f).sum
 | [],s=>by simp
 | x::l,s=>by rw [abX,fold_sumI f l,abk,List.sum_cons];omega
def cntOne:Ag:=⟨1, -1⟩
def cntI (n:Nat) (x:List Val):Int:=((x[n]?).getD gH).int
theorem cnt_last {keys:List Int} {k:List Val} {g:List (List Val)} (hk:k.length=keys.length) (hg:g.length<=1000):NK [cntOne] (k,g)=k++[mU ((g.length:Nat):Int)]/\cntI keys.length (NK [cntOne] (k,g))=((g.length:Nat):Int):=by
 have e:NK [cntOne] (k,g)=k++[mU ((g.length:Nat):Int)]:=rfl
 refine ⟨e,?_⟩
 rw [e]
 unfold cntI
 rw [<- hk,abf (abp _),Nat.sub_self]
 show (mU ((g.length:Nat):Int)).int=_
 unfold mU
 rw [if_pos (by omega)]
theorem picks_rk {b:Bag} {keys:List Int} (hb:ym 40 b) (h0:0<keys.length) (h1:keys.length<=48):RK (b.rows.map fun r=>bY r keys):=by
 have hr:=hb.rk (by omega)
 refine ⟨by rw [abl];exact hr.len,fun x hx=>?_⟩
 obtain ⟨r,hx2,rfl⟩:=abK.1 hx
 have hl:(bY r keys).length=keys.length:=abl _
 refine ⟨fun e=>by rw [e] at hl;simp at hl;omega,by omega,fun v hv=>?_⟩
 obtain ⟨i,_,rfl⟩:=abK.1 hv
 exact atV_vok (hr.row r hx2).2.2 i
theorem gLawCounts_true (b:Bag) (keys:List Int):gLawCounts b keys=some true:=by
 unfold gLawCounts
 obtain ⟨c,hc,hc2⟩:=jK b 40 (by omega)
 rw [show (40:Int)=((40:Nat):Int) from rfl,hc,aa8]
 cases c with
 | false=>rfl
 | true =>
  have hb:=hc2 rfl
  have hl:=hb.len
  rw [Bool.not_true,aa_]
  by_cases h0:keys.length=0
  ·rw [abb (show ((keys.length:Nat):Int)=0 by omega)];rfl
  ·rw [aba (show ¬ ((keys.length:Nat):Int)=0 by omega),aa_]
   by_cases h1:48<=keys.length
   ·rw [abb (show (48:Int)<=((keys.length:Nat):Int) by omega)];rfl
   ·rw [aba (show ¬ (48:Int)<=((keys.length:Nat):Int) by omega),aa_]
    obtain ⟨c,hc⟩:=gGroupedL_ex b (keys:=keys) (l:=[]) (by omega) (by simp)
    rw [hc,aa8]
    cases c with
    | false=>rfl
    | true =>
     rw [Bool.not_true,aa_,gGroupS_eq (l:=[(⟨1, -1⟩:Ag)]) hb (by simp) (by simp;omega),aa8]
     obtain ⟨k0,ks,hkk⟩ : ∃ k ks,keys=k::ks:=by
      cases keys with
      | nil=>exact absurd rfl h0
      | cons k ks=>exact ⟨k,ks,rfl⟩
     have hgr : ∀ l,grpRows keys l b.rows=JO keys l b.rows:=fun l=>by rw [hkk];rfl
     have hbag:(Bag.mk (uH b.kinds keys (agP [(⟨1, -1⟩:Ag)])).1 (grpRows keys [(⟨1, -1⟩:Ag)] b.rows)).rows=JO keys [cntOne] b.rows:=hgr _

     have hD : ∀ k∈fF [] (b.rows.map fun r=>bY r keys),k.length=keys.length:=fun k hk=>by
      rw [ma] at hk
      obtain ⟨r,_,rfl⟩:=abK.1 hk
      exact abl _
     have hG : ∀ k,(b.rows.filter fun r=>decide (bY r keys=k)).length<=40:=fun k=>Nat.le_trans (List.length_filter_le _ _) hl
     have hX : ∀ x∈JO keys [cntOne] b.rows, ∃ m:Nat,m<=40/\x.length=keys.length+1/\x[keys.length]?=some (mU ((m:Nat):Int))/\cntI keys.length x=((m:Nat):Int):=fun x hx=>by
      have hx:=(bn _).mem_iff.1 hx
      obtain ⟨k,hk,rfl⟩:=abK.1 hx
      obtain ⟨e1,e2⟩:=cnt_last (g:=b.rows.filter fun r=>decide (bY r keys=k)) (hD k hk) (by have:=hG k;omega)
      refine ⟨_,hG k,?_,?_,e2⟩
      ·rw [e1,abg,hD k hk];rfl
      ·rw [e1, <- hD k hk,abf (abp _),Nat.sub_self];rfl
     have hRl:(JO keys [cntOne] b.rows).length<=1000:=by rw [<- hgr];exact (grpRows_small hl (by simp;omega)).1
     have hsum:((JO keys [cntOne] b.rows).map (cntI keys.length)).sum=((b.rows.length:Nat):Int):=by
      unfold JO
      rw [perm_sumI ((bn _).map (cntI keys.length)),List.map_map]
      have e:((fF [] (b.rows.map fun r=>bY r keys)).map (cntI keys.length∘fun k=>NK [cntOne] (k,b.rows.filter fun r=>decide (bY r keys=k))))=((KS (fun r=>bY r keys) b.rows).map List.length).map fun n:Nat=>(n:Int):=by
       unfold KS
       rw [List.map_map,List.map_map]
       refine List.map_congr_left fun k hk=>?_
       exact (cnt_last (g:=b.rows.filter fun r=>decide (bY r keys=k)) (hD k hk) (by have:=hG k;omega)).2
      rw [e,cast_sumI,YI]
     generalize hR:JO keys [cntOne] b.rows=R at hbag hX hRl hsum
     generalize (Bag.mk (uH b.kinds keys (agP [(⟨1, -1⟩:Ag)])).1 (grpRows keys [(⟨1, -1⟩:Ag)] b.rows))=B at hbag
     have s1 : ∀ (s:Int) (i:Nat) (x:List Val),R[i]?=some x->(i<=R.length/\0<=s/\s<=40*(i:Int))->gLawCounts_B1 keys B (s,((i:Nat):Int))=some (.next (s+cntI keys.length x,((i+1:Nat):Int)))/\(i+1<=R.length/\0<=s+cntI keys.length x/\s+cntI keys.length x<=40*((i+1:Nat):Int)):=by
      intro s i x hx hP
      obtain ⟨h3,h4,h5⟩:=hP
      have hi:=(aa9.1 hx).1
      obtain ⟨m,m1,m2,m3,m4⟩:=hX x (abe hx)
      have mi:(mU ((m:Nat):Int)).int=((m:Nat):Int):=by unfold mU;rw [if_pos (by omega)]
      refine ⟨?_,by omega,by omega,by omega⟩
      unfold gLawCounts_B1
      dsimp only
      rw [hbag,aY hx,aa',gn_ hx,aa8,bJ (by omega),aba (show ¬ ((x.length:Nat):Int)≠((keys.length:Nat):Int)+1 by omega),aa_,gn_ m3,aa8,mi,m4,bJ (by omega),wrapN (by omega)]
     have s2 : ∀ s:Int,gLawCounts_B1 keys B (s,((R.length:Nat):Int))=some (.exit (s,((R.length:Nat):Int))):=by
      intro s
      unfold gLawCounts_B1
      dsimp only
      rw [hbag,lF_,aa_]
     have H:=(BU (l:=R) (fun (s:Int) (i:Nat)=>(s,((i:Nat):Int))) (body:=gLawCounts_B1 keys B) (fun s x=>s+cntI keys.length x) (fun s i=>i<=R.length/\0<=s/\s<=40*(i:Int)) s1 (fun s _=>s2 s) fuel 0 0 (abv _) (by unfold fuel;omega) ⟨abv _,by omega,by simp⟩).1
     rw [List.drop_zero,fold_sumI,hsum,Int.zero_add] at H
     have H2:ax (gLawCounts_B1 keys B) fuel ((0:Int),(0:Int))=some (.inl (((b.rows.length:Nat):Int),((R.length:Nat):Int))):=H
     rw [H2,aa8]
     unfold gLawCounts_K1
     dsimp only
     rw [eu (l:=b.rows) (fun r=>[bY r keys]) 5864062014805 ?_ ?_ (by unfold fuel;omega) [] (by rw [fo_];simp;omega)]
     ·rw [aa8,abd,fo_]
      unfold gLawCounts_K2
      dsimp only
      have hrk:=picks_rk hb (show 0<keys.length by omega) (by omega)
      have hz:grpRows keys [] b.rows=cK none (aI (b.rows.map fun r=>bY r keys)):=by
       rw [hgr, <- Aa]
       unfold JO
       congr 1
       refine (List.map_congr_left fun k _=>?_).trans (List.map_id' _)
       show k++[]=k
       rw [abJ]
      have hak:=(Gx hrk).sort
      rw [Aa] at hak
      have hll:=hak.len
      rw [abb rfl,aa',gGroupS_eq (l:=[]) hb (by simp;omega) (by simp;omega),aa8,H7 hrk,aa8]
      show (jS (grpRows keys [] b.rows) _).bind _=_
      rw [hz,HZ (by omega) (by omega) hak.big hak.big,abb rfl];rfl
     ·intro s i x hx hs
      have hi:=(aa9.1 hx).1
      unfold gLawCounts_B2
      dsimp only
      rw [aY hx,aa',gn_ hx,aa8,Sm x (by omega),aa8,wrapN (by omega),abb (show s.length+1<=5864062014805 from hs),aa']
     ·intro s
      unfold gLawCounts_B2
      dsimp only
      rw [lF_,aa_]
theorem snapshotCounts_pure {b:Bag} {keys:List Int} (q0:okBag b) (q1:LOk 8 KH keys):Pure Tryz.prog 5 [.agg (cBag b), .one (.lst (keys.map (fun x=>[AC.int .i64 x])))] (.val (.one (.bool true))):=gLawCounts_ok (gLawCounts_true b keys)
end Go.Proofs.YtfpbmfalamappaaGreatDoor
