/- Parts. No condition. -/
import Derived.Test.YtdkmoemdipgikaaGreatDoorKBM
set_option maxHeartbeats 8000000
set_option maxRecDepth 100000
set_option linter.unusedSimpArgs false
set_option linter.unusedVariables false
namespace Go.Proofs.YtdkmoemdipgikaaGreatDoor
open IntKind (i64)
open Go.RowKit Go.MapKept
noncomputable section
def qx (a_l:(List ByteArray))(a_s:ByteArray):(Int)->Option (Step (Int) (Bool)):=fun s=>match s with
 |i_1=>bif (decide (i_1<((a_l.length:Nat):Int)))then(aq a_l i_1).bind fun x_3=>bif (x_3.toList==a_s.toList)then some (.ret true)else
 some (.next (i64.wrap (i_1+(1:Int))))else
 some (.exit i_1)
def qg:Sum (Int) (Bool)->Option ((Bool))
 |.inl i_1=>some false
 |.inr q=>some q
def Du (a_l:(List ByteArray))(a_s:ByteArray):Option (Bool):=(ap (qx a_l a_s) fuel (0:Int)).bind (qg)
theorem IG {a_l:(List ByteArray)}{a_s:ByteArray}{r:Bool}(H:Du a_l a_s=some r):PTz 87 [.one (.lst (a_l.map (fun x=>[AC.str x]))),.one (.str a_s)] (.val (.one (.bool r))):=by
 unfold Du at H;refine po_ Tryz.func87 Tryz.ntmps87 ?_;refine aX ?_;refine alM_ (fun s:Int=>match s with|i_1=>[(0,.one (.c (.lst (a_l.map (fun x=>[AC.str x]))))),(1,.one (.c (.str a_s))),(5,.one (.c (.int .i64 i_1)))]) (fun s=>match s with|i_1=>[]) H (fun _=>amR _)
  (fm_ bH [] rfl a8 trivial) ?_
 rintro i_1 st1 hb1 hk1;unfold qx at hb1;dsimp only at hb1 ⊢;rcases af hb1 with⟨q_2,hb1⟩|⟨q_2,hb1⟩
 ·obtain⟨x_3,i1z,i1,i1x,hb1⟩:=aY (f:=(fun x=>[AC.str x])) hb1
  rcases af hb1 with⟨q_4,hb1⟩|⟨q_4,hb1⟩
  ·cases hb1
   have hx1:qg (.inr true)=some _:=hk1;unfold qg at hx1;dsimp only at hx1
   cases hx1;exact bV
  cases hb1;refine aX ?_;exact⟨_,rfl,fm_ bH [] rfl a8 trivial⟩
 cases hb1;have hx1:qg (.inl i_1)=some _:=hk1;unfold qg at hx1;dsimp only at hx1
 cases hx1;exact bV
def nB:Option ((List ByteArray)):=some [(⟨#[97,100,100]⟩:ByteArray),(⟨#[97,102,116,101,114]⟩:ByteArray),(⟨#[97,108,108]⟩:ByteArray),(⟨#[97,108,116,101,114]⟩:ByteArray),(⟨#[97,110,100]⟩:ByteArray),(⟨#[97,115]⟩:ByteArray),(⟨#[98,101,102,111,114,101]⟩:ByteArray),(⟨#[98,101,103,105,110]⟩:ByteArray),(⟨#[98,101,116,119,101,101,110]⟩:ByteArray),(⟨#[98,111,111,108]⟩:ByteArray),(⟨#[98,121]⟩:ByteArray),(⟨#[99,104,101,99,107]⟩:ByteArray),(⟨#[99,111,97,108,101,115,99,101]⟩:ByteArray),(⟨#[99,111,109,109,105,116]⟩:ByteArray),(⟨#[99,111,110,116,97,105,110,115]⟩:ByteArray),(⟨#[99,111,117,110,116]⟩:ByteArray),(⟨#[99,114,101,97,116,101]⟩:ByteArray),(⟨#[100,101,102,97,117,108,116]⟩:ByteArray),(⟨#[100,101,108,101,116,101]⟩:ByteArray),(⟨#[100,101,115,99]⟩:ByteArray),(⟨#[100,105,115,116,105,110,99,116]⟩:ByteArray),(⟨#[100,114,111,112]⟩:ByteArray),(⟨#[100,117,114,105,110,103]⟩:ByteArray),(⟨#[101,113,117,97,108,115]⟩:ByteArray),(⟨#[101,120,99,101,112,116]⟩:ByteArray),(⟨#[102,97,108,115,101]⟩:ByteArray),(⟨#[102,105,110,105,115,104,101,100,98,121]⟩:ByteArray),(⟨#[102,105,110,105,115,104,101,115]⟩:ByteArray),(⟨#[102,111,114,101,105,103,110]⟩:ByteArray),(⟨#[102,111,114,101,118,101,114]⟩:ByteArray),(⟨#[102,114,111,109]⟩:ByteArray),(⟨#[103,114,111,117,112]⟩:ByteArray),(⟨#[104,111,108,100]⟩:ByteArray),(⟨#[105,102]⟩:ByteArray),(⟨#[105,110,115,101,114,116]⟩:ByteArray),(⟨#[105,110,116]⟩:ByteArray),(⟨#[105,110,116,101,114,115,101,99,116]⟩:ByteArray),(⟨#[105,110,116,111]⟩:ByteArray),(⟨#[105,115]⟩:ByteArray),(⟨#[106,111,105,110]⟩:ByteArray),(⟨#[107,101,121]⟩:ByteArray),(⟨#[108,101,102,116]⟩:ByteArray),(⟨#[108,101,110,103,116,104]⟩:ByteArray),(⟨#[108,105,109,105,116]⟩:ByteArray),(⟨#[109,97,120]⟩:ByteArray),(⟨#[109,101,101,116,115]⟩:ByteArray),(⟨#[109,101,116,98,121]⟩:ByteArray),(⟨#[109,105,110]⟩:ByteArray),(⟨#[110,111,110,115,101,113,117,101,110,99,101,100]⟩:ByteArray),(⟨#[110,111,116]⟩:ByteArray),(⟨#[110,111,119]⟩:ByteArray),(⟨#[110,117,108,108]⟩:ByteArray),(⟨#[111,102]⟩:ByteArray),(⟨#[111,110]⟩:ByteArray),(⟨#[111,114]⟩:ByteArray),(⟨#[111,114,100,101,114]⟩:ByteArray),(⟨#[111,118,101,114,108,97,112,112,101,100,98,121]⟩:ByteArray),(⟨#[111,118,101,114,108,97,112,115]⟩:ByteArray),(⟨#[112,114,105,109,97,114,121]⟩:ByteArray),(⟨#[112,114,117,110,101]⟩:ByteArray),(⟨#[114,101,102,101,114,101,110,99,101,115]⟩:ByteArray),(⟨#[114,101,108,101,97,115,101]⟩:ByteArray),(⟨#[114,101,110,97,109,101]⟩:ByteArray),(⟨#[114,101,116,97,105,110]⟩:ByteArray),(⟨#[114,111,108,108,98,97,99,107]⟩:ByteArray),(⟨#[115,101,108,101,99,116]⟩:ByteArray),(⟨#[115,101,113,117,101,110,99,101,100]⟩:ByteArray),(⟨#[115,101,116]⟩:ByteArray),(⟨#[115,116,97,114,116,101,100,98,121]⟩:ByteArray),(⟨#[115,116,97,114,116,115]⟩:ByteArray),(⟨#[115,117,109]⟩:ByteArray),(⟨#[115,121,115,116,101,109]⟩:ByteArray),(⟨#[115,121,115,116,101,109,102,114,111,109]⟩:ByteArray),(⟨#[115,121,115,116,101,109,116,111]⟩:ByteArray),(⟨#[116,97,98,108,101]⟩:ByteArray),(⟨#[116,101,120,116]⟩:ByteArray),(⟨#[116,111]⟩:ByteArray),(⟨#[116,114,117,101]⟩:ByteArray),(⟨#[116,120]⟩:ByteArray),(⟨#[117,110,100,101,114]⟩:ByteArray),(⟨#[117,110,105,111,110]⟩:ByteArray),(⟨#[117,112,100,97,116,101]⟩:ByteArray),(⟨#[118,97,108,105,100]⟩:ByteArray),(⟨#[118,97,108,105,100,102,114,111,109]⟩:ByteArray),(⟨#[118,97,108,105,100,116,111]⟩:ByteArray),(⟨#[118,97,108,117,101,115]⟩:ByteArray),(⟨#[119,104,101,114,101]⟩:ByteArray)]
theorem ww {r:(List ByteArray)}(H:nB=some r):PTz 88 [] (.val (.one (.lst (r.map (fun x=>[AC.str x]))))):=by
 unfold nB at H;refine po_ Tryz.func88 Tryz.ntmps88 ?_
 cases H
 repeat' (first|refine gs5_ ?_|refine b_ rfl rfl rfl rfl rfl rfl rfl ?_)
 refine aJ (aO rfl ?_ ?_)
 ·repeat' (first|exact t7|rfl|exact amG rfl|omega|apply And.intro)
 ·first|rfl|(simp only[amJ,amH,amL,amB]<;>rfl)
def jL (a_s:ByteArray):(Int)->Option (Step (Int) (Bool)):=fun s=>match s with
 |i_6=>bif (decide (i_6<((a_s.size:Nat):Int)))then(xp a_s i_6).bind fun b_8=>bif (decide ((97:Int)<=((b_8.toNat:Nat):Int)))then bif (decide (((b_8.toNat:Nat):Int)<=(122:Int)))then some (.next (i64.wrap (i_6+(1:Int))))else
 bif (decide ((48:Int)<=((b_8.toNat:Nat):Int)))then bif (decide (((b_8.toNat:Nat):Int)<=(57:Int)))then some (.next (i64.wrap (i_6+(1:Int))))else
 bif (!(decide (((b_8.toNat:Nat):Int)=(95:Int))))then some (.ret false)else
 some (.next (i64.wrap (i_6+(1:Int))))else
 bif (!(decide (((b_8.toNat:Nat):Int)=(95:Int))))then some (.ret false)else
 some (.next (i64.wrap (i_6+(1:Int))))else
 bif (decide ((48:Int)<=((b_8.toNat:Nat):Int)))then bif (decide (((b_8.toNat:Nat):Int)<=(57:Int)))then some (.next (i64.wrap (i_6+(1:Int))))else
 bif (!(decide (((b_8.toNat:Nat):Int)=(95:Int))))then some (.ret false)else
 some (.next (i64.wrap (i_6+(1:Int))))else
 bif (!(decide (((b_8.toNat:Nat):Int)=(95:Int))))then some (.ret false)else
 some (.next (i64.wrap (i_6+(1:Int))))else
 some (.exit i_6)
def cq (a_s:ByteArray):Sum (Int) (Bool)->Option ((Bool))
 |.inl i_6=>(nB ).bind fun r_19=>(Du r_19 a_s).bind fun r_20=>some (!r_20)
 |.inr q=>some q
def kJ (a_s:ByteArray):(Int)->Option (Step (Int) (Bool)):=fun s=>match s with
 |i_21=>bif (decide (i_21<((a_s.size:Nat):Int)))then(xp a_s i_21).bind fun b_23=>bif (decide ((97:Int)<=((b_23.toNat:Nat):Int)))then bif (decide (((b_23.toNat:Nat):Int)<=(122:Int)))then some (.next (i64.wrap (i_21+(1:Int))))else
 bif (decide ((48:Int)<=((b_23.toNat:Nat):Int)))then bif (decide (((b_23.toNat:Nat):Int)<=(57:Int)))then some (.next (i64.wrap (i_21+(1:Int))))else
 bif (!(decide (((b_23.toNat:Nat):Int)=(95:Int))))then some (.ret false)else
 some (.next (i64.wrap (i_21+(1:Int))))else
 bif (!(decide (((b_23.toNat:Nat):Int)=(95:Int))))then some (.ret false)else
 some (.next (i64.wrap (i_21+(1:Int))))else
 bif (decide ((48:Int)<=((b_23.toNat:Nat):Int)))then bif (decide (((b_23.toNat:Nat):Int)<=(57:Int)))then some (.next (i64.wrap (i_21+(1:Int))))else
 bif (!(decide (((b_23.toNat:Nat):Int)=(95:Int))))then some (.ret false)else
 some (.next (i64.wrap (i_21+(1:Int))))else
 bif (!(decide (((b_23.toNat:Nat):Int)=(95:Int))))then some (.ret false)else
 some (.next (i64.wrap (i_21+(1:Int))))else
 some (.exit i_21)
def cu (a_s:ByteArray):Sum (Int) (Bool)->Option ((Bool))
 |.inl i_21=>(nB ).bind fun r_34=>(Du r_34 a_s).bind fun r_35=>some (!r_35)
 |.inr q=>some q
def oT (a_s:ByteArray):Option (Bool):=bif (a_s.toList==(⟨#[]⟩:ByteArray).toList)then some false else
 bif (decide ((24:Int)<((a_s.size:Nat):Int)))then some false else
 (xp a_s (0:Int)).bind fun b_3=>bif (decide ((48:Int)<=((b_3.toNat:Nat):Int)))then bif (decide (((b_3.toNat:Nat):Int)<=(57:Int)))then some false else
 (ap (jL a_s) fuel (0:Int)).bind (cq a_s)else
 (ap (kJ a_s) fuel (0:Int)).bind (cu a_s)
theorem sJ {a_s:ByteArray}{r:Bool}(H:oT a_s=some r):PTz 56 [.one (.str a_s)] (.val (.one (.bool r))):=by
 unfold oT at H;refine po_ Tryz.func56 Tryz.ntmps56 ?_;rcases af H with⟨q_1,H⟩|⟨q_1,H⟩
 ·cases H
  repeat' (first|refine gs5_ ?_|refine b_ rfl rfl rfl rfl rfl rfl rfl ?_)
  refine aJ (aO rfl ?_ ?_)
  ·repeat' (first|exact t7|rfl|exact amG rfl|omega|apply And.intro)
  ·first|rfl|(simp only[amJ,amH,amL,amB]<;>rfl)
 rcases af H with⟨q_2,H⟩|⟨q_2,H⟩
 ·cases H
  repeat' (first|refine gs5_ ?_|refine b_ rfl rfl rfl rfl rfl rfl rfl ?_)
  refine aJ (aO rfl ?_ ?_)
  ·repeat' (first|exact t7|rfl|exact amG rfl|omega|apply And.intro)
  ·first|rfl|(simp only[amJ,amH,amL,amB]<;>rfl)
 obtain⟨b_3,i1,H⟩:=bd_ H;obtain⟨i1z,i1⟩:=mj i1;rcases af H with⟨q_4,H⟩|⟨q_4,H⟩
 ·rcases af H with⟨q_5,H⟩|⟨q_5,H⟩
  ·cases H
   repeat' (first|refine gs5_ ?_|refine b_ rfl rfl rfl rfl rfl rfl rfl ?_)
   refine aJ (aO rfl ?_ ?_)
   ·repeat' (first|exact t7|rfl|exact amG rfl|omega|apply And.intro)
   ·first|rfl|(simp only[amJ,amH,amL,amB]<;>rfl)
  repeat' (first|refine gs5_ ?_|refine b_ rfl rfl rfl rfl rfl rfl rfl ?_)
  refine alM_ (fun s:Int=>match s with|i_6=>[(0,.one (.c (.str a_s))),(3,.one (.c (.int .i64 i_6)))]) (fun s=>match s with|i_6=>[]) H (fun _=>amR _)
   (fm_ bH [] rfl a8 trivial) ?_
  rintro i_6 st1 hb1 hk1;unfold jL at hb1;dsimp only at hb1 ⊢;rcases af hb1 with⟨q_7,hb1⟩|⟨q_7,hb1⟩
  ·obtain⟨b_8,i2,hb1⟩:=bd_ hb1
   obtain⟨i2z,i2⟩:=mj i2;rcases af hb1 with⟨q_9,hb1⟩|⟨q_9,hb1⟩
   ·rcases af hb1 with⟨q_10,hb1⟩|⟨q_10,hb1⟩
    ·cases hb1
     repeat' (first|refine gs5_ ?_|refine b_ rfl rfl rfl rfl rfl rfl rfl ?_)
     exact⟨_,rfl,fm_ bH [] rfl a8 trivial⟩
    rcases af hb1 with⟨q_11,hb1⟩|⟨q_11,hb1⟩
    ·rcases af hb1 with⟨q_12,hb1⟩|⟨q_12,hb1⟩
     ·cases hb1
      repeat' (first|refine gs5_ ?_|refine b_ rfl rfl rfl rfl rfl rfl rfl ?_)
      exact⟨_,rfl,fm_ bH [] rfl a8 trivial⟩
     rcases af hb1 with⟨q_13,hb1⟩|⟨q_13,hb1⟩
     ·cases hb1
      have hx1:cq a_s (.inr false)=some _:=hk1;unfold cq at hx1;dsimp only at hx1
      cases hx1
      repeat' (first|refine gs5_ ?_|refine b_ rfl rfl rfl rfl rfl rfl rfl ?_)
      refine aJ (aO rfl ?_ ?_)
      ·repeat' (first|exact t7|rfl|exact amG rfl|omega|apply And.intro)
      ·first|rfl|(simp only[amJ,amH,amL,amB]<;>rfl)
     cases hb1
     repeat' (first|refine gs5_ ?_|refine b_ rfl rfl rfl rfl rfl rfl rfl ?_)
     exact⟨_,rfl,fm_ bH [] rfl a8 trivial⟩
    rcases af hb1 with⟨q_14,hb1⟩|⟨q_14,hb1⟩
    ·cases hb1
     have hx1:cq a_s (.inr false)=some _:=hk1;unfold cq at hx1;dsimp only at hx1
     cases hx1
     repeat' (first|refine gs5_ ?_|refine b_ rfl rfl rfl rfl rfl rfl rfl ?_)
     refine aJ (aO rfl ?_ ?_)
     ·repeat' (first|exact t7|rfl|exact amG rfl|omega|apply And.intro)
     ·first|rfl|(simp only[amJ,amH,amL,amB]<;>rfl)
    cases hb1
    repeat' (first|refine gs5_ ?_|refine b_ rfl rfl rfl rfl rfl rfl rfl ?_)
    exact⟨_,rfl,fm_ bH [] rfl a8 trivial⟩
   rcases af hb1 with⟨q_15,hb1⟩|⟨q_15,hb1⟩
   ·rcases af hb1 with⟨q_16,hb1⟩|⟨q_16,hb1⟩
    ·cases hb1
     repeat' (first|refine gs5_ ?_|refine b_ rfl rfl rfl rfl rfl rfl rfl ?_)
     exact⟨_,rfl,fm_ bH [] rfl a8 trivial⟩
    rcases af hb1 with⟨q_17,hb1⟩|⟨q_17,hb1⟩
    ·cases hb1
     have hx1:cq a_s (.inr false)=some _:=hk1;unfold cq at hx1;dsimp only at hx1
     cases hx1
     repeat' (first|refine gs5_ ?_|refine b_ rfl rfl rfl rfl rfl rfl rfl ?_)
     refine aJ (aO rfl ?_ ?_)
     ·repeat' (first|exact t7|rfl|exact amG rfl|omega|apply And.intro)
     ·first|rfl|(simp only[amJ,amH,amL,amB]<;>rfl)
    cases hb1
    repeat' (first|refine gs5_ ?_|refine b_ rfl rfl rfl rfl rfl rfl rfl ?_)
    exact⟨_,rfl,fm_ bH [] rfl a8 trivial⟩
   rcases af hb1 with⟨q_18,hb1⟩|⟨q_18,hb1⟩
   ·cases hb1
    have hx1:cq a_s (.inr false)=some _:=hk1;unfold cq at hx1;dsimp only at hx1
    cases hx1
    repeat' (first|refine gs5_ ?_|refine b_ rfl rfl rfl rfl rfl rfl rfl ?_)
    refine aJ (aO rfl ?_ ?_)
    ·repeat' (first|exact t7|rfl|exact amG rfl|omega|apply And.intro)
    ·first|rfl|(simp only[amJ,amH,amL,amB]<;>rfl)
   cases hb1
   repeat' (first|refine gs5_ ?_|refine b_ rfl rfl rfl rfl rfl rfl rfl ?_)
   exact⟨_,rfl,fm_ bH [] rfl a8 trivial⟩
  cases hb1;have hx1:cq a_s (.inl i_6)=some _:=hk1;unfold cq at hx1;dsimp only at hx1;obtain⟨r_19,c3,hx1⟩:=bd_ hx1;replace c3:=ww c3;obtain⟨r_20,c4,hx1⟩:=bd_ hx1;replace c4:=IG c4
  cases hx1
  repeat' (first|refine gs5_ ?_|refine b_ rfl rfl rfl rfl rfl rfl rfl ?_)
  refine aJ (aO rfl ?_ ?_)
  ·repeat' (first|exact t7|rfl|exact amG rfl|omega|apply And.intro)
  ·first|rfl|(simp only[amJ,amH,amL,amB]<;>rfl)
 repeat' (first|refine gs5_ ?_|refine b_ rfl rfl rfl rfl rfl rfl rfl ?_)
 refine alM_ (fun s:Int=>match s with|i_21=>[(0,.one (.c (.str a_s))),(3,.one (.c (.int .i64 i_21)))]) (fun s=>match s with|i_21=>[]) H (fun _=>amR _)
  (fm_ bH [] rfl a8 trivial) ?_
 rintro i_21 st2 hb2 hk2;unfold kJ at hb2;dsimp only at hb2 ⊢;rcases af hb2 with⟨q_22,hb2⟩|⟨q_22,hb2⟩
 ·obtain⟨b_23,i5,hb2⟩:=bd_ hb2
  obtain⟨i5z,i5⟩:=mj i5;rcases af hb2 with⟨q_24,hb2⟩|⟨q_24,hb2⟩
  ·rcases af hb2 with⟨q_25,hb2⟩|⟨q_25,hb2⟩
   ·cases hb2
    repeat' (first|refine gs5_ ?_|refine b_ rfl rfl rfl rfl rfl rfl rfl ?_)
    exact⟨_,rfl,fm_ bH [] rfl a8 trivial⟩
   rcases af hb2 with⟨q_26,hb2⟩|⟨q_26,hb2⟩
   ·rcases af hb2 with⟨q_27,hb2⟩|⟨q_27,hb2⟩
    ·cases hb2
     repeat' (first|refine gs5_ ?_|refine b_ rfl rfl rfl rfl rfl rfl rfl ?_)
     exact⟨_,rfl,fm_ bH [] rfl a8 trivial⟩
    rcases af hb2 with⟨q_28,hb2⟩|⟨q_28,hb2⟩
    ·cases hb2
     have hx2:cu a_s (.inr false)=some _:=hk2;unfold cu at hx2;dsimp only at hx2
     cases hx2
     repeat' (first|refine gs5_ ?_|refine b_ rfl rfl rfl rfl rfl rfl rfl ?_)
     refine aJ (aO rfl ?_ ?_)
     ·repeat' (first|exact t7|rfl|exact amG rfl|omega|apply And.intro)
     ·first|rfl|(simp only[amJ,amH,amL,amB]<;>rfl)
    cases hb2
    repeat' (first|refine gs5_ ?_|refine b_ rfl rfl rfl rfl rfl rfl rfl ?_)
    exact⟨_,rfl,fm_ bH [] rfl a8 trivial⟩
   rcases af hb2 with⟨q_29,hb2⟩|⟨q_29,hb2⟩
   ·cases hb2
    have hx2:cu a_s (.inr false)=some _:=hk2;unfold cu at hx2;dsimp only at hx2
    cases hx2
    repeat' (first|refine gs5_ ?_|refine b_ rfl rfl rfl rfl rfl rfl rfl ?_)
    refine aJ (aO rfl ?_ ?_)
    ·repeat' (first|exact t7|rfl|exact amG rfl|omega|apply And.intro)
    ·first|rfl|(simp only[amJ,amH,amL,amB]<;>rfl)
   cases hb2
   repeat' (first|refine gs5_ ?_|refine b_ rfl rfl rfl rfl rfl rfl rfl ?_)
   exact⟨_,rfl,fm_ bH [] rfl a8 trivial⟩
  rcases af hb2 with⟨q_30,hb2⟩|⟨q_30,hb2⟩
  ·rcases af hb2 with⟨q_31,hb2⟩|⟨q_31,hb2⟩
   ·cases hb2
    repeat' (first|refine gs5_ ?_|refine b_ rfl rfl rfl rfl rfl rfl rfl ?_)
    exact⟨_,rfl,fm_ bH [] rfl a8 trivial⟩
   rcases af hb2 with⟨q_32,hb2⟩|⟨q_32,hb2⟩
   ·cases hb2
    have hx2:cu a_s (.inr false)=some _:=hk2;unfold cu at hx2;dsimp only at hx2
    cases hx2
    repeat' (first|refine gs5_ ?_|refine b_ rfl rfl rfl rfl rfl rfl rfl ?_)
    refine aJ (aO rfl ?_ ?_)
    ·repeat' (first|exact t7|rfl|exact amG rfl|omega|apply And.intro)
    ·first|rfl|(simp only[amJ,amH,amL,amB]<;>rfl)
   cases hb2
   repeat' (first|refine gs5_ ?_|refine b_ rfl rfl rfl rfl rfl rfl rfl ?_)
   exact⟨_,rfl,fm_ bH [] rfl a8 trivial⟩
  rcases af hb2 with⟨q_33,hb2⟩|⟨q_33,hb2⟩
  ·cases hb2
   have hx2:cu a_s (.inr false)=some _:=hk2;unfold cu at hx2;dsimp only at hx2
   cases hx2
   repeat' (first|refine gs5_ ?_|refine b_ rfl rfl rfl rfl rfl rfl rfl ?_)
   refine aJ (aO rfl ?_ ?_)
   ·repeat' (first|exact t7|rfl|exact amG rfl|omega|apply And.intro)
   ·first|rfl|(simp only[amJ,amH,amL,amB]<;>rfl)
  cases hb2
  repeat' (first|refine gs5_ ?_|refine b_ rfl rfl rfl rfl rfl rfl rfl ?_)
  exact⟨_,rfl,fm_ bH [] rfl a8 trivial⟩
 cases hb2;have hx2:cu a_s (.inl i_21)=some _:=hk2;unfold cu at hx2;dsimp only at hx2;obtain⟨r_34,c6,hx2⟩:=bd_ hx2;replace c6:=ww c6;obtain⟨r_35,c7,hx2⟩:=bd_ hx2;replace c7:=IG c7
 cases hx2
 repeat' (first|refine gs5_ ?_|refine b_ rfl rfl rfl rfl rfl rfl rfl ?_)
 refine aJ (aO rfl ?_ ?_)
 ·repeat' (first|exact t7|rfl|exact amG rfl|omega|apply And.intro)
 ·first|rfl|(simp only[amJ,amH,amL,amB]<;>rfl)
def lj (a_t:bv):((List Int)×Int)->Option (Step ((List Int)×Int) ((List Int))):=fun s=>match s with
 |(out_1,i_2)=>bif (decide (i_2<((a_t.columns.length:Nat):Int)))then(aq a_t.columns i_2).bind fun x_4=>bif (decide (out_1.length+1<=17592186044416))then(some (.next ((out_1++[x_4.kind]),(i64.wrap (i_2+(1:Int))))))else none else
 some (.exit (out_1,i_2))
def qb:Sum ((List Int)×Int) ((List Int))->Option (((List Int)))
 |.inl (out_1,i_2)=>some out_1
 |.inr q=>some q
def mB (a_t:bv):Option ((List Int)):=(ap (lj a_t) fuel ([],(0:Int))).bind (qb)
theorem wQ {a_t:bv}{r:(List Int)}(H:mB a_t=some r):PTz 30 [.agg (bn a_t)] (.val (.one (.lst (r.map (fun x=>[AC.int .i64 x]))))):=by
 unfold mB at H;refine po_ Tryz.func30 Tryz.ntmps30 ?_;refine aX ?_;refine bK 3 1 rfl ?_;refine alM_ (fun s:(List Int)×Int=>match s with|(out_1,i_2)=>[(1,.one (.ptr 0 0)),(3,.one (.own (out_1.map (fun x=>[AC.int .i64 x])) 1)),(4,.one (.c (.int .i64 i_2)))]) (fun s=>match s with|(out_1,i_2)=>[.box [.c (.str a_t.nm),.c (.lst (a_t.columns.map ez)),.c (.lst (a_t.key.map (fun x=>[AC.int .i64 x]))),.c (.lst (a_t.foreigns.map fY)),.c (.lst (a_t.checks.map tE))],.spare out_1.length 1]) H (fun _=>amR _)
  (fm_ bH [] rfl a8 bZ) ?_
 rintro⟨out_1,i_2⟩ st1 hb1 hk1;unfold lj at hb1;dsimp only at hb1 ⊢;rcases af hb1 with⟨q_3,hb1⟩|⟨q_3,hb1⟩
 ·obtain⟨x_4,i1z,i1,i1x,hb1⟩:=aY (f:=ez) hb1
  obtain⟨g2,hb1⟩:=bo hb1
  cases hb1;refine aX ?_;exact⟨_,rfl,fm_ jb [] nk a8 bZ⟩
 cases hb1;have hx1:qb (.inl (out_1,i_2))=some _:=hk1;unfold qb at hx1;dsimp only at hx1
 cases hx1;exact bV
def kH (a_t:bv)(a_name:ByteArray):(Int)->Option (Step (Int) (Int)):=fun s=>match s with
 |i_1=>bif (decide (i_1<((a_t.columns.length:Nat):Int)))then(aq a_t.columns i_1).bind fun x_3=>bif (x_3.nm.toList==a_name.toList)then some (.ret i_1)else
 some (.next (i64.wrap (i_1+(1:Int))))else
 some (.exit i_1)
def kG:Sum (Int) (Int)->Option ((Int))
 |.inl i_1=>some (-1:Int)
 |.inr q=>some q
def uN (a_t:bv)(a_name:ByteArray):Option (Int):=(ap (kH a_t a_name) fuel (0:Int)).bind (kG)
theorem MO {a_t:bv}{a_name:ByteArray}{r:Int}(H:uN a_t a_name=some r):PTz 89 [.agg (bn a_t),.one (.str a_name)] (.val (.one (.int .i64 r))):=by
 unfold uN at H;refine po_ Tryz.func89 Tryz.ntmps89 ?_;refine aX ?_;refine alM_ (fun s:Int=>match s with|i_1=>[(1,.one (.c (.str a_name))),(2,.one (.ptr 0 0)),(5,.one (.c (.int .i64 i_1)))]) (fun s=>match s with|i_1=>[.box [.c (.str a_t.nm),.c (.lst (a_t.columns.map ez)),.c (.lst (a_t.key.map (fun x=>[AC.int .i64 x]))),.c (.lst (a_t.foreigns.map fY)),.c (.lst (a_t.checks.map tE))]]) H (fun _=>amR _)
  (fm_ bH [] rfl a8 bZ) ?_
 rintro i_1 st1 hb1 hk1;unfold kH at hb1;dsimp only at hb1 ⊢;rcases af hb1 with⟨q_2,hb1⟩|⟨q_2,hb1⟩
 ·obtain⟨x_3,i1z,i1,i1x,hb1⟩:=aY (f:=ez) hb1
  rcases af hb1 with⟨q_4,hb1⟩|⟨q_4,hb1⟩
  ·cases hb1
   have hx1:kG (.inr i_1)=some _:=hk1;unfold kG at hx1;dsimp only at hx1
   cases hx1;exact bV
  cases hb1;refine aX ?_;exact⟨_,rfl,fm_ bH [] rfl a8 bZ⟩
 cases hb1;have hx1:kG (.inl i_1)=some _:=hk1;unfold kG at hx1;dsimp only at hx1
 cases hx1;exact bV
def sD (a_t:bv)(a_i:Int):Option (Bool):=bif (decide ((0:Int)<=a_i))then some (decide (a_i<((a_t.columns.length:Nat):Int)))else
 some false
theorem C0 {a_t:bv}{a_i:Int}{r:Bool}(H:sD a_t a_i=some r):PTz 90 [.agg (bn a_t),.one (.int .i64 a_i)] (.val (.one (.bool r))):=by
 unfold sD at H;refine po_ Tryz.func90 Tryz.ntmps90 ?_;rcases af H with⟨q_1,H⟩|⟨q_1,H⟩
 ·cases H
  exact bV
 cases H;exact bV
def jW (a_t:bv):(Int)->Option (Step (Int) (Int)):=fun s=>match s with
 |i_3=>bif (decide (i_3<((a_t.columns.length:Nat):Int)))then(aq a_t.columns i_3).bind fun x_5=>(oT x_5.nm).bind fun r_6=>bif (!r_6)then some (.ret (1:Int))else
 bif (decide (x_5.kind<(1:Int)))then some (.ret (7:Int))else
 bif (decide ((3:Int)<x_5.kind))then some (.ret (7:Int))else
 (uN a_t x_5.nm).bind fun r_10=>bif (decide (r_10<i_3))then some (.ret (10:Int))else
 some (.next (i64.wrap (i_3+(1:Int))))else
 some (.exit i_3)
def dh:Sum (Int) (Int)->Option ((Int))
 |.inl i_3=>some (0:Int)
 |.inr q=>some q
def ug (a_t:bv):Option (Int):=bif (decide (((a_t.columns.length:Nat):Int)<(1:Int)))then some (13:Int)else
 bif (decide ((12:Int)<((a_t.columns.length:Nat):Int)))then some (13:Int)else
 (ap (jW a_t) fuel (0:Int)).bind (dh)
theorem MS {a_t:bv}{r:Int}(H:ug a_t=some r):PTz 57 [.agg (bn a_t)] (.val (.one (.int .i64 r))):=by
 unfold ug at H;refine po_ Tryz.func57 Tryz.ntmps57 ?_;rcases af H with⟨q_1,H⟩|⟨q_1,H⟩
 ·cases H
  exact bV
 rcases af H with⟨q_2,H⟩|⟨q_2,H⟩
 ·cases H
  exact bV
 refine aX ?_;refine alM_ (fun s:Int=>match s with|i_3=>[(1,.one (.ptr 0 0)),(3,.one (.c (.int .i64 i_3)))]) (fun s=>match s with|i_3=>[.box [.c (.str a_t.nm),.c (.lst (a_t.columns.map ez)),.c (.lst (a_t.key.map (fun x=>[AC.int .i64 x]))),.c (.lst (a_t.foreigns.map fY)),.c (.lst (a_t.checks.map tE))]]) H (fun _=>amR _)
  (fm_ bH [] rfl a8 bZ) ?_
 rintro i_3 st1 hb1 hk1;unfold jW at hb1;dsimp only at hb1 ⊢;rcases af hb1 with⟨q_4,hb1⟩|⟨q_4,hb1⟩
 ·obtain⟨x_5,i1z,i1,i1x,hb1⟩:=aY (f:=ez) hb1
  obtain⟨r_6,c2,hb1⟩:=bd_ hb1;replace c2:=sJ c2;rcases af hb1 with⟨q_7,hb1⟩|⟨q_7,hb1⟩
  ·cases hb1
   have hx1:dh (.inr (1:Int))=some _:=hk1;unfold dh at hx1;dsimp only at hx1
   cases hx1;exact bV
  rcases af hb1 with⟨q_8,hb1⟩|⟨q_8,hb1⟩
  ·cases hb1
   have hx1:dh (.inr (7:Int))=some _:=hk1;unfold dh at hx1;dsimp only at hx1
   cases hx1;exact bV
  rcases af hb1 with⟨q_9,hb1⟩|⟨q_9,hb1⟩
  ·cases hb1
   have hx1:dh (.inr (7:Int))=some _:=hk1;unfold dh at hx1;dsimp only at hx1
   cases hx1;exact bV
  obtain⟨r_10,c3,hb1⟩:=bd_ hb1;replace c3:=MO c3;rcases af hb1 with⟨q_11,hb1⟩|⟨q_11,hb1⟩
  ·cases hb1
   have hx1:dh (.inr (10:Int))=some _:=hk1;unfold dh at hx1;dsimp only at hx1
   cases hx1;exact bV
  cases hb1;refine aX ?_;exact⟨_,rfl,fm_ bH [_] rfl a8 bZ⟩
 cases hb1;have hx1:dh (.inl i_3)=some _:=hk1;unfold dh at hx1;dsimp only at hx1
 cases hx1;exact bV
def mA (a_t:bv):(Int)->Option (Step (Int) (Int)):=fun s=>match s with
 |i_2=>bif (decide (i_2<((a_t.key.length:Nat):Int)))then(aq a_t.key i_2).bind fun x_4=>(sD a_t x_4).bind fun r_5=>bif (!r_5)then some (.ret (25:Int))else
 bif (decide ((0:Int)<i_2))then(aq a_t.key (i64.wrap (i_2-(1:Int)))).bind fun x_8=>bif (decide (x_4<=x_8))then some (.ret (25:Int))else
 (aq a_t.columns x_4).bind fun x_10=>bif x_10.nullable then some (.ret (12:Int))else
 some (.next (i64.wrap (i_2+(1:Int))))else
 (aq a_t.columns x_4).bind fun x_12=>bif x_12.nullable then some (.ret (12:Int))else
 some (.next (i64.wrap (i_2+(1:Int))))else
 some (.exit i_2)
def dK:Sum (Int) (Int)->Option ((Int))
 |.inl i_2=>some (0:Int)
 |.inr q=>some q
def yo (a_t:bv):Option (Int):=bif (decide (((a_t.key.length:Nat):Int)=(0:Int)))then some (25:Int)else
 (ap (mA a_t) fuel (0:Int)).bind (dK)
theorem acP {a_t:bv}{r:Int}(H:yo a_t=some r):PTz 58 [.agg (bn a_t)] (.val (.one (.int .i64 r))):=by
 unfold yo at H;refine po_ Tryz.func58 Tryz.ntmps58 ?_;rcases af H with⟨q_1,H⟩|⟨q_1,H⟩
 ·cases H
  exact bV
 refine aX ?_;refine alM_ (fun s:Int=>match s with|i_2=>[(1,.one (.ptr 0 0)),(3,.one (.c (.int .i64 i_2)))]) (fun s=>match s with|i_2=>[.box [.c (.str a_t.nm),.c (.lst (a_t.columns.map ez)),.c (.lst (a_t.key.map (fun x=>[AC.int .i64 x]))),.c (.lst (a_t.foreigns.map fY)),.c (.lst (a_t.checks.map tE))]]) H (fun _=>amR _)
  (fm_ bH [] rfl a8 bZ) ?_
 rintro i_2 st1 hb1 hk1;unfold mA at hb1;dsimp only at hb1 ⊢;rcases af hb1 with⟨q_3,hb1⟩|⟨q_3,hb1⟩
 ·obtain⟨x_4,i1z,i1,i1x,hb1⟩:=aY (f:=(fun x=>[AC.int .i64 x])) hb1
  obtain⟨r_5,c2,hb1⟩:=bd_ hb1;replace c2:=C0 c2;rcases af hb1 with⟨q_6,hb1⟩|⟨q_6,hb1⟩
  ·cases hb1
   have hx1:dK (.inr (25:Int))=some _:=hk1;unfold dK at hx1;dsimp only at hx1
   cases hx1;exact bV
  rcases af hb1 with⟨q_7,hb1⟩|⟨q_7,hb1⟩
  ·obtain⟨x_8,i3z,i3,i3x,hb1⟩:=aY (f:=(fun x=>[AC.int .i64 x])) hb1
   rcases af hb1 with⟨q_9,hb1⟩|⟨q_9,hb1⟩
   ·cases hb1
    have hx1:dK (.inr (25:Int))=some _:=hk1;unfold dK at hx1;dsimp only at hx1
    cases hx1;exact bV
   obtain⟨x_10,i4z,i4,i4x,hb1⟩:=aY (f:=ez) hb1;rcases af hb1 with⟨q_11,hb1⟩|⟨q_11,hb1⟩
   ·cases hb1
    have hx1:dK (.inr (12:Int))=some _:=hk1;unfold dK at hx1;dsimp only at hx1
    cases hx1;exact bV
   cases hb1;refine aX ?_;exact⟨_,rfl,fm_ bH [] rfl a8 bZ⟩
  obtain⟨x_12,i5z,i5,i5x,hb1⟩:=aY (f:=ez) hb1;rcases af hb1 with⟨q_13,hb1⟩|⟨q_13,hb1⟩
  ·cases hb1
   have hx1:dK (.inr (12:Int))=some _:=hk1;unfold dK at hx1;dsimp only at hx1
   cases hx1;exact bV
  cases hb1;refine aX ?_;exact⟨_,rfl,fm_ bH [] rfl a8 bZ⟩
 cases hb1;have hx1:dK (.inl i_2)=some _:=hk1;unfold dK at hx1;dsimp only at hx1
 cases hx1;exact bV
def mU (a_f:Fgn)(i_4:Int)(x_6:Int):(Int)->Option (Step (Int) (Int)):=fun s=>match s with
 |k_9=>bif (decide (k_9<i_4))then(aq a_f.columns k_9).bind fun x_11=>bif (decide (x_11=x_6))then some (.ret (25:Int))else
 some (.next (i64.wrap (k_9+(1:Int))))else
 some (.exit k_9)
def jx (i_4:Int):Sum (Int) (Int)->Option (Step (Int) (Int))
 |.inl k_9=>some (.next (i64.wrap (i_4+(1:Int))))
 |.inr q=>some (.ret q)
def jB (a_t:bv)(a_f:Fgn):(Int)->Option (Step (Int) (Int)):=fun s=>match s with
 |i_4=>bif (decide (i_4<((a_f.columns.length:Nat):Int)))then(aq a_f.columns i_4).bind fun x_6=>(sD a_t x_6).bind fun r_7=>bif (!r_7)then some (.ret (25:Int))else
 (ap (mU a_f i_4 x_6) fuel (0:Int)).bind (jx i_4)else
 some (.exit i_4)
def ib:Sum (Int) (Int)->Option ((Int))
 |.inl i_4=>some (0:Int)
 |.inr q=>some q
def AO (a_t:bv)(a_f:Fgn):Option (Int):=(oT a_f.table).bind fun r_1=>bif (!r_1)then some (1:Int)else
 bif (decide (((a_f.columns.length:Nat):Int)=(0:Int)))then some (25:Int)else
 (ap (jB a_t a_f) fuel (0:Int)).bind (ib)
theorem abQ {a_t:bv}{a_f:Fgn}{r:Int}(H:AO a_t a_f=some r):PTz 91 [.agg (bn a_t),.agg (fY a_f)] (.val (.one (.int .i64 r))):=by
 unfold AO at H;refine po_ Tryz.func91 Tryz.ntmps91 ?_;obtain⟨r_1,c1,H⟩:=bd_ H;replace c1:=sJ c1;rcases af H with⟨q_2,H⟩|⟨q_2,H⟩
 ·cases H
  exact bV
 rcases af H with⟨q_3,H⟩|⟨q_3,H⟩
 ·cases H
  exact bV
 refine aX ?_;refine alM_ (fun s:Int=>match s with|i_4=>[(2,.one (.ptr 0 0)),(3,.one (.ptr 1 0)),(5,.one (.c (.int .i64 i_4)))]) (fun s=>match s with|i_4=>[.box [.c (.str a_t.nm),.c (.lst (a_t.columns.map ez)),.c (.lst (a_t.key.map (fun x=>[AC.int .i64 x]))),.c (.lst (a_t.foreigns.map fY)),.c (.lst (a_t.checks.map tE))],.box [.c (.lst (a_f.columns.map (fun x=>[AC.int .i64 x]))),.c (.str a_f.table)]]) H (fun _=>amR _)
  (fm_ bH [] rfl a8 bZ) ?_
 rintro i_4 st3 hb3 hk3;unfold jB at hb3;dsimp only at hb3 ⊢;rcases af hb3 with⟨q_5,hb3⟩|⟨q_5,hb3⟩
 ·obtain⟨x_6,i2z,i2,i2x,hb3⟩:=aY (f:=(fun x=>[AC.int .i64 x])) hb3
  obtain⟨r_7,c3,hb3⟩:=bd_ hb3;replace c3:=C0 c3;rcases af hb3 with⟨q_8,hb3⟩|⟨q_8,hb3⟩
  ·cases hb3
   have hx3:ib (.inr (25:Int))=some _:=hk3;unfold ib at hx3;dsimp only at hx3
   cases hx3;exact bV
  refine aX ?_;refine alM_ (fun s:Int=>match s with|k_9=>[(2,.one (.ptr 0 0)),(3,.one (.ptr 1 0)),(5,.one (.c (.int .i64 i_4))),(6,.one (.c (.int .i64 k_9)))]) (fun s=>match s with|k_9=>[.box [.c (.str a_t.nm),.c (.lst (a_t.columns.map ez)),.c (.lst (a_t.key.map (fun x=>[AC.int .i64 x]))),.c (.lst (a_t.foreigns.map fY)),.c (.lst (a_t.checks.map tE))],.box [.c (.lst (a_f.columns.map (fun x=>[AC.int .i64 x]))),.c (.str a_f.table)]]) hb3 (fun _=>amR _)
   (fm_ bH [] rfl a8 bZ) ?_
  rintro k_9 st4 hb4 hk4;unfold mU at hb4;dsimp only at hb4 ⊢;rcases af hb4 with⟨q_10,hb4⟩|⟨q_10,hb4⟩
  ·obtain⟨x_11,i4z,i4,i4x,hb4⟩:=aY (f:=(fun x=>[AC.int .i64 x])) hb4
   rcases af hb4 with⟨q_12,hb4⟩|⟨q_12,hb4⟩
   ·cases hb4
    have hx4:jx i_4 (.inr (25:Int))=some _:=hk4;unfold jx at hx4;dsimp only at hx4
    cases hx4;have hx3:ib (.inr (25:Int))=some _:=hk3;unfold ib at hx3;dsimp only at hx3
    cases hx3;exact bV
   cases hb4;refine aX ?_;exact⟨_,rfl,fm_ bH [] rfl a8 bZ⟩
  cases hb4;have hx4:jx i_4 (.inl k_9)=some _:=hk4;unfold jx at hx4;dsimp only at hx4
  cases hx4;refine aX ?_;exact⟨_,rfl,fm_ bH [] rfl a8 bZ⟩
 cases hb3;have hx3:ib (.inl i_4)=some _:=hk3;unfold ib at hx3;dsimp only at hx3
 cases hx3;exact bV
def tt (a_e:Ex)(a_kinds:(List Int)):Option (Int×Int):=(iM (hgt a_e) a_e).bind fun r_1=>bif (decide ((24:Int)<r_1))then some ((0:Int),(26:Int))else
 (fJ (hgt a_e) a_e a_kinds).bind fun r_3=>some (r_3.1,r_3.2)
theorem Lj {a_e:Ex}{a_kinds:(List Int)}{r:Int×Int}(H:tt a_e a_kinds=some r):PTz 92 [.agg (tE a_e),.one (.lst (a_kinds.map (fun x=>[AC.int .i64 x])))] (.tup [.one (.int .i64 r.1),.one (.int .i64 r.2)]):=by
 unfold tt at H;rw[aN a_e];refine po_ Tryz.func92 Tryz.ntmps92 ?_;obtain⟨r_1,c1,H⟩:=bd_ H;replace c1:=pG _ c1
 try simp only[amJ,amH,amL,amB,aN]at c1
 rcases af H with⟨q_2,H⟩|⟨q_2,H⟩
 ·cases H
  exact bV
 obtain⟨r_3,c2,H⟩:=bd_ H;replace c2:=qa _ c2
 try simp only[amJ,amH,amL,amB,aN]at c2
 cases H;exact bV
def mb (a_t:bv):(Int)->Option (Step (Int) (Int)):=fun s=>match s with
 |i_8=>bif (decide (i_8<((a_t.checks.length:Nat):Int)))then(aq a_t.checks i_8).bind fun x_10=>(mB a_t).bind fun r_11=>(tt x_10 r_11).bind fun r_12=>bif (decide (r_12.2≠(0:Int)))then some (.ret r_12.2)else
 bif (decide (r_12.1≠(3:Int)))then bif (decide (r_12.1≠(0:Int)))then some (.ret (7:Int))else
 some (.next (i64.wrap (i_8+(1:Int))))else
 some (.next (i64.wrap (i_8+(1:Int))))else
 some (.exit i_8)
def ij:Sum (Int) (Int)->Option ((Int))
 |.inl i_8=>some (0:Int)
 |.inr q=>some q
def mo (a_t:bv):(Int)->Option (Step (Int) (Int)):=fun s=>match s with
 |i_2=>bif (decide (i_2<((a_t.foreigns.length:Nat):Int)))then(aq a_t.foreigns i_2).bind fun x_4=>(AO a_t x_4).bind fun r_5=>bif (decide (r_5≠(0:Int)))then some (.ret r_5)else
 some (.next (i64.wrap (i_2+(1:Int))))else
 some (.exit i_2)
def jy (a_t:bv):Sum (Int) (Int)->Option ((Int))
 |.inl i_2=>bif (decide ((4:Int)<((a_t.checks.length:Nat):Int)))then some (5:Int)else
 (ap (mb a_t) fuel (0:Int)).bind (ij)
 |.inr q=>some q
def Ar (a_t:bv):Option (Int):=bif (decide ((4:Int)<((a_t.foreigns.length:Nat):Int)))then some (5:Int)else
 (ap (mo a_t) fuel (0:Int)).bind (jy a_t)
theorem abz {a_t:bv}{r:Int}(H:Ar a_t=some r):PTz 59 [.agg (bn a_t)] (.val (.one (.int .i64 r))):=by
 unfold Ar at H;refine po_ Tryz.func59 Tryz.ntmps59 ?_;rcases af H with⟨q_1,H⟩|⟨q_1,H⟩
 ·cases H
  exact bV
 refine aX ?_;refine alM_ (fun s:Int=>match s with|i_2=>[(1,.one (.ptr 0 0)),(3,.one (.c (.int .i64 i_2)))]) (fun s=>match s with|i_2=>[.box [.c (.str a_t.nm),.c (.lst (a_t.columns.map ez)),.c (.lst (a_t.key.map (fun x=>[AC.int .i64 x]))),.c (.lst (a_t.foreigns.map fY)),.c (.lst (a_t.checks.map tE))]]) H (fun _=>amR _)
  (fm_ bH [] rfl a8 bZ) ?_
 rintro i_2 st1 hb1 hk1;unfold mo at hb1;dsimp only at hb1 ⊢;rcases af hb1 with⟨q_3,hb1⟩|⟨q_3,hb1⟩
 ·obtain⟨x_4,i1z,i1,i1x,hb1⟩:=aY (f:=fY) hb1
  obtain⟨r_5,c2,hb1⟩:=bd_ hb1;replace c2:=abQ c2;rcases af hb1 with⟨q_6,hb1⟩|⟨q_6,hb1⟩
  ·cases hb1
   have hx1:jy a_t (.inr r_5)=some _:=hk1;unfold jy at hx1;dsimp only at hx1
   cases hx1;exact bV
  cases hb1;refine aX ?_;exact⟨_,rfl,fm_ bH [] rfl a8 bZ⟩
 cases hb1;have hx1:jy a_t (.inl i_2)=some _:=hk1;unfold jy at hx1;dsimp only at hx1;rcases af hx1 with⟨q_7,hx1⟩|⟨q_7,hx1⟩
 ·cases hx1
  exact bV
 refine aX ?_;refine alM_ (fun s:Int=>match s with|i_8=>[(1,.one (.ptr 0 0)),(5,.one (.c (.int .i64 i_8)))]) (fun s=>match s with|i_8=>[.box [.c (.str a_t.nm),.c (.lst (a_t.columns.map ez)),.c (.lst (a_t.key.map (fun x=>[AC.int .i64 x]))),.c (.lst (a_t.foreigns.map fY)),.c (.lst (a_t.checks.map tE))]]) hx1 (fun _=>amR _)
  (fm_ bH [] rfl a8 bZ) ?_
 rintro i_8 st2 hb2 hk2;unfold mb at hb2;dsimp only at hb2 ⊢;rcases af hb2 with⟨q_9,hb2⟩|⟨q_9,hb2⟩
 ·obtain⟨x_10,i3z,i3,i3x,hb2⟩:=aY (f:=tE) hb2
  simp only[amJ,amH,amL,amB,aN]at i3x;obtain⟨r_11,c4,hb2⟩:=bd_ hb2;replace c4:=wQ c4;obtain⟨r_12,c5,hb2⟩:=bd_ hb2;replace c5:=Lj c5
  try simp only[amJ,amH,amL,amB,aN]at c5
  rcases af hb2 with⟨q_13,hb2⟩|⟨q_13,hb2⟩
  ·cases hb2
   have hx2:ij (.inr r_12.2)=some _:=hk2;unfold ij at hx2;dsimp only at hx2
   cases hx2;exact bV
  rcases af hb2 with⟨q_14,hb2⟩|⟨q_14,hb2⟩
  ·rcases af hb2 with⟨q_15,hb2⟩|⟨q_15,hb2⟩
   ·cases hb2
    have hx2:ij (.inr (7:Int))=some _:=hk2;unfold ij at hx2;dsimp only at hx2
    cases hx2;exact bV
   cases hb2;refine aX ?_;exact⟨_,rfl,fm_ bH [] rfl a8 bZ⟩
  cases hb2;refine aX ?_;exact⟨_,rfl,fm_ bH [] rfl a8 bZ⟩
 cases hb2;have hx2:ij (.inl i_8)=some _:=hk2;unfold ij at hx2;dsimp only at hx2
 cases hx2;exact bV
def pi (a_t:bv):Option (Int):=(oT a_t.nm).bind fun r_1=>bif (!r_1)then some (1:Int)else
 (ug a_t).bind fun r_3=>bif (decide (r_3=(0:Int)))then(yo a_t).bind fun r_5=>bif (decide (r_5=(0:Int)))then(Ar a_t).bind fun r_7=>some r_7 else
 some r_5 else
 some r_3
theorem J5 {a_t:bv}{r:Int}(H:pi a_t=some r):PTz 28 [.agg (bn a_t)] (.val (.one (.int .i64 r))):=by
 unfold pi at H;refine po_ Tryz.func28 Tryz.ntmps28 ?_;obtain⟨r_1,c1,H⟩:=bd_ H;replace c1:=sJ c1;rcases af H with⟨q_2,H⟩|⟨q_2,H⟩
 ·cases H
  exact bV
 obtain⟨r_3,c2,H⟩:=bd_ H;replace c2:=MS c2;rcases af H with⟨q_4,H⟩|⟨q_4,H⟩
 ·obtain⟨r_5,c3,H⟩:=bd_ H
  replace c3:=acP c3;rcases af H with⟨q_6,H⟩|⟨q_6,H⟩
  ·obtain⟨r_7,c4,H⟩:=bd_ H
   replace c4:=abz c4
   cases H;exact bV
  cases H;exact bV
 cases H;exact bV
def AG (a_t:bv)(a_l:(List aw)):Option (Bool):=(pi a_t).bind fun r_1=>bif (decide (r_1=(0:Int)))then(mB a_t).bind fun r_3=>(FL (⟨r_3,a_l⟩:Rln)).bind fun r_4=>some r_4 else
 some false
theorem aba {a_t:bv}{a_l:(List aw)}{r:Bool}(H:AG a_t a_l=some r):PTz 9 [.agg (bn a_t),.one (.lst (a_l.map aA))] (.val (.one (.bool r))):=by
 unfold AG at H;refine po_ Tryz.func9 Tryz.ntmps9 ?_;obtain⟨r_1,c1,H⟩:=bd_ H;replace c1:=J5 c1;rcases af H with⟨q_2,H⟩|⟨q_2,H⟩
 ·obtain⟨r_3,c2,H⟩:=bd_ H
  replace c2:=wQ c2;obtain⟨r_4,c3,H⟩:=bd_ H;replace c3:=aa6 c3
  cases H;exact bV
 cases H;exact bV
end
