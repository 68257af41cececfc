/- Parts. No condition. -/
import Derived.Test.YtdkmoemdipgikaaGreatDoorKBB
set_option maxHeartbeats 8000000
set_option maxRecDepth 100000
set_option linter.unusedSimpArgs false
set_option linter.unusedVariables false
namespace Go.Proofs.YtdkmoemdipgikaaGreatDoor
open IntKind (i64)
open Go.RowKit Go.MapKept
def dn:Option (Val):=some (⟨(0:Int),(0:Int),ByteArray.empty⟩:Val)
instance gNullR_ok {r : Val} : OkC (dn = some r) (PTz 110 [] (.val (.agg (cV r)))) := .mk fun H => by
 unfold dn at H;refine po_ Tryz.func110 Tryz.ntmps110 ?_;exact ax H
def iu (a_s:ByteArray):(Int)->Option (Step (Int) (Bool)):=fun s=>match s with
 |i_1=>bif (decide (i_1<((a_s.size:Nat):Int)))then(xp a_s i_1).bind fun b_3=>bif (decide (((b_3.toNat:Nat):Int)<(32:Int)))then some (.ret false)else
 bif (decide ((126:Int)<((b_3.toNat:Nat):Int)))then some (.ret false)else
 some (.next (i64.wrap (i_1+(1:Int))))else
 some (.exit i_1)
def da:Sum (Int) (Bool)->Option ((Bool))
 |.inl i_1=>some true
 |.inr q=>some q
def jJ (a_s:ByteArray):Option (Bool):=(ap (iu a_s) fuel (0:Int)).bind (da)
instance gPrintable_ok {a_s : ByteArray} {r : Bool} : OkC (jJ a_s = some r) (PTz 151 [.one (.str a_s)] (.val (.one (.bool r)))) := .mk fun H => by
 unfold jJ at H;refine po_ Tryz.func151 Tryz.ntmps151 ?_
 repeat' (first|refine gs5_ ?_|refine b_ rfl rfl rfl rfl rfl rfl rfl ?_)
 refine alM_ (fun s:Int=>match s with|i_1=>[(0,.one (.c (.str a_s))),(3,.one (.c (.int .i64 i_1)))]) (fun s=>match s with|i_1=>[]) H (fun _=>amR _)
  (fm_ bH [] rfl a8 trivial) ?_
 rintro i_1 st1 hb1 hk1;unfold iu at hb1;dsimp only at hb1 ⊢;rcases af hb1 with⟨q_2,hb1⟩|⟨q_2,hb1⟩
 ·obtain⟨b_3,i1,hb1⟩:=bd_ hb1
  obtain⟨i1z,i1⟩:=mj i1;rcases af hb1 with⟨q_4,hb1⟩|⟨q_4,hb1⟩
  ·cases hb1
   have hx1:da (.inr false)=some _:=hk1;unfold da at hx1;dsimp only at hx1
   cases hx1
   repeat' (first|refine gs5_ ?_|refine b_ rfl rfl rfl rfl rfl rfl rfl ?_)
   refine aJ (aO rfl ?_ ?_)
   ·repeat' (first|exact t7|rfl|exact amG rfl|omega|apply And.intro)
   ·first|rfl|(simp only[amJ,amH,amL,amB]<;>rfl)
  rcases af hb1 with⟨q_5,hb1⟩|⟨q_5,hb1⟩
  ·cases hb1
   have hx1:da (.inr false)=some _:=hk1;unfold da at hx1;dsimp only at hx1
   cases hx1
   repeat' (first|refine gs5_ ?_|refine b_ rfl rfl rfl rfl rfl rfl rfl ?_)
   refine aJ (aO rfl ?_ ?_)
   ·repeat' (first|exact t7|rfl|exact amG rfl|omega|apply And.intro)
   ·first|rfl|(simp only[amJ,amH,amL,amB]<;>rfl)
  cases hb1
  repeat' (first|refine gs5_ ?_|refine b_ rfl rfl rfl rfl rfl rfl rfl ?_)
  exact⟨_,rfl,fm_ bH [] rfl a8 trivial⟩
 cases hb1;have hx1:da (.inl i_1)=some _:=hk1;unfold da at hx1;dsimp only at hx1
 cases hx1
 repeat' (first|refine gs5_ ?_|refine b_ rfl rfl rfl rfl rfl rfl rfl ?_)
 refine aJ (aO rfl ?_ ?_)
 ·repeat' (first|exact t7|rfl|exact amG rfl|omega|apply And.intro)
 ·first|rfl|(simp only[amJ,amH,amL,amB]<;>rfl)
def cH (a_v:Val):Option (Bool):=bif (decide (a_v.kind=(0:Int)))then bif (decide (a_v.int=(0:Int)))then some (a_v.text.toList==(⟨#[]⟩:ByteArray).toList)else
 some false else
 bif (decide (a_v.kind=(1:Int)))then bif (a_v.text.toList==(⟨#[]⟩:ByteArray).toList)then bif (decide ((-1125899906842624:Int)<=a_v.int))then some (decide (a_v.int<=(1125899906842624:Int)))else
 some false else
 some false else
 bif (decide (a_v.kind=(2:Int)))then bif (decide (a_v.int=(0:Int)))then bif (decide (((a_v.text.size:Nat):Int)<=(200:Int)))then(jJ a_v.text).bind fun r_9=>some r_9 else
 some false else
 some false else
 bif (decide (a_v.kind=(3:Int)))then bif (a_v.text.toList==(⟨#[]⟩:ByteArray).toList)then bif (decide (a_v.int=(0:Int)))then some true else
 some (decide (a_v.int=(1:Int)))else
 some false else
 some false
instance gValidR_ok {a_v : Val} {r : Bool} : OkC (cH a_v = some r) (PTz 93 [.agg (cV a_v)] (.val (.one (.bool r)))) := .mk fun H => by
 unfold cH at H;refine po_ Tryz.func93 Tryz.ntmps93 ?_;exact ax H
def nH (a_v:Val):Option (Val):=(cH a_v).bind fun r_1=>bif r_1 then some a_v else
 (dn ).bind fun r_3=>some r_3
instance gvalidR_ok {a_v : Val} {r : Val} : OkC (nH a_v = some r) (PTz 173 [.agg (cV a_v)] (.val (.agg (cV r)))) := .mk fun H => by
 unfold nH at H;refine po_ Tryz.func173 Tryz.ntmps173 ?_;exact ax H
def kS (a_n:Int):Option (Val):=(nH (⟨(1:Int),a_n,ByteArray.empty⟩:Val)).bind fun r_1=>some r_1
instance gIntR_ok {a_n : Int} {r : Val} : OkC (kS a_n = some r) (PTz 117 [.one (.int .i64 a_n)] (.val (.agg (cV r)))) := .mk fun H => by
 unfold kS at H;refine po_ Tryz.func117 Tryz.ntmps117 ?_;exact ax H
def Gx (a_row:(List Val))(a_i:Int):Option (Val):=bif (decide (a_i<(0:Int)))then(dn ).bind fun r_2=>some r_2 else
 bif (decide (((a_row.length:Nat):Int)<=a_i))then(dn ).bind fun r_4=>some r_4 else
 (aq a_row a_i).bind fun x_5=>some x_5
instance gAtR_ok {a_row : (List Val)} {a_i : Int} {r : Val} : OkC (Gx a_row a_i = some r) (PTz 168 [.one (.lst (a_row.map cV)), .one (.int .i64 a_i)] (.val (.agg (cV r)))) := .mk fun H => by
 unfold Gx at H;refine po_ Tryz.func168 Tryz.ntmps168 ?_;exact ax H
def fw (a_a:(List Val))(a_b:(List Val)):Option (Bool):=(je a_a a_b).bind fun r_1=>some (decide (r_1=(0:Int)))
instance gEqual8_ok {a_a : (List Val)} {a_b : (List Val)} {r : Bool} : OkC (fw a_a a_b = some r) (PTz 184 [.one (.lst (a_a.map cV)), .one (.lst (a_b.map cV))] (.val (.one (.bool r)))) := .mk fun H => by
 unfold fw at H;refine po_ Tryz.func184 Tryz.ntmps184 ?_;exact ax H
def sV (a_a:(List Val))(a_b:(List Val))(a_o:(List BN)):(Int)->Option (Step (Int) (Bool)):=fun s=>match s with
 |i_1=>bif (decide (i_1<((a_o.length:Nat):Int)))then(aq a_o i_1).bind fun x_3=>(Gx a_a x_3.column).bind fun r_4=>(Gx a_b x_3.column).bind fun r_5=>(rR r_4 r_5).bind fun r_6=>bif (decide (r_6≠(0:Int)))then some (.ret (!((decide (r_6<(0:Int)))==x_3.desc)))else
 some (.next (i64.wrap (i_1+(1:Int))))else
 some (.exit i_1)
def sP (a_a:(List Val))(a_b:(List Val)):Sum (Int) (Bool)->Option ((Bool))
 |.inl i_1=>(je a_a a_b).bind fun r_8=>some (decide (r_8<(0:Int)))
 |.inr q=>some q
def ri (a_a:(List Val))(a_b:(List Val))(a_o:(List BN)):Option (Bool):=(ap (sV a_a a_b a_o) fuel (0:Int)).bind (sP a_a a_b)
instance gBefore_ok {a_a : (List Val)} {a_b : (List Val)} {a_o : (List BN)} {r : Bool} : OkC (ri a_a a_b a_o = some r) (PTz 222 [.one (.lst (a_a.map cV)), .one (.lst (a_b.map cV)), .one (.lst (a_o.map xh))] (.val (.one (.bool r)))) := .mk fun H => by
 unfold ri at H;refine po_ Tryz.func222 Tryz.ntmps222 ?_;refine aX ?_;refine alM_ (fun s:Int=>match s with|i_1=>[(0,.one (.c (.lst (a_a.map cV)))),(1,.one (.c (.lst (a_b.map cV)))),(2,.one (.c (.lst (a_o.map xh)))),(7,.one (.c (.int .i64 i_1)))]) (fun s=>match s with|i_1=>[]) H (fun _=>amR _)
  (fm_ bH [] rfl a8 trivial) ?_
 rintro i_1 st1 hb1 hk1;unfold sV at hb1;dsimp only at hb1 ⊢;rcases af hb1 with⟨q_2,hb1⟩|⟨q_2,hb1⟩
 ·obtain⟨x_3,i1z,i1,i1x,hb1⟩:=aY (f:=xh) hb1
  obtain⟨r_4,c2,hb1⟩:=bd_ hb1;replace c2:=gAtR_ok c2;obtain⟨r_5,c3,hb1⟩:=bd_ hb1;replace c3:=gAtR_ok c3;obtain⟨r_6,c4,hb1⟩:=bd_ hb1;replace c4:=gCmp7_ok c4;rcases af hb1 with⟨q_7,hb1⟩|⟨q_7,hb1⟩
  ·exact cL hb1 hk1
  cases hb1;refine aX ?_;exact⟨_,rfl,fm_ bH [] rfl a8 trivial⟩
 exact cL hb1 hk1
def dB (a_a:(List (List Val)))(a_b:(List (List Val)))(a_o:(List BN)):((List (List Val))×Int×Int)->Option (Step ((List (List Val))×Int×Int) ((List (List Val)))):=fun s=>match s with
 |(out_1,i_2,k_3)=>bif (decide (i_2<((a_a.length:Nat):Int)))then bif (decide (i_2=((a_a.length:Nat):Int)))then(aq a_b k_3).bind fun x_6=>bif (decide (out_1.length+1<=5864062014805))then(some (.next ((out_1++[x_6]),i_2,(i64.wrap (k_3+(1:Int))))))else none else
 bif (decide (k_3<((a_b.length:Nat):Int)))then(aq a_b k_3).bind fun x_8=>(aq a_a i_2).bind fun x_9=>(ri x_8 x_9 a_o).bind fun r_10=>bif r_10 then bif (decide (out_1.length+1<=5864062014805))then(some (.next ((out_1++[x_8]),i_2,(i64.wrap (k_3+(1:Int))))))else none else
 bif (decide (out_1.length+1<=5864062014805))then(some (.next ((out_1++[x_9]),(i64.wrap (i_2+(1:Int))),k_3)))else none else
 (aq a_a i_2).bind fun x_12=>bif (decide (out_1.length+1<=5864062014805))then(some (.next ((out_1++[x_12]),(i64.wrap (i_2+(1:Int))),k_3)))else none else
 bif (decide (k_3<((a_b.length:Nat):Int)))then bif (decide (i_2=((a_a.length:Nat):Int)))then(aq a_b k_3).bind fun x_15=>bif (decide (out_1.length+1<=5864062014805))then(some (.next ((out_1++[x_15]),i_2,(i64.wrap (k_3+(1:Int))))))else none else
 (aq a_b k_3).bind fun x_16=>(aq a_a i_2).bind fun x_17=>(ri x_16 x_17 a_o).bind fun r_18=>bif r_18 then bif (decide (out_1.length+1<=5864062014805))then(some (.next ((out_1++[x_16]),i_2,(i64.wrap (k_3+(1:Int))))))else none else
 bif (decide (out_1.length+1<=5864062014805))then(some (.next ((out_1++[x_17]),(i64.wrap (i_2+(1:Int))),k_3)))else none else
 some (.exit (out_1,i_2,k_3))
def zx:Sum ((List (List Val))×Int×Int) ((List (List Val)))->Option (((List (List Val))))
 |.inl (out_1,i_2,k_3)=>some out_1
 |.inr q=>some q
def tO (a_a:(List (List Val)))(a_b:(List (List Val)))(a_o:(List BN)):Option ((List (List Val))):=(ap (dB a_a a_b a_o) fuel ([],(0:Int),(0:Int))).bind (zx)
instance gMerged_ok {a_a : (List (List Val))} {a_b : (List (List Val))} {a_o : (List BN)} {r : (List (List Val))} : OkC (tO a_a a_b a_o = some r) (PTz 196 [.one (.lst (a_a.map (fun x => [AC.lst (x.map cV)]))), .one (.lst (a_b.map (fun x => [AC.lst (x.map cV)]))), .one (.lst (a_o.map xh))] (.val (.one (.lst (r.map (fun x => [AC.lst (x.map cV)])))))) := .mk fun H => by
 unfold tO at H;refine po_ Tryz.func196 Tryz.ntmps196 ?_;refine aX ?_;refine bK 7 1 rfl ?_;refine alM_ (fun s:(List (List Val))×Int×Int=>match s with|(out_1,i_2,k_3)=>[(0,.one (.c (.lst (a_a.map (fun x=>[AC.lst (x.map cV)]))))),(1,.one (.c (.lst (a_b.map (fun x=>[AC.lst (x.map cV)]))))),(2,.one (.c (.lst (a_o.map xh)))),(7,.one (.own (out_1.map (fun x=>[AC.lst (x.map cV)])) 0)),(8,.one (.c (.int .i64 i_2))),(9,.one (.c (.int .i64 k_3)))]) (fun s=>match s with|(out_1,i_2,k_3)=>[.spare out_1.length 1]) H (fun _=>amR _)
  (fm_ bH [] rfl a8 bZ) ?_
 rintro⟨out_1,i_2,k_3⟩ st1 hb1 hk1;exact cL hb1 hk1
def fj (a_row:(List Val))(a_kinds:(List Int)):(Int)->Option (Step (Int) (Bool)):=fun s=>match s with
 |i_2=>bif (decide (i_2<((a_row.length:Nat):Int)))then(aq a_row i_2).bind fun x_4=>(cH x_4).bind fun r_5=>bif (!r_5)then some (.ret false)else
 bif (decide (x_4.kind≠(0:Int)))then(aq a_kinds i_2).bind fun x_8=>bif (decide (x_4.kind≠x_8))then some (.ret false)else
 some (.next (i64.wrap (i_2+(1:Int))))else
 some (.next (i64.wrap (i_2+(1:Int))))else
 some (.exit i_2)
def Dt:Sum (Int) (Bool)->Option ((Bool))
 |.inl i_2=>some true
 |.inr q=>some q
def qB (a_row:(List Val))(a_kinds:(List Int)):Option (Bool):=bif (decide (((a_row.length:Nat):Int)≠((a_kinds.length:Nat):Int)))then some false else
 (ap (fj a_row a_kinds) fuel (0:Int)).bind (Dt)
instance gFits8_ok {a_row : (List Val)} {a_kinds : (List Int)} {r : Bool} : OkC (qB a_row a_kinds = some r) (PTz 60 [.one (.lst (a_row.map cV)), .one (.lst (a_kinds.map (fun x => [AC.int .i64 x])))] (.val (.one (.bool r)))) := .mk fun H => by
 unfold qB at H;refine po_ Tryz.func60 Tryz.ntmps60 ?_;rcases af H with⟨q_1,H⟩|⟨q_1,H⟩
 ·exact ax H
 refine aX ?_;refine alM_ (fun s:Int=>match s with|i_2=>[(0,.one (.c (.lst (a_row.map cV)))),(1,.one (.c (.lst (a_kinds.map (fun x=>[AC.int .i64 x]))))),(5,.one (.c (.int .i64 i_2)))]) (fun s=>match s with|i_2=>[]) H (fun _=>amR _)
  (fm_ bH [] rfl a8 trivial) ?_
 rintro i_2 st1 hb1 hk1;unfold fj at hb1;dsimp only at hb1 ⊢;rcases af hb1 with⟨q_3,hb1⟩|⟨q_3,hb1⟩
 ·obtain⟨x_4,i1z,i1,i1x,hb1⟩:=aY (f:=cV) hb1
  obtain⟨r_5,c2,hb1⟩:=bd_ hb1;replace c2:=gValidR_ok c2;rcases af hb1 with⟨q_6,hb1⟩|⟨q_6,hb1⟩
  ·exact cL hb1 hk1
  rcases af hb1 with⟨q_7,hb1⟩|⟨q_7,hb1⟩
  ·obtain⟨x_8,i3z,i3,i3x,hb1⟩:=aY (f:=(fun x=>[AC.int .i64 x])) hb1
   rcases af hb1 with⟨q_9,hb1⟩|⟨q_9,hb1⟩
   ·exact cL hb1 hk1
   cases hb1;refine aX ?_;exact⟨_,rfl,fm_ bH [] rfl a8 trivial⟩
  cases hb1;refine aX ?_;exact⟨_,rfl,fm_ bH [] rfl a8 trivial⟩
 exact cL hb1 hk1
def wY (a_k:Int):Option (Bool):=bif (decide (a_k=(1:Int)))then some true else
 bif (decide (a_k=(2:Int)))then some true else
 some (decide (a_k=(3:Int)))
instance gKind_ok {a_k : Int} {r : Bool} : OkC (wY a_k = some r) (PTz 94 [.one (.int .i64 a_k)] (.val (.one (.bool r)))) := .mk fun H => by
 unfold wY at H;refine po_ Tryz.func94 Tryz.ntmps94 ?_;exact ax H
def l7 (a_l:(List Int)):(Int)->Option (Step (Int) (Bool)):=fun s=>match s with
 |i_1=>bif (decide (i_1<((a_l.length:Nat):Int)))then(aq a_l i_1).bind fun x_3=>(wY x_3).bind fun r_4=>bif (!r_4)then some (.ret false)else
 some (.next (i64.wrap (i_1+(1:Int))))else
 some (.exit i_1)
def aaR:Sum (Int) (Bool)->Option ((Bool))
 |.inl i_1=>some true
 |.inr q=>some q
def yP (a_l:(List Int)):Option (Bool):=(ap (l7 a_l) fuel (0:Int)).bind (aaR)
instance gKinds_ok {a_l : (List Int)} {r : Bool} : OkC (yP a_l = some r) (PTz 61 [.one (.lst (a_l.map (fun x => [AC.int .i64 x])))] (.val (.one (.bool r)))) := .mk fun H => by
 unfold yP at H;refine po_ Tryz.func61 Tryz.ntmps61 ?_;refine aX ?_;refine alM_ (fun s:Int=>match s with|i_1=>[(0,.one (.c (.lst (a_l.map (fun x=>[AC.int .i64 x]))))),(3,.one (.c (.int .i64 i_1)))]) (fun s=>match s with|i_1=>[]) H (fun _=>amR _)
  (fm_ bH [] rfl a8 trivial) ?_
 rintro i_1 st1 hb1 hk1;unfold l7 at hb1;dsimp only at hb1 ⊢;rcases af hb1 with⟨q_2,hb1⟩|⟨q_2,hb1⟩
 ·obtain⟨x_3,i1z,i1,i1x,hb1⟩:=aY (f:=(fun x=>[AC.int .i64 x])) hb1
  obtain⟨r_4,c2,hb1⟩:=bd_ hb1;replace c2:=gKind_ok c2;rcases af hb1 with⟨q_5,hb1⟩|⟨q_5,hb1⟩
  ·exact cL hb1 hk1
  cases hb1;refine aX ?_;exact⟨_,rfl,fm_ bH [] rfl a8 trivial⟩
 exact cL hb1 hk1
