/- Parts of the proof, joined. No condition. -/
import Derived.Test.YtlcceppoloaecaaGreatDoorKAA
import Derived.Test.YtlcceppoloaecaaGreatDoorKBG
import Derived.Test.YtlcceppoloaecaaGreatDoorKAJ
set_option linter.unusedSimpArgs false
set_option linter.unusedVariables false
namespace Go.Proofs.YtlcceppoloaecaaGreatDoor
open Go.RowKit Go.MapKept
set_option maxRecDepth 100000
set_option maxHeartbeats 8000000
def gp:Option (Val):=some (⟨(0:Int),(0:Int),ByteArray.empty⟩:Val)
theorem dD {r:Val} (H:gp=some r):Pure Tryz.prog 72 [] (.val (.agg (cV r))):=by
 unfold gp at H
 refine po_ Tryz.func72 Tryz.ntmps72 ?_
 cases H
 exact aK
def oZ (a_s:ByteArray):(Int)->Option (Step (Int) (Bool)):=fun s=>match s with
 | i_1=>bif (decide (i_1<((a_s.size:Nat):Int))) then (adm a_s i_1).bind fun b_3=>bif (decide (((b_3.toNat:Nat):Int)<(32:Int))) then some (.ret false) else
 bif (decide ((126:Int)<((b_3.toNat:Nat):Int))) then some (.ret false) else
 some (.next (IntKind.i64.wrap (i_1+(1:Int)))) else
 some (.exit i_1)
def fQ:Sum (Int) (Bool)->Option ((Bool))
 | .inl i_1=>some true
 | .inr q=>some q
def tV (a_s:ByteArray):Option (Bool):=(az (oZ a_s) fuel (0:Int)).bind (fQ)
theorem Q5 {a_s:ByteArray} {r:Bool} (H:tV a_s=some r):Pure Tryz.prog 199 [.one (.str a_s)] (.val (.one (.bool r))):=by
 unfold tV at H
 refine po_ Tryz.func199 Tryz.ntmps199 ?_
 repeat' (first|refine gs5_ ?_|refine b_ rfl rfl rfl rfl rfl rfl rfl ?_)
 refine alM_ (fun s:Int=>match s with|i_1=>[(0, .one (.c (.str a_s))),(3, .one (.c (.int .i64 i_1)))]) (fun s=>match s with|i_1=>[]) H (fun _=>aqj _)
  (fm_ bY [] rfl bA trivial) ?_
 rintro i_1 st1 hb1 hk1
 unfold oZ at hb1
 dsimp only at hb1 ⊢
 rcases af hb1 with ⟨q_2,hb1⟩|⟨q_2,hb1⟩
 ·obtain ⟨b_3,i1,hb1⟩:=bd_ hb1
  obtain ⟨i1z,i1⟩:=Sa i1
  rcases af hb1 with ⟨q_4,hb1⟩|⟨q_4,hb1⟩
  ·cases hb1
   have hx1:fQ (.inr false)=some _:=hk1
   unfold fQ at hx1
   dsimp only at hx1
   cases hx1
   repeat' (first|refine gs5_ ?_|refine b_ rfl rfl rfl rfl rfl rfl rfl ?_)
   refine bL (bR rfl ?_ ?_)
   ·repeat' (first|exact trivial|rfl|exact ap_ rfl|omega|apply And.intro)
   ·first|rfl|(simp only [aqb,ap',aqd,ap5]<;>rfl)
  rcases af hb1 with ⟨q_5,hb1⟩|⟨q_5,hb1⟩
  ·cases hb1
   have hx1:fQ (.inr false)=some _:=hk1
   unfold fQ at hx1
   dsimp only at hx1
   cases hx1
   repeat' (first|refine gs5_ ?_|refine b_ rfl rfl rfl rfl rfl rfl rfl ?_)
   refine bL (bR rfl ?_ ?_)
   ·repeat' (first|exact trivial|rfl|exact ap_ rfl|omega|apply And.intro)
   ·first|rfl|(simp only [aqb,ap',aqd,ap5]<;>rfl)
  cases hb1
  repeat' (first|refine gs5_ ?_|refine b_ rfl rfl rfl rfl rfl rfl rfl ?_)
  exact ⟨_,rfl,fm_ bY [] rfl bA trivial⟩
 cases hb1
 have hx1:fQ (.inl i_1)=some _:=hk1
 unfold fQ at hx1
 dsimp only at hx1
 cases hx1
 repeat' (first|refine gs5_ ?_|refine b_ rfl rfl rfl rfl rfl rfl rfl ?_)
 refine bL (bR rfl ?_ ?_)
 ·repeat' (first|exact trivial|rfl|exact ap_ rfl|omega|apply And.intro)
 ·first|rfl|(simp only [aqb,ap',aqd,ap5]<;>rfl)
def fH (a_v:Val):Option (Bool):=bif (decide (a_v.kind=(0:Int))) then bif (decide (a_v.int=(0:Int))) then some (a_v.text.toList==(⟨#[]⟩:ByteArray).toList) else
 some false else
 bif (decide (a_v.kind=(1:Int))) then bif (a_v.text.toList==(⟨#[]⟩:ByteArray).toList) then bif (decide ((-1125899906842624:Int)<=a_v.int)) then some (decide (a_v.int<=(1125899906842624:Int))) else
 some false else
 some false else
 bif (decide (a_v.kind=(2:Int))) then bif (decide (a_v.int=(0:Int))) then bif (decide (((a_v.text.size:Nat):Int)<=(200:Int))) then (tV a_v.text).bind fun r_9=>some r_9 else
 some false else
 some false else
 bif (decide (a_v.kind=(3:Int))) then bif (a_v.text.toList==(⟨#[]⟩:ByteArray).toList) then bif (decide (a_v.int=(0:Int))) then some true else
 some (decide (a_v.int=(1:Int))) else
 some false else
 some false
theorem tY {a_v:Val} {r:Bool} (H:fH a_v=some r):Pure Tryz.prog 139 [.agg (cV a_v)] (.val (.one (.bool r))):=by
 unfold fH at H
 refine po_ Tryz.func139 Tryz.ntmps139 ?_
 rcases af H with ⟨q_1,H⟩|⟨q_1,H⟩
 ·rcases af H with ⟨q_2,H⟩|⟨q_2,H⟩
  ·cases H
   exact aK
  cases H
  exact aK
 rcases af H with ⟨q_3,H⟩|⟨q_3,H⟩
 ·rcases af H with ⟨q_4,H⟩|⟨q_4,H⟩
  ·rcases af H with ⟨q_5,H⟩|⟨q_5,H⟩
   ·cases H
    exact aK
   cases H
   exact aK
  cases H
  exact aK
 rcases af H with ⟨q_6,H⟩|⟨q_6,H⟩
 ·rcases af H with ⟨q_7,H⟩|⟨q_7,H⟩
  ·rcases af H with ⟨q_8,H⟩|⟨q_8,H⟩
   ·obtain ⟨r_9,c1,H⟩:=bd_ H
    replace c1:=Q5 c1
    cases H
    exact aK
   cases H
   exact aK
  cases H
  exact aK
 rcases af H with ⟨q_10,H⟩|⟨q_10,H⟩
 ·rcases af H with ⟨q_11,H⟩|⟨q_11,H⟩
  ·rcases af H with ⟨q_12,H⟩|⟨q_12,H⟩
   ·cases H
    exact aK
   cases H
   exact aK
  cases H
  exact aK
 cases H
 exact aK
def yC (a_v:Val):Option (Val):=(fH a_v).bind fun r_1=>bif r_1 then some a_v else
 (gp ).bind fun r_3=>some r_3
theorem PL {a_v:Val} {r:Val} (H:yC a_v=some r):Pure Tryz.prog 220 [.agg (cV a_v)] (.val (.agg (cV r))):=by
 unfold yC at H
 refine po_ Tryz.func220 Tryz.ntmps220 ?_
 obtain ⟨r_1,c1,H⟩:=bd_ H
 replace c1:=tY c1
 rcases af H with ⟨q_2,H⟩|⟨q_2,H⟩
 ·cases H
  exact aK
 obtain ⟨r_3,c2,H⟩:=bd_ H
 replace c2:=dD c2
 cases H
 exact aK
def uD (a_n:Int):Option (Val):=(yC (⟨(1:Int),a_n,ByteArray.empty⟩:Val)).bind fun r_1=>some r_1
theorem pO {a_n:Int} {r:Val} (H:uD a_n=some r):Pure Tryz.prog 169 [.one (.int .i64 a_n)] (.val (.agg (cV r))):=by
 unfold uD at H
 refine po_ Tryz.func169 Tryz.ntmps169 ?_
 obtain ⟨r_1,c1,H⟩:=bd_ H
 replace c1:=PL c1
 cases H
 exact aK
def Zx (a_row:(List Val)) (a_i:Int):Option (Val):=bif (decide (a_i<(0:Int))) then (gp ).bind fun r_2=>some r_2 else
 bif (decide (((a_row.length:Nat):Int)<=a_i)) then (gp ).bind fun r_4=>some r_4 else
 (aT a_row a_i).bind fun x_5=>some x_5
theorem VG {a_row:(List Val)} {a_i:Int} {r:Val} (H:Zx a_row a_i=some r):Pure Tryz.prog 215 [.one (.lst (a_row.map cV)), .one (.int .i64 a_i)] (.val (.agg (cV r))):=by
 unfold Zx at H
 refine po_ Tryz.func215 Tryz.ntmps215 ?_
 rcases af H with ⟨q_1,H⟩|⟨q_1,H⟩
 ·obtain ⟨r_2,c1,H⟩:=bd_ H
  replace c1:=dD c1
  cases H
  exact aK
 rcases af H with ⟨q_3,H⟩|⟨q_3,H⟩
 ·obtain ⟨r_4,c2,H⟩:=bd_ H
  replace c2:=dD c2
  cases H
  exact aK
 obtain ⟨x_5,i3z,i3,i3x,H⟩:=bn (f:=cV) H
 cases H
 exact aK
def ni (a_a:(List Val)) (a_b:(List Val)):Option (Bool):=(xn a_a a_b).bind fun r_1=>some (decide (r_1=(0:Int)))
theorem Qh {a_a:(List Val)} {a_b:(List Val)} {r:Bool} (H:ni a_a a_b=some r):Pure Tryz.prog 104 [.one (.lst (a_a.map cV)), .one (.lst (a_b.map cV))] (.val (.one (.bool r))):=by
 unfold ni at H
 refine po_ Tryz.func104 Tryz.ntmps104 ?_
 obtain ⟨r_1,c1,H⟩:=bd_ H
 replace c1:=su c1
 cases H
 exact aK
def ET (a_a:(List Val)) (a_b:(List Val)) (a_o:(List QP)):(Int)->Option (Step (Int) (Bool)):=fun s=>match s with
 | i_1=>bif (decide (i_1<((a_o.length:Nat):Int))) then (aT a_o i_1).bind fun x_3=>(Zx a_a x_3.column).bind fun r_4=>(Zx a_b x_3.column).bind fun r_5=>(DT r_4 r_5).bind fun r_6=>bif (decide (r_6≠(0:Int))) then some (.ret (!((decide (r_6<(0:Int)))==x_3.desc))) else
 some (.next (IntKind.i64.wrap (i_1+(1:Int)))) else
 some (.exit i_1)
def mf (a_a:(List Val)) (a_b:(List Val)):Sum (Int) (Bool)->Option ((Bool))
 | .inl i_1=>(xn a_a a_b).bind fun r_8=>some (decide (r_8<(0:Int)))
 | .inr q=>some q
def Di (a_a:(List Val)) (a_b:(List Val)) (a_o:(List QP)):Option (Bool):=(az (ET a_a a_b a_o) fuel (0:Int)).bind (mf a_a a_b)
theorem PN {a_a:(List Val)} {a_b:(List Val)} {a_o:(List QP)} {r:Bool} (H:Di a_a a_b a_o=some r):Pure Tryz.prog 224 [.one (.lst (a_a.map cV)), .one (.lst (a_b.map cV)), .one (.lst (a_o.map PX))] (.val (.one (.bool r))):=by
 unfold Di at H
 refine po_ Tryz.func224 Tryz.ntmps224 ?_
 refine bz ?_
 refine alM_ (fun s:Int=>match s with|i_1=>[(0, .one (.c (.lst (a_a.map cV)))),(1, .one (.c (.lst (a_b.map cV)))),(2, .one (.c (.lst (a_o.map PX)))),(7, .one (.c (.int .i64 i_1)))]) (fun s=>match s with|i_1=>[]) H (fun _=>aqj _)
  (fm_ bY [] rfl bA trivial) ?_
 rintro i_1 st1 hb1 hk1
 unfold ET at hb1
 dsimp only at hb1 ⊢
 rcases af hb1 with ⟨q_2,hb1⟩|⟨q_2,hb1⟩
 ·obtain ⟨x_3,i1z,i1,i1x,hb1⟩:=bn (f:=PX) hb1
  obtain ⟨r_4,c2,hb1⟩:=bd_ hb1
  replace c2:=VG c2
  obtain ⟨r_5,c3,hb1⟩:=bd_ hb1
  replace c3:=VG c3
  obtain ⟨r_6,c4,hb1⟩:=bd_ hb1
  replace c4:=GD c4
  rcases af hb1 with ⟨q_7,hb1⟩|⟨q_7,hb1⟩
  ·cases hb1
   have hx1:mf a_a a_b (.inr (!((decide (r_6<(0:Int)))==x_3.desc)))=some _:=hk1
   unfold mf at hx1
   dsimp only at hx1
   cases hx1
   exact aK
  cases hb1
  refine bz ?_
  exact ⟨_,rfl,fm_ bY [] rfl bA trivial⟩
 cases hb1
 have hx1:mf a_a a_b (.inl i_1)=some _:=hk1
 unfold mf at hx1
 dsimp only at hx1
 obtain ⟨r_8,c5,hx1⟩:=bd_ hx1
 replace c5:=su c5
 cases hx1
 exact aK
def gG (a_a:(List (List Val))) (a_b:(List (List Val))) (a_o:(List QP)):((List (List Val)) × Int × Int)->Option (Step ((List (List Val)) × Int × Int) ((List (List Val)))):=fun s=>match s with
 | (out_1,i_2,k_3)=>bif (decide (i_2<((a_a.length:Nat):Int))) then bif (decide (i_2=((a_a.length:Nat):Int))) then (aT a_b k_3).bind fun x_6=>bif (decide (out_1.length+1<=5864062014805)) then (some (.next ((out_1++[x_6]),i_2,(IntKind.i64.wrap (k_3+(1:Int)))))) else none else
 bif (decide (k_3<((a_b.length:Nat):Int))) then (aT a_b k_3).bind fun x_8=>(aT a_a i_2).bind fun x_9=>(Di x_8 x_9 a_o).bind fun r_10=>bif r_10 then bif (decide (out_1.length+1<=5864062014805)) then (some (.next ((out_1++[x_8]),i_2,(IntKind.i64.wrap (k_3+(1:Int)))))) else none else
 bif (decide (out_1.length+1<=5864062014805)) then (some (.next ((out_1++[x_9]),(IntKind.i64.wrap (i_2+(1:Int))),k_3))) else none else
 (aT a_a i_2).bind fun x_12=>bif (decide (out_1.length+1<=5864062014805)) then (some (.next ((out_1++[x_12]),(IntKind.i64.wrap (i_2+(1:Int))),k_3))) else none else
 bif (decide (k_3<((a_b.length:Nat):Int))) then bif (decide (i_2=((a_a.length:Nat):Int))) then (aT a_b k_3).bind fun x_15=>bif (decide (out_1.length+1<=5864062014805)) then (some (.next ((out_1++[x_15]),i_2,(IntKind.i64.wrap (k_3+(1:Int)))))) else none else
 (aT a_b k_3).bind fun x_16=>(aT a_a i_2).bind fun x_17=>(Di x_16 x_17 a_o).bind fun r_18=>bif r_18 then bif (decide (out_1.length+1<=5864062014805)) then (some (.next ((out_1++[x_16]),i_2,(IntKind.i64.wrap (k_3+(1:Int)))))) else none else
 bif (decide (out_1.length+1<=5864062014805)) then (some (.next ((out_1++[x_17]),(IntKind.i64.wrap (i_2+(1:Int))),k_3))) else none else
 some (.exit (out_1,i_2,k_3))
def yI:Sum ((List (List Val)) × Int × Int) ((List (List Val)))->Option (((List (List Val))))
 | .inl (out_1,i_2,k_3)=>some out_1
 | .inr q=>some q
def FD (a_a:(List (List Val))) (a_b:(List (List Val))) (a_o:(List QP)):Option ((List (List Val))):=(az (gG a_a a_b a_o) fuel ([],(0:Int),(0:Int))).bind (yI)
theorem abo {a_a:(List (List Val))} {a_b:(List (List Val))} {a_o:(List QP)} {r:(List (List Val))} (H:FD a_a a_b a_o=some r):Pure Tryz.prog 174 [.one (.lst (a_a.map (fun x=>[AC.lst (x.map cV)]))), .one (.lst (a_b.map (fun x=>[AC.lst (x.map cV)]))), .one (.lst (a_o.map PX))] (.val (.one (.lst (r.map (fun x=>[AC.lst (x.map cV)]))))):=by
 unfold FD at H
 refine po_ Tryz.func174 Tryz.ntmps174 ?_
 refine bz ?_
 refine dC 7 1 rfl ?_
 refine alM_ (fun s:(List (List Val)) × Int × Int=>match s with|(out_1,i_2,k_3)=>[(0, .one (.c (.lst (a_a.map (fun x=>[AC.lst (x.map cV)]))))),(1, .one (.c (.lst (a_b.map (fun x=>[AC.lst (x.map cV)]))))),(2, .one (.c (.lst (a_o.map PX)))),(7, .one (.own (out_1.map (fun x=>[AC.lst (x.map cV)])) 0)),(8, .one (.c (.int .i64 i_2))),(9, .one (.c (.int .i64 k_3)))]) (fun s=>match s with|(out_1,i_2,k_3)=>[.spare out_1.length 1]) H (fun _=>aqj _)
  (fm_ bY [] rfl bA cz) ?_
 rintro ⟨out_1,i_2,k_3⟩ st1 hb1 hk1
 unfold gG at hb1
 dsimp only at hb1 ⊢
 rcases af hb1 with ⟨q_4,hb1⟩|⟨q_4,hb1⟩
 ·rcases af hb1 with ⟨q_5,hb1⟩|⟨q_5,hb1⟩
  ·obtain ⟨x_6,i1z,i1,i1x,hb1⟩:=bn (f:=(fun x=>[AC.lst (x.map cV)])) hb1
   obtain ⟨g2,hb1⟩:=aS hb1
   cases hb1
   refine bz ?_
   exact ⟨_,rfl,fm_ jD [] iR bA cz⟩
  rcases af hb1 with ⟨q_7,hb1⟩|⟨q_7,hb1⟩
  ·obtain ⟨x_8,i3z,i3,i3x,hb1⟩:=bn (f:=(fun x=>[AC.lst (x.map cV)])) hb1
   obtain ⟨x_9,i4z,i4,i4x,hb1⟩:=bn (f:=(fun x=>[AC.lst (x.map cV)])) hb1
   obtain ⟨r_10,c5,hb1⟩:=bd_ hb1
   replace c5:=PN c5
   rcases af hb1 with ⟨q_11,hb1⟩|⟨q_11,hb1⟩
   ·obtain ⟨g6,hb1⟩:=aS hb1
    cases hb1
    refine bz ?_
    exact ⟨_,rfl,fm_ jD [] iR bA cz⟩
   obtain ⟨g7,hb1⟩:=aS hb1
   cases hb1
   refine bz ?_
   exact ⟨_,rfl,fm_ jD [] iR bA cz⟩
  obtain ⟨x_12,i8z,i8,i8x,hb1⟩:=bn (f:=(fun x=>[AC.lst (x.map cV)])) hb1
  obtain ⟨g9,hb1⟩:=aS hb1
  cases hb1
  refine bz ?_
  exact ⟨_,rfl,fm_ jD [] iR bA cz⟩
 rcases af hb1 with ⟨q_13,hb1⟩|⟨q_13,hb1⟩
 ·rcases af hb1 with ⟨q_14,hb1⟩|⟨q_14,hb1⟩
  ·obtain ⟨x_15,i10z,i10,i10x,hb1⟩:=bn (f:=(fun x=>[AC.lst (x.map cV)])) hb1
   obtain ⟨g11,hb1⟩:=aS hb1
   cases hb1
   refine bz ?_
   exact ⟨_,rfl,fm_ jD [] iR bA cz⟩
  obtain ⟨x_16,i12z,i12,i12x,hb1⟩:=bn (f:=(fun x=>[AC.lst (x.map cV)])) hb1
  obtain ⟨x_17,i13z,i13,i13x,hb1⟩:=bn (f:=(fun x=>[AC.lst (x.map cV)])) hb1
  obtain ⟨r_18,c14,hb1⟩:=bd_ hb1
  replace c14:=PN c14
  rcases af hb1 with ⟨q_19,hb1⟩|⟨q_19,hb1⟩
  ·obtain ⟨g15,hb1⟩:=aS hb1
   cases hb1
   refine bz ?_
   exact ⟨_,rfl,fm_ jD [] iR bA cz⟩
  obtain ⟨g16,hb1⟩:=aS hb1
  cases hb1
  refine bz ?_
  exact ⟨_,rfl,fm_ jD [] iR bA cz⟩
 cases hb1
 have hx1:yI (.inl (out_1,i_2,k_3))=some _:=hk1
 unfold yI at hx1
 dsimp only at hx1
 cases hx1
 exact aK
def kY (a_row:(List Val)) (a_kinds:(List Int)):(Int)->Option (Step (Int) (Bool)):=fun s=>match s with
 | i_2=>bif (decide (i_2<((a_row.length:Nat):Int))) then (aT a_row i_2).bind fun x_4=>(fH x_4).bind fun r_5=>bif (!r_5) then some (.ret false) else
 bif (decide (x_4.kind≠(0:Int))) then (aT a_kinds i_2).bind fun x_8=>bif (decide (x_4.kind≠x_8)) then some (.ret false) else
 some (.next (IntKind.i64.wrap (i_2+(1:Int)))) else
 some (.next (IntKind.i64.wrap (i_2+(1:Int)))) else
 some (.exit i_2)
def mI:Sum (Int) (Bool)->Option ((Bool))
 | .inl i_2=>some true
 | .inr q=>some q
def Bg (a_row:(List Val)) (a_kinds:(List Int)):Option (Bool):=bif (decide (((a_row.length:Nat):Int)≠((a_kinds.length:Nat):Int))) then some false else
 (az (kY a_row a_kinds) fuel (0:Int)).bind (mI)
theorem afd {a_row:(List Val)} {a_kinds:(List Int)} {r:Bool} (H:Bg a_row a_kinds=some r):Pure Tryz.prog 86 [.one (.lst (a_row.map cV)), .one (.lst (a_kinds.map (fun x=>[AC.int .i64 x])))] (.val (.one (.bool r))):=by
 unfold Bg at H
 refine po_ Tryz.func86 Tryz.ntmps86 ?_
 rcases af H with ⟨q_1,H⟩|⟨q_1,H⟩
 ·cases H
  exact aK
 refine bz ?_
 refine alM_ (fun s:Int=>match s with|i_2=>[(0, .one (.c (.lst (a_row.map cV)))),(1, .one (.c (.lst (a_kinds.map (fun x=>[AC.int .i64 x]))))),(5, .one (.c (.int .i64 i_2)))]) (fun s=>match s with|i_2=>[]) H (fun _=>aqj _)
  (fm_ bY [] rfl bA trivial) ?_
 rintro i_2 st1 hb1 hk1
 unfold kY at hb1
 dsimp only at hb1 ⊢
 rcases af hb1 with ⟨q_3,hb1⟩|⟨q_3,hb1⟩
 ·obtain ⟨x_4,i1z,i1,i1x,hb1⟩:=bn (f:=cV) hb1
  obtain ⟨r_5,c2,hb1⟩:=bd_ hb1
  replace c2:=tY c2
  rcases af hb1 with ⟨q_6,hb1⟩|⟨q_6,hb1⟩
  ·cases hb1
   have hx1:mI (.inr false)=some _:=hk1
   unfold mI at hx1
   dsimp only at hx1
   cases hx1
   exact aK
  rcases af hb1 with ⟨q_7,hb1⟩|⟨q_7,hb1⟩
  ·obtain ⟨x_8,i3z,i3,i3x,hb1⟩:=bn (f:=(fun x=>[AC.int .i64 x])) hb1
   rcases af hb1 with ⟨q_9,hb1⟩|⟨q_9,hb1⟩
   ·cases hb1
    have hx1:mI (.inr false)=some _:=hk1
    unfold mI at hx1
    dsimp only at hx1
    cases hx1
    exact aK
   cases hb1
   refine bz ?_
   exact ⟨_,rfl,fm_ bY [] rfl bA trivial⟩
  cases hb1
  refine bz ?_
  exact ⟨_,rfl,fm_ bY [] rfl bA trivial⟩
 cases hb1
 have hx1:mI (.inl i_2)=some _:=hk1
 unfold mI at hx1
 dsimp only at hx1
 cases hx1
 exact aK
def Kh (a_k:Int):Option (Bool):=bif (decide (a_k=(1:Int))) then some true else
 bif (decide (a_k=(2:Int))) then some true else
 some (decide (a_k=(3:Int)))
theorem agS {a_k:Int} {r:Bool} (H:Kh a_k=some r):Pure Tryz.prog 140 [.one (.int .i64 a_k)] (.val (.one (.bool r))):=by
 unfold Kh at H
 refine po_ Tryz.func140 Tryz.ntmps140 ?_
 rcases af H with ⟨q_1,H⟩|⟨q_1,H⟩
 ·cases H
  exact aK
 rcases af H with ⟨q_2,H⟩|⟨q_2,H⟩
 ·cases H
  exact aK
 cases H
 exact aK
def vT (a_l:(List Int)):(Int)->Option (Step (Int) (Bool)):=fun s=>match s with
 | i_1=>bif (decide (i_1<((a_l.length:Nat):Int))) then (aT a_l i_1).bind fun x_3=>(Kh x_3).bind fun r_4=>bif (!r_4) then some (.ret false) else
 some (.next (IntKind.i64.wrap (i_1+(1:Int)))) else
 some (.exit i_1)
def xJ:Sum (Int) (Bool)->Option ((Bool))
 | .inl i_1=>some true
 | .inr q=>some q
def MU (a_l:(List Int)):Option (Bool):=(az (vT a_l) fuel (0:Int)).bind (xJ)
theorem afJ {a_l:(List Int)} {r:Bool} (H:MU a_l=some r):Pure Tryz.prog 87 [.one (.lst (a_l.map (fun x=>[AC.int .i64 x])))] (.val (.one (.bool r))):=by
 unfold MU at H
 refine po_ Tryz.func87 Tryz.ntmps87 ?_
 refine bz ?_
 refine alM_ (fun s:Int=>match s with|i_1=>[(0, .one (.c (.lst (a_l.map (fun x=>[AC.int .i64 x]))))),(3, .one (.c (.int .i64 i_1)))]) (fun s=>match s with|i_1=>[]) H (fun _=>aqj _)
  (fm_ bY [] rfl bA trivial) ?_
 rintro i_1 st1 hb1 hk1
 unfold vT at hb1
 dsimp only at hb1 ⊢
 rcases af hb1 with ⟨q_2,hb1⟩|⟨q_2,hb1⟩
 ·obtain ⟨x_3,i1z,i1,i1x,hb1⟩:=bn (f:=(fun x=>[AC.int .i64 x])) hb1
  obtain ⟨r_4,c2,hb1⟩:=bd_ hb1
  replace c2:=agS c2
  rcases af hb1 with ⟨q_5,hb1⟩|⟨q_5,hb1⟩
  ·cases hb1
   have hx1:xJ (.inr false)=some _:=hk1
   unfold xJ at hx1
   dsimp only at hx1
   cases hx1
   exact aK
  cases hb1
  refine bz ?_
  exact ⟨_,rfl,fm_ bY [] rfl bA trivial⟩
 cases hb1
 have hx1:xJ (.inl i_1)=some _:=hk1
 unfold xJ at hx1
 dsimp only at hx1
 cases hx1
 exact aK
def oM (a_a:(List Int)) (a_b:(List Int)):(Int)->Option (Step (Int) (Bool)):=fun s=>match s with
 | i_2=>bif (decide (i_2<((a_a.length:Nat):Int))) then (aT a_a i_2).bind fun x_4=>(aT a_b i_2).bind fun x_5=>bif (decide (x_4≠x_5)) then some (.ret false) else
 some (.next (IntKind.i64.wrap (i_2+(1:Int)))) else
 some (.exit i_2)
def lK:Sum (Int) (Bool)->Option ((Bool))
 | .inl i_2=>some true
 | .inr q=>some q
def oG (a_a:(List Int)) (a_b:(List Int)):Option (Bool):=bif (decide (((a_a.length:Nat):Int)≠((a_b.length:Nat):Int))) then some false else
 (az (oM a_a a_b) fuel (0:Int)).bind (lK)
theorem DV {a_a:(List Int)} {a_b:(List Int)} {r:Bool} (H:oG a_a a_b=some r):Pure Tryz.prog 51 [.one (.lst (a_a.map (fun x=>[AC.int .i64 x]))), .one (.lst (a_b.map (fun x=>[AC.int .i64 x])))] (.val (.one (.bool r))):=by
 unfold oG at H
 refine po_ Tryz.func51 Tryz.ntmps51 ?_
 rcases af H with ⟨q_1,H⟩|⟨q_1,H⟩
 ·cases H
  exact aK
 refine bz ?_
 refine alM_ (fun s:Int=>match s with|i_2=>[(0, .one (.c (.lst (a_a.map (fun x=>[AC.int .i64 x]))))),(1, .one (.c (.lst (a_b.map (fun x=>[AC.int .i64 x]))))),(5, .one (.c (.int .i64 i_2)))]) (fun s=>match s with|i_2=>[]) H (fun _=>aqj _)
  (fm_ bY [] rfl bA trivial) ?_
 rintro i_2 st1 hb1 hk1
 unfold oM at hb1
 dsimp only at hb1 ⊢
 rcases af hb1 with ⟨q_3,hb1⟩|⟨q_3,hb1⟩
 ·obtain ⟨x_4,i1z,i1,i1x,hb1⟩:=bn (f:=(fun x=>[AC.int .i64 x])) hb1
  obtain ⟨x_5,i2z,i2,i2x,hb1⟩:=bn (f:=(fun x=>[AC.int .i64 x])) hb1
  rcases af hb1 with ⟨q_6,hb1⟩|⟨q_6,hb1⟩
  ·cases hb1
   have hx1:lK (.inr false)=some _:=hk1
   unfold lK at hx1
   dsimp only at hx1
   cases hx1
   exact aK
  cases hb1
  refine bz ?_
  exact ⟨_,rfl,fm_ bY [] rfl bA trivial⟩
 cases hb1
 have hx1:lK (.inl i_2)=some _:=hk1
 unfold lK at hx1
 dsimp only at hx1
 cases hx1
 exact aK
end Go.Proofs.YtlcceppoloaecaaGreatDoor
