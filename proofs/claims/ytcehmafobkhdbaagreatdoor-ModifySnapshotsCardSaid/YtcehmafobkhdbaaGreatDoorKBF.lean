/- Parts of the proof, joined. No condition. -/
import Derived.Test.YtcehmafobkhdbaaGreatDoorKAA
import Derived.Test.YtcehmafobkhdbaaGreatDoorKBE
import Derived.Test.YtcehmafobkhdbaaGreatDoorKAZ
import Derived.Test.YtcehmafobkhdbaaGreatDoorKAE
import Derived.Test.YtcehmafobkhdbaaGreatDoorKBA
import Derived.ProofKit
import Derived.OpenShut
import Derived.ChangeOld
import Derived.Deep.Slices
set_option linter.unusedSimpArgs false
set_option linter.unusedVariables false
namespace Go.Proofs.YtcehmafobkhdbaaGreatDoor
open Go.RowKit Go.MapKept
set_option maxRecDepth 100000
set_option maxHeartbeats 8000000
noncomputable section
def iP (a_p:aI):Option (Bool):=bif (decide ((0:Int)<=a_p.lo)) then bif (decide (a_p.lo<a_p.hi)) then some (decide (a_p.hi<=(1099511627776:Int))) else
 some false else
 some false
theorem fw {a_p:aI} {r:Bool} (H:iP a_p=some r):Pure Tryz.prog 42 [.agg (bE a_p)] (.val (.one (.bool r))):=by
 unfold iP at H
 refine po_ Tryz.func42 Tryz.ntmps42 ?_
 rcases af H with ⟨q_1,H⟩|⟨q_1,H⟩
 ·rcases af H with ⟨q_2,H⟩|⟨q_2,H⟩
  ·cases H
   exact aD
  cases H
  exact aD
 cases H
 exact aD
def zaaz (a_p:aI) (a_t:Int):Option (Bool):=(iP a_p).bind fun r_1=>bif r_1 then bif (decide (a_p.lo<=a_t)) then some (decide (a_t<a_p.hi)) else
 some false else
 some false
theorem zabf {a_p:aI} {a_t:Int} {r:Bool} (H:zaaz a_p a_t=some r):Pure Tryz.prog 21 [.agg (bE a_p), .one (.int .i64 a_t)] (.val (.one (.bool r))):=by
 unfold zaaz at H
 refine po_ Tryz.func21 Tryz.ntmps21 ?_
 obtain ⟨r_1,c1,H⟩:=bd_ H
 replace c1:=fw c1
 rcases af H with ⟨q_2,H⟩|⟨q_2,H⟩
 ·rcases af H with ⟨q_3,H⟩|⟨q_3,H⟩
  ·cases H
   exact aD
  cases H
  exact aD
 cases H
 exact aD
def bU (r_1:(List (List Val))):((List (List Val)) × Int)->Option (Step ((List (List Val)) × Int) ((List (List Val)))):=fun s=>match s with
 | (out_2,i_3)=>bif (decide (i_3<((r_1.length:Nat):Int))) then bif (decide (i_3=(0:Int))) then (aH r_1 i_3).bind fun x_6=>bif (decide (out_2.length+1<=5864062014805)) then (some (.next ((out_2++[x_6]),(IntKind.i64.wrap (i_3+(1:Int)))))) else none else
 (aH r_1 (IntKind.i64.wrap (i_3-(1:Int)))).bind fun x_7=>(aH r_1 i_3).bind fun x_8=>(mQ x_7 x_8).bind fun r_9=>bif (!r_9) then bif (decide (out_2.length+1<=5864062014805)) then (some (.next ((out_2++[x_8]),(IntKind.i64.wrap (i_3+(1:Int)))))) else none else
 some (.next (out_2,(IntKind.i64.wrap (i_3+(1:Int))))) else
 some (.exit (out_2,i_3))
def kV:Sum ((List (List Val)) × Int) ((List (List Val)))->Option (((List (List Val))))
 | .inl (out_2,i_3)=>some out_2
 | .inr q=>some q
def nL (a_l:(List (List Val))):Option ((List (List Val))):=(Br a_l).bind fun r_1=>(ax (bU r_1) fuel ([],(0:Int))).bind (kV)
theorem Lf {a_l:(List (List Val))} {r:(List (List Val))} (H:nL a_l=some r):Pure Tryz.prog 147 [.one (.lst (a_l.map (fun x=>[AC.lst (x.map cV)])))] (.val (.one (.lst (r.map (fun x=>[AC.lst (x.map cV)]))))):=by
 unfold nL at H
 refine po_ Tryz.func147 Tryz.ntmps147 ?_
 obtain ⟨r_1,c1,H⟩:=bd_ H
 replace c1:=FN c1
 refine bF ?_
 refine bX 4 1 rfl ?_
 refine alM_ (fun s:(List (List Val)) × Int=>match s with|(out_2,i_3)=>[(3, .one (.c (.lst (r_1.map (fun x=>[AC.lst (x.map cV)]))))),(4, .one (.own (out_2.map (fun x=>[AC.lst (x.map cV)])) 0)),(5, .one (.c (.int .i64 i_3)))]) (fun s=>match s with|(out_2,i_3)=>[.spare out_2.length 1]) H (fun _=>ahe _)
  (fm_ dh [] rfl bH dw) ?_
 rintro ⟨out_2,i_3⟩ st1 hb1 hk1
 unfold bU at hb1
 dsimp only at hb1 ⊢
 rcases af hb1 with ⟨q_4,hb1⟩|⟨q_4,hb1⟩
 ·rcases af hb1 with ⟨q_5,hb1⟩|⟨q_5,hb1⟩
  ·obtain ⟨x_6,i2z,i2,i2x,hb1⟩:=aY (f:=(fun x=>[AC.lst (x.map cV)])) hb1
   obtain ⟨g3,hb1⟩:=aG hb1
   cases hb1
   refine bF ?_
   exact ⟨_,rfl,fm_ lC [] lD bH dw⟩
  obtain ⟨x_7,i4z,i4,i4x,hb1⟩:=aY (f:=(fun x=>[AC.lst (x.map cV)])) hb1
  obtain ⟨x_8,i5z,i5,i5x,hb1⟩:=aY (f:=(fun x=>[AC.lst (x.map cV)])) hb1
  obtain ⟨r_9,c6,hb1⟩:=bd_ hb1
  replace c6:=K7 c6
  rcases af hb1 with ⟨q_10,hb1⟩|⟨q_10,hb1⟩
  ·obtain ⟨g7,hb1⟩:=aG hb1
   cases hb1
   refine bF ?_
   exact ⟨_,rfl,fm_ lC [] lD bH dw⟩
  cases hb1
  refine bF ?_
  exact ⟨_,rfl,fm_ lC [] lD bH dw⟩
 cases hb1
 have hx1:kV (.inl (out_2,i_3))=some _:=hk1
 unfold kV at hx1
 dsimp only at hx1
 cases hx1
 exact aD
def wG (a_l:(List aj)):((List (List Val)) × Int)->Option (Step ((List (List Val)) × Int) ((List (List Val)))):=fun s=>match s with
 | (out_1,i_2)=>bif (decide (i_2<((a_l.length:Nat):Int))) then (aH a_l i_2).bind fun x_4=>(iP x_4.valid).bind fun r_5=>bif r_5 then bif (decide (out_1.length+1<=5864062014805)) then (some (.next ((out_1++[x_4.row]),(IntKind.i64.wrap (i_2+(1:Int)))))) else none else
 some (.next (out_1,(IntKind.i64.wrap (i_2+(1:Int))))) else
 some (.exit (out_1,i_2))
def BV:Sum ((List (List Val)) × Int) ((List (List Val)))->Option (((List (List Val))))
 | .inl (out_1,i_2)=>(nL out_1).bind fun r_7=>some r_7
 | .inr q=>some q
def D_ (a_l:(List aj)):Option ((List (List Val))):=(ax (wG a_l) fuel ([],(0:Int))).bind (BV)
theorem Jp {a_l:(List aj)} {r:(List (List Val))} (H:D_ a_l=some r):Pure Tryz.prog 104 [.one (.lst (a_l.map aJ))] (.val (.one (.lst (r.map (fun x=>[AC.lst (x.map cV)]))))):=by
 unfold D_ at H
 refine po_ Tryz.func104 Tryz.ntmps104 ?_
 refine bF ?_
 refine bX 3 1 rfl ?_
 refine alM_ (fun s:(List (List Val)) × Int=>match s with|(out_1,i_2)=>[(0, .one (.c (.lst (a_l.map aJ)))),(3, .one (.own (out_1.map (fun x=>[AC.lst (x.map cV)])) 0)),(4, .one (.c (.int .i64 i_2)))]) (fun s=>match s with|(out_1,i_2)=>[.spare out_1.length 1]) H (fun _=>ahe _)
  (fm_ dh [] rfl bH dw) ?_
 rintro ⟨out_1,i_2⟩ st1 hb1 hk1
 unfold wG at hb1
 dsimp only at hb1 ⊢
 rcases af hb1 with ⟨q_3,hb1⟩|⟨q_3,hb1⟩
 ·obtain ⟨x_4,i1z,i1,i1x,hb1⟩:=aY (f:=aJ) hb1
  obtain ⟨r_5,c2,hb1⟩:=bd_ hb1
  replace c2:=fw c2
  rcases af hb1 with ⟨q_6,hb1⟩|⟨q_6,hb1⟩
  ·obtain ⟨g3,hb1⟩:=aG hb1
   cases hb1
   refine bF ?_
   exact ⟨_,rfl,fm_ lC [] lD bH dw⟩
  cases hb1
  refine bF ?_
  exact ⟨_,rfl,fm_ lC [] lD bH dw⟩
 cases hb1
 have hx1:BV (.inl (out_1,i_2))=some _:=hk1
 unfold BV at hx1
 dsimp only at hx1
 obtain ⟨r_7,c4,hx1⟩:=bd_ hx1
 replace c4:=Lf c4
 cases hx1
 exact aD
def pX (a_l:(List aj)) (a_row:(List Val)):((List FE) × Int)->Option (Step ((List FE) × Int) ((List Stp))):=fun s=>match s with
 | (c_1,i_2)=>bif (decide (i_2<((a_l.length:Nat):Int))) then (aH a_l i_2).bind fun x_4=>(vo x_4.row a_row).bind fun r_5=>bif (decide (r_5=(0:Int))) then bif (decide (c_1.length+1<=5864062014805)) then (some (.next ((c_1++[(⟨x_4.valid,(1:Int)⟩:FE)]),(IntKind.i64.wrap (i_2+(1:Int)))))) else none else
 some (.next (c_1,(IntKind.i64.wrap (i_2+(1:Int))))) else
 some (.exit (c_1,i_2))
def vZ:Sum ((List FE) × Int) ((List Stp))->Option (((List Stp)))
 | .inl (c_1,i_2)=>(aac c_1).bind fun r_7=>some r_7
 | .inr q=>some q
def ul (a_l:(List aj)) (a_row:(List Val)):Option ((List Stp)):=(ax (pX a_l a_row) fuel ([],(0:Int))).bind (vZ)
theorem En {a_l:(List aj)} {a_row:(List Val)} {r:(List Stp)} (H:ul a_l a_row=some r):Pure Tryz.prog 105 [.one (.lst (a_l.map aJ)), .one (.lst (a_row.map cV))] (.val (.one (.lst (r.map y8)))):=by
 unfold ul at H
 refine po_ Tryz.func105 Tryz.ntmps105 ?_
 refine bF ?_
 refine bX 5 3 rfl ?_
 refine alM_ (fun s:(List FE) × Int=>match s with|(c_1,i_2)=>[(0, .one (.c (.lst (a_l.map aJ)))),(1, .one (.c (.lst (a_row.map cV)))),(5, .one (.own (c_1.map LV) 0)),(6, .one (.c (.int .i64 i_2)))]) (fun s=>match s with|(c_1,i_2)=>[.spare c_1.length 3]) H (fun _=>ahe _)
  (fm_ dh [] rfl bH dw) ?_
 rintro ⟨c_1,i_2⟩ st1 hb1 hk1
 unfold pX at hb1
 dsimp only at hb1 ⊢
 rcases af hb1 with ⟨q_3,hb1⟩|⟨q_3,hb1⟩
 ·obtain ⟨x_4,i1z,i1,i1x,hb1⟩:=aY (f:=aJ) hb1
  obtain ⟨r_5,c2,hb1⟩:=bd_ hb1
  replace c2:=qG c2
  rcases af hb1 with ⟨q_6,hb1⟩|⟨q_6,hb1⟩
  ·obtain ⟨g3,hb1⟩:=aG hb1
   cases hb1
   refine bF ?_
   exact ⟨_,rfl,fm_ lC [] lD bH dw⟩
  cases hb1
  refine bF ?_
  exact ⟨_,rfl,fm_ lC [] lD bH dw⟩
 cases hb1
 have hx1:vZ (.inl (c_1,i_2))=some _:=hk1
 unfold vZ at hx1
 dsimp only at hx1
 obtain ⟨r_7,c4,hx1⟩:=bd_ hx1
 replace c4:=acx c4
 cases hx1
 exact aD
def wR (a_row:(List Val)) (a_p:(List aI)):((List aj) × Int)->Option (Step ((List aj) × Int) ((List aj))):=fun s=>match s with
 | (out_1,i_2)=>bif (decide (i_2<((a_p.length:Nat):Int))) then (aH a_p i_2).bind fun x_4=>bif (decide (out_1.length+1<=3518437208883)) then (some (.next ((out_1++[(⟨a_row,x_4⟩:aj)]),(IntKind.i64.wrap (i_2+(1:Int)))))) else none else
 some (.exit (out_1,i_2))
def BM:Sum ((List aj) × Int) ((List aj))->Option (((List aj)))
 | .inl (out_1,i_2)=>some out_1
 | .inr q=>some q
def wL (a_row:(List Val)) (a_p:(List aI)):Option ((List aj)):=(ax (wR a_row a_p) fuel ([],(0:Int))).bind (BM)
theorem BU {a_row:(List Val)} {a_p:(List aI)} {r:(List aj)} (H:wL a_row a_p=some r):Pure Tryz.prog 59 [.one (.lst (a_row.map cV)), .one (.lst (a_p.map bE))] (.val (.one (.lst (r.map aJ)))):=by
 unfold wL at H
 refine po_ Tryz.func59 Tryz.ntmps59 ?_
 refine bF ?_
 refine bX 5 3 rfl ?_
 refine alM_ (fun s:(List aj) × Int=>match s with|(out_1,i_2)=>[(0, .one (.c (.lst (a_row.map cV)))),(1, .one (.c (.lst (a_p.map bE)))),(5, .one (.own (out_1.map aJ) 0)),(6, .one (.c (.int .i64 i_2)))]) (fun s=>match s with|(out_1,i_2)=>[.spare out_1.length 3]) H (fun _=>ahe _)
  (fm_ dh [] rfl bH dw) ?_
 rintro ⟨out_1,i_2⟩ st1 hb1 hk1
 unfold wR at hb1
 dsimp only at hb1 ⊢
 rcases af hb1 with ⟨q_3,hb1⟩|⟨q_3,hb1⟩
 ·obtain ⟨x_4,i1z,i1,i1x,hb1⟩:=aY (f:=bE) hb1
  obtain ⟨g2,hb1⟩:=aG hb1
  cases hb1
  refine bF ?_
  exact ⟨_,rfl,fm_ lC [] lD bH dw⟩
 cases hb1
 have hx1:BM (.inl (out_1,i_2))=some _:=hk1
 unfold BM at hx1
 dsimp only at hx1
 cases hx1
 exact aD
def dI (a_a:(List aj)) (a_b:(List aj)):((List aj) × Int × Int)->Option (Step ((List aj) × Int × Int) ((List aj))):=fun s=>match s with
 | (out_1,i_2,k_3)=>bif (decide (i_2<((a_a.length:Nat):Int))) then bif (decide (i_2=((a_a.length:Nat):Int))) then (aH a_b k_3).bind fun x_6=>bif (decide (out_1.length+1<=3518437208883)) then (some (.next ((out_1++[x_6]),i_2,(IntKind.i64.wrap (k_3+(1:Int)))))) else none else
 bif (decide (k_3<((a_b.length:Nat):Int))) then (aH a_b k_3).bind fun x_8=>(aH a_a i_2).bind fun x_9=>(vo x_8.row x_9.row).bind fun r_10=>bif (decide (r_10<(0:Int))) then bif (decide (out_1.length+1<=3518437208883)) then (some (.next ((out_1++[x_8]),i_2,(IntKind.i64.wrap (k_3+(1:Int)))))) else none else
 bif (decide (out_1.length+1<=3518437208883)) then (some (.next ((out_1++[x_9]),(IntKind.i64.wrap (i_2+(1:Int))),k_3))) else none else
 (aH a_a i_2).bind fun x_12=>bif (decide (out_1.length+1<=3518437208883)) then (some (.next ((out_1++[x_12]),(IntKind.i64.wrap (i_2+(1:Int))),k_3))) else none else
 bif (decide (k_3<((a_b.length:Nat):Int))) then bif (decide (i_2=((a_a.length:Nat):Int))) then (aH a_b k_3).bind fun x_15=>bif (decide (out_1.length+1<=3518437208883)) then (some (.next ((out_1++[x_15]),i_2,(IntKind.i64.wrap (k_3+(1:Int)))))) else none else
 (aH a_b k_3).bind fun x_16=>(aH a_a i_2).bind fun x_17=>(vo x_16.row x_17.row).bind fun r_18=>bif (decide (r_18<(0:Int))) then bif (decide (out_1.length+1<=3518437208883)) then (some (.next ((out_1++[x_16]),i_2,(IntKind.i64.wrap (k_3+(1:Int)))))) else none else
 bif (decide (out_1.length+1<=3518437208883)) then (some (.next ((out_1++[x_17]),(IntKind.i64.wrap (i_2+(1:Int))),k_3))) else none else
 some (.exit (out_1,i_2,k_3))
def pY:Sum ((List aj) × Int × Int) ((List aj))->Option (((List aj)))
 | .inl (out_1,i_2,k_3)=>some out_1
 | .inr q=>some q
def vG (a_a:(List aj)) (a_b:(List aj)):Option ((List aj)):=(ax (dI a_a a_b) fuel ([],(0:Int),(0:Int))).bind (pY)
theorem PK {a_a:(List aj)} {a_b:(List aj)} {r:(List aj)} (H:vG a_a a_b=some r):Pure Tryz.prog 146 [.one (.lst (a_a.map aJ)), .one (.lst (a_b.map aJ))] (.val (.one (.lst (r.map aJ)))):=by
 unfold vG at H
 refine po_ Tryz.func146 Tryz.ntmps146 ?_
 refine bF ?_
 refine bX 5 3 rfl ?_
 refine alM_ (fun s:(List aj) × Int × Int=>match s with|(out_1,i_2,k_3)=>[(0, .one (.c (.lst (a_a.map aJ)))),(1, .one (.c (.lst (a_b.map aJ)))),(5, .one (.own (out_1.map aJ) 0)),(6, .one (.c (.int .i64 i_2))),(7, .one (.c (.int .i64 k_3)))]) (fun s=>match s with|(out_1,i_2,k_3)=>[.spare out_1.length 3]) H (fun _=>ahe _)
  (fm_ dh [] rfl bH dw) ?_
 rintro ⟨out_1,i_2,k_3⟩ st1 hb1 hk1
 unfold dI at hb1
 dsimp only at hb1 ⊢
 rcases af hb1 with ⟨q_4,hb1⟩|⟨q_4,hb1⟩
 ·rcases af hb1 with ⟨q_5,hb1⟩|⟨q_5,hb1⟩
  ·obtain ⟨x_6,i1z,i1,i1x,hb1⟩:=aY (f:=aJ) hb1
   obtain ⟨g2,hb1⟩:=aG hb1
   cases hb1
   refine bF ?_
   exact ⟨_,rfl,fm_ lC [] lD bH dw⟩
  rcases af hb1 with ⟨q_7,hb1⟩|⟨q_7,hb1⟩
  ·obtain ⟨x_8,i3z,i3,i3x,hb1⟩:=aY (f:=aJ) hb1
   obtain ⟨x_9,i4z,i4,i4x,hb1⟩:=aY (f:=aJ) hb1
   obtain ⟨r_10,c5,hb1⟩:=bd_ hb1
   replace c5:=qG c5
   rcases af hb1 with ⟨q_11,hb1⟩|⟨q_11,hb1⟩
   ·obtain ⟨g6,hb1⟩:=aG hb1
    cases hb1
    refine bF ?_
    exact ⟨_,rfl,fm_ lC [] lD bH dw⟩
   obtain ⟨g7,hb1⟩:=aG hb1
   cases hb1
   refine bF ?_
   exact ⟨_,rfl,fm_ lC [] lD bH dw⟩
  obtain ⟨x_12,i8z,i8,i8x,hb1⟩:=aY (f:=aJ) hb1
  obtain ⟨g9,hb1⟩:=aG hb1
  cases hb1
  refine bF ?_
  exact ⟨_,rfl,fm_ lC [] lD bH dw⟩
 rcases af hb1 with ⟨q_13,hb1⟩|⟨q_13,hb1⟩
 ·rcases af hb1 with ⟨q_14,hb1⟩|⟨q_14,hb1⟩
  ·obtain ⟨x_15,i10z,i10,i10x,hb1⟩:=aY (f:=aJ) hb1
   obtain ⟨g11,hb1⟩:=aG hb1
   cases hb1
   refine bF ?_
   exact ⟨_,rfl,fm_ lC [] lD bH dw⟩
  obtain ⟨x_16,i12z,i12,i12x,hb1⟩:=aY (f:=aJ) hb1
  obtain ⟨x_17,i13z,i13,i13x,hb1⟩:=aY (f:=aJ) hb1
  obtain ⟨r_18,c14,hb1⟩:=bd_ hb1
  replace c14:=qG c14
  rcases af hb1 with ⟨q_19,hb1⟩|⟨q_19,hb1⟩
  ·obtain ⟨g15,hb1⟩:=aG hb1
   cases hb1
   refine bF ?_
   exact ⟨_,rfl,fm_ lC [] lD bH dw⟩
  obtain ⟨g16,hb1⟩:=aG hb1
  cases hb1
  refine bF ?_
  exact ⟨_,rfl,fm_ lC [] lD bH dw⟩
 cases hb1
 have hx1:pY (.inl (out_1,i_2,k_3))=some _:=hk1
 unfold pY at hx1
 dsimp only at hx1
 cases hx1
 exact aD
def uP (rec:List aj->Option (List aj)) (a_l:(List aj)):Option ((List aj)):=bif (decide (((a_l.length:Nat):Int)<(2:Int))) then some a_l else
 bif (decide ((2:Int)≠0)) then ((lT a_l (0:Int) (IntKind.i64.wrap (((a_l.length:Nat):Int).tdiv (2:Int)))).bind fun s_2=>(rec s_2).bind fun r_3=>(lT a_l (IntKind.i64.wrap (((a_l.length:Nat):Int).tdiv (2:Int))) ((a_l.length:Nat):Int)).bind fun s_4=>(rec s_4).bind fun r_5=>(vG r_3 r_5).bind fun r_6=>some r_6) else none
theorem OW {rec:List aj->Option (List aj)}  (hrec : ∀ {x:List aj} {r:List aj}, rec x=some r->Pure Tryz.prog 103 [.one (.lst (x.map aJ))] (.val (.one (.lst (r.map aJ))))) {a_l:(List aj)} {r:(List aj)} (H:uP rec a_l=some r):Pure Tryz.prog 103 [.one (.lst (a_l.map aJ))] (.val (.one (.lst (r.map aJ)))):=by
 unfold uP at H
 refine po_ Tryz.func103 Tryz.ntmps103 ?_
 rcases af H with ⟨q_1,H⟩|⟨q_1,H⟩
 ·cases H
  exact aD
 obtain ⟨g1,H⟩:=aG H
 obtain ⟨s_2,u2,H⟩:=bd_ H
 obtain ⟨⟨u2a,u2b,u2c⟩,u2⟩:=ji u2
 have u2x:=L8 (f:=aJ) u2
 obtain ⟨r_3,c3,H⟩:=bd_ H
 replace c3:=hrec c3
 obtain ⟨s_4,u4,H⟩:=bd_ H
 obtain ⟨⟨u4a,u4b,u4c⟩,u4⟩:=ji u4
 have u4x:=L8 (f:=aJ) u4
 obtain ⟨r_5,c5,H⟩:=bd_ H
 replace c5:=hrec c5
 obtain ⟨r_6,c6,H⟩:=bd_ H
 replace c6:=PK c6
 cases H
 repeat' (first|refine gs_ ?_|rw [u2x]|rw [u4x]|rw [show ((0:Nat):Int)=0 from rfl])
 refine bO (bZ rfl ?_ ?_)
 ·repeat' (first|exact trivial|rfl|exact ag5 rfl|omega|apply And.intro)
 ·first|rfl|(simp only [ag8,ag6,ag_,ag0]<;>rfl)
def yM:Nat->List aj->Option (List aj)
 | 0,_=>none
 | n+1,a=>uP (yM n) a
theorem Gm : ∀ (n:Nat) {x:List aj} {r:List aj}, yM n x=some r->Pure Tryz.prog 103 [.one (.lst (x.map aJ))] (.val (.one (.lst (r.map aJ))))
 | 0,_,_,h=>nomatch h
 | n+1,_,_,h=>OW (Gm n) h
def kr (s_11:(List aj)) (r_12:(List (List Val))):((List cu) × Int)->Option (Step ((List cu) × Int) ((List cu))):=fun s=>match s with
 | (out_13,n_14)=>bif (decide (n_14<((r_12.length:Nat):Int))) then (aH r_12 n_14).bind fun x_16=>(ul s_11 x_16).bind fun r_17=>bif (decide (out_13.length+1<=2932031007402)) then (some (.next ((out_13++[(⟨x_16,r_17⟩:cu)]),(IntKind.i64.wrap (n_14+(1:Int)))))) else none else
 some (.exit (out_13,n_14))
def ky (k_5:Int):Sum ((List cu) × Int) ((List cu))->Option (Step ((List cu) × Int) ((List cu)))
 | .inl (out_13,n_14)=>some (.next (out_13,k_5))
 | .inr q=>some (.ret q)
def iT (r_1:(List aj)) (i_3:Int):(Int)->Option (Step (Int) ((List cu))):=fun s=>match s with
 | k_5=>bif (decide (k_5<((r_1.length:Nat):Int))) then (aH r_1 k_5).bind fun x_7=>(aH r_1 i_3).bind fun x_8=>(vo x_7.row x_8.row).bind fun r_9=>bif (decide (r_9=(0:Int))) then some (.next (IntKind.i64.wrap (k_5+(1:Int)))) else
 some (.exit k_5) else
 some (.exit k_5)
def mH (r_1:(List aj)) (out_2:(List cu)) (i_3:Int):Sum (Int) ((List cu))->Option (Step ((List cu) × Int) ((List cu)))
 | .inl k_5=>(lT r_1 i_3 k_5).bind fun s_11=>(D_ s_11).bind fun r_12=>(ax (kr s_11 r_12) fuel (out_2,(0:Int))).bind (ky k_5)
 | .inr q=>some (.ret q)
def gH (r_1:(List aj)):((List cu) × Int)->Option (Step ((List cu) × Int) ((List cu))):=fun s=>match s with
 | (out_2,i_3)=>bif (decide (i_3<((r_1.length:Nat):Int))) then (ax (iT r_1 i_3) fuel i_3).bind (mH r_1 out_2 i_3) else
 some (.exit (out_2,i_3))
def vO:Sum ((List cu) × Int) ((List cu))->Option (((List cu)))
 | .inl (out_2,i_3)=>some out_2
 | .inr q=>some q
def uX (a_l:(List aj)):Option ((List cu)):=(yM 640 a_l).bind fun r_1=>(ax (gH r_1) fuel ([],(0:Int))).bind (vO)
theorem OX {a_l:(List aj)} {r:(List cu)} (H:uX a_l=some r):Pure Tryz.prog 58 [.one (.lst (a_l.map aJ))] (.val (.one (.lst (r.map nZ)))):=by
 unfold uX at H
 refine po_ Tryz.func58 Tryz.ntmps58 ?_
 obtain ⟨r_1,c1,H⟩:=bd_ H
 replace c1:=Gm 640 c1
 refine bF ?_
 refine bX 4 2 rfl ?_
 refine alM_ (fun s:(List cu) × Int=>match s with|(out_2,i_3)=>[(3, .one (.c (.lst (r_1.map aJ)))),(4, .one (.own (out_2.map nZ) 0)),(5, .one (.c (.int .i64 i_3)))]) (fun s=>match s with|(out_2,i_3)=>[.spare out_2.length 2]) H (fun _=>ahe _)
  (fm_ dh [] rfl bH dw) ?_
 rintro ⟨out_2,i_3⟩ st5 hb5 hk5
 unfold gH at hb5
 dsimp only at hb5 ⊢
 rcases af hb5 with ⟨q_4,hb5⟩|⟨q_4,hb5⟩
 ·refine bF ?_
  refine alM_ (fun s:Int=>match s with|k_5=>[(3, .one (.c (.lst (r_1.map aJ)))),(4, .one (.own (out_2.map nZ) 0)),(5, .one (.c (.int .i64 i_3))),(6, .one (.c (.int .i64 k_5)))]) (fun s=>match s with|k_5=>[.spare out_2.length 2]) hb5 (fun _=>ahe _)
   (fm_ dh [] rfl bH dw) ?_
  rintro k_5 st6 hb6 hk6
  unfold iT at hb6
  dsimp only at hb6 ⊢
  rcases af hb6 with ⟨q_6,hb6⟩|⟨q_6,hb6⟩
  ·obtain ⟨x_7,i2z,i2,i2x,hb6⟩:=aY (f:=aJ) hb6
   obtain ⟨x_8,i3z,i3,i3x,hb6⟩:=aY (f:=aJ) hb6
   obtain ⟨r_9,c4,hb6⟩:=bd_ hb6
   replace c4:=qG c4
   rcases af hb6 with ⟨q_10,hb6⟩|⟨q_10,hb6⟩
   ·cases hb6
    refine bF ?_
    exact ⟨_,rfl,fm_ dh [] rfl bH dw⟩
   cases hb6
   have hx6:mH r_1 out_2 i_3 (.inl k_5)=some _:=hk6
   unfold mH at hx6
   dsimp only at hx6
   obtain ⟨s_11,u5,hx6⟩:=bd_ hx6
   obtain ⟨⟨u5a,u5b,u5c⟩,u5⟩:=ji u5
   have u5x:=L8 (f:=aJ) u5
   obtain ⟨r_12,c6,hx6⟩:=bd_ hx6
   replace c6:=Jp c6
   repeat' (first|refine gs_ ?_|rw [u5x]|rw [show ((0:Nat):Int)=0 from rfl])
   refine alM_ (fun s:(List cu) × Int=>match s with|(out_13,n_14)=>[(3, .one (.c (.lst (r_1.map aJ)))),(4, .one (.own (out_13.map nZ) 0)),(5, .one (.c (.int .i64 i_3))),(6, .one (.c (.int .i64 k_5))),(7, .one (.c (.lst (r_12.map (fun x=>[AC.lst (x.map cV)]))))),(8, .one (.c (.int .i64 n_14)))]) (fun s=>match s with|(out_13,n_14)=>[.spare out_13.length 2]) hx6 (fun _=>ahe _)
    (fm_ dh [] rfl bH dw) ?_
   rintro ⟨out_13,n_14⟩ st7 hb7 hk7
   unfold kr at hb7
   dsimp only at hb7 ⊢
   rcases af hb7 with ⟨q_15,hb7⟩|⟨q_15,hb7⟩
   ·obtain ⟨x_16,i7z,i7,i7x,hb7⟩:=aY (f:=(fun x=>[AC.lst (x.map cV)])) hb7
    obtain ⟨r_17,c8,hb7⟩:=bd_ hb7
    replace c8:=En c8
    obtain ⟨g9,hb7⟩:=aG hb7
    cases hb7
    repeat' (first|refine gs_ ?_|rw [u5x]|rw [show ((0:Nat):Int)=0 from rfl])
    exact ⟨_,rfl,fm_ lC [] lD bH dw⟩
   cases hb7
   have hx7:ky k_5 (.inl (out_13,n_14))=some _:=hk7
   unfold ky at hx7
   dsimp only at hx7
   cases hx7
   repeat' (first|refine gs_ ?_|rw [u5x]|rw [show ((0:Nat):Int)=0 from rfl])
   exact ⟨_,rfl,fm_ lC [] lD bH dw⟩
  cases hb6
  have hx6:mH r_1 out_2 i_3 (.inl k_5)=some _:=hk6
  unfold mH at hx6
  dsimp only at hx6
  obtain ⟨s_11,u10,hx6⟩:=bd_ hx6
  obtain ⟨⟨u10a,u10b,u10c⟩,u10⟩:=ji u10
  have u10x:=L8 (f:=aJ) u10
  obtain ⟨r_12,c11,hx6⟩:=bd_ hx6
  replace c11:=Jp c11
  repeat' (first|refine gs_ ?_|rw [u10x]|rw [show ((0:Nat):Int)=0 from rfl])
  refine alM_ (fun s:(List cu) × Int=>match s with|(out_13,n_14)=>[(3, .one (.c (.lst (r_1.map aJ)))),(4, .one (.own (out_13.map nZ) 0)),(5, .one (.c (.int .i64 i_3))),(6, .one (.c (.int .i64 k_5))),(7, .one (.c (.lst (r_12.map (fun x=>[AC.lst (x.map cV)]))))),(8, .one (.c (.int .i64 n_14)))]) (fun s=>match s with|(out_13,n_14)=>[.spare out_13.length 2]) hx6 (fun _=>ahe _)
   (fm_ dh [] rfl bH dw) ?_
  rintro ⟨out_13,n_14⟩ st7 hb7 hk7
  unfold kr at hb7
  dsimp only at hb7 ⊢
  rcases af hb7 with ⟨q_15,hb7⟩|⟨q_15,hb7⟩
  ·obtain ⟨x_16,i12z,i12,i12x,hb7⟩:=aY (f:=(fun x=>[AC.lst (x.map cV)])) hb7
   obtain ⟨r_17,c13,hb7⟩:=bd_ hb7
   replace c13:=En c13
   obtain ⟨g14,hb7⟩:=aG hb7
   cases hb7
   repeat' (first|refine gs_ ?_|rw [u10x]|rw [show ((0:Nat):Int)=0 from rfl])
   exact ⟨_,rfl,fm_ lC [] lD bH dw⟩
  cases hb7
  have hx7:ky k_5 (.inl (out_13,n_14))=some _:=hk7
  unfold ky at hx7
  dsimp only at hx7
  cases hx7
  repeat' (first|refine gs_ ?_|rw [u10x]|rw [show ((0:Nat):Int)=0 from rfl])
  exact ⟨_,rfl,fm_ lC [] lD bH dw⟩
 cases hb5
 have hx5:vO (.inl (out_2,i_3))=some _:=hk5
 unfold vO at hx5
 dsimp only at hx5
 cases hx5
 exact aD
def Dt (r_1:(List cu)):((List aj) × Int)->Option (Step ((List aj) × Int) ((List aj))):=fun s=>match s with
 | (out_2,i_3)=>bif (decide (i_3<((r_1.length:Nat):Int))) then (aH r_1 i_3).bind fun x_5=>(Rl x_5.steps).bind fun r_6=>(wL x_5.row r_6).bind fun r_7=>bif (decide (out_2.length+r_7.length<=3518437208883)) then (some (.next ((out_2++r_7),(IntKind.i64.wrap (i_3+(1:Int)))))) else none else
 some (.exit (out_2,i_3))
def IB:Sum ((List aj) × Int) ((List aj))->Option (((List aj)))
 | .inl (out_2,i_3)=>some out_2
 | .inr q=>some q
def kU (a_l:(List aj)):Option ((List aj)):=(uX a_l).bind fun r_1=>(ax (Dt r_1) fuel ([],(0:Int))).bind (IB)
theorem oW {a_l:(List aj)} {r:(List aj)} (H:kU a_l=some r):Pure Tryz.prog 25 [.one (.lst (a_l.map aJ))] (.val (.one (.lst (r.map aJ)))):=by
 unfold kU at H
 refine po_ Tryz.func25 Tryz.ntmps25 ?_
 obtain ⟨r_1,c1,H⟩:=bd_ H
 replace c1:=OX c1
 refine bF ?_
 refine bX 4 3 rfl ?_
 refine alM_ (fun s:(List aj) × Int=>match s with|(out_2,i_3)=>[(3, .one (.c (.lst (r_1.map nZ)))),(4, .one (.own (out_2.map aJ) 0)),(5, .one (.c (.int .i64 i_3)))]) (fun s=>match s with|(out_2,i_3)=>[.spare out_2.length 3]) H (fun _=>ahe _)
  (fm_ dh [] rfl bH dw) ?_
 rintro ⟨out_2,i_3⟩ st1 hb1 hk1
 unfold Dt at hb1
 dsimp only at hb1 ⊢
 rcases af hb1 with ⟨q_4,hb1⟩|⟨q_4,hb1⟩
 ·obtain ⟨x_5,i2z,i2,i2x,hb1⟩:=aY (f:=nZ) hb1
  obtain ⟨r_6,c3,hb1⟩:=bd_ hb1
  replace c3:=Z_ c3
  obtain ⟨r_7,c4,hb1⟩:=bd_ hb1
  replace c4:=BU c4
  obtain ⟨g5,hb1⟩:=aG hb1
  cases hb1
  refine bF ?_
  exact ⟨_,rfl,fm_ lC [] lD bH dw⟩
 cases hb1
 have hx1:IB (.inl (out_2,i_3))=some _:=hk1
 unfold IB at hx1
 dsimp only at hx1
 cases hx1
 exact aD
def l7 (a_a:(List aj)) (a_b:(List aj)):(Int)->Option (Step (Int) (Bool)):=fun s=>match s with
 | i_2=>bif (decide (i_2<((a_a.length:Nat):Int))) then (aH a_a i_2).bind fun x_4=>(aH a_b i_2).bind fun x_5=>bif (!(dL [.c (.int .i64 x_4.valid.lo), .c (.int .i64 x_4.valid.hi)] [.c (.int .i64 x_5.valid.lo), .c (.int .i64 x_5.valid.hi)])) then some (.ret false) else
 (vo x_4.row x_5.row).bind fun r_7=>bif (decide (r_7≠(0:Int))) then some (.ret false) else
 some (.next (IntKind.i64.wrap (i_2+(1:Int)))) else
 some (.exit i_2)
def nD:Sum (Int) (Bool)->Option ((Bool))
 | .inl i_2=>some true
 | .inr q=>some q
def kM (a_a:(List aj)) (a_b:(List aj)):Option (Bool):=bif (decide (((a_a.length:Nat):Int)≠((a_b.length:Nat):Int))) then some false else
 (ax (l7 a_a a_b) fuel (0:Int)).bind (nD)
theorem jm {a_a:(List aj)} {a_b:(List aj)} {r:Bool} (H:kM a_a a_b=some r):Pure Tryz.prog 11 [.one (.lst (a_a.map aJ)), .one (.lst (a_b.map aJ))] (.val (.one (.bool r))):=by
 unfold kM at H
 refine po_ Tryz.func11 Tryz.ntmps11 ?_
 rcases af H with ⟨q_1,H⟩|⟨q_1,H⟩
 ·cases H
  exact aD
 refine bF ?_
 refine alM_ (fun s:Int=>match s with|i_2=>[(0, .one (.c (.lst (a_a.map aJ)))),(1, .one (.c (.lst (a_b.map aJ)))),(5, .one (.c (.int .i64 i_2)))]) (fun s=>match s with|i_2=>[]) H (fun _=>ahe _)
  (fm_ dh [] rfl bH trivial) ?_
 rintro i_2 st1 hb1 hk1
 unfold l7 at hb1
 dsimp only at hb1 ⊢
 rcases af hb1 with ⟨q_3,hb1⟩|⟨q_3,hb1⟩
 ·obtain ⟨x_4,i1z,i1,i1x,hb1⟩:=aY (f:=aJ) hb1
  obtain ⟨x_5,i2z,i2,i2x,hb1⟩:=aY (f:=aJ) hb1
  rcases af hb1 with ⟨q_6,hb1⟩|⟨q_6,hb1⟩
  ·cases hb1
   have hx1:nD (.inr false)=some _:=hk1
   unfold nD at hx1
   dsimp only at hx1
   cases hx1
   exact aD
  obtain ⟨r_7,c3,hb1⟩:=bd_ hb1
  replace c3:=qG c3
  rcases af hb1 with ⟨q_8,hb1⟩|⟨q_8,hb1⟩
  ·cases hb1
   have hx1:nD (.inr false)=some _:=hk1
   unfold nD at hx1
   dsimp only at hx1
   cases hx1
   exact aD
  cases hb1
  refine bF ?_
  exact ⟨_,rfl,fm_ dh [] rfl bH trivial⟩
 cases hb1
 have hx1:nD (.inl i_2)=some _:=hk1
 unfold nD at hx1
 dsimp only at hx1
 cases hx1
 exact aD
def zabA (a_l:(List aj)) (a_t:Int):((List (List Val)) × Int)->Option (Step ((List (List Val)) × Int) ((List (List Val)))):=fun s=>match s with
 | (out_1,i_2)=>bif (decide (i_2<((a_l.length:Nat):Int))) then (aH a_l i_2).bind fun x_4=>(zaaz x_4.valid a_t).bind fun r_5=>bif r_5 then bif (decide (out_1.length+1<=5864062014805)) then (some (.next ((out_1++[x_4.row]),(IntKind.i64.wrap (i_2+(1:Int)))))) else none else
 some (.next (out_1,(IntKind.i64.wrap (i_2+(1:Int))))) else
 some (.exit (out_1,i_2))
def zabw:Sum ((List (List Val)) × Int) ((List (List Val)))->Option (((List (List Val))))
 | .inl (out_1,i_2)=>(Br out_1).bind fun r_7=>some r_7
 | .inr q=>some q
def zacj (a_l:(List aj)) (a_t:Int):Option ((List (List Val))):=(ax (zabA a_l a_t) fuel ([],(0:Int))).bind (zabw)
theorem zacR {a_l:(List aj)} {a_t:Int} {r:(List (List Val))} (H:zacj a_l a_t=some r):Pure Tryz.prog 20 [.one (.lst (a_l.map aJ)), .one (.int .i64 a_t)] (.val (.one (.lst (r.map (fun x=>[AC.lst (x.map cV)]))))):=by
 unfold zacj at H
 refine po_ Tryz.func20 Tryz.ntmps20 ?_
 refine bF ?_
 refine bX 5 1 rfl ?_
 refine alM_ (fun s:(List (List Val)) × Int=>match s with|(out_1,i_2)=>[(0, .one (.c (.lst (a_l.map aJ)))),(1, .one (.c (.int .i64 a_t))),(5, .one (.own (out_1.map (fun x=>[AC.lst (x.map cV)])) 0)),(6, .one (.c (.int .i64 i_2)))]) (fun s=>match s with|(out_1,i_2)=>[.spare out_1.length 1]) H (fun _=>ahe _)
  (fm_ dh [] rfl bH dw) ?_
 rintro ⟨out_1,i_2⟩ st1 hb1 hk1
 unfold zabA at hb1
 dsimp only at hb1 ⊢
 rcases af hb1 with ⟨q_3,hb1⟩|⟨q_3,hb1⟩
 ·obtain ⟨x_4,i1z,i1,i1x,hb1⟩:=aY (f:=aJ) hb1
  obtain ⟨r_5,c2,hb1⟩:=bd_ hb1
  replace c2:=zabf c2
  rcases af hb1 with ⟨q_6,hb1⟩|⟨q_6,hb1⟩
  ·obtain ⟨g3,hb1⟩:=aG hb1
   cases hb1
   refine bF ?_
   exact ⟨_,rfl,fm_ lC [] lD bH dw⟩
  cases hb1
  refine bF ?_
  exact ⟨_,rfl,fm_ lC [] lD bH dw⟩
 cases hb1
 have hx1:zabw (.inl (out_1,i_2))=some _:=hk1
 unfold zabw at hx1
 dsimp only at hx1
 obtain ⟨r_7,c4,hx1⟩:=bd_ hx1
 replace c4:=FN c4
 cases hx1
 exact aD
def zabS (a_l:(List aj)):Option (Bool):=(kU a_l).bind fun r_1=>(kM a_l r_1).bind fun r_2=>some r_2
theorem zadA {a_l:(List aj)} {r:Bool} (H:zabS a_l=some r):Pure Tryz.prog 56 [.one (.lst (a_l.map aJ))] (.val (.one (.bool r))):=by
 unfold zabS at H
 refine po_ Tryz.func56 Tryz.ntmps56 ?_
 obtain ⟨r_1,c1,H⟩:=bd_ H
 replace c1:=oW c1
 obtain ⟨r_2,c2,H⟩:=bd_ H
 replace c2:=jm c2
 cases H
 exact aD
end
set_option maxHeartbeats 8000000
def KW (a_s:ByteArray):Option (Val):=(wy (⟨(2:Int),(0:Int),a_s⟩:Val)).bind fun r_1=>some r_1
theorem Yo {a_s:ByteArray} {r:Val} (H:KW a_s=some r):Pure Tryz.prog 143 [.one (.str a_s)] (.val (.agg (cV r))):=by
 unfold KW at H
 refine po_ Tryz.func143 Tryz.ntmps143 ?_
 obtain ⟨r_1,c1,H⟩:=bd_ H
 replace c1:=Jy c1
 cases H
 exact aD
def wB (a_b:Bool):Option (Val):=bif a_b then some (⟨(3:Int),(1:Int),ByteArray.empty⟩:Val) else
 some (⟨(3:Int),(0:Int),ByteArray.empty⟩:Val)
theorem qj {a_b:Bool} {r:Val} (H:wB a_b=some r):Pure Tryz.prog 88 [.one (.bool a_b)] (.val (.agg (cV r))):=by
 unfold wB at H
 refine po_ Tryz.func88 Tryz.ntmps88 ?_
 rcases af H with ⟨q_1,H⟩|⟨q_1,H⟩
 ·cases H
  exact aD
 cases H
 exact aD
def Ak (a_a:Val) (a_b:Val) (a_is:Bool):Option (Int):=bif (decide (a_a.kind=(0:Int))) then some (1:Int) else
 bif (decide (a_a.kind≠a_b.kind)) then some (1:Int) else
 bif a_is then some (2:Int) else
 some (0:Int)
theorem Ki {a_a:Val} {a_b:Val} {a_is:Bool} {r:Int} (H:Ak a_a a_b a_is=some r):Pure Tryz.prog 170 [.agg (cV a_a), .agg (cV a_b), .one (.bool a_is)] (.val (.one (.int .i64 r))):=by
 unfold Ak at H
 refine po_ Tryz.func170 Tryz.ntmps170 ?_
 rcases af H with ⟨q_1,H⟩|⟨q_1,H⟩
 ·cases H
  exact aD
 rcases af H with ⟨q_2,H⟩|⟨q_2,H⟩
 ·cases H
  exact aD
 rcases af H with ⟨q_3,H⟩|⟨q_3,H⟩
 ·cases H
  exact aD
 cases H
 exact aD
def X9 (a_a:Val) (a_b:Val):Option (Int):=(AL a_a a_b).bind fun r_1=>(Ak a_a a_b (decide (r_1=(0:Int)))).bind fun r_2=>some r_2
theorem U2 {a_a:Val} {a_b:Val} {r:Int} (H:X9 a_a a_b=some r):Pure Tryz.prog 140 [.agg (cV a_a), .agg (cV a_b)] (.val (.one (.int .i64 r))):=by
 unfold X9 at H
 refine po_ Tryz.func140 Tryz.ntmps140 ?_
 obtain ⟨r_1,c1,H⟩:=bd_ H
 replace c1:=Dm c1
 obtain ⟨r_2,c2,H⟩:=bd_ H
 replace c2:=Ki c2
 cases H
 exact aD
def zq (a_a:Val) (a_b:Val):Option (Int):=(AL a_a a_b).bind fun r_1=>(Ak a_a a_b (decide (r_1<(0:Int)))).bind fun r_2=>some r_2
theorem Am {a_a:Val} {a_b:Val} {r:Int} (H:zq a_a a_b=some r):Pure Tryz.prog 141 [.agg (cV a_a), .agg (cV a_b)] (.val (.one (.int .i64 r))):=by
 unfold zq at H
 refine po_ Tryz.func141 Tryz.ntmps141 ?_
 obtain ⟨r_1,c1,H⟩:=bd_ H
 replace c1:=Dm c1
 obtain ⟨r_2,c2,H⟩:=bd_ H
 replace c2:=Ki c2
 cases H
 exact aD
def Ku (a_a:Int):Option (Int):=bif (decide (a_a=(2:Int))) then some (0:Int) else
 bif (decide (a_a=(0:Int))) then some (2:Int) else
 some (1:Int)
theorem Ep {a_a:Int} {r:Int} (H:Ku a_a=some r):Pure Tryz.prog 93 [.one (.int .i64 a_a)] (.val (.one (.int .i64 r))):=by
 unfold Ku at H
 refine po_ Tryz.func93 Tryz.ntmps93 ?_
 rcases af H with ⟨q_1,H⟩|⟨q_1,H⟩
 ·cases H
  exact aD
 rcases af H with ⟨q_2,H⟩|⟨q_2,H⟩
 ·cases H
  exact aD
 cases H
 exact aD
def IV (a_a:Int) (a_b:Int):Option (Int):=bif (decide (a_a=(0:Int))) then some (0:Int) else
 bif (decide (a_b=(0:Int))) then some (0:Int) else
 bif (decide (a_a=(2:Int))) then bif (decide (a_b=(2:Int))) then some (2:Int) else
 some (1:Int) else
 some (1:Int)
theorem aaH {a_a:Int} {a_b:Int} {r:Int} (H:IV a_a a_b=some r):Pure Tryz.prog 138 [.one (.int .i64 a_a), .one (.int .i64 a_b)] (.val (.one (.int .i64 r))):=by
 unfold IV at H
 refine po_ Tryz.func138 Tryz.ntmps138 ?_
 rcases af H with ⟨q_1,H⟩|⟨q_1,H⟩
 ·cases H
  exact aD
 rcases af H with ⟨q_2,H⟩|⟨q_2,H⟩
 ·cases H
  exact aD
 rcases af H with ⟨q_3,H⟩|⟨q_3,H⟩
 ·rcases af H with ⟨q_4,H⟩|⟨q_4,H⟩
  ·cases H
   exact aD
  cases H
  exact aD
 cases H
 exact aD
def TU (a_a:Int) (a_b:Int):Option (Int):=bif (decide (a_a=(2:Int))) then some (2:Int) else
 bif (decide (a_b=(2:Int))) then some (2:Int) else
 bif (decide (a_a=(0:Int))) then bif (decide (a_b=(0:Int))) then some (0:Int) else
 some (1:Int) else
 some (1:Int)
theorem abL {a_a:Int} {a_b:Int} {r:Int} (H:TU a_a a_b=some r):Pure Tryz.prog 139 [.one (.int .i64 a_a), .one (.int .i64 a_b)] (.val (.one (.int .i64 r))):=by
 unfold TU at H
 refine po_ Tryz.func139 Tryz.ntmps139 ?_
 rcases af H with ⟨q_1,H⟩|⟨q_1,H⟩
 ·cases H
  exact aD
 rcases af H with ⟨q_2,H⟩|⟨q_2,H⟩
 ·cases H
  exact aD
 rcases af H with ⟨q_3,H⟩|⟨q_3,H⟩
 ·rcases af H with ⟨q_4,H⟩|⟨q_4,H⟩
  ·cases H
   exact aD
  cases H
  exact aD
 cases H
 exact aD
def jy (a_v:Val):Option (Int):=(wB true).bind fun r_1=>bif (dL [.c (.int .i64 a_v.kind), .c (.int .i64 a_v.int), .c (.str a_v.text)] [.c (.int .i64 r_1.kind), .c (.int .i64 r_1.int), .c (.str r_1.text)]) then some (2:Int) else
 (wB false).bind fun r_3=>bif (dL [.c (.int .i64 a_v.kind), .c (.int .i64 a_v.int), .c (.str a_v.text)] [.c (.int .i64 r_3.kind), .c (.int .i64 r_3.int), .c (.str r_3.text)]) then some (0:Int) else
 some (1:Int)
theorem nO {a_v:Val} {r:Int} (H:jy a_v=some r):Pure Tryz.prog 54 [.agg (cV a_v)] (.val (.one (.int .i64 r))):=by
 unfold jy at H
 refine po_ Tryz.func54 Tryz.ntmps54 ?_
 obtain ⟨r_1,c1,H⟩:=bd_ H
 replace c1:=qj c1
 rcases af H with ⟨q_2,H⟩|⟨q_2,H⟩
 ·cases H
  exact aD
 obtain ⟨r_3,c2,H⟩:=bd_ H
 replace c2:=qj c2
 rcases af H with ⟨q_4,H⟩|⟨q_4,H⟩
 ·cases H
  exact aD
 cases H
 exact aD
def GD (a_t:Int):Option (Val):=bif (decide (a_t=(2:Int))) then (wB (decide (a_t=(2:Int)))).bind fun r_2=>some r_2 else
 bif (decide (a_t=(0:Int))) then (wB (decide (a_t=(2:Int)))).bind fun r_4=>some r_4 else
 (fQ ).bind fun r_5=>some r_5
theorem sK {a_t:Int} {r:Val} (H:GD a_t=some r):Pure Tryz.prog 92 [.one (.int .i64 a_t)] (.val (.agg (cV r))):=by
 unfold GD at H
 refine po_ Tryz.func92 Tryz.ntmps92 ?_
 rcases af H with ⟨q_1,H⟩|⟨q_1,H⟩
 ·obtain ⟨r_2,c1,H⟩:=bd_ H
  replace c1:=qj c1
  cases H
  exact aD
 rcases af H with ⟨q_3,H⟩|⟨q_3,H⟩
 ·obtain ⟨r_4,c2,H⟩:=bd_ H
  replace c2:=qj c2
  cases H
  exact aD
 obtain ⟨r_5,c3,H⟩:=bd_ H
 replace c3:=dm c3
 cases H
 exact aD
set_option maxHeartbeats 8000000
def yK (a_op:Int):Option (Int × Int):=bif (decide (a_op=(1:Int))) then some ((0:Int),(0:Int)) else
 bif (decide (a_op=(2:Int))) then some ((0:Int),(0:Int)) else
 bif (decide (a_op=(4:Int))) then some ((1:Int),(1:Int)) else
 bif (decide (a_op=(18:Int))) then some ((1:Int),(1:Int)) else
 bif (decide (a_op=(20:Int))) then some ((1:Int),(1:Int)) else
 bif (decide (a_op=(21:Int))) then some ((1:Int),(1:Int)) else
 bif (decide (a_op=(5:Int))) then some ((2:Int),(1099511627776:Int)) else
 bif (decide (a_op=(6:Int))) then some ((2:Int),(1099511627776:Int)) else
 bif (decide (a_op=(7:Int))) then some ((2:Int),(2:Int)) else
 bif (decide (a_op=(8:Int))) then some ((2:Int),(2:Int)) else
 bif (decide (a_op=(9:Int))) then some ((2:Int),(2:Int)) else
 bif (decide (a_op=(10:Int))) then some ((2:Int),(2:Int)) else
 bif (decide (a_op=(11:Int))) then some ((2:Int),(2:Int)) else
 bif (decide (a_op=(12:Int))) then some ((2:Int),(2:Int)) else
 bif (decide (a_op=(13:Int))) then some ((2:Int),(2:Int)) else
 bif (decide (a_op=(14:Int))) then some ((2:Int),(2:Int)) else
 bif (decide (a_op=(15:Int))) then some ((2:Int),(2:Int)) else
 bif (decide (a_op=(16:Int))) then some ((2:Int),(2:Int)) else
 bif (decide (a_op=(17:Int))) then some ((2:Int),(2:Int)) else
 bif (decide (a_op=(19:Int))) then some ((2:Int),(2:Int)) else
 bif (decide (a_op=(22:Int))) then some ((3:Int),(3:Int)) else
 bif (decide (a_op=(23:Int))) then some ((1:Int),(1099511627776:Int)) else
 bif (decide (a_op=(24:Int))) then some ((4:Int),(4:Int)) else
 some ((-1:Int),(0:Int))
theorem Nz {a_op:Int} {r:Int × Int} (H:yK a_op=some r):Pure Tryz.prog 110 [.one (.int .i64 a_op)] (.tup [.one (.int .i64 r.1), .one (.int .i64 r.2)]):=by
 unfold yK at H
 refine po_ Tryz.func110 Tryz.ntmps110 ?_
 rcases af H with ⟨q_1,H⟩|⟨q_1,H⟩
 ·cases H
  exact aD
 rcases af H with ⟨q_2,H⟩|⟨q_2,H⟩
 ·cases H
  exact aD
 refine bF ?_
 rcases af H with ⟨q_3,H⟩|⟨q_3,H⟩
 ·cases H
  exact aD
 rcases af H with ⟨q_4,H⟩|⟨q_4,H⟩
 ·cases H
  exact aD
 rcases af H with ⟨q_5,H⟩|⟨q_5,H⟩
 ·cases H
  exact aD
 refine bF ?_
 rcases af H with ⟨q_6,H⟩|⟨q_6,H⟩
 ·cases H
  exact aD
 rcases af H with ⟨q_7,H⟩|⟨q_7,H⟩
 ·cases H
  exact aD
 rcases af H with ⟨q_8,H⟩|⟨q_8,H⟩
 ·cases H
  exact aD
 refine bF ?_
 rcases af H with ⟨q_9,H⟩|⟨q_9,H⟩
 ·cases H
  exact aD
 rcases af H with ⟨q_10,H⟩|⟨q_10,H⟩
 ·cases H
  exact aD
 rcases af H with ⟨q_11,H⟩|⟨q_11,H⟩
 ·cases H
  exact aD
 refine bF ?_
 rcases af H with ⟨q_12,H⟩|⟨q_12,H⟩
 ·cases H
  exact aD
 rcases af H with ⟨q_13,H⟩|⟨q_13,H⟩
 ·cases H
  exact aD
 rcases af H with ⟨q_14,H⟩|⟨q_14,H⟩
 ·cases H
  exact aD
 refine bF ?_
 rcases af H with ⟨q_15,H⟩|⟨q_15,H⟩
 ·cases H
  exact aD
 rcases af H with ⟨q_16,H⟩|⟨q_16,H⟩
 ·cases H
  exact aD
 rcases af H with ⟨q_17,H⟩|⟨q_17,H⟩
 ·cases H
  exact aD
 refine bF ?_
 rcases af H with ⟨q_18,H⟩|⟨q_18,H⟩
 ·cases H
  exact aD
 rcases af H with ⟨q_19,H⟩|⟨q_19,H⟩
 ·cases H
  exact aD
 rcases af H with ⟨q_20,H⟩|⟨q_20,H⟩
 ·cases H
  exact aD
 refine bF ?_
 rcases af H with ⟨q_21,H⟩|⟨q_21,H⟩
 ·cases H
  exact aD
 rcases af H with ⟨q_22,H⟩|⟨q_22,H⟩
 ·cases H
  exact aD
 rcases af H with ⟨q_23,H⟩|⟨q_23,H⟩
 ·cases H
  exact aD
 cases H
 exact aD
def mG (a_e:Ex):Option (Bool):=(yK a_e.op).bind fun r_1=>bif (decide (r_1.1<(0:Int))) then some false else
 bif (decide (((a_e.args.length:Nat):Int)<r_1.1)) then some false else
 bif (decide (r_1.2<((a_e.args.length:Nat):Int))) then some false else
 bif (!(a_e.nm.toList==(⟨#[]⟩:ByteArray).toList)) then some false else
 bif (decide (a_e.op=(1:Int))) then bif (decide (a_e.int=(0:Int))) then (eP a_e.v).bind fun r_8=>some r_8 else
 some false else
 bif (decide (a_e.op=(2:Int))) then (fQ ).bind fun r_10=>some (dL [.c (.int .i64 a_e.v.kind), .c (.int .i64 a_e.v.int), .c (.str a_e.v.text)] [.c (.int .i64 r_10.kind), .c (.int .i64 r_10.int), .c (.str r_10.text)]) else
 bif (decide (a_e.op=(24:Int))) then (fQ ).bind fun r_12=>bif (dL [.c (.int .i64 a_e.v.kind), .c (.int .i64 a_e.v.int), .c (.str a_e.v.text)] [.c (.int .i64 r_12.kind), .c (.int .i64 r_12.int), .c (.str r_12.text)]) then bif (decide ((0:Int)<=a_e.int)) then some (decide (a_e.int<(13:Int))) else
 some false else
 some false else
 bif (decide (a_e.int=(0:Int))) then (fQ ).bind fun r_16=>some (dL [.c (.int .i64 a_e.v.kind), .c (.int .i64 a_e.v.int), .c (.str a_e.v.text)] [.c (.int .i64 r_16.kind), .c (.int .i64 r_16.int), .c (.str r_16.text)]) else
 some false
theorem Gp {a_e:Ex} {r:Bool} (H:mG a_e=some r):Pure Tryz.prog 89 [.agg (tE a_e)] (.val (.one (.bool r))):=by
 unfold mG at H
 rw [aC a_e]
 refine po_ Tryz.func89 Tryz.ntmps89 ?_
 obtain ⟨r_1,c1,H⟩:=bd_ H
 replace c1:=Nz c1
 rcases af H with ⟨q_2,H⟩|⟨q_2,H⟩
 ·cases H
  exact aD
 rcases af H with ⟨q_3,H⟩|⟨q_3,H⟩
 ·cases H
  exact aD
 refine bF ?_
 rcases af H with ⟨q_4,H⟩|⟨q_4,H⟩
 ·cases H
  exact aD
 rcases af H with ⟨q_5,H⟩|⟨q_5,H⟩
 ·cases H
  exact aD
 rcases af H with ⟨q_6,H⟩|⟨q_6,H⟩
 ·refine bF ?_
  rcases af H with ⟨q_7,H⟩|⟨q_7,H⟩
  ·obtain ⟨r_8,c2,H⟩:=bd_ H
   replace c2:=qF c2
   cases H
   exact aD
  cases H
  exact aD
 refine bF ?_
 rcases af H with ⟨q_9,H⟩|⟨q_9,H⟩
 ·obtain ⟨r_10,c3,H⟩:=bd_ H
  replace c3:=dm c3
  cases H
  exact aD
 rcases af H with ⟨q_11,H⟩|⟨q_11,H⟩
 ·obtain ⟨r_12,c4,H⟩:=bd_ H
  replace c4:=dm c4
  rcases af H with ⟨q_13,H⟩|⟨q_13,H⟩
  ·refine bF ?_
   rcases af H with ⟨q_14,H⟩|⟨q_14,H⟩
   ·cases H
    exact aD
   cases H
   exact aD
  cases H
  exact aD
 rcases af H with ⟨q_15,H⟩|⟨q_15,H⟩
 ·obtain ⟨r_16,c5,H⟩:=bd_ H
  replace c5:=dm c5
  cases H
  exact aD
 cases H
 exact aD
set_option maxHeartbeats 8000000
def jl (a_op:Int) (a_a:Val) (a_b:Val):Option (Int):=bif (decide (a_op=(7:Int))) then (X9 a_a a_b).bind fun r_2=>some r_2 else
 bif (decide (a_op=(8:Int))) then (X9 a_a a_b).bind fun r_4=>(Ku r_4).bind fun r_5=>some r_5 else
 bif (decide (a_op=(9:Int))) then (zq a_a a_b).bind fun r_7=>some r_7 else
 bif (decide (a_op=(11:Int))) then (zq a_b a_a).bind fun r_9=>some r_9 else
 bif (decide (a_op=(10:Int))) then (zq a_b a_a).bind fun r_11=>(Ku r_11).bind fun r_12=>some r_12 else
 (zq a_a a_b).bind fun r_13=>(Ku r_13).bind fun r_14=>some r_14
theorem kE {a_op:Int} {a_a:Val} {a_b:Val} {r:Int} (H:jl a_op a_a a_b=some r):Pure Tryz.prog 95 [.one (.int .i64 a_op), .agg (cV a_a), .agg (cV a_b)] (.val (.one (.int .i64 r))):=by
 unfold jl at H
 refine po_ Tryz.func95 Tryz.ntmps95 ?_
 rcases af H with ⟨q_1,H⟩|⟨q_1,H⟩
 ·obtain ⟨r_2,c1,H⟩:=bd_ H
  replace c1:=U2 c1
  cases H
  exact aD
 rcases af H with ⟨q_3,H⟩|⟨q_3,H⟩
 ·obtain ⟨r_4,c2,H⟩:=bd_ H
  replace c2:=U2 c2
  obtain ⟨r_5,c3,H⟩:=bd_ H
  replace c3:=Ep c3
  cases H
  exact aD
 refine bF ?_
 rcases af H with ⟨q_6,H⟩|⟨q_6,H⟩
 ·obtain ⟨r_7,c4,H⟩:=bd_ H
  replace c4:=Am c4
  cases H
  exact aD
 rcases af H with ⟨q_8,H⟩|⟨q_8,H⟩
 ·obtain ⟨r_9,c5,H⟩:=bd_ H
  replace c5:=Am c5
  cases H
  exact aD
 rcases af H with ⟨q_10,H⟩|⟨q_10,H⟩
 ·obtain ⟨r_11,c6,H⟩:=bd_ H
  replace c6:=Am c6
  obtain ⟨r_12,c7,H⟩:=bd_ H
  replace c7:=Ep c7
  cases H
  exact aD
 obtain ⟨r_13,c8,H⟩:=bd_ H
 replace c8:=Am c8
 obtain ⟨r_14,c9,H⟩:=bd_ H
 replace c9:=Ep c9
 cases H
 exact aD
def Ya (a_n:Int):Option (Int):=some (CY a_n (IntKind.i64.wrap (0-a_n)))
theorem Wm {a_n:Int} {r:Int} (H:Ya a_n=some r):Pure Tryz.prog 145 [.one (.int .i64 a_n)] (.val (.one (.int .i64 r))):=by
 unfold Ya at H
 refine po_ Tryz.func145 Tryz.ntmps145 ?_
 cases H
 exact aD
def eD (a_op:Int) (a_a:Int) (a_b:Int):Option (Val):=bif (decide (a_op=(13:Int))) then (sF (IntKind.i64.wrap (a_a+a_b))).bind fun r_2=>some r_2 else
 bif (decide (a_op=(14:Int))) then (sF (IntKind.i64.wrap (a_a-a_b))).bind fun r_4=>some r_4 else
 bif (decide (a_op=(15:Int))) then bif (decide (a_a≠(0:Int))) then (Ya a_b).bind fun r_7=>(Ya a_a).bind fun r_8=>bif (decide (r_8≠0)) then (bif (decide ((IntKind.i64.wrap ((1125899906842624:Int).tdiv r_8))<r_7)) then (fQ ).bind fun r_10=>some r_10 else
 (sF (IntKind.i64.wrap (a_a*a_b))).bind fun r_11=>some r_11) else none else
 (sF (IntKind.i64.wrap (a_a*a_b))).bind fun r_12=>some r_12 else
 bif (decide (a_b=(0:Int))) then (fQ ).bind fun r_14=>some r_14 else
 bif (decide (a_op=(16:Int))) then bif (decide (a_b≠0)) then ((sF (IntKind.i64.wrap (a_a.tdiv a_b))).bind fun r_16=>some r_16) else none else
 bif (decide (a_b≠0)) then ((sF (a_a.tmod a_b)).bind fun r_17=>some r_17) else none
theorem PG {a_op:Int} {a_a:Int} {a_b:Int} {r:Val} (H:eD a_op a_a a_b=some r):Pure Tryz.prog 101 [.one (.int .i64 a_op), .one (.int .i64 a_a), .one (.int .i64 a_b)] (.val (.agg (cV r))):=by
 unfold eD at H
 refine po_ Tryz.func101 Tryz.ntmps101 ?_
 rcases af H with ⟨q_1,H⟩|⟨q_1,H⟩
 ·obtain ⟨r_2,c1,H⟩:=bd_ H
  replace c1:=oq c1
  cases H
  exact aD
 rcases af H with ⟨q_3,H⟩|⟨q_3,H⟩
 ·obtain ⟨r_4,c2,H⟩:=bd_ H
  replace c2:=oq c2
  cases H
  exact aD
 refine bF ?_
 rcases af H with ⟨q_5,H⟩|⟨q_5,H⟩
 ·rcases af H with ⟨q_6,H⟩|⟨q_6,H⟩
  ·obtain ⟨r_7,c3,H⟩:=bd_ H
   replace c3:=Wm c3
   obtain ⟨r_8,c4,H⟩:=bd_ H
   replace c4:=Wm c4
   obtain ⟨g5,H⟩:=aG H
   rcases af H with ⟨q_9,H⟩|⟨q_9,H⟩
   ·obtain ⟨r_10,c6,H⟩:=bd_ H
    replace c6:=dm c6
    cases H
    exact aD
   obtain ⟨r_11,c7,H⟩:=bd_ H
   replace c7:=oq c7
   cases H
   exact aD
  obtain ⟨r_12,c8,H⟩:=bd_ H
  replace c8:=oq c8
  cases H
  exact aD
 rcases af H with ⟨q_13,H⟩|⟨q_13,H⟩
 ·obtain ⟨r_14,c9,H⟩:=bd_ H
  replace c9:=dm c9
  cases H
  exact aD
 rcases af H with ⟨q_15,H⟩|⟨q_15,H⟩
 ·obtain ⟨g10,H⟩:=aG H
  obtain ⟨r_16,c11,H⟩:=bd_ H
  replace c11:=oq c11
  cases H
  exact aD
 obtain ⟨g12,H⟩:=aG H
 obtain ⟨r_17,c13,H⟩:=bd_ H
 replace c13:=oq c13
 cases H
 exact aD
def Hy (a_l:(List Val)) (a_kind:Int):(Int)->Option (Step (Int) (Bool)):=fun s=>match s with
 | i_1=>bif (decide (i_1<((a_l.length:Nat):Int))) then (aH a_l i_1).bind fun x_3=>bif (decide (x_3.kind≠a_kind)) then some (.ret false) else
 some (.next (IntKind.i64.wrap (i_1+(1:Int)))) else
 some (.exit i_1)
def Dg:Sum (Int) (Bool)->Option ((Bool))
 | .inl i_1=>some true
 | .inr q=>some q
def RF (a_l:(List Val)) (a_kind:Int):Option (Bool):=(ax (Hy a_l a_kind) fuel (0:Int)).bind (Dg)
theorem Hl {a_l:(List Val)} {a_kind:Int} {r:Bool} (H:RF a_l a_kind=some r):Pure Tryz.prog 96 [.one (.lst (a_l.map cV)), .one (.int .i64 a_kind)] (.val (.one (.bool r))):=by
 unfold RF at H
 refine po_ Tryz.func96 Tryz.ntmps96 ?_
 refine bF ?_
 refine alM_ (fun s:Int=>match s with|i_1=>[(0, .one (.c (.lst (a_l.map cV)))),(1, .one (.c (.int .i64 a_kind))),(5, .one (.c (.int .i64 i_1)))]) (fun s=>match s with|i_1=>[]) H (fun _=>ahe _)
  (fm_ dh [] rfl bH trivial) ?_
 rintro i_1 st1 hb1 hk1
 unfold Hy at hb1
 dsimp only at hb1 ⊢
 rcases af hb1 with ⟨q_2,hb1⟩|⟨q_2,hb1⟩
 ·obtain ⟨x_3,i1z,i1,i1x,hb1⟩:=aY (f:=cV) hb1
  rcases af hb1 with ⟨q_4,hb1⟩|⟨q_4,hb1⟩
  ·cases hb1
   have hx1:Dg (.inr false)=some _:=hk1
   unfold Dg at hx1
   dsimp only at hx1
   cases hx1
   exact aD
  cases hb1
  refine bF ?_
  exact ⟨_,rfl,fm_ dh [] rfl bH trivial⟩
 cases hb1
 have hx1:Dg (.inl i_1)=some _:=hk1
 unfold Dg at hx1
 dsimp only at hx1
 cases hx1
 exact aD
def qC (a_op:Int) (a_l:(List Val)):(Int × Int)->Option (Step (Int × Int) (Val)):=fun s=>match s with
 | (t_3,i_4)=>bif (decide (i_4<((a_l.length:Nat):Int))) then bif (decide (a_op=(5:Int))) then (aH a_l i_4).bind fun x_7=>(jy x_7).bind fun r_8=>(IV t_3 r_8).bind fun r_9=>some (.next (r_9,(IntKind.i64.wrap (i_4+(1:Int))))) else
 (aH a_l i_4).bind fun x_10=>(jy x_10).bind fun r_11=>(TU t_3 r_11).bind fun r_12=>some (.next (r_12,(IntKind.i64.wrap (i_4+(1:Int))))) else
 some (.exit (t_3,i_4))
def Cg:Sum (Int × Int) (Val)->Option ((Val))
 | .inl (t_3,i_4)=>(GD t_3).bind fun r_13=>some r_13
 | .inr q=>some q
def Ah (a_op:Int) (a_l:(List Val)):Option (Val):=(aH a_l (0:Int)).bind fun x_1=>(jy x_1).bind fun r_2=>(ax (qC a_op a_l) fuel (r_2,(1:Int))).bind (Cg)
theorem H8 {a_op:Int} {a_l:(List Val)} {r:Val} (H:Ah a_op a_l=some r):Pure Tryz.prog 94 [.one (.int .i64 a_op), .one (.lst (a_l.map cV))] (.val (.agg (cV r))):=by
 unfold Ah at H
 refine po_ Tryz.func94 Tryz.ntmps94 ?_
 obtain ⟨x_1,i1z,i1,i1x,H⟩:=aY (f:=cV) H
 obtain ⟨r_2,c2,H⟩:=bd_ H
 replace c2:=nO c2
 refine bF ?_
 refine alM_ (fun s:Int × Int=>match s with|(t_3,i_4)=>[(0, .one (.c (.int .i64 a_op))),(1, .one (.c (.lst (a_l.map cV)))),(4, .one (.ptr 0 0)),(5, .one (.c (.int .i64 t_3))),(6, .one (.c (.int .i64 i_4)))]) (fun s=>match s with|(t_3,i_4)=>[.box [.c (.int .i64 (0:Int)), .c (.int .i64 (0:Int)), .c (.str ByteArray.empty)]]) H (fun _=>ahe _)
  (fm_ dh [] rfl bH dw) ?_
 rintro ⟨t_3,i_4⟩ st1 hb1 hk1
 unfold qC at hb1
 dsimp only at hb1 ⊢
 rcases af hb1 with ⟨q_5,hb1⟩|⟨q_5,hb1⟩
 ·rcases af hb1 with ⟨q_6,hb1⟩|⟨q_6,hb1⟩
  ·obtain ⟨x_7,i3z,i3,i3x,hb1⟩:=aY (f:=cV) hb1
   obtain ⟨r_8,c4,hb1⟩:=bd_ hb1
   replace c4:=nO c4
   obtain ⟨r_9,c5,hb1⟩:=bd_ hb1
   replace c5:=aaH c5
   cases hb1
   refine bF ?_
   exact ⟨_,rfl,fm_ dh [] rfl bH dw⟩
  obtain ⟨x_10,i6z,i6,i6x,hb1⟩:=aY (f:=cV) hb1
  obtain ⟨r_11,c7,hb1⟩:=bd_ hb1
  replace c7:=nO c7
  obtain ⟨r_12,c8,hb1⟩:=bd_ hb1
  replace c8:=abL c8
  cases hb1
  refine bF ?_
  exact ⟨_,rfl,fm_ dh [] rfl bH dw⟩
 cases hb1
 have hx1:Cg (.inl (t_3,i_4))=some _:=hk1
 unfold Cg at hx1
 dsimp only at hx1
 obtain ⟨r_13,c9,hx1⟩:=bd_ hx1
 replace c9:=sK c9
 cases hx1
 exact aD
set_option maxHeartbeats 8000000
def kR (a_rel:Int) (a_p:aI) (a_q:aI):Option (Bool):=bif (decide (a_rel=(0:Int))) then some (decide (a_p.hi<a_q.lo)) else
 bif (decide (a_rel=(1:Int))) then some (decide (a_p.hi=a_q.lo)) else
 bif (decide (a_rel=(2:Int))) then bif (decide (a_p.lo<a_q.lo)) then bif (decide (a_q.lo<a_p.hi)) then some (decide (a_p.hi<a_q.hi)) else
 some false else
 some false else
 bif (decide (a_rel=(3:Int))) then bif (decide (a_p.lo=a_q.lo)) then some (decide (a_p.hi<a_q.hi)) else
 some false else
 bif (decide (a_rel=(4:Int))) then bif (decide (a_q.lo<a_p.lo)) then some (decide (a_p.hi<a_q.hi)) else
 some false else
 bif (decide (a_rel=(5:Int))) then bif (decide (a_p.hi=a_q.hi)) then some (decide (a_q.lo<a_p.lo)) else
 some false else
 bif (decide (a_rel=(6:Int))) then some (dL [.c (.int .i64 a_p.lo), .c (.int .i64 a_p.hi)] [.c (.int .i64 a_q.lo), .c (.int .i64 a_q.hi)]) else
 bif (decide (a_rel=(7:Int))) then bif (decide (a_p.hi=a_q.hi)) then some (decide (a_p.lo<a_q.lo)) else
 some false else
 bif (decide (a_rel=(8:Int))) then bif (decide (a_p.lo<a_q.lo)) then some (decide (a_q.hi<a_p.hi)) else
 some false else
 bif (decide (a_rel=(9:Int))) then bif (decide (a_p.lo=a_q.lo)) then some (decide (a_q.hi<a_p.hi)) else
 some false else
 bif (decide (a_rel=(10:Int))) then bif (decide (a_q.lo<a_p.lo)) then bif (decide (a_p.lo<a_q.hi)) then some (decide (a_q.hi<a_p.hi)) else
 some false else
 some false else
 bif (decide (a_rel=(11:Int))) then some (decide (a_q.hi=a_p.lo)) else
 bif (decide (a_rel=(12:Int))) then some (decide (a_q.hi<a_p.lo)) else
 some false
theorem aby {a_rel:Int} {a_p:aI} {a_q:aI} {r:Bool} (H:kR a_rel a_p a_q=some r):Pure Tryz.prog 192 [.one (.int .i64 a_rel), .agg (bE a_p), .agg (bE a_q)] (.val (.one (.bool r))):=by
 unfold kR at H
 refine po_ Tryz.func192 Tryz.ntmps192 ?_
 rcases af H with ⟨q_1,H⟩|⟨q_1,H⟩
 ·cases H
  exact aD
 rcases af H with ⟨q_2,H⟩|⟨q_2,H⟩
 ·cases H
  exact aD
 refine bF ?_
 rcases af H with ⟨q_3,H⟩|⟨q_3,H⟩
 ·rcases af H with ⟨q_4,H⟩|⟨q_4,H⟩
  ·rcases af H with ⟨q_5,H⟩|⟨q_5,H⟩
   ·cases H
    exact aD
   cases H
   exact aD
  cases H
  exact aD
 rcases af H with ⟨q_6,H⟩|⟨q_6,H⟩
 ·rcases af H with ⟨q_7,H⟩|⟨q_7,H⟩
  ·cases H
   exact aD
  cases H
  exact aD
 rcases af H with ⟨q_8,H⟩|⟨q_8,H⟩
 ·refine bF ?_
  rcases af H with ⟨q_9,H⟩|⟨q_9,H⟩
  ·cases H
   exact aD
  cases H
  exact aD
 refine bF ?_
 rcases af H with ⟨q_10,H⟩|⟨q_10,H⟩
 ·rcases af H with ⟨q_11,H⟩|⟨q_11,H⟩
  ·cases H
   exact aD
  cases H
  exact aD
 rcases af H with ⟨q_12,H⟩|⟨q_12,H⟩
 ·cases H
  exact aD
 rcases af H with ⟨q_13,H⟩|⟨q_13,H⟩
 ·refine bF ?_
  rcases af H with ⟨q_14,H⟩|⟨q_14,H⟩
  ·cases H
   exact aD
  cases H
  exact aD
 refine bF ?_
 rcases af H with ⟨q_15,H⟩|⟨q_15,H⟩
 ·rcases af H with ⟨q_16,H⟩|⟨q_16,H⟩
  ·cases H
   exact aD
  cases H
  exact aD
 rcases af H with ⟨q_17,H⟩|⟨q_17,H⟩
 ·rcases af H with ⟨q_18,H⟩|⟨q_18,H⟩
  ·cases H
   exact aD
  cases H
  exact aD
 rcases af H with ⟨q_19,H⟩|⟨q_19,H⟩
 ·refine bF ?_
  rcases af H with ⟨q_20,H⟩|⟨q_20,H⟩
  ·rcases af H with ⟨q_21,H⟩|⟨q_21,H⟩
   ·cases H
    exact aD
   cases H
   exact aD
  cases H
  exact aD
 refine bF ?_
 rcases af H with ⟨q_22,H⟩|⟨q_22,H⟩
 ·cases H
  exact aD
 rcases af H with ⟨q_23,H⟩|⟨q_23,H⟩
 ·cases H
  exact aD
 cases H
 exact aD
def Ai (a_rel:Int) (a_p:aI) (a_q:aI):Option (Bool):=(iP a_p).bind fun r_1=>bif r_1 then (iP a_q).bind fun r_3=>bif r_3 then (kR a_rel a_p a_q).bind fun r_5=>some r_5 else
 some false else
 some false
theorem Tf {a_rel:Int} {a_p:aI} {a_q:aI} {r:Bool} (H:Ai a_rel a_p a_q=some r):Pure Tryz.prog 171 [.one (.int .i64 a_rel), .agg (bE a_p), .agg (bE a_q)] (.val (.one (.bool r))):=by
 unfold Ai at H
 refine po_ Tryz.func171 Tryz.ntmps171 ?_
 obtain ⟨r_1,c1,H⟩:=bd_ H
 replace c1:=fw c1
 rcases af H with ⟨q_2,H⟩|⟨q_2,H⟩
 ·obtain ⟨r_3,c2,H⟩:=bd_ H
  replace c2:=fw c2
  rcases af H with ⟨q_4,H⟩|⟨q_4,H⟩
  ·obtain ⟨r_5,c3,H⟩:=bd_ H
   replace c3:=aby c3
   cases H
   exact aD
  cases H
  exact aD
 cases H
 exact aD
def uK (a_p:aI) (a_q:aI):(Int)->Option (Step (Int) (Int × Bool)):=fun s=>match s with
 | rel_1=>bif (decide (rel_1<(13:Int))) then (Ai rel_1 a_p a_q).bind fun r_3=>bif r_3 then some (.ret (rel_1,true)) else
 some (.next (IntKind.i64.wrap (rel_1+(1:Int)))) else
 some (.exit rel_1)
def yC:Sum (Int) (Int × Bool)->Option ((Int × Bool))
 | .inl rel_1=>some ((0:Int),false)
 | .inr q=>some q
def Q0 (a_p:aI) (a_q:aI):Option (Int × Bool):=(ax (uK a_p a_q) fuel (0:Int)).bind (yC)
theorem Z6 {a_p:aI} {a_q:aI} {r:Int × Bool} (H:Q0 a_p a_q=some r):Pure Tryz.prog 144 [.agg (bE a_p), .agg (bE a_q)] (.tup [.one (.int .i64 r.1), .one (.bool r.2)]):=by
 unfold Q0 at H
 refine po_ Tryz.func144 Tryz.ntmps144 ?_
 refine bF ?_
 refine alM_ (fun s:Int=>match s with|rel_1=>[(2, .one (.ptr 0 0)),(3, .one (.ptr 1 0)),(6, .one (.c (.int .i64 rel_1)))]) (fun s=>match s with|rel_1=>[.box [.c (.int .i64 a_p.lo), .c (.int .i64 a_p.hi)], .box [.c (.int .i64 a_q.lo), .c (.int .i64 a_q.hi)]]) H (fun _=>ahe _)
  (fm_ dh [] rfl bH dw) ?_
 rintro rel_1 st1 hb1 hk1
 unfold uK at hb1
 dsimp only at hb1 ⊢
 rcases af hb1 with ⟨q_2,hb1⟩|⟨q_2,hb1⟩
 ·obtain ⟨r_3,c1,hb1⟩:=bd_ hb1
  replace c1:=Tf c1
  rcases af hb1 with ⟨q_4,hb1⟩|⟨q_4,hb1⟩
  ·cases hb1
   have hx1:yC (.inr (rel_1,true))=some _:=hk1
   unfold yC at hx1
   dsimp only at hx1
   cases hx1
   exact aD
  cases hb1
  refine bF ?_
  exact ⟨_,rfl,fm_ dh [] rfl bH dw⟩
 cases hb1
 have hx1:yC (.inl rel_1)=some _:=hk1
 unfold yC at hx1
 dsimp only at hx1
 cases hx1
 exact aD
set_option maxHeartbeats 8000000
def uL (a_rel:Int) (a_l:(List Val)):Option (Val):=(RF a_l (1:Int)).bind fun r_1=>bif (!r_1) then (fQ ).bind fun r_3=>some r_3 else
 (aH a_l (0:Int)).bind fun x_4=>(aH a_l (1:Int)).bind fun x_5=>(aH a_l (2:Int)).bind fun x_6=>(aH a_l (3:Int)).bind fun x_7=>(Q0 (⟨x_4.int,x_5.int⟩:aI) (⟨x_6.int,x_7.int⟩:aI)).bind fun r_8=>bif (!r_8.2) then (fQ ).bind fun r_10=>some r_10 else
 (wB (decide (r_8.1=a_rel))).bind fun r_11=>some r_11
theorem PM {a_rel:Int} {a_l:(List Val)} {r:Val} (H:uL a_rel a_l=some r):Pure Tryz.prog 100 [.one (.int .i64 a_rel), .one (.lst (a_l.map cV))] (.val (.agg (cV r))):=by
 unfold uL at H
 refine po_ Tryz.func100 Tryz.ntmps100 ?_
 obtain ⟨r_1,c1,H⟩:=bd_ H
 replace c1:=Hl c1
 rcases af H with ⟨q_2,H⟩|⟨q_2,H⟩
 ·obtain ⟨r_3,c2,H⟩:=bd_ H
  replace c2:=dm c2
  cases H
  exact aD
 obtain ⟨x_4,i3z,i3,i3x,H⟩:=aY (f:=cV) H
 obtain ⟨x_5,i4z,i4,i4x,H⟩:=aY (f:=cV) H
 obtain ⟨x_6,i5z,i5,i5x,H⟩:=aY (f:=cV) H
 obtain ⟨x_7,i6z,i6,i6x,H⟩:=aY (f:=cV) H
 obtain ⟨r_8,c7,H⟩:=bd_ H
 replace c7:=Z6 c7
 rcases af H with ⟨q_9,H⟩|⟨q_9,H⟩
 ·obtain ⟨r_10,c8,H⟩:=bd_ H
  replace c8:=dm c8
  cases H
  exact aD
 obtain ⟨r_11,c9,H⟩:=bd_ H
 replace c9:=qj c9
 cases H
 exact aD
def yH (a_op:Int) (a_l:(List Val)):Option (Val):=(RF a_l (2:Int)).bind fun r_1=>bif (!r_1) then (fQ ).bind fun r_3=>some r_3 else
 bif (decide (a_op=(19:Int))) then (aH a_l (0:Int)).bind fun x_5=>(aH a_l (1:Int)).bind fun x_6=>bif (decide (x_5.text.size+x_6.text.size<=9223372036854775807)) then ((KW (x_5.text++x_6.text)).bind fun r_7=>some r_7) else none else
 (aH a_l (0:Int)).bind fun x_8=>(sF ((x_8.text.size:Nat):Int)).bind fun r_9=>some r_9
theorem MX {a_op:Int} {a_l:(List Val)} {r:Val} (H:yH a_op a_l=some r):Pure Tryz.prog 98 [.one (.int .i64 a_op), .one (.lst (a_l.map cV))] (.val (.agg (cV r))):=by
 unfold yH at H
 refine po_ Tryz.func98 Tryz.ntmps98 ?_
 obtain ⟨r_1,c1,H⟩:=bd_ H
 replace c1:=Hl c1
 rcases af H with ⟨q_2,H⟩|⟨q_2,H⟩
 ·obtain ⟨r_3,c2,H⟩:=bd_ H
  replace c2:=dm c2
  cases H
  exact aD
 rcases af H with ⟨q_4,H⟩|⟨q_4,H⟩
 ·obtain ⟨x_5,i3z,i3,i3x,H⟩:=aY (f:=cV) H
  obtain ⟨x_6,i4z,i4,i4x,H⟩:=aY (f:=cV) H
  obtain ⟨g5,H⟩:=aG H
  obtain ⟨r_7,c6,H⟩:=bd_ H
  replace c6:=Yo c6
  try simp only [ag8,ag6,ag_,ag0,aC] at c6
  cases H
  exact aD
 obtain ⟨x_8,i7z,i7,i7x,H⟩:=aY (f:=cV) H
 obtain ⟨r_9,c8,H⟩:=bd_ H
 replace c8:=oq c8
 cases H
 exact aD
def xy (a_l:(List Val)):(Int)->Option (Step (Int) (Val)):=fun s=>match s with
 | i_7=>bif (decide (i_7<((a_l.length:Nat):Int))) then (aH a_l i_7).bind fun x_9=>bif (decide (x_9.kind≠(0:Int))) then some (.ret x_9) else
 some (.next (IntKind.i64.wrap (i_7+(1:Int)))) else
 some (.exit i_7)
def qL:Sum (Int) (Val)->Option ((Val))
 | .inl i_7=>(fQ ).bind fun r_11=>some r_11
 | .inr q=>some q
def ww (a_op:Int) (a_l:(List Val)):Option (Val):=bif (decide (a_op=(22:Int))) then (aH a_l (0:Int)).bind fun x_2=>(jy x_2).bind fun r_3=>bif (decide (r_3=(2:Int))) then (aH a_l (1:Int)).bind fun x_5=>some x_5 else
 (aH a_l (2:Int)).bind fun x_6=>some x_6 else
 (ax (xy a_l) fuel (0:Int)).bind (qL)
theorem IR {a_op:Int} {a_l:(List Val)} {r:Val} (H:ww a_op a_l=some r):Pure Tryz.prog 99 [.one (.int .i64 a_op), .one (.lst (a_l.map cV))] (.val (.agg (cV r))):=by
 unfold ww at H
 refine po_ Tryz.func99 Tryz.ntmps99 ?_
 rcases af H with ⟨q_1,H⟩|⟨q_1,H⟩
 ·obtain ⟨x_2,i1z,i1,i1x,H⟩:=aY (f:=cV) H
  obtain ⟨r_3,c2,H⟩:=bd_ H
  replace c2:=nO c2
  rcases af H with ⟨q_4,H⟩|⟨q_4,H⟩
  ·obtain ⟨x_5,i3z,i3,i3x,H⟩:=aY (f:=cV) H
   cases H
   exact aD
  obtain ⟨x_6,i4z,i4,i4x,H⟩:=aY (f:=cV) H
  cases H
  exact aD
 refine bF ?_
 refine alM_ (fun s:Int=>match s with|i_7=>[(1, .one (.c (.lst (a_l.map cV)))),(4, .one (.ptr 0 0)),(5, .one (.c (.int .i64 i_7)))]) (fun s=>match s with|i_7=>[.box [.c (.int .i64 (0:Int)), .c (.int .i64 (0:Int)), .c (.str ByteArray.empty)]]) H (fun _=>ahe _)
  (fm_ dh [] rfl bH dw) ?_
 rintro i_7 st1 hb1 hk1
 unfold xy at hb1
 dsimp only at hb1 ⊢
 rcases af hb1 with ⟨q_8,hb1⟩|⟨q_8,hb1⟩
 ·obtain ⟨x_9,i5z,i5,i5x,hb1⟩:=aY (f:=cV) hb1
  rcases af hb1 with ⟨q_10,hb1⟩|⟨q_10,hb1⟩
  ·cases hb1
   have hx1:qL (.inr x_9)=some _:=hk1
   unfold qL at hx1
   dsimp only at hx1
   cases hx1
   exact aD
  cases hb1
  refine bF ?_
  exact ⟨_,rfl,fm_ dh [] rfl bH dw⟩
 cases hb1
 have hx1:qL (.inl i_7)=some _:=hk1
 unfold qL at hx1
 dsimp only at hx1
 obtain ⟨r_11,c6,hx1⟩:=bd_ hx1
 replace c6:=dm c6
 cases hx1
 exact aD
def Gt (a_e:Ex) (a_row:(List Val)):Option (Val):=bif (decide (a_e.op=(2:Int))) then (Ti a_row a_e.int).bind fun r_2=>(eP r_2).bind fun r_3=>bif (!r_3) then (fQ ).bind fun r_5=>some r_5 else
 some r_2 else
 (eP a_e.v).bind fun r_6=>bif (!r_6) then (fQ ).bind fun r_8=>some r_8 else
 some a_e.v
theorem QG {a_e:Ex} {a_row:(List Val)} {r:Val} (H:Gt a_e a_row=some r):Pure Tryz.prog 91 [.agg (tE a_e), .one (.lst (a_row.map cV))] (.val (.agg (cV r))):=by
 unfold Gt at H
 rw [aC a_e]
 refine po_ Tryz.func91 Tryz.ntmps91 ?_
 rcases af H with ⟨q_1,H⟩|⟨q_1,H⟩
 ·obtain ⟨r_2,c1,H⟩:=bd_ H
  replace c1:=Oh c1
  obtain ⟨r_3,c2,H⟩:=bd_ H
  replace c2:=qF c2
  rcases af H with ⟨q_4,H⟩|⟨q_4,H⟩
  ·obtain ⟨r_5,c3,H⟩:=bd_ H
   replace c3:=dm c3
   cases H
   exact aD
  cases H
  exact aD
 obtain ⟨r_6,c4,H⟩:=bd_ H
 replace c4:=qF c4
 rcases af H with ⟨q_7,H⟩|⟨q_7,H⟩
 ·obtain ⟨r_8,c5,H⟩:=bd_ H
  replace c5:=dm c5
  cases H
  exact aD
 cases H
 exact aD
set_option maxHeartbeats 8000000
def Kn (B:List (List Val)) (x:List Val):Nat->Nat
 | 0=>0
 | j+1=>match B[j]? with
  | some y=>if bS x y<0 then Kn B x j else j+1
  | none=>j+1
def Sv (B:List (List Val)) (x:List Val):List (List Val):=B.take (Kn B x B.length)++x::B.drop (Kn B x B.length)
def xK (l:List (List Val)):List (List Val):=l.foldl Sv []
theorem M5 (B:List (List Val)) (x:List Val) : ∀ j,j<=B.length->Kn B x j<=j/\(∀ i y,Kn B x j<=i->i<j->B[i]?=some y->bS x y<0)/\(∀ q,Kn B x j=q+1 -> ∃ y,B[q]?=some y /\ ¬ bS x y<0)
 | 0,_=>⟨ag' _,fun i y _ h=>by omega,fun q h=>by simp [Kn] at h⟩
 | j+1,hj=>by
  obtain ⟨y,hy⟩:=gol_ (show j<B.length by omega)
  have e:Kn B x (j+1)=if bS x y<0 then Kn B x j else j+1:=by rw [Kn,hy]
  rw [e]
  by_cases h:bS x y<0
  ·rw [if_pos h]
   obtain ⟨h1,h2,h3⟩:=M5 B x j (by omega)
   refine ⟨by omega,fun i z hi hij hz=>?_,h3⟩
   by_cases hij':i<j
   ·exact h2 i z hi hij' hz
   ·have:i=j:=by omega
    subst this
    rw [hy] at hz
    obtain rfl:=ahq hz
    exact h
  ·rw [if_neg h]
   refine ⟨ag' _,fun i z hi hij=>by omega,fun q hq=>?_⟩
   obtain rfl:j=q:=by omega
   exact ⟨y,hy,h⟩
theorem Xa (B:List (List Val)) (x:List Val):(Sv B x).Perm (x::B):=by
 unfold Sv
 refine List.perm_middle.trans ?_
 rw [ahE]
theorem ZQ {B:List (List Val)} (x:List Val) (h:Asc bS B):Asc bS (Sv B x):=by
 obtain ⟨h1,h2,h3⟩:=M5 B x B.length (ag' _)
 unfold Sv
 generalize Kn B x B.length=p at h1 h2 h3
 have hB:Asc bS (B.take p++B.drop p):=by rw [ahE];exact h
 obtain ⟨ht,hd,hc⟩:=List.pairwise_append.1 hB
 have hx : ∀ b∈B.drop p,bS x b<=0:=by
  intro b hb
  obtain ⟨i,hi⟩:=List.getElem?_of_mem hb
  rw [ahF] at hi
  have:=h2 (p+i) b (by omega) (agV.1 hi).1 hi
  omega
 have hl : ∀ a∈B.take p,bS a x<=0:=by
  intro a ha
  cases p with
  | zero=>simp at ha
  | succ q =>
   obtain ⟨y,hy,hn⟩:=h3 q rfl
   have hyx:bS y x<=0:=by
    have:=tCr_.anti x y
    have:=tCr_.anti y x
    omega
   have hq:q<B.length:=(agV.1 hy).1
   have ey:=(agV.1 hy).2
   rw [List.take_succ_eq_append_getElem hq,ey] at ha ht
   rcases ahl.1 ha with ha|ha
   ·exact tCr_.le_trans ((List.pairwise_append.1 ht).2.2 a ha y (by simp)) hyx
   ·obtain rfl:a=y:=by simpa using ha
    exact hyx
 refine List.pairwise_append.2 ⟨ht,ahP.2 ⟨hx,hd⟩,fun a ha b hb=>?_⟩
 rcases aha.1 hb with rfl|hb
 ·exact hl a ha
 ·exact hc a ha b hb
theorem E8 : ∀ (l B:List (List Val)),Asc bS B->Asc bS (l.foldl Sv B)/\(l.foldl Sv B).Perm (l++B)
 | [],B,h=>⟨h,List.Perm.refl _⟩
 | x::l,B,h=>by
  obtain ⟨h1,h2⟩:=E8 l (Sv B x) (ZQ x h)
  refine ⟨h1,h2.trans ?_⟩
  refine ((Xa B x).append_left l).trans ?_
  exact List.perm_middle
theorem FM (l:List (List Val)):Asc bS (xK l):=(E8 l [] List.Pairwise.nil).1
theorem lS (l:List (List Val)):(xK l).Perm l:=by
 have:=(E8 l [] List.Pairwise.nil).2
 rwa [ahs] at this
theorem OH {l r:List (List Val)} (h1:Asc bS r) (h2:r.Perm l):xK l=r:=BA tCr_ (FM l) h1 ((lS l).trans h2.symm)
def push {α β ρ:Type} (g:α->β) (N:Nat) (s:List β) (x:α):Option (Sum (List β) ρ):=bif decide (s.length+1<=N) then some (.inl (s++[g x])) else none
theorem Mr {α β ρ:Type} (g:α->β) (N:Nat) : ∀ (l:List α) (s:List β),s.length+l.length<=N->dF (ρ:=ρ) (push g N) s l=some (.inl (s++l.map g))
 | [],s,_=>by simp [dF]
 | x::l,s,h=>by
  have h':s.length+(l.length+1)<=N:=by simpa using h
  have e:push (ρ:=ρ) g N s x=some (.inl (s++[g x])):=by unfold push;rw [show decide (s.length+1<=N)=true from agZ (by omega)];rfl
  rw [dF,e]
  have:=Mr (ρ:=ρ) g N l (s++[g x]) (by simp;omega)
  simpa using this
theorem PU {α σ ρ:Type} {f:σ->α->Option (Sum σ ρ)} : ∀ (l:List α) (s:σ),(∀ s x,x∈l -> ∃ r,f s x=some r) -> ∃ r,dF f s l=some r
 | [],s,_=>⟨_,rfl⟩
 | x::l,s,h=>by
  obtain ⟨r,hr⟩:=h s x (ahG ..)
  rw [dF,hr]
  cases r with
  | inl s'=>exact PU l s' fun s y hy=>h s y (ahh _ hy)
  | inr r=>exact ⟨_,rfl⟩
theorem QN (x y:List Val) (hx:x.length<=1000000) (hy:y.length<=1000000):zD x y []=some (decide (bS x y<0)):=by
 unfold zD
 rw [di (l:=([]:List LJ)) (mk:=fun (_:Unit) i=>i) (f:=fun (_:Unit) (_:LJ)=>(none:Option (Sum Unit Bool))) ?_ ?_ (by unfold fuel;simp) ()]
 ·show lU x y (.inl ((([]:List LJ).length:Nat):Int))=_
  unfold lU
  rw [oz x y (by omega) (by omega)];rfl
 ·intro s i x hx;simp at hx
 ·intro s
  unfold BQ
  dsimp only
  rw [lF_,agW]
def XC (x y:List Val):Bool := !decide (bS y x<0)
theorem pV (x y:List Val):XC x y=true↔bS x y<=0:=by
 unfold XC
 have:=tCr_.anti x y
 have:=tCr_.anti y x
 simp
 omega
theorem w9 {a b:List (List Val)} (ha:a.length<=1000000) (hb:b.length<=1000000) (hra : ∀ r∈a,r.length<=1000000) (hrb : ∀ r∈b,r.length<=1000000) : ∀ (n i k:Nat) (out:List (List Val)),i<=a.length->k<=b.length->out.length=i+k->(a.length-i)+(b.length-k)<n->(ax (fF a b []) n (out,(i:Int),(k:Int))).bind vX=some (out++List.merge (a.drop i) (b.drop k) XC)
 | 0,_,_,_,_,_,_,h=>by omega
 | n+1,i,k,out,h1,h2,ho,hn=>by
  have hg:decide (out.length+1<=5864062014805)=true:=agZ (by omega)
  rw [ax]
  by_cases hlt:i<a.length
  ·obtain ⟨x,hx⟩:=gol_ hlt
   have ex:=(agV.1 hx).2
   have hne:decide ((i:Int)=((a.length:Nat):Int))=false:=agY (by omega)
   have ihA:=w9 ha hb hra hrb n (i+1) k (out++[x]) (by omega) (by omega) (by simp;omega) (by omega)
   by_cases hlb:k<b.length
   ·obtain ⟨y,hy⟩:=gol_ hlb
    have ey:=(agV.1 hy).2
    have ihB:=w9 ha hb hra hrb n i (k+1) (out++[y]) (by omega) (by omega) (by simp;omega) (by omega)
    have eb:fF a b [] (out,(i:Int),(k:Int))=bif decide (bS y x<0) then some (.next (out++[y],(i:Int),((k+1:Nat):Int))) else some (.next (out++[x],((i+1:Nat):Int),(k:Int))):=by
     unfold fF
     dsimp only
     rw [aV hx,agX,hne,agW,aV hy,agX,gn_ hy,gn_ hx]
     simp only [agU]
     rw [QN y x (hrb y (ag1 hy)) (hra x (ag1 hx)),wrapN (by omega),wrapN (by omega),hg]
     rfl
    rw [eb,ahp hlt,ahp hlb,ex,ey,List.cons_merge_cons]
    rw [ahp hlb,ey] at ihA
    rw [ahp hlt,ex] at ihB
    by_cases hc:bS y x<0
    ·rw [show decide (bS y x<0)=true from agZ hc,agX,if_neg (by unfold XC;simp [hc])]
     dsimp only
     rw [ihB];simp
    ·rw [show decide (bS y x<0)=false from agY hc,agW,if_pos (by unfold XC;simp [hc])]
     dsimp only
     rw [ihA];simp
   ·have hk:k=b.length:=by omega
    have eb:fF a b [] (out,(i:Int),(k:Int))=some (.next (out++[x],((i+1:Nat):Int),(k:Int))):=by
     unfold fF
     dsimp only
     rw [aV hx,agX,hne,agW,hk,lF_,agW,gn_ hx]
     simp only [agU]
     rw [wrapN (by omega),hg]
     rfl
    rw [eb]
    dsimp only
    rw [ihA,ahp hlt,ex,hk,ahO,List.merge_right,List.merge_right]
    simp
  ·have hi:i=a.length:=by omega
   subst hi
   by_cases hlb:k<b.length
   ·obtain ⟨y,hy⟩:=gol_ hlb
    have ey:=(agV.1 hy).2
    have ihB:=w9 ha hb hra hrb n a.length (k+1) (out++[y]) (by omega) (by omega) (by simp;omega) (by omega)
    have eb:fF a b [] (out,((a.length:Nat):Int),(k:Int))=some (.next (out++[y],((a.length:Nat):Int),((k+1:Nat):Int))):=by
     unfold fF
     dsimp only
     rw [lF_,agW,aV hy,agX,show decide (((a.length:Nat):Int)=((a.length:Nat):Int))=true from agZ rfl,agX,gn_ hy]
     simp only [agU]
     rw [wrapN (by omega),hg]
     rfl
    rw [eb]
    dsimp only
    rw [ihB,ahp hlb,ey,ahO,List.nil_merge,List.nil_merge]
    simp
   ·have hk:k=b.length:=by omega
    subst hk
    have eb:fF a b [] (out,((a.length:Nat):Int),((b.length:Nat):Int))=some (.exit (out,((a.length:Nat):Int),((b.length:Nat):Int))):=by
     unfold fF
     dsimp only
     rw [lF_,agW,lF_,agW]
    rw [eb,ahO,ahO,List.nil_merge,ahs]
    rfl
theorem Uh {a b:List (List Val)} (ha:a.length<=1000000) (hb:b.length<=1000000) (hra : ∀ r∈a,r.length<=1000000) (hrb : ∀ r∈b,r.length<=1000000):Dn a b []=some (List.merge a b XC):=by
 unfold Dn
 have:=w9 ha hb hra hrb fuel 0 0 [] (ahe _) (ahe _) rfl (by unfold fuel;omega)
 rw [show (((0:Nat):Int))=0 from rfl] at this
 rw [this];simp
theorem Ym {a b:List (List Val)} (ha:Asc bS a) (hb:Asc bS b):Asc bS (List.merge a b XC):=by
 have:=List.pairwise_merge (le:=XC) (fun x y z h1 h2=>(pV x z).2 (tCr_.le_trans ((pV x y).1 h1) ((pV y z).1 h2))) (fun x y=>by
  rw [Bool.or_eq_true,pV,pV];exact tCr_.total x y) a b (ha.imp fun h=>(pV _ _).2 h) (hb.imp fun h=>(pV _ _).2 h)
 exact this.imp fun h=>(pV _ _).1 h
theorem YD : ∀ (n:Nat) (l:List (List Val)),l.length<=n->l.length<=1000000->(∀ r∈l,r.length<=1000000) -> ∃ r,EH (n+1) l []=some r/\Asc bS r/\r.Perm l:=by
 intro n
 induction n with
 | zero =>
  intro l h _ _
  have:l=[]:=by cases l with|nil=>rfl|cons _ _=>simp at h
  subst this
  exact ⟨[],rfl,List.Pairwise.nil,List.Perm.refl _⟩
 | succ n ih =>
  intro l h hl hr
  match l,h,hl,hr with
  | [],_,_,_=>exact ⟨[],rfl,List.Pairwise.nil,List.Perm.refl _⟩
  | [x],_,_,hr =>
   have hx:=hr x (by simp)
   refine ⟨[x],?_,by simp [Asc],List.Perm.refl _⟩
   show wV (EH (n+1)) [x] []=_
   unfold wV
   simp only [ahf,aho]
   rw [show aH [x] 0=some x from rfl]
   simp only [agU]
   rw [show decide (x.length<=4398046511104)=true from agZ (by omega)]
   rfl
  | x::y::t,h,hl,hr =>
   generalize hL:x::y::t=l at h hl hr
   have h2:2<=l.length:=by rw [<- hL];simp
   have hm:IntKind.i64.wrap (((l.length:Nat):Int).tdiv (2:Int))=((l.length/2:Nat):Int):=by
    rw [show ((l.length:Nat):Int).tdiv 2=((l.length/2:Nat):Int) from rfl]
    exact ko (by omega) (by omega)
   have s1:lT l 0 ((l.length/2:Nat):Int)=some (l.take (l.length/2)):=by
    unfold lT
    rw [if_pos (by omega),Int.toNat_natCast];rfl
   have s2:lT l ((l.length/2:Nat):Int) ((l.length:Nat):Int)=some (l.drop (l.length/2)):=by
    unfold lT
    rw [if_pos (by omega),Int.toNat_natCast,Int.toNat_natCast,List.take_length]
   obtain ⟨r1,e1,a1,p1⟩:=ih (l.take (l.length/2)) (by simp;omega) (by simp;omega) fun r hr'=>hr r (ahQ hr')
   obtain ⟨r2,e2,a2,p2⟩:=ih (l.drop (l.length/2)) (by simp;omega) (by simp;omega) fun r hr'=>hr r (List.mem_of_mem_drop hr')
   refine ⟨List.merge r1 r2 XC,?_,Ym a1 a2,?_⟩
   ·show wV (EH (n+1)) l []=_
    unfold wV
    rw [show decide (((l.length:Nat):Int)=0)=false from agY (by omega),agW,show decide (((l.length:Nat):Int)=1)=false from agY (by omega),agW,show decide ((2:Int)≠0)=true from rfl,agX,hm,s1,s2]
    simp only [agU]
    rw [e1,e2]
    simp only [agU]
    rw [Uh (by rw [p1.length_eq];simp;omega) (by rw [p2.length_eq];simp;omega) (fun r hr'=>hr r (ahQ (p1.mem_iff.1 hr'))) (fun r hr'=>hr r (List.mem_of_mem_drop (p2.mem_iff.1 hr')))]
    rfl
   ·refine (List.merge_perm_append XC).trans ((p1.append p2).trans ?_)
    rw [ahE]
theorem FK (l:List (List Val)) (hl:l.length<=300) (hr : ∀ r∈l,r.length<=1000000):Br l=some (xK l):=by
 obtain ⟨r,e,a,p⟩:=YD 300 l hl (by omega) hr
 unfold Br
 rw [e,OH a p];rfl
theorem Bd {s:ByteArray} (hs:s.size<=1000000) : ∀ (n i:Nat),i<=s.size->s.size-i<n -> ∃ r,(ax (n_ s) n (i:Int)).bind eY=some r
 | 0,_,_,h=>by omega
 | n+1,i,h1,hn=>by
  rw [ax]
  unfold n_
  dsimp only
  by_cases hlt:i<s.size
  ·rw [show decide ((i:Int)<((s.size:Nat):Int))=true from agZ (by omega),agX]
   obtain ⟨b,hb⟩ : ∃ b,W_ s (i:Int)=some b:=by
    unfold W_
    rw [if_pos (by omega)]
    exact ⟨s[i],by simp [hlt]⟩
   rw [hb]
   simp only [agU]
   cases decide (((b.toNat:Nat):Int)<32) with
   | true=>exact ⟨_,rfl⟩
   | false =>
    cases decide ((126:Int)<((b.toNat:Nat):Int)) with
    | true=>exact ⟨_,rfl⟩
    | false =>
     simp only [agW]
     rw [wrapN (by omega)]
     exact Bd hs n (i+1) (by omega) (by omega)
  ·rw [show decide ((i:Int)<((s.size:Nat):Int))=false from agY (by omega),agW]
   exact ⟨_,rfl⟩
theorem Li {s:ByteArray} (hs:s.size<=1000000) : ∃ r,rO s=some r:=by
 have:=Bd hs fuel 0 (ahe _) (by unfold fuel;omega)
 rw [show (((0:Nat):Int))=0 from rfl] at this
 exact this
theorem II (v:Val) : ∃ r,eP v=some r:=by
 unfold eP
 cases decide (v.kind=0) with
 | true=>cases decide (v.int=0)<;>exact ⟨_,rfl⟩
 | false =>
  cases decide (v.kind=1) with
  | true=>cases (v.text.toList==(⟨#[]⟩:ByteArray).toList)<;>cases decide ((-1125899906842624:Int)<=v.int)<;>exact ⟨_,rfl⟩
  | false =>
   cases decide (v.kind=2) with
   | true =>
    cases decide (v.int=0) with
    | false=>exact ⟨_,rfl⟩
    | true =>
     by_cases h:((v.text.size:Nat):Int)<=200
     ·obtain ⟨r,hr⟩:=Li (s:=v.text) (by omega)
      rw [show decide (((v.text.size:Nat):Int)<=200)=true from agZ h,hr]
      exact ⟨_,rfl⟩
     ·rw [show decide (((v.text.size:Nat):Int)<=200)=false from agY h]
      exact ⟨_,rfl⟩
   | false =>
    cases decide (v.kind=3) with
    | true=>cases (v.text.toList==(⟨#[]⟩:ByteArray).toList)<;>cases decide (v.int=0)<;>exact ⟨_,rfl⟩
    | false=>exact ⟨_,rfl⟩
theorem Yy (row:List Val) (kinds:List Int) (h:row.length<=1000000) : ∃ r,wS row kinds=some r:=by
 unfold wS
 by_cases he:row.length=kinds.length
 ·rw [show decide (((row.length:Nat):Int)≠((kinds.length:Nat):Int))=false from agY (by omega),agW]
  have hz:(row.zip kinds).length=row.length:=by simp;omega
  have k:=di (l:=row.zip kinds) (body:=j_ row kinds) (mk:=fun (_:Unit) i=>i) (f:=fun (_:Unit) (x:Val × Int)=>(eP x.1).bind fun r=>bif (!r) then some (.inr false) else bif decide (x.1.kind≠0) then bif decide (x.1.kind≠x.2) then some (.inr false) else some (.inl ()) else some (.inl ())) ?_ ?_ (by unfold fuel;omega) ()
  ·obtain ⟨r,hr⟩:=PU (σ:=Unit) (ρ:=Bool) (f:=fun (_:Unit) (x:Val × Int)=>(eP x.1).bind fun r=>bif (!r) then some (.inr false) else bif decide (x.1.kind≠0) then bif decide (x.1.kind≠x.2) then some (.inr false) else some (.inl ()) else some (.inl ())) (row.zip kinds) () (by
    intro s x _
    obtain ⟨r,hr⟩:=II x.1
    rw [hr]
    cases r<;>cases decide (x.1.kind≠0)<;>cases decide (x.1.kind≠x.2)<;>exact ⟨_,rfl⟩)
   rw [k,hr]
   cases r with
   | inl _=>exact ⟨_,rfl⟩
   | inr _=>exact ⟨_,rfl⟩
  ·intro s i x hx
   obtain ⟨h1,h2⟩:=List.getElem?_zip_eq_some.1 hx
   have hi:i<row.length:=(agV.1 h1).1
   unfold j_
   dsimp only
   rw [aV h1,agX,gn_ h1,gn_ h2]
   simp only [agU]
   rw [wrapN (by omega)]
   cases eP x.1 with
   | none=>rfl
   | some r=>cases r<;>cases decide (x.1.kind≠0)<;>cases decide (x.1.kind≠x.2)<;>rfl
  ·intro s
   unfold j_
   dsimp only
   rw [hz,lF_,agW]
 ·rw [show decide (((row.length:Nat):Int)≠((kinds.length:Nat):Int))=true from agZ (by omega)]
  exact ⟨_,rfl⟩
theorem aa9 (k:Int) : ∃ r,Gf k=some r:=by
 unfold Gf
 cases decide (k=1)<;>cases decide (k=2)<;>exact ⟨_,rfl⟩
theorem YG (l:List Int) (h:l.length<=1000000) : ∃ r,Jv l=some r:=by
 unfold Jv
 have k:=di (l:=l) (body:=uJ l) (mk:=fun (_:Unit) i=>i) (f:=fun (_:Unit) (x:Int)=>(Gf x).bind fun r=>bif (!r) then some (.inr false) else some (.inl ())) ?_ ?_ (by unfold fuel;omega) ()
 ·obtain ⟨r,hr⟩:=PU (σ:=Unit) (ρ:=Bool) (f:=fun (_:Unit) (x:Int)=>(Gf x).bind fun r=>bif (!r) then some (.inr false) else some (.inl ())) l () (by
   intro s x _
   obtain ⟨r,hr⟩:=aa9 x
   rw [hr]
   cases r<;>exact ⟨_,rfl⟩)
  rw [k,hr]
  cases r with
  | inl _=>exact ⟨_,rfl⟩
  | inr _=>exact ⟨_,rfl⟩
 ·intro s i x hx
  have hi:i<l.length:=(agV.1 hx).1
  unfold uJ
  dsimp only
  rw [aV hx,agX,gn_ hx]
  simp only [agU]
  rw [wrapN (by omega)]
  cases Gf x with
  | none=>rfl
  | some r=>cases r<;>rfl
 ·intro s
  unfold uJ
  dsimp only
  rw [lF_,agW]
theorem zabX (l:List (List Val)) (h:l.length<=1000000) (hr : ∀ r∈l,r.length<=1000000):zaaX l l=some true:=by
 unfold zaaX
 simp only [ne_eq,not_true_eq_false,decide_false,agW]
 rw [di (l:=l) (mk:=fun (_:Unit) i=>i) (f:=fun (_:Unit) (x:List Val)=>((mQ x x).bind fun r=>bif (!r) then some (.inr false) else some (.inl ()):Option (Sum Unit Bool))) ?_ ?_ (by unfold fuel;omega) ()]
 ·have : ∀ l:List (List Val),(∀ r∈l,r.length<=1000000)->dF (fun (_:Unit) (x:List Val)=>((mQ x x).bind fun r=>bif (!r) then some (.inr false) else some (.inl ()):Option (Sum Unit Bool))) () l=some (.inl ()):=by
   intro l
   induction l with
   | nil=>intro _;rfl
   | cons x l ih =>
    intro hr
    have hx:=hr x (ahG ..)
    have e:mQ x x=some true:=by
     unfold mQ
     rw [oz x x (by omega) (by omega),tCr_.refl];rfl
    rw [dF,e]
    exact ih fun r hr'=>hr r (ahh _ hr')
  rw [this l hr];rfl
 ·intro s i x hx
  have hi:i<l.length:=(agV.1 hx).1
  unfold zaaN
  dsimp only
  rw [aV hx,agX,gn_ hx]
  simp only [agU]
  rw [wrapN (by omega)]
  cases mQ x x with
  | none=>rfl
  | some r=>cases r<;>rfl
 ·intro s
  unfold zaaN
  dsimp only
  rw [lF_,agW]
theorem Kg {α:Type} : ∀ {l:List α}, l.length=2 -> ∃ c0 c1,l=[c0,c1]
 | [c0,c1],_=>⟨c0,c1,rfl⟩
theorem aaK {α:Type} : ∀ {l:List α}, l.length=3 -> ∃ c0 c1 c2,l=[c0,c1,c2]
 | [c0,c1,c2],_=>⟨c0,c1,c2,rfl⟩
theorem aeW {α:Type} : ∀ {l:List α}, l.length=7 -> ∃ c0 c1 c2 c3 c4 c5 c6,l=[c0,c1,c2,c3,c4,c5,c6]
 | [c0,c1,c2,c3,c4,c5,c6],_=>⟨c0,c1,c2,c3,c4,c5,c6,rfl⟩
theorem adV {α:Type} : ∀ {l:List α}, l.length=11 -> ∃ c0 c1 c2 c3 c4 c5 c6 c7 c8 c9 c10,l=[c0,c1,c2,c3,c4,c5,c6,c7,c8,c9,c10]
 | [c0,c1,c2,c3,c4,c5,c6,c7,c8,c9,c10],_=>⟨c0,c1,c2,c3,c4,c5,c6,c7,c8,c9,c10,rfl⟩
theorem addr_add (b o n:Nat):(⟨b,o,none⟩:Addr).add n=⟨b,o+n,none⟩:=by
 unfold Addr.add
 split<;>simp_all
def RW {W:World} (hT:kK (fun b o=>W.cell? ⟨b,o,none⟩)):PH:=⟨fun b o=>W.cell? ⟨b,o,none⟩,hT⟩
def ng {W:World} (hT:kK (fun b o=>W.cell? ⟨b,o,none⟩)) (cs:List Value) (es:List AC):Prop:=cs.length=es.length /\ ∀ (j:Nat) u x,cs[j]?=some u->es[j]?=some x->bP (RW hT) u x
theorem ng.app {W:World} {hT:kK (fun b o=>W.cell? ⟨b,o,none⟩)} {c1 c2:List Value} {e1 e2:List AC} (h1:ng hT c1 e1) (h2:ng hT c2 e2):ng hT (c1++c2) (e1++e2):=by
 refine ⟨by rw [ag3,ag3,h1.1,h2.1],fun j u x hu hx=>?_⟩
 have hl:=h1.1
 by_cases hj:j<c1.length
 ·rw [ag9 hj] at hu
  rw [ag9 (by omega)] at hx
  exact h1.2 j u x hu hx
 ·rw [ag2 (by omega)] at hu
  rw [ag2 (by omega), <- hl] at hx
  exact h2.2 _ u x hu hx
theorem ng.one {W:World} {hT:kK (fun b o=>W.cell? ⟨b,o,none⟩)} {v:Value} {e:AC} (h:bP (RW hT) v e):ng hT [v] [e]:=by
 refine ⟨rfl,fun j u x hu hx=>?_⟩
 match j,hu,hx with
 | 0,hu,hx=>simp at hu hx;subst hu hx;exact h
 | j+1,hu,hx=>simp at hu
def PY (n:Int):Prop := -9223372036854775808<=n/\n<=9223372036854775807
def SOk (s:ByteArray):Prop:=s.size<=9223372036854775807
def GK {α:Type} (k:Nat) (Q:α->Prop) (l:List α):Prop:=l.length*k<=reachBytes /\ ∀ a∈l,Q a
def tQ {H:Type} (t:TypeId) (d:DataW H):Prop := ∀ n∈DataW.weights Tryz.prog t d,n<=reachBytes
theorem Vt {H:Type} {e:TypeId} : ∀ {l:List (DataW H)} {d:DataW H}, d∈l -> ∀ n∈DataW.weights Tryz.prog e d,n∈DataW.weightsAll Tryz.prog e l
 | x::l,d,h,n,hn=>by
  rw [DataW.weightsAll,ahl]
  rcases aha.1 h with rfl|h
  ·exact .inl hn
  ·exact .inr (Vt h n hn)
theorem fC {H:Type} : ∀ {ts:List TypeId} {l:List (DataW H)} {i:Nat} {t:TypeId} {d:DataW H}, ts[i]?=some t->l[i]?=some d -> ∀ n∈DataW.weights Tryz.prog t d,n∈DataW.weightsEach Tryz.prog ts l
 | t0::ts,d0::l,0,t,d,h1,h2,n,hn=>by
  simp at h1 h2;subst h1 h2
  rw [DataW.weightsEach,ahl];exact .inl hn
 | t0::ts,d0::l,i+1,t,d,h1,h2,n,hn=>by
  rw [DataW.weightsEach,ahl];exact .inr (fC (by simpa using h1) (by simpa using h2) n hn)
 | [],_,i,t,d,h1,_,n,hn=>by simp at h1
 | _::_,[],i,t,d,_,h2,n,hn=>by simp at h2
section
variable {H:Type} {enc:TypeId × Value->H} {W:World} {hT:kK (fun b o=>W.cell? ⟨b,o,none⟩)} {base:Nat} {spare:Nat->Bool} {held:Bool}
theorem gD {t:TypeId} (ht:Tryz.prog.underlying t=some (.int .i64)) {cs:List Value} {fuel:Nat} {x:DataW H × List MemPlace} (h:DataW.trod enc Tryz.prog W base spare held fuel t cs=some x) : ∃ n:Int,ng hT cs [.int .i64 n]/\PY n:=by
 obtain ⟨n,rfl,_,hw⟩:=DataW.trod_int ht h
 rw [Lit.wf,ahb] at hw
 exact ⟨n,ng.one (.int _ _),ahm hw.1,ahm hw.2⟩
theorem P7 {t:TypeId} (ht:Tryz.prog.underlying t=some .string) {cs:List Value} {fuel:Nat} {x:DataW H × List MemPlace} (h:DataW.trod enc Tryz.prog W base spare held fuel t cs=some x) : ∃ s:ByteArray,ng hT cs [.str s]/\SOk s:=by
 obtain ⟨s,rfl,_,hs⟩:=DataW.trod_string ht h
 exact ⟨s,ng.one (.str _),hs⟩
theorem dU {α:Type} {t e:TypeId} {k:Nat} {f:α->List AC} {Q:α->Prop} (ht:Tryz.prog.underlying t=some (.slice e)) (hk:Tryz.prog.cellsOf e=k) {by_:Nat} (hby:Tryz.prog.bytesOf e=by_) (hk0:0<k) (hf : ∀ x,(f x).length=k) {cs:List Value} {fuel:Nat} {x:DataW H × List MemPlace} (h:DataW.trod enc Tryz.prog W base spare held fuel t cs=some x) (hw:tQ t x.1)
  (hr : ∀ (fuel':Nat) (cs':List Value) (x':DataW H × List MemPlace),fuel'<fuel->DataW.trod enc Tryz.prog W base spare held fuel' e cs'=some x'->tQ e x'.1 -> ∃ a,ng hT cs' (f a)/\Q a) : ∃ l:List α,ng hT cs [.lst (l.map f)]/\GK by_ Q l:=by
 rcases DataW.trod_slice ht h with ⟨rfl,_⟩|⟨a,len,cap,elems,rest,n,hfu,rfl,hxe,_,hlc,hm,hel,hx,_,_⟩
 ·exact ⟨[],ng.one (gp _ _ _),by simp,fun a ha=>by cases ha⟩
 ·have hww:(∀ n∈DataW.weightsAll Tryz.prog e (elems.map (·.1)),n<=reachBytes)/\len*by_<=reachBytes:=by
   rw [hxe] at hw
   unfold tQ at hw
   simp only [DataW.weights,ht] at hw
   refine ⟨fun n hn=>hw n (ahh _ (List.mem_append_left _ hn)),?_⟩
   have:=hw _ (ahG ..)
   simp only [ag7,hel,hby] at this
   exact Nat.le_trans (ahv _ (Nat.le_add_right _ _)) this
  have hi : ∀ i,i<len -> ∃ y,(∃ cs',W.cells? base (a.add (i*k)) k=some cs'/\ng hT cs' (f y))/\Q y:=by
   intro i hlt
   have h1:=hx i hlt
   rw [ag4 (by omega),hk] at h1
   cases hc:W.cells? base (a.add (i*k)) k with
   | none=>rw [hc] at h1;cases h1
   | some cs'=>rw [hc] at h1;obtain ⟨y,h2,h3⟩:=hr n cs' _ (by omega) h1 (fun m hm=>hww.1 m (Vt (List.mem_map_of_mem (f:=fun p:DataW H × List MemPlace=>p.1) (List.getElem_mem (by omega))) m hm));exact ⟨y,⟨cs',rfl,h2⟩,h3⟩
  rcases Nat.eq_zero_or_pos len with h0|h0
  ·subst h0;exact ⟨[],ng.one (gp _ _ _),by simp,fun a ha=>by cases ha⟩
  ·obtain ⟨y0,⟨cs0,hc0,_⟩,_⟩:=hi 0 h0
   let g:Nat->α:=fun i=>if h:i<len then Classical.choose (hi i h) else y0
   have hg : ∀ i,i<len->(∃ cs',W.cells? base (a.add (i*k)) k=some cs'/\ng hT cs' (f (g i)))/\Q (g i):=by
    intro i hlt
    have:g i=Classical.choose (hi i hlt):=by simp [g,hlt]
    rw [this]
    exact Classical.choose_spec (hi i hlt)
   obtain ⟨b,off,spot⟩:=a
   have hs0:spot=none:=by
    obtain ⟨_,hl,hat⟩:=World.cells?_some hc0
    have h1:=hat 0 hk0
    rw [ag4 (by omega)] at h1
    have:=World.cell?_spot h1
    simpa [Addr.add] using this
   subst hs0
   refine ⟨(List.range len).map g,ng.one ?_,(by rw [ag7,List.length_range];exact hww.2),?_⟩
   ·have cell : ∀ i,i<len -> ∀ j,j<k -> ∃ u y,W.cell? ⟨b,off+(i*k+j),none⟩=some u/\(f (g i))[j]?=some y/\bP (RW hT) u y:=by
     intro i hlt j hj
     obtain ⟨⟨cs',hc,hcr⟩,_⟩:=hg i hlt
     obtain ⟨_,hl,hat⟩:=World.cells?_some hc
     have h1:=hat j hj
     rw [ag4 (by omega)] at h1
     have hfl:=hf (g i)
     refine ⟨_,_,?_,ag4 (by omega),hcr.2 j _ _ (ag4 (by omega)) (ag4 (by omega))⟩
     rw [addr_add,addr_add,Nat.add_assoc] at h1
     exact h1
    refine .lst (some ⟨b,off,none⟩) len cap _ k (fun j=>(W.cell? ⟨b,off+j,none⟩).getD (.bool false)) b off (by simp) hlc ?_ (fun _=>rfl) ?_ ?_
    ·intro e he
     simp only [List.map_map,aht] at he
     obtain ⟨i,_,rfl⟩:=he
     exact hf _
    ·intro j hj
     have hd:j/k<len:=by rw [Nat.div_lt_iff_lt_mul hk0];exact hj
     obtain ⟨u,y,h1,_,_⟩:=cell (j/k) hd (j%k) (Nat.mod_lt _ hk0)
     have hjj:j/k*k+j%k=j:=by rw [Nat.mul_comm];exact Nat.div_add_mod j k
     rw [hjj] at h1
     show W.cell? _=_
     rw [h1];rfl
    ·intro i e j x he hxx
     have hlt:i<len:=by have:=(agV.1 he).1;simpa using this
     have:e=f (g i):=by simp [hlt] at he;exact he.symm
     subst this
     have hj:j<k:=by have:=(agV.1 hxx).1;rw [hf] at this;exact this
     obtain ⟨u,y,h1,h2,h3⟩:=cell i hlt j hj
     rw [h2] at hxx
     obtain rfl:=ahq hxx
     rw [h1];exact h3
   ·intro a ha
    simp only [aht,List.mem_range] at ha
    obtain ⟨i,hlt,rfl⟩:=ha
    exact (hg i hlt).2
theorem CU {s:TypeId} {x:DataW H × List MemPlace} {fs:Array Field} {n:Nat} {cs:List Value} {xs:List (DataW H × List MemPlace)} (hs:Tryz.prog.underlying s=some (.struct fs)) (hx:x=(.agg (xs.map (·.1)),xs.flatMap (·.2))) (hw:tQ s x.1) (hl:xs.length=fs.size) (hf : ∀ (i:Nat) (f:Field),fs[i]?=some f->DataW.trod enc Tryz.prog W base spare held n f.type ((cs.drop f.offset).take (Tryz.prog.cellsOf f.type))=xs[i]?)
  (i:Nat) {f:Field} {t o k:Nat} (hi:fs[i]?=some f) (h1:f.type=t) (h2:f.offset=o) (h3:Tryz.prog.cellsOf t=k) : ∃ y,DataW.trod enc Tryz.prog W base spare held n t ((cs.drop o).take k)=some y/\tQ t y.1:=by
 have hlt:i<fs.size:=(ahD.1 hi).1
 have:=hf i f hi
 rw [h1,h2,h3,ag4 (by omega)] at this
 refine ⟨_,this,fun m hm=>?_⟩
 rw [hx] at hw
 unfold tQ at hw
 simp only [DataW.weights,hs] at hw
 refine hw m (fC (i:=i) ?_ ?_ m hm)
 ·rw [ahg,Array.getElem?_toList,hi];simp [h1]
 ·rw [ahg,ag4 (by omega)];rfl
end
structure Bc (x:Val):Prop where
 kind:PY x.kind
 int:PY x.int
 text:SOk x.text
section
variable {H:Type} {enc:TypeId × Value->H} {W:World} {hT:kK (fun b o=>W.cell? ⟨b,o,none⟩)} {base:Nat} {spare:Nat->Bool} {held:Bool}
theorem Zl : ∀ (fuel:Nat) {cs:List Value} {x:DataW H × List MemPlace}, DataW.trod enc Tryz.prog W base spare held fuel 27 cs=some x->tQ 27 x.1 -> ∃ a:Val,ng hT cs (cV a)/\Bc a:=by
 intro fuel
 intro cs x h hw
 obtain ⟨xs,n,hfu,hxe,hlen,hxs,hf⟩:=DataW.trod_struct Tryz.underlying27 h
 rw [show Tryz.prog.cellsOf 27=3 by kernel_rfl] at hlen
 obtain ⟨c0,c1,c2,rfl⟩:=aaK hlen
 obtain ⟨y0,h0,w0⟩:=CU Tryz.underlying27 hxe hw hxs hf 0 (t:=3) (o:=0) (k:=1) rfl rfl rfl (by kernel_rfl)
 replace h0:DataW.trod enc Tryz.prog W base spare held n 3 [c0]=some y0:=h0
 obtain ⟨l0,r0,q0⟩:=gD Tryz.underlying3 h0
 obtain ⟨y1,h1,w1⟩:=CU Tryz.underlying27 hxe hw hxs hf 1 (t:=3) (o:=1) (k:=1) rfl rfl rfl (by kernel_rfl)
 replace h1:DataW.trod enc Tryz.prog W base spare held n 3 [c1]=some y1:=h1
 obtain ⟨l1,r1,q1⟩:=gD Tryz.underlying3 h1
 obtain ⟨y2,h2,w2⟩:=CU Tryz.underlying27 hxe hw hxs hf 2 (t:=9) (o:=2) (k:=1) rfl rfl rfl (by kernel_rfl)
 replace h2:DataW.trod enc Tryz.prog W base spare held n 9 [c2]=some y2:=h2
 obtain ⟨l2,r2,q2⟩:=P7 Tryz.underlying9 h2
 exact ⟨⟨l0,l1,l2⟩,((r0.app r1).app r2),⟨q0,q1,q2⟩⟩
end
structure DU (x:aI):Prop where
 lo:PY x.lo
 hi:PY x.hi
section
variable {H:Type} {enc:TypeId × Value->H} {W:World} {hT:kK (fun b o=>W.cell? ⟨b,o,none⟩)} {base:Nat} {spare:Nat->Bool} {held:Bool}
theorem Jj : ∀ (fuel:Nat) {cs:List Value} {x:DataW H × List MemPlace}, DataW.trod enc Tryz.prog W base spare held fuel 33 cs=some x->tQ 33 x.1 -> ∃ a:aI,ng hT cs (bE a)/\DU a:=by
 intro fuel
 intro cs x h hw
 obtain ⟨xs,n,hfu,hxe,hlen,hxs,hf⟩:=DataW.trod_struct Tryz.underlying33 h
 rw [show Tryz.prog.cellsOf 33=2 by kernel_rfl] at hlen
 obtain ⟨c0,c1,rfl⟩:=Kg hlen
 obtain ⟨y0,h0,w0⟩:=CU Tryz.underlying33 hxe hw hxs hf 0 (t:=3) (o:=0) (k:=1) rfl rfl rfl (by kernel_rfl)
 replace h0:DataW.trod enc Tryz.prog W base spare held n 3 [c0]=some y0:=h0
 obtain ⟨l0,r0,q0⟩:=gD Tryz.underlying3 h0
 obtain ⟨y1,h1,w1⟩:=CU Tryz.underlying33 hxe hw hxs hf 1 (t:=3) (o:=1) (k:=1) rfl rfl rfl (by kernel_rfl)
 replace h1:DataW.trod enc Tryz.prog W base spare held n 3 [c1]=some y1:=h1
 obtain ⟨l1,r1,q1⟩:=gD Tryz.underlying3 h1
 exact ⟨⟨l0,l1⟩,(r0.app r1),⟨q0,q1⟩⟩
theorem PE {cs:List Value} {fuel:Nat} {x:DataW H × List MemPlace} (h:DataW.trod enc Tryz.prog W base spare held fuel 45 cs=some x) (hw:tQ 45 x.1) : ∃ l:List Val,ng hT cs [.lst (l.map cV)]/\GK 32 Bc l :=
 dU (k:=3) (f:=cV) (Q:=Bc) Tryz.underlying45 (by kernel_rfl) (by kernel_rfl) (by decide) (fun _=>rfl) h hw (fun f c x _ h hw=>Zl f h hw)
end
structure VD (x:aj):Prop where
 row:(GK 32 Bc) x.row
 valid:DU x.valid
section
variable {H:Type} {enc:TypeId × Value->H} {W:World} {hT:kK (fun b o=>W.cell? ⟨b,o,none⟩)} {base:Nat} {spare:Nat->Bool} {held:Bool}
theorem aeh : ∀ (fuel:Nat) {cs:List Value} {x:DataW H × List MemPlace}, DataW.trod enc Tryz.prog W base spare held fuel 50 cs=some x->tQ 50 x.1 -> ∃ a:aj,ng hT cs (aJ a)/\VD a:=by
 intro fuel
 intro cs x h hw
 obtain ⟨xs,n,hfu,hxe,hlen,hxs,hf⟩:=DataW.trod_struct Tryz.underlying50 h
 rw [show Tryz.prog.cellsOf 50=3 by kernel_rfl] at hlen
 obtain ⟨c0,c1,c2,rfl⟩:=aaK hlen
 obtain ⟨y0,h0,w0⟩:=CU Tryz.underlying50 hxe hw hxs hf 0 (t:=45) (o:=0) (k:=1) rfl rfl rfl (by kernel_rfl)
 replace h0:DataW.trod enc Tryz.prog W base spare held n 45 [c0]=some y0:=h0
 obtain ⟨l0,r0,q0⟩:=PE h0 w0
 obtain ⟨y1,h1,w1⟩:=CU Tryz.underlying50 hxe hw hxs hf 1 (t:=33) (o:=1) (k:=2) rfl rfl rfl (by kernel_rfl)
 replace h1:DataW.trod enc Tryz.prog W base spare held n 33 [c1,c2]=some y1:=h1
 obtain ⟨l1,r1,q1⟩:=Jj n h1 w1
 exact ⟨⟨l0,l1⟩,(r0.app r1),⟨q0,q1⟩⟩
theorem adQ {cs:List Value} {fuel:Nat} {x:DataW H × List MemPlace} (h:DataW.trod enc Tryz.prog W base spare held fuel 22 cs=some x) (hw:tQ 22 x.1) : ∃ l:List Int,ng hT cs [.lst (l.map (fun x=>[AC.int .i64 x]))]/\GK 8 PY l :=
 dU (k:=1) (f:=(fun x=>[AC.int .i64 x])) (Q:=PY) Tryz.underlying22 (by kernel_rfl) (by kernel_rfl) (by decide) (fun _=>rfl) h hw (fun f c x _ h hw=>gD Tryz.underlying3 h)
theorem adt {cs:List Value} {fuel:Nat} {x:DataW H × List MemPlace} (h:DataW.trod enc Tryz.prog W base spare held fuel 23 cs=some x) (hw:tQ 23 x.1) : ∃ l:List aj,ng hT cs [.lst (l.map aJ)]/\GK 40 VD l :=
 dU (k:=3) (f:=aJ) (Q:=VD) Tryz.underlying23 (by kernel_rfl) (by kernel_rfl) (by decide) (fun _=>rfl) h hw (fun f c x _ h hw=>aeh f h hw)
end
structure uj (x:dA):Prop where
 kinds:(GK 8 PY) x.kinds
 facts:(GK 40 VD) x.facts
section
variable {H:Type} {enc:TypeId × Value->H} {W:World} {hT:kK (fun b o=>W.cell? ⟨b,o,none⟩)} {base:Nat} {spare:Nat->Bool} {held:Bool}
theorem EE : ∀ (fuel:Nat) {cs:List Value} {x:DataW H × List MemPlace}, DataW.trod enc Tryz.prog W base spare held fuel 25 cs=some x->tQ 25 x.1 -> ∃ a:dA,ng hT cs (tL a)/\uj a:=by
 intro fuel
 intro cs x h hw
 obtain ⟨xs,n,hfu,hxe,hlen,hxs,hf⟩:=DataW.trod_struct Tryz.underlying25 h
 rw [show Tryz.prog.cellsOf 25=2 by kernel_rfl] at hlen
 obtain ⟨c0,c1,rfl⟩:=Kg hlen
 obtain ⟨y0,h0,w0⟩:=CU Tryz.underlying25 hxe hw hxs hf 0 (t:=22) (o:=0) (k:=1) rfl rfl rfl (by kernel_rfl)
 replace h0:DataW.trod enc Tryz.prog W base spare held n 22 [c0]=some y0:=h0
 obtain ⟨l0,r0,q0⟩:=adQ h0 w0
 obtain ⟨y1,h1,w1⟩:=CU Tryz.underlying25 hxe hw hxs hf 1 (t:=23) (o:=1) (k:=1) rfl rfl rfl (by kernel_rfl)
 replace h1:DataW.trod enc Tryz.prog W base spare held n 23 [c1]=some y1:=h1
 obtain ⟨l1,r1,q1⟩:=adt h1 w1
 exact ⟨⟨l0,l1⟩,(r0.app r1),⟨q0,q1⟩⟩
end
inductive R5:Ex->Prop
 | mk {op:Int} {int:Int} {v:Val} {nm:ByteArray} {args:(List Ex)} (h0:PY op) (h1:PY int) (h2:Bc v) (h3:SOk nm) (h4:args.length*88<=reachBytes) (g4 : ∀ a∈args,R5 a):R5 (.mk op int v nm args)
section
variable {H:Type} {enc:TypeId × Value->H} {W:World} {hT:kK (fun b o=>W.cell? ⟨b,o,none⟩)} {base:Nat} {spare:Nat->Bool} {held:Bool}
theorem ac4 : ∀ (fuel:Nat) {cs:List Value} {x:DataW H × List MemPlace}, DataW.trod enc Tryz.prog W base spare held fuel 30 cs=some x->tQ 30 x.1 -> ∃ a:Ex,ng hT cs (tE a)/\R5 a:=by
 intro fuel
 induction fuel using Nat.strongRecOn with
 | ind fuel ih =>
 intro cs x h hw
 obtain ⟨xs,n,hfu,hxe,hlen,hxs,hf⟩:=DataW.trod_struct Tryz.underlying30 h
 rw [show Tryz.prog.cellsOf 30=7 by kernel_rfl] at hlen
 obtain ⟨c0,c1,c2,c3,c4,c5,c6,rfl⟩:=aeW hlen
 obtain ⟨y0,h0,w0⟩:=CU Tryz.underlying30 hxe hw hxs hf 0 (t:=3) (o:=0) (k:=1) rfl rfl rfl (by kernel_rfl)
 replace h0:DataW.trod enc Tryz.prog W base spare held n 3 [c0]=some y0:=h0
 obtain ⟨l0,r0,q0⟩:=gD Tryz.underlying3 h0
 obtain ⟨y1,h1,w1⟩:=CU Tryz.underlying30 hxe hw hxs hf 1 (t:=3) (o:=1) (k:=1) rfl rfl rfl (by kernel_rfl)
 replace h1:DataW.trod enc Tryz.prog W base spare held n 3 [c1]=some y1:=h1
 obtain ⟨l1,r1,q1⟩:=gD Tryz.underlying3 h1
 obtain ⟨y2,h2,w2⟩:=CU Tryz.underlying30 hxe hw hxs hf 2 (t:=27) (o:=2) (k:=3) rfl rfl rfl (by kernel_rfl)
 replace h2:DataW.trod enc Tryz.prog W base spare held n 27 [c2,c3,c4]=some y2:=h2
 obtain ⟨l2,r2,q2⟩:=Zl n h2 w2
 obtain ⟨y3,h3,w3⟩:=CU Tryz.underlying30 hxe hw hxs hf 3 (t:=9) (o:=5) (k:=1) rfl rfl rfl (by kernel_rfl)
 replace h3:DataW.trod enc Tryz.prog W base spare held n 9 [c5]=some y3:=h3
 obtain ⟨l3,r3,q3⟩:=P7 Tryz.underlying9 h3
 obtain ⟨y4,h4,w4⟩:=CU Tryz.underlying30 hxe hw hxs hf 4 (t:=28) (o:=6) (k:=1) rfl rfl rfl (by kernel_rfl)
 replace h4:DataW.trod enc Tryz.prog W base spare held n 28 [c6]=some y4:=h4
 obtain ⟨l4,r4,q4⟩:=dU (k:=7) (f:=tE) (Q:=R5) Tryz.underlying28 (by kernel_rfl) (by kernel_rfl) (by decide) NS h4 w4 (fun f c x hlt h hw=>ih f (by omega) h hw)
 exact ⟨.mk l0 l1 l2 l3 l4,(by rw [aC];exact ((((r0.app r1).app r2).app r3).app r4)), .mk q0 q1 q2 q3 q4.1 q4.2⟩
theorem adF {cs:List Value} {fuel:Nat} {x:DataW H × List MemPlace} (h:DataW.trod enc Tryz.prog W base spare held fuel 28 cs=some x) (hw:tQ 28 x.1) : ∃ l:List Ex,ng hT cs [.lst (l.map tE)]/\GK 88 R5 l :=
 dU (k:=7) (f:=tE) (Q:=R5) Tryz.underlying28 (by kernel_rfl) (by kernel_rfl) (by decide) NS h hw (fun f c x _ h hw=>ac4 f h hw)
theorem aes {cs:List Value} {fuel:Nat} {x:DataW H × List MemPlace} (h:DataW.trod enc Tryz.prog W base spare held fuel 31 cs=some x) (hw:tQ 31 x.1) : ∃ l:List (List Val),ng hT cs [.lst (l.map (fun x=>[AC.lst (x.map cV)]))]/\GK 24 (GK 32 Bc) l :=
 dU (k:=1) (f:=(fun x=>[AC.lst (x.map cV)])) (Q:=(GK 32 Bc)) Tryz.underlying31 (by kernel_rfl) (by kernel_rfl) (by decide) (fun _=>rfl) h hw (fun f c x _ h hw=>PE h hw)
end
structure kw (x:cO):Prop where
 pred:R5 x.pred
 sets:(GK 88 R5) x.sets
 rows:(GK 24 (GK 32 Bc)) x.rows
 during:DU x.during
section
variable {H:Type} {enc:TypeId × Value->H} {W:World} {hT:kK (fun b o=>W.cell? ⟨b,o,none⟩)} {base:Nat} {spare:Nat->Bool} {held:Bool}
theorem uz : ∀ (fuel:Nat) {cs:List Value} {x:DataW H × List MemPlace}, DataW.trod enc Tryz.prog W base spare held fuel 35 cs=some x->tQ 35 x.1 -> ∃ a:cO,ng hT cs (iB a)/\kw a:=by
 intro fuel
 intro cs x h hw
 obtain ⟨xs,n,hfu,hxe,hlen,hxs,hf⟩:=DataW.trod_struct Tryz.underlying35 h
 rw [show Tryz.prog.cellsOf 35=11 by kernel_rfl] at hlen
 obtain ⟨c0,c1,c2,c3,c4,c5,c6,c7,c8,c9,c10,rfl⟩:=adV hlen
 obtain ⟨y0,h0,w0⟩:=CU Tryz.underlying35 hxe hw hxs hf 0 (t:=30) (o:=0) (k:=7) rfl rfl rfl (by kernel_rfl)
 replace h0:DataW.trod enc Tryz.prog W base spare held n 30 [c0,c1,c2,c3,c4,c5,c6]=some y0:=h0
 obtain ⟨l0,r0,q0⟩:=ac4 n h0 w0
 obtain ⟨y1,h1,w1⟩:=CU Tryz.underlying35 hxe hw hxs hf 1 (t:=28) (o:=7) (k:=1) rfl rfl rfl (by kernel_rfl)
 replace h1:DataW.trod enc Tryz.prog W base spare held n 28 [c7]=some y1:=h1
 obtain ⟨l1,r1,q1⟩:=adF h1 w1
 obtain ⟨y2,h2,w2⟩:=CU Tryz.underlying35 hxe hw hxs hf 2 (t:=31) (o:=8) (k:=1) rfl rfl rfl (by kernel_rfl)
 replace h2:DataW.trod enc Tryz.prog W base spare held n 31 [c8]=some y2:=h2
 obtain ⟨l2,r2,q2⟩:=aes h2 w2
 obtain ⟨y3,h3,w3⟩:=CU Tryz.underlying35 hxe hw hxs hf 3 (t:=33) (o:=9) (k:=2) rfl rfl rfl (by kernel_rfl)
 replace h3:DataW.trod enc Tryz.prog W base spare held n 33 [c9,c10]=some y3:=h3
 obtain ⟨l3,r3,q3⟩:=Jj n h3 w3
 exact ⟨⟨l0,l1,l2,l3⟩,(by rw [aC] at r0;exact (((r0.app r1).app r2).app r3)),⟨q0,q1,q2,q3⟩⟩
end
theorem Hu : ∀ (a b x y:List UInt8),(32:UInt8)∉a->(32:UInt8)∉b->a++32::x=b++32::y->a=b/\x=y
 | [],[],x,y,_,_,h=>by simpa using h
 | [],c::b,x,y,_,hb,h=>by
  simp at h
  exact absurd h.1.symm (fun e=>hb (by rw [e];simp))
 | c::a,[],x,y,ha,_,h=>by
  simp at h
  exact absurd h.1 (fun e=>ha (by rw [e];simp))
 | c::a,d::b,x,y,ha,hb,h=>by
  simp at h
  obtain ⟨h1,h2⟩:=Hu a b x y (fun q=>ha (ahh _ q)) (fun q=>hb (ahh _ q)) h.2
  exact ⟨by rw [h.1,h1],h2⟩
def Y0 (b:UInt8):Prop:=48<=b.toNat/\b.toNat<=57
theorem O3 {d:Nat} (h:d<10):(UInt8.ofNat (48+d)).toNat=48+d:=by
 rw [UInt8.toNat_ofNat'];omega
theorem tY (u:Nat) : ∀ b∈Lib.decDigits u,Y0 b:=by
 induction u using Nat.strongRecOn with
 | _ u ih =>
  intro b hb
  rw [Lib.decDigits] at hb
  split at hb
  ·rename_i h
   rw [ahz.1 hb];unfold Y0;rw [O3 h];omega
  ·rename_i h
   rcases ahl.1 hb with hb|hb
   ·exact ih (u/10) (by omega) b hb
   ·rw [ahz.1 hb];unfold Y0;rw [O3 (by omega)];omega
def Pj (l:List UInt8):Nat:=l.foldl (fun a b=>a*10+(b.toNat-48)) 0
theorem Qx (l:List UInt8) (b:UInt8):Pj (l++[b])=Pj l*10+(b.toNat-48):=by unfold Pj;rw [List.foldl_append];rfl
theorem AY (u:Nat):Pj (Lib.decDigits u)=u:=by
 induction u using Nat.strongRecOn with
 | _ u ih =>
  rw [Lib.decDigits]
  split
  ·rename_i h
   show 0*10+((UInt8.ofNat (48+u)).toNat-48)=u
   rw [O3 h];omega
  ·rename_i h
   rw [Qx,ih (u/10) (by omega),O3 (by omega)];omega
theorem A9 {u v:Nat} (h:Lib.decDigits u=Lib.decDigits v):u=v:=by rw [<- AY u,h,AY]
theorem qo (n:Int):(32:UInt8)∉Lib.itoa n:=by
 intro h
 unfold Lib.itoa at h
 split at h
 ·rcases aha.1 h with h|h
  ·exact absurd h (by decide)
  ·have:=(tY _ _ h).1;exact absurd this (by decide)
 ·have:=(tY _ _ h).1;exact absurd this (by decide)
theorem Il {n m:Int} (h:Lib.itoa n=Lib.itoa m):n=m:=by
 have key : ∀ (a b:Nat),Lib.decDigits a≠45::Lib.decDigits b:=by
  intro a b e
  have:=(tY a 45 (by rw [e];simp)).1
  exact absurd this (by decide)
 unfold Lib.itoa at h
 split at h<;>split at h
 ·have:=A9 (List.cons.inj h).2;omega
 ·exact absurd h.symm (key _ _)
 ·exact absurd h (key _ _)
 ·have:=A9 h;omega
def DN (v:Val):List UInt8:=Lib.itoa v.kind++32::(Lib.itoa v.int++32::(Lib.itoa v.text.size++32::v.text.data.toList))
def LG (l:List Val):List UInt8:=l.flatMap DN
theorem ad4 (a b:ByteArray):(a++b).data.toList=a.data.toList++b.data.toList:=by simp
theorem NE (l:List Val):(dP l).data.toList=LG l:=by
 have : ∀ (l:List Val) (a:ByteArray),(l.foldl (fun a v=>nS a (Dp v)++v.text) a).data.toList=a.data.toList++LG l:=by
  intro l
  induction l with
  | nil=>intro a;simp [LG]
  | cons v l ih =>
   intro a
   rw [ahJ,ih]
   have e:nS a (Dp v)=a++nu v.kind++c32++nu v.int++c32++nu v.text.size++c32:=rfl
   have e1 : ∀ n,(nu n).data.toList=Lib.itoa n:=fun n=>rfl
   have e2:c32.data.toList=[32]:=rfl
   rw [e]
   simp only [ad4,e1,e2,LG,ahw,DN,ahk,List.cons_append,ag0]
 have:=this l ⟨#[]⟩
 simpa [dP] using this
theorem Wp {v w:Val} {x y:List UInt8} (h:DN v++x=DN w++y):v=w/\x=y:=by
 unfold DN at h
 simp only [ahk,List.cons_append] at h
 obtain ⟨h1,h⟩:=Hu _ _ _ _ (qo _) (qo _) h
 obtain ⟨h2,h⟩:=Hu _ _ _ _ (qo _) (qo _) h
 obtain ⟨h3,h⟩:=Hu _ _ _ _ (qo _) (qo _) h
 have h3:=Il h3
 have hs:v.text.data.toList.length=w.text.data.toList.length:=by
  have e : ∀ s:ByteArray,s.data.toList.length=s.size:=fun s=>rfl
  rw [e,e];omega
 obtain ⟨h4,h5⟩:=List.append_inj h hs
 refine ⟨?_,h5⟩
 obtain ⟨a,b,⟨⟨c⟩⟩⟩:=v
 obtain ⟨a',b',⟨⟨c'⟩⟩⟩:=w
 simp only at h1 h2 h4
 rw [Il h1,Il h2,h4]
theorem Q8 : ∀ (a b:List Val),LG a=LG b->a=b
 | [],[],_=>rfl
 | [],w::b,h=>by
  have:=congrArg List.length h
  simp [LG,DN] at this
 | v::a,[],h=>by
  have:=congrArg List.length h
  simp [LG,DN] at this
 | v::a,w::b,h=>by
  have h':DN v++LG a=DN w++LG b:=h
  obtain ⟨h1,h2⟩:=Wp h'
  rw [h1,Q8 a b h2]
theorem key_inj {a b:List Val} (h:dP a=dP b):a=b:=Q8 a b (by rw [<- NE, <- NE,h])
end Go.Proofs.YtcehmafobkhdbaaGreatDoor
namespace Go.Proofs.YtcehmafobkhdbaaGreatDoor.St
open Go.RowKit
theorem Zh {A B:List ((Int × Int) × Int)} (h:(CS A).Perm (CS B)):P5 A=P5 B:=by
 have h1:pF A=pF B:=by
  funext p
  rw [wT,wT, <- D6 A p, <- D6 B p,Nh h]
 have h2:iq A=iq B:=by
  refine (jI A).1.ext (jI B).1 fun x=>?_
  rw [(jI A).2,(jI B).2]
  constructor
  ·rintro ⟨h3|⟨y,hy⟩,h4⟩
   ·exact ⟨.inl h3,h4⟩
   ·exact ⟨.inr ⟨y,h.mem_iff.1 hy⟩,h4⟩
  ·rintro ⟨h3|⟨y,hy⟩,h4⟩
   ·exact ⟨.inl h3,h4⟩
   ·exact ⟨.inr ⟨y,h.mem_iff.2 hy⟩,h4⟩
 unfold P5
 rw [h1,h2]
theorem Lc {P:List Int} (h:d_ P):P.Pairwise (· < ·):=List.pairwise_iff_getElem.2 fun i j hi hj hij=>h i j _ _ hij (ag4 hi) (ag4 hj)
theorem GA {l:List (Int × Int)} (h:l.Pairwise fun x y=>x.1<y.1):Asc l:=by
 intro i j x y hij hx hy
 obtain ⟨hi,rfl⟩:=agV.1 hx
 obtain ⟨hj,rfl⟩:=agV.1 hy
 exact List.pairwise_iff_getElem.1 h i j hi hj hij
theorem Nj (f:Int->Int) : ∀ (P:List Int) (acc:List (Int × Int)),P.Pairwise (· < ·)->(acc.Pairwise fun x y=>x.1<y.1)->(∀ s∈acc, ∀ x∈P,s.1<x)->(∀ s∈acc,s.2=f s.1) ->
  ((P.foldl (fun acc p=>fU acc (p,f p)) acc).Pairwise fun x y=>x.1<y.1) /\ ∀ s∈P.foldl (fun acc p=>fU acc (p,f p)) acc,(s∈acc\/s.1∈P)/\s.2=f s.1
 | [],acc,_,h2,_,h4=>⟨h2,fun s hs=>⟨.inl hs,h4 s hs⟩⟩
 | x::P,acc,h1,h2,h3,h4=>by
  rw [ahJ]
  have hp:=ahP.1 h1
  have hput : ∀ s∈fU acc (x,f x),s∈acc\/s=(x,f x):=by
   intro s hs
   unfold fU at hs
   split at hs
   ·exact .inl hs
   ·rcases ahl.1 hs with hs|hs
    ·exact .inl hs
    ·exact .inr (ahz.1 hs)
  have hpw:(fU acc (x,f x)).Pairwise fun x y=>x.1<y.1:=by
   unfold fU
   split
   ·exact h2
   ·refine List.pairwise_append.2 ⟨h2,List.pairwise_singleton _ _,fun a ha b hb=>?_⟩
    rw [ahz.1 hb]
    exact h3 a ha x (by simp)
  obtain ⟨q1,q2⟩:=Nj f P (fU acc (x,f x)) hp.2 hpw (fun s hs y hy=>by
   rcases hput s hs with h|rfl
   ·exact h3 s h y (ahh _ hy)
   ·exact hp.1 y hy) (fun s hs=>by
   rcases hput s hs with h|rfl
   ·exact h4 s h
   ·rfl)
  refine ⟨q1,fun s hs=>?_⟩
  obtain ⟨h5,h6⟩:=q2 s hs
  refine ⟨?_,h6⟩
  rcases h5 with h5|h5
  ·rcases hput s h5 with h|rfl
   ·exact .inl h
   ·exact .inr (by simp)
  ·exact .inr (ahh _ h5)
theorem Ih (l:List ((Int × Int) × Int)):Asc (P5 l) /\ ∀ s∈P5 l,s.1<1099511627776/\s.2=pF l s.1:=by
 obtain ⟨h1,h2⟩:=Nj (pF l) (iq l) [] (Lc (jI l).1) List.Pairwise.nil (fun s hs=>by cases hs) (fun s hs=>by cases hs)
 refine ⟨GA h1,fun s hs=>?_⟩
 obtain ⟨h3,h4⟩:=h2 s hs
 rcases h3 with h3|h3
 ·cases h3
 ·exact ⟨((jI l).2 s.1).1 h3 |>.2,h4⟩
theorem Vp (l:List ((Int × Int) × Int)):(P5 l).length<=1+2*l.length:=by
 have h1:=ql (pF l) (iq l)
 have h2:(iq l).length<=1+2*l.length:=by
  have ha : ∀ (l:List ((Int × Int) × Int)) (p:List Int),(l.foldl (fun p c=>if aO c.1 then ins c.1.2 (ins c.1.1 p) else p) p).length<=p.length+2*l.length:=by
   intro l
   induction l with
   | nil=>intro p;simp
   | cons c l ih =>
    intro p
    rw [ahJ,ahf]
    have:=ih (if aO c.1 then ins c.1.2 (ins c.1.1 p) else p)
    have h3:(if aO c.1 then ins c.1.2 (ins c.1.1 p) else p).length<=p.length+2:=by
     split
     ·have q1:=sZ c.1.2 (ins c.1.1 p);have q2:=sZ c.1.1 p;omega
     ·omega
    omega
  have h4:=ha l [0]
  have h5:(iq l).length<=(FV l).length:=by unfold iq;exact Bf _ _
  have h6:FV l=l.foldl (fun p c=>if aO c.1 then ins c.1.2 (ins c.1.1 p) else p) [0]:=rfl
  rw [h6] at h5
  simp at h4;omega
 show (dJ (pF l) (iq l)).length<=_
 omega
theorem Fb (p:Int) : ∀ l:List ((Int × Int) × Int),(∀ c∈l,c.2=1)->0<=tH l p/\tH l p<=l.length
 | [],_=>by simp [tH]
 | c::l,h=>by
  have ih:=Fb p l fun x hx=>h x (ahh _ hx)
  have hi:tH (c::l) p=(if a_ c.1 p then c.2 else 0)+tH l p:=by simp [tH]
  have hc:=h c (by simp)
  rw [hi,ahf]
  split<;>omega
theorem vk {l:List ((Int × Int) × Int)} (p:Int) (h : ∀ c∈l,c.2=1) (hn:l.length<=1000000):pF l p=tH l p:=by
 have:=Fb p l h
 rw [wT];unfold wrap64;omega
end Go.Proofs.YtcehmafobkhdbaaGreatDoor.St
namespace Go.Proofs.YtcehmafobkhdbaaGreatDoor
open Go.RowKit
def ones (ps:List aI):List FE:=ps.map fun p=>⟨p,1⟩
def bR (ps:List aI):List aI:=EC (AU (ones ps))
theorem yn (ps:List aI) : ∀ c∈(ones ps).map toC,c.2=1:=by
 intro c hc
 obtain ⟨x,hx,rfl⟩:=aht.1 hc
 obtain ⟨p,_,rfl⟩:=aht.1 hx
 rfl
theorem C_ (ps:List aI) (hn:ps.length<=300):Ng (AU (ones ps)):=by
 have hl:((ones ps).map toC).length=ps.length:=by simp [ones]
 obtain ⟨h1,h2⟩:=St.Ih ((ones ps).map toC)
 have h3:=St.Vp ((ones ps).map toC)
 rw [hl] at h3
 have e:(AU (ones ps)).map toS=St.P5 ((ones ps).map toC):=by
  unfold AU
  rw [List.map_map]
  have:(toS∘ofS)=id:=by funext x;rfl
  rw [this,List.map_id]
 refine ⟨by unfold AU;rw [ag7];omega,by rw [e];exact h1,fun s hs=>?_,fun s hs=>?_⟩
 ·have:toS s∈St.P5 ((ones ps).map toC):=by rw [<- e];exact List.mem_map_of_mem hs
  exact (h2 _ this).1
 ·have:toS s∈St.P5 ((ones ps).map toC):=by rw [<- e];exact List.mem_map_of_mem hs
  have h4:=(h2 _ this).2
  rw [St.vk _ (yn ps) (by omega)] at h4
  have h5:=(St.Fb (toS s).1 _ (yn ps)).2
  rw [hl] at h5
  show (toS s).2<=600
  omega
theorem Si (ps:List aI):St.CS ((ones ps).map toC)=ps.flatMap fun p=>St.pz (toP p,1):=by
 unfold St.CS ones
 rw [List.map_map,List.flatMap_map];rfl
theorem TC {ps qs:List aI} (h:(ps.filter fun p=>St.aO (toP p)).Perm (qs.filter fun p=>St.aO (toP p))):bR ps=bR qs:=by
 have key : ∀ l:List aI,(l.flatMap fun p=>St.pz (toP p,1))=(l.filter fun p=>St.aO (toP p)).flatMap fun p=>St.pz (toP p,1):=by
  intro l
  induction l with
  | nil=>rfl
  | cons p l ih =>
   rw [ahw,ih,List.filter_cons]
   by_cases hp:St.aO (toP p)=true
   ·rw [if_pos hp,ahw]
   ·have e:St.pz (toP p,1)=[]:=by unfold St.pz;rw [if_neg hp]
    rw [if_neg hp,e,ag0]
 have:AU (ones ps)=AU (ones qs):=by
  unfold AU
  rw [St.Zh (A:=(ones ps).map toC) (B:=(ones qs).map toC)]
  rw [Si,Si,key ps,key qs]
  exact h.flatMap_right _
 unfold bR
 rw [this]
theorem aaF {x:Int × Int} {l:List (Int × Int)} (h1:St.Hf l 1=[x]) (h2 : ∀ j:Nat,St.Hf l ((j:Int)+2)=[]):St.uD l=[x]:=by
 have:St.mR l=[x]:=by
  unfold St.mR
  rw [show (600:Nat)=599+1 from rfl,List.range_succ_eq_map,ahw]
  rw [show St.Hf l (((0:Nat):Int)+1)=[x] from h1]
  have:(List.map Nat.succ (List.range 599)).flatMap (fun j:Nat=>St.Hf l ((j:Int)+1))=[]:=by
   rw [List.flatMap_eq_nil_iff]
   intro j hj
   obtain ⟨k,_,rfl⟩:=aht.1 hj
   have:=h2 k
   rw [show ((k:Int)+2)=((Nat.succ k:Nat):Int)+1 by push_cast;omega] at this
   exact this
  rw [this,ahs]
 unfold St.uD
 rw [this]
 simp [St.jr]
theorem yE (p:Int × Int) (t:Int):St.pF [(p,1)] t=if St.a_ p t then 1 else 0:=by
 rw [St.vk t (by simp) (by simp)]
 simp [St.tH]
theorem Ye (p:aI) (hp:St.aO (toP p)=true):bR [p]=[p]:=by
 obtain ⟨a,b⟩:=p
 have hv:0<=a/\a<b/\b<=1099511627776:=by
  have h:St.aO (a,b)=true:=hp
  simp [St.aO] at h
  omega
 have hpts:St.iq [(((a,b):Int × Int),1)]=(if a=0 then [0] else [0,a])++(if b<1099511627776 then [b] else []):=by
  have e:St.FV [(((a,b):Int × Int),1)]=St.ins b (St.ins a [0]):=by
   unfold St.FV
   simp only [ahJ,List.foldl_nil]
   rw [if_pos (show St.aO (a,b)=true from hp)]
  unfold St.iq
  rw [e]
  have hF:(0:Int)<1099511627776:=by decide
  by_cases h0:a=0
  ·subst h0
   rw [show St.ins 0 [0]=[0] by simp [St.ins],show St.ins b [0]=[0,b] by simp only [St.ins];rw [if_pos (by omega)]]
   by_cases hb:b<1099511627776
   ·simp [List.takeWhile,hb]
   ·simp [List.takeWhile,hb]
  ·rw [show St.ins a [0]=[0,a] by simp only [St.ins];rw [if_pos (by omega)],show St.ins b [0,a]=[0,a,b] by simp only [St.ins];rw [if_pos (by omega),if_pos (by omega)]]
   have ha:a<1099511627776:=by omega
   by_cases hb:b<1099511627776
   ·simp [List.takeWhile,hb,ha,h0]
   ·simp [List.takeWhile,hb,ha,h0]
 have hof:St.P5 [(((a,b):Int × Int),1)]=(if a=0 then [(0,1)] else [(0,0),(a,1)])++(if b<1099511627776 then [(b,0)] else []):=by
  unfold St.P5
  rw [hpts]
  have r0:St.pF [(((a,b):Int × Int),1)] 0=if a=0 then 1 else 0:=by
   rw [yE]
   unfold St.a_
   have:St.aO (a,b)=true:=hp
   rw [this]
   by_cases h0:a=0
   ·subst h0;simp;omega
   ·have : ¬ a<=0:=by omega
    simp [h0,this]
  have ra:St.pF [(((a,b):Int × Int),1)] a=1:=by
   rw [yE]
   unfold St.a_
   have:St.aO (a,b)=true:=hp
   rw [this];simp;omega
  have rb:St.pF [(((a,b):Int × Int),1)] b=0:=by
   rw [yE]
   unfold St.a_
   have:St.aO (a,b)=true:=hp
   rw [this];simp
  by_cases h0:a=0
  ·rw [if_pos h0,if_pos h0]
   rw [if_pos h0] at r0
   by_cases hb:b<1099511627776
   ·rw [if_pos hb,if_pos hb]
    simp [St.dJ,St.fU,r0,rb]
   ·rw [if_neg hb,if_neg hb]
    simp [St.dJ,St.fU,r0]
  ·rw [if_neg h0,if_neg h0]
   rw [if_neg h0] at r0
   by_cases hb:b<1099511627776
   ·rw [if_pos hb,if_pos hb]
    simp [St.dJ,St.fU,r0,ra,rb]
   ·rw [if_neg hb,if_neg hb]
    simp [St.dJ,St.fU,r0,ra]
 have hl:St.uD (St.P5 [(((a,b):Int × Int),1)])=[(a,b)]:=by
  rw [hof]
  refine aaF ?_ fun j=>?_
  ·by_cases h0:a=0
   ·subst h0
    by_cases hb:b<1099511627776
    ·simp [hb,St.Hf,St.rR,St.dZ,St.jR]
    ·have:b=1099511627776:=by omega
     simp [this,St.Hf,St.rR,St.dZ,St.jR]
   ·by_cases hb:b<1099511627776
    ·simp [hb,h0,St.Hf,St.rR,St.dZ,St.jR]
    ·have:b=1099511627776:=by omega
     simp [this,h0,St.Hf,St.rR,St.dZ,St.jR]
  ·refine St.Hg.2 fun s hs=>?_
   have:s.2=0\/s.2=1:=by
    rcases ahl.1 hs with hs|hs
    ·split at hs
     ·rw [ahz.1 hs];exact .inr rfl
     ·rcases aha.1 hs with rfl|hs
      ·exact .inl rfl
      ·rw [ahz.1 hs];exact .inr rfl
    ·split at hs
     ·rw [ahz.1 hs];exact .inl rfl
     ·cases hs
   omega
 unfold bR EC AU ones
 rw [List.map_map,show (toS∘ofS)=id from rfl,List.map_id]
 show ((St.uD (St.P5 [(((a,b):Int × Int),1)])).map ofP)=_
 rw [hl];rfl
open Go.RowKit Go.MapKept
theorem df {α β ρ:Type} {l:List α} {body:(List β × Int)->Option (Step (List β × Int) ρ)} (g:α->List β) (N:Nat) (h1 : ∀ (s:List β) (i:Nat) x,l[i]?=some x->s.length+(g x).length<=N->body (s,(i:Int))=some (.next (s++g x,((i+1:Nat):Int)))) (h2 : ∀ s:List β,body (s,((l.length:Nat):Int))=some (.exit (s,((l.length:Nat):Int)))) (hl:l.length<fuel) (s:List β) (hN:s.length+(l.flatMap g).length<=N) :
  ax body fuel (s,(0:Int))=some (.inl (s++l.flatMap g,((l.length:Nat):Int))):=by
 have key : ∀ (n i:Nat) (s:List β),i<=l.length->l.length-i<n->s.length+((l.drop i).flatMap g).length<=N->ax body n (s,(i:Int))=some (.inl (s++(l.drop i).flatMap g,((l.length:Nat):Int))):=by
  intro n
  induction n with
  | zero=>intro i s _ h _;omega
  | succ n ih =>
   intro i s hi hn hs
   rw [ax]
   by_cases hlt:i<l.length
   ·obtain ⟨x,hx⟩:=gol_ hlt
    have e1:=(agV.1 hx).2
    rw [ahp hlt,e1,ahw] at hs ⊢
    rw [ag3] at hs
    rw [h1 s i x hx (by omega)]
    show ax body n _=_
    rw [ih (i+1) (s++g x) (by omega) (by omega) (by rw [ag3];omega),ahk]
   ·have:i=l.length:=by omega
    subst this
    rw [h2,ahO]
    simp
 have:=key fuel 0 s (ahe _) (by omega) (by simpa using hN)
 simpa using this
def Nt (l:List (List Val)):Prop:=l.Pairwise fun a b=>bS a b<0
theorem EM : ∀ {a b:List (List Val)}, Nt a->Nt b->(∀ x,x∈a↔x∈b)->a=b
 | [],[],_,_,_=>rfl
 | [],y::b,_,_,h=>by have:=(h y).2 (by simp);cases this
 | x::a,[],_,_,h=>by have:=(h x).1 (by simp);cases this
 | x::a,y::b,ha,hb,h=>by
  have ha:=ahP.1 ha
  have hb:=ahP.1 hb
  have irr : ∀ z, ¬ bS z z<0:=fun z=>by rw [tCr_.refl];omega
  have hxy:x=y:=by
   rcases aha.1 ((h x).1 (by simp)) with e|e
   ·exact e
   ·rcases aha.1 ((h y).2 (by simp)) with e2|e2
    ·exact e2.symm
    ·exact absurd (tCr_.trans _ _ _ (ha.1 y e2) (hb.1 x e)) (irr x)
  subst hxy
  rw [EM ha.2 hb.2 fun z=>?_]
  constructor
  ·intro hz
   rcases aha.1 ((h z).1 (ahh _ hz)) with rfl|e
   ·exact absurd (ha.1 z hz) (irr z)
   ·exact e
  ·intro hz
   rcases aha.1 ((h z).2 (ahh _ hz)) with rfl|e
   ·exact absurd (hb.1 z hz) (irr z)
   ·exact e
instance decRow (a b : List Val) : Decidable (a = b) := if h : bS a b = 0 then .isTrue (tCr_.zero _ _ h) else .isFalse fun e => h (by rw [e]; exact tCr_.refl _)
def bD (l:List aj) (r:List Val):List aI:=(l.filter fun f=>aL f.valid&&decide (f.row=r)).map (·.valid)
def fV (l:List aj) (R:List (List Val)):Prop:=Nt R /\ ∀ x,x∈R ↔ ∃ f∈l,aL f.valid=true/\f.row=x
def fO (l:List aj) (R:List (List Val)):List aj:=R.flatMap fun r=>(bR (bD l r)).map fun p=>⟨r,p⟩
theorem fV.ext {l:List aj} {R S:List (List Val)} (h:fV l R) (k:fV l S):R=S:=EM h.1 k.1 fun x=>(h.2 x).trans (k.2 x).symm
theorem qO (l:List aj) (f:aj) (r:List Val):bD (l++[f]) r=bD l r++(if aL f.valid&&decide (f.row=r) then [f.valid] else []):=by
 unfold bD
 rw [List.filter_append,ag8]
 congr 1
 by_cases h:(aL f.valid&&decide (f.row=r))=true
 ·simp [h]
 ·simp [h]
theorem K8 {s:ByteArray} : ∀ {G:List bL} {i:Nat}, ik s G=some i -> ∃ g,G[i]?=some g/\dP g.f.row=s
 | [],_,h=>by simp [ik] at h
 | g::r,i,h=>by
  unfold ik at h
  split at h
  ·rename_i e;injection h with h;subst h;exact ⟨g,rfl,e.symm⟩
  ·cases hr:ik s r with
   | none=>rw [hr] at h;cases h
   | some j =>
    rw [hr] at h;injection h with h;subst h
    obtain ⟨g',h1,h2⟩:=K8 hr
    exact ⟨g',by simpa using h1,h2⟩
theorem Jd {s:ByteArray} : ∀ {G:List bL}, ik s G=none -> ∀ g∈G,dP g.f.row≠s
 | [],_,g,hg=>by cases hg
 | x::r,h,g,hg=>by
  unfold ik at h
  split at h
  ·cases h
  ·rename_i e
   cases hr:ik s r with
   | none =>
    rcases aha.1 hg with rfl|hg
    ·exact fun q=>e q.symm
    ·exact Jd hr g hg
   | some j=>rw [hr] at h;cases h
structure GInv (l:List aj) (G:List bL):Prop where
 nd:G.Pairwise fun g h=>g.f.row≠h.f.row
 ps : ∀ g∈G,g.ps=bD l g.f.row
 mem : ∀ g∈G, ∃ f∈l,aL f.valid=true/\f.row=g.f.row
 all : ∀ f∈l,aL f.valid=true -> ∃ g∈G,g.f.row=f.row
theorem GInv.step {l:List aj} {G:List bL} (h:GInv l G) (f:aj):GInv (l++[f]) (jq G f):=by
 unfold jq
 cases hv:aL f.valid with
 | false =>
  rw [agW]
  refine ⟨h.nd,fun g hg=>?_,fun g hg=>?_,fun f' hf' hv'=>?_⟩
  ·rw [qO,hv];simpa using h.ps g hg
  ·obtain ⟨f',h1,h2⟩:=h.mem g hg;exact ⟨f',List.mem_append_left _ h1,h2⟩
  ·rcases ahl.1 hf' with hf'|hf'
   ·exact h.all f' hf' hv'
   ·rw [ahz.1 hf'] at hv';rw [hv] at hv';cases hv'
 | true =>
  rw [agX]
  cases hf:ik (dP f.row) G with
  | none =>
   have hne : ∀ g∈G,g.f.row≠f.row:=fun g hg e=>Jd hf g hg (by rw [e])
   have hemp:bD l f.row=[]:=by
    unfold bD
    rw [List.map_eq_nil_iff,List.filter_eq_nil_iff]
    intro f' hf' hc
    rw [ahb] at hc
    obtain ⟨g,hg,e⟩:=h.all f' hf' hc.1
    exact hne g hg (e.trans (ahm hc.2))
   refine ⟨List.pairwise_append.2 ⟨h.nd,List.pairwise_singleton _ _,fun g hg g' hg'=>by rw [ahz.1 hg'];exact hne g hg⟩,fun g hg=>?_,fun g hg=>?_,fun f' hf' hv'=>?_⟩
   ·rcases ahl.1 hg with hg|hg
    ·rw [qO,hv,show decide (f.row=g.f.row)=false from agY fun e=>hne g hg e.symm]
     simpa using h.ps g hg
    ·rw [ahz.1 hg,qO,hv,hemp];simp
   ·rcases ahl.1 hg with hg|hg
    ·obtain ⟨f',h1,h2⟩:=h.mem g hg;exact ⟨f',List.mem_append_left _ h1,h2⟩
    ·rw [ahz.1 hg];exact ⟨f,by simp,hv,rfl⟩
   ·rcases ahl.1 hf' with hf'|hf'
    ·obtain ⟨g,hg,e⟩:=h.all f' hf' hv';exact ⟨g,List.mem_append_left _ hg,e⟩
    ·rw [ahz.1 hf'];exact ⟨⟨f,[f.valid]⟩,by simp,rfl⟩
  | some i =>
   obtain ⟨g0,hg0,hk⟩:=K8 hf
   have hrow:g0.f.row=f.row:=key_inj hk
   dsimp only
   rw [hg0]
   dsimp only
   have hil:=(agV.1 hg0).1
   have hmap:(G.set i ⟨g0.f,g0.ps++[f.valid]⟩).map (·.f.row)=G.map (·.f.row):=by
    rw [List.map_set]
    refine List.ext_getElem? fun j=>?_
    rw [List.getElem?_set]
    split
    ·rename_i e;subst e
     rw [ag7,if_pos hil,ahg,hg0];rfl
    ·rfl
   have hnd:(G.set i ⟨g0.f,g0.ps++[f.valid]⟩).Pairwise fun g h=>g.f.row≠h.f.row:=by
    have h1:(G.map (·.f.row)).Pairwise (· ≠ ·):=List.pairwise_map.2 h.nd
    rw [<- hmap] at h1
    exact List.pairwise_map.1 h1
   have hmemG : ∀ g∈G.set i ⟨g0.f,g0.ps++[f.valid]⟩,(g∈G/\g.f.row≠f.row)\/g=⟨g0.f,g0.ps++[f.valid]⟩:=by
    intro g hg
    obtain ⟨j,hj⟩:=List.getElem?_of_mem hg
    rw [List.getElem?_set] at hj
    split at hj
    ·rename_i e
     injection hj with hj
     exact .inr hj.symm
    ·rename_i e
     refine .inl ⟨ag1 hj,fun q=>?_⟩
     have hjl:=(agV.1 hj).1
     have e1:=(agV.1 hj).2
     have e2:=(agV.1 hg0).2
     rcases Nat.lt_or_gt_of_ne e with hlt|hlt
     ·have:=List.pairwise_iff_getElem.1 h.nd i j hil hjl hlt
      rw [e1,e2] at this;exact this (hrow.trans q.symm)
     ·have:=List.pairwise_iff_getElem.1 h.nd j i hjl hil hlt
      rw [e1,e2] at this;exact this (q.trans hrow.symm)
   have hg0m:=ag1 hg0
   refine ⟨hnd,fun g hg=>?_,fun g hg=>?_,fun f' hf' hv'=>?_⟩
   ·rcases hmemG g hg with ⟨hg,hne⟩|rfl
    ·rw [qO,hv,show decide (f.row=g.f.row)=false from agY fun e=>hne e.symm]
     simpa using h.ps g hg
    ·show g0.ps++[f.valid]=bD (l++[f]) g0.f.row
     rw [qO,hv,show decide (f.row=g0.f.row)=true from agZ hrow.symm, <- h.ps g0 hg0m];rfl
   ·rcases hmemG g hg with ⟨hg,_⟩|rfl
    ·obtain ⟨f',h1,h2⟩:=h.mem g hg;exact ⟨f',List.mem_append_left _ h1,h2⟩
    ·exact ⟨f,by simp,hv,hrow.symm⟩
   ·have hex : ∃ g∈G,g.f.row=f'.row:=by
     rcases ahl.1 hf' with hf'|hf'
     ·exact h.all f' hf' hv'
     ·rw [ahz.1 hf'];exact ⟨g0,hg0m,hrow⟩
    obtain ⟨g,hg,e⟩:=hex
    have:g.f.row∈(G.set i ⟨g0.f,g0.ps++[f.valid]⟩).map (·.f.row):=by rw [hmap];exact List.mem_map_of_mem hg
    obtain ⟨g',hg',e'⟩:=aht.1 this
    exact ⟨g',hg',e'.trans e⟩
theorem Um (l:List aj):GInv l (eT l):=by
 have : ∀ (l l0:List aj) (G:List bL),GInv l0 G->GInv (l0++l) (l.foldl jq G):=by
  intro l
  induction l with
  | nil=>intro l0 G h;simpa using h
  | cons f l ih =>
   intro l0 G h
   have:=ih (l0++[f]) _ (h.step f)
   rw [ahk] at this
   exact this
 have:=this l [] [] ⟨List.Pairwise.nil,fun g hg=>(by cases hg),fun g hg=>(by cases hg),fun f hf=>(by cases hf)⟩
 simpa [eT] using this
theorem AZ (a b d:List Val) (h1:bS a b<=0) (h2:bS b d<=0):bS a d<=0:=by
 rcases Int.lt_or_eq_of_le h1 with h1|h1
 ·rcases Int.lt_or_eq_of_le h2 with h2|h2
  ·exact Int.le_of_lt (tCr_.trans _ _ _ h1 h2)
  ·rw [<- tCr_.zero _ _ h2];exact Int.le_of_lt h1
 ·rw [tCr_.zero _ _ h1];exact h2
theorem aaR (a b:List Val) (h : ¬ bS a b<0):bS b a<=0:=by
 have:=(tCr_.anti a b);omega
theorem J9 (l:List aj) : ∃ R,fV l R/\rD l=R.map fun r=>⟨r,bD l r⟩:=by
 have hi:=Um l
 have hp:=wN jw ((eT l).map fun g=>(⟨g.f.row,g.ps⟩:aa))
 have ha:=MF (c:=jw) (fun a b d=>AZ a.row b.row d.row) (fun a b=>aaR a.row b.row) ((eT l).map fun g=>(⟨g.f.row,g.ps⟩:aa))
 have hn:(rD l).Pairwise fun a b=>a.row≠b.row:=by
  have h1:((eT l).map fun g=>(⟨g.f.row,g.ps⟩:aa)).Pairwise fun a b=>a.row≠b.row:=List.pairwise_map.2 hi.nd
  exact (List.Perm.pairwise_iff (fun {a b} h=>Ne.symm h) hp).2 h1
 have hmem : ∀ s∈rD l,s.periods=bD l s.row /\ ∃ f∈l,aL f.valid=true/\f.row=s.row:=by
  intro s hs
  obtain ⟨g,hg,rfl⟩:=aht.1 (hp.mem_iff.1 hs)
  exact ⟨hi.ps g hg,hi.mem g hg⟩
 refine ⟨(rD l).map (·.row),⟨?_,fun x=>?_⟩,?_⟩
 ·refine List.pairwise_map.2 ?_
  refine (List.Pairwise.and ha hn).imp ?_
  rintro a b ⟨h1,h2⟩
  rcases Int.lt_or_eq_of_le h1 with h|h
  ·exact h
  ·exact absurd (tCr_.zero _ _ h) h2
 ·constructor
  ·intro hx
   obtain ⟨s,hs,rfl⟩:=aht.1 hx
   exact (hmem s hs).2
  ·rintro ⟨f,hf,hv,rfl⟩
   obtain ⟨g,hg,e⟩:=hi.all f hf hv
   exact aht.2 ⟨⟨g.f.row,g.ps⟩,hp.mem_iff.2 (aht.2 ⟨g,hg,rfl⟩),e⟩
 ·rw [List.map_map]
  refine (List.map_id (rD l)).symm.trans (List.map_congr_left fun s hs=>?_)
  have:=(hmem s hs).1
  obtain ⟨r,ps⟩:=s
  show (⟨r,ps⟩:aa)=⟨r,bD l r⟩
  rw [<- this]
end Go.Proofs.YtcehmafobkhdbaaGreatDoor
