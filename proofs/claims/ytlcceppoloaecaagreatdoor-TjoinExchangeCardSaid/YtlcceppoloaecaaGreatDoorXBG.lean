/- Parts. No condition. -/
import Derived.Test.YtlcceppoloaecaaGreatDoorXBE
import Derived.Test.YtlcceppoloaecaaGreatDoorXBF
import Derived.ProofKit
import Derived.OpenShut
import Derived.ChangeOld
import Derived.Deep.Slices
set_option linter.unusedSimpArgs false
set_option linter.unusedVariables false
namespace Go.Proofs.YtlcceppoloaecaaGreatDoor
open IntKind (i64)
open Go.RowKit Go.MapKept
set_option maxRecDepth 100000
set_option maxHeartbeats 8000000
def ajC (l:List yV):Option (List Stp):=bif decide (l.length<=100000)then some (wj l)else none
theorem akc {l:List yV}{r:List Stp}(H:ajC l=some r):PTz 207 [.one (.lst (l.map F_))] (.val (.one (.lst (r.map li)))):=by
 unfold ajC at H;obtain⟨g,H⟩:=gR H;obtain rfl:=arH H;exact alI l (arC g)
open Classical in
noncomputable def acX (l:List Stp):Option (List ax):=if MC l then some (yg l)else none
theorem aju {l:List Stp}{r:List ax}(H:acX l=some r):PTz 147 [.one (.lst (l.map li))] (.val (.one (.lst (r.map aO)))):=by
 unfold acX at H;split at H
 ·rename_i h;obtain rfl:=arH H;exact aif l h
 ·cases H
def bp (l:List ap):Prop:=l.length<=300 /\ ∀ f∈l,f.row.length<=1000 /\ ∀ v∈f.row,VOK v
open Classical in
noncomputable def wn (l:List ap):Option (List ac):=if bp l then some (l8 l)else none
theorem Ej {l:List ap}{r:List ac}(H:wn l=some r):PTz 202 [.one (.lst (l.map aH))] (.val (.one (.lst (r.map af)))):=by
 unfold wn at H;split at H
 ·rename_i h;obtain rfl:=arH H;exact ae4 l h.1 h.2
 ·cases H
noncomputable section
def nj (a_l:(List ax)):((List yV)×Int)->Option (Step ((List yV)×Int) ((List Stp))):=fun s=>match s with
 |(c_1,v_2)=>bif (decide (v_2<((a_l.length:Nat):Int)))then
  (aF a_l v_2).bind fun x_4=>bif (decide (c_1.length+1<=5864062014805))then(some (.next ((c_1++[(⟨x_4,(1:Int)⟩:yV)]),(i64.wrap (v_2+(1:Int))))))else none
 else
  some (.exit (c_1,v_2))
def rV:Sum ((List yV)×Int) ((List Stp))->Option (((List Stp)))
 |.inl (c_1,v_2)=>(ajC c_1).bind fun r_5=>some r_5
 |.inr q=>some q
def sD (a_l:(List ax)):Option ((List Stp)):=(ao (nj a_l) fuel ([],(0:Int))).bind (rV)
instance gCounted_ok {a_l : (List ax)} {r : (List Stp)} : OkC (sD a_l = some r) (PTz 148 [.one (.lst (a_l.map aO))] (.val (.one (.lst (r.map li))))) := .mk fun H => by
 unfold sD at H;refine po_ Tryz.func148 Tryz.ntmps148 ?_
 repeat' (first|refine gs_ ?_|fail)
 refine bP 3 3 rfl ?_;refine alM_ (fun s:(List yV)×Int=>match s with|(c_1,v_2)=>[(3,.one (.own (c_1.map F_) 0)),(6,.one (.c (.lst (a_l.map aO)))),(7,.one (.c (.int .i64 ((a_l.length:Nat):Int)))),(8,.one (.c (.int .i64 v_2)))]) (fun s=>match s with|(c_1,v_2)=>[.spare c_1.length 3]) H (fun _=>aru _)
  (fm_ ⟨rfl,rfl,rfl,rfl,t7⟩ [] rfl ⟨by show 0<1;omega,t7,t7,t7,t7⟩ ⟨t7,t7⟩) ?_
 rintro⟨c_1,v_2⟩ st1 hb1 hk1;unfold nj at hb1;dsimp only at hb1 ⊢;rcases Bool.eq_false_or_eq_true (decide (v_2<((a_l.length:Nat):Int)))with q_3|q_3
 ·rw[q_3,aq8]at hb1
  obtain⟨x_4,i1,hb1⟩:=bd_ hb1;obtain⟨i1z,i1⟩:=gu i1;have i1x:=aj0 (f:=aO) i1;obtain⟨g2,hb1⟩:=gR hb1;replace g2:=arC g2;obtain rfl:=arH hb1
  repeat' (first|refine gs_ ?_|fail)
  exact⟨_,rfl,fm_ ⟨(by simp only[ark,ari,arn,ara]<;>rfl),rfl,rfl,rfl,t7⟩ [_] (by simp only[ard,arv,arE,arS,ark,ari,arn]<;>rfl) ⟨by show 0<1;omega,t7,t7,t7,t7⟩ ⟨t7,t7⟩⟩
 ·rw[q_3,aq7]at hb1
  obtain rfl:=arH hb1;have hx1:rV (.inl (c_1,v_2))=some _:=hk1;unfold rV at hx1;dsimp only at hx1;obtain⟨r_5,c3,hx1⟩:=bd_ hx1;replace c3:=akc c3
  try simp only[ark,ari,arn,ara,ay]at c3
  obtain rfl:=arH hx1;exact sp
def M4 (a_p:(List ax)):Option ((List ax)):=bif (decide (((a_p.length:Nat):Int)=(1:Int)))then
 some a_p
 else
 (sD a_p).bind fun r_2=>(acX r_2).bind fun r_3=>some r_3
instance gBag1_ok {a_p : (List ax)} {r : (List ax)} : OkC (M4 a_p = some r) (PTz 146 [.one (.lst (a_p.map aO))] (.val (.one (.lst (r.map aO))))) := .mk fun H => by
 unfold M4 at H;refine po_ Tryz.func146 Tryz.ntmps146 ?_;rcases Bool.eq_false_or_eq_true (decide (((a_p.length:Nat):Int)=(1:Int)))with q_1|q_1
 ·rw[q_1,aq8]at H
  obtain rfl:=arH H;exact sp
 ·rw[q_1,aq7]at H
  obtain⟨r_2,c1,H⟩:=bd_ H;replace c1:=gCounted_ok c1
  try simp only[ark,ari,arn,ara,ay]at c1
  obtain⟨r_3,c2,H⟩:=bd_ H;replace c2:=aju c2
  try simp only[ark,ari,arn,ara,ay]at c2
  obtain rfl:=arH H;exact sp
def oM (x_5:ac)(r_6:(List ax)):((List ap)×Int)->Option (Step ((List ap)×Int) ((List ap))):=fun s=>match s with
 |(out_7,v_8)=>bif (decide (v_8<((r_6.length:Nat):Int)))then
  (aF r_6 v_8).bind fun x_10=>bif (decide (x_5.row.length<=4398046511104))then(bif (decide (out_7.length+1<=3518437208883))then(some (.next ((out_7++[(⟨x_5.row,x_10⟩:ap)]),(i64.wrap (v_8+(1:Int))))))else none)else none
 else
  some (.exit (out_7,v_8))
def ox (v_3:Int):Sum ((List ap)×Int) ((List ap))->Option (Step ((List ap)×Int) ((List ap)))
 |.inl (out_7,v_8)=>some (.next (out_7,(i64.wrap (v_3+(1:Int)))))
 |.inr q=>some (.ret q)
def pd (a_f:(List ax)->Option ((List ax)))(r_1:(List ac)):((List ap)×Int)->Option (Step ((List ap)×Int) ((List ap))):=fun s=>match s with
 |(out_2,v_3)=>bif (decide (v_3<((r_1.length:Nat):Int)))then
  (aF r_1 v_3).bind fun x_5=>(a_f x_5.periods).bind fun r_6=>(ao (oM x_5 r_6) fuel (out_2,(0:Int))).bind (ox v_3)
 else
  some (.exit (out_2,v_3))
def lA:Sum ((List ap)×Int) ((List ap))->Option (((List ap)))
 |.inl (out_2,v_3)=>some out_2
 |.inr q=>some q
def ya (a_l:(List ap))(a_f:(List ax)->Option ((List ax))):Option ((List ap)):=(wn a_l).bind fun r_1=>(ao (pd a_f r_1) fuel ([],(0:Int))).bind (lA)
theorem afv {a_l:(List ap)}{a_f:(List ax)->Option ((List ax))}{r:(List ap)}{F_a_f:FuncId}{caps_a_f:List AC}(hf_a_f:∀ (y0:(List ax)) (r:(List ax)),a_f y0=some r->PTz F_a_f ([.one (.lst (y0.map aO))]++caps_a_f.map .one) (.val (.one (.lst (r.map aO)))))(H:ya a_l a_f=some r):PTz 145 [.one (.lst (a_l.map aH)),.one (.fn F_a_f caps_a_f)] (.val (.one (.lst (r.map aH)))):=by
 unfold ya at H;refine po_ Tryz.func145 Tryz.ntmps145 ?_;obtain⟨r_1,c1,H⟩:=bd_ H;replace c1:=Ej c1
 try simp only[ark,ari,arn,ara,ay]at c1
 repeat' (first|refine gs_ ?_|fail)
 refine bP 5 3 rfl ?_;refine alM_ (fun s:(List ap)×Int=>match s with|(out_2,v_3)=>[(1,.one (.c (.fn F_a_f caps_a_f))),(5,.one (.own (out_2.map aH) 0)),(11,.one (.c (.lst (r_1.map af)))),(12,.one (.c (.int .i64 ((r_1.length:Nat):Int)))),(13,.one (.c (.int .i64 v_3)))]) (fun s=>match s with|(out_2,v_3)=>[.spare out_2.length 3]) H (fun _=>aru _)
  (fm_ ⟨rfl,rfl,rfl,rfl,rfl,t7⟩ [] rfl ⟨t7,by show 0<1;omega,t7,t7,t7,t7⟩ ⟨t7,t7⟩) ?_
 rintro⟨out_2,v_3⟩ st3 hb3 hk3;unfold pd at hb3;dsimp only at hb3 ⊢;rcases Bool.eq_false_or_eq_true (decide (v_3<((r_1.length:Nat):Int)))with q_4|q_4
 ·rw[q_4,aq8]at hb3
  obtain⟨x_5,i2,hb3⟩:=bd_ hb3;obtain⟨i2z,i2⟩:=gu i2;have i2x:=aj0 (f:=af) i2;obtain⟨r_6,c3,hb3⟩:=bd_ hb3;replace c3:=hf_a_f _ _ c3
  try simp only[ark,ari,arn,ara,ay]at c3
  repeat' (first|refine gs_ ?_|fail)
  refine alM_ (fun s:(List ap)×Int=>match s with|(out_7,v_8)=>[(1,.one (.c (.fn F_a_f caps_a_f))),(5,.one (.own (out_7.map aH) 0)),(7,.one (.ptr 1 0)),(11,.one (.c (.lst (r_1.map af)))),(12,.one (.c (.int .i64 ((r_1.length:Nat):Int)))),(13,.one (.c (.int .i64 v_3))),(20,.one (.c (.lst (r_6.map aO)))),(21,.one (.c (.int .i64 ((r_6.length:Nat):Int)))),(22,.one (.c (.int .i64 v_8)))]) (fun s=>match s with|(out_7,v_8)=>[.spare out_7.length 3,.box [.c (.lst (x_5.row.map cV)),.c (.lst (x_5.periods.map aO))]]) hb3 (fun _=>aru _)
   (fm_ ⟨rfl,rfl,rfl,rfl,rfl,rfl,rfl,rfl,rfl,t7⟩ [] rfl ⟨t7,by show 0<2;omega,by show 1<2;omega,t7,t7,t7,t7,t7,t7,t7⟩ ⟨t7,gX r5,t7⟩) ?_
  rintro⟨out_7,v_8⟩ st4 hb4 hk4;unfold oM at hb4;dsimp only at hb4 ⊢;rcases Bool.eq_false_or_eq_true (decide (v_8<((r_6.length:Nat):Int)))with q_9|q_9
  ·rw[q_9,aq8]at hb4
   obtain⟨x_10,i4,hb4⟩:=bd_ hb4;obtain⟨i4z,i4⟩:=gu i4;have i4x:=aj0 (f:=aO) i4;obtain⟨g5,hb4⟩:=gR hb4;replace g5:=arC g5;obtain⟨g6,hb4⟩:=gR hb4;replace g6:=arC g6;obtain rfl:=arH hb4
   repeat' (first|refine gs_ ?_|fail)
   exact⟨_,rfl,fm_ ⟨rfl,(by simp only[ark,ari,arn,ara]<;>rfl),rfl,rfl,rfl,rfl,rfl,rfl,rfl,t7⟩ [_,_] (by simp only[ard,arv,arE,arS,ark,ari,arn]<;>rfl) ⟨t7,by show 0<2;omega,by show 1<2;omega,t7,t7,t7,t7,t7,t7,t7⟩ ⟨t7,gX r5,t7⟩⟩
  ·rw[q_9,aq7]at hb4
   obtain rfl:=arH hb4;have hx4:ox v_3 (.inl (out_7,v_8))=some _:=hk4;unfold ox at hx4;dsimp only at hx4;obtain rfl:=arH hx4
   repeat' (first|refine gs_ ?_|fail)
   exact⟨_,rfl,fm_ ⟨rfl,(by simp only[ark,ari,arn,ara]<;>rfl),rfl,rfl,rfl,t7⟩ [_] (by simp only[ard,arv,arE,arS,ark,ari,arn]<;>rfl) ⟨t7,by show 0<1;omega,t7,t7,t7,t7⟩ ⟨t7,t7⟩⟩
 ·rw[q_4,aq7]at hb3
  obtain rfl:=arH hb3;have hx3:lA (.inl (out_2,v_3))=some _:=hk3;unfold lA at hx3;dsimp only at hx3;obtain rfl:=arH hx3;exact sp
def qq (a_l:(List ap)):Option ((List ap)):=(ya a_l (fun x0=>M4 x0)).bind fun r_1=>some r_1
instance gBag_ok {a_l : (List ap)} {r : (List ap)} : OkC (qq a_l = some r) (PTz 92 [.one (.lst (a_l.map aH))] (.val (.one (.lst (r.map aH))))) := .mk fun H => by
 unfold qq at H;refine po_ Tryz.func92 Tryz.ntmps92 ?_;obtain⟨r_1,c1,H⟩:=bd_ H;replace c1:=afv (F_a_f:=146) (caps_a_f:=[]) (fun x0 r h=>gBag1_ok h) c1
 try simp only[ark,ari,arn,ara,ay]at c1
 obtain rfl:=arH H;exact sp
end
set_option maxHeartbeats 8000000
set_option maxHeartbeats 8000000
noncomputable section
def dn (a_p:ax):Option (Bool):=bif (decide ((0:Int)<=a_p.lo))then bif (decide (a_p.lo<a_p.hi))then some (decide (a_p.hi<=(1099511627776:Int)))else
 some false else
 some false
instance gValid1_ok {a_p : ax} {r : Bool} : OkC (dn a_p = some r) (PTz 33 [.agg (aO a_p)] (.val (.one (.bool r)))) := .mk fun H => by
 unfold dn at H;refine po_ Tryz.func33 Tryz.ntmps33 ?_;exact az H
def iF (a_a:(List ap))(a_b:(List ap)):(Int)->Option (Step (Int) (Bool)):=fun s=>match s with
 |i_2=>bif (decide (i_2<((a_a.length:Nat):Int)))then(aF a_a i_2).bind fun x_4=>(aF a_b i_2).bind fun x_5=>bif (!(b8 [.c (.int .i64 x_4.valid.lo),.c (.int .i64 x_4.valid.hi)] [.c (.int .i64 x_5.valid.lo),.c (.int .i64 x_5.valid.hi)]))then some (.ret false)else
 (oK x_4.row x_5.row).bind fun r_7=>bif (decide (r_7≠(0:Int)))then some (.ret false)else
 some (.next (i64.wrap (i_2+(1:Int))))else
 some (.exit i_2)
def agQ:Sum (Int) (Bool)->Option ((Bool))
 |.inl i_2=>some true
 |.inr q=>some q
def gL (a_a:(List ap))(a_b:(List ap)):Option (Bool):=bif (decide (((a_a.length:Nat):Int)≠((a_b.length:Nat):Int)))then some false else
 (ao (iF a_a a_b) fuel (0:Int)).bind (agQ)
instance gIdent_ok {a_a : (List ap)} {a_b : (List ap)} {r : Bool} : OkC (gL a_a a_b = some r) (PTz 37 [.one (.lst (a_a.map aH)), .one (.lst (a_b.map aH))] (.val (.one (.bool r)))) := .mk fun H => by
 unfold gL at H;refine po_ Tryz.func37 Tryz.ntmps37 ?_;rcases aj H with⟨q_1,H⟩|⟨q_1,H⟩
 ·exact az H
 refine aY ?_;refine alM_ (fun s:Int=>match s with|i_2=>[(0,.one (.c (.lst (a_a.map aH)))),(1,.one (.c (.lst (a_b.map aH)))),(5,.one (.c (.int .i64 i_2)))]) (fun s=>match s with|i_2=>[]) H (fun _=>aru _)
  (fm_ bG [] rfl a8 trivial) ?_
 rintro i_2 st1 hb1 hk1;unfold iF at hb1;dsimp only at hb1 ⊢;rcases aj hb1 with⟨q_3,hb1⟩|⟨q_3,hb1⟩
 ·obtain⟨x_4,i1z,i1,i1x,hb1⟩:=bu (f:=aH) hb1
  obtain⟨x_5,i2z,i2,i2x,hb1⟩:=bu (f:=aH) hb1;rcases aj hb1 with⟨q_6,hb1⟩|⟨q_6,hb1⟩
  ·exact bA hb1 hk1
  obtain⟨r_7,c3,hb1⟩:=bd_ hb1;replace c3:=gCmp8_ok c3;rcases aj hb1 with⟨q_8,hb1⟩|⟨q_8,hb1⟩
  ·exact bA hb1 hk1
  cases hb1;refine aY ?_;exact⟨_,rfl,fm_ bG [] rfl a8 trivial⟩
 exact bA hb1 hk1
end
set_option maxHeartbeats 8000000
def Dv (a_s:ByteArray):Option (Val):=(qz (⟨(2:Int),(0:Int),a_s⟩:Val)).bind fun r_1=>some r_1
instance gTextR_ok {a_s : ByteArray} {r : Val} : OkC (Dv a_s = some r) (PTz 221 [.one (.str a_s)] (.val (.agg (cV r)))) := .mk fun H => by
 unfold Dv at H;refine po_ Tryz.func221 Tryz.ntmps221 ?_;exact az H
def pY (a_b:Bool):Option (Val):=bif a_b then some (⟨(3:Int),(1:Int),ByteArray.empty⟩:Val)else
 some (⟨(3:Int),(0:Int),ByteArray.empty⟩:Val)
instance gBoolR_ok {a_b : Bool} {r : Val} : OkC (pY a_b = some r) (PTz 161 [.one (.bool a_b)] (.val (.agg (cV r)))) := .mk fun H => by
 unfold pY at H;refine po_ Tryz.func161 Tryz.ntmps161 ?_;exact az H
def tN (a_a:Val)(a_b:Val)(a_is:Bool):Option (Int):=bif (decide (a_a.kind=(0:Int)))then some (1:Int)else
 bif (decide (a_a.kind≠a_b.kind))then some (1:Int)else
 bif a_is then some (2:Int)else
 some (0:Int)
instance gtruthR_ok {a_a : Val} {a_b : Val} {a_is : Bool} {r : Int} : OkC (tN a_a a_b a_is = some r) (PTz 247 [.agg (cV a_a), .agg (cV a_b), .one (.bool a_is)] (.val (.one (.int .i64 r)))) := .mk fun H => by
 unfold tN at H;refine po_ Tryz.func247 Tryz.ntmps247 ?_;exact az H
def afL (a_a:Val)(a_b:Val):Option (Int):=(uM a_a a_b).bind fun r_1=>(tN a_a a_b (decide (r_1=(0:Int)))).bind fun r_2=>some r_2
instance gEqR_ok {a_a : Val} {a_b : Val} {r : Int} : OkC (afL a_a a_b = some r) (PTz 218 [.agg (cV a_a), .agg (cV a_b)] (.val (.one (.int .i64 r)))) := .mk fun H => by
 unfold afL at H;refine po_ Tryz.func218 Tryz.ntmps218 ?_;exact az H
def tc (a_a:Val)(a_b:Val):Option (Int):=(uM a_a a_b).bind fun r_1=>(tN a_a a_b (decide (r_1<(0:Int)))).bind fun r_2=>some r_2
instance gLessR_ok {a_a : Val} {a_b : Val} {r : Int} : OkC (tc a_a a_b = some r) (PTz 219 [.agg (cV a_a), .agg (cV a_b)] (.val (.one (.int .i64 r)))) := .mk fun H => by
 unfold tc at H;refine po_ Tryz.func219 Tryz.ntmps219 ?_;exact az H
def Dm (a_a:Int):Option (Int):=bif (decide (a_a=(2:Int)))then some (0:Int)else
 bif (decide (a_a=(0:Int)))then some (2:Int)else
 some (1:Int)
instance gNotR_ok {a_a : Int} {r : Int} : OkC (Dm a_a = some r) (PTz 165 [.one (.int .i64 a_a)] (.val (.one (.int .i64 r)))) := .mk fun H => by
 unfold Dm at H;refine po_ Tryz.func165 Tryz.ntmps165 ?_;exact az H
def CJ (a_a:Int)(a_b:Int):Option (Int):=bif (decide (a_a=(0:Int)))then some (0:Int)else
 bif (decide (a_b=(0:Int)))then some (0:Int)else
 bif (decide (a_a=(2:Int)))then bif (decide (a_b=(2:Int)))then some (2:Int)else
 some (1:Int)else
 some (1:Int)
instance gAndR_ok {a_a : Int} {a_b : Int} {r : Int} : OkC (CJ a_a a_b = some r) (PTz 216 [.one (.int .i64 a_a), .one (.int .i64 a_b)] (.val (.one (.int .i64 r)))) := .mk fun H => by
 unfold CJ at H;refine po_ Tryz.func216 Tryz.ntmps216 ?_;exact az H
def acD (a_a:Int)(a_b:Int):Option (Int):=bif (decide (a_a=(2:Int)))then some (2:Int)else
 bif (decide (a_b=(2:Int)))then some (2:Int)else
 bif (decide (a_a=(0:Int)))then bif (decide (a_b=(0:Int)))then some (0:Int)else
 some (1:Int)else
 some (1:Int)
instance gOrR_ok {a_a : Int} {a_b : Int} {r : Int} : OkC (acD a_a a_b = some r) (PTz 217 [.one (.int .i64 a_a), .one (.int .i64 a_b)] (.val (.one (.int .i64 r)))) := .mk fun H => by
 unfold acD at H;refine po_ Tryz.func217 Tryz.ntmps217 ?_;exact az H
def fD (a_v:Val):Option (Int):=(pY true).bind fun r_1=>bif (b8 [.c (.int .i64 a_v.kind),.c (.int .i64 a_v.int),.c (.str a_v.text)] [.c (.int .i64 r_1.kind),.c (.int .i64 r_1.int),.c (.str r_1.text)])then some (2:Int)else
 (pY false).bind fun r_3=>bif (b8 [.c (.int .i64 a_v.kind),.c (.int .i64 a_v.int),.c (.str a_v.text)] [.c (.int .i64 r_3.kind),.c (.int .i64 r_3.int),.c (.str r_3.text)])then some (0:Int)else
 some (1:Int)
instance gTruth7_ok {a_v : Val} {r : Int} : OkC (fD a_v = some r) (PTz 105 [.agg (cV a_v)] (.val (.one (.int .i64 r)))) := .mk fun H => by
 unfold fD at H;refine po_ Tryz.func105 Tryz.ntmps105 ?_;exact az H
def AG (a_t:Int):Option (Val):=bif (decide (a_t=(2:Int)))then(pY (decide (a_t=(2:Int)))).bind fun r_2=>some r_2 else
 bif (decide (a_t=(0:Int)))then(pY (decide (a_t=(2:Int)))).bind fun r_4=>some r_4 else
 (dB ).bind fun r_5=>some r_5
instance gOf7_ok {a_t : Int} {r : Val} : OkC (AG a_t = some r) (PTz 164 [.one (.int .i64 a_t)] (.val (.agg (cV r)))) := .mk fun H => by
 unfold AG at H;refine po_ Tryz.func164 Tryz.ntmps164 ?_;exact az H
set_option maxHeartbeats 8000000
def nV (a_op:Int):Option (Int×Int):=bif (decide (a_op=(1:Int)))then some ((0:Int),(0:Int))else
 bif (decide (a_op=(2:Int)))then some ((0:Int),(0:Int))else
 bif (decide (a_op=(4:Int)))then some ((1:Int),(1:Int))else
 bif (decide (a_op=(18:Int)))then some ((1:Int),(1:Int))else
 bif (decide (a_op=(20:Int)))then some ((1:Int),(1:Int))else
 bif (decide (a_op=(21:Int)))then some ((1:Int),(1:Int))else
 bif (decide (a_op=(5:Int)))then some ((2:Int),(1099511627776:Int))else
 bif (decide (a_op=(6:Int)))then some ((2:Int),(1099511627776:Int))else
 bif (decide (a_op=(7:Int)))then some ((2:Int),(2:Int))else
 bif (decide (a_op=(8:Int)))then some ((2:Int),(2:Int))else
 bif (decide (a_op=(9:Int)))then some ((2:Int),(2:Int))else
 bif (decide (a_op=(10:Int)))then some ((2:Int),(2:Int))else
 bif (decide (a_op=(11:Int)))then some ((2:Int),(2:Int))else
 bif (decide (a_op=(12:Int)))then some ((2:Int),(2:Int))else
 bif (decide (a_op=(13:Int)))then some ((2:Int),(2:Int))else
 bif (decide (a_op=(14:Int)))then some ((2:Int),(2:Int))else
 bif (decide (a_op=(15:Int)))then some ((2:Int),(2:Int))else
 bif (decide (a_op=(16:Int)))then some ((2:Int),(2:Int))else
 bif (decide (a_op=(17:Int)))then some ((2:Int),(2:Int))else
 bif (decide (a_op=(19:Int)))then some ((2:Int),(2:Int))else
 bif (decide (a_op=(22:Int)))then some ((3:Int),(3:Int))else
 bif (decide (a_op=(23:Int)))then some ((1:Int),(1099511627776:Int))else
 bif (decide (a_op=(24:Int)))then some ((4:Int),(4:Int))else
 some ((-1:Int),(0:Int))
instance gArity_ok {a_op : Int} {r : Int × Int} : OkC (nV a_op = some r) (PTz 200 [.one (.int .i64 a_op)] (.tup [.one (.int .i64 r.1), .one (.int .i64 r.2)])) := .mk fun H => by
 unfold nV at H;refine po_ Tryz.func200 Tryz.ntmps200 ?_;rcases aj H with⟨q_1,H⟩|⟨q_1,H⟩
 ·exact az H
 rcases aj H with⟨q_2,H⟩|⟨q_2,H⟩
 ·exact az H
 refine aY ?_;rcases aj H with⟨q_3,H⟩|⟨q_3,H⟩
 ·exact az H
 rcases aj H with⟨q_4,H⟩|⟨q_4,H⟩
 ·exact az H
 rcases aj H with⟨q_5,H⟩|⟨q_5,H⟩
 ·exact az H
 refine aY ?_;rcases aj H with⟨q_6,H⟩|⟨q_6,H⟩
 ·exact az H
 rcases aj H with⟨q_7,H⟩|⟨q_7,H⟩
 ·exact az H
 rcases aj H with⟨q_8,H⟩|⟨q_8,H⟩
 ·exact az H
 refine aY ?_;rcases aj H with⟨q_9,H⟩|⟨q_9,H⟩
 ·exact az H
 rcases aj H with⟨q_10,H⟩|⟨q_10,H⟩
 ·exact az H
 rcases aj H with⟨q_11,H⟩|⟨q_11,H⟩
 ·exact az H
 refine aY ?_;rcases aj H with⟨q_12,H⟩|⟨q_12,H⟩
 ·exact az H
 rcases aj H with⟨q_13,H⟩|⟨q_13,H⟩
 ·exact az H
 rcases aj H with⟨q_14,H⟩|⟨q_14,H⟩
 ·exact az H
 refine aY ?_;rcases aj H with⟨q_15,H⟩|⟨q_15,H⟩
 ·exact az H
 rcases aj H with⟨q_16,H⟩|⟨q_16,H⟩
 ·exact az H
 rcases aj H with⟨q_17,H⟩|⟨q_17,H⟩
 ·exact az H
 refine aY ?_;rcases aj H with⟨q_18,H⟩|⟨q_18,H⟩
 ·exact az H
 rcases aj H with⟨q_19,H⟩|⟨q_19,H⟩
 ·exact az H
 rcases aj H with⟨q_20,H⟩|⟨q_20,H⟩
 ·exact az H
 refine aY ?_;exact az H
def fO (a_e:Ex):Option (Bool):=(nV a_e.op).bind fun r_1=>bif (decide (r_1.1<(0:Int)))then some false else
 bif (decide (((a_e.args.length:Nat):Int)<r_1.1))then some false else
 bif (decide (r_1.2<((a_e.args.length:Nat):Int)))then some false else
 bif (!(a_e.nm.toList==(⟨#[]⟩:ByteArray).toList))then some false else
 bif (decide (a_e.op=(1:Int)))then bif (decide (a_e.int=(0:Int)))then(dq a_e.v).bind fun r_8=>some r_8 else
 some false else
 bif (decide (a_e.op=(2:Int)))then(dB ).bind fun r_10=>some (b8 [.c (.int .i64 a_e.v.kind),.c (.int .i64 a_e.v.int),.c (.str a_e.v.text)] [.c (.int .i64 r_10.kind),.c (.int .i64 r_10.int),.c (.str r_10.text)])else
 bif (decide (a_e.op=(24:Int)))then(dB ).bind fun r_12=>bif (b8 [.c (.int .i64 a_e.v.kind),.c (.int .i64 a_e.v.int),.c (.str a_e.v.text)] [.c (.int .i64 r_12.kind),.c (.int .i64 r_12.int),.c (.str r_12.text)])then bif (decide ((0:Int)<=a_e.int))then some (decide (a_e.int<(13:Int)))else
 some false else
 some false else
 bif (decide (a_e.int=(0:Int)))then(dB ).bind fun r_16=>some (b8 [.c (.int .i64 a_e.v.kind),.c (.int .i64 a_e.v.int),.c (.str a_e.v.text)] [.c (.int .i64 r_16.kind),.c (.int .i64 r_16.int),.c (.str r_16.text)])else
 some false
instance gFormedR_ok {a_e : Ex} {r : Bool} : OkC (fO a_e = some r) (PTz 162 [.agg (tE a_e)] (.val (.one (.bool r)))) := .mk fun H => by
 unfold fO at H;rw[ay a_e];refine po_ Tryz.func162 Tryz.ntmps162 ?_;obtain⟨r_1,c1,H⟩:=bd_ H;replace c1:=gArity_ok c1;rcases aj H with⟨q_2,H⟩|⟨q_2,H⟩
 ·exact az H
 rcases aj H with⟨q_3,H⟩|⟨q_3,H⟩
 ·exact az H
 refine aY ?_;rcases aj H with⟨q_4,H⟩|⟨q_4,H⟩
 ·exact az H
 rcases aj H with⟨q_5,H⟩|⟨q_5,H⟩
 ·exact az H
 rcases aj H with⟨q_6,H⟩|⟨q_6,H⟩
 ·refine aY ?_
  exact az H
 refine aY ?_;rcases aj H with⟨q_9,H⟩|⟨q_9,H⟩
 ·exact az H
 rcases aj H with⟨q_11,H⟩|⟨q_11,H⟩
 ·obtain⟨r_12,c4,H⟩:=bd_ H
  replace c4:=gNullR_ok c4;rcases aj H with⟨q_13,H⟩|⟨q_13,H⟩
  ·refine aY ?_
   exact az H
  exact az H
 exact az H
set_option maxHeartbeats 8000000
def fm (a_op:Int)(a_a:Val)(a_b:Val):Option (Int):=bif (decide (a_op=(7:Int)))then(afL a_a a_b).bind fun r_2=>some r_2 else
 bif (decide (a_op=(8:Int)))then(afL a_a a_b).bind fun r_4=>(Dm r_4).bind fun r_5=>some r_5 else
 bif (decide (a_op=(9:Int)))then(tc a_a a_b).bind fun r_7=>some r_7 else
 bif (decide (a_op=(11:Int)))then(tc a_b a_a).bind fun r_9=>some r_9 else
 bif (decide (a_op=(10:Int)))then(tc a_b a_a).bind fun r_11=>(Dm r_11).bind fun r_12=>some r_12 else
 (tc a_a a_b).bind fun r_13=>(Dm r_13).bind fun r_14=>some r_14
instance gCompared_ok {a_op : Int} {a_a : Val} {a_b : Val} {r : Int} : OkC (fm a_op a_a a_b = some r) (PTz 167 [.one (.int .i64 a_op), .agg (cV a_a), .agg (cV a_b)] (.val (.one (.int .i64 r)))) := .mk fun H => by
 unfold fm at H;refine po_ Tryz.func167 Tryz.ntmps167 ?_;rcases aj H with⟨q_1,H⟩|⟨q_1,H⟩
 ·exact az H
 rcases aj H with⟨q_3,H⟩|⟨q_3,H⟩
 ·exact az H
 refine aY ?_;exact az H
def agq (a_n:Int):Option (Int):=some (zL a_n (i64.wrap (0-a_n)))
instance gAbs_ok {a_n : Int} {r : Int} : OkC (agq a_n = some r) (PTz 223 [.one (.int .i64 a_n)] (.val (.one (.int .i64 r)))) := .mk fun H => by
 unfold agq at H;refine po_ Tryz.func223 Tryz.ntmps223 ?_;exact az H
def cW (a_op:Int)(a_a:Int)(a_b:Int):Option (Val):=bif (decide (a_op=(13:Int)))then(nq (i64.wrap (a_a+a_b))).bind fun r_2=>some r_2 else
 bif (decide (a_op=(14:Int)))then(nq (i64.wrap (a_a-a_b))).bind fun r_4=>some r_4 else
 bif (decide (a_op=(15:Int)))then bif (decide (a_a≠(0:Int)))then(agq a_b).bind fun r_7=>(agq a_a).bind fun r_8=>bif (decide (r_8≠0))then(bif (decide ((i64.wrap ((1125899906842624:Int).tdiv r_8))<r_7))then(dB ).bind fun r_10=>some r_10 else
 (nq (i64.wrap (a_a*a_b))).bind fun r_11=>some r_11)else none else
 (nq (i64.wrap (a_a*a_b))).bind fun r_12=>some r_12 else
 bif (decide (a_b=(0:Int)))then(dB ).bind fun r_14=>some r_14 else
 bif (decide (a_op=(16:Int)))then bif (decide (a_b≠0))then((nq (i64.wrap (a_a.tdiv a_b))).bind fun r_16=>some r_16)else none else
 bif (decide (a_b≠0))then((nq (a_a.tmod a_b)).bind fun r_17=>some r_17)else none
instance gComputed_ok {a_op : Int} {a_a : Int} {a_b : Int} {r : Val} : OkC (cW a_op a_a a_b = some r) (PTz 173 [.one (.int .i64 a_op), .one (.int .i64 a_a), .one (.int .i64 a_b)] (.val (.agg (cV r)))) := .mk fun H => by
 unfold cW at H;refine po_ Tryz.func173 Tryz.ntmps173 ?_;rcases aj H with⟨q_1,H⟩|⟨q_1,H⟩
 ·exact az H
 rcases aj H with⟨q_3,H⟩|⟨q_3,H⟩
 ·exact az H
 refine aY ?_;exact az H
def BM (a_l:(List Val))(a_kind:Int):(Int)->Option (Step (Int) (Bool)):=fun s=>match s with
 |i_1=>bif (decide (i_1<((a_l.length:Nat):Int)))then(aF a_l i_1).bind fun x_3=>bif (decide (x_3.kind≠a_kind))then some (.ret false)else
 some (.next (i64.wrap (i_1+(1:Int))))else
 some (.exit i_1)
def aj7:Sum (Int) (Bool)->Option ((Bool))
 |.inl i_1=>some true
 |.inr q=>some q
def MK (a_l:(List Val))(a_kind:Int):Option (Bool):=(ao (BM a_l a_kind) fuel (0:Int)).bind (aj7)
instance gAre_ok {a_l : (List Val)} {a_kind : Int} {r : Bool} : OkC (MK a_l a_kind = some r) (PTz 168 [.one (.lst (a_l.map cV)), .one (.int .i64 a_kind)] (.val (.one (.bool r)))) := .mk fun H => by
 unfold MK at H;refine po_ Tryz.func168 Tryz.ntmps168 ?_;refine aY ?_;refine alM_ (fun s:Int=>match s with|i_1=>[(0,.one (.c (.lst (a_l.map cV)))),(1,.one (.c (.int .i64 a_kind))),(5,.one (.c (.int .i64 i_1)))]) (fun s=>match s with|i_1=>[]) H (fun _=>aru _)
  (fm_ bG [] rfl a8 trivial) ?_
 rintro i_1 st1 hb1 hk1;unfold BM at hb1;dsimp only at hb1 ⊢;rcases aj hb1 with⟨q_2,hb1⟩|⟨q_2,hb1⟩
 ·obtain⟨x_3,i1z,i1,i1x,hb1⟩:=bu (f:=cV) hb1
  rcases aj hb1 with⟨q_4,hb1⟩|⟨q_4,hb1⟩
  ·exact bA hb1 hk1
  cases hb1;refine aY ?_;exact⟨_,rfl,fm_ bG [] rfl a8 trivial⟩
 exact bA hb1 hk1
def mH (a_op:Int)(a_l:(List Val)):(Int×Int)->Option (Step (Int×Int) (Val)):=fun s=>match s with
 |(t_3,i_4)=>bif (decide (i_4<((a_l.length:Nat):Int)))then bif (decide (a_op=(5:Int)))then(aF a_l i_4).bind fun x_7=>(fD x_7).bind fun r_8=>(CJ t_3 r_8).bind fun r_9=>some (.next (r_9,(i64.wrap (i_4+(1:Int)))))else
 (aF a_l i_4).bind fun x_10=>(fD x_10).bind fun r_11=>(acD t_3 r_11).bind fun r_12=>some (.next (r_12,(i64.wrap (i_4+(1:Int)))))else
 some (.exit (t_3,i_4))
def abn:Sum (Int×Int) (Val)->Option ((Val))
 |.inl (t_3,i_4)=>(AG t_3).bind fun r_13=>some r_13
 |.inr q=>some q
def tp (a_op:Int)(a_l:(List Val)):Option (Val):=(aF a_l (0:Int)).bind fun x_1=>(fD x_1).bind fun r_2=>(ao (mH a_op a_l) fuel (r_2,(1:Int))).bind (abn)
instance gLogicR_ok {a_op : Int} {a_l : (List Val)} {r : Val} : OkC (tp a_op a_l = some r) (PTz 166 [.one (.int .i64 a_op), .one (.lst (a_l.map cV))] (.val (.agg (cV r)))) := .mk fun H => by
 unfold tp at H;refine po_ Tryz.func166 Tryz.ntmps166 ?_;obtain⟨x_1,i1z,i1,i1x,H⟩:=bu (f:=cV) H;obtain⟨r_2,c2,H⟩:=bd_ H;replace c2:=gTruth7_ok c2;refine aY ?_;refine alM_ (fun s:Int×Int=>match s with|(t_3,i_4)=>[(0,.one (.c (.int .i64 a_op))),(1,.one (.c (.lst (a_l.map cV)))),(4,.one (.ptr 0 0)),(5,.one (.c (.int .i64 t_3))),(6,.one (.c (.int .i64 i_4)))]) (fun s=>match s with|(t_3,i_4)=>[.box [.c (.int .i64 (0:Int)),.c (.int .i64 (0:Int)),.c (.str ByteArray.empty)]]) H (fun _=>aru _)
  (fm_ bG [] rfl a8 cm) ?_
 rintro⟨t_3,i_4⟩ st1 hb1 hk1;unfold mH at hb1;dsimp only at hb1 ⊢;rcases aj hb1 with⟨q_5,hb1⟩|⟨q_5,hb1⟩
 ·rcases aj hb1 with⟨q_6,hb1⟩|⟨q_6,hb1⟩
  ·obtain⟨x_7,i3z,i3,i3x,hb1⟩:=bu (f:=cV) hb1
   obtain⟨r_8,c4,hb1⟩:=bd_ hb1;replace c4:=gTruth7_ok c4;obtain⟨r_9,c5,hb1⟩:=bd_ hb1;replace c5:=gAndR_ok c5
   cases hb1;refine aY ?_;exact⟨_,rfl,fm_ bG [] rfl a8 cm⟩
  obtain⟨x_10,i6z,i6,i6x,hb1⟩:=bu (f:=cV) hb1;obtain⟨r_11,c7,hb1⟩:=bd_ hb1;replace c7:=gTruth7_ok c7;obtain⟨r_12,c8,hb1⟩:=bd_ hb1;replace c8:=gOrR_ok c8
  cases hb1;refine aY ?_;exact⟨_,rfl,fm_ bG [] rfl a8 cm⟩
 exact bA hb1 hk1
set_option maxHeartbeats 8000000
def gW (a_rel:Int)(a_p:ax)(a_q:ax):Option (Bool):=bif (decide (a_rel=(0:Int)))then some (decide (a_p.hi<a_q.lo))else
 bif (decide (a_rel=(1:Int)))then some (decide (a_p.hi=a_q.lo))else
 bif (decide (a_rel=(2:Int)))then bif (decide (a_p.lo<a_q.lo))then bif (decide (a_q.lo<a_p.hi))then some (decide (a_p.hi<a_q.hi))else
 some false else
 some false else
 bif (decide (a_rel=(3:Int)))then bif (decide (a_p.lo=a_q.lo))then some (decide (a_p.hi<a_q.hi))else
 some false else
 bif (decide (a_rel=(4:Int)))then bif (decide (a_q.lo<a_p.lo))then some (decide (a_p.hi<a_q.hi))else
 some false else
 bif (decide (a_rel=(5:Int)))then bif (decide (a_p.hi=a_q.hi))then some (decide (a_q.lo<a_p.lo))else
 some false else
 bif (decide (a_rel=(6:Int)))then some (b8 [.c (.int .i64 a_p.lo),.c (.int .i64 a_p.hi)] [.c (.int .i64 a_q.lo),.c (.int .i64 a_q.hi)])else
 bif (decide (a_rel=(7:Int)))then bif (decide (a_p.hi=a_q.hi))then some (decide (a_p.lo<a_q.lo))else
 some false else
 bif (decide (a_rel=(8:Int)))then bif (decide (a_p.lo<a_q.lo))then some (decide (a_q.hi<a_p.hi))else
 some false else
 bif (decide (a_rel=(9:Int)))then bif (decide (a_p.lo=a_q.lo))then some (decide (a_q.hi<a_p.hi))else
 some false else
 bif (decide (a_rel=(10:Int)))then bif (decide (a_q.lo<a_p.lo))then bif (decide (a_p.lo<a_q.hi))then some (decide (a_q.hi<a_p.hi))else
 some false else
 some false else
 bif (decide (a_rel=(11:Int)))then some (decide (a_q.hi=a_p.lo))else
 bif (decide (a_rel=(12:Int)))then some (decide (a_q.hi<a_p.lo))else
 some false
instance gIs2_ok {a_rel : Int} {a_p : ax} {a_q : ax} {r : Bool} : OkC (gW a_rel a_p a_q = some r) (PTz 85 [.one (.int .i64 a_rel), .agg (aO a_p), .agg (aO a_q)] (.val (.one (.bool r)))) := .mk fun H => by
 unfold gW at H;refine po_ Tryz.func85 Tryz.ntmps85 ?_;rcases aj H with⟨q_1,H⟩|⟨q_1,H⟩
 ·exact az H
 rcases aj H with⟨q_2,H⟩|⟨q_2,H⟩
 ·exact az H
 refine aY ?_;rcases aj H with⟨q_3,H⟩|⟨q_3,H⟩
 ·exact az H
 rcases aj H with⟨q_6,H⟩|⟨q_6,H⟩
 ·exact az H
 rcases aj H with⟨q_8,H⟩|⟨q_8,H⟩
 ·refine aY ?_
  exact az H
 refine aY ?_;rcases aj H with⟨q_10,H⟩|⟨q_10,H⟩
 ·exact az H
 rcases aj H with⟨q_12,H⟩|⟨q_12,H⟩
 ·exact az H
 rcases aj H with⟨q_13,H⟩|⟨q_13,H⟩
 ·refine aY ?_
  exact az H
 refine aY ?_;rcases aj H with⟨q_15,H⟩|⟨q_15,H⟩
 ·exact az H
 rcases aj H with⟨q_17,H⟩|⟨q_17,H⟩
 ·exact az H
 rcases aj H with⟨q_19,H⟩|⟨q_19,H⟩
 ·refine aY ?_
  exact az H
 refine aY ?_;exact az H
def pZ (a_rel:Int)(a_p:ax)(a_q:ax):Option (Bool):=(dn a_p).bind fun r_1=>bif r_1 then(dn a_q).bind fun r_3=>bif r_3 then(gW a_rel a_p a_q).bind fun r_5=>some r_5 else
 some false else
 some false
instance gHolds2_ok {a_rel : Int} {a_p : ax} {a_q : ax} {r : Bool} : OkC (pZ a_rel a_p a_q = some r) (PTz 46 [.one (.int .i64 a_rel), .agg (aO a_p), .agg (aO a_q)] (.val (.one (.bool r)))) := .mk fun H => by
 unfold pZ at H;refine po_ Tryz.func46 Tryz.ntmps46 ?_;exact az H
def oW (a_p:ax)(a_q:ax):(Int)->Option (Step (Int) (Int×Bool)):=fun s=>match s with
 |rel_1=>bif (decide (rel_1<(13:Int)))then(pZ rel_1 a_p a_q).bind fun r_3=>bif r_3 then some (.ret (rel_1,true))else
 some (.next (i64.wrap (rel_1+(1:Int))))else
 some (.exit rel_1)
def aiH:Sum (Int) (Int×Bool)->Option ((Int×Bool))
 |.inl rel_1=>some ((0:Int),false)
 |.inr q=>some q
def LN (a_p:ax)(a_q:ax):Option (Int×Bool):=(ao (oW a_p a_q) fuel (0:Int)).bind (aiH)
instance gRel2_ok {a_p : ax} {a_q : ax} {r : Int × Bool} : OkC (LN a_p a_q = some r) (PTz 222 [.agg (aO a_p), .agg (aO a_q)] (.tup [.one (.int .i64 r.1), .one (.bool r.2)])) := .mk fun H => by
 unfold LN at H;refine po_ Tryz.func222 Tryz.ntmps222 ?_;refine aY ?_;refine alM_ (fun s:Int=>match s with|rel_1=>[(2,.one (.ptr 0 0)),(3,.one (.ptr 1 0)),(6,.one (.c (.int .i64 rel_1)))]) (fun s=>match s with|rel_1=>[.box [.c (.int .i64 a_p.lo),.c (.int .i64 a_p.hi)],.box [.c (.int .i64 a_q.lo),.c (.int .i64 a_q.hi)]]) H (fun _=>aru _)
  (fm_ bG [] rfl a8 cm) ?_
 rintro rel_1 st1 hb1 hk1;unfold oW at hb1;dsimp only at hb1 ⊢;rcases aj hb1 with⟨q_2,hb1⟩|⟨q_2,hb1⟩
 ·obtain⟨r_3,c1,hb1⟩:=bd_ hb1
  replace c1:=gHolds2_ok c1;rcases aj hb1 with⟨q_4,hb1⟩|⟨q_4,hb1⟩
  ·exact bA hb1 hk1
  cases hb1;refine aY ?_;exact⟨_,rfl,fm_ bG [] rfl a8 cm⟩
 exact bA hb1 hk1
set_option maxHeartbeats 8000000
def pD (a_rel:Int)(a_l:(List Val)):Option (Val):=(MK a_l (1:Int)).bind fun r_1=>bif (!r_1)then(dB ).bind fun r_3=>some r_3 else
 (aF a_l (0:Int)).bind fun x_4=>(aF a_l (1:Int)).bind fun x_5=>(aF a_l (2:Int)).bind fun x_6=>(aF a_l (3:Int)).bind fun x_7=>(LN (⟨x_4.int,x_5.int⟩:ax) (⟨x_6.int,x_7.int⟩:ax)).bind fun r_8=>bif (!r_8.2)then(dB ).bind fun r_10=>some r_10 else
 (pY (decide (r_8.1=a_rel))).bind fun r_11=>some r_11
instance gRelatedR_ok {a_rel : Int} {a_l : (List Val)} {r : Val} : OkC (pD a_rel a_l = some r) (PTz 172 [.one (.int .i64 a_rel), .one (.lst (a_l.map cV))] (.val (.agg (cV r)))) := .mk fun H => by
 unfold pD at H;refine po_ Tryz.func172 Tryz.ntmps172 ?_;exact az H
def rU (a_op:Int)(a_l:(List Val)):Option (Val):=(MK a_l (2:Int)).bind fun r_1=>bif (!r_1)then(dB ).bind fun r_3=>some r_3 else
 bif (decide (a_op=(19:Int)))then(aF a_l (0:Int)).bind fun x_5=>(aF a_l (1:Int)).bind fun x_6=>bif (decide (x_5.text.size+x_6.text.size<=9223372036854775807))then((Dv (x_5.text++x_6.text)).bind fun r_7=>some r_7)else none else
 (aF a_l (0:Int)).bind fun x_8=>(nq ((x_8.text.size:Nat):Int)).bind fun r_9=>some r_9
instance gTexts_ok {a_op : Int} {a_l : (List Val)} {r : Val} : OkC (rU a_op a_l = some r) (PTz 170 [.one (.int .i64 a_op), .one (.lst (a_l.map cV))] (.val (.agg (cV r)))) := .mk fun H => by
 unfold rU at H;refine po_ Tryz.func170 Tryz.ntmps170 ?_;exact az H
def qh (a_l:(List Val)):(Int)->Option (Step (Int) (Val)):=fun s=>match s with
 |i_7=>bif (decide (i_7<((a_l.length:Nat):Int)))then(aF a_l i_7).bind fun x_9=>bif (decide (x_9.kind≠(0:Int)))then some (.ret x_9)else
 some (.next (i64.wrap (i_7+(1:Int))))else
 some (.exit i_7)
def ab9:Sum (Int) (Val)->Option ((Val))
 |.inl i_7=>(dB ).bind fun r_11=>some r_11
 |.inr q=>some q
def qB (a_op:Int)(a_l:(List Val)):Option (Val):=bif (decide (a_op=(22:Int)))then(aF a_l (0:Int)).bind fun x_2=>(fD x_2).bind fun r_3=>bif (decide (r_3=(2:Int)))then(aF a_l (1:Int)).bind fun x_5=>some x_5 else
 (aF a_l (2:Int)).bind fun x_6=>some x_6 else
 (ao (qh a_l) fuel (0:Int)).bind (ab9)
instance gChosen_ok {a_op : Int} {a_l : (List Val)} {r : Val} : OkC (qB a_op a_l = some r) (PTz 171 [.one (.int .i64 a_op), .one (.lst (a_l.map cV))] (.val (.agg (cV r)))) := .mk fun H => by
 unfold qB at H;refine po_ Tryz.func171 Tryz.ntmps171 ?_;rcases aj H with⟨q_1,H⟩|⟨q_1,H⟩
 ·exact az H
 refine aY ?_;refine alM_ (fun s:Int=>match s with|i_7=>[(1,.one (.c (.lst (a_l.map cV)))),(4,.one (.ptr 0 0)),(5,.one (.c (.int .i64 i_7)))]) (fun s=>match s with|i_7=>[.box [.c (.int .i64 (0:Int)),.c (.int .i64 (0:Int)),.c (.str ByteArray.empty)]]) H (fun _=>aru _)
  (fm_ bG [] rfl a8 cm) ?_
 rintro i_7 st1 hb1 hk1;unfold qh at hb1;dsimp only at hb1 ⊢;rcases aj hb1 with⟨q_8,hb1⟩|⟨q_8,hb1⟩
 ·obtain⟨x_9,i5z,i5,i5x,hb1⟩:=bu (f:=cV) hb1
  rcases aj hb1 with⟨q_10,hb1⟩|⟨q_10,hb1⟩
  ·exact bA hb1 hk1
  cases hb1;refine aY ?_;exact⟨_,rfl,fm_ bG [] rfl a8 cm⟩
 cases hb1;have hQ:ab9 (.inl i_7)=some _:=hk1;unfold ab9 at hQ;dsimp only at hQ;exact az hQ
def zW (a_e:Ex)(a_row:(List Val)):Option (Val):=bif (decide (a_e.op=(2:Int)))then(abv a_row a_e.int).bind fun r_2=>(dq r_2).bind fun r_3=>bif (!r_3)then(dB ).bind fun r_5=>some r_5 else
 some r_2 else
 (dq a_e.v).bind fun r_6=>bif (!r_6)then(dB ).bind fun r_8=>some r_8 else
 some a_e.v
instance gLeaf_ok {a_e : Ex} {a_row : (List Val)} {r : Val} : OkC (zW a_e a_row = some r) (PTz 163 [.agg (tE a_e), .one (.lst (a_row.map cV))] (.val (.agg (cV r)))) := .mk fun H => by
 unfold zW at H;rw[ay a_e];refine po_ Tryz.func163 Tryz.ntmps163 ?_;exact az H
set_option maxHeartbeats 8000000
def push {α β ρ:Type}(g:α->β)(N:Nat)(s:List β)(x:α):Option (Sum (List β) ρ):=bif decide (s.length+1<=N)then some (.inl (s++[g x]))else none
theorem Iw {α β ρ:Type}(g:α->β)(N:Nat):∀ (l:List α) (s:List β),s.length+l.length<=N->cB (ρ:=ρ) (push g N) s l=some (.inl (s++l.map g))
 |[],s,_=>by simp[cB]
 |x::l,s,h=>by
  have h':s.length+(l.length+1)<=N:=by simpa using h
  have e:push (ρ:=ρ) g N s x=some (.inl (s++[g x])):=by unfold push;rw[show decide (s.length+1<=N)=true from aq_ m0];rfl
  rw[cB,e];have:=Iw (ρ:=ρ) g N l (s++[g x]) m8;simpa using this
theorem J_ {α σ ρ:Type}{f:σ->α->Option (Sum σ ρ)}:∀ (l:List α) (s:σ),(∀ s x,x∈l ->∃ r,f s x=some r) ->∃ r,cB f s l=some r
 |[],s,_=>⟨_,rfl⟩
 |x::l,s,h=>by
  obtain⟨r,hr⟩:=h s x (arX ..);rw[cB,hr]
  cases r with
  |inl s'=>exact J_ l s' fun s y hy=>h s y (arx _ hy)
  |inr r=>exact⟨_,rfl⟩
theorem uG {s:ByteArray}(hs:s.size<=1000000):∀ (n i:Nat),i<=s.size->s.size-i<n ->∃ r,(ao (jT s) n (i:Int)).bind dt=some r
 |0,_,_,h=>by omega
 |n+1,i,h1,hn=>by
  rw[ao];unfold jT;dsimp only;by_cases hlt:i<s.size
  ·rw[show decide ((i:Int)<((s.size:Nat):Int))=true from aq_ m0,aq8]
   obtain⟨b,hb⟩:∃ b,afP s (i:Int)=some b:=by
    unfold afP;rw[if_pos m0];exact⟨s[i],by simp[hlt]⟩
   rw[hb];simp only[aq5]
   cases decide (((b.toNat:Nat):Int)<32)with
   |true=>exact⟨_,rfl⟩
   |false =>
    cases decide ((126:Int)<((b.toNat:Nat):Int))with
    |true=>exact⟨_,rfl⟩
    |false =>
     simp only[aq7];rw[wrapN m0];exact uG hs n (i+1) m0 m0
  ·rw[show decide ((i:Int)<((s.size:Nat):Int))=false from aq9 m0,aq7]
   exact⟨_,rfl⟩
theorem GQ {s:ByteArray}(hs:s.size<=1000000):∃ r,lW s=some r:=by
 have:=uG hs fuel 0 (aru _) (by unfold fuel;omega);rw[show(((0:Nat):Int))=0 from rfl]at this;exact this
theorem B8 (v:Val):∃ r,dq v=some r:=by
 unfold dq
 cases decide (v.kind=0)with
 |true=>cases decide (v.int=0)<;>exact⟨_,rfl⟩
 |false =>
  cases decide (v.kind=1)with
  |true=>cases (v.text.toList==(⟨#[]⟩:ByteArray).toList)<;>cases decide ((-1125899906842624:Int)<=v.int)<;>exact⟨_,rfl⟩
  |false =>
   cases decide (v.kind=2)with
   |true =>
    cases decide (v.int=0)with
    |false=>exact⟨_,rfl⟩
    |true =>
     by_cases h:((v.text.size:Nat):Int)<=200
     ·obtain⟨r,hr⟩:=GQ (s:=v.text) m0
      rw[show decide (((v.text.size:Nat):Int)<=200)=true from aq_ h,hr];exact⟨_,rfl⟩
     ·rw[show decide (((v.text.size:Nat):Int)<=200)=false from aq9 h]
      exact⟨_,rfl⟩
   |false =>
    cases decide (v.kind=3)with
    |true=>cases (v.text.toList==(⟨#[]⟩:ByteArray).toList)<;>cases decide (v.int=0)<;>exact⟨_,rfl⟩
    |false=>exact⟨_,rfl⟩
theorem ae7 (row:List Val)(kinds:List Int)(h:row.length<=1000000):∃ r,rX row kinds=some r:=by
 unfold rX;by_cases he:row.length=kinds.length
 ·rw[show decide (((row.length:Nat):Int)≠((kinds.length:Nat):Int))=false from aq9 m0,aq7]
  have hz:(row.zip kinds).length=row.length:=by simp;omega
  have k:=b6 (l:=row.zip kinds) (body:=gl row kinds) (mk:=fun(_:Unit) i=>i) (f:=fun(_:Unit) (x:Val×Int)=>(dq x.1).bind fun r=>bif (!r)then some (.inr false)else bif decide (x.1.kind≠0)then bif decide (x.1.kind≠x.2)then some (.inr false)else some (.inl ())else some (.inl ())) ?_ ?_ (by unfold fuel;omega) ()
  ·obtain⟨r,hr⟩:=J_ (σ:=Unit) (ρ:=Bool) (f:=fun(_:Unit) (x:Val×Int)=>(dq x.1).bind fun r=>bif (!r)then some (.inr false)else bif decide (x.1.kind≠0)then bif decide (x.1.kind≠x.2)then some (.inr false)else some (.inl ())else some (.inl ())) (row.zip kinds) () (by
    intro s x _;obtain⟨r,hr⟩:=B8 x.1;rw[hr]
    cases r<;>cases decide (x.1.kind≠0)<;>cases decide (x.1.kind≠x.2)<;>exact⟨_,rfl⟩)
   rw[k,hr]
   cases r with
   |inl _=>exact⟨_,rfl⟩
   |inr _=>exact⟨_,rfl⟩
  ·intro s i x hx
   obtain⟨h1,h2⟩:=List.getElem?_zip_eq_some.1 hx;have hi:i<row.length:=(aq6.1 h1).1;unfold gl;dsimp only;rw[aL h1,aq8,gn_ h1,gn_ h2];simp only[aq5];rw[wrapN m0]
   cases dq x.1 with
   |none=>rfl
   |some r=>cases r<;>cases decide (x.1.kind≠0)<;>cases decide (x.1.kind≠x.2)<;>rfl
  ·intro s
   unfold gl;dsimp only;rw[hz,lF_,aq7]
 ·rw[show decide (((row.length:Nat):Int)≠((kinds.length:Nat):Int))=true from aq_ m0]
  exact⟨_,rfl⟩
theorem ajL (k:Int):∃ r,zZ k=some r:=by
 unfold zZ
 cases decide (k=1)<;>cases decide (k=2)<;>exact⟨_,rfl⟩
theorem ae0 (l:List Int)(h:l.length<=1000000):∃ r,DV l=some r:=by
 unfold DV;have k:=b6 (l:=l) (body:=pw l) (mk:=fun(_:Unit) i=>i) (f:=fun(_:Unit) (x:Int)=>(zZ x).bind fun r=>bif (!r)then some (.inr false)else some (.inl ())) ?_ ?_ (by unfold fuel;omega) ()
 ·obtain⟨r,hr⟩:=J_ (σ:=Unit) (ρ:=Bool) (f:=fun(_:Unit) (x:Int)=>(zZ x).bind fun r=>bif (!r)then some (.inr false)else some (.inl ())) l () (by
   intro s x _;obtain⟨r,hr⟩:=ajL x;rw[hr]
   cases r<;>exact⟨_,rfl⟩)
  rw[k,hr]
  cases r with
  |inl _=>exact⟨_,rfl⟩
  |inr _=>exact⟨_,rfl⟩
 ·intro s i x hx
  have hi:i<l.length:=(aq6.1 hx).1;unfold pw;dsimp only;rw[aL hx,aq8,gn_ hx];simp only[aq5];rw[wrapN m0]
  cases zZ x with
  |none=>rfl
  |some r=>cases r<;>rfl
 ·intro s
  unfold pw;dsimp only;rw[lF_,aq7]
theorem rq (l:List Int)(h:l.length<=1000000):jx l l=some true:=by
 unfold jx;simp only[ne_eq,not_true_eq_false,decide_false,aq7];rw[b6 (l:=l) (mk:=fun(_:Unit) i=>i) (f:=fun(_:Unit) (_:Int)=>(some (.inl ()):Option (Sum Unit Bool))) ?_ ?_ (by unfold fuel;omega) ()]
 ·have:∀ l:List Int,cB (fun(_:Unit) (_:Int)=>(some (.inl ()):Option (Sum Unit Bool))) () l=some (.inl ()):=by
   intro l
   induction l with
   |nil=>rfl
   |cons x l ih=>rw[cB];exact ih
  rw[this];rfl
 ·intro s i x hx
  have hi:i<l.length:=(aq6.1 hx).1;unfold jV;dsimp only;rw[aL hx,aq8,gn_ hx];simp only[aq5];rw[wrapN m0];simp[oL]
 ·intro s
  unfold jV;dsimp only;rw[lF_,aq7]
theorem xr {α:Type}:∀ {l:List α},l.length=2 ->∃ c0 c1,l=[c0,c1]
 |[c0,c1],_=>⟨c0,c1,rfl⟩
theorem adY {α:Type}:∀ {l:List α},l.length=3 ->∃ c0 c1 c2,l=[c0,c1,c2]
 |[c0,c1,c2],_=>⟨c0,c1,c2,rfl⟩
theorem aos {α:Type}:∀ {l:List α},l.length=7 ->∃ c0 c1 c2 c3 c4 c5 c6,l=[c0,c1,c2,c3,c4,c5,c6]
 |[c0,c1,c2,c3,c4,c5,c6],_=>⟨c0,c1,c2,c3,c4,c5,c6,rfl⟩
theorem addr_add (b o n:Nat):(⟨b,o,none⟩:Addr).add n=⟨b,o+n,none⟩:=by
 unfold Addr.add;split<;>simp_all
def RW {W:World}(hT:gf (fun b o=>W.cell? ⟨b,o,none⟩)):PH:=⟨fun b o=>W.cell? ⟨b,o,none⟩,hT⟩
def ic {W:World}(hT:gf (fun b o=>W.cell? ⟨b,o,none⟩))(cs:List Value)(es:List AC):Prop:=cs.length=es.length /\ ∀ (j:Nat) u x,cs[j]?=some u->es[j]?=some x->bF (RW hT) u x
theorem ic.app {W:World}{hT:gf (fun b o=>W.cell? ⟨b,o,none⟩)}{c1 c2:List Value}{e1 e2:List AC}(h1:ic hT c1 e1)(h2:ic hT c2 e2):ic hT (c1++c2) (e1++e2):=by
 refine⟨by rw[ard,ard,h1.1,h2.1],fun j u x hu hx=>?_⟩;have hl:=h1.1;by_cases hj:j<c1.length
 ·rw[arl hj]at hu
  rw[arl m0]at hx;exact h1.2 j u x hu hx
 ·rw[arc m0]at hu
  rw[arc m0,<- hl]at hx;exact h2.2 _ u x hu hx
theorem ic.one {W:World}{hT:gf (fun b o=>W.cell? ⟨b,o,none⟩)}{v:Value}{e:AC}(h:bF (RW hT) v e):ic hT [v] [e]:=by
 refine⟨rfl,fun j u x hu hx=>?_⟩
 match j,hu,hx with
 |0,hu,hx=>simp at hu hx;subst hu hx;exact h
 |j+1,hu,hx=>simp at hu
def Be (n:Int):Prop := -9223372036854775808<=n/\n<=9223372036854775807
def SOk (s:ByteArray):Prop:=s.size<=9223372036854775807
def we {α:Type}(k:Nat)(Q:α->Prop)(l:List α):Prop:=l.length*k<=reachBytes /\ ∀ a∈l,Q a
def kJ {H:Type}(t:TypeId)(d:DataW H):Prop :=∀ n∈DataW.weights Tryz.prog t d,n<=reachBytes
theorem aeo {H:Type}{e:TypeId}:∀ {l:List (DataW H)} {d:DataW H},d∈l ->∀ n∈DataW.weights Tryz.prog e d,n∈DataW.weightsAll Tryz.prog e l
 |x::l,d,h,n,hn=>by
  rw[DataW.weightsAll,arB];rcases arp.1 h with rfl|h
  ·exact .inl hn
  ·exact .inr (aeo h n hn)
theorem de {H:Type}:∀ {ts:List TypeId} {l:List (DataW H)} {i:Nat} {t:TypeId} {d:DataW H},ts[i]?=some t->l[i]?=some d ->∀ n∈DataW.weights Tryz.prog t d,n∈DataW.weightsEach Tryz.prog ts l
 |t0::ts,d0::l,0,t,d,h1,h2,n,hn=>by
  simp at h1 h2;subst h1 h2;rw[DataW.weightsEach,arB];exact .inl hn
 |t0::ts,d0::l,i+1,t,d,h1,h2,n,hn=>by
  rw[DataW.weightsEach,arB];exact .inr (de (by simpa using h1) (by simpa using h2) n hn)
 |[],_,i,t,d,h1,_,n,hn=>by simp at h1
 |_::_,[],i,t,d,_,h2,n,hn=>by simp at h2
section
variable {H:Type} {enc:TypeId × Value->H} {W:World} {hT:gf (fun b o=>W.cell? ⟨b,o,none⟩)} {base:Nat} {spare:Nat->Bool} {held:Bool}
theorem cD {t:TypeId}(ht:Tryz.prog.underlying t=some (.int .i64)){cs:List Value}{fuel:Nat}{x:DataW H×List MemPlace}(h:DataW.trod enc Tryz.prog W base spare held fuel t cs=some x):∃ n:Int,ic hT cs [.int .i64 n]/\Be n:=by
 obtain⟨n,rfl,_,hw⟩:=DataW.trod_int ht h;rw[Lit.wf,arq]at hw;exact⟨n,ic.one (.int _ _),arC hw.1,arC hw.2⟩
theorem LU {t:TypeId}(ht:Tryz.prog.underlying t=some .string){cs:List Value}{fuel:Nat}{x:DataW H×List MemPlace}(h:DataW.trod enc Tryz.prog W base spare held fuel t cs=some x):∃ s:ByteArray,ic hT cs [.str s]/\SOk s:=by
 obtain⟨s,rfl,_,hs⟩:=DataW.trod_string ht h;exact⟨s,ic.one (.str _),hs⟩
theorem bZ {α:Type}{t e:TypeId}{k:Nat}{f:α->List AC}{Q:α->Prop}(ht:Tryz.prog.underlying t=some (.slice e))(hk:Tryz.prog.cellsOf e=k){by_:Nat}(hby:Tryz.prog.bytesOf e=by_)(hk0:0<k)(hf:∀ x,(f x).length=k){cs:List Value}{fuel:Nat}{x:DataW H×List MemPlace}(h:DataW.trod enc Tryz.prog W base spare held fuel t cs=some x)(hw:kJ t x.1)
  (hr:∀ (fuel':Nat) (cs':List Value) (x':DataW H×List MemPlace),fuel'<fuel->DataW.trod enc Tryz.prog W base spare held fuel' e cs'=some x'->kJ e x'.1 ->∃ a,ic hT cs' (f a)/\Q a):∃ l:List α,ic hT cs [.lst (l.map f)]/\we by_ Q l:=by
 rcases DataW.trod_slice ht h with⟨rfl,_⟩|⟨a,len,cap,elems,rest,n,hfu,rfl,hxe,_,hlc,hm,hel,hx,_,_⟩
 ·exact⟨[],ic.one (dE _ _ _),m5,fun a ha=>by cases ha⟩
 ·have hww:(∀ n∈DataW.weightsAll Tryz.prog e (elems.map (·.1)),n<=reachBytes)/\len*by_<=reachBytes:=by
   rw[hxe]at hw;unfold kJ at hw;simp only[DataW.weights,ht]at hw;refine⟨fun n hn=>hw n (arx _ (List.mem_append_left _ hn)),?_⟩;have:=hw _ (arX ..);simp only[arj,hel,hby]at this;exact Nat.le_trans (arM _ (Nat.le_add_right _ _)) this
  have hi:∀ i,i<len ->∃ y,(∃ cs',W.cells? base (a.add (i*k)) k=some cs'/\ic hT cs' (f y))/\Q y:=by
   intro i hlt;have h1:=hx i hlt;rw[arf m0,hk]at h1
   cases hc:W.cells? base (a.add (i*k)) k with
   |none=>rw[hc]at h1;cases h1
   |some cs'=>rw[hc]at h1;obtain⟨y,h2,h3⟩:=hr n cs' _ m0 h1 (fun m hm=>hww.1 m (aeo (List.mem_map_of_mem (f:=fun p:DataW H×List MemPlace=>p.1) (List.getElem_mem m0)) m hm));exact⟨y,⟨cs',rfl,h2⟩,h3⟩
  rcases Nat.eq_zero_or_pos len with h0|h0
  ·subst h0;exact⟨[],ic.one (dE _ _ _),m5,fun a ha=>by cases ha⟩
  ·obtain⟨y0,⟨cs0,hc0,_⟩,_⟩:=hi 0 h0
   let g:Nat->α:=fun i=>if h:i<len then Classical.choose (hi i h)else y0
   have hg:∀ i,i<len->(∃ cs',W.cells? base (a.add (i*k)) k=some cs'/\ic hT cs' (f (g i)))/\Q (g i):=by
    intro i hlt;have:g i=Classical.choose (hi i hlt):=by simp[g,hlt]
    rw[this];exact Classical.choose_spec (hi i hlt)
   obtain⟨b,off,spot⟩:=a;have hs0:spot=none:=by
    obtain⟨_,hl,hat⟩:=World.cells?_some hc0;have h1:=hat 0 hk0;rw[arf m0]at h1;have:=World.cell?_spot h1;simpa[Addr.add]using this
   subst hs0;refine⟨(List.range len).map g,ic.one ?_,(by rw[arj,List.length_range];exact hww.2),?_⟩
   ·have cell:∀ i,i<len ->∀ j,j<k ->∃ u y,W.cell? ⟨b,off+(i*k+j),none⟩=some u/\(f (g i))[j]?=some y/\bF (RW hT) u y:=by
     intro i hlt j hj;obtain⟨⟨cs',hc,hcr⟩,_⟩:=hg i hlt;obtain⟨_,hl,hat⟩:=World.cells?_some hc;have h1:=hat j hj;rw[arf m0]at h1;have hfl:=hf (g i);refine⟨_,_,?_,arf m0,hcr.2 j _ _ (arf m0) (arf m0)⟩;rw[addr_add,addr_add,Nat.add_assoc]at h1;exact h1
    refine .lst (some ⟨b,off,none⟩) len cap _ k (fun j=>(W.cell? ⟨b,off+j,none⟩).getD (.bool false)) b off m5 hlc ?_ (fun _=>rfl) ?_ ?_
    ·intro e he
     simp only[List.map_map,arK]at he;obtain⟨i,_,rfl⟩:=he;exact hf _
    ·intro j hj
     have hd:j/k<len:=by rw[Nat.div_lt_iff_lt_mul hk0];exact hj
     obtain⟨u,y,h1,_,_⟩:=cell (j/k) hd (j%k) (Nat.mod_lt _ hk0);have hjj:j/k*k+j%k=j:=by rw[Nat.mul_comm];exact Nat.div_add_mod j k
     rw[hjj]at h1;show W.cell? _=_;rw[h1];rfl
    ·intro i e j x he hxx
     have hlt:i<len:=by have:=(aq6.1 he).1;simpa using this
     have:e=f (g i):=by simp[hlt]at he;exact he.symm
     subst this;have hj:j<k:=by have:=(aq6.1 hxx).1;rw[hf]at this;exact this
     obtain⟨u,y,h1,h2,h3⟩:=cell i hlt j hj;rw[h2]at hxx;obtain rfl:=arH hxx;rw[h1];exact h3
   ·intro a ha
    simp only[arK,List.mem_range]at ha;obtain⟨i,hlt,rfl⟩:=ha;exact(hg i hlt).2
theorem r6 {s:TypeId}{x:DataW H×List MemPlace}{fs:Array Field}{n:Nat}{cs:List Value}{xs:List (DataW H×List MemPlace)}(hs:Tryz.prog.underlying s=some (.struct fs))(hx:x=(.agg (xs.map (·.1)),xs.flatMap (·.2)))(hw:kJ s x.1)(hl:xs.length=fs.size)(hf:∀ (i:Nat) (f:Field),fs[i]?=some f->DataW.trod enc Tryz.prog W base spare held n f.type ((cs.drop f.offset).take (Tryz.prog.cellsOf f.type))=xs[i]?)
  (i:Nat) {f:Field} {t o k:Nat} (hi:fs[i]?=some f) (h1:f.type=t) (h2:f.offset=o) (h3:Tryz.prog.cellsOf t=k):∃ y,DataW.trod enc Tryz.prog W base spare held n t ((cs.drop o).take k)=some y/\kJ t y.1:=by
 have hlt:i<fs.size:=(arU.1 hi).1;have:=hf i f hi;rw[h1,h2,h3,arf m0]at this;refine⟨_,this,fun m hm=>?_⟩;rw[hx]at hw;unfold kJ at hw;simp only[DataW.weights,hs]at hw;refine hw m (de (i:=i) ?_ ?_ m hm)
 ·rw[arw,Array.getElem?_toList,hi];simp[h1]
 ·rw[arw,arf m0];rfl
end
structure uB (x:Val):Prop where
 kind:Be x.kind
 int:Be x.int
 text:SOk x.text
section
variable {H:Type} {enc:TypeId × Value->H} {W:World} {hT:gf (fun b o=>W.cell? ⟨b,o,none⟩)} {base:Nat} {spare:Nat->Bool} {held:Bool}
theorem aiR:∀ (fuel:Nat) {cs:List Value} {x:DataW H×List MemPlace},DataW.trod enc Tryz.prog W base spare held fuel 33 cs=some x->kJ 33 x.1 ->∃ a:Val,ic hT cs (cV a)/\uB a:=by
 intro fuel;intro cs x h hw;obtain⟨xs,n,hfu,hxe,hlen,hxs,hf⟩:=DataW.trod_struct Tryz.underlying33 h;rw[show Tryz.prog.cellsOf 33=3 by kernel_rfl]at hlen;obtain⟨c0,c1,c2,rfl⟩:=adY hlen;obtain⟨y0,h0,w0⟩:=r6 Tryz.underlying33 hxe hw hxs hf 0 (t:=3) (o:=0) (k:=1) rfl rfl rfl k7;replace h0:DataW.trod enc Tryz.prog W base spare held n 3 [c0]=some y0:=h0;obtain⟨l0,r0,q0⟩:=cD Tryz.underlying3 h0;obtain⟨y1,h1,w1⟩:=r6 Tryz.underlying33 hxe hw hxs hf 1 (t:=3) (o:=1) (k:=1) rfl rfl rfl k7;replace h1:DataW.trod enc Tryz.prog W base spare held n 3 [c1]=some y1:=h1;obtain⟨l1,r1,q1⟩:=cD Tryz.underlying3 h1;obtain⟨y2,h2,w2⟩:=r6 Tryz.underlying33 hxe hw hxs hf 2 (t:=9) (o:=2) (k:=1) rfl rfl rfl k7;replace h2:DataW.trod enc Tryz.prog W base spare held n 9 [c2]=some y2:=h2;obtain⟨l2,r2,q2⟩:=LU Tryz.underlying9 h2;exact⟨⟨l0,l1,l2⟩,((r0.app r1).app r2),⟨q0,q1,q2⟩⟩
end
structure Am (x:ax):Prop where
 lo:Be x.lo
 hi:Be x.hi
section
variable {H:Type} {enc:TypeId × Value->H} {W:World} {hT:gf (fun b o=>W.cell? ⟨b,o,none⟩)} {base:Nat} {spare:Nat->Bool} {held:Bool}
theorem acu:∀ (fuel:Nat) {cs:List Value} {x:DataW H×List MemPlace},DataW.trod enc Tryz.prog W base spare held fuel 53 cs=some x->kJ 53 x.1 ->∃ a:ax,ic hT cs (aO a)/\Am a:=by
 intro fuel;intro cs x h hw;obtain⟨xs,n,hfu,hxe,hlen,hxs,hf⟩:=DataW.trod_struct Tryz.underlying53 h;rw[show Tryz.prog.cellsOf 53=2 by kernel_rfl]at hlen;obtain⟨c0,c1,rfl⟩:=xr hlen;obtain⟨y0,h0,w0⟩:=r6 Tryz.underlying53 hxe hw hxs hf 0 (t:=3) (o:=0) (k:=1) rfl rfl rfl k7;replace h0:DataW.trod enc Tryz.prog W base spare held n 3 [c0]=some y0:=h0;obtain⟨l0,r0,q0⟩:=cD Tryz.underlying3 h0;obtain⟨y1,h1,w1⟩:=r6 Tryz.underlying53 hxe hw hxs hf 1 (t:=3) (o:=1) (k:=1) rfl rfl rfl k7;replace h1:DataW.trod enc Tryz.prog W base spare held n 3 [c1]=some y1:=h1;obtain⟨l1,r1,q1⟩:=cD Tryz.underlying3 h1;exact⟨⟨l0,l1⟩,(r0.app r1),⟨q0,q1⟩⟩
theorem K4 {cs:List Value}{fuel:Nat}{x:DataW H×List MemPlace}(h:DataW.trod enc Tryz.prog W base spare held fuel 50 cs=some x)(hw:kJ 50 x.1):∃ l:List Val,ic hT cs [.lst (l.map cV)]/\we 32 uB l :=
 bZ (k:=3) (f:=cV) (Q:=uB) Tryz.underlying50 k7 k7 m9 (fun _=>rfl) h hw (fun f c x _ h hw=>aiR f h hw)
end
structure adL (x:ap):Prop where
 row:(we 32 uB) x.row
 valid:Am x.valid
section
variable {H:Type} {enc:TypeId × Value->H} {W:World} {hT:gf (fun b o=>W.cell? ⟨b,o,none⟩)} {base:Nat} {spare:Nat->Bool} {held:Bool}
theorem anD:∀ (fuel:Nat) {cs:List Value} {x:DataW H×List MemPlace},DataW.trod enc Tryz.prog W base spare held fuel 55 cs=some x->kJ 55 x.1 ->∃ a:ap,ic hT cs (aH a)/\adL a:=by
 intro fuel;intro cs x h hw;obtain⟨xs,n,hfu,hxe,hlen,hxs,hf⟩:=DataW.trod_struct Tryz.underlying55 h;rw[show Tryz.prog.cellsOf 55=3 by kernel_rfl]at hlen;obtain⟨c0,c1,c2,rfl⟩:=adY hlen;obtain⟨y0,h0,w0⟩:=r6 Tryz.underlying55 hxe hw hxs hf 0 (t:=50) (o:=0) (k:=1) rfl rfl rfl k7;replace h0:DataW.trod enc Tryz.prog W base spare held n 50 [c0]=some y0:=h0;obtain⟨l0,r0,q0⟩:=K4 h0 w0;obtain⟨y1,h1,w1⟩:=r6 Tryz.underlying55 hxe hw hxs hf 1 (t:=53) (o:=1) (k:=2) rfl rfl rfl k7;replace h1:DataW.trod enc Tryz.prog W base spare held n 53 [c1,c2]=some y1:=h1;obtain⟨l1,r1,q1⟩:=acu n h1 w1;exact⟨⟨l0,l1⟩,(r0.app r1),⟨q0,q1⟩⟩
theorem aiI {cs:List Value}{fuel:Nat}{x:DataW H×List MemPlace}(h:DataW.trod enc Tryz.prog W base spare held fuel 29 cs=some x)(hw:kJ 29 x.1):∃ l:List Int,ic hT cs [.lst (l.map (fun x=>[AC.int .i64 x]))]/\we 8 Be l :=
 bZ (k:=1) (f:=(fun x=>[AC.int .i64 x])) (Q:=Be) Tryz.underlying29 k7 k7 m9 (fun _=>rfl) h hw (fun f c x _ h hw=>cD Tryz.underlying3 h)
theorem amJ {cs:List Value}{fuel:Nat}{x:DataW H×List MemPlace}(h:DataW.trod enc Tryz.prog W base spare held fuel 22 cs=some x)(hw:kJ 22 x.1):∃ l:List ap,ic hT cs [.lst (l.map aH)]/\we 40 adL l :=
 bZ (k:=3) (f:=aH) (Q:=adL) Tryz.underlying22 k7 k7 m9 (fun _=>rfl) h hw (fun f c x _ h hw=>anD f h hw)
end
structure jk (x:aW):Prop where
 kinds:(we 8 Be) x.kinds
 facts:(we 40 adL) x.facts
section
variable {H:Type} {enc:TypeId × Value->H} {W:World} {hT:gf (fun b o=>W.cell? ⟨b,o,none⟩)} {base:Nat} {spare:Nat->Bool} {held:Bool}
theorem nF:∀ (fuel:Nat) {cs:List Value} {x:DataW H×List MemPlace},DataW.trod enc Tryz.prog W base spare held fuel 31 cs=some x->kJ 31 x.1 ->∃ a:aW,ic hT cs (aV a)/\jk a:=by
 intro fuel;intro cs x h hw;obtain⟨xs,n,hfu,hxe,hlen,hxs,hf⟩:=DataW.trod_struct Tryz.underlying31 h;rw[show Tryz.prog.cellsOf 31=2 by kernel_rfl]at hlen;obtain⟨c0,c1,rfl⟩:=xr hlen;obtain⟨y0,h0,w0⟩:=r6 Tryz.underlying31 hxe hw hxs hf 0 (t:=29) (o:=0) (k:=1) rfl rfl rfl k7;replace h0:DataW.trod enc Tryz.prog W base spare held n 29 [c0]=some y0:=h0;obtain⟨l0,r0,q0⟩:=aiI h0 w0;obtain⟨y1,h1,w1⟩:=r6 Tryz.underlying31 hxe hw hxs hf 1 (t:=22) (o:=1) (k:=1) rfl rfl rfl k7;replace h1:DataW.trod enc Tryz.prog W base spare held n 22 [c1]=some y1:=h1;obtain⟨l1,r1,q1⟩:=amJ h1 w1;exact⟨⟨l0,l1⟩,(r0.app r1),⟨q0,q1⟩⟩
end
inductive gV:Ex->Prop
 |mk {op:Int} {int:Int} {v:Val} {nm:ByteArray} {args:(List Ex)} (h0:Be op) (h1:Be int) (h2:uB v) (h3:SOk nm) (h4:args.length*88<=reachBytes) (g4:∀ a∈args,gV a):gV (.mk op int v nm args)
section
variable {H:Type} {enc:TypeId × Value->H} {W:World} {hT:gf (fun b o=>W.cell? ⟨b,o,none⟩)} {base:Nat} {spare:Nat->Bool} {held:Bool}
theorem Ij:∀ (fuel:Nat) {cs:List Value} {x:DataW H×List MemPlace},DataW.trod enc Tryz.prog W base spare held fuel 36 cs=some x->kJ 36 x.1 ->∃ a:Ex,ic hT cs (tE a)/\gV a:=by
 intro fuel
 induction fuel using Nat.strongRecOn with
 |ind fuel ih =>
 intro cs x h hw;obtain⟨xs,n,hfu,hxe,hlen,hxs,hf⟩:=DataW.trod_struct Tryz.underlying36 h;rw[show Tryz.prog.cellsOf 36=7 by kernel_rfl]at hlen;obtain⟨c0,c1,c2,c3,c4,c5,c6,rfl⟩:=aos hlen;obtain⟨y0,h0,w0⟩:=r6 Tryz.underlying36 hxe hw hxs hf 0 (t:=3) (o:=0) (k:=1) rfl rfl rfl k7;replace h0:DataW.trod enc Tryz.prog W base spare held n 3 [c0]=some y0:=h0;obtain⟨l0,r0,q0⟩:=cD Tryz.underlying3 h0;obtain⟨y1,h1,w1⟩:=r6 Tryz.underlying36 hxe hw hxs hf 1 (t:=3) (o:=1) (k:=1) rfl rfl rfl k7;replace h1:DataW.trod enc Tryz.prog W base spare held n 3 [c1]=some y1:=h1;obtain⟨l1,r1,q1⟩:=cD Tryz.underlying3 h1;obtain⟨y2,h2,w2⟩:=r6 Tryz.underlying36 hxe hw hxs hf 2 (t:=33) (o:=2) (k:=3) rfl rfl rfl k7;replace h2:DataW.trod enc Tryz.prog W base spare held n 33 [c2,c3,c4]=some y2:=h2;obtain⟨l2,r2,q2⟩:=aiR n h2 w2;obtain⟨y3,h3,w3⟩:=r6 Tryz.underlying36 hxe hw hxs hf 3 (t:=9) (o:=5) (k:=1) rfl rfl rfl k7;replace h3:DataW.trod enc Tryz.prog W base spare held n 9 [c5]=some y3:=h3;obtain⟨l3,r3,q3⟩:=LU Tryz.underlying9 h3;obtain⟨y4,h4,w4⟩:=r6 Tryz.underlying36 hxe hw hxs hf 4 (t:=34) (o:=6) (k:=1) rfl rfl rfl k7;replace h4:DataW.trod enc Tryz.prog W base spare held n 34 [c6]=some y4:=h4;obtain⟨l4,r4,q4⟩:=bZ (k:=7) (f:=tE) (Q:=gV) Tryz.underlying34 k7 k7 m9 J0 h4 w4 (fun f c x hlt h hw=>ih f m0 h hw)
 exact⟨.mk l0 l1 l2 l3 l4,(by rw[ay];exact((((r0.app r1).app r2).app r3).app r4)),.mk q0 q1 q2 q3 q4.1 q4.2⟩
end
theorem AO:∀ (a b x y:List UInt8),(32:UInt8)∉a->(32:UInt8)∉b->a++32::x=b++32::y->a=b/\x=y
 |[],[],x,y,_,_,h=>by simpa using h
 |[],c::b,x,y,_,hb,h=>by
  simp at h;exact absurd h.1.symm (fun e=>hb (by rw[e];simp))
 |c::a,[],x,y,ha,_,h=>by
  simp at h;exact absurd h.1 (fun e=>ha (by rw[e];simp))
 |c::a,d::b,x,y,ha,hb,h=>by
  simp at h;obtain⟨h1,h2⟩:=AO a b x y (fun q=>ha (arx _ q)) (fun q=>hb (arx _ q)) h.2;exact⟨by rw[h.1,h1],h2⟩
def ahv (b:UInt8):Prop:=48<=b.toNat/\b.toNat<=57
theorem Jm {d:Nat}(h:d<10):(UInt8.ofNat (48+d)).toNat=48+d:=by
 rw[UInt8.toNat_ofNat'];omega
theorem nD (u:Nat):∀ b∈Lib.decDigits u,ahv b:=by
 induction u using Nat.strongRecOn with
 |_ u ih =>
  intro b hb;rw[Lib.decDigits]at hb;split at hb
  ·rename_i h
   rw[arQ.1 hb];unfold ahv;rw[Jm h];omega
  ·rename_i h
   rcases arB.1 hb with hb|hb
   ·exact ih (u/10) m0 b hb
   ·rw[arQ.1 hb];unfold ahv;rw[Jm m0];omega
def La (l:List UInt8):Nat:=l.foldl (fun a b=>a*10+(b.toNat-48)) 0
theorem NB (l:List UInt8)(b:UInt8):La (l++[b])=La l*10+(b.toNat-48):=by unfold La;rw[List.foldl_append];rfl
theorem uH (u:Nat):La (Lib.decDigits u)=u:=by
 induction u using Nat.strongRecOn with
 |_ u ih =>
  rw[Lib.decDigits];split
  ·rename_i h
   show 0*10+((UInt8.ofNat (48+u)).toNat-48)=u;rw[Jm h];omega
  ·rename_i h
   rw[NB,ih (u/10) m0,Jm m0];omega
theorem uw {u v:Nat}(h:Lib.decDigits u=Lib.decDigits v):u=v:=by rw[<- uH u,h,uH]
theorem lq (n:Int):(32:UInt8)∉Lib.itoa n:=by
 intro h;unfold Lib.itoa at h;split at h
 ·rcases arp.1 h with h|h
  ·exact absurd h m9
  ·have:=(nD _ _ h).1;exact absurd this m9
 ·have:=(nD _ _ h).1;exact absurd this m9
theorem BO {n m:Int}(h:Lib.itoa n=Lib.itoa m):n=m:=by
 have key:∀ (a b:Nat),Lib.decDigits a≠45::Lib.decDigits b:=by
  intro a b e;have:=(nD a 45 (by rw[e];simp)).1;exact absurd this m9
 unfold Lib.itoa at h;split at h<;>split at h
 ·have:=uw (List.cons.inj h).2;omega
 ·exact absurd h.symm (key _ _)
 ·exact absurd h (key _ _)
 ·have:=uw h;omega
def xh (v:Val):List UInt8:=Lib.itoa v.kind++32::(Lib.itoa v.int++32::(Lib.itoa v.text.size++32::v.text.data.toList))
def Gt (l:List Val):List UInt8:=l.flatMap xh
theorem amT (a b:ByteArray):(a++b).data.toList=a.data.toList++b.data.toList:=by simp
theorem Hv (l:List Val):(cL l).data.toList=Gt l:=by
 have:∀ (l:List Val) (a:ByteArray),(l.foldl (fun a v=>jD a (w9 v)++v.text) a).data.toList=a.data.toList++Gt l:=by
  intro l
  induction l with
  |nil=>intro a;simp[Gt]
  |cons v l ih =>
   intro a;rw[ar0,ih];have e:jD a (w9 v)=a++jn v.kind++c32++jn v.int++c32++jn v.text.size++c32:=rfl;have e1:∀ n,(jn n).data.toList=Lib.itoa n:=fun n=>rfl
   have e2:c32.data.toList=[32]:=rfl;rw[e];simp only[amT,e1,e2,Gt,arN,xh,arA,List.cons_append,ara]
 have:=this l ⟨#[]⟩;simpa[cL]using this
theorem agB {v w:Val}{x y:List UInt8}(h:xh v++x=xh w++y):v=w/\x=y:=by
 unfold xh at h;simp only[arA,List.cons_append]at h;obtain⟨h1,h⟩:=AO _ _ _ _ (lq _) (lq _) h;obtain⟨h2,h⟩:=AO _ _ _ _ (lq _) (lq _) h;obtain⟨h3,h⟩:=AO _ _ _ _ (lq _) (lq _) h;have h3:=BO h3;have hs:v.text.data.toList.length=w.text.data.toList.length:=by
  have e:∀ s:ByteArray,s.data.toList.length=s.size:=fun s=>rfl
  rw[e,e];omega
 obtain⟨h4,h5⟩:=List.append_inj h hs;refine⟨?_,h5⟩;obtain⟨a,b,⟨⟨c⟩⟩⟩:=v;obtain⟨a',b',⟨⟨c'⟩⟩⟩:=w;simp only at h1 h2 h4;rw[BO h1,BO h2,h4]
theorem Lm:∀ (a b:List Val),Gt a=Gt b->a=b
 |[],[],_=>rfl
 |[],w::b,h=>by
  have:=congrArg List.length h;simp[Gt,xh]at this
 |v::a,[],h=>by
  have:=congrArg List.length h;simp[Gt,xh]at this
 |v::a,w::b,h=>by
  have h':xh v++Gt a=xh w++Gt b:=h;obtain⟨h1,h2⟩:=agB h';rw[h1,Lm a b h2]
theorem key_inj {a b:List Val}(h:cL a=cL b):a=b:=Lm a b (by rw[<- Hv,<- Hv,h])
end Go.Proofs.YtlcceppoloaecaaGreatDoor
namespace Go.Proofs.YtlcceppoloaecaaGreatDoor.St
open IntKind (i64)
open Go.RowKit
theorem GH {P:List Int}(h:cU P):P.Pairwise (· < ·):=List.pairwise_iff_getElem.2 fun i j hi hj hij=>h i j _ _ hij (arf hi) (arf hj)
theorem Az {l:List (Int×Int)}(h:l.Pairwise fun x y=>x.1<y.1):Asc l:=by
 intro i j x y hij hx hy;obtain⟨hi,rfl⟩:=aq6.1 hx;obtain⟨hj,rfl⟩:=aq6.1 hy;exact List.pairwise_iff_getElem.1 h i j hi hj hij
theorem G5 (f:Int->Int):∀ (P:List Int) (acc:List (Int×Int)),P.Pairwise (· < ·)->(acc.Pairwise fun x y=>x.1<y.1)->(∀ s∈acc,∀ x∈P,s.1<x)->(∀ s∈acc,s.2=f s.1) ->
  ((P.foldl (fun acc p=>dK acc (p,f p)) acc).Pairwise fun x y=>x.1<y.1) /\ ∀ s∈P.foldl (fun acc p=>dK acc (p,f p)) acc,(s∈acc\/s.1∈P)/\s.2=f s.1
 |[],acc,_,h2,_,h4=>⟨h2,fun s hs=>⟨.inl hs,h4 s hs⟩⟩
 |x::P,acc,h1,h2,h3,h4=>by
  rw[ar0];have hp:=ase.1 h1;have hput:∀ s∈dK acc (x,f x),s∈acc\/s=(x,f x):=by
   intro s hs;unfold dK at hs;split at hs
   ·exact .inl hs
   ·rcases arB.1 hs with hs|hs
    ·exact .inl hs
    ·exact .inr (arQ.1 hs)
  have hpw:(dK acc (x,f x)).Pairwise fun x y=>x.1<y.1:=by
   unfold dK;split
   ·exact h2
   ·refine List.pairwise_append.2 ⟨h2,List.pairwise_singleton _ _,fun a ha b hb=>?_⟩
    rw[arQ.1 hb];exact h3 a ha x m5
  obtain⟨q1,q2⟩:=G5 f P (dK acc (x,f x)) hp.2 hpw (fun s hs y hy=>by
   rcases hput s hs with h|rfl
   ·exact h3 s h y (arx _ hy)
   ·exact hp.1 y hy) (fun s hs=>by
   rcases hput s hs with h|rfl
   ·exact h4 s h
   ·rfl)
  refine⟨q1,fun s hs=>?_⟩;obtain⟨h5,h6⟩:=q2 s hs;refine⟨?_,h6⟩;rcases h5 with h5|h5
  ·rcases hput s h5 with h|rfl
   ·exact .inl h
   ·exact .inr m5
  ·exact .inr (arx _ h5)
theorem EE (l:List ((Int×Int)×Int)):Asc (Ov l) /\ ∀ s∈Ov l,s.1<1099511627776/\s.2=mN l s.1:=by
 obtain⟨h1,h2⟩:=G5 (mN l) (fA l) [] (GH (fM l).1) List.Pairwise.nil (fun s hs=>by cases hs) (fun s hs=>by cases hs);refine⟨Az h1,fun s hs=>?_⟩;obtain⟨h3,h4⟩:=h2 s hs;rcases h3 with h3|h3
 ·cases h3
 ·exact⟨((fM l).2 s.1).1 h3 |>.2,h4⟩
theorem adP (l:List ((Int×Int)×Int)):(Ov l).length<=1+2*l.length:=by
 have h1:=pi (mN l) (fA l);have h2:(fA l).length<=1+2*l.length:=by
  have ha:∀ (l:List ((Int×Int)×Int)) (p:List Int),(l.foldl (fun p c=>if aQ c.1 then ins c.1.2 (ins c.1.1 p)else p) p).length<=p.length+2*l.length:=by
   intro l
   induction l with
   |nil=>intro p;simp
   |cons c l ih =>
    intro p;rw[ar0,arv];have:=ih (if aQ c.1 then ins c.1.2 (ins c.1.1 p)else p);have h3:(if aQ c.1 then ins c.1.2 (ins c.1.1 p)else p).length<=p.length+2:=by
     split
     ·have q1:=Bj c.1.2 (ins c.1.1 p);have q2:=Bj c.1.1 p;omega
     ·omega
    omega
  have h4:=ha l [0];have h5:(fA l).length<=(IZ l).length:=by unfold fA;exact uE _ _
  have h6:IZ l=l.foldl (fun p c=>if aQ c.1 then ins c.1.2 (ins c.1.1 p)else p) [0]:=rfl;rw[h6]at h5;simp at h4;omega
 show(cZ (mN l) (fA l)).length<=_;omega
theorem yN (p:Int):∀ l:List ((Int×Int)×Int),(∀ c∈l,c.2=1)->0<=nH l p/\nH l p<=l.length
 |[],_=>by simp[nH]
 |c::l,h=>by
  have ih:=yN p l fun x hx=>h x (arx _ hx)
  have hi:nH (c::l) p=(if aX c.1 p then c.2 else 0)+nH l p:=by simp[nH]
  have hc:=h c m5;rw[hi,arv];split<;>omega
theorem pz {l:List ((Int×Int)×Int)}(p:Int)(h:∀ c∈l,c.2=1)(hn:l.length<=1000000):mN l p=nH l p:=by
 have:=yN p l h;rw[pP];unfold wrap64;omega
end Go.Proofs.YtlcceppoloaecaaGreatDoor.St
namespace Go.Proofs.YtlcceppoloaecaaGreatDoor
open IntKind (i64)
open Go.RowKit
def ones (ps:List ax):List yV:=ps.map fun p=>⟨p,1⟩
def bK (ps:List ax):List ax:=yg (wj (ones ps))
theorem sR (ps:List ax):∀ c∈(ones ps).map toC,c.2=1:=by
 intro c hc;obtain⟨x,hx,rfl⟩:=arK.1 hc;obtain⟨p,_,rfl⟩:=arK.1 hx;rfl
theorem NL (ps:List ax)(hn:ps.length<=300):MC (wj (ones ps)):=by
 have hl:((ones ps).map toC).length=ps.length:=by simp[ones]
 obtain⟨h1,h2⟩:=St.EE ((ones ps).map toC);have h3:=St.adP ((ones ps).map toC);rw[hl]at h3;have e:(wj (ones ps)).map toS=St.Ov ((ones ps).map toC):=by
  unfold wj;rw[List.map_map];have:(toS∘ofS)=id:=by funext x;rfl
  rw[this,List.map_id]
 refine⟨by unfold wj;rw[arj];omega,by rw[e];exact h1,fun s hs=>?_,fun s hs=>?_⟩
 ·have:toS s∈St.Ov ((ones ps).map toC):=by rw[<- e];exact List.mem_map_of_mem hs
  exact(h2 _ this).1
 ·have:toS s∈St.Ov ((ones ps).map toC):=by rw[<- e];exact List.mem_map_of_mem hs
  have h4:=(h2 _ this).2;rw[St.pz _ (sR ps) m0]at h4;have h5:=(St.yN (toS s).1 _ (sR ps)).2;rw[hl]at h5;show(toS s).2<=600;omega
theorem ahT {x:Int×Int}{l:List (Int×Int)}(h1:St.EM l 1=[x])(h2:∀ j:Nat,St.EM l ((j:Int)+2)=[]):St.rA l=[x]:=by
 have:St.gN l=[x]:=by
  unfold St.gN;rw[show(600:Nat)=599+1 from rfl,List.range_succ_eq_map,arN];rw[show St.EM l (((0:Nat):Int)+1)=[x]from h1];have:(List.map Nat.succ (List.range 599)).flatMap (fun j:Nat=>St.EM l ((j:Int)+1))=[]:=by
   rw[List.flatMap_eq_nil_iff];intro j hj;obtain⟨k,_,rfl⟩:=arK.1 hj;have:=h2 k;rw[show((k:Int)+2)=((Nat.succ k:Nat):Int)+1 by push_cast;omega]at this;exact this
  rw[this,arJ]
 unfold St.rA;rw[this];simp[St.ip]
theorem s7 (p:Int×Int)(t:Int):St.mN [(p,1)] t=if St.aX p t then 1 else 0:=by
 rw[St.pz t m5 m5];simp[St.nH]
theorem aez (p:ax)(hp:St.aQ (toP p)=true):bK [p]=[p]:=by
 obtain⟨a,b⟩:=p;have hv:0<=a/\a<b/\b<=1099511627776:=by
  have h:St.aQ (a,b)=true:=hp;simp[St.aQ]at h;omega
 have hpts:St.fA [(((a,b):Int×Int),1)]=(if a=0 then [0]else [0,a])++(if b<1099511627776 then [b]else []):=by
  have e:St.IZ [(((a,b):Int×Int),1)]=St.ins b (St.ins a [0]):=by
   unfold St.IZ;simp only[ar0,List.foldl_nil];rw[if_pos (show St.aQ (a,b)=true from hp)]
  unfold St.fA;rw[e];have hF:(0:Int)<1099511627776:=by decide
  by_cases h0:a=0
  ·subst h0
   rw[show St.ins 0 [0]=[0]by simp[St.ins],show St.ins b [0]=[0,b]by simp only[St.ins];rw[if_pos m0]];by_cases hb:b<1099511627776
   ·simp[List.takeWhile,hb]
   ·simp[List.takeWhile,hb]
  ·rw[show St.ins a [0]=[0,a]by simp only[St.ins];rw[if_pos m0],show St.ins b [0,a]=[0,a,b]by simp only[St.ins];rw[if_pos m0,if_pos m0]]
   have ha:a<1099511627776:=m0
   by_cases hb:b<1099511627776
   ·simp[List.takeWhile,hb,ha,h0]
   ·simp[List.takeWhile,hb,ha,h0]
 have hof:St.Ov [(((a,b):Int×Int),1)]=(if a=0 then [(0,1)]else [(0,0),(a,1)])++(if b<1099511627776 then [(b,0)]else []):=by
  unfold St.Ov;rw[hpts];have r0:St.mN [(((a,b):Int×Int),1)] 0=if a=0 then 1 else 0:=by
   rw[s7];unfold St.aX;have:St.aQ (a,b)=true:=hp;rw[this];by_cases h0:a=0
   ·subst h0;simp;omega
   ·have:¬ a<=0:=m0
    simp[h0,this]
  have ra:St.mN [(((a,b):Int×Int),1)] a=1:=by
   rw[s7];unfold St.aX;have:St.aQ (a,b)=true:=hp;rw[this];simp;omega
  have rb:St.mN [(((a,b):Int×Int),1)] b=0:=by
   rw[s7];unfold St.aX;have:St.aQ (a,b)=true:=hp;rw[this];simp
  by_cases h0:a=0
  ·rw[if_pos h0,if_pos h0]
   rw[if_pos h0]at r0;by_cases hb:b<1099511627776
   ·rw[if_pos hb,if_pos hb]
    simp[St.cZ,St.dK,r0,rb]
   ·rw[if_neg hb,if_neg hb]
    simp[St.cZ,St.dK,r0]
  ·rw[if_neg h0,if_neg h0]
   rw[if_neg h0]at r0;by_cases hb:b<1099511627776
   ·rw[if_pos hb,if_pos hb]
    simp[St.cZ,St.dK,r0,ra,rb]
   ·rw[if_neg hb,if_neg hb]
    simp[St.cZ,St.dK,r0,ra]
 have hl:St.rA (St.Ov [(((a,b):Int×Int),1)])=[(a,b)]:=by
  rw[hof];refine ahT ?_ fun j=>?_
  ·by_cases h0:a=0
   ·subst h0
    by_cases hb:b<1099511627776
    ·simp[hb,St.EM,St.kS,St.cF,St.fc]
    ·have:b=1099511627776:=m0
     simp[this,St.EM,St.kS,St.cF,St.fc]
   ·by_cases hb:b<1099511627776
    ·simp[hb,h0,St.EM,St.kS,St.cF,St.fc]
    ·have:b=1099511627776:=m0
     simp[this,h0,St.EM,St.kS,St.cF,St.fc]
  ·refine St.Bm.2 fun s hs=>?_
   have:s.2=0\/s.2=1:=by
    rcases arB.1 hs with hs|hs
    ·split at hs
     ·rw[arQ.1 hs];exact .inr rfl
     ·rcases arp.1 hs with rfl|hs
      ·exact .inl rfl
      ·rw[arQ.1 hs];exact .inr rfl
    ·split at hs
     ·rw[arQ.1 hs];exact .inl rfl
     ·cases hs
   omega
 unfold bK yg wj ones;rw[List.map_map,show(toS∘ofS)=id from rfl,List.map_id];show((St.rA (St.Ov [(((a,b):Int×Int),1)])).map ofP)=_;rw[hl];rfl
