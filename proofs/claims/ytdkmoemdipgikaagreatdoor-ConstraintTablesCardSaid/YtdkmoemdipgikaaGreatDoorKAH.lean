/- Parts. No condition. -/
import Derived.Test.YtdkmoemdipgikaaGreatDoorKAG
set_option maxHeartbeats 8000000
set_option maxRecDepth 100000
set_option linter.unusedSimpArgs false
set_option linter.unusedVariables false
namespace Go.Proofs.YtdkmoemdipgikaaGreatDoor
open _root_.ByteArray (empty)
open IntKind (i64)
open Go.RowKit Go.MapKept
def fX (x y:Int):Int:=if x<y then -1 else if y<x then 1 else 0
def qe (v w:Val):Int:=if fX v.kind w.kind≠0 then fX v.kind w.kind else if fX v.int w.int≠0 then fX v.int w.int else og v.text w.text
def bQ:List Val->List Val->Int
 |[],[]=>0
 |[],_::_ => -1
 |_::_,[]=>1
 |a::xs,b::ys=>if qe a b≠0 then qe a b else bQ xs ys
def cl (l:List Val):AC := .lst (l.map cV)
theorem I9 (a b:ByteArray):PTz 249 [.one (.str a),.one (.str b)] (.val (.one (.int .i64 (og a b)))):=by
 refine pa_ ae Tryz.func249 rfl rfl Tryz.ntmps249 m5 ?_;simp only[argT,PV.av,amH,amL]
 repeat' (first|(refine bL rfl rfl rfl rfl rfl (yk rfl rfl Tryz.func276 k7 k7 k7 k7) ?_)|refine gw_ ae tabS_ok ?_|refine gi_ (fun hb=>?_) (fun hb=>?_)|fail)
 exact⟨.inr rfl,aO rfl (by repeat' (first|exact t7|rfl|exact amG rfl|omega|apply And.intro)) rfl⟩
theorem aaD (a b:ByteArray):PTz 227 [.one (.str a),.one (.str b)] (.val (.one (.int .i64 (og a b)))):=by
 have c:=I9 a b;refine po_ Tryz.func227 Tryz.ntmps227 ?_;exact bV
def yH (a_x:Int):Option (Bool):=some (decide (a_x≠a_x))
instance gIsNaN_ok {a_x : Int} {r : Bool} : OkC (yH a_x = some r) (PTz 246 [.one (.int .i64 a_x)] (.val (.one (.bool r)))) := .mk fun H => by
 unfold yH at H;refine po_ Tryz.func246 Tryz.ntmps246 ?_;exact ax H
def CQ (a_x:Int)(a_y:Int):Option (Int):=(yH a_x).bind fun r_1=>(yH a_y).bind fun r_2=>bif r_1 then bif r_2 then some (0:Int)else
 some (-1:Int)else
 bif r_2 then some (1:Int)else
 bif (decide (a_x<a_y))then some (-1:Int)else
 bif (decide (a_y<a_x))then some (1:Int)else
 some (0:Int)
instance gICmp_ok {a_x : Int} {a_y : Int} {r : Int} : OkC (CQ a_x a_y = some r) (PTz 221 [.one (.int .i64 a_x), .one (.int .i64 a_y)] (.val (.one (.int .i64 r)))) := .mk fun H => by
 unfold CQ at H;refine po_ Tryz.func221 Tryz.ntmps221 ?_;exact ax H
def GG (a_vals:(List Int)):(Int)->Option (Step (Int) (Int)):=fun s=>match s with
 |v_1=>bif (decide (v_1<((a_vals.length:Nat):Int)))then(aq a_vals v_1).bind fun x_3=>bif (decide (x_3≠(0:Int)))then some (.ret x_3)else
 some (.next (i64.wrap (v_1+(1:Int))))else
 some (.exit v_1)
def yJ:Sum (Int) (Int)->Option ((Int))
 |.inl v_1=>some (0:Int)
 |.inr q=>some q
def gOr (a_vals:(List Int)):Option (Int):=(ap (GG a_vals) fuel (0:Int)).bind (yJ)
instance gOr_ok {a_vals : (List Int)} {r : Int} : OkC (gOr a_vals = some r) (PTz 220 [.one (.lst (a_vals.map (fun x => [AC.int .i64 x])))] (.val (.one (.int .i64 r)))) := .mk fun H => by
 unfold gOr at H;refine po_ Tryz.func220 Tryz.ntmps220 ?_;refine aX ?_;refine alM_ (fun s:Int=>match s with|v_1=>[(3,.one (.c (.int .i64 (0:Int)))),(6,.one (.c (.lst (a_vals.map (fun x=>[AC.int .i64 x]))))),(7,.one (.c (.int .i64 ((a_vals.length:Nat):Int)))),(8,.one (.c (.int .i64 v_1)))]) (fun s=>match s with|v_1=>[]) H (fun _=>amR _)
  (fm_ bH [] rfl a8 trivial) ?_
 rintro v_1 st1 hb1 hk1;unfold GG at hb1;dsimp only at hb1 ⊢;rcases af hb1 with⟨q_2,hb1⟩|⟨q_2,hb1⟩
 ·obtain⟨x_3,i1z,i1,i1x,hb1⟩:=aY (f:=(fun x=>[AC.int .i64 x])) hb1
  rcases af hb1 with⟨q_4,hb1⟩|⟨q_4,hb1⟩
  ·exact cL hb1 hk1
  cases hb1;refine aX ?_;exact⟨_,rfl,fm_ bH [] rfl a8 trivial⟩
 exact cL hb1 hk1
def qE (a_a:Val)(a_b:Val):Option (Int):=(CQ a_a.kind a_b.kind).bind fun r_1=>(CQ a_a.int a_b.int).bind fun r_2=>(gOr [r_1,r_2,(og a_a.text a_b.text)]).bind fun r_4=>some r_4
instance gVCmp_ok {a_a : Val} {a_b : Val} {r : Int} : OkC (qE a_a a_b = some r) (PTz 206 [.agg (cV a_a), .agg (cV a_b)] (.val (.one (.int .i64 r)))) := .mk fun H => by
 unfold qE at H;refine po_ Tryz.func206 Tryz.ntmps206 ?_;obtain⟨r_1,c1,H⟩:=bd_ H;replace c1:=gICmp_ok c1;obtain⟨r_2,c2,H⟩:=bd_ H;replace c2:=gICmp_ok c2;have hc_3:=aaD a_a.text a_b.text
 try simp only[amJ,amH,amL,amB,aN]at hc_3
 exact ax H
def ie (a_s1:(List Val))(a_s2:(List Val))(a_cmp:Val->Val->Option (Int)):(Int)->Option (Step (Int) (Int)):=fun s=>match s with
 |v_1=>bif (decide (v_1<((a_s1.length:Nat):Int)))then(aq a_s1 v_1).bind fun x_3=>bif (decide (((a_s2.length:Nat):Int)<=v_1))then some (.ret (1:Int))else
 (aq a_s2 v_1).bind fun x_5=>(a_cmp x_3 x_5).bind fun r_6=>bif (decide (r_6≠(0:Int)))then some (.ret r_6)else
 some (.next (i64.wrap (v_1+(1:Int))))else
 some (.exit v_1)
def mR (a_s1:(List Val))(a_s2:(List Val)):Sum (Int) (Int)->Option ((Int))
 |.inl v_1=>bif (decide (((a_s1.length:Nat):Int)<((a_s2.length:Nat):Int)))then some (-1:Int)else
 some (0:Int)
 |.inr q=>some q
def FZ (a_s1:(List Val))(a_s2:(List Val))(a_cmp:Val->Val->Option (Int)):Option (Int):=(ap (ie a_s1 a_s2 a_cmp) fuel (0:Int)).bind (mR a_s1 a_s2)
theorem aaP {a_s1:(List Val)}{a_s2:(List Val)}{a_cmp:Val->Val->Option (Int)}{r:Int}{zr:FuncId}{zc:List AC}(zj:∀ (y0:Val) (y1:Val) (r:Int),a_cmp y0 y1=some r->PTz zr ([.agg (cV y0),.agg (cV y1)]++zc.map .one) (.val (.one (.int .i64 r))))(H:FZ a_s1 a_s2 a_cmp=some r):PTz 226 [.one (.lst (a_s1.map cV)),.one (.lst (a_s2.map cV)),.one (.fn zr zc)] (.val (.one (.int .i64 r))):=by
 unfold FZ at H;refine po_ Tryz.func226 Tryz.ntmps226 ?_;refine aX ?_;refine alM_ (fun s:Int=>match s with|v_1=>[(0,.one (.c (.lst (a_s1.map cV)))),(1,.one (.c (.lst (a_s2.map cV)))),(2,.one (.c (.fn zr zc))),(11,.one (.c (.lst (a_s1.map cV)))),(12,.one (.c (.int .i64 ((a_s1.length:Nat):Int)))),(13,.one (.c (.int .i64 v_1)))]) (fun s=>match s with|v_1=>[]) H (fun _=>amR _)
  (fm_ bH [] rfl a8 trivial) ?_
 rintro v_1 st1 hb1 hk1;unfold ie at hb1;dsimp only at hb1 ⊢;rcases af hb1 with⟨q_2,hb1⟩|⟨q_2,hb1⟩
 ·obtain⟨x_3,i1z,i1,i1x,hb1⟩:=aY (f:=cV) hb1
  rcases af hb1 with⟨q_4,hb1⟩|⟨q_4,hb1⟩
  ·exact cL hb1 hk1
  obtain⟨x_5,i2z,i2,i2x,hb1⟩:=aY (f:=cV) hb1;obtain⟨r_6,c3,hb1⟩:=bd_ hb1;replace c3:=zj _ _ _ c3
  try simp only[amJ,amH,amL,amB,aN]at c3
  rcases af hb1 with⟨q_7,hb1⟩|⟨q_7,hb1⟩
  ·exact cL hb1 hk1
  cases hb1;refine aX ?_;exact⟨_,rfl,fm_ bH [_,_] rfl a8 trivial⟩
 exact cL hb1 hk1
def Kr (a_a:(List Val))(a_b:(List Val)):Option (Int):=(FZ a_a a_b (fun x0 x1=>qE x0 x1)).bind fun r_1=>some r_1
instance gTCmp_ok {a_a : (List Val)} {a_b : (List Val)} {r : Int} : OkC (Kr a_a a_b = some r) (PTz 201 [.one (.lst (a_a.map cV)), .one (.lst (a_b.map cV))] (.val (.one (.int .i64 r)))) := .mk fun H => by
 unfold Kr at H;refine po_ Tryz.func201 Tryz.ntmps201 ?_;obtain⟨r_1,c1,H⟩:=bd_ H;replace c1:=aaP (zr:=206) (zc:=[]) (fun x0 x1 r h=>gVCmp_ok h) c1
 try simp only[amJ,amH,amL,amB,aN]at c1
 exact ax H
def xp (s:ByteArray)(i:Int):Option UInt8:=if 0<=i then s[i.toNat]? else none
theorem mj {s:ByteArray}{i:Int}{x:UInt8}(h:xp s i=some x):0<=i/\s[i.toNat]?=some x:=by
 unfold xp at h;by_cases h0:0<=i
 ·rw[if_pos h0]at h;exact⟨h0,h⟩
 ·rw[if_neg h0]at h;cases h
section
variable {P:Program} {ti:TI} {N n0:Nat} {ds:List (Option Tmp)} {K:Tm->List Ob->Prop} {rest:List Oper} {o:Oper} {T:Tm} {L:List Ob}
theorem b_ {t:TypeId}{x ix:Operand}{s:ByteArray}{k0:IntKind}{i:Int}{b:UInt8}{d:Nat}(hd:o.dst=some d)(hN:Nat.blt d N=true){g0:Bool}(hg:fD ds T o.guard=some g0)(ho:o.op = .index t x ix)(hx:look T x=some (.one (.c (.str s))))(hi:look T ix=some (.one (.c (.int k0 i))))
  (hk:ti.kind t=some .string) (h:aB P ti N ds K rest ((d,.one (.c (.int .u8 ((b.toNat:Nat):Int))))::T) L) (hb:s[i.toNat]?=some b:=by assumption) (h0:0<=i:=by assumption) (hg1:g0=true:=by first|rfl|exact lY (by first|assumption|exact kQ (by assumption))|exact lP (by first|assumption|exact kU (by assumption))):aB P ti N ds K (o::rest) T L :=
 st_pop (φ:=0<=i/\ti.kind t=some .string) hd hN (hg1▸hg) (by rw[ho];simp only[pop,hx,hi,mY,hb]) ⟨h0,hk⟩ h
theorem t5_ {v:AV}{φ:Prop}{d:Nat}(hd:o.dst=some d)(hN:Nat.blt d N=true){g0:Bool}(hg:fD ds T o.guard=some g0)(hp:rS ti (look T) o.op=some (v,φ))(h:aB P ti N ds K rest ((d,v)::T) L)
  (hφ:φ:=by repeat' (first|exact t7|rfl|exact amG rfl|omega|refine anp.2 ⟨?_,?_⟩|exact fun _ h=>nomatch h|apply And.intro)) (hg1:g0=true:=by first|rfl|exact lY (by first|assumption|exact kQ (by assumption))|exact lP (by first|assumption|exact kU (by assumption))):aB P ti N ds K (o::rest) T L:=st_lit hd hN (hg1▸hg) hp hφ h
end
theorem gs5_ {p q:Prop}(k:q)(h:Bx q->p:=by
 intro hq
 first|refine p_ rfl rfl rfl rfl rfl ?_|refine st_nil ?_|refine x_ rfl rfl rfl rfl rfl rfl rfl rfl ?_|refine l_ rfl rfl rfl rfl ?_|refine s_ rfl rfl rfl ?_|refine t5_ rfl rfl rfl rfl ?_|refine k_ rfl rfl rfl ?_|refine k0_ rfl rfl ?_|refine c_ rfl rfl rfl rfl ?_|refine pick_t rfl rfl rfl rfl rfl rfl rfl ?_|refine pick_f rfl rfl rfl rfl rfl rfl rfl ?_|refine aw_seq ?_|refine aw_region tab_ok _ rfl ?_|refine aw_drawn2 tabS_ok _ rfl mixed (by decide +kernel) ?_|refine aw_condT rfl ?_|refine aw_condF rfl ?_|refine aw_block ?_|refine aw_exit ?_|refine aw_ret ?_|refine aw_skip ?_|rw[amI]|rw[mn_norm]|rw[mx_norm]
 exact hq.out):p:=h ⟨k⟩
def gD:Option (Val):=some (⟨(0:Int),(0:Int),empty⟩:Val)
instance gNull_ok {r : Val} : OkC (gD = some r) (PTz 100 [] (.val (.agg (cV r)))) := .mk fun H => by
 unfold gD at H;refine po_ Tryz.func100 Tryz.ntmps100 ?_;exact ax H
def qD (a_s:ByteArray):(Int)->Option (Step (Int) (Bool)):=fun s=>match s with
 |v_1=>bif (decide (v_1<((a_s.size:Nat):Int)))then(xp a_s v_1).bind fun b_3=>bif (decide (((b_3.toNat:Nat):Int)<(32:Int)))then some (.ret false)else
 bif (decide ((126:Int)<((b_3.toNat:Nat):Int)))then some (.ret false)else
 some (.next (i64.wrap (v_1+(1:Int))))else
 some (.exit v_1)
def dc:Sum (Int) (Bool)->Option ((Bool))
 |.inl v_1=>some true
 |.inr q=>some q
def lD (a_s:ByteArray):Option (Bool):=(ap (qD a_s) fuel (0:Int)).bind (dc)
instance gPrintableP_ok {a_s : ByteArray} {r : Bool} : OkC (lD a_s = some r) (PTz 202 [.one (.str a_s)] (.val (.one (.bool r)))) := .mk fun H => by
 unfold lD at H;refine po_ Tryz.func202 Tryz.ntmps202 ?_
 repeat' (first|refine gs5_ ?_|refine b_ rfl rfl rfl rfl rfl rfl rfl ?_)
 refine alM_ (fun s:Int=>match s with|v_1=>[(0,.one (.c (.str a_s))),(5,.one (.c (.int .i64 ((a_s.size:Nat):Int)))),(6,.one (.c (.int .i64 v_1)))]) (fun s=>match s with|v_1=>[]) H (fun _=>amR _)
  (fm_ bH [] rfl a8 trivial) ?_
 rintro v_1 st1 hb1 hk1;unfold qD at hb1;dsimp only at hb1 ⊢;rcases af hb1 with⟨q_2,hb1⟩|⟨q_2,hb1⟩
 ·obtain⟨b_3,i1,hb1⟩:=bd_ hb1
  obtain⟨i1z,i1⟩:=mj i1;rcases af hb1 with⟨q_4,hb1⟩|⟨q_4,hb1⟩
  ·cases hb1
   have hx1:dc (.inr false)=some _:=hk1;unfold dc at hx1;dsimp only at hx1
   cases hx1
   repeat' (first|refine gs5_ ?_|refine b_ rfl rfl rfl rfl rfl rfl rfl ?_)
   refine aJ (aO rfl ?_ ?_)
   ·repeat' (first|exact t7|rfl|exact amG rfl|omega|apply And.intro)
   ·first|rfl|(simp only[amJ,amH,amL,amB]<;>rfl)
  rcases af hb1 with⟨q_5,hb1⟩|⟨q_5,hb1⟩
  ·cases hb1
   have hx1:dc (.inr false)=some _:=hk1;unfold dc at hx1;dsimp only at hx1
   cases hx1
   repeat' (first|refine gs5_ ?_|refine b_ rfl rfl rfl rfl rfl rfl rfl ?_)
   refine aJ (aO rfl ?_ ?_)
   ·repeat' (first|exact t7|rfl|exact amG rfl|omega|apply And.intro)
   ·first|rfl|(simp only[amJ,amH,amL,amB]<;>rfl)
  cases hb1
  repeat' (first|refine gs5_ ?_|refine b_ rfl rfl rfl rfl rfl rfl rfl ?_)
  exact⟨_,rfl,fm_ bH [] rfl a8 trivial⟩
 cases hb1;have hx1:dc (.inl v_1)=some _:=hk1;unfold dc at hx1;dsimp only at hx1
 cases hx1
 repeat' (first|refine gs5_ ?_|refine b_ rfl rfl rfl rfl rfl rfl rfl ?_)
 refine aJ (aO rfl ?_ ?_)
 ·repeat' (first|exact t7|rfl|exact amG rfl|omega|apply And.intro)
 ·first|rfl|(simp only[amJ,amH,amL,amB]<;>rfl)
def nX (a_v:Val):Option (Bool):=bif (decide (a_v.kind=(0:Int)))then bif (decide (a_v.int=(0:Int)))then some (a_v.text.toList==(⟨#[]⟩:ByteArray).toList)else
 some false else
 bif (decide (a_v.kind=(1:Int)))then bif (a_v.text.toList==(⟨#[]⟩:ByteArray).toList)then bif (decide ((-1125899906842624:Int)<=a_v.int))then some (decide (a_v.int<=(1125899906842624:Int)))else
 some false else
 some false else
 bif (decide (a_v.kind=(2:Int)))then bif (decide (a_v.int=(0:Int)))then bif (decide (((a_v.text.size:Nat):Int)<=(200:Int)))then(lD a_v.text).bind fun r_9=>some r_9 else
 some false else
 some false else
 bif (decide (a_v.kind=(3:Int)))then bif (a_v.text.toList==(⟨#[]⟩:ByteArray).toList)then bif (decide (a_v.int=(0:Int)))then some true else
 some (decide (a_v.int=(1:Int)))else
 some false else
 some false
instance gValidP_ok {a_v : Val} {r : Bool} : OkC (nX a_v = some r) (PTz 155 [.agg (cV a_v)] (.val (.one (.bool r)))) := .mk fun H => by
 unfold nX at H;refine po_ Tryz.func155 Tryz.ntmps155 ?_;exact ax H
def qP (a_v:Val):Option (Val):=(nX a_v).bind fun r_1=>bif (!r_1)then(gD ).bind fun r_3=>some r_3 else
 some a_v
instance gOrNull_ok {a_v : Val} {r : Val} : OkC (qP a_v = some r) (PTz 204 [.agg (cV a_v)] (.val (.agg (cV r)))) := .mk fun H => by
 unfold qP at H;refine po_ Tryz.func204 Tryz.ntmps204 ?_;exact ax H
def lw (a_n:Int):Option (Val):=(qP (⟨(1:Int),a_n,empty⟩:Val)).bind fun r_1=>some r_1
instance gIntP_ok {a_n : Int} {r : Val} : OkC (lw a_n = some r) (PTz 161 [.one (.int .i64 a_n)] (.val (.agg (cV r)))) := .mk fun H => by
 unfold lw at H;refine po_ Tryz.func161 Tryz.ntmps161 ?_;exact ax H
def u_ (a_s:ByteArray):Option (Val):=(qP (⟨(2:Int),(0:Int),a_s⟩:Val)).bind fun r_1=>some r_1
instance gTextP_ok {a_s : ByteArray} {r : Val} : OkC (u_ a_s = some r) (PTz 162 [.one (.str a_s)] (.val (.agg (cV r)))) := .mk fun H => by
 unfold u_ at H;refine po_ Tryz.func162 Tryz.ntmps162 ?_;exact ax H
def pz (a_b:Bool):Option (Val):=bif a_b then some (⟨(3:Int),(1:Int),empty⟩:Val)else
 some (⟨(3:Int),(0:Int),empty⟩:Val)
instance gBoolP_ok {a_b : Bool} {r : Val} : OkC (pz a_b = some r) (PTz 98 [.one (.bool a_b)] (.val (.agg (cV r)))) := .mk fun H => by
 unfold pz at H;refine po_ Tryz.func98 Tryz.ntmps98 ?_;exact ax H
def gPV (a_p:au):Option (Bool):=bif (decide ((0:Int)<=a_p.lo))then bif (decide (a_p.lo<a_p.hi))then some (decide (a_p.hi<=(1099511627776:Int)))else
 some false else
 some false
instance gPV_ok {a_p : au} {r : Bool} : OkC (gPV a_p = some r) (PTz 81 [.agg (aH a_p)] (.val (.one (.bool r)))) := .mk fun H => by
 unfold gPV at H;refine po_ Tryz.func81 Tryz.ntmps81 ?_;exact ax H
section
variable {P:Program} {ti:TI} {N:Nat} {ds:List (Option Tmp)} {K:Tm->List Ob->Prop} {rest:List Oper} {o:Oper} {T:Tm} {L:List Ob}
theorem K0 {a b:List SV}(h:b.length=a.length):splice a 0 b=b:=by
 unfold splice;rw[List.take_zero,amB,anb,List.drop_of_length_le m0,am5]
theorem aai {α:Type}{enc:α->List AC}{X:List α}{v:α}{t:TypeId}{p q:Operand}{id ver i k:Nat}(hd:o.dst=none)(hg:fD ds T o.guard=some true)(ho:o.op = .store t p q)(hp:look T p=some (.one (.ep id ver i 0)))(hL:L[id]?=some (.row ver ((X.map enc).map (List.map SV.c)) k))(hx:i<X.length)
  (hq:(look T q).bind AV.cells=some ((enc v).map SV.c)) (hk:∀ x,(enc x).length=k) (hsz:ti.size t=some k) (h:aB P ti N ds K rest T (L.set id (.row ver (((X.set i v).map enc).map (List.map SV.c)) k))):aB P ti N ds K (o::rest) T L:=by
 obtain⟨x,hx⟩:=gol_ hx;have hl:((enc v).map SV.c).length=((enc x).map SV.c).length:=by rw[amI,amI,hk,hk]
 have he:((X.map enc).map (List.map SV.c))[i]?=some ((enc x).map SV.c):=by rw[amT,amT,hx];rfl
 refine iV hd hg ho hp hq hL he ⟨by rw[anb,hl];exact amM _,by rw[amI,hk];exact hsz⟩ ?_ h;rw[K0 hl,List.map_set,List.map_set]
end
theorem yM {α:Type}(n v k:Nat)(enc:α->List AC)(X:List α):(Ob.row v ((X.map enc).map (List.map SV.c)) k).below n:=by
 intro e he x hx;rw[List.map_map]at he;obtain⟨y,_,rfl⟩:=am6.1 he;obtain⟨z,_,rfl⟩:=am6.1 hx;trivial
def q_ (a_op:Int)(a_n:Int):Option (Bool×Bool):=bif (decide (a_op=(1:Int)))then some ((decide (a_n=(0:Int))),true)else
 bif (decide (a_op=(2:Int)))then some ((decide (a_n=(0:Int))),true)else
 bif (decide (a_op=(4:Int)))then some ((decide (a_n=(1:Int))),true)else
 bif (decide (a_op=(18:Int)))then some ((decide (a_n=(1:Int))),true)else
 bif (decide (a_op=(20:Int)))then some ((decide (a_n=(1:Int))),true)else
 bif (decide (a_op=(21:Int)))then some ((decide (a_n=(1:Int))),true)else
 bif (decide (a_op=(7:Int)))then some ((decide (a_n=(2:Int))),true)else
 bif (decide (a_op=(8:Int)))then some ((decide (a_n=(2:Int))),true)else
 bif (decide (a_op=(9:Int)))then some ((decide (a_n=(2:Int))),true)else
 bif (decide (a_op=(10:Int)))then some ((decide (a_n=(2:Int))),true)else
 bif (decide (a_op=(11:Int)))then some ((decide (a_n=(2:Int))),true)else
 bif (decide (a_op=(12:Int)))then some ((decide (a_n=(2:Int))),true)else
 bif (decide (a_op=(13:Int)))then some ((decide (a_n=(2:Int))),true)else
 bif (decide (a_op=(14:Int)))then some ((decide (a_n=(2:Int))),true)else
 bif (decide (a_op=(15:Int)))then some ((decide (a_n=(2:Int))),true)else
 bif (decide (a_op=(16:Int)))then some ((decide (a_n=(2:Int))),true)else
 bif (decide (a_op=(17:Int)))then some ((decide (a_n=(2:Int))),true)else
 bif (decide (a_op=(19:Int)))then some ((decide (a_n=(2:Int))),true)else
 bif (decide (a_op=(5:Int)))then some ((decide ((2:Int)<=a_n)),true)else
 bif (decide (a_op=(6:Int)))then some ((decide ((2:Int)<=a_n)),true)else
 bif (decide (a_op=(22:Int)))then some ((decide (a_n=(3:Int))),true)else
 bif (decide (a_op=(23:Int)))then some ((decide ((1:Int)<=a_n)),true)else
 bif (decide (a_op=(24:Int)))then some ((decide (a_n=(4:Int))),true)else
 some (false,false)
instance gCounts_ok {a_op : Int} {a_n : Int} {r : Bool × Bool} : OkC (q_ a_op a_n = some r) (PTz 154 [.one (.int .i64 a_op), .one (.int .i64 a_n)] (.tup [.one (.bool r.1), .one (.bool r.2)])) := .mk fun H => by
 unfold q_ at H;refine po_ Tryz.func154 Tryz.ntmps154 ?_;rcases af H with⟨q_1,H⟩|⟨q_1,H⟩
 ·exact ax H
 rcases af H with⟨q_2,H⟩|⟨q_2,H⟩
 ·exact ax H
 refine aX ?_;rcases af H with⟨q_3,H⟩|⟨q_3,H⟩
 ·exact ax H
 rcases af H with⟨q_4,H⟩|⟨q_4,H⟩
 ·exact ax H
 rcases af H with⟨q_5,H⟩|⟨q_5,H⟩
 ·exact ax H
 refine aX ?_;rcases af H with⟨q_6,H⟩|⟨q_6,H⟩
 ·exact ax H
 rcases af H with⟨q_7,H⟩|⟨q_7,H⟩
 ·exact ax H
 rcases af H with⟨q_8,H⟩|⟨q_8,H⟩
 ·exact ax H
 refine aX ?_;rcases af H with⟨q_9,H⟩|⟨q_9,H⟩
 ·exact ax H
 rcases af H with⟨q_10,H⟩|⟨q_10,H⟩
 ·exact ax H
 rcases af H with⟨q_11,H⟩|⟨q_11,H⟩
 ·exact ax H
 refine aX ?_;rcases af H with⟨q_12,H⟩|⟨q_12,H⟩
 ·exact ax H
 rcases af H with⟨q_13,H⟩|⟨q_13,H⟩
 ·exact ax H
 rcases af H with⟨q_14,H⟩|⟨q_14,H⟩
 ·exact ax H
 refine aX ?_;rcases af H with⟨q_15,H⟩|⟨q_15,H⟩
 ·exact ax H
 rcases af H with⟨q_16,H⟩|⟨q_16,H⟩
 ·exact ax H
 rcases af H with⟨q_17,H⟩|⟨q_17,H⟩
 ·exact ax H
 refine aX ?_;rcases af H with⟨q_18,H⟩|⟨q_18,H⟩
 ·exact ax H
 rcases af H with⟨q_19,H⟩|⟨q_19,H⟩
 ·exact ax H
 rcases af H with⟨q_20,H⟩|⟨q_20,H⟩
 ·exact ax H
 refine aX ?_;exact ax H
def om (a_e:Ex):Option (Bool):=(q_ a_e.op ((a_e.args.length:Nat):Int)).bind fun r_1=>bif (!r_1.1)then some false else
 bif (!(a_e.nm.toList==(⟨#[]⟩:ByteArray).toList))then some false else
 bif (decide (a_e.op=(1:Int)))then bif (decide (a_e.int=(0:Int)))then(nX a_e.v).bind fun r_6=>some r_6 else
 some false else
 bif (decide (a_e.op=(24:Int)))then bif (decide (a_e.int<(0:Int)))then some false else
 bif (decide ((13:Int)<=a_e.int))then some false else
 some (bT [.c (.int .i64 a_e.v.kind),.c (.int .i64 a_e.v.int),.c (.str a_e.v.text)] [.c (.int .i64 (0:Int)),.c (.int .i64 (0:Int)),.c (.str empty)])else
 bif (decide (a_e.op=(2:Int)))then some (bT [.c (.int .i64 a_e.v.kind),.c (.int .i64 a_e.v.int),.c (.str a_e.v.text)] [.c (.int .i64 (0:Int)),.c (.int .i64 (0:Int)),.c (.str empty)])else
 bif (decide (a_e.int=(0:Int)))then some (bT [.c (.int .i64 a_e.v.kind),.c (.int .i64 a_e.v.int),.c (.str a_e.v.text)] [.c (.int .i64 (0:Int)),.c (.int .i64 (0:Int)),.c (.str empty)])else
 some false
instance gFormed_ok {a_e : Ex} {r : Bool} : OkC (om a_e = some r) (PTz 99 [.agg (tE a_e)] (.val (.one (.bool r)))) := .mk fun H => by
 unfold om at H;rw[aN a_e];refine po_ Tryz.func99 Tryz.ntmps99 ?_;obtain⟨r_1,c1,H⟩:=bd_ H;replace c1:=gCounts_ok c1;rcases af H with⟨q_2,H⟩|⟨q_2,H⟩
 ·exact ax H
 rcases af H with⟨q_3,H⟩|⟨q_3,H⟩
 ·exact ax H
 refine aX ?_;rcases af H with⟨q_4,H⟩|⟨q_4,H⟩
 ·exact ax H
 rcases af H with⟨q_7,H⟩|⟨q_7,H⟩
 ·rcases af H with⟨q_8,H⟩|⟨q_8,H⟩
  ·exact ax H
  refine aX ?_;exact ax H
 rcases af H with⟨q_10,H⟩|⟨q_10,H⟩
 ·exact ax H
 refine aX ?_;exact ax H
def nJ (a_a:Val)(a_b:Val)(a_is:Bool):Option (Int):=bif (decide (a_a.kind=(0:Int)))then some (1:Int)else
 bif (decide (a_a.kind≠a_b.kind))then some (1:Int)else
 bif a_is then some (2:Int)else
 some (0:Int)
instance gDecide_ok {a_a : Val} {a_b : Val} {a_is : Bool} {r : Int} : OkC (nJ a_a a_b a_is = some r) (PTz 205 [.agg (cV a_a), .agg (cV a_b), .one (.bool a_is)] (.val (.one (.int .i64 r)))) := .mk fun H => by
 unfold nJ at H;refine po_ Tryz.func205 Tryz.ntmps205 ?_;exact ax H
def abF (a_a:Val)(a_b:Val):Option (Int):=(qE a_a a_b).bind fun r_1=>(nJ a_a a_b (decide (r_1=(0:Int)))).bind fun r_2=>some r_2
instance gEqV_ok {a_a : Val} {a_b : Val} {r : Int} : OkC (abF a_a a_b = some r) (PTz 165 [.agg (cV a_a), .agg (cV a_b)] (.val (.one (.int .i64 r)))) := .mk fun H => by
 unfold abF at H;refine po_ Tryz.func165 Tryz.ntmps165 ?_;exact ax H
def qm (a_a:Val)(a_b:Val):Option (Int):=(qE a_a a_b).bind fun r_1=>(nJ a_a a_b (decide (r_1<(0:Int)))).bind fun r_2=>some r_2
instance gLessV_ok {a_a : Val} {a_b : Val} {r : Int} : OkC (qm a_a a_b = some r) (PTz 166 [.agg (cV a_a), .agg (cV a_b)] (.val (.one (.int .i64 r)))) := .mk fun H => by
 unfold qm at H;refine po_ Tryz.func166 Tryz.ntmps166 ?_;exact ax H
def ll (a_t:Int):Option (Int):=bif (decide (a_t≠(0:Int)))then bif (decide (a_t≠(2:Int)))then some (1:Int)else
 some a_t else
 some a_t
instance gNormal_ok {a_t : Int} {r : Int} : OkC (ll a_t = some r) (PTz 164 [.one (.int .i64 a_t)] (.val (.one (.int .i64 r)))) := .mk fun H => by
 unfold ll at H;refine po_ Tryz.func164 Tryz.ntmps164 ?_;exact ax H
def BO (a_a:Int):Option (Int):=(ll a_a).bind fun r_1=>some (i64.wrap ((2:Int)-r_1))
instance gNot_ok {a_a : Int} {r : Int} : OkC (BO a_a = some r) (PTz 156 [.one (.int .i64 a_a)] (.val (.one (.int .i64 r)))) := .mk fun H => by
 unfold BO at H;refine po_ Tryz.func156 Tryz.ntmps156 ?_;exact ax H
def rq (a_l:(List Int)):(Int×Int)->Option (Step (Int×Int) (Int)):=fun s=>match s with
 |(t_1,v_2)=>bif (decide (v_2<((a_l.length:Nat):Int)))then(aq a_l v_2).bind fun x_4=>(ll x_4).bind fun r_5=>some (.next ((mnI t_1 r_5),(i64.wrap (v_2+(1:Int)))))else
 some (.exit (t_1,v_2))
def acx:Sum (Int×Int) (Int)->Option ((Int))
 |.inl (t_1,v_2)=>some t_1
 |.inr q=>some q
def wd (a_l:(List Int)):Option (Int):=(ap (rq a_l) fuel ((2:Int),(0:Int))).bind (acx)
instance gLeast_ok {a_l : (List Int)} {r : Int} : OkC (wd a_l = some r) (PTz 203 [.one (.lst (a_l.map (fun x => [AC.int .i64 x])))] (.val (.one (.int .i64 r)))) := .mk fun H => by
 unfold wd at H;refine po_ Tryz.func203 Tryz.ntmps203 ?_;refine aX ?_;refine alM_ (fun s:Int×Int=>match s with|(t_1,v_2)=>[(3,.one (.c (.int .i64 t_1))),(6,.one (.c (.lst (a_l.map (fun x=>[AC.int .i64 x]))))),(7,.one (.c (.int .i64 ((a_l.length:Nat):Int)))),(8,.one (.c (.int .i64 v_2)))]) (fun s=>match s with|(t_1,v_2)=>[]) H (fun _=>amR _)
  (fm_ bH [] rfl a8 trivial) ?_
 rintro⟨t_1,v_2⟩ st1 hb1 hk1;unfold rq at hb1;dsimp only at hb1 ⊢;rcases af hb1 with⟨q_3,hb1⟩|⟨q_3,hb1⟩
 ·obtain⟨x_4,i1z,i1,i1x,hb1⟩:=aY (f:=(fun x=>[AC.int .i64 x])) hb1
  obtain⟨r_5,c2,hb1⟩:=bd_ hb1;replace c2:=gNormal_ok c2
  cases hb1;refine aX ?_;exact⟨_,rfl,fm_ bH [] rfl a8 trivial⟩
 exact cL hb1 hk1
def KP (a_a:Int)(a_b:Int):Option (Int):=(wd [a_a,a_b]).bind fun r_1=>some r_1
instance gAnd_ok {a_a : Int} {a_b : Int} {r : Int} : OkC (KP a_a a_b = some r) (PTz 157 [.one (.int .i64 a_a), .one (.int .i64 a_b)] (.val (.one (.int .i64 r)))) := .mk fun H => by
 unfold KP at H;refine po_ Tryz.func157 Tryz.ntmps157 ?_;exact ax H
def BB (a_a:Int)(a_b:Int):Option (Int):=(BO a_a).bind fun r_1=>(BO a_b).bind fun r_2=>(wd [r_1,r_2]).bind fun r_3=>(BO r_3).bind fun r_4=>some r_4
instance gOr3v_ok {a_a : Int} {a_b : Int} {r : Int} : OkC (BB a_a a_b = some r) (PTz 158 [.one (.int .i64 a_a), .one (.int .i64 a_b)] (.val (.one (.int .i64 r)))) := .mk fun H => by
 unfold BB at H;refine po_ Tryz.func158 Tryz.ntmps158 ?_;exact ax H
def iw (a_v:Val):Option (Int):=(pz true).bind fun r_1=>bif (bT [.c (.int .i64 a_v.kind),.c (.int .i64 a_v.int),.c (.str a_v.text)] [.c (.int .i64 r_1.kind),.c (.int .i64 r_1.int),.c (.str r_1.text)])then some (2:Int)else
 (pz false).bind fun r_3=>bif (bT [.c (.int .i64 a_v.kind),.c (.int .i64 a_v.int),.c (.str a_v.text)] [.c (.int .i64 r_3.kind),.c (.int .i64 r_3.int),.c (.str r_3.text)])then some (0:Int)else
 some (1:Int)
instance gTruthV_ok {a_v : Val} {r : Int} : OkC (iw a_v = some r) (PTz 66 [.agg (cV a_v)] (.val (.one (.int .i64 r)))) := .mk fun H => by
 unfold iw at H;refine po_ Tryz.func66 Tryz.ntmps66 ?_;exact ax H
def ud (a_t:Int):Option (Val):=(ll a_t).bind fun r_1=>bif (decide (r_1=(1:Int)))then(gD ).bind fun r_3=>some r_3 else
 (pz (decide (r_1=(2:Int)))).bind fun r_4=>some r_4
instance gOfV2_ok {a_t : Int} {r : Val} : OkC (ud a_t = some r) (PTz 106 [.one (.int .i64 a_t)] (.val (.agg (cV r)))) := .mk fun H => by
 unfold ud at H;refine po_ Tryz.func106 Tryz.ntmps106 ?_;exact ax H
def iK (a_op:Int)(a_a:Val)(a_b:Val):Option (Int):=bif (decide (a_op=(7:Int)))then(abF a_a a_b).bind fun r_2=>some r_2 else
 bif (decide (a_op=(8:Int)))then(abF a_a a_b).bind fun r_4=>(BO r_4).bind fun r_5=>some r_5 else
 bif (decide (a_op=(9:Int)))then(qm a_a a_b).bind fun r_7=>some r_7 else
 bif (decide (a_op=(11:Int)))then(qm a_b a_a).bind fun r_9=>some r_9 else
 bif (decide (a_op=(10:Int)))then(qm a_b a_a).bind fun r_11=>(BO r_11).bind fun r_12=>some r_12 else
 (qm a_a a_b).bind fun r_13=>(BO r_13).bind fun r_14=>some r_14
instance gComparison_ok {a_op : Int} {a_a : Val} {a_b : Val} {r : Int} : OkC (iK a_op a_a a_b = some r) (PTz 107 [.one (.int .i64 a_op), .agg (cV a_a), .agg (cV a_b)] (.val (.one (.int .i64 r)))) := .mk fun H => by
 unfold iK at H;refine po_ Tryz.func107 Tryz.ntmps107 ?_;rcases af H with⟨q_1,H⟩|⟨q_1,H⟩
 ·exact ax H
 rcases af H with⟨q_3,H⟩|⟨q_3,H⟩
 ·exact ax H
 refine aX ?_;exact ax H
def qV (a_l:(List Val)):(Int×ByteArray×Int)->Option (Step (Int×ByteArray×Int) (Val)):=fun s=>match s with
 |(n_1,s_2,v_3)=>bif (decide (v_3<((a_l.length:Nat):Int)))then(aq a_l v_3).bind fun x_5=>bif (decide (x_5.kind≠(2:Int)))then(gD ).bind fun r_7=>some (.ret r_7)else
 bif (decide (s_2.size+x_5.text.size<=9223372036854775807))then(some (.next ((i64.wrap (n_1+((x_5.text.size:Nat):Int))),(s_2++x_5.text),(i64.wrap (v_3+(1:Int))))))else none else
 some (.exit (n_1,s_2,v_3))
def EU (a_op:Int):Sum (Int×ByteArray×Int) (Val)->Option ((Val))
 |.inl (n_1,s_2,v_3)=>bif (decide (a_op=(20:Int)))then(lw n_1).bind fun r_9=>some r_9 else
 (u_ s_2).bind fun r_10=>some r_10
 |.inr q=>some q
def pp (a_op:Int)(a_l:(List Val)):Option (Val):=(ap (qV a_l) fuel ((0:Int),(⟨#[]⟩:ByteArray),(0:Int))).bind (EU a_op)
instance gTextE_ok {a_op : Int} {a_l : (List Val)} {r : Val} : OkC (pp a_op a_l = some r) (PTz 104 [.one (.int .i64 a_op), .one (.lst (a_l.map cV))] (.val (.agg (cV r)))) := .mk fun H => by
 unfold pp at H;refine po_ Tryz.func104 Tryz.ntmps104 ?_;refine aX ?_;refine alM_ (fun s:Int×ByteArray×Int=>match s with|(n_1,s_2,v_3)=>[(0,.one (.c (.int .i64 a_op))),(4,.one (.ptr 0 0)),(5,.one (.c (.int .i64 n_1))),(6,.one (.c (.str s_2))),(9,.one (.c (.lst (a_l.map cV)))),(10,.one (.c (.int .i64 ((a_l.length:Nat):Int)))),(11,.one (.c (.int .i64 v_3)))]) (fun s=>match s with|(n_1,s_2,v_3)=>[.box [.c (.int .i64 (0:Int)),.c (.int .i64 (0:Int)),.c (.str empty)]]) H (fun _=>amR _)
  (fm_ bH [] rfl a8 bZ) ?_
 rintro⟨n_1,s_2,v_3⟩ st1 hb1 hk1;unfold qV at hb1;dsimp only at hb1 ⊢;rcases af hb1 with⟨q_4,hb1⟩|⟨q_4,hb1⟩
 ·obtain⟨x_5,i1z,i1,i1x,hb1⟩:=aY (f:=cV) hb1
  rcases af hb1 with⟨q_6,hb1⟩|⟨q_6,hb1⟩
  ·exact cL hb1 hk1
  obtain⟨g3,hb1⟩:=bo hb1
  cases hb1;refine aX ?_;exact⟨_,rfl,fm_ bH [_] rfl a8 bZ⟩
 exact cL hb1 hk1
def pv (a_a:Int)(a_b:Int):Option (Val):=bif (decide (a_a≠(0:Int)))then bif (decide ((Gk a_a (i64.wrap (0-a_a)))≠0))then(bif (decide ((i64.wrap ((1125899906842624:Int).tdiv (Gk a_a (i64.wrap (0-a_a)))))<(Gk a_b (i64.wrap (0-a_b)))))then(gD ).bind fun r_3=>some r_3 else
 (lw (i64.wrap (a_a*a_b))).bind fun r_4=>some r_4)else none else
 (lw (i64.wrap (a_a*a_b))).bind fun r_5=>some r_5
instance gProduct_ok {a_a : Int} {a_b : Int} {r : Val} : OkC (pv a_a a_b = some r) (PTz 163 [.one (.int .i64 a_a), .one (.int .i64 a_b)] (.val (.agg (cV r)))) := .mk fun H => by
 unfold pv at H;refine po_ Tryz.func163 Tryz.ntmps163 ?_;exact ax H
def nz (a_l:(List Val)):(Int)->Option (Step (Int) (Val)):=fun s=>match s with
 |v_1=>bif (decide (v_1<((a_l.length:Nat):Int)))then(aq a_l v_1).bind fun x_3=>bif (decide (x_3.kind≠(1:Int)))then(gD ).bind fun r_5=>some (.ret r_5)else
 some (.next (i64.wrap (v_1+(1:Int))))else
 some (.exit v_1)
def qW (a_op:Int)(a_l:(List Val)):Sum (Int) (Val)->Option ((Val))
 |.inl v_1=>(aq a_l (0:Int)).bind fun x_6=>(aq a_l (i64.wrap (((a_l.length:Nat):Int)-(1:Int)))).bind fun x_7=>bif (decide (a_op=(13:Int)))then(lw (i64.wrap (x_6.int+x_7.int))).bind fun r_9=>some r_9 else
 bif (decide (a_op=(14:Int)))then(lw (i64.wrap (x_6.int-x_7.int))).bind fun r_11=>some r_11 else
 bif (decide (a_op=(15:Int)))then(pv x_6.int x_7.int).bind fun r_13=>some r_13 else
 bif (decide (a_op=(18:Int)))then(lw (i64.wrap (0-x_6.int))).bind fun r_15=>some r_15 else
 bif (decide (x_7.int=(0:Int)))then(gD ).bind fun r_17=>some r_17 else
 bif (decide (a_op=(16:Int)))then bif (decide (x_7.int≠0))then((lw (i64.wrap (x_6.int.tdiv x_7.int))).bind fun r_19=>some r_19)else none else
 bif (decide (x_7.int≠0))then((lw (x_6.int.tmod x_7.int)).bind fun r_20=>some r_20)else none
 |.inr q=>some q
def iS (a_op:Int)(a_l:(List Val)):Option (Val):=(ap (nz a_l) fuel (0:Int)).bind (qW a_op a_l)
instance gArith_ok {a_op : Int} {a_l : (List Val)} {r : Val} : OkC (iS a_op a_l = some r) (PTz 105 [.one (.int .i64 a_op), .one (.lst (a_l.map cV))] (.val (.agg (cV r)))) := .mk fun H => by
 unfold iS at H;refine po_ Tryz.func105 Tryz.ntmps105 ?_;refine aX ?_;refine alM_ (fun s:Int=>match s with|v_1=>[(0,.one (.c (.int .i64 a_op))),(1,.one (.c (.lst (a_l.map cV)))),(4,.one (.ptr 0 0)),(9,.one (.c (.lst (a_l.map cV)))),(10,.one (.c (.int .i64 ((a_l.length:Nat):Int)))),(11,.one (.c (.int .i64 v_1)))]) (fun s=>match s with|v_1=>[.box [.c (.int .i64 (0:Int)),.c (.int .i64 (0:Int)),.c (.str empty)]]) H (fun _=>amR _)
  (fm_ bH [] rfl a8 bZ) ?_
 rintro v_1 st1 hb1 hk1;unfold nz at hb1;dsimp only at hb1 ⊢;rcases af hb1 with⟨q_2,hb1⟩|⟨q_2,hb1⟩
 ·obtain⟨x_3,i1z,i1,i1x,hb1⟩:=aY (f:=cV) hb1
  rcases af hb1 with⟨q_4,hb1⟩|⟨q_4,hb1⟩
  ·exact cL hb1 hk1
  cases hb1;refine aX ?_;exact⟨_,rfl,fm_ bH [_] rfl a8 bZ⟩
 cases hb1;have hx1:qW a_op a_l (.inl v_1)=some _:=hk1;unfold qW at hx1;dsimp only at hx1;obtain⟨x_6,i3z,i3,i3x,hx1⟩:=aY (f:=cV) hx1;obtain⟨x_7,i4z,i4,i4x,hx1⟩:=aY (f:=cV) hx1;rcases af hx1 with⟨q_8,hx1⟩|⟨q_8,hx1⟩
 ·exact ax hx1
 refine aX ?_;rcases af hx1 with⟨q_10,hx1⟩|⟨q_10,hx1⟩
 ·exact ax hx1
 rcases af hx1 with⟨q_12,hx1⟩|⟨q_12,hx1⟩
 ·exact ax hx1
 rcases af hx1 with⟨q_14,hx1⟩|⟨q_14,hx1⟩
 ·exact ax hx1
 refine aX ?_;exact ax hx1
def rp (s_7:(List Val)):(Int×Int)->Option (Step (Int×Int) (Val)):=fun s=>match s with
 |(t_8,v_9)=>bif (decide (v_9<((s_7.length:Nat):Int)))then(aq s_7 v_9).bind fun x_11=>(iw x_11).bind fun r_12=>(KP t_8 r_12).bind fun r_13=>some (.next (r_13,(i64.wrap (v_9+(1:Int)))))else
 some (.exit (t_8,v_9))
def wk:Sum (Int×Int) (Val)->Option ((Val))
 |.inl (t_8,v_9)=>(ud t_8).bind fun r_14=>some r_14
 |.inr q=>some q
def rH (s_15:(List Val)):(Int×Int)->Option (Step (Int×Int) (Val)):=fun s=>match s with
 |(t_16,v_17)=>bif (decide (v_17<((s_15.length:Nat):Int)))then(aq s_15 v_17).bind fun x_19=>(iw x_19).bind fun r_20=>(BB t_16 r_20).bind fun r_21=>some (.next (r_21,(i64.wrap (v_17+(1:Int)))))else
 some (.exit (t_16,v_17))
def vZ:Sum (Int×Int) (Val)->Option ((Val))
 |.inl (t_16,v_17)=>(ud t_16).bind fun r_22=>some r_22
 |.inr q=>some q
def jV (a_op:Int)(a_l:(List Val)):Option (Val):=(aq a_l (0:Int)).bind fun x_1=>(iw x_1).bind fun r_2=>bif (decide (a_op=(4:Int)))then(BO r_2).bind fun r_4=>(ud r_4).bind fun r_5=>some r_5 else
 bif (decide (a_op=(5:Int)))then(fM a_l (1:Int) ((a_l.length:Nat):Int)).bind fun s_7=>(ap (rp s_7) fuel (r_2,(0:Int))).bind (wk)else
 (fM a_l (1:Int) ((a_l.length:Nat):Int)).bind fun s_15=>(ap (rH s_15) fuel (r_2,(0:Int))).bind (vZ)
instance gLogic_ok {a_op : Int} {a_l : (List Val)} {r : Val} : OkC (jV a_op a_l = some r) (PTz 102 [.one (.int .i64 a_op), .one (.lst (a_l.map cV))] (.val (.agg (cV r)))) := .mk fun H => by
 unfold jV at H;refine po_ Tryz.func102 Tryz.ntmps102 ?_;obtain⟨x_1,i1z,i1,i1x,H⟩:=aY (f:=cV) H;obtain⟨r_2,c2,H⟩:=bd_ H;replace c2:=gTruthV_ok c2;rcases af H with⟨q_3,H⟩|⟨q_3,H⟩
 ·exact ax H
 rcases af H with⟨q_6,H⟩|⟨q_6,H⟩
 ·obtain⟨s_7,u5,H⟩:=bd_ H
  obtain⟨⟨u5a,u5b,u5c⟩,u5⟩:=dq u5;have u5x:=xd (f:=cV) u5
  repeat' (first|refine gs_ ?_|rw[u5x]|rw[show((0:Nat):Int)=0 from rfl])
  refine alM_ (fun s:Int×Int=>match s with|(t_8,v_9)=>[(4,.one (.ptr 0 0)),(5,.one (.c (.int .i64 t_8))),(35,.one (.c (.lst (s_7.map cV)))),(36,.one (.c (.int .i64 ((s_7.length:Nat):Int)))),(37,.one (.c (.int .i64 v_9)))]) (fun s=>match s with|(t_8,v_9)=>[.box [.c (.int .i64 (0:Int)),.c (.int .i64 (0:Int)),.c (.str empty)]]) H (fun _=>amR _)
   (fm_ bH [] rfl a8 bZ) ?_
  rintro⟨t_8,v_9⟩ st1 hb1 hk1;unfold rp at hb1;dsimp only at hb1 ⊢
  repeat' (first|refine gs_ ?_|rw[u5x]|rw[show((0:Nat):Int)=0 from rfl])
  rcases af hb1 with⟨q_10,hb1⟩|⟨q_10,hb1⟩
  ·obtain⟨x_11,i6z,i6,i6x,hb1⟩:=aY (f:=cV) hb1
   obtain⟨r_12,c7,hb1⟩:=bd_ hb1;replace c7:=gTruthV_ok c7;obtain⟨r_13,c8,hb1⟩:=bd_ hb1;replace c8:=gAnd_ok c8
   cases hb1
   repeat' (first|refine gs_ ?_|rw[u5x]|rw[show((0:Nat):Int)=0 from rfl])
   exact⟨_,rfl,fm_ bH [_] rfl a8 bZ⟩
  cases hb1;have hx1:wk (.inl (t_8,v_9))=some _:=hk1;unfold wk at hx1;dsimp only at hx1;obtain⟨r_14,c9,hx1⟩:=bd_ hx1;replace c9:=gOfV2_ok c9
  cases hx1
  repeat' (first|refine gs_ ?_|rw[u5x]|rw[show((0:Nat):Int)=0 from rfl])
  refine aJ (aO rfl ?_ ?_)
  ·repeat' (first|exact t7|rfl|exact amG rfl|omega|apply And.intro)
  ·first|rfl|(simp only[amJ,amH,amL,amB]<;>rfl)
 obtain⟨s_15,u10,H⟩:=bd_ H;obtain⟨⟨u10a,u10b,u10c⟩,u10⟩:=dq u10;have u10x:=xd (f:=cV) u10
 repeat' (first|refine gs_ ?_|rw[u10x]|rw[show((0:Nat):Int)=0 from rfl])
 refine alM_ (fun s:Int×Int=>match s with|(t_16,v_17)=>[(4,.one (.ptr 0 0)),(5,.one (.c (.int .i64 t_16))),(16,.one (.c (.lst (s_15.map cV)))),(17,.one (.c (.int .i64 ((s_15.length:Nat):Int)))),(18,.one (.c (.int .i64 v_17)))]) (fun s=>match s with|(t_16,v_17)=>[.box [.c (.int .i64 (0:Int)),.c (.int .i64 (0:Int)),.c (.str empty)]]) H (fun _=>amR _)
  (fm_ bH [] rfl a8 bZ) ?_
 rintro⟨t_16,v_17⟩ st2 hb2 hk2;unfold rH at hb2;dsimp only at hb2 ⊢
 repeat' (first|refine gs_ ?_|rw[u10x]|rw[show((0:Nat):Int)=0 from rfl])
 rcases af hb2 with⟨q_18,hb2⟩|⟨q_18,hb2⟩
 ·obtain⟨x_19,i11z,i11,i11x,hb2⟩:=aY (f:=cV) hb2
  obtain⟨r_20,c12,hb2⟩:=bd_ hb2;replace c12:=gTruthV_ok c12;obtain⟨r_21,c13,hb2⟩:=bd_ hb2;replace c13:=gOr3v_ok c13
  cases hb2
  repeat' (first|refine gs_ ?_|rw[u10x]|rw[show((0:Nat):Int)=0 from rfl])
  exact⟨_,rfl,fm_ bH [_] rfl a8 bZ⟩
 cases hb2;have hx2:vZ (.inl (t_16,v_17))=some _:=hk2;unfold vZ at hx2;dsimp only at hx2;obtain⟨r_22,c14,hx2⟩:=bd_ hx2;replace c14:=gOfV2_ok c14
 cases hx2
 repeat' (first|refine gs_ ?_|rw[u10x]|rw[show((0:Nat):Int)=0 from rfl])
 refine aJ (aO rfl ?_ ?_)
 ·repeat' (first|exact t7|rfl|exact amG rfl|omega|apply And.intro)
 ·first|rfl|(simp only[amJ,amH,amL,amB]<;>rfl)
def gAt (a_row:(List Val))(a_i:Int):Option (Val):=bif (decide (a_i<(0:Int)))then(gD ).bind fun r_2=>some r_2 else
 bif (decide (((a_row.length:Nat):Int)<=a_i))then(gD ).bind fun r_4=>some r_4 else
 (aq a_row a_i).bind fun x_5=>some x_5
instance gAt_ok {a_row : (List Val)} {a_i : Int} {r : Val} : OkC (gAt a_row a_i = some r) (PTz 183 [.one (.lst (a_row.map cV)), .one (.int .i64 a_i)] (.val (.agg (cV r)))) := .mk fun H => by
 unfold gAt at H;refine po_ Tryz.func183 Tryz.ntmps183 ?_;exact ax H
def un (a_row:(List Val))(a_l:(List Int)):((List Val)×Int)->Option (Step ((List Val)×Int) ((List Val))):=fun s=>match s with
 |(out_1,v_2)=>bif (decide (v_2<((a_l.length:Nat):Int)))then(aq a_l v_2).bind fun x_4=>(gAt a_row x_4).bind fun r_5=>bif (decide (out_1.length+1<=4398046511104))then(some (.next ((out_1++[r_5]),(i64.wrap (v_2+(1:Int))))))else none else
 some (.exit (out_1,v_2))
def yS:Sum ((List Val)×Int) ((List Val))->Option (((List Val)))
 |.inl (out_1,v_2)=>some out_1
 |.inr q=>some q
def Hw (a_row:(List Val))(a_l:(List Int)):Option ((List Val)):=bif (decide (0<=((a_l.length:Nat):Int)))then(bif (decide ((32:Int)*((a_l.length:Nat):Int)<=281474976710656))then(bif (decide (((a_l.length:Nat):Int)<=9223372036854775807))then((ap (un a_row a_l) fuel ([],(0:Int))).bind (yS))else none)else none)else none
theorem N7 {p q:Prop}(k:q)(h:Bx q->p:=by
 intro hq
 repeat' (first|refine bL rfl rfl rfl rfl rfl (iC tab_ok (k:=3) (by_:=32) rfl rfl rfl rfl rfl rfl m9 m0 m0 m0) ?_|refine gs_ ?_|fail)
 exact hq.out):p:=h ⟨k⟩
theorem agK {p:Prop}(h:p:=by
 repeat' (first|refine bL rfl rfl rfl rfl rfl (iC tab_ok (k:=3) (by_:=32) rfl rfl rfl rfl rfl rfl m9 m0 m0 m0) ?_|refine gs_ ?_|fail)
 refine aJ (aO rfl ?_ ?_)
 ·repeat' (first|exact t7|rfl|exact amG rfl|omega|apply And.intro)
 ·first|rfl|(simp only[amJ,amH,amL,amB]<;>rfl)):p:=h
instance gPick_ok {a_row : (List Val)} {a_l : (List Int)} {r : (List Val)} : OkC (Hw a_row a_l = some r) (PTz 131 [.one (.lst (a_row.map cV)), .one (.lst (a_l.map (fun x => [AC.int .i64 x])))] (.val (.one (.lst (r.map cV))))) := .mk fun H => by
 unfold Hw at H;refine po_ Tryz.func131 Tryz.ntmps131 ?_;obtain⟨g1,H⟩:=bo H;obtain⟨g2,H⟩:=bo H;obtain⟨g3,H⟩:=bo H;refine N7 ?_;refine alM_ (fun s:(List Val)×Int=>match s with|(out_1,v_2)=>[(0,.one (.c (.lst (a_row.map cV)))),(5,.one (.own (out_1.map cV) 0)),(11,.one (.c (.lst (a_l.map (fun x=>[AC.int .i64 x]))))),(12,.one (.c (.int .i64 ((a_l.length:Nat):Int)))),(13,.one (.c (.int .i64 v_2)))]) (fun s=>match s with|(out_1,v_2)=>[.spare out_1.length 3]) H (fun _=>amR _)
  (fm_ bH [] rfl a8 bZ) ?_
 rintro⟨out_1,v_2⟩ st1 hb1 hk1;unfold un at hb1;dsimp only at hb1 ⊢;rcases af hb1 with⟨q_3,hb1⟩|⟨q_3,hb1⟩
 ·obtain⟨x_4,i4z,i4,i4x,hb1⟩:=aY (f:=(fun x=>[AC.int .i64 x])) hb1
  obtain⟨r_5,c5,hb1⟩:=bd_ hb1;replace c5:=gAt_ok c5;obtain⟨g6,hb1⟩:=bo hb1
  cases hb1;refine N7 ?_;exact⟨_,rfl,fm_ jb [] nk a8 bZ⟩
 cases hb1;have hx1:yS (.inl (out_1,v_2))=some _:=hk1;unfold yS at hx1;dsimp only at hx1
 cases hx1;exact agK
def uo (a_row:(List Val))(a_i:Int):Option (Val):=(Hw a_row [a_i]).bind fun r_1=>(aq r_1 (0:Int)).bind fun x_2=>(nX x_2).bind fun r_3=>bif (!r_3)then(gD ).bind fun r_5=>some r_5 else
 some x_2
instance gColumn_ok {a_row : (List Val)} {a_i : Int} {r : Val} : OkC (uo a_row a_i = some r) (PTz 101 [.one (.lst (a_row.map cV)), .one (.int .i64 a_i)] (.val (.agg (cV r)))) := .mk fun H => by
 unfold uo at H;refine po_ Tryz.func101 Tryz.ntmps101 ?_;exact ax H
def adC (a_p:au)(a_q:au):Option (Int×Bool):=(gPV a_p).bind fun r_1=>bif (!r_1)then some ((0:Int),false)else
 (gPV a_q).bind fun r_3=>bif (!r_3)then some ((0:Int),false)else
 bif (decide (a_p.hi<a_q.lo))then some ((0:Int),true)else
 bif (decide (a_p.hi=a_q.lo))then some ((1:Int),true)else
 bif (decide (a_q.hi<a_p.lo))then some ((12:Int),true)else
 bif (decide (a_q.hi=a_p.lo))then some ((11:Int),true)else
 bif (bT [.c (.int .i64 a_p.lo),.c (.int .i64 a_p.hi)] [.c (.int .i64 a_q.lo),.c (.int .i64 a_q.hi)])then some ((6:Int),true)else
 bif (decide (a_p.lo=a_q.lo))then bif (decide (a_p.hi<a_q.hi))then some ((3:Int),true)else
 some ((9:Int),true)else
 bif (decide (a_p.hi=a_q.hi))then bif (decide (a_q.lo<a_p.lo))then some ((5:Int),true)else
 some ((7:Int),true)else
 bif (decide (a_p.lo<a_q.lo))then bif (decide (a_q.hi<a_p.hi))then some ((8:Int),true)else
 bif (decide (a_q.lo<a_p.lo))then bif (decide (a_p.hi<a_q.hi))then some ((4:Int),true)else
 some ((2:Int),true)else
 some ((2:Int),true)else
 bif (decide (a_q.lo<a_p.lo))then bif (decide (a_p.hi<a_q.hi))then some ((4:Int),true)else
 some ((10:Int),true)else
 some ((10:Int),true)
instance gRel_ok {a_p : au} {a_q : au} {r : Int × Bool} : OkC (adC a_p a_q = some r) (PTz 160 [.agg (aH a_p), .agg (aH a_q)] (.tup [.one (.int .i64 r.1), .one (.bool r.2)])) := .mk fun H => by
 unfold adC at H;refine po_ Tryz.func160 Tryz.ntmps160 ?_;obtain⟨r_1,c1,H⟩:=bd_ H;replace c1:=gPV_ok c1;rcases af H with⟨q_2,H⟩|⟨q_2,H⟩
 ·exact ax H
 obtain⟨r_3,c2,H⟩:=bd_ H;replace c2:=gPV_ok c2;rcases af H with⟨q_4,H⟩|⟨q_4,H⟩
 ·exact ax H
 refine aX ?_;rcases af H with⟨q_5,H⟩|⟨q_5,H⟩
 ·exact ax H
 rcases af H with⟨q_6,H⟩|⟨q_6,H⟩
 ·exact ax H
 rcases af H with⟨q_7,H⟩|⟨q_7,H⟩
 ·exact ax H
 refine aX ?_;rcases af H with⟨q_8,H⟩|⟨q_8,H⟩
 ·exact ax H
 rcases af H with⟨q_9,H⟩|⟨q_9,H⟩
 ·exact ax H
 rcases af H with⟨q_10,H⟩|⟨q_10,H⟩
 ·refine aX ?_
  exact ax H
 refine aX ?_;rcases af H with⟨q_12,H⟩|⟨q_12,H⟩
 ·exact ax H
 rcases af H with⟨q_14,H⟩|⟨q_14,H⟩
 ·rcases af H with⟨q_15,H⟩|⟨q_15,H⟩
  ·exact ax H
  refine aX ?_;exact ax H
 rcases af H with⟨q_18,H⟩|⟨q_18,H⟩
 ·refine aX ?_
  exact ax H
 exact ax H
