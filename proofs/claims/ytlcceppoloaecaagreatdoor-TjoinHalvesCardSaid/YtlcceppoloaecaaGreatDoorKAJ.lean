/- Parts. No condition. -/
import Derived.Test.YtlcceppoloaecaaGreatDoorKAI
set_option maxHeartbeats 8000000
set_option maxRecDepth 100000
set_option linter.unusedSimpArgs false
set_option linter.unusedVariables false
namespace Go.Proofs.YtlcceppoloaecaaGreatDoor
open Go.RowKit Go.MapKept
def afk (s:ByteArray)(i:Int):Option UInt8:=if 0<=i then s[i.toNat]? else none
theorem GN {s:ByteArray}{i:Int}{x:UInt8}(h:afk s i=some x):0<=i/\s[i.toNat]?=some x:=by
 unfold afk at h;by_cases h0:0<=i
 ·rw[if_pos h0]at h;exact⟨h0,h⟩
 ·rw[if_neg h0]at h;cases h
section
variable {P:Program} {ti:TI} {N n0:Nat} {ds:List (Option Tmp)} {K:Tm->List Ob->Prop} {rest:List Oper} {o:Oper} {T:Tm} {L:List Ob}
theorem b_ {t:TypeId}{x ix:Operand}{s:ByteArray}{k0:IntKind}{i:Int}{b:UInt8}{d:Nat}(hd:o.dst=some d)(hN:Nat.blt d N=true){g0:Bool}(hg:fR ds T o.guard=some g0)(ho:o.op = .index t x ix)(hx:look T x=some (.one (.c (.str s))))(hi:look T ix=some (.one (.c (.int k0 i))))
  (hk:ti.kind t=some .string) (h:aI P ti N ds K rest ((d,.one (.c (.int .u8 ((b.toNat:Nat):Int))))::T) L) (hb:s[i.toNat]?=some b:=by assumption) (h0:0<=i:=by assumption) (Rk:g0=true:=by first|rfl|exact jj (by first|assumption|exact jH (by assumption))|exact jc (by first|assumption|exact jZ (by assumption))):aI P ti N ds K (o::rest) T L :=
 st_pop (φ:=0<=i/\ti.kind t=some .string) hd hN (Rk▸hg) (by rw[ho];simp only[pop,hx,hi,lS,hb]) ⟨h0,hk⟩ h
theorem t5_ {v:AV}{φ:Prop}{d:Nat}(hd:o.dst=some d)(hN:Nat.blt d N=true){g0:Bool}(hg:fR ds T o.guard=some g0)(hp:tV ti (look T) o.op=some (v,φ))(h:aI P ti N ds K rest ((d,v)::T) L)
  (hφ:φ:=by repeat' (first|exact t7|rfl|exact aqi rfl|omega|refine aq3.2 ⟨?_,?_⟩|exact fun _ h=>nomatch h|apply And.intro)) (Rk:g0=true:=by first|rfl|exact jj (by first|assumption|exact jH (by assumption))|exact jc (by first|assumption|exact jZ (by assumption))):aI P ti N ds K (o::rest) T L:=st_lit hd hN (Rk▸hg) hp hφ h
end
theorem gs5_ {p q:Prop}(k:q)(h:Bx q->p:=by
 intro hq
 first|refine p_ rfl rfl rfl rfl rfl ?_|refine st_nil ?_|refine x_ rfl rfl rfl rfl rfl rfl rfl rfl ?_|refine l_ rfl rfl rfl rfl ?_|refine s_ rfl rfl rfl ?_|refine t5_ rfl rfl rfl rfl ?_|refine k_ rfl rfl rfl ?_|refine k0_ rfl rfl ?_|refine c_ rfl rfl rfl rfl ?_|refine pick_t rfl rfl rfl rfl rfl rfl rfl ?_|refine pick_f rfl rfl rfl rfl rfl rfl rfl ?_|refine aw_seq ?_|refine aw_region tab_ok _ rfl ?_|refine aw_drawn2 tabS_ok _ rfl mixed (by decide +kernel) ?_|refine aw_condT rfl ?_|refine aw_condF rfl ?_|refine aw_block ?_|refine aw_exit ?_|refine aw_ret ?_|refine aw_skip ?_|rw[aqk]|rw[mn_norm]|rw[mx_norm]
 exact hq.out):p:=h ⟨k⟩
def jS:Option (Val):=some (⟨(0:Int),(0:Int),ByteArray.empty⟩:Val)
instance gNull_ok {r : Val} : OkC (jS = some r) (PTz 111 [] (.val (.agg (cV r)))) := .mk fun H => by
 unfold jS at H;refine po_ Tryz.func111 Tryz.ntmps111 ?_;exact ay H
def rD (S9:ByteArray):(Int)->Option (Step (Int) (Bool)):=fun s=>match s with
 |v_1=>bif (decide (v_1<((S9.size:Nat):Int)))then(afk S9 v_1).bind fun Ub=>bif (decide (((Ub.toNat:Nat):Int)<(32:Int)))then some (.ret false)else
 bif (decide ((126:Int)<((Ub.toNat:Nat):Int)))then some (.ret false)else
 some (.next (IntKind.i64.wrap (v_1+(1:Int))))else
 some (.exit v_1)
def dp:Sum (Int) (Bool)->Option ((Bool))
 |.inl v_1=>some true
 |.inr q=>some q
def mM (S9:ByteArray):Option (Bool):=(ao (rD S9) fuel (0:Int)).bind (dp)
instance gPrintableP_ok {S9 : ByteArray} {r : Bool} : OkC (mM S9 = some r) (PTz 227 [.one (.str S9)] (.val (.one (.bool r)))) := .mk fun H => by
 unfold mM at H;refine po_ Tryz.func227 Tryz.ntmps227 ?_
 repeat' (first|refine gs5_ ?_|refine b_ rfl rfl rfl rfl rfl rfl rfl ?_)
 refine alM_ (fun s:Int=>match s with|v_1=>[(0,.one (.c (.str S9))),(5,.one (.c (.int .i64 ((S9.size:Nat):Int)))),(6,.one (.c (.int .i64 v_1)))]) (fun s=>match s with|v_1=>[]) H (fun _=>aqu _)
  (fm_ bF [] rfl bn trivial) ?_
 rintro v_1 st1 OU Py;unfold rD at OU;dsimp only at OU ⊢;rcases aj OU with⟨Qq,OU⟩|⟨Qq,OU⟩
 ·obtain⟨Ub,i1,OU⟩:=bd_ OU
  obtain⟨SG,i1⟩:=GN i1;rcases aj OU with⟨P9,OU⟩|⟨P9,OU⟩
  ·cases OU
   have O3:dp (.inr false)=some _:=Py;unfold dp at O3;dsimp only at O3
   cases O3
   repeat' (first|refine gs5_ ?_|refine b_ rfl rfl rfl rfl rfl rfl rfl ?_)
   refine aZ (bg rfl ?_ ?_)
   ·repeat' (first|exact t7|rfl|exact aqi rfl|omega|apply And.intro)
   ·first|rfl|(simp only[aql,aqj,aqn,aqd]<;>rfl)
  rcases aj OU with⟨Q6,OU⟩|⟨Q6,OU⟩
  ·cases OU
   have O3:dp (.inr false)=some _:=Py;unfold dp at O3;dsimp only at O3
   cases O3
   repeat' (first|refine gs5_ ?_|refine b_ rfl rfl rfl rfl rfl rfl rfl ?_)
   refine aZ (bg rfl ?_ ?_)
   ·repeat' (first|exact t7|rfl|exact aqi rfl|omega|apply And.intro)
   ·first|rfl|(simp only[aql,aqj,aqn,aqd]<;>rfl)
  cases OU
  repeat' (first|refine gs5_ ?_|refine b_ rfl rfl rfl rfl rfl rfl rfl ?_)
  exact⟨_,rfl,fm_ bF [] rfl bn trivial⟩
 cases OU;have O3:dp (.inl v_1)=some _:=Py;unfold dp at O3;dsimp only at O3
 cases O3
 repeat' (first|refine gs5_ ?_|refine b_ rfl rfl rfl rfl rfl rfl rfl ?_)
 refine aZ (bg rfl ?_ ?_)
 ·repeat' (first|exact t7|rfl|exact aqi rfl|omega|apply And.intro)
 ·first|rfl|(simp only[aql,aqj,aqn,aqd]<;>rfl)
def pV (Qw:Val):Option (Bool):=bif (decide (Qw.kind=(0:Int)))then bif (decide (Qw.int=(0:Int)))then some (Qw.text.toList==(⟨#[]⟩:ByteArray).toList)else
 some false else
 bif (decide (Qw.kind=(1:Int)))then bif (Qw.text.toList==(⟨#[]⟩:ByteArray).toList)then bif (decide ((-1125899906842624:Int)<=Qw.int))then some (decide (Qw.int<=(1125899906842624:Int)))else
 some false else
 some false else
 bif (decide (Qw.kind=(2:Int)))then bif (decide (Qw.int=(0:Int)))then bif (decide (((Qw.text.size:Nat):Int)<=(200:Int)))then(mM Qw.text).bind fun Q3=>some Q3 else
 some false else
 some false else
 bif (decide (Qw.kind=(3:Int)))then bif (Qw.text.toList==(⟨#[]⟩:ByteArray).toList)then bif (decide (Qw.int=(0:Int)))then some true else
 some (decide (Qw.int=(1:Int)))else
 some false else
 some false
instance gValidP_ok {Qw : Val} {r : Bool} : OkC (pV Qw = some r) (PTz 178 [.agg (cV Qw)] (.val (.one (.bool r)))) := .mk fun H => by
 unfold pV at H;refine po_ Tryz.func178 Tryz.ntmps178 ?_;exact ay H
def tl (Qw:Val):Option (Val):=(pV Qw).bind fun O7=>bif (!O7)then(jS ).bind fun PT=>some PT else
 some Qw
instance gOrNull_ok {Qw : Val} {r : Val} : OkC (tl Qw = some r) (PTz 230 [.agg (cV Qw)] (.val (.agg (cV r)))) := .mk fun H => by
 unfold tl at H;refine po_ Tryz.func230 Tryz.ntmps230 ?_;exact ay H
def mf (PQ:Int):Option (Val):=(tl (⟨(1:Int),PQ,ByteArray.empty⟩:Val)).bind fun O7=>some O7
instance gIntP_ok {PQ : Int} {r : Val} : OkC (mf PQ = some r) (PTz 184 [.one (.int .i64 PQ)] (.val (.agg (cV r)))) := .mk fun H => by
 unfold mf at H;refine po_ Tryz.func184 Tryz.ntmps184 ?_;exact ay H
def yl (S9:ByteArray):Option (Val):=(tl (⟨(2:Int),(0:Int),S9⟩:Val)).bind fun O7=>some O7
instance gTextP_ok {S9 : ByteArray} {r : Val} : OkC (yl S9 = some r) (PTz 185 [.one (.str S9)] (.val (.agg (cV r)))) := .mk fun H => by
 unfold yl at H;refine po_ Tryz.func185 Tryz.ntmps185 ?_;exact ay H
def qU (OW:Bool):Option (Val):=bif OW then some (⟨(3:Int),(1:Int),ByteArray.empty⟩:Val)else
 some (⟨(3:Int),(0:Int),ByteArray.empty⟩:Val)
instance gBoolP_ok {OW : Bool} {r : Val} : OkC (qU OW = some r) (PTz 114 [.one (.bool OW)] (.val (.agg (cV r)))) := .mk fun H => by
 unfold qU at H;refine po_ Tryz.func114 Tryz.ntmps114 ?_;exact ay H
def gPV (Ph:ax):Option (Bool):=bif (decide ((0:Int)<=Ph.lo))then bif (decide (Ph.lo<Ph.hi))then some (decide (Ph.hi<=(1099511627776:Int)))else
 some false else
 some false
instance gPV_ok {Ph : ax} {r : Bool} : OkC (gPV Ph = some r) (PTz 38 [.agg (aN Ph)] (.val (.one (.bool r)))) := .mk fun H => by
 unfold gPV at H;refine po_ Tryz.func38 Tryz.ntmps38 ?_;exact ay H
section
variable {P:Program} {ti:TI} {N:Nat} {ds:List (Option Tmp)} {K:Tm->List Ob->Prop} {rest:List Oper} {o:Oper} {T:Tm} {L:List Ob}
theorem OH {a b:List SV}(h:b.length=a.length):splice a 0 b=b:=by
 unfold splice;rw[List.take_zero,aqd,aqR,List.drop_of_length_le m0,aqI]
theorem AA {α:Type}{enc:α->List AC}{X:List α}{v:α}{t:TypeId}{p q:Operand}{id OY i k:Nat}(hd:o.dst=none)(hg:fR ds T o.guard=some true)(ho:o.op = .store t p q)(hp:look T p=some (.one (.ep id OY i 0)))(hL:L[id]?=some (.row OY ((X.map enc).map (List.map SV.c)) k))(hx:i<X.length)
  (hq:(look T q).bind AV.cells=some ((enc v).map SV.c)) (hk:∀ x,(enc x).length=k) (PN:ti.size t=some k) (h:aI P ti N ds K rest T (L.set id (.row OY (((X.set i v).map enc).map (List.map SV.c)) k))):aI P ti N ds K (o::rest) T L:=by
 obtain⟨x,hx⟩:=gol_ hx;have hl:((enc v).map SV.c).length=((enc x).map SV.c).length:=by rw[aqk,aqk,hk,hk]
 have he:((X.map enc).map (List.map SV.c))[i]?=some ((enc x).map SV.c):=by rw[aqw,aqw,hx];rfl
 refine m_ hd hg ho hp hq hL he ⟨by rw[aqR,hl];exact aqo _,by rw[aqk,hk];exact PN⟩ ?_ h;rw[OH hl,List.map_set,List.map_set]
end
theorem iY {α:Type}(n v k:Nat)(enc:α->List AC)(X:List α):(Ob.row v ((X.map enc).map (List.map SV.c)) k).below n:=by
 intro e he x hx;rw[List.map_map]at he;obtain⟨y,_,rfl⟩:=aqJ.1 he;obtain⟨z,_,rfl⟩:=aqJ.1 hx;trivial
