/- Parts. No condition. -/
import Derived.Test.YtlcceppoloaecaaGreatDoorKAG
set_option maxHeartbeats 8000000
set_option maxRecDepth 100000
set_option linter.unusedSimpArgs false
set_option linter.unusedVariables false
namespace Go.Proofs.YtlcceppoloaecaaGreatDoor
open Go.RowKit Go.MapKept
def age (s:ByteArray)(i:Int):Option UInt8:=if 0<=i then s[i.toNat]? else none
theorem ED {s:ByteArray}{i:Int}{x:UInt8}(h:age s i=some x):0<=i/\s[i.toNat]?=some x:=by
 unfold age at h;by_cases h0:0<=i
 ·rw[if_pos h0]at h;exact⟨h0,h⟩
 ·rw[if_neg h0]at h;cases h
section
variable {P:Program} {ti:TI} {N n0:Nat} {ds:List (Option Tmp)} {K:Tm->List Ob->Prop} {rest:List Oper} {o:Oper} {T:Tm} {L:List Ob}
theorem b_ {t:TypeId}{x ix:Operand}{s:ByteArray}{k0:IntKind}{i:Int}{b:UInt8}{d:Nat}(hd:o.dst=some d)(hN:Nat.blt d N=true){g0:Bool}(hg:gg ds T o.guard=some g0)(ho:o.op = .index t x ix)(hx:look T x=some (.one (.c (.str s))))(hi:look T ix=some (.one (.c (.int k0 i))))
  (hk:ti.kind t=some .string) (h:aI P ti N ds K rest ((d,.one (.c (.int .u8 (b.toNat:Int))))::T) L) (hb:s[i.toNat]?=some b:=by assumption) (h0:0<=i:=by assumption) (RQ:g0=true:=by first|rfl|exact jK (by first|assumption|exact j8 (by assumption))|exact jq (by first|assumption|exact j7 (by assumption))):aI P ti N ds K (o::rest) T L :=
 st_pop (φ:=0<=i/\ti.kind t=some .string) hd hN (RQ▸hg) (by rw[ho];simp only[pop,hx,hi,lH,hb]) ⟨h0,hk⟩ h
theorem t5_ {v:AV}{φ:Prop}{d:Nat}(hd:o.dst=some d)(hN:Nat.blt d N=true){g0:Bool}(hg:gg ds T o.guard=some g0)(hp:vm ti (look T) o.op=some (v,φ))(h:aI P ti N ds K rest ((d,v)::T) L)
  (hφ:φ:=by repeat' (first|exact t7|rfl|exact aqA rfl|omega|refine arl.2 ⟨?_,?_⟩|exact λ_ h=>nomatch h|apply And.intro)) (RQ:g0=true:=by first|rfl|exact jK (by first|assumption|exact j8 (by assumption))|exact jq (by first|assumption|exact j7 (by assumption))):aI P ti N ds K (o::rest) T L:=st_lit hd hN (RQ▸hg) hp hφ h
end
theorem gs5_ {p q:Prop}(k:q)(h:Bx q->p:=by
 intro hq
 first|refine p_ rfl rfl rfl rfl rfl ?_|refine st_nil ?_|refine x_ rfl rfl rfl rfl rfl rfl rfl rfl ?_|refine l_ rfl rfl rfl rfl ?_|refine s_ rfl rfl rfl ?_|refine t5_ rfl rfl rfl rfl ?_|refine k_ rfl rfl rfl ?_|refine k0_ rfl rfl ?_|refine c_ rfl rfl rfl rfl ?_|refine pick_t rfl rfl rfl rfl rfl rfl rfl ?_|refine pick_f rfl rfl rfl rfl rfl rfl rfl ?_|refine aw_seq ?_|refine aw_region tab_ok _ rfl ?_|refine aw_drawn2 tabS_ok _ rfl mixed (by decide +kernel) ?_|refine aw_condT rfl ?_|refine aw_condF rfl ?_|refine aw_block ?_|refine aw_exit ?_|refine aw_ret ?_|refine aw_skip ?_|rw[aqC]|rw[mn_norm]|rw[mx_norm]
 exact hq.out):p:=h ⟨k⟩
def j9:Option (Val):=some (⟨(0:Int),(0:Int),ByteArray.empty⟩:Val)
instance gNull_ok {r : Val} : OkC (j9 = some r) (PTz 111 [] (.val (.agg (cV r)))) := .mk λH => by
 unfold j9 at H;refine po_ Tryz.func111 Tryz.ntmps111 ?_;exact ay H
def o5 (Ru:ByteArray):(Int)->Option (Step (Int) (Bool)):=λs=>match s with
 |v_1=>bif v_1<(Ru.size:Int)then(age Ru v_1).bind λUB=>bif (UB.toNat:Int)<(32:Int)then some (.ret false)else
 bif (126:Int)<(UB.toNat:Int)then some (.ret false)else
 some (.next (IntKind.i64.wrap (v_1+(1:Int))))else
 some (.exit v_1)
def db:Sum (Int) (Bool)->Option ((Bool))
 |.inl v_1=>some true
 |.inr q=>some q
def lw (Ru:ByteArray):Option (Bool):=(ao (o5 Ru) fuel (0:Int)).bind (db)
instance gPrintableP_ok {Ru : ByteArray} {r : Bool} : OkC (lw Ru = some r) (PTz 227 [.one (.str Ru)] (.val (.one (.bool r)))) := .mk λH => by
 unfold lw at H;refine po_ Tryz.func227 Tryz.ntmps227 ?_
 repeat' (first|refine gs5_ ?_|refine b_ rfl rfl rfl rfl rfl rfl rfl ?_)
 refine alM_ (λs:Int=>match s with|v_1=>[(0,.one (.c (.str Ru))),(5,.one (.c (.int .i64 (Ru.size:Int)))),(6,.one (.c (.int .i64 v_1)))]) (λs=>match s with|v_1=>[]) H (λ_=>aqL _)
  (fm_ bE [] rfl bm trivial) ?_
 rintro v_1 QF OU Pz;unfold o5 at OU;dsimp only at OU ⊢;obtain⟨Qr,OU⟩|⟨Qr,OU⟩:=aj OU
 ·obtain⟨UB,i1,OU⟩:=bd_ OU
  obtain⟨Rw,i1⟩:=ED i1;obtain⟨Qf,OU⟩|⟨Qf,OU⟩:=aj OU
  ·cases OU
   have O2:db (.inr false)=some _:=Pz;unfold db at O2;dsimp only at O2
   cases O2
   repeat' (first|refine gs5_ ?_|refine b_ rfl rfl rfl rfl rfl rfl rfl ?_)
   refine aX (bg rfl ?_ ?_)
   ·repeat' (first|exact t7|rfl|exact aqA rfl|omega|apply And.intro)
   ·first|rfl|(simp only[aqD,aqB,aqF,aqv]<;>rfl)
  obtain⟨Q6,OU⟩|⟨Q6,OU⟩:=aj OU
  ·cases OU
   have O2:db (.inr false)=some _:=Pz;unfold db at O2;dsimp only at O2
   cases O2
   repeat' (first|refine gs5_ ?_|refine b_ rfl rfl rfl rfl rfl rfl rfl ?_)
   refine aX (bg rfl ?_ ?_)
   ·repeat' (first|exact t7|rfl|exact aqA rfl|omega|apply And.intro)
   ·first|rfl|(simp only[aqD,aqB,aqF,aqv]<;>rfl)
  cases OU
  repeat' (first|refine gs5_ ?_|refine b_ rfl rfl rfl rfl rfl rfl rfl ?_)
  exact⟨_,rfl,fm_ bE [] rfl bm trivial⟩
 cases OU;have O2:db (.inl v_1)=some _:=Pz;unfold db at O2;dsimp only at O2
 cases O2
 repeat' (first|refine gs5_ ?_|refine b_ rfl rfl rfl rfl rfl rfl rfl ?_)
 refine aX (bg rfl ?_ ?_)
 ·repeat' (first|exact t7|rfl|exact aqA rfl|omega|apply And.intro)
 ·first|rfl|(simp only[aqD,aqB,aqF,aqv]<;>rfl)
def pF (QR:Val):Option (Bool):=bif QR.kind=(0:Int)then bif QR.int=(0:Int)then some (QR.text.toList==(⟨#[]⟩:ByteArray).toList)else
 some false else
 bif QR.kind=(1:Int)then bif (QR.text.toList==(⟨#[]⟩:ByteArray).toList)then bif (-1125899906842624:Int)<=QR.int then some (decide (QR.int<=(1125899906842624:Int)))else
 some false else
 some false else
 bif QR.kind=(2:Int)then bif QR.int=(0:Int)then bif (QR.text.size:Int)<=(200:Int)then(lw QR.text).bind λQw=>some Qw else
 some false else
 some false else
 bif QR.kind=(3:Int)then bif (QR.text.toList==(⟨#[]⟩:ByteArray).toList)then bif QR.int=(0:Int)then some true else
 some (decide (QR.int=(1:Int)))else
 some false else
 some false
instance gValidP_ok {QR : Val} {r : Bool} : OkC (pF QR = some r) (PTz 178 [.agg (cV QR)] (.val (.one (.bool r)))) := .mk λH => by
 unfold pF at H;refine po_ Tryz.func178 Tryz.ntmps178 ?_;exact ay H
def tC (QR:Val):Option (Val):=(pF QR).bind λO7=>bif (!O7)then(j9 ).bind λPY=>some PY else
 some QR
instance gOrNull_ok {QR : Val} {r : Val} : OkC (tC QR = some r) (PTz 230 [.agg (cV QR)] (.val (.agg (cV r)))) := .mk λH => by
 unfold tC at H;refine po_ Tryz.func230 Tryz.ntmps230 ?_;exact ay H
def nU (PI:Int):Option (Val):=(tC (⟨(1:Int),PI,ByteArray.empty⟩:Val)).bind λO7=>some O7
instance gIntP_ok {PI : Int} {r : Val} : OkC (nU PI = some r) (PTz 184 [.one (.int .i64 PI)] (.val (.agg (cV r)))) := .mk λH => by
 unfold nU at H;refine po_ Tryz.func184 Tryz.ntmps184 ?_;exact ay H
def yG (Ru:ByteArray):Option (Val):=(tC (⟨(2:Int),(0:Int),Ru⟩:Val)).bind λO7=>some O7
instance gTextP_ok {Ru : ByteArray} {r : Val} : OkC (yG Ru = some r) (PTz 185 [.one (.str Ru)] (.val (.agg (cV r)))) := .mk λH => by
 unfold yG at H;refine po_ Tryz.func185 Tryz.ntmps185 ?_;exact ay H
def sW (OY:Bool):Option (Val):=bif OY then some (⟨(3:Int),(1:Int),ByteArray.empty⟩:Val)else
 some (⟨(3:Int),(0:Int),ByteArray.empty⟩:Val)
instance gBoolP_ok {OY : Bool} {r : Val} : OkC (sW OY = some r) (PTz 114 [.one (.bool OY)] (.val (.agg (cV r)))) := .mk λH => by
 unfold sW at H;refine po_ Tryz.func114 Tryz.ntmps114 ?_;exact ay H
def gPV (Pe:ax):Option (Bool):=bif (0:Int)<=Pe.lo then bif Pe.lo<Pe.hi then some (decide (Pe.hi<=(1099511627776:Int)))else
 some false else
 some false
instance gPV_ok {Pe : ax} {r : Bool} : OkC (gPV Pe = some r) (PTz 38 [.agg (aP Pe)] (.val (.one (.bool r)))) := .mk λH => by
 unfold gPV at H;refine po_ Tryz.func38 Tryz.ntmps38 ?_;exact ay H
section
variable {P:Program} {ti:TI} {N:Nat} {ds:List (Option Tmp)} {K:Tm->List Ob->Prop} {rest:List Oper} {o:Oper} {T:Tm} {L:List Ob}
theorem Jg {a b:List SV}(h:b.length=a.length):splice a 0 b=b:=by
 unfold splice;rw[List.take_zero,aqv,aq8,List.drop_of_length_le m0,aqZ]
theorem BF {α:Type}{enc:α->List AC}{X:List α}{v:α}{t:TypeId}{p q:Operand}{id O1 i k:Nat}(hd:o.dst=none)(hg:gg ds T o.guard=some true)(ho:o.op = .store t p q)(hp:look T p=some (.one (.ep id O1 i 0)))(hL:L[id]?=some (.row O1 ((X.map enc).map (List.map SV.c)) k))(hx:i<X.length)
  (hq:(look T q).bind AV.cells=some ((enc v).map SV.c)) (hk:∀ x,(enc x).length=k) (P2:ti.size t=some k) (h:aI P ti N ds K rest T (L.set id (.row O1 (((X.set i v).map enc).map (List.map SV.c)) k))):aI P ti N ds K (o::rest) T L:=by
 obtain⟨x,hx⟩:=gol_ hx;have hl:((enc v).map SV.c).length=((enc x).map SV.c).length:=by rw[aqC,aqC,hk,hk]
 have he:((X.map enc).map (List.map SV.c))[i]?=some ((enc x).map SV.c):=by rw[aqN,aqN,hx];rfl
 refine oK hd hg ho hp hq hL he ⟨by rw[aq8,hl];exact aqG _,by rw[aqC,hk];exact P2⟩ ?_ h;rw[Jg hl,List.map_set,List.map_set]
end
theorem iW {α:Type}(n v k:Nat)(enc:α->List AC)(X:List α):(Ob.row v ((X.map enc).map (List.map SV.c)) k).below n:=by
 intro e he x hx;rw[List.map_map]at he;obtain⟨y,_,rfl⟩:=aq0.1 he;obtain⟨z,_,rfl⟩:=aq0.1 hx;trivial
