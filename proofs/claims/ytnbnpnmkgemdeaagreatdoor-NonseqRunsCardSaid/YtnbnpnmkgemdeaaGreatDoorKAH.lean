/- Parts. No condition. -/
import Derived.Test.YtnbnpnmkgemdeaaGreatDoorKAG
set_option maxHeartbeats 8000000
set_option maxRecDepth 100000
set_option linter.unusedSimpArgs false
set_option linter.unusedVariables false
namespace Go.Proofs.YtnbnpnmkgemdeaaGreatDoor
open Go.RowKit Go.MapKept Tryz
def NE (s:ByteArray)(i:Int):Option UInt8:=if 0<=i then s[i.toNat]? else none
theorem Ee {s:ByteArray}{i:Int}{x:UInt8}(h:NE s i=some x):0<=i/\s[i.toNat]?=some x:=by
 unfold NE at h;by_cases h0:0<=i
 .rw[if_pos h0]at h;exact⟨h0,h⟩
 .rw[if_neg h0]at h;cases h
section
variable {P:Program} {ti:TI} {N n0:Nat} {ds:List (Option Tmp)} {K:Tm->List Ob->Prop} {rest:List Oper} {o:Oper} {T:Tm} {L:List Ob}
theorem b_ {t:TypeId}{x ix:Operand}{s:ByteArray}{k0:IntKind}{i:Int}{b:UInt8}{d:Nat}(hd:o.dst=some d)(hN:Nat.blt d N=true){g0:Bool}(hg:fN ds T o.guard=some g0)(ho:o.op = .index t x ix)(hx:look T x=some (.one (.c (.str s))))(hi:look T ix=some (.one (.c (.int k0 i))))
  (hk:ti.kind t=some .string) (h:aK P ti N ds K rest ((d,.one (.c (.int .u8 (b.toNat:Int))))::T) L) (hb:s[i.toNat]?=some b:=by assumption) (h0:0<=i:=by assumption) (R6:g0=true:=by first|rfl|exact iP (by first|assumption|exact jo (by assumption))|exact iS (by first|assumption|exact js (by assumption))):aK P ti N ds K (o::rest) T L :=
 st_pop (φ:=0<=i/\ti.kind t=some .string) hd hN (R6▸hg) (by rw[ho];simp only[pop,hx,hi,nr,hb]) ⟨h0,hk⟩ h
theorem t5_ {v:AV}{φ:Prop}{d:Nat}(hd:o.dst=some d)(hN:Nat.blt d N=true){g0:Bool}(hg:fN ds T o.guard=some g0)(hp:sD ti (look T) o.op=some (v,φ))(h:aK P ti N ds K rest ((d,v)::T) L)
  (hφ:φ:=by repeat' (first|exact t7|rfl|exact ah1 rfl|omega|refine List.forall_mem_cons.2 ⟨?_,?_⟩|exact λ_ h=>nomatch h|apply And.intro)) (R6:g0=true:=by first|rfl|exact iP (by first|assumption|exact jo (by assumption))|exact iS (by first|assumption|exact js (by assumption))):aK P ti N ds K (o::rest) T L:=st_lit hd hN (R6▸hg) hp hφ h
end
theorem gs5_ {p q:Prop}(k:q)(h:Bx q->p:=by
 intro hq
 first|refine p_ rfl rfl rfl rfl rfl ?_|refine st_nil ?_|refine x_ rfl rfl rfl rfl rfl rfl rfl rfl ?_|refine l_ rfl rfl rfl rfl ?_|refine s_ rfl rfl rfl ?_|refine t5_ rfl rfl rfl rfl ?_|refine k_ rfl rfl rfl ?_|refine k0_ rfl rfl ?_|refine c_ rfl rfl rfl rfl ?_|refine pick_t rfl rfl rfl rfl rfl rfl rfl ?_|refine pick_f rfl rfl rfl rfl rfl rfl rfl ?_|refine aw_seq ?_|refine aw_region tab_ok _ rfl ?_|refine aw_drawn2 tabS_ok _ rfl mixed (by decide +kernel) ?_|refine aw_condT rfl ?_|refine aw_condF rfl ?_|refine aw_block ?_|refine aw_exit ?_|refine aw_ret ?_|refine aw_skip ?_|rw[ah3]|rw[mn_norm]|rw[mx_norm]
 exact hq.out):p:=h ⟨k⟩
def iB:Option (Val):=some (⟨(0:Int),(0:Int),ByteArray.empty⟩:Val)
theorem cQ {r:Val}(H:iB=some r):PTz 149 [] (.val (.agg (cV r))):=by
 unfold iB at H;refine po_ func149 ntmps149 ?_
 cases H;exact ao
def qF (S0:ByteArray):(Int)->Option (Step (Int) (Bool)):=λs=>match s with
 |v_1=>bif v_1<(S0.size:Int)then(NE S0 v_1).bind λWi=>bif (Wi.toNat:Int)<(32:Int)then some (.ret false)else
 bif (126:Int)<(Wi.toNat:Int)then some (.ret false)else
 some (.next (IntKind.i64.wrap (v_1+(1:Int))))else
 some (.exit v_1)
def cR:Sum (Int) (Bool)->Option ((Bool))
 |.inl v_1=>some true
 |.inr q=>some q
def lW (S0:ByteArray):Option (Bool):=(af (qF S0) fuel (0:Int)).bind (cR)
theorem zY {S0:ByteArray}{r:Bool}(H:lW S0=some r):PTz 200 [.one (.str S0)] (.val (.one (.bool r))):=by
 unfold lW at H;refine po_ func200 ntmps200 ?_
 repeat' (first|refine gs5_ ?_|refine b_ rfl rfl rfl rfl rfl rfl rfl ?_)
 refine alM_ (λs:Int=>match s with|v_1=>[(0,.one (.c (.str S0))),(5,.one (.c (.int .i64 (S0.size:Int)))),(6,.one (.c (.int .i64 v_1)))]) (λs=>match s with|v_1=>[]) H (λ_=>aia _)
  (fm_ bg [] rfl aQ trivial) ?_
 rintro v_1 Qr OZ Po;unfold qF at OZ;dsimp only at OZ ⊢;obtain⟨PP,OZ⟩|⟨PP,OZ⟩:=ae OZ
 .obtain⟨Wi,i1,OZ⟩:=bd_ OZ
  obtain⟨QV,i1⟩:=Ee i1;obtain⟨P1,OZ⟩|⟨P1,OZ⟩:=ae OZ
  .cases OZ
   have O0:cR (.inr false)=some _:=Po;unfold cR at O0;dsimp only at O0
   cases O0
   repeat' (first|refine gs5_ ?_|refine b_ rfl rfl rfl rfl rfl rfl rfl ?_)
   refine az (aE rfl ?_ ?_)
   .repeat' (first|exact t7|rfl|exact ah1 rfl|omega|apply And.intro)
   .first|rfl|(simp only[ah4,ah2,ah6,ahW]<;>rfl)
  obtain⟨Qu,OZ⟩|⟨Qu,OZ⟩:=ae OZ
  .cases OZ
   have O0:cR (.inr false)=some _:=Po;unfold cR at O0;dsimp only at O0
   cases O0
   repeat' (first|refine gs5_ ?_|refine b_ rfl rfl rfl rfl rfl rfl rfl ?_)
   refine az (aE rfl ?_ ?_)
   .repeat' (first|exact t7|rfl|exact ah1 rfl|omega|apply And.intro)
   .first|rfl|(simp only[ah4,ah2,ah6,ahW]<;>rfl)
  cases OZ
  repeat' (first|refine gs5_ ?_|refine b_ rfl rfl rfl rfl rfl rfl rfl ?_)
  exact⟨_,rfl,fm_ bg [] rfl aQ trivial⟩
 cases OZ;have O0:cR (.inl v_1)=some _:=Po;unfold cR at O0;dsimp only at O0
 cases O0
 repeat' (first|refine gs5_ ?_|refine b_ rfl rfl rfl rfl rfl rfl rfl ?_)
 refine az (aE rfl ?_ ?_)
 .repeat' (first|exact t7|rfl|exact ah1 rfl|omega|apply And.intro)
 .first|rfl|(simp only[ah4,ah2,ah6,ahW]<;>rfl)
def jN (P3:Val):Option (Bool):=bif P3.kind=(0:Int)then bif P3.int=(0:Int)then some (P3.text.toList==(⟨#[]⟩:ByteArray).toList)else
 some false else
 bif P3.kind=(1:Int)then bif (P3.text.toList==(⟨#[]⟩:ByteArray).toList)then bif (-1125899906842624:Int)<=P3.int then some (decide (P3.int<=(1125899906842624:Int)))else
 some false else
 some false else
 bif P3.kind=(2:Int)then bif P3.int=(0:Int)then bif (P3.text.size:Int)<=(200:Int)then(lW P3.text).bind λQ4=>some Q4 else
 some false else
 some false else
 bif P3.kind=(3:Int)then bif (P3.text.toList==(⟨#[]⟩:ByteArray).toList)then bif P3.int=(0:Int)then some true else
 some (decide (P3.int=(1:Int)))else
 some false else
 some false
theorem n_ {P3:Val}{r:Bool}(H:jN P3=some r):PTz 148 [.agg (cV P3)] (.val (.one (.bool r))):=by
 unfold jN at H;refine po_ func148 ntmps148 ?_;obtain⟨PT,H⟩|⟨PT,H⟩:=ae H
 .obtain⟨PP,H⟩|⟨PP,H⟩:=ae H
  .cases H
   exact ao
  cases H;exact ao
 obtain⟨PG,H⟩|⟨PG,H⟩:=ae H
 .obtain⟨P1,H⟩|⟨P1,H⟩:=ae H
  .obtain⟨Qu,H⟩|⟨Qu,H⟩:=ae H
   .cases H
    exact ao
   cases H;exact ao
  cases H;exact ao
 obtain⟨Qb,H⟩|⟨Qb,H⟩:=ae H
 .obtain⟨QX,H⟩|⟨QX,H⟩:=ae H
  .obtain⟨Qw,H⟩|⟨Qw,H⟩:=ae H
   .obtain⟨Q4,c1,H⟩:=bd_ H
    replace c1:=zY c1
    cases H;exact ao
   cases H;exact ao
  cases H;exact ao
 obtain⟨P6,H⟩|⟨P6,H⟩:=ae H
 .obtain⟨Qo,H⟩|⟨Qo,H⟩:=ae H
  .obtain⟨Qj,H⟩|⟨Qj,H⟩:=ae H
   .cases H
    exact ao
   cases H;exact ao
  cases H;exact ao
 cases H;exact ao
def nH (P3:Val):Option (Val):=(jN P3).bind λPh=>bif (!Ph)then(iB ).bind λQm=>some Qm else
 some P3
theorem Bt {P3:Val}{r:Val}(H:nH P3=some r):PTz 104 [.agg (cV P3)] (.val (.agg (cV r))):=by
 unfold nH at H;refine po_ func104 ntmps104 ?_;obtain⟨Ph,c1,H⟩:=bd_ H;replace c1:=n_ c1;obtain⟨PP,H⟩|⟨PP,H⟩:=ae H
 .obtain⟨Qm,c2,H⟩:=bd_ H
  replace c2:=cQ c2
  cases H;exact ao
 cases H;exact ao
def jy (QC:Int):Option (Val):=(nH (⟨(1:Int),QC,ByteArray.empty⟩:Val)).bind λPh=>some Ph
theorem fU {QC:Int}{r:Val}(H:jy QC=some r):PTz 79 [.one (.int .i64 QC)] (.val (.agg (cV r))):=by
 unfold jy at H;refine po_ func79 ntmps79 ?_;obtain⟨Ph,c1,H⟩:=bd_ H;replace c1:=Bt c1
 cases H;exact ao
def wj (S0:ByteArray):Option (Val):=(nH (⟨(2:Int),(0:Int),S0⟩:Val)).bind λPh=>some Ph
theorem Nw {S0:ByteArray}{r:Val}(H:wj S0=some r):PTz 254 [.one (.str S0)] (.val (.agg (cV r))):=by
 unfold wj at H;refine po_ func254 ntmps254 ?_;obtain⟨Ph,c1,H⟩:=bd_ H;replace c1:=Bt c1
 cases H;exact ao
def qB (O4:Bool):Option (Val):=bif O4 then some (⟨(3:Int),(1:Int),ByteArray.empty⟩:Val)else
 some (⟨(3:Int),(0:Int),ByteArray.empty⟩:Val)
theorem mY {O4:Bool}{r:Val}(H:qB O4=some r):PTz 210 [.one (.bool O4)] (.val (.agg (cV r))):=by
 unfold qB at H;refine po_ func210 ntmps210 ?_;obtain⟨PT,H⟩|⟨PT,H⟩:=ae H
 .cases H
  exact ao
 cases H;exact ao
def gPV (O3:dV):Option (Bool):=bif (0:Int)<=O3.lo then bif O3.lo<O3.hi then some (decide (O3.hi<=(1099511627776:Int)))else
 some false else
 some false
theorem JP {O3:dV}{r:Bool}(H:gPV O3=some r):PTz 43 [.agg (mb O3)] (.val (.one (.bool r))):=by
 unfold gPV at H;refine po_ func43 ntmps43 ?_;obtain⟨PT,H⟩|⟨PT,H⟩:=ae H
 .obtain⟨PP,H⟩|⟨PP,H⟩:=ae H
  .cases H
   exact ao
  cases H;exact ao
 cases H;exact ao
section
variable {P:Program} {ti:TI} {N:Nat} {ds:List (Option Tmp)} {K:Tm->List Ob->Prop} {rest:List Oper} {o:Oper} {T:Tm} {L:List Ob}
theorem KC {a b:List SV}(h:b.length=a.length):splice a 0 b=b:=by
 unfold splice;rw[List.take_zero,ahW,aiw,List.drop_of_length_le m0,aio]
theorem x8 {α:Type}{PX:α->List AC}{X:List α}{v:α}{t:TypeId}{p q:Operand}{id O9 i k:Nat}(hd:o.dst=none)(hg:fN ds T o.guard=some true)(ho:o.op = .store t p q)(hp:look T p=some (.one (.ep id O9 i 0)))(hL:L[id]?=some (.row O9 ((X.map PX).map (List.map SV.c)) k))(hx:i<X.length)
  (hq:(look T q).bind AV.cells=some ((PX v).map SV.c)) (hk:∀ x,(PX x).length=k) (Qf:ti.size t=some k) (h:aK P ti N ds K rest T (L.set id (.row O9 (((X.set i v).map PX).map (List.map SV.c)) k))):aK P ti N ds K (o::rest) T L:=by
 obtain⟨x,hx⟩:=gol_ hx;have hl:((PX v).map SV.c).length=((PX x).map SV.c).length:=by rw[ah3,ah3,hk,hk]
 have he:((X.map PX).map (List.map SV.c))[i]?=some ((PX x).map SV.c):=by rw[aic,aic,hx];rfl
 refine pu hd hg ho hp hq hL he ⟨by rw[aiw,hl];exact ah7 _,by rw[ah3,hk];exact Qf⟩ ?_ h;rw[KC hl,List.map_set,List.map_set]
end
theorem iZ {α:Type}(n v k:Nat)(PX:α->List AC)(X:List α):(Ob.row v ((X.map PX).map (List.map SV.c)) k).below n:=by
 intro e he x hx;rw[List.map_map]at he;obtain⟨y,_,rfl⟩:=aip.1 he;obtain⟨z,_,rfl⟩:=aip.1 hx;trivial
