/- Parts of the proof, joined. No condition. -/
import Derived.Test.YtlcceppoloaecaaGreatDoorKAA
import Derived.Test.YtlcceppoloaecaaGreatDoorKAI
set_option linter.unusedSimpArgs false
set_option linter.unusedVariables false
namespace Go.Proofs.YtlcceppoloaecaaGreatDoor
open Go.RowKit Go.MapKept
set_option maxRecDepth 100000
set_option maxHeartbeats 8000000
def lX (x y:Int):Int:=if x<y then -1 else if y<x then 1 else 0
def Ac (v w:Val):Int:=if lX v.kind w.kind≠0 then lX v.kind w.kind else if lX v.int w.int≠0 then lX v.int w.int else Ab v.text w.text
def cO:List Val->List Val->Int
 | [],[]=>0
 | [],_::_ => -1
 | _::_,[]=>1
 | a::xs,b::ys=>if Ac a b≠0 then Ac a b else cO xs ys
def dM (l:List Val):AC := .lst (l.map cV)
theorem aea (a b:ByteArray):Pure Tryz.prog 249 [.one (.str a), .one (.str b)] (.val (.one (.int .i64 (Ab a b)))):=(oz Hd 8).1 _ _ _ (by kernel_rfl)
def Pt (a_x:Int):Option (Bool):=some (decide (a_x≠a_x))
theorem SI {a_x:Int} {r:Bool} (H:Pt a_x=some r):Pure Tryz.prog 82 [.one (.int .i64 a_x)] (.val (.one (.bool r))):=by
 unfold Pt at H
 refine po_ Tryz.func82 Tryz.ntmps82 ?_
 cases H
 exact aK
def Tu (a_x:Int) (a_y:Int):Option (Int):=(Pt a_x).bind fun r_1=>(Pt a_y).bind fun r_2=>bif r_1 then bif r_2 then some (0:Int) else
 some (-1:Int) else
 bif r_2 then some (1:Int) else
 bif (decide (a_x<a_y)) then some (-1:Int) else
 bif (decide (a_y<a_x)) then some (1:Int) else
 some (0:Int)
theorem WO {a_x:Int} {a_y:Int} {r:Int} (H:Tu a_x a_y=some r):Pure Tryz.prog 41 [.one (.int .i64 a_x), .one (.int .i64 a_y)] (.val (.one (.int .i64 r))):=by
 unfold Tu at H
 refine po_ Tryz.func41 Tryz.ntmps41 ?_
 obtain ⟨r_1,c1,H⟩:=bd_ H
 replace c1:=SI c1
 obtain ⟨r_2,c2,H⟩:=bd_ H
 replace c2:=SI c2
 rcases af H with ⟨q_3,H⟩|⟨q_3,H⟩
 ·rcases af H with ⟨q_4,H⟩|⟨q_4,H⟩
  ·cases H
   exact aK
  cases H
  exact aK
 rcases af H with ⟨q_5,H⟩|⟨q_5,H⟩
 ·cases H
  exact aK
 rcases af H with ⟨q_6,H⟩|⟨q_6,H⟩
 ·cases H
  exact aK
 rcases af H with ⟨q_7,H⟩|⟨q_7,H⟩
 ·cases H
  exact aK
 cases H
 exact aK
def UQ (a_vals:(List Int)):(Int)->Option (Step (Int) (Int)):=fun s=>match s with
 | v_1=>bif (decide (v_1<((a_vals.length:Nat):Int))) then (aT a_vals v_1).bind fun x_3=>bif (decide (x_3≠(0:Int))) then some (.ret x_3) else
 some (.next (IntKind.i64.wrap (v_1+(1:Int)))) else
 some (.exit v_1)
def ym:Sum (Int) (Int)->Option ((Int))
 | .inl v_1=>some (0:Int)
 | .inr q=>some q
def gOr (a_vals:(List Int)):Option (Int):=(az (UQ a_vals) fuel (0:Int)).bind (ym)
theorem alG {a_vals:(List Int)} {r:Int} (H:gOr a_vals=some r):Pure Tryz.prog 206 [.one (.lst (a_vals.map (fun x=>[AC.int .i64 x])))] (.val (.one (.int .i64 r))):=by
 unfold gOr at H
 refine po_ Tryz.func206 Tryz.ntmps206 ?_
 refine bz ?_
 refine alM_ (fun s:Int=>match s with|v_1=>[(3, .one (.c (.int .i64 (0:Int)))),(6, .one (.c (.lst (a_vals.map (fun x=>[AC.int .i64 x]))))),(7, .one (.c (.int .i64 ((a_vals.length:Nat):Int)))),(8, .one (.c (.int .i64 v_1)))]) (fun s=>match s with|v_1=>[]) H (fun _=>aqj _)
  (fm_ bY [] rfl bA trivial) ?_
 rintro v_1 st1 hb1 hk1
 unfold UQ at hb1
 dsimp only at hb1 ⊢
 rcases af hb1 with ⟨q_2,hb1⟩|⟨q_2,hb1⟩
 ·obtain ⟨x_3,i1z,i1,i1x,hb1⟩:=bn (f:=(fun x=>[AC.int .i64 x])) hb1
  rcases af hb1 with ⟨q_4,hb1⟩|⟨q_4,hb1⟩
  ·cases hb1
   have hx1:ym (.inr x_3)=some _:=hk1
   unfold ym at hx1
   dsimp only at hx1
   cases hx1
   exact aK
  cases hb1
  refine bz ?_
  exact ⟨_,rfl,fm_ bY [] rfl bA trivial⟩
 cases hb1
 have hx1:ym (.inl v_1)=some _:=hk1
 unfold ym at hx1
 dsimp only at hx1
 cases hx1
 exact aK
def Bc (a_a:Val) (a_b:Val):Option (Int):=(Tu a_a.kind a_b.kind).bind fun r_1=>(Tu a_a.int a_b.int).bind fun r_2=>(gOr [r_1,r_2,(Ab a_a.text a_b.text)]).bind fun r_4=>some r_4
theorem Ou {a_a:Val} {a_b:Val} {r:Int} (H:Bc a_a a_b=some r):Pure Tryz.prog 232 [.agg (cV a_a), .agg (cV a_b)] (.val (.one (.int .i64 r))):=by
 unfold Bc at H
 refine po_ Tryz.func232 Tryz.ntmps232 ?_
 obtain ⟨r_1,c1,H⟩:=bd_ H
 replace c1:=WO c1
 obtain ⟨r_2,c2,H⟩:=bd_ H
 replace c2:=WO c2
 have hc_3:=aea a_a.text a_b.text
 try simp only [aqb,ap',aqd,ap5,aL] at hc_3
 obtain ⟨r_4,c3,H⟩:=bd_ H
 replace c3:=alG c3
 try simp only [aqb,ap',aqd,ap5,aL] at c3
 cases H
 exact aK
def og (a_s1:(List Val)) (a_s2:(List Val)) (a_cmp:Val->Val->Option (Int)):(Int)->Option (Step (Int) (Int)):=fun s=>match s with
 | v_1=>bif (decide (v_1<((a_s1.length:Nat):Int))) then (aT a_s1 v_1).bind fun x_3=>bif (decide (((a_s2.length:Nat):Int)<=v_1)) then some (.ret (1:Int)) else
 (aT a_s2 v_1).bind fun x_5=>(a_cmp x_3 x_5).bind fun r_6=>bif (decide (r_6≠(0:Int))) then some (.ret r_6) else
 some (.next (IntKind.i64.wrap (v_1+(1:Int)))) else
 some (.exit v_1)
def iL (a_s1:(List Val)) (a_s2:(List Val)):Sum (Int) (Int)->Option ((Int))
 | .inl v_1=>bif (decide (((a_s1.length:Nat):Int)<((a_s2.length:Nat):Int))) then some (-1:Int) else
 some (0:Int)
 | .inr q=>some q
def UF (a_s1:(List Val)) (a_s2:(List Val)) (a_cmp:Val->Val->Option (Int)):Option (Int):=(az (og a_s1 a_s2 a_cmp) fuel (0:Int)).bind (iL a_s1 a_s2)
theorem aeO {a_s1:(List Val)} {a_s2:(List Val)} {a_cmp:Val->Val->Option (Int)} {r:Int} {F_a_cmp:FuncId} {caps_a_cmp:List AC} (hf_a_cmp : ∀ (y0:Val) (y1:Val) (r:Int),a_cmp y0 y1=some r->Pure Tryz.prog F_a_cmp ([.agg (cV y0), .agg (cV y1)]++caps_a_cmp.map .one) (.val (.one (.int .i64 r)))) (H:UF a_s1 a_s2 a_cmp=some r):Pure Tryz.prog 255 [.one (.lst (a_s1.map cV)), .one (.lst (a_s2.map cV)), .one (.fn F_a_cmp caps_a_cmp)] (.val (.one (.int .i64 r))):=by
 unfold UF at H
 refine po_ Tryz.func255 Tryz.ntmps255 ?_
 refine bz ?_
 refine alM_ (fun s:Int=>match s with|v_1=>[(0, .one (.c (.lst (a_s1.map cV)))),(1, .one (.c (.lst (a_s2.map cV)))),(2, .one (.c (.fn F_a_cmp caps_a_cmp))),(11, .one (.c (.lst (a_s1.map cV)))),(12, .one (.c (.int .i64 ((a_s1.length:Nat):Int)))),(13, .one (.c (.int .i64 v_1)))]) (fun s=>match s with|v_1=>[]) H (fun _=>aqj _)
  (fm_ bY [] rfl bA trivial) ?_
 rintro v_1 st1 hb1 hk1
 unfold og at hb1
 dsimp only at hb1 ⊢
 rcases af hb1 with ⟨q_2,hb1⟩|⟨q_2,hb1⟩
 ·obtain ⟨x_3,i1z,i1,i1x,hb1⟩:=bn (f:=cV) hb1
  rcases af hb1 with ⟨q_4,hb1⟩|⟨q_4,hb1⟩
  ·cases hb1
   have hx1:iL a_s1 a_s2 (.inr (1:Int))=some _:=hk1
   unfold iL at hx1
   dsimp only at hx1
   cases hx1
   exact aK
  obtain ⟨x_5,i2z,i2,i2x,hb1⟩:=bn (f:=cV) hb1
  obtain ⟨r_6,c3,hb1⟩:=bd_ hb1
  replace c3:=hf_a_cmp _ _ _ c3
  try simp only [aqb,ap',aqd,ap5,aL] at c3
  rcases af hb1 with ⟨q_7,hb1⟩|⟨q_7,hb1⟩
  ·cases hb1
   have hx1:iL a_s1 a_s2 (.inr r_6)=some _:=hk1
   unfold iL at hx1
   dsimp only at hx1
   cases hx1
   exact aK
  cases hb1
  refine bz ?_
  exact ⟨_,rfl,fm_ bY [_,_] rfl bA trivial⟩
 cases hb1
 have hx1:iL a_s1 a_s2 (.inl v_1)=some _:=hk1
 unfold iL at hx1
 dsimp only at hx1
 rcases af hx1 with ⟨q_8,hx1⟩|⟨q_8,hx1⟩
 ·cases hx1
  exact aK
 cases hx1
 exact aK
def Y6 (a_a:(List Val)) (a_b:(List Val)):Option (Int):=(UF a_a a_b (fun x0 x1=>Bc x0 x1)).bind fun r_1=>some r_1
theorem agC {a_a:(List Val)} {a_b:(List Val)} {r:Int} (H:Y6 a_a a_b=some r):Pure Tryz.prog 240 [.one (.lst (a_a.map cV)), .one (.lst (a_b.map cV))] (.val (.one (.int .i64 r))):=by
 unfold Y6 at H
 refine po_ Tryz.func240 Tryz.ntmps240 ?_
 obtain ⟨r_1,c1,H⟩:=bd_ H
 replace c1:=aeO (F_a_cmp:=232) (caps_a_cmp:=[]) (fun x0 x1 r h=>Ou h) c1
 try simp only [aqb,ap',aqd,ap5,aL] at c1
 cases H
 exact aK
def adm (s:ByteArray) (i:Int):Option UInt8:=if 0<=i then s[i.toNat]? else none
theorem Sa {s:ByteArray} {i:Int} {x:UInt8} (h:adm s i=some x):0<=i/\s[i.toNat]?=some x:=by
 unfold adm at h
 by_cases h0:0<=i
 ·rw [if_pos h0] at h;exact ⟨h0,h⟩
 ·rw [if_neg h0] at h;cases h
section
variable {P:Program} {ti:TI} {N n0:Nat} {ds:List (Option Tmp)} {K:Tm->List Ob->Prop} {rest:List Oper} {o:Oper} {T:Tm} {L:List Ob}
theorem b_ {t:TypeId} {x ix:Operand} {s:ByteArray} {k0:IntKind} {i:Int} {b:UInt8} {d:Nat} (hd:o.dst=some d) (hN:Nat.blt d N=true) {g0:Bool} (hg:kH ds T o.guard=some g0) (ho:o.op = .index t x ix) (hx:look T x=some (.one (.c (.str s)))) (hi:look T ix=some (.one (.c (.int k0 i))))
  (hk:ti.kind t=some .string) (h:aX P ti N ds K rest ((d, .one (.c (.int .u8 ((b.toNat:Nat):Int))))::T) L) (hb:s[i.toNat]?=some b:=by assumption) (h0:0<=i:=by assumption) (hg1:g0=true:=by first|rfl|exact nX (by first|assumption|exact pz (by assumption))|exact oh (by first|assumption|exact o8 (by assumption))):aX P ti N ds K (o::rest) T L :=
 aM (φ:=0<=i/\ti.kind t=some .string) hd hN (hg1▸hg) (by rw [ho];simp only [pop,hx,hi,r9,hb]) ⟨h0,hk⟩ h
theorem t5_ {v:AV} {φ:Prop} {d:Nat} (hd:o.dst=some d) (hN:Nat.blt d N=true) {g0:Bool} (hg:kH ds T o.guard=some g0) (hp:DU ti (look T) o.op=some (v,φ)) (h:aX P ti N ds K rest ((d,v)::T) L)
  (hφ:φ:=by repeat' (first|exact trivial|rfl|exact ap_ rfl|omega|refine aqT.2 ⟨?_,?_⟩|exact fun _ h=>nomatch h|apply And.intro)) (hg1:g0=true:=by first|rfl|exact nX (by first|assumption|exact pz (by assumption))|exact oh (by first|assumption|exact o8 (by assumption))):aX P ti N ds K (o::rest) T L:=aO hd hN (hg1▸hg) hp hφ h
end
theorem gs5_ {p q:Prop} (k:q) (h:Bx q->p:=by
 intro hq
 first|refine p_ rfl rfl rfl rfl rfl ?_|refine st_nil ?_|refine x_ rfl rfl rfl rfl rfl rfl rfl rfl ?_|refine l_ rfl rfl rfl rfl ?_|refine s_ rfl rfl rfl ?_|refine t5_ rfl rfl rfl rfl ?_|refine k_ rfl rfl rfl ?_|refine k0_ rfl rfl ?_|refine c_ rfl rfl rfl rfl ?_|refine pick_t rfl rfl rfl rfl rfl rfl rfl ?_|refine pick_f rfl rfl rfl rfl rfl rfl rfl ?_|refine aw_seq ?_|refine aw_region tab_ok _ rfl ?_|refine aw_drawn2 tabS_ok _ rfl mixed (by decide +kernel) ?_|refine aw_condT rfl ?_|refine aw_condF rfl ?_|refine aw_block ?_|refine aw_exit ?_|refine aw_ret ?_|refine aw_skip ?_|rw [aqa]|rw [mn_norm]|rw [mx_norm]
 exact hq.out):p:=h ⟨k⟩
end Go.Proofs.YtlcceppoloaecaaGreatDoor
