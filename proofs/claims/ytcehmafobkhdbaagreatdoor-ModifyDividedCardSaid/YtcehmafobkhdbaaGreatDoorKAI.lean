/- Parts of the proof, joined. No condition. -/
import Derived.Test.YtcehmafobkhdbaaGreatDoorKAH
set_option linter.unusedSimpArgs false
set_option linter.unusedVariables false
namespace Go.Proofs.YtcehmafobkhdbaaGreatDoor
open Go.RowKit Go.MapKept
def W_ (s:ByteArray) (i:Int):Option UInt8:=if 0<=i then s[i.toNat]? else none
theorem Nc {s:ByteArray} {i:Int} {x:UInt8} (h:W_ s i=some x):0<=i/\s[i.toNat]?=some x:=by
 unfold W_ at h
 by_cases h0:0<=i
 ·rw [if_pos h0] at h;exact ⟨h0,h⟩
 ·rw [if_neg h0] at h;cases h
section
variable {P:Program} {ti:TI} {N n0:Nat} {ds:List (Option Tmp)} {K:Tm->List Ob->Prop} {rest:List Oper} {o:Oper} {T:Tm} {L:List Ob}
theorem b_ {t:TypeId} {x ix:Operand} {s:ByteArray} {k0:IntKind} {i:Int} {b:UInt8} {d:Nat} (hd:o.dst=some d) (hN:Nat.blt d N=true) {g0:Bool} (hg:kJ ds T o.guard=some g0) (ho:o.op = .index t x ix) (hx:look T x=some (.one (.c (.str s)))) (hi:look T ix=some (.one (.c (.int k0 i))))
  (hk:ti.kind t=some .string) (h:aQ P ti N ds K rest ((d, .one (.c (.int .u8 ((b.toNat:Nat):Int))))::T) L) (hb:s[i.toNat]?=some b:=by assumption) (h0:0<=i:=by assumption) (hg1:g0=true:=by first|rfl|exact nU (by first|assumption|exact oD (by assumption))|exact nH (by first|assumption|exact oF (by assumption))):aQ P ti N ds K (o::rest) T L :=
 aZ (φ:=0<=i/\ti.kind t=some .string) hd hN (hg1▸hg) (by rw [ho];simp only [pop,hx,hi,rE,hb]) ⟨h0,hk⟩ h
theorem t5_ {v:AV} {φ:Prop} {d:Nat} (hd:o.dst=some d) (hN:Nat.blt d N=true) {g0:Bool} (hg:kJ ds T o.guard=some g0) (hp:AQ ti (look T) o.op=some (v,φ)) (h:aQ P ti N ds K rest ((d,v)::T) L)
  (hφ:φ:=by repeat' (first|exact trivial|rfl|exact ag5 rfl|omega|refine ahN.2 ⟨?_,?_⟩|exact fun _ h=>nomatch h|apply And.intro)) (hg1:g0=true:=by first|rfl|exact nU (by first|assumption|exact oD (by assumption))|exact nH (by first|assumption|exact oF (by assumption))):aQ P ti N ds K (o::rest) T L:=bn hd hN (hg1▸hg) hp hφ h
end
theorem gs5_ {p q:Prop} (k:q) (h:Bx q->p:=by
 intro hq
 first|refine p_ rfl rfl rfl rfl rfl ?_|refine st_nil ?_|refine x_ rfl rfl rfl rfl rfl rfl rfl rfl ?_|refine l_ rfl rfl rfl rfl ?_|refine s_ rfl rfl rfl ?_|refine t5_ rfl rfl rfl rfl ?_|refine k_ rfl rfl rfl ?_|refine k0_ rfl rfl ?_|refine c_ rfl rfl rfl rfl ?_|refine pick_t rfl rfl rfl rfl rfl rfl rfl ?_|refine pick_f rfl rfl rfl rfl rfl rfl rfl ?_|refine aw_seq ?_|refine aw_region tab_ok _ rfl ?_|refine aw_drawn2 tabS_ok _ rfl mixed (by decide +kernel) ?_|refine aw_condT rfl ?_|refine aw_condF rfl ?_|refine aw_block ?_|refine aw_exit ?_|refine aw_ret ?_|refine aw_skip ?_|rw [ag7]|rw [mn_norm]|rw [mx_norm]
 exact hq.out):p:=h ⟨k⟩
set_option maxRecDepth 100000
set_option maxHeartbeats 8000000
def oM:Option (Val):=some (⟨(0:Int),(0:Int),ByteArray.empty⟩:Val)
theorem gu {r:Val} (H:oM=some r):Pure Tryz.prog 78 [] (.val (.agg (cV r))):=by
 unfold oM at H
 refine po_ Tryz.func78 Tryz.ntmps78 ?_
 cases H
 exact aD
def zw (a_s:ByteArray):(Int)->Option (Step (Int) (Bool)):=fun s=>match s with
 | v_1=>bif (decide (v_1<((a_s.size:Nat):Int))) then (W_ a_s v_1).bind fun b_3=>bif (decide (((b_3.toNat:Nat):Int)<(32:Int))) then some (.ret false) else
 bif (decide ((126:Int)<((b_3.toNat:Nat):Int))) then some (.ret false) else
 some (.next (IntKind.i64.wrap (v_1+(1:Int)))) else
 some (.exit v_1)
def fI:Sum (Int) (Bool)->Option ((Bool))
 | .inl v_1=>some true
 | .inr q=>some q
def r9 (a_s:ByteArray):Option (Bool):=(ax (zw a_s) fuel (0:Int)).bind (fI)
theorem I5 {a_s:ByteArray} {r:Bool} (H:r9 a_s=some r):Pure Tryz.prog 163 [.one (.str a_s)] (.val (.one (.bool r))):=by
 unfold r9 at H
 refine po_ Tryz.func163 Tryz.ntmps163 ?_
 repeat' (first|refine gs5_ ?_|refine b_ rfl rfl rfl rfl rfl rfl rfl ?_)
 refine alM_ (fun s:Int=>match s with|v_1=>[(0, .one (.c (.str a_s))),(5, .one (.c (.int .i64 ((a_s.size:Nat):Int)))),(6, .one (.c (.int .i64 v_1)))]) (fun s=>match s with|v_1=>[]) H (fun _=>ahe _)
  (fm_ dh [] rfl bH trivial) ?_
 rintro v_1 st1 hb1 hk1
 unfold zw at hb1
 dsimp only at hb1 ⊢
 rcases af hb1 with ⟨q_2,hb1⟩|⟨q_2,hb1⟩
 ·obtain ⟨b_3,i1,hb1⟩:=bd_ hb1
  obtain ⟨i1z,i1⟩:=Nc i1
  rcases af hb1 with ⟨q_4,hb1⟩|⟨q_4,hb1⟩
  ·cases hb1
   have hx1:fI (.inr false)=some _:=hk1
   unfold fI at hx1
   dsimp only at hx1
   cases hx1
   repeat' (first|refine gs5_ ?_|refine b_ rfl rfl rfl rfl rfl rfl rfl ?_)
   refine bO (bZ rfl ?_ ?_)
   ·repeat' (first|exact trivial|rfl|exact ag5 rfl|omega|apply And.intro)
   ·first|rfl|(simp only [ag8,ag6,ag_,ag0]<;>rfl)
  rcases af hb1 with ⟨q_5,hb1⟩|⟨q_5,hb1⟩
  ·cases hb1
   have hx1:fI (.inr false)=some _:=hk1
   unfold fI at hx1
   dsimp only at hx1
   cases hx1
   repeat' (first|refine gs5_ ?_|refine b_ rfl rfl rfl rfl rfl rfl rfl ?_)
   refine bO (bZ rfl ?_ ?_)
   ·repeat' (first|exact trivial|rfl|exact ag5 rfl|omega|apply And.intro)
   ·first|rfl|(simp only [ag8,ag6,ag_,ag0]<;>rfl)
  cases hb1
  repeat' (first|refine gs5_ ?_|refine b_ rfl rfl rfl rfl rfl rfl rfl ?_)
  exact ⟨_,rfl,fm_ dh [] rfl bH trivial⟩
 cases hb1
 have hx1:fI (.inl v_1)=some _:=hk1
 unfold fI at hx1
 dsimp only at hx1
 cases hx1
 repeat' (first|refine gs5_ ?_|refine b_ rfl rfl rfl rfl rfl rfl rfl ?_)
 refine bO (bZ rfl ?_ ?_)
 ·repeat' (first|exact trivial|rfl|exact ag5 rfl|omega|apply And.intro)
 ·first|rfl|(simp only [ag8,ag6,ag_,ag0]<;>rfl)
def wm (a_v:Val):Option (Bool):=bif (decide (a_v.kind=(0:Int))) then bif (decide (a_v.int=(0:Int))) then some (a_v.text.toList==(⟨#[]⟩:ByteArray).toList) else
 some false else
 bif (decide (a_v.kind=(1:Int))) then bif (a_v.text.toList==(⟨#[]⟩:ByteArray).toList) then bif (decide ((-1125899906842624:Int)<=a_v.int)) then some (decide (a_v.int<=(1125899906842624:Int))) else
 some false else
 some false else
 bif (decide (a_v.kind=(2:Int))) then bif (decide (a_v.int=(0:Int))) then bif (decide (((a_v.text.size:Nat):Int)<=(200:Int))) then (r9 a_v.text).bind fun r_9=>some r_9 else
 some false else
 some false else
 bif (decide (a_v.kind=(3:Int))) then bif (a_v.text.toList==(⟨#[]⟩:ByteArray).toList) then bif (decide (a_v.int=(0:Int))) then some true else
 some (decide (a_v.int=(1:Int))) else
 some false else
 some false
theorem CO {a_v:Val} {r:Bool} (H:wm a_v=some r):Pure Tryz.prog 123 [.agg (cV a_v)] (.val (.one (.bool r))):=by
 unfold wm at H
 refine po_ Tryz.func123 Tryz.ntmps123 ?_
 rcases af H with ⟨q_1,H⟩|⟨q_1,H⟩
 ·rcases af H with ⟨q_2,H⟩|⟨q_2,H⟩
  ·cases H
   exact aD
  cases H
  exact aD
 rcases af H with ⟨q_3,H⟩|⟨q_3,H⟩
 ·rcases af H with ⟨q_4,H⟩|⟨q_4,H⟩
  ·rcases af H with ⟨q_5,H⟩|⟨q_5,H⟩
   ·cases H
    exact aD
   cases H
   exact aD
  cases H
  exact aD
 rcases af H with ⟨q_6,H⟩|⟨q_6,H⟩
 ·rcases af H with ⟨q_7,H⟩|⟨q_7,H⟩
  ·rcases af H with ⟨q_8,H⟩|⟨q_8,H⟩
   ·obtain ⟨r_9,c1,H⟩:=bd_ H
    replace c1:=I5 c1
    cases H
    exact aD
   cases H
   exact aD
  cases H
  exact aD
 rcases af H with ⟨q_10,H⟩|⟨q_10,H⟩
 ·rcases af H with ⟨q_11,H⟩|⟨q_11,H⟩
  ·rcases af H with ⟨q_12,H⟩|⟨q_12,H⟩
   ·cases H
    exact aD
   cases H
   exact aD
  cases H
  exact aD
 cases H
 exact aD
def zO (a_v:Val):Option (Val):=(wm a_v).bind fun r_1=>bif (!r_1) then (oM ).bind fun r_3=>some r_3 else
 some a_v
theorem IW {a_v:Val} {r:Val} (H:zO a_v=some r):Pure Tryz.prog 166 [.agg (cV a_v)] (.val (.agg (cV r))):=by
 unfold zO at H
 refine po_ Tryz.func166 Tryz.ntmps166 ?_
 obtain ⟨r_1,c1,H⟩:=bd_ H
 replace c1:=CO c1
 rcases af H with ⟨q_2,H⟩|⟨q_2,H⟩
 ·obtain ⟨r_3,c2,H⟩:=bd_ H
  replace c2:=gu c2
  cases H
  exact aD
 cases H
 exact aD
def sW (a_n:Int):Option (Val):=(zO (⟨(1:Int),a_n,ByteArray.empty⟩:Val)).bind fun r_1=>some r_1
theorem oP {a_n:Int} {r:Val} (H:sW a_n=some r):Pure Tryz.prog 130 [.one (.int .i64 a_n)] (.val (.agg (cV r))):=by
 unfold sW at H
 refine po_ Tryz.func130 Tryz.ntmps130 ?_
 obtain ⟨r_1,c1,H⟩:=bd_ H
 replace c1:=IW c1
 cases H
 exact aD
def Fe (a_s:ByteArray):Option (Val):=(zO (⟨(2:Int),(0:Int),a_s⟩:Val)).bind fun r_1=>some r_1
theorem X_ {a_s:ByteArray} {r:Val} (H:Fe a_s=some r):Pure Tryz.prog 131 [.one (.str a_s)] (.val (.agg (cV r))):=by
 unfold Fe at H
 refine po_ Tryz.func131 Tryz.ntmps131 ?_
 obtain ⟨r_1,c1,H⟩:=bd_ H
 replace c1:=IW c1
 cases H
 exact aD
def yg (a_b:Bool):Option (Val):=bif a_b then some (⟨(3:Int),(1:Int),ByteArray.empty⟩:Val) else
 some (⟨(3:Int),(0:Int),ByteArray.empty⟩:Val)
theorem uM {a_b:Bool} {r:Val} (H:yg a_b=some r):Pure Tryz.prog 81 [.one (.bool a_b)] (.val (.agg (cV r))):=by
 unfold yg at H
 refine po_ Tryz.func81 Tryz.ntmps81 ?_
 rcases af H with ⟨q_1,H⟩|⟨q_1,H⟩
 ·cases H
  exact aD
 cases H
 exact aD
set_option maxHeartbeats 8000000
def UI (a_p:aI):Option (Bool):=bif (decide ((0:Int)<=a_p.lo)) then bif (decide (a_p.lo<a_p.hi)) then some (decide (a_p.hi<=(1099511627776:Int))) else
 some false else
 some false
theorem CK {a_p:aI} {r:Bool} (H:UI a_p=some r):Pure Tryz.prog 74 [.agg (bE a_p)] (.val (.one (.bool r))):=by
 unfold UI at H
 refine po_ Tryz.func74 Tryz.ntmps74 ?_
 rcases af H with ⟨q_1,H⟩|⟨q_1,H⟩
 ·rcases af H with ⟨q_2,H⟩|⟨q_2,H⟩
  ·cases H
   exact aD
  cases H
  exact aD
 cases H
 exact aD
section
variable {P:Program} {ti:TI} {N:Nat} {ds:List (Option Tmp)} {K:Tm->List Ob->Prop} {rest:List Oper} {o:Oper} {T:Tm} {L:List Ob}
theorem T_ {a b:List SV} (h:b.length=a.length):splice a 0 b=b:=by
 unfold splice
 rw [List.take_zero,ag0,ahB,List.drop_of_length_le (by omega),ahs]
theorem Hq {α:Type} {enc:α->List AC} {X:List α} {v:α} {t:TypeId} {p q:Operand} {id ver i k:Nat} (hd:o.dst=none) (hg:kJ ds T o.guard=some true) (ho:o.op = .store t p q) (hp:look T p=some (.one (.ep id ver i 0))) (hL:L[id]?=some (.row ver ((X.map enc).map (List.map SV.c)) k)) (hx:i<X.length)
  (hq:(look T q).bind AV.cells=some ((enc v).map SV.c)) (hk : ∀ x,(enc x).length=k) (hsz:ti.size t=some k) (h:aQ P ti N ds K rest T (L.set id (.row ver (((X.set i v).map enc).map (List.map SV.c)) k))):aQ P ti N ds K (o::rest) T L:=by
 obtain ⟨x,hx⟩:=gol_ hx
 have hl:((enc v).map SV.c).length=((enc x).map SV.c).length:=by rw [ag7,ag7,hk,hk]
 have he:((X.map enc).map (List.map SV.c))[i]?=some ((enc x).map SV.c):=by rw [ahg,ahg,hx];rfl
 refine FP hd hg ho hp hq hL he ⟨by rw [ahB,hl];exact ag' _,by rw [ag7,hk];exact hsz⟩ ?_ h
 rw [T_ hl,List.map_set,List.map_set]
end
theorem CE {α:Type} (n v k:Nat) (enc:α->List AC) (X:List α):(Ob.row v ((X.map enc).map (List.map SV.c)) k).below n:=by
 intro e he x hx
 rw [List.map_map] at he
 obtain ⟨y,_,rfl⟩:=aht.1 he
 obtain ⟨z,_,rfl⟩:=aht.1 hx
 trivial
set_option maxHeartbeats 8000000
def wP (a_op:Int) (a_n:Int):Option (Bool × Bool):=bif (decide (a_op=(1:Int))) then some ((decide (a_n=(0:Int))),true) else
 bif (decide (a_op=(2:Int))) then some ((decide (a_n=(0:Int))),true) else
 bif (decide (a_op=(4:Int))) then some ((decide (a_n=(1:Int))),true) else
 bif (decide (a_op=(18:Int))) then some ((decide (a_n=(1:Int))),true) else
 bif (decide (a_op=(20:Int))) then some ((decide (a_n=(1:Int))),true) else
 bif (decide (a_op=(21:Int))) then some ((decide (a_n=(1:Int))),true) else
 bif (decide (a_op=(7:Int))) then some ((decide (a_n=(2:Int))),true) else
 bif (decide (a_op=(8:Int))) then some ((decide (a_n=(2:Int))),true) else
 bif (decide (a_op=(9:Int))) then some ((decide (a_n=(2:Int))),true) else
 bif (decide (a_op=(10:Int))) then some ((decide (a_n=(2:Int))),true) else
 bif (decide (a_op=(11:Int))) then some ((decide (a_n=(2:Int))),true) else
 bif (decide (a_op=(12:Int))) then some ((decide (a_n=(2:Int))),true) else
 bif (decide (a_op=(13:Int))) then some ((decide (a_n=(2:Int))),true) else
 bif (decide (a_op=(14:Int))) then some ((decide (a_n=(2:Int))),true) else
 bif (decide (a_op=(15:Int))) then some ((decide (a_n=(2:Int))),true) else
 bif (decide (a_op=(16:Int))) then some ((decide (a_n=(2:Int))),true) else
 bif (decide (a_op=(17:Int))) then some ((decide (a_n=(2:Int))),true) else
 bif (decide (a_op=(19:Int))) then some ((decide (a_n=(2:Int))),true) else
 bif (decide (a_op=(5:Int))) then some ((decide ((2:Int)<=a_n)),true) else
 bif (decide (a_op=(6:Int))) then some ((decide ((2:Int)<=a_n)),true) else
 bif (decide (a_op=(22:Int))) then some ((decide (a_n=(3:Int))),true) else
 bif (decide (a_op=(23:Int))) then some ((decide ((1:Int)<=a_n)),true) else
 bif (decide (a_op=(24:Int))) then some ((decide (a_n=(4:Int))),true) else
 some (false,false)
theorem Ui {a_op:Int} {a_n:Int} {r:Bool × Bool} (H:wP a_op a_n=some r):Pure Tryz.prog 122 [.one (.int .i64 a_op), .one (.int .i64 a_n)] (.tup [.one (.bool r.1), .one (.bool r.2)]):=by
 unfold wP at H
 refine po_ Tryz.func122 Tryz.ntmps122 ?_
 rcases af H with ⟨q_1,H⟩|⟨q_1,H⟩
 ·cases H
  exact aD
 rcases af H with ⟨q_2,H⟩|⟨q_2,H⟩
 ·cases H
  exact aD
 refine bF ?_
 rcases af H with ⟨q_3,H⟩|⟨q_3,H⟩
 ·cases H
  exact aD
 rcases af H with ⟨q_4,H⟩|⟨q_4,H⟩
 ·cases H
  exact aD
 rcases af H with ⟨q_5,H⟩|⟨q_5,H⟩
 ·cases H
  exact aD
 refine bF ?_
 rcases af H with ⟨q_6,H⟩|⟨q_6,H⟩
 ·cases H
  exact aD
 rcases af H with ⟨q_7,H⟩|⟨q_7,H⟩
 ·cases H
  exact aD
 rcases af H with ⟨q_8,H⟩|⟨q_8,H⟩
 ·cases H
  exact aD
 refine bF ?_
 rcases af H with ⟨q_9,H⟩|⟨q_9,H⟩
 ·cases H
  exact aD
 rcases af H with ⟨q_10,H⟩|⟨q_10,H⟩
 ·cases H
  exact aD
 rcases af H with ⟨q_11,H⟩|⟨q_11,H⟩
 ·cases H
  exact aD
 refine bF ?_
 rcases af H with ⟨q_12,H⟩|⟨q_12,H⟩
 ·cases H
  exact aD
 rcases af H with ⟨q_13,H⟩|⟨q_13,H⟩
 ·cases H
  exact aD
 rcases af H with ⟨q_14,H⟩|⟨q_14,H⟩
 ·cases H
  exact aD
 refine bF ?_
 rcases af H with ⟨q_15,H⟩|⟨q_15,H⟩
 ·cases H
  exact aD
 rcases af H with ⟨q_16,H⟩|⟨q_16,H⟩
 ·cases H
  exact aD
 rcases af H with ⟨q_17,H⟩|⟨q_17,H⟩
 ·cases H
  exact aD
 refine bF ?_
 rcases af H with ⟨q_18,H⟩|⟨q_18,H⟩
 ·cases H
  exact aD
 rcases af H with ⟨q_19,H⟩|⟨q_19,H⟩
 ·cases H
  exact aD
 rcases af H with ⟨q_20,H⟩|⟨q_20,H⟩
 ·cases H
  exact aD
 refine bF ?_
 rcases af H with ⟨q_21,H⟩|⟨q_21,H⟩
 ·cases H
  exact aD
 rcases af H with ⟨q_22,H⟩|⟨q_22,H⟩
 ·cases H
  exact aD
 rcases af H with ⟨q_23,H⟩|⟨q_23,H⟩
 ·cases H
  exact aD
 cases H
 exact aD
def sH (a_e:Ex):Option (Bool):=(wP a_e.op ((a_e.args.length:Nat):Int)).bind fun r_1=>bif (!r_1.1) then some false else
 bif (!(a_e.nm.toList==(⟨#[]⟩:ByteArray).toList)) then some false else
 bif (decide (a_e.op=(1:Int))) then bif (decide (a_e.int=(0:Int))) then (wm a_e.v).bind fun r_6=>some r_6 else
 some false else
 bif (decide (a_e.op=(24:Int))) then bif (decide (a_e.int<(0:Int))) then some false else
 bif (decide ((13:Int)<=a_e.int)) then some false else
 some (dL [.c (.int .i64 a_e.v.kind), .c (.int .i64 a_e.v.int), .c (.str a_e.v.text)] [.c (.int .i64 (0:Int)), .c (.int .i64 (0:Int)), .c (.str ByteArray.empty)]) else
 bif (decide (a_e.op=(2:Int))) then some (dL [.c (.int .i64 a_e.v.kind), .c (.int .i64 a_e.v.int), .c (.str a_e.v.text)] [.c (.int .i64 (0:Int)), .c (.int .i64 (0:Int)), .c (.str ByteArray.empty)]) else
 bif (decide (a_e.int=(0:Int))) then some (dL [.c (.int .i64 a_e.v.kind), .c (.int .i64 a_e.v.int), .c (.str a_e.v.text)] [.c (.int .i64 (0:Int)), .c (.int .i64 (0:Int)), .c (.str ByteArray.empty)]) else
 some false
theorem TV {a_e:Ex} {r:Bool} (H:sH a_e=some r):Pure Tryz.prog 77 [.agg (tE a_e)] (.val (.one (.bool r))):=by
 unfold sH at H
 rw [aC a_e]
 refine po_ Tryz.func77 Tryz.ntmps77 ?_
 obtain ⟨r_1,c1,H⟩:=bd_ H
 replace c1:=Ui c1
 rcases af H with ⟨q_2,H⟩|⟨q_2,H⟩
 ·cases H
  exact aD
 rcases af H with ⟨q_3,H⟩|⟨q_3,H⟩
 ·cases H
  exact aD
 refine bF ?_
 rcases af H with ⟨q_4,H⟩|⟨q_4,H⟩
 ·rcases af H with ⟨q_5,H⟩|⟨q_5,H⟩
  ·obtain ⟨r_6,c2,H⟩:=bd_ H
   replace c2:=CO c2
   cases H
   exact aD
  cases H
  exact aD
 rcases af H with ⟨q_7,H⟩|⟨q_7,H⟩
 ·rcases af H with ⟨q_8,H⟩|⟨q_8,H⟩
  ·cases H
   exact aD
  refine bF ?_
  rcases af H with ⟨q_9,H⟩|⟨q_9,H⟩
  ·cases H
   exact aD
  cases H
  exact aD
 rcases af H with ⟨q_10,H⟩|⟨q_10,H⟩
 ·cases H
  exact aD
 refine bF ?_
 rcases af H with ⟨q_11,H⟩|⟨q_11,H⟩
 ·cases H
  exact aD
 cases H
 exact aD
set_option maxHeartbeats 8000000
def wU (a_a:Val) (a_b:Val) (a_is:Bool):Option (Int):=bif (decide (a_a.kind=(0:Int))) then some (1:Int) else
 bif (decide (a_a.kind≠a_b.kind)) then some (1:Int) else
 bif a_is then some (2:Int) else
 some (0:Int)
theorem KA {a_a:Val} {a_b:Val} {a_is:Bool} {r:Int} (H:wU a_a a_b a_is=some r):Pure Tryz.prog 167 [.agg (cV a_a), .agg (cV a_b), .one (.bool a_is)] (.val (.one (.int .i64 r))):=by
 unfold wU at H
 refine po_ Tryz.func167 Tryz.ntmps167 ?_
 rcases af H with ⟨q_1,H⟩|⟨q_1,H⟩
 ·cases H
  exact aD
 rcases af H with ⟨q_2,H⟩|⟨q_2,H⟩
 ·cases H
  exact aD
 rcases af H with ⟨q_3,H⟩|⟨q_3,H⟩
 ·cases H
  exact aD
 cases H
 exact aD
def Xf (a_a:Val) (a_b:Val):Option (Int):=(yz a_a a_b).bind fun r_1=>(wU a_a a_b (decide (r_1=(0:Int)))).bind fun r_2=>some r_2
theorem Vq {a_a:Val} {a_b:Val} {r:Int} (H:Xf a_a a_b=some r):Pure Tryz.prog 134 [.agg (cV a_a), .agg (cV a_b)] (.val (.one (.int .i64 r))):=by
 unfold Xf at H
 refine po_ Tryz.func134 Tryz.ntmps134 ?_
 obtain ⟨r_1,c1,H⟩:=bd_ H
 replace c1:=KQ c1
 obtain ⟨r_2,c2,H⟩:=bd_ H
 replace c2:=KA c2
 cases H
 exact aD
def yh (a_a:Val) (a_b:Val):Option (Int):=(yz a_a a_b).bind fun r_1=>(wU a_a a_b (decide (r_1<(0:Int)))).bind fun r_2=>some r_2
theorem Au {a_a:Val} {a_b:Val} {r:Int} (H:yh a_a a_b=some r):Pure Tryz.prog 135 [.agg (cV a_a), .agg (cV a_b)] (.val (.one (.int .i64 r))):=by
 unfold yh at H
 refine po_ Tryz.func135 Tryz.ntmps135 ?_
 obtain ⟨r_1,c1,H⟩:=bd_ H
 replace c1:=KQ c1
 obtain ⟨r_2,c2,H⟩:=bd_ H
 replace c2:=KA c2
 cases H
 exact aD
def tF (a_t:Int):Option (Int):=bif (decide (a_t≠(0:Int))) then bif (decide (a_t≠(2:Int))) then some (1:Int) else
 some a_t else
 some a_t
theorem Co {a_t:Int} {r:Int} (H:tF a_t=some r):Pure Tryz.prog 133 [.one (.int .i64 a_t)] (.val (.one (.int .i64 r))):=by
 unfold tF at H
 refine po_ Tryz.func133 Tryz.ntmps133 ?_
 rcases af H with ⟨q_1,H⟩|⟨q_1,H⟩
 ·rcases af H with ⟨q_2,H⟩|⟨q_2,H⟩
  ·cases H
   exact aD
  cases H
  exact aD
 cases H
 exact aD
def Lp (a_a:Int):Option (Int):=(tF a_a).bind fun r_1=>some (IntKind.i64.wrap ((2:Int)-r_1))
theorem wY {a_a:Int} {r:Int} (H:Lp a_a=some r):Pure Tryz.prog 125 [.one (.int .i64 a_a)] (.val (.one (.int .i64 r))):=by
 unfold Lp at H
 refine po_ Tryz.func125 Tryz.ntmps125 ?_
 obtain ⟨r_1,c1,H⟩:=bd_ H
 replace c1:=Co c1
 cases H
 exact aD
def zH (a_l:(List Int)):(Int × Int)->Option (Step (Int × Int) (Int)):=fun s=>match s with
 | (t_1,v_2)=>bif (decide (v_2<((a_l.length:Nat):Int))) then (aH a_l v_2).bind fun x_4=>(tF x_4).bind fun r_5=>some (.next ((Mg t_1 r_5),(IntKind.i64.wrap (v_2+(1:Int))))) else
 some (.exit (t_1,v_2))
def EX:Sum (Int × Int) (Int)->Option ((Int))
 | .inl (t_1,v_2)=>some t_1
 | .inr q=>some q
def Fp (a_l:(List Int)):Option (Int):=(ax (zH a_l) fuel ((2:Int),(0:Int))).bind (EX)
theorem Nf {a_l:(List Int)} {r:Int} (H:Fp a_l=some r):Pure Tryz.prog 165 [.one (.lst (a_l.map (fun x=>[AC.int .i64 x])))] (.val (.one (.int .i64 r))):=by
 unfold Fp at H
 refine po_ Tryz.func165 Tryz.ntmps165 ?_
 refine bF ?_
 refine alM_ (fun s:Int × Int=>match s with|(t_1,v_2)=>[(3, .one (.c (.int .i64 t_1))),(6, .one (.c (.lst (a_l.map (fun x=>[AC.int .i64 x]))))),(7, .one (.c (.int .i64 ((a_l.length:Nat):Int)))),(8, .one (.c (.int .i64 v_2)))]) (fun s=>match s with|(t_1,v_2)=>[]) H (fun _=>ahe _)
  (fm_ dh [] rfl bH trivial) ?_
 rintro ⟨t_1,v_2⟩ st1 hb1 hk1
 unfold zH at hb1
 dsimp only at hb1 ⊢
 rcases af hb1 with ⟨q_3,hb1⟩|⟨q_3,hb1⟩
 ·obtain ⟨x_4,i1z,i1,i1x,hb1⟩:=aY (f:=(fun x=>[AC.int .i64 x])) hb1
  obtain ⟨r_5,c2,hb1⟩:=bd_ hb1
  replace c2:=Co c2
  cases hb1
  refine bF ?_
  exact ⟨_,rfl,fm_ dh [] rfl bH trivial⟩
 cases hb1
 have hx1:EX (.inl (t_1,v_2))=some _:=hk1
 unfold EX at hx1
 dsimp only at hx1
 cases hx1
 exact aD
def UM (a_a:Int) (a_b:Int):Option (Int):=(Fp [a_a,a_b]).bind fun r_1=>some r_1
theorem abr {a_a:Int} {a_b:Int} {r:Int} (H:UM a_a a_b=some r):Pure Tryz.prog 126 [.one (.int .i64 a_a), .one (.int .i64 a_b)] (.val (.one (.int .i64 r))):=by
 unfold UM at H
 refine po_ Tryz.func126 Tryz.ntmps126 ?_
 obtain ⟨r_1,c1,H⟩:=bd_ H
 replace c1:=Nf c1
 try simp only [ag8,ag6,ag_,ag0,aC] at c1
 cases H
 exact aD
def KF (a_a:Int) (a_b:Int):Option (Int):=(Lp a_a).bind fun r_1=>(Lp a_b).bind fun r_2=>(Fp [r_1,r_2]).bind fun r_3=>(Lp r_3).bind fun r_4=>some r_4
theorem Zn {a_a:Int} {a_b:Int} {r:Int} (H:KF a_a a_b=some r):Pure Tryz.prog 127 [.one (.int .i64 a_a), .one (.int .i64 a_b)] (.val (.one (.int .i64 r))):=by
 unfold KF at H
 refine po_ Tryz.func127 Tryz.ntmps127 ?_
 obtain ⟨r_1,c1,H⟩:=bd_ H
 replace c1:=wY c1
 obtain ⟨r_2,c2,H⟩:=bd_ H
 replace c2:=wY c2
 obtain ⟨r_3,c3,H⟩:=bd_ H
 replace c3:=Nf c3
 try simp only [ag8,ag6,ag_,ag0,aC] at c3
 obtain ⟨r_4,c4,H⟩:=bd_ H
 replace c4:=wY c4
 cases H
 exact aD
def lh (a_v:Val):Option (Int):=(yg true).bind fun r_1=>bif (dL [.c (.int .i64 a_v.kind), .c (.int .i64 a_v.int), .c (.str a_v.text)] [.c (.int .i64 r_1.kind), .c (.int .i64 r_1.int), .c (.str r_1.text)]) then some (2:Int) else
 (yg false).bind fun r_3=>bif (dL [.c (.int .i64 a_v.kind), .c (.int .i64 a_v.int), .c (.str a_v.text)] [.c (.int .i64 r_3.kind), .c (.int .i64 r_3.int), .c (.str r_3.text)]) then some (0:Int) else
 some (1:Int)
theorem lN {a_v:Val} {r:Int} (H:lh a_v=some r):Pure Tryz.prog 121 [.agg (cV a_v)] (.val (.one (.int .i64 r))):=by
 unfold lh at H
 refine po_ Tryz.func121 Tryz.ntmps121 ?_
 obtain ⟨r_1,c1,H⟩:=bd_ H
 replace c1:=uM c1
 rcases af H with ⟨q_2,H⟩|⟨q_2,H⟩
 ·cases H
  exact aD
 obtain ⟨r_3,c2,H⟩:=bd_ H
 replace c2:=uM c2
 rcases af H with ⟨q_4,H⟩|⟨q_4,H⟩
 ·cases H
  exact aD
 cases H
 exact aD
def Ee (a_t:Int):Option (Val):=(tF a_t).bind fun r_1=>bif (decide (r_1=(1:Int))) then (oM ).bind fun r_3=>some r_3 else
 (yg (decide (r_1=(2:Int)))).bind fun r_4=>some r_4
theorem DI {a_t:Int} {r:Val} (H:Ee a_t=some r):Pure Tryz.prog 85 [.one (.int .i64 a_t)] (.val (.agg (cV r))):=by
 unfold Ee at H
 refine po_ Tryz.func85 Tryz.ntmps85 ?_
 obtain ⟨r_1,c1,H⟩:=bd_ H
 replace c1:=Co c1
 rcases af H with ⟨q_2,H⟩|⟨q_2,H⟩
 ·obtain ⟨r_3,c2,H⟩:=bd_ H
  replace c2:=gu c2
  cases H
  exact aD
 obtain ⟨r_4,c3,H⟩:=bd_ H
 replace c3:=uM c3
 cases H
 exact aD
set_option maxHeartbeats 8000000
def oo (a_op:Int) (a_a:Val) (a_b:Val):Option (Int):=bif (decide (a_op=(7:Int))) then (Xf a_a a_b).bind fun r_2=>some r_2 else
 bif (decide (a_op=(8:Int))) then (Xf a_a a_b).bind fun r_4=>(Lp r_4).bind fun r_5=>some r_5 else
 bif (decide (a_op=(9:Int))) then (yh a_a a_b).bind fun r_7=>some r_7 else
 bif (decide (a_op=(11:Int))) then (yh a_b a_a).bind fun r_9=>some r_9 else
 bif (decide (a_op=(10:Int))) then (yh a_b a_a).bind fun r_11=>(Lp r_11).bind fun r_12=>some r_12 else
 (yh a_a a_b).bind fun r_13=>(Lp r_13).bind fun r_14=>some r_14
theorem Ia {a_op:Int} {a_a:Val} {a_b:Val} {r:Int} (H:oo a_op a_a a_b=some r):Pure Tryz.prog 86 [.one (.int .i64 a_op), .agg (cV a_a), .agg (cV a_b)] (.val (.one (.int .i64 r))):=by
 unfold oo at H
 refine po_ Tryz.func86 Tryz.ntmps86 ?_
 rcases af H with ⟨q_1,H⟩|⟨q_1,H⟩
 ·obtain ⟨r_2,c1,H⟩:=bd_ H
  replace c1:=Vq c1
  cases H
  exact aD
 rcases af H with ⟨q_3,H⟩|⟨q_3,H⟩
 ·obtain ⟨r_4,c2,H⟩:=bd_ H
  replace c2:=Vq c2
  obtain ⟨r_5,c3,H⟩:=bd_ H
  replace c3:=wY c3
  cases H
  exact aD
 refine bF ?_
 rcases af H with ⟨q_6,H⟩|⟨q_6,H⟩
 ·obtain ⟨r_7,c4,H⟩:=bd_ H
  replace c4:=Au c4
  cases H
  exact aD
 rcases af H with ⟨q_8,H⟩|⟨q_8,H⟩
 ·obtain ⟨r_9,c5,H⟩:=bd_ H
  replace c5:=Au c5
  cases H
  exact aD
 rcases af H with ⟨q_10,H⟩|⟨q_10,H⟩
 ·obtain ⟨r_11,c6,H⟩:=bd_ H
  replace c6:=Au c6
  obtain ⟨r_12,c7,H⟩:=bd_ H
  replace c7:=wY c7
  cases H
  exact aD
 obtain ⟨r_13,c8,H⟩:=bd_ H
 replace c8:=Au c8
 obtain ⟨r_14,c9,H⟩:=bd_ H
 replace c9:=wY c9
 cases H
 exact aD
def zR (a_l:(List Val)):(Int × ByteArray × Int)->Option (Step (Int × ByteArray × Int) (Val)):=fun s=>match s with
 | (n_1,s_2,v_3)=>bif (decide (v_3<((a_l.length:Nat):Int))) then (aH a_l v_3).bind fun x_5=>bif (decide (x_5.kind≠(2:Int))) then (oM ).bind fun r_7=>some (.ret r_7) else
 bif (decide (s_2.size+x_5.text.size<=9223372036854775807)) then (some (.next ((IntKind.i64.wrap (n_1+((x_5.text.size:Nat):Int))),(s_2++x_5.text),(IntKind.i64.wrap (v_3+(1:Int)))))) else none else
 some (.exit (n_1,s_2,v_3))
def qg (a_op:Int):Sum (Int × ByteArray × Int) (Val)->Option ((Val))
 | .inl (n_1,s_2,v_3)=>bif (decide (a_op=(20:Int))) then (sW n_1).bind fun r_9=>some r_9 else
 (Fe s_2).bind fun r_10=>some r_10
 | .inr q=>some q
def zx (a_op:Int) (a_l:(List Val)):Option (Val):=(ax (zR a_l) fuel ((0:Int),(⟨#[]⟩:ByteArray),(0:Int))).bind (qg a_op)
theorem MC {a_op:Int} {a_l:(List Val)} {r:Val} (H:zx a_op a_l=some r):Pure Tryz.prog 83 [.one (.int .i64 a_op), .one (.lst (a_l.map cV))] (.val (.agg (cV r))):=by
 unfold zx at H
 refine po_ Tryz.func83 Tryz.ntmps83 ?_
 refine bF ?_
 refine alM_ (fun s:Int × ByteArray × Int=>match s with|(n_1,s_2,v_3)=>[(0, .one (.c (.int .i64 a_op))),(4, .one (.ptr 0 0)),(5, .one (.c (.int .i64 n_1))),(6, .one (.c (.str s_2))),(9, .one (.c (.lst (a_l.map cV)))),(10, .one (.c (.int .i64 ((a_l.length:Nat):Int)))),(11, .one (.c (.int .i64 v_3)))]) (fun s=>match s with|(n_1,s_2,v_3)=>[.box [.c (.int .i64 (0:Int)), .c (.int .i64 (0:Int)), .c (.str ByteArray.empty)]]) H (fun _=>ahe _)
  (fm_ dh [] rfl bH dw) ?_
 rintro ⟨n_1,s_2,v_3⟩ st1 hb1 hk1
 unfold zR at hb1
 dsimp only at hb1 ⊢
 rcases af hb1 with ⟨q_4,hb1⟩|⟨q_4,hb1⟩
 ·obtain ⟨x_5,i1z,i1,i1x,hb1⟩:=aY (f:=cV) hb1
  rcases af hb1 with ⟨q_6,hb1⟩|⟨q_6,hb1⟩
  ·obtain ⟨r_7,c2,hb1⟩:=bd_ hb1
   replace c2:=gu c2
   cases hb1
   have hx1:qg a_op (.inr r_7)=some _:=hk1
   unfold qg at hx1
   dsimp only at hx1
   cases hx1
   exact aD
  obtain ⟨g3,hb1⟩:=aG hb1
  cases hb1
  refine bF ?_
  exact ⟨_,rfl,fm_ dh [_] rfl bH dw⟩
 cases hb1
 have hx1:qg a_op (.inl (n_1,s_2,v_3))=some _:=hk1
 unfold qg at hx1
 dsimp only at hx1
 rcases af hx1 with ⟨q_8,hx1⟩|⟨q_8,hx1⟩
 ·obtain ⟨r_9,c4,hx1⟩:=bd_ hx1
  replace c4:=oP c4
  cases hx1
  exact aD
 obtain ⟨r_10,c5,hx1⟩:=bd_ hx1
 replace c5:=X_ c5
 cases hx1
 exact aD
def yO (a_a:Int) (a_b:Int):Option (Val):=bif (decide (a_a≠(0:Int))) then bif (decide ((CY a_a (IntKind.i64.wrap (0-a_a)))≠0)) then (bif (decide ((IntKind.i64.wrap ((1125899906842624:Int).tdiv (CY a_a (IntKind.i64.wrap (0-a_a)))))<(CY a_b (IntKind.i64.wrap (0-a_b))))) then (oM ).bind fun r_3=>some r_3 else
 (sW (IntKind.i64.wrap (a_a*a_b))).bind fun r_4=>some r_4) else none else
 (sW (IntKind.i64.wrap (a_a*a_b))).bind fun r_5=>some r_5
theorem QK {a_a:Int} {a_b:Int} {r:Val} (H:yO a_a a_b=some r):Pure Tryz.prog 132 [.one (.int .i64 a_a), .one (.int .i64 a_b)] (.val (.agg (cV r))):=by
 unfold yO at H
 refine po_ Tryz.func132 Tryz.ntmps132 ?_
 rcases af H with ⟨q_1,H⟩|⟨q_1,H⟩
 ·obtain ⟨g1,H⟩:=aG H
  rcases af H with ⟨q_2,H⟩|⟨q_2,H⟩
  ·obtain ⟨r_3,c2,H⟩:=bd_ H
   replace c2:=gu c2
   cases H
   exact aD
  obtain ⟨r_4,c3,H⟩:=bd_ H
  replace c3:=oP c3
  cases H
  exact aD
 obtain ⟨r_5,c4,H⟩:=bd_ H
 replace c4:=oP c4
 cases H
 exact aD
set_option maxHeartbeats 8000000
def uG (a_l:(List Val)):(Int)->Option (Step (Int) (Val)):=fun s=>match s with
 | v_1=>bif (decide (v_1<((a_l.length:Nat):Int))) then (aH a_l v_1).bind fun x_3=>bif (decide (x_3.kind≠(1:Int))) then (oM ).bind fun r_5=>some (.ret r_5) else
 some (.next (IntKind.i64.wrap (v_1+(1:Int)))) else
 some (.exit v_1)
def qi (a_op:Int) (a_l:(List Val)):Sum (Int) (Val)->Option ((Val))
 | .inl v_1=>(aH a_l (0:Int)).bind fun x_6=>(aH a_l (IntKind.i64.wrap (((a_l.length:Nat):Int)-(1:Int)))).bind fun x_7=>bif (decide (a_op=(13:Int))) then (sW (IntKind.i64.wrap (x_6.int+x_7.int))).bind fun r_9=>some r_9 else
 bif (decide (a_op=(14:Int))) then (sW (IntKind.i64.wrap (x_6.int-x_7.int))).bind fun r_11=>some r_11 else
 bif (decide (a_op=(15:Int))) then (yO x_6.int x_7.int).bind fun r_13=>some r_13 else
 bif (decide (a_op=(18:Int))) then (sW (IntKind.i64.wrap (0-x_6.int))).bind fun r_15=>some r_15 else
 bif (decide (x_7.int=(0:Int))) then (oM ).bind fun r_17=>some r_17 else
 bif (decide (a_op=(16:Int))) then bif (decide (x_7.int≠0)) then ((sW (IntKind.i64.wrap (x_6.int.tdiv x_7.int))).bind fun r_19=>some r_19) else none else
 bif (decide (x_7.int≠0)) then ((sW (x_6.int.tmod x_7.int)).bind fun r_20=>some r_20) else none
 | .inr q=>some q
def pu (a_op:Int) (a_l:(List Val)):Option (Val):=(ax (uG a_l) fuel (0:Int)).bind (qi a_op a_l)
theorem qx {a_op:Int} {a_l:(List Val)} {r:Val} (H:pu a_op a_l=some r):Pure Tryz.prog 84 [.one (.int .i64 a_op), .one (.lst (a_l.map cV))] (.val (.agg (cV r))):=by
 unfold pu at H
 refine po_ Tryz.func84 Tryz.ntmps84 ?_
 refine bF ?_
 refine alM_ (fun s:Int=>match s with|v_1=>[(0, .one (.c (.int .i64 a_op))),(1, .one (.c (.lst (a_l.map cV)))),(4, .one (.ptr 0 0)),(9, .one (.c (.lst (a_l.map cV)))),(10, .one (.c (.int .i64 ((a_l.length:Nat):Int)))),(11, .one (.c (.int .i64 v_1)))]) (fun s=>match s with|v_1=>[.box [.c (.int .i64 (0:Int)), .c (.int .i64 (0:Int)), .c (.str ByteArray.empty)]]) H (fun _=>ahe _)
  (fm_ dh [] rfl bH dw) ?_
 rintro v_1 st1 hb1 hk1
 unfold uG at hb1
 dsimp only at hb1 ⊢
 rcases af hb1 with ⟨q_2,hb1⟩|⟨q_2,hb1⟩
 ·obtain ⟨x_3,i1z,i1,i1x,hb1⟩:=aY (f:=cV) hb1
  rcases af hb1 with ⟨q_4,hb1⟩|⟨q_4,hb1⟩
  ·obtain ⟨r_5,c2,hb1⟩:=bd_ hb1
   replace c2:=gu c2
   cases hb1
   have hx1:qi a_op a_l (.inr r_5)=some _:=hk1
   unfold qi at hx1
   dsimp only at hx1
   cases hx1
   exact aD
  cases hb1
  refine bF ?_
  exact ⟨_,rfl,fm_ dh [_] rfl bH dw⟩
 cases hb1
 have hx1:qi a_op a_l (.inl v_1)=some _:=hk1
 unfold qi at hx1
 dsimp only at hx1
 obtain ⟨x_6,i3z,i3,i3x,hx1⟩:=aY (f:=cV) hx1
 obtain ⟨x_7,i4z,i4,i4x,hx1⟩:=aY (f:=cV) hx1
 rcases af hx1 with ⟨q_8,hx1⟩|⟨q_8,hx1⟩
 ·obtain ⟨r_9,c5,hx1⟩:=bd_ hx1
  replace c5:=oP c5
  cases hx1
  exact aD
 refine bF ?_
 rcases af hx1 with ⟨q_10,hx1⟩|⟨q_10,hx1⟩
 ·obtain ⟨r_11,c6,hx1⟩:=bd_ hx1
  replace c6:=oP c6
  cases hx1
  exact aD
 rcases af hx1 with ⟨q_12,hx1⟩|⟨q_12,hx1⟩
 ·obtain ⟨r_13,c7,hx1⟩:=bd_ hx1
  replace c7:=QK c7
  cases hx1
  exact aD
 rcases af hx1 with ⟨q_14,hx1⟩|⟨q_14,hx1⟩
 ·obtain ⟨r_15,c8,hx1⟩:=bd_ hx1
  replace c8:=oP c8
  cases hx1
  exact aD
 refine bF ?_
 rcases af hx1 with ⟨q_16,hx1⟩|⟨q_16,hx1⟩
 ·obtain ⟨r_17,c9,hx1⟩:=bd_ hx1
  replace c9:=gu c9
  cases hx1
  exact aD
 rcases af hx1 with ⟨q_18,hx1⟩|⟨q_18,hx1⟩
 ·obtain ⟨g10,hx1⟩:=aG hx1
  obtain ⟨r_19,c11,hx1⟩:=bd_ hx1
  replace c11:=oP c11
  cases hx1
  exact aD
 obtain ⟨g12,hx1⟩:=aG hx1
 obtain ⟨r_20,c13,hx1⟩:=bd_ hx1
 replace c13:=oP c13
 cases hx1
 exact aD
set_option maxHeartbeats 8000000
def Ad (s_7:(List Val)):(Int × Int)->Option (Step (Int × Int) (Val)):=fun s=>match s with
 | (t_8,v_9)=>bif (decide (v_9<((s_7.length:Nat):Int))) then (aH s_7 v_9).bind fun x_11=>(lh x_11).bind fun r_12=>(UM t_8 r_12).bind fun r_13=>some (.next (r_13,(IntKind.i64.wrap (v_9+(1:Int))))) else
 some (.exit (t_8,v_9))
def EA:Sum (Int × Int) (Val)->Option ((Val))
 | .inl (t_8,v_9)=>(Ee t_8).bind fun r_14=>some r_14
 | .inr q=>some q
def Ag (s_15:(List Val)):(Int × Int)->Option (Step (Int × Int) (Val)):=fun s=>match s with
 | (t_16,v_17)=>bif (decide (v_17<((s_15.length:Nat):Int))) then (aH s_15 v_17).bind fun x_19=>(lh x_19).bind fun r_20=>(KF t_16 r_20).bind fun r_21=>some (.next (r_21,(IntKind.i64.wrap (v_17+(1:Int))))) else
 some (.exit (t_16,v_17))
def ED:Sum (Int × Int) (Val)->Option ((Val))
 | .inl (t_16,v_17)=>(Ee t_16).bind fun r_22=>some r_22
 | .inr q=>some q
def rJ (a_op:Int) (a_l:(List Val)):Option (Val):=(aH a_l (0:Int)).bind fun x_1=>(lh x_1).bind fun r_2=>bif (decide (a_op=(4:Int))) then (Lp r_2).bind fun r_4=>(Ee r_4).bind fun r_5=>some r_5 else
 bif (decide (a_op=(5:Int))) then (lT a_l (1:Int) ((a_l.length:Nat):Int)).bind fun s_7=>(ax (Ad s_7) fuel (r_2,(0:Int))).bind (EA) else
 (lT a_l (1:Int) ((a_l.length:Nat):Int)).bind fun s_15=>(ax (Ag s_15) fuel (r_2,(0:Int))).bind (ED)
theorem Ez {a_op:Int} {a_l:(List Val)} {r:Val} (H:rJ a_op a_l=some r):Pure Tryz.prog 80 [.one (.int .i64 a_op), .one (.lst (a_l.map cV))] (.val (.agg (cV r))):=by
 unfold rJ at H
 refine po_ Tryz.func80 Tryz.ntmps80 ?_
 obtain ⟨x_1,i1z,i1,i1x,H⟩:=aY (f:=cV) H
 obtain ⟨r_2,c2,H⟩:=bd_ H
 replace c2:=lN c2
 rcases af H with ⟨q_3,H⟩|⟨q_3,H⟩
 ·obtain ⟨r_4,c3,H⟩:=bd_ H
  replace c3:=wY c3
  obtain ⟨r_5,c4,H⟩:=bd_ H
  replace c4:=DI c4
  cases H
  exact aD
 rcases af H with ⟨q_6,H⟩|⟨q_6,H⟩
 ·obtain ⟨s_7,u5,H⟩:=bd_ H
  obtain ⟨⟨u5a,u5b,u5c⟩,u5⟩:=ji u5
  have u5x:=L8 (f:=cV) u5
  repeat' (first|refine gs_ ?_|rw [u5x]|rw [show ((0:Nat):Int)=0 from rfl])
  refine alM_ (fun s:Int × Int=>match s with|(t_8,v_9)=>[(4, .one (.ptr 0 0)),(5, .one (.c (.int .i64 t_8))),(35, .one (.c (.lst (s_7.map cV)))),(36, .one (.c (.int .i64 ((s_7.length:Nat):Int)))),(37, .one (.c (.int .i64 v_9)))]) (fun s=>match s with|(t_8,v_9)=>[.box [.c (.int .i64 (0:Int)), .c (.int .i64 (0:Int)), .c (.str ByteArray.empty)]]) H (fun _=>ahe _)
   (fm_ dh [] rfl bH dw) ?_
  rintro ⟨t_8,v_9⟩ st1 hb1 hk1
  unfold Ad at hb1
  dsimp only at hb1 ⊢
  repeat' (first|refine gs_ ?_|rw [u5x]|rw [show ((0:Nat):Int)=0 from rfl])
  rcases af hb1 with ⟨q_10,hb1⟩|⟨q_10,hb1⟩
  ·obtain ⟨x_11,i6z,i6,i6x,hb1⟩:=aY (f:=cV) hb1
   obtain ⟨r_12,c7,hb1⟩:=bd_ hb1
   replace c7:=lN c7
   obtain ⟨r_13,c8,hb1⟩:=bd_ hb1
   replace c8:=abr c8
   cases hb1
   repeat' (first|refine gs_ ?_|rw [u5x]|rw [show ((0:Nat):Int)=0 from rfl])
   exact ⟨_,rfl,fm_ dh [_] rfl bH dw⟩
  cases hb1
  have hx1:EA (.inl (t_8,v_9))=some _:=hk1
  unfold EA at hx1
  dsimp only at hx1
  obtain ⟨r_14,c9,hx1⟩:=bd_ hx1
  replace c9:=DI c9
  cases hx1
  repeat' (first|refine gs_ ?_|rw [u5x]|rw [show ((0:Nat):Int)=0 from rfl])
  refine bO (bZ rfl ?_ ?_)
  ·repeat' (first|exact trivial|rfl|exact ag5 rfl|omega|apply And.intro)
  ·first|rfl|(simp only [ag8,ag6,ag_,ag0]<;>rfl)
 obtain ⟨s_15,u10,H⟩:=bd_ H
 obtain ⟨⟨u10a,u10b,u10c⟩,u10⟩:=ji u10
 have u10x:=L8 (f:=cV) u10
 repeat' (first|refine gs_ ?_|rw [u10x]|rw [show ((0:Nat):Int)=0 from rfl])
 refine alM_ (fun s:Int × Int=>match s with|(t_16,v_17)=>[(4, .one (.ptr 0 0)),(5, .one (.c (.int .i64 t_16))),(16, .one (.c (.lst (s_15.map cV)))),(17, .one (.c (.int .i64 ((s_15.length:Nat):Int)))),(18, .one (.c (.int .i64 v_17)))]) (fun s=>match s with|(t_16,v_17)=>[.box [.c (.int .i64 (0:Int)), .c (.int .i64 (0:Int)), .c (.str ByteArray.empty)]]) H (fun _=>ahe _)
  (fm_ dh [] rfl bH dw) ?_
 rintro ⟨t_16,v_17⟩ st2 hb2 hk2
 unfold Ag at hb2
 dsimp only at hb2 ⊢
 repeat' (first|refine gs_ ?_|rw [u10x]|rw [show ((0:Nat):Int)=0 from rfl])
 rcases af hb2 with ⟨q_18,hb2⟩|⟨q_18,hb2⟩
 ·obtain ⟨x_19,i11z,i11,i11x,hb2⟩:=aY (f:=cV) hb2
  obtain ⟨r_20,c12,hb2⟩:=bd_ hb2
  replace c12:=lN c12
  obtain ⟨r_21,c13,hb2⟩:=bd_ hb2
  replace c13:=Zn c13
  cases hb2
  repeat' (first|refine gs_ ?_|rw [u10x]|rw [show ((0:Nat):Int)=0 from rfl])
  exact ⟨_,rfl,fm_ dh [_] rfl bH dw⟩
 cases hb2
 have hx2:ED (.inl (t_16,v_17))=some _:=hk2
 unfold ED at hx2
 dsimp only at hx2
 obtain ⟨r_22,c14,hx2⟩:=bd_ hx2
 replace c14:=DI c14
 cases hx2
 repeat' (first|refine gs_ ?_|rw [u10x]|rw [show ((0:Nat):Int)=0 from rfl])
 refine bO (bZ rfl ?_ ?_)
 ·repeat' (first|exact trivial|rfl|exact ag5 rfl|omega|apply And.intro)
 ·first|rfl|(simp only [ag8,ag6,ag_,ag0]<;>rfl)
set_option maxHeartbeats 8000000
def gAt (a_row:(List Val)) (a_i:Int):Option (Val):=bif (decide (a_i<(0:Int))) then (oM ).bind fun r_2=>some r_2 else
 bif (decide (((a_row.length:Nat):Int)<=a_i)) then (oM ).bind fun r_4=>some r_4 else
 (aH a_row a_i).bind fun x_5=>some x_5
theorem adh {a_row:(List Val)} {a_i:Int} {r:Val} (H:gAt a_row a_i=some r):Pure Tryz.prog 164 [.one (.lst (a_row.map cV)), .one (.int .i64 a_i)] (.val (.agg (cV r))):=by
 unfold gAt at H
 refine po_ Tryz.func164 Tryz.ntmps164 ?_
 rcases af H with ⟨q_1,H⟩|⟨q_1,H⟩
 ·obtain ⟨r_2,c1,H⟩:=bd_ H
  replace c1:=gu c1
  cases H
  exact aD
 rcases af H with ⟨q_3,H⟩|⟨q_3,H⟩
 ·obtain ⟨r_4,c2,H⟩:=bd_ H
  replace c2:=gu c2
  cases H
  exact aD
 obtain ⟨x_5,i3z,i3,i3x,H⟩:=aY (f:=cV) H
 cases H
 exact aD
def Dq (a_row:(List Val)) (a_l:(List Int)):((List Val) × Int)->Option (Step ((List Val) × Int) ((List Val))):=fun s=>match s with
 | (out_1,v_2)=>bif (decide (v_2<((a_l.length:Nat):Int))) then (aH a_l v_2).bind fun x_4=>(gAt a_row x_4).bind fun r_5=>bif (decide (out_1.length+1<=4398046511104)) then (some (.next ((out_1++[r_5]),(IntKind.i64.wrap (v_2+(1:Int)))))) else none else
 some (.exit (out_1,v_2))
def KH:Sum ((List Val) × Int) ((List Val))->Option (((List Val)))
 | .inl (out_1,v_2)=>some out_1
 | .inr q=>some q
def Q3 (a_row:(List Val)) (a_l:(List Int)):Option ((List Val)):=bif (decide (0<=((a_l.length:Nat):Int))) then (bif (decide ((32:Int)*((a_l.length:Nat):Int)<=281474976710656)) then (bif (decide (((a_l.length:Nat):Int)<=9223372036854775807)) then ((ax (Dq a_row a_l) fuel ([],(0:Int))).bind (KH)) else none) else none) else none
theorem ZL {a_row:(List Val)} {a_l:(List Int)} {r:(List Val)} (H:Q3 a_row a_l=some r):Pure Tryz.prog 124 [.one (.lst (a_row.map cV)), .one (.lst (a_l.map (fun x=>[AC.int .i64 x])))] (.val (.one (.lst (r.map cV)))):=by
 unfold Q3 at H
 refine po_ Tryz.func124 Tryz.ntmps124 ?_
 obtain ⟨g1,H⟩:=aG H
 obtain ⟨g2,H⟩:=aG H
 obtain ⟨g3,H⟩:=aG H
 repeat' (first|refine jQ rfl rfl rfl rfl rfl (sO tab_ok (k:=3) (by_:=32) rfl rfl rfl rfl rfl rfl (by decide) (by omega) (by omega) (by omega)) ?_|refine gs_ ?_|fail)
 refine alM_ (fun s:(List Val) × Int=>match s with|(out_1,v_2)=>[(0, .one (.c (.lst (a_row.map cV)))),(5, .one (.own (out_1.map cV) 0)),(11, .one (.c (.lst (a_l.map (fun x=>[AC.int .i64 x]))))),(12, .one (.c (.int .i64 ((a_l.length:Nat):Int)))),(13, .one (.c (.int .i64 v_2)))]) (fun s=>match s with|(out_1,v_2)=>[.spare out_1.length 3]) H (fun _=>ahe _)
  (fm_ dh [] rfl bH dw) ?_
 rintro ⟨out_1,v_2⟩ st1 hb1 hk1
 unfold Dq at hb1
 dsimp only at hb1 ⊢
 rcases af hb1 with ⟨q_3,hb1⟩|⟨q_3,hb1⟩
 ·obtain ⟨x_4,i4z,i4,i4x,hb1⟩:=aY (f:=(fun x=>[AC.int .i64 x])) hb1
  obtain ⟨r_5,c5,hb1⟩:=bd_ hb1
  replace c5:=adh c5
  obtain ⟨g6,hb1⟩:=aG hb1
  cases hb1
  repeat' (first|refine jQ rfl rfl rfl rfl rfl (sO tab_ok (k:=3) (by_:=32) rfl rfl rfl rfl rfl rfl (by decide) (by omega) (by omega) (by omega)) ?_|refine gs_ ?_|fail)
  exact ⟨_,rfl,fm_ lC [] lD bH dw⟩
 cases hb1
 have hx1:KH (.inl (out_1,v_2))=some _:=hk1
 unfold KH at hx1
 dsimp only at hx1
 cases hx1
 repeat' (first|refine jQ rfl rfl rfl rfl rfl (sO tab_ok (k:=3) (by_:=32) rfl rfl rfl rfl rfl rfl (by decide) (by omega) (by omega) (by omega)) ?_|refine gs_ ?_|fail)
 refine bO (bZ rfl ?_ ?_)
 ·repeat' (first|exact trivial|rfl|exact ag5 rfl|omega|apply And.intro)
 ·first|rfl|(simp only [ag8,ag6,ag_,ag0]<;>rfl)
def Dk (a_row:(List Val)) (a_i:Int):Option (Val):=(Q3 a_row [a_i]).bind fun r_1=>(aH r_1 (0:Int)).bind fun x_2=>(wm x_2).bind fun r_3=>bif (!r_3) then (oM ).bind fun r_5=>some r_5 else
 some x_2
theorem Tc {a_row:(List Val)} {a_i:Int} {r:Val} (H:Dk a_row a_i=some r):Pure Tryz.prog 79 [.one (.lst (a_row.map cV)), .one (.int .i64 a_i)] (.val (.agg (cV r))):=by
 unfold Dk at H
 refine po_ Tryz.func79 Tryz.ntmps79 ?_
 obtain ⟨r_1,c1,H⟩:=bd_ H
 replace c1:=ZL c1
 try simp only [ag8,ag6,ag_,ag0,aC] at c1
 obtain ⟨x_2,i2z,i2,i2x,H⟩:=aY (f:=cV) H
 obtain ⟨r_3,c3,H⟩:=bd_ H
 replace c3:=CO c3
 rcases af H with ⟨q_4,H⟩|⟨q_4,H⟩
 ·obtain ⟨r_5,c4,H⟩:=bd_ H
  replace c4:=gu c4
  cases H
  exact aD
 cases H
 exact aD
set_option maxHeartbeats 8000000
def W9 (a_p:aI) (a_q:aI):Option (Int × Bool):=(UI a_p).bind fun r_1=>bif (!r_1) then some ((0:Int),false) else
 (UI a_q).bind fun r_3=>bif (!r_3) then some ((0:Int),false) else
 bif (decide (a_p.hi<a_q.lo)) then some ((0:Int),true) else
 bif (decide (a_p.hi=a_q.lo)) then some ((1:Int),true) else
 bif (decide (a_q.hi<a_p.lo)) then some ((12:Int),true) else
 bif (decide (a_q.hi=a_p.lo)) then some ((11:Int),true) else
 bif (dL [.c (.int .i64 a_p.lo), .c (.int .i64 a_p.hi)] [.c (.int .i64 a_q.lo), .c (.int .i64 a_q.hi)]) then some ((6:Int),true) else
 bif (decide (a_p.lo=a_q.lo)) then bif (decide (a_p.hi<a_q.hi)) then some ((3:Int),true) else
 some ((9:Int),true) else
 bif (decide (a_p.hi=a_q.hi)) then bif (decide (a_q.lo<a_p.lo)) then some ((5:Int),true) else
 some ((7:Int),true) else
 bif (decide (a_p.lo<a_q.lo)) then bif (decide (a_q.hi<a_p.hi)) then some ((8:Int),true) else
 bif (decide (a_q.lo<a_p.lo)) then bif (decide (a_p.hi<a_q.hi)) then some ((4:Int),true) else
 some ((2:Int),true) else
 some ((2:Int),true) else
 bif (decide (a_q.lo<a_p.lo)) then bif (decide (a_p.hi<a_q.hi)) then some ((4:Int),true) else
 some ((10:Int),true) else
 some ((10:Int),true)
theorem acB {a_p:aI} {a_q:aI} {r:Int × Bool} (H:W9 a_p a_q=some r):Pure Tryz.prog 129 [.agg (bE a_p), .agg (bE a_q)] (.tup [.one (.int .i64 r.1), .one (.bool r.2)]):=by
 unfold W9 at H
 refine po_ Tryz.func129 Tryz.ntmps129 ?_
 obtain ⟨r_1,c1,H⟩:=bd_ H
 replace c1:=CK c1
 rcases af H with ⟨q_2,H⟩|⟨q_2,H⟩
 ·cases H
  exact aD
 obtain ⟨r_3,c2,H⟩:=bd_ H
 replace c2:=CK c2
 rcases af H with ⟨q_4,H⟩|⟨q_4,H⟩
 ·cases H
  exact aD
 refine bF ?_
 rcases af H with ⟨q_5,H⟩|⟨q_5,H⟩
 ·cases H
  exact aD
 rcases af H with ⟨q_6,H⟩|⟨q_6,H⟩
 ·cases H
  exact aD
 rcases af H with ⟨q_7,H⟩|⟨q_7,H⟩
 ·cases H
  exact aD
 refine bF ?_
 rcases af H with ⟨q_8,H⟩|⟨q_8,H⟩
 ·cases H
  exact aD
 rcases af H with ⟨q_9,H⟩|⟨q_9,H⟩
 ·cases H
  exact aD
 rcases af H with ⟨q_10,H⟩|⟨q_10,H⟩
 ·refine bF ?_
  rcases af H with ⟨q_11,H⟩|⟨q_11,H⟩
  ·cases H
   exact aD
  cases H
  exact aD
 refine bF ?_
 rcases af H with ⟨q_12,H⟩|⟨q_12,H⟩
 ·rcases af H with ⟨q_13,H⟩|⟨q_13,H⟩
  ·cases H
   exact aD
  cases H
  exact aD
 rcases af H with ⟨q_14,H⟩|⟨q_14,H⟩
 ·rcases af H with ⟨q_15,H⟩|⟨q_15,H⟩
  ·cases H
   exact aD
  refine bF ?_
  rcases af H with ⟨q_16,H⟩|⟨q_16,H⟩
  ·rcases af H with ⟨q_17,H⟩|⟨q_17,H⟩
   ·cases H
    exact aD
   cases H
   exact aD
  cases H
  exact aD
 rcases af H with ⟨q_18,H⟩|⟨q_18,H⟩
 ·refine bF ?_
  rcases af H with ⟨q_19,H⟩|⟨q_19,H⟩
  ·cases H
   exact aD
  cases H
  exact aD
 cases H
 exact aD
end Go.Proofs.YtcehmafobkhdbaaGreatDoor
