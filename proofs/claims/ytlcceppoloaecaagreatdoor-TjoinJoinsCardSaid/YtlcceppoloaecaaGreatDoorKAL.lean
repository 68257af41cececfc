/- Parts of the proof, joined. No condition. -/
import Derived.Test.YtlcceppoloaecaaGreatDoorKAA
import Derived.Test.YtlcceppoloaecaaGreatDoorKAI
import Derived.Test.YtlcceppoloaecaaGreatDoorKAG
import Derived.Test.YtlcceppoloaecaaGreatDoorKAK
import Derived.Test.YtlcceppoloaecaaGreatDoorKAJ
set_option linter.unusedSimpArgs false
set_option linter.unusedVariables false
namespace Go.Proofs.YtlcceppoloaecaaGreatDoor
open Go.RowKit Go.MapKept
set_option maxRecDepth 100000
set_option maxHeartbeats 8000000
def YJ (a_p:aP):Option (Bool):=bif (decide ((0:Int)<=a_p.lo)) then bif (decide (a_p.lo<a_p.hi)) then some (decide (a_p.hi<=(1099511627776:Int))) else
 some false else
 some false
theorem yQ {a_p:aP} {r:Bool} (H:YJ a_p=some r):Pure Tryz.prog 38 [.agg (bv a_p)] (.val (.one (.bool r))):=by
 unfold YJ at H
 refine po_ Tryz.func38 Tryz.ntmps38 ?_
 rcases af H with ⟨q_1,H⟩|⟨q_1,H⟩
 ·rcases af H with ⟨q_2,H⟩|⟨q_2,H⟩
  ·cases H
   exact aK
  cases H
  exact aK
 cases H
 exact aK
section
variable {P:Program} {ti:TI} {N:Nat} {ds:List (Option Tmp)} {K:Tm->List Ob->Prop} {rest:List Oper} {o:Oper} {T:Tm} {L:List Ob}
theorem aay {a b:List SV} (h:b.length=a.length):splice a 0 b=b:=by
 unfold splice
 rw [List.take_zero,ap5,aqH,List.drop_of_length_le (by omega),aqy]
theorem Mf {α:Type} {enc:α->List AC} {X:List α} {v:α} {t:TypeId} {p q:Operand} {id ver i k:Nat} (hd:o.dst=none) (hg:kH ds T o.guard=some true) (ho:o.op = .store t p q) (hp:look T p=some (.one (.ep id ver i 0))) (hL:L[id]?=some (.row ver ((X.map enc).map (List.map SV.c)) k)) (hx:i<X.length)
  (hq:(look T q).bind AV.cells=some ((enc v).map SV.c)) (hk : ∀ x,(enc x).length=k) (hsz:ti.size t=some k) (h:aX P ti N ds K rest T (L.set id (.row ver (((X.set i v).map enc).map (List.map SV.c)) k))):aX P ti N ds K (o::rest) T L:=by
 obtain ⟨x,hx⟩:=gol_ hx
 have hl:((enc v).map SV.c).length=((enc x).map SV.c).length:=by rw [aqa,aqa,hk,hk]
 have he:((X.map enc).map (List.map SV.c))[i]?=some ((enc x).map SV.c):=by rw [aql,aql,hx];rfl
 refine vw hd hg ho hp hq hL he ⟨by rw [aqH,hl];exact aqe _,by rw [aqa,hk];exact hsz⟩ ?_ h
 rw [aay hl,List.map_set,List.map_set]
end
theorem oC {α:Type} (n v k:Nat) (enc:α->List AC) (X:List α):(Ob.row v ((X.map enc).map (List.map SV.c)) k).below n:=by
 intro e he x hx
 rw [List.map_map] at he
 obtain ⟨y,_,rfl⟩:=aqz.1 he
 obtain ⟨z,_,rfl⟩:=aqz.1 hx
 trivial
set_option maxHeartbeats 8000000
def yb (a_op:Int) (a_n:Int):Option (Bool × Bool):=bif (decide (a_op=(1:Int))) then some ((decide (a_n=(0:Int))),true) else
 bif (decide (a_op=(2:Int))) then some ((decide (a_n=(0:Int))),true) else
 bif (decide (a_op=(4:Int))) then some ((decide (a_n=(1:Int))),true) else
 bif (decide (a_op=(18:Int))) then some ((decide (a_n=(1:Int))),true) else
 bif (decide (a_op=(20:Int))) then some ((decide (a_n=(1:Int))),true) else
 bif (decide (a_op=(21:Int))) then some ((decide (a_n=(1:Int))),true) else
 bif (decide (a_op=(7:Int))) then some ((decide (a_n=(2:Int))),true) else
 bif (decide (a_op=(8:Int))) then some ((decide (a_n=(2:Int))),true) else
 bif (decide (a_op=(9:Int))) then some ((decide (a_n=(2:Int))),true) else
 bif (decide (a_op=(10:Int))) then some ((decide (a_n=(2:Int))),true) else
 bif (decide (a_op=(11:Int))) then some ((decide (a_n=(2:Int))),true) else
 bif (decide (a_op=(12:Int))) then some ((decide (a_n=(2:Int))),true) else
 bif (decide (a_op=(13:Int))) then some ((decide (a_n=(2:Int))),true) else
 bif (decide (a_op=(14:Int))) then some ((decide (a_n=(2:Int))),true) else
 bif (decide (a_op=(15:Int))) then some ((decide (a_n=(2:Int))),true) else
 bif (decide (a_op=(16:Int))) then some ((decide (a_n=(2:Int))),true) else
 bif (decide (a_op=(17:Int))) then some ((decide (a_n=(2:Int))),true) else
 bif (decide (a_op=(19:Int))) then some ((decide (a_n=(2:Int))),true) else
 bif (decide (a_op=(5:Int))) then some ((decide ((2:Int)<=a_n)),true) else
 bif (decide (a_op=(6:Int))) then some ((decide ((2:Int)<=a_n)),true) else
 bif (decide (a_op=(22:Int))) then some ((decide (a_n=(3:Int))),true) else
 bif (decide (a_op=(23:Int))) then some ((decide ((1:Int)<=a_n)),true) else
 bif (decide (a_op=(24:Int))) then some ((decide (a_n=(4:Int))),true) else
 some (false,false)
theorem MN {a_op:Int} {a_n:Int} {r:Bool × Bool} (H:yb a_op a_n=some r):Pure Tryz.prog 176 [.one (.int .i64 a_op), .one (.int .i64 a_n)] (.tup [.one (.bool r.1), .one (.bool r.2)]):=by
 unfold yb at H
 refine po_ Tryz.func176 Tryz.ntmps176 ?_
 rcases af H with ⟨q_1,H⟩|⟨q_1,H⟩
 ·cases H
  exact aK
 rcases af H with ⟨q_2,H⟩|⟨q_2,H⟩
 ·cases H
  exact aK
 refine bz ?_
 rcases af H with ⟨q_3,H⟩|⟨q_3,H⟩
 ·cases H
  exact aK
 rcases af H with ⟨q_4,H⟩|⟨q_4,H⟩
 ·cases H
  exact aK
 rcases af H with ⟨q_5,H⟩|⟨q_5,H⟩
 ·cases H
  exact aK
 refine bz ?_
 rcases af H with ⟨q_6,H⟩|⟨q_6,H⟩
 ·cases H
  exact aK
 rcases af H with ⟨q_7,H⟩|⟨q_7,H⟩
 ·cases H
  exact aK
 rcases af H with ⟨q_8,H⟩|⟨q_8,H⟩
 ·cases H
  exact aK
 refine bz ?_
 rcases af H with ⟨q_9,H⟩|⟨q_9,H⟩
 ·cases H
  exact aK
 rcases af H with ⟨q_10,H⟩|⟨q_10,H⟩
 ·cases H
  exact aK
 rcases af H with ⟨q_11,H⟩|⟨q_11,H⟩
 ·cases H
  exact aK
 refine bz ?_
 rcases af H with ⟨q_12,H⟩|⟨q_12,H⟩
 ·cases H
  exact aK
 rcases af H with ⟨q_13,H⟩|⟨q_13,H⟩
 ·cases H
  exact aK
 rcases af H with ⟨q_14,H⟩|⟨q_14,H⟩
 ·cases H
  exact aK
 refine bz ?_
 rcases af H with ⟨q_15,H⟩|⟨q_15,H⟩
 ·cases H
  exact aK
 rcases af H with ⟨q_16,H⟩|⟨q_16,H⟩
 ·cases H
  exact aK
 rcases af H with ⟨q_17,H⟩|⟨q_17,H⟩
 ·cases H
  exact aK
 refine bz ?_
 rcases af H with ⟨q_18,H⟩|⟨q_18,H⟩
 ·cases H
  exact aK
 rcases af H with ⟨q_19,H⟩|⟨q_19,H⟩
 ·cases H
  exact aK
 rcases af H with ⟨q_20,H⟩|⟨q_20,H⟩
 ·cases H
  exact aK
 refine bz ?_
 rcases af H with ⟨q_21,H⟩|⟨q_21,H⟩
 ·cases H
  exact aK
 rcases af H with ⟨q_22,H⟩|⟨q_22,H⟩
 ·cases H
  exact aK
 rcases af H with ⟨q_23,H⟩|⟨q_23,H⟩
 ·cases H
  exact aK
 cases H
 exact aK
def uU (a_e:Ex):Option (Bool):=(yb a_e.op ((a_e.args.length:Nat):Int)).bind fun r_1=>bif (!r_1.1) then some false else
 bif (!(a_e.nm.toList==(⟨#[]⟩:ByteArray).toList)) then some false else
 bif (decide (a_e.op=(1:Int))) then bif (decide (a_e.int=(0:Int))) then (xZ a_e.v).bind fun r_6=>some r_6 else
 some false else
 bif (decide (a_e.op=(24:Int))) then bif (decide (a_e.int<(0:Int))) then some false else
 bif (decide ((13:Int)<=a_e.int)) then some false else
 some (dU [.c (.int .i64 a_e.v.kind), .c (.int .i64 a_e.v.int), .c (.str a_e.v.text)] [.c (.int .i64 (0:Int)), .c (.int .i64 (0:Int)), .c (.str ByteArray.empty)]) else
 bif (decide (a_e.op=(2:Int))) then some (dU [.c (.int .i64 a_e.v.kind), .c (.int .i64 a_e.v.int), .c (.str a_e.v.text)] [.c (.int .i64 (0:Int)), .c (.int .i64 (0:Int)), .c (.str ByteArray.empty)]) else
 bif (decide (a_e.int=(0:Int))) then some (dU [.c (.int .i64 a_e.v.kind), .c (.int .i64 a_e.v.int), .c (.str a_e.v.text)] [.c (.int .i64 (0:Int)), .c (.int .i64 (0:Int)), .c (.str ByteArray.empty)]) else
 some false
theorem O9 {a_e:Ex} {r:Bool} (H:uU a_e=some r):Pure Tryz.prog 110 [.agg (tE a_e)] (.val (.one (.bool r))):=by
 unfold uU at H
 rw [aL a_e]
 refine po_ Tryz.func110 Tryz.ntmps110 ?_
 obtain ⟨r_1,c1,H⟩:=bd_ H
 replace c1:=MN c1
 rcases af H with ⟨q_2,H⟩|⟨q_2,H⟩
 ·cases H
  exact aK
 rcases af H with ⟨q_3,H⟩|⟨q_3,H⟩
 ·cases H
  exact aK
 refine bz ?_
 rcases af H with ⟨q_4,H⟩|⟨q_4,H⟩
 ·rcases af H with ⟨q_5,H⟩|⟨q_5,H⟩
  ·obtain ⟨r_6,c2,H⟩:=bd_ H
   replace c2:=Ej c2
   cases H
   exact aK
  cases H
  exact aK
 rcases af H with ⟨q_7,H⟩|⟨q_7,H⟩
 ·rcases af H with ⟨q_8,H⟩|⟨q_8,H⟩
  ·cases H
   exact aK
  refine bz ?_
  rcases af H with ⟨q_9,H⟩|⟨q_9,H⟩
  ·cases H
   exact aK
  cases H
  exact aK
 rcases af H with ⟨q_10,H⟩|⟨q_10,H⟩
 ·cases H
  exact aK
 refine bz ?_
 rcases af H with ⟨q_11,H⟩|⟨q_11,H⟩
 ·cases H
  exact aK
 cases H
 exact aK
set_option maxHeartbeats 8000000
def zf (a_a:Val) (a_b:Val) (a_is:Bool):Option (Int):=bif (decide (a_a.kind=(0:Int))) then some (1:Int) else
 bif (decide (a_a.kind≠a_b.kind)) then some (1:Int) else
 bif a_is then some (2:Int) else
 some (0:Int)
theorem Qn {a_a:Val} {a_b:Val} {a_is:Bool} {r:Int} (H:zf a_a a_b a_is=some r):Pure Tryz.prog 231 [.agg (cV a_a), .agg (cV a_b), .one (.bool a_is)] (.val (.one (.int .i64 r))):=by
 unfold zf at H
 refine po_ Tryz.func231 Tryz.ntmps231 ?_
 rcases af H with ⟨q_1,H⟩|⟨q_1,H⟩
 ·cases H
  exact aK
 rcases af H with ⟨q_2,H⟩|⟨q_2,H⟩
 ·cases H
  exact aK
 rcases af H with ⟨q_3,H⟩|⟨q_3,H⟩
 ·cases H
  exact aK
 cases H
 exact aK
def aej (a_a:Val) (a_b:Val):Option (Int):=(Bc a_a a_b).bind fun r_1=>(zf a_a a_b (decide (r_1=(0:Int)))).bind fun r_2=>some r_2
theorem adk {a_a:Val} {a_b:Val} {r:Int} (H:aej a_a a_b=some r):Pure Tryz.prog 188 [.agg (cV a_a), .agg (cV a_b)] (.val (.one (.int .i64 r))):=by
 unfold aej at H
 refine po_ Tryz.func188 Tryz.ntmps188 ?_
 obtain ⟨r_1,c1,H⟩:=bd_ H
 replace c1:=Ou c1
 obtain ⟨r_2,c2,H⟩:=bd_ H
 replace c2:=Qn c2
 cases H
 exact aK
def BS (a_a:Val) (a_b:Val):Option (Int):=(Bc a_a a_b).bind fun r_1=>(zf a_a a_b (decide (r_1<(0:Int)))).bind fun r_2=>some r_2
theorem Ct {a_a:Val} {a_b:Val} {r:Int} (H:BS a_a a_b=some r):Pure Tryz.prog 189 [.agg (cV a_a), .agg (cV a_b)] (.val (.one (.int .i64 r))):=by
 unfold BS at H
 refine po_ Tryz.func189 Tryz.ntmps189 ?_
 obtain ⟨r_1,c1,H⟩:=bd_ H
 replace c1:=Ou c1
 obtain ⟨r_2,c2,H⟩:=bd_ H
 replace c2:=Qn c2
 cases H
 exact aK
def uw (a_t:Int):Option (Int):=bif (decide (a_t≠(0:Int))) then bif (decide (a_t≠(2:Int))) then some (1:Int) else
 some a_t else
 some a_t
theorem EG {a_t:Int} {r:Int} (H:uw a_t=some r):Pure Tryz.prog 187 [.one (.int .i64 a_t)] (.val (.one (.int .i64 r))):=by
 unfold uw at H
 refine po_ Tryz.func187 Tryz.ntmps187 ?_
 rcases af H with ⟨q_1,H⟩|⟨q_1,H⟩
 ·rcases af H with ⟨q_2,H⟩|⟨q_2,H⟩
  ·cases H
   exact aK
  cases H
  exact aK
 cases H
 exact aK
def QJ (a_a:Int):Option (Int):=(uw a_a).bind fun r_1=>some (IntKind.i64.wrap ((2:Int)-r_1))
theorem yw {a_a:Int} {r:Int} (H:QJ a_a=some r):Pure Tryz.prog 180 [.one (.int .i64 a_a)] (.val (.one (.int .i64 r))):=by
 unfold QJ at H
 refine po_ Tryz.func180 Tryz.ntmps180 ?_
 obtain ⟨r_1,c1,H⟩:=bd_ H
 replace c1:=EG c1
 cases H
 exact aK
def Cn (a_l:(List Int)):(Int × Int)->Option (Step (Int × Int) (Int)):=fun s=>match s with
 | (t_1,v_2)=>bif (decide (v_2<((a_l.length:Nat):Int))) then (aT a_l v_2).bind fun x_4=>(uw x_4).bind fun r_5=>some (.next ((mnI t_1 r_5),(IntKind.i64.wrap (v_2+(1:Int))))) else
 some (.exit (t_1,v_2))
def Jf:Sum (Int × Int) (Int)->Option ((Int))
 | .inl (t_1,v_2)=>some t_1
 | .inr q=>some q
def Jl (a_l:(List Int)):Option (Int):=(az (Cn a_l) fuel ((2:Int),(0:Int))).bind (Jf)
theorem RO {a_l:(List Int)} {r:Int} (H:Jl a_l=some r):Pure Tryz.prog 229 [.one (.lst (a_l.map (fun x=>[AC.int .i64 x])))] (.val (.one (.int .i64 r))):=by
 unfold Jl at H
 refine po_ Tryz.func229 Tryz.ntmps229 ?_
 refine bz ?_
 refine alM_ (fun s:Int × Int=>match s with|(t_1,v_2)=>[(3, .one (.c (.int .i64 t_1))),(6, .one (.c (.lst (a_l.map (fun x=>[AC.int .i64 x]))))),(7, .one (.c (.int .i64 ((a_l.length:Nat):Int)))),(8, .one (.c (.int .i64 v_2)))]) (fun s=>match s with|(t_1,v_2)=>[]) H (fun _=>aqj _)
  (fm_ bY [] rfl bA trivial) ?_
 rintro ⟨t_1,v_2⟩ st1 hb1 hk1
 unfold Cn at hb1
 dsimp only at hb1 ⊢
 rcases af hb1 with ⟨q_3,hb1⟩|⟨q_3,hb1⟩
 ·obtain ⟨x_4,i1z,i1,i1x,hb1⟩:=bn (f:=(fun x=>[AC.int .i64 x])) hb1
  obtain ⟨r_5,c2,hb1⟩:=bd_ hb1
  replace c2:=EG c2
  cases hb1
  refine bz ?_
  exact ⟨_,rfl,fm_ bY [] rfl bA trivial⟩
 cases hb1
 have hx1:Jf (.inl (t_1,v_2))=some _:=hk1
 unfold Jf at hx1
 dsimp only at hx1
 cases hx1
 exact aK
def abC (a_a:Int) (a_b:Int):Option (Int):=(Jl [a_a,a_b]).bind fun r_1=>some r_1
theorem aj3 {a_a:Int} {a_b:Int} {r:Int} (H:abC a_a a_b=some r):Pure Tryz.prog 181 [.one (.int .i64 a_a), .one (.int .i64 a_b)] (.val (.one (.int .i64 r))):=by
 unfold abC at H
 refine po_ Tryz.func181 Tryz.ntmps181 ?_
 obtain ⟨r_1,c1,H⟩:=bd_ H
 replace c1:=RO c1
 try simp only [aqb,ap',aqd,ap5,aL] at c1
 cases H
 exact aK
def Qq (a_a:Int) (a_b:Int):Option (Int):=(QJ a_a).bind fun r_1=>(QJ a_b).bind fun r_2=>(Jl [r_1,r_2]).bind fun r_3=>(QJ r_3).bind fun r_4=>some r_4
theorem ahc {a_a:Int} {a_b:Int} {r:Int} (H:Qq a_a a_b=some r):Pure Tryz.prog 182 [.one (.int .i64 a_a), .one (.int .i64 a_b)] (.val (.one (.int .i64 r))):=by
 unfold Qq at H
 refine po_ Tryz.func182 Tryz.ntmps182 ?_
 obtain ⟨r_1,c1,H⟩:=bd_ H
 replace c1:=yw c1
 obtain ⟨r_2,c2,H⟩:=bd_ H
 replace c2:=yw c2
 obtain ⟨r_3,c3,H⟩:=bd_ H
 replace c3:=RO c3
 try simp only [aqb,ap',aqd,ap5,aL] at c3
 obtain ⟨r_4,c4,H⟩:=bd_ H
 replace c4:=yw c4
 cases H
 exact aK
def oO (a_v:Val):Option (Int):=(Ba true).bind fun r_1=>bif (dU [.c (.int .i64 a_v.kind), .c (.int .i64 a_v.int), .c (.str a_v.text)] [.c (.int .i64 r_1.kind), .c (.int .i64 r_1.int), .c (.str r_1.text)]) then some (2:Int) else
 (Ba false).bind fun r_3=>bif (dU [.c (.int .i64 a_v.kind), .c (.int .i64 a_v.int), .c (.str a_v.text)] [.c (.int .i64 r_3.kind), .c (.int .i64 r_3.int), .c (.str r_3.text)]) then some (0:Int) else
 some (1:Int)
theorem sJ {a_v:Val} {r:Int} (H:oO a_v=some r):Pure Tryz.prog 143 [.agg (cV a_v)] (.val (.one (.int .i64 r))):=by
 unfold oO at H
 refine po_ Tryz.func143 Tryz.ntmps143 ?_
 obtain ⟨r_1,c1,H⟩:=bd_ H
 replace c1:=xy c1
 rcases af H with ⟨q_2,H⟩|⟨q_2,H⟩
 ·cases H
  exact aK
 obtain ⟨r_3,c2,H⟩:=bd_ H
 replace c2:=xy c2
 rcases af H with ⟨q_4,H⟩|⟨q_4,H⟩
 ·cases H
  exact aK
 cases H
 exact aK
def Hg (a_t:Int):Option (Val):=(uw a_t).bind fun r_1=>bif (decide (r_1=(1:Int))) then (pI ).bind fun r_3=>some r_3 else
 (Ba (decide (r_1=(2:Int)))).bind fun r_4=>some r_4
theorem FN {a_t:Int} {r:Val} (H:Hg a_t=some r):Pure Tryz.prog 118 [.one (.int .i64 a_t)] (.val (.agg (cV r))):=by
 unfold Hg at H
 refine po_ Tryz.func118 Tryz.ntmps118 ?_
 obtain ⟨r_1,c1,H⟩:=bd_ H
 replace c1:=EG c1
 rcases af H with ⟨q_2,H⟩|⟨q_2,H⟩
 ·obtain ⟨r_3,c2,H⟩:=bd_ H
  replace c2:=gX c2
  cases H
  exact aK
 obtain ⟨r_4,c3,H⟩:=bd_ H
 replace c3:=xy c3
 cases H
 exact aK
set_option maxHeartbeats 8000000
def pE (a_op:Int) (a_a:Val) (a_b:Val):Option (Int):=bif (decide (a_op=(7:Int))) then (aej a_a a_b).bind fun r_2=>some r_2 else
 bif (decide (a_op=(8:Int))) then (aej a_a a_b).bind fun r_4=>(QJ r_4).bind fun r_5=>some r_5 else
 bif (decide (a_op=(9:Int))) then (BS a_a a_b).bind fun r_7=>some r_7 else
 bif (decide (a_op=(11:Int))) then (BS a_b a_a).bind fun r_9=>some r_9 else
 bif (decide (a_op=(10:Int))) then (BS a_b a_a).bind fun r_11=>(QJ r_11).bind fun r_12=>some r_12 else
 (BS a_a a_b).bind fun r_13=>(QJ r_13).bind fun r_14=>some r_14
theorem NC {a_op:Int} {a_a:Val} {a_b:Val} {r:Int} (H:pE a_op a_a a_b=some r):Pure Tryz.prog 119 [.one (.int .i64 a_op), .agg (cV a_a), .agg (cV a_b)] (.val (.one (.int .i64 r))):=by
 unfold pE at H
 refine po_ Tryz.func119 Tryz.ntmps119 ?_
 rcases af H with ⟨q_1,H⟩|⟨q_1,H⟩
 ·obtain ⟨r_2,c1,H⟩:=bd_ H
  replace c1:=adk c1
  cases H
  exact aK
 rcases af H with ⟨q_3,H⟩|⟨q_3,H⟩
 ·obtain ⟨r_4,c2,H⟩:=bd_ H
  replace c2:=adk c2
  obtain ⟨r_5,c3,H⟩:=bd_ H
  replace c3:=yw c3
  cases H
  exact aK
 refine bz ?_
 rcases af H with ⟨q_6,H⟩|⟨q_6,H⟩
 ·obtain ⟨r_7,c4,H⟩:=bd_ H
  replace c4:=Ct c4
  cases H
  exact aK
 rcases af H with ⟨q_8,H⟩|⟨q_8,H⟩
 ·obtain ⟨r_9,c5,H⟩:=bd_ H
  replace c5:=Ct c5
  cases H
  exact aK
 rcases af H with ⟨q_10,H⟩|⟨q_10,H⟩
 ·obtain ⟨r_11,c6,H⟩:=bd_ H
  replace c6:=Ct c6
  obtain ⟨r_12,c7,H⟩:=bd_ H
  replace c7:=yw c7
  cases H
  exact aK
 obtain ⟨r_13,c8,H⟩:=bd_ H
 replace c8:=Ct c8
 obtain ⟨r_14,c9,H⟩:=bd_ H
 replace c9:=yw c9
 cases H
 exact aK
def Dp (a_l:(List Val)):(Int × ByteArray × Int)->Option (Step (Int × ByteArray × Int) (Val)):=fun s=>match s with
 | (n_1,s_2,v_3)=>bif (decide (v_3<((a_l.length:Nat):Int))) then (aT a_l v_3).bind fun x_5=>bif (decide (x_5.kind≠(2:Int))) then (pI ).bind fun r_7=>some (.ret r_7) else
 bif (decide (s_2.size+x_5.text.size<=9223372036854775807)) then (some (.next ((IntKind.i64.wrap (n_1+((x_5.text.size:Nat):Int))),(s_2++x_5.text),(IntKind.i64.wrap (v_3+(1:Int)))))) else none else
 some (.exit (n_1,s_2,v_3))
def q8 (a_op:Int):Sum (Int × ByteArray × Int) (Val)->Option ((Val))
 | .inl (n_1,s_2,v_3)=>bif (decide (a_op=(20:Int))) then (uA n_1).bind fun r_9=>some r_9 else
 (JC s_2).bind fun r_10=>some r_10
 | .inr q=>some q
def AA (a_op:Int) (a_l:(List Val)):Option (Val):=(az (Dp a_l) fuel ((0:Int),(⟨#[]⟩:ByteArray),(0:Int))).bind (q8 a_op)
theorem SH {a_op:Int} {a_l:(List Val)} {r:Val} (H:AA a_op a_l=some r):Pure Tryz.prog 116 [.one (.int .i64 a_op), .one (.lst (a_l.map cV))] (.val (.agg (cV r))):=by
 unfold AA at H
 refine po_ Tryz.func116 Tryz.ntmps116 ?_
 refine bz ?_
 refine alM_ (fun s:Int × ByteArray × Int=>match s with|(n_1,s_2,v_3)=>[(0, .one (.c (.int .i64 a_op))),(4, .one (.ptr 0 0)),(5, .one (.c (.int .i64 n_1))),(6, .one (.c (.str s_2))),(9, .one (.c (.lst (a_l.map cV)))),(10, .one (.c (.int .i64 ((a_l.length:Nat):Int)))),(11, .one (.c (.int .i64 v_3)))]) (fun s=>match s with|(n_1,s_2,v_3)=>[.box [.c (.int .i64 (0:Int)), .c (.int .i64 (0:Int)), .c (.str ByteArray.empty)]]) H (fun _=>aqj _)
  (fm_ bY [] rfl bA cz) ?_
 rintro ⟨n_1,s_2,v_3⟩ st1 hb1 hk1
 unfold Dp at hb1
 dsimp only at hb1 ⊢
 rcases af hb1 with ⟨q_4,hb1⟩|⟨q_4,hb1⟩
 ·obtain ⟨x_5,i1z,i1,i1x,hb1⟩:=bn (f:=cV) hb1
  rcases af hb1 with ⟨q_6,hb1⟩|⟨q_6,hb1⟩
  ·obtain ⟨r_7,c2,hb1⟩:=bd_ hb1
   replace c2:=gX c2
   cases hb1
   have hx1:q8 a_op (.inr r_7)=some _:=hk1
   unfold q8 at hx1
   dsimp only at hx1
   cases hx1
   exact aK
  obtain ⟨g3,hb1⟩:=aS hb1
  cases hb1
  refine bz ?_
  exact ⟨_,rfl,fm_ bY [_] rfl bA cz⟩
 cases hb1
 have hx1:q8 a_op (.inl (n_1,s_2,v_3))=some _:=hk1
 unfold q8 at hx1
 dsimp only at hx1
 rcases af hx1 with ⟨q_8,hx1⟩|⟨q_8,hx1⟩
 ·obtain ⟨r_9,c4,hx1⟩:=bd_ hx1
  replace c4:=pK c4
  cases hx1
  exact aK
 obtain ⟨r_10,c5,hx1⟩:=bd_ hx1
 replace c5:=afo c5
 cases hx1
 exact aK
def BU (a_a:Int) (a_b:Int):Option (Val):=bif (decide (a_a≠(0:Int))) then bif (decide ((PW a_a (IntKind.i64.wrap (0-a_a)))≠0)) then (bif (decide ((IntKind.i64.wrap ((1125899906842624:Int).tdiv (PW a_a (IntKind.i64.wrap (0-a_a)))))<(PW a_b (IntKind.i64.wrap (0-a_b))))) then (pI ).bind fun r_3=>some r_3 else
 (uA (IntKind.i64.wrap (a_a*a_b))).bind fun r_4=>some r_4) else none else
 (uA (IntKind.i64.wrap (a_a*a_b))).bind fun r_5=>some r_5
theorem XN {a_a:Int} {a_b:Int} {r:Val} (H:BU a_a a_b=some r):Pure Tryz.prog 186 [.one (.int .i64 a_a), .one (.int .i64 a_b)] (.val (.agg (cV r))):=by
 unfold BU at H
 refine po_ Tryz.func186 Tryz.ntmps186 ?_
 rcases af H with ⟨q_1,H⟩|⟨q_1,H⟩
 ·obtain ⟨g1,H⟩:=aS H
  rcases af H with ⟨q_2,H⟩|⟨q_2,H⟩
  ·obtain ⟨r_3,c2,H⟩:=bd_ H
   replace c2:=gX c2
   cases H
   exact aK
  obtain ⟨r_4,c3,H⟩:=bd_ H
  replace c3:=pK c3
  cases H
  exact aK
 obtain ⟨r_5,c4,H⟩:=bd_ H
 replace c4:=pK c4
 cases H
 exact aK
set_option maxHeartbeats 8000000
def wU (a_l:(List Val)):(Int)->Option (Step (Int) (Val)):=fun s=>match s with
 | v_1=>bif (decide (v_1<((a_l.length:Nat):Int))) then (aT a_l v_1).bind fun x_3=>bif (decide (x_3.kind≠(1:Int))) then (pI ).bind fun r_5=>some (.ret r_5) else
 some (.next (IntKind.i64.wrap (v_1+(1:Int)))) else
 some (.exit v_1)
def qW (a_op:Int) (a_l:(List Val)):Sum (Int) (Val)->Option ((Val))
 | .inl v_1=>(aT a_l (0:Int)).bind fun x_6=>(aT a_l (IntKind.i64.wrap (((a_l.length:Nat):Int)-(1:Int)))).bind fun x_7=>bif (decide (a_op=(13:Int))) then (uA (IntKind.i64.wrap (x_6.int+x_7.int))).bind fun r_9=>some r_9 else
 bif (decide (a_op=(14:Int))) then (uA (IntKind.i64.wrap (x_6.int-x_7.int))).bind fun r_11=>some r_11 else
 bif (decide (a_op=(15:Int))) then (BU x_6.int x_7.int).bind fun r_13=>some r_13 else
 bif (decide (a_op=(18:Int))) then (uA (IntKind.i64.wrap (0-x_6.int))).bind fun r_15=>some r_15 else
 bif (decide (x_7.int=(0:Int))) then (pI ).bind fun r_17=>some r_17 else
 bif (decide (a_op=(16:Int))) then bif (decide (x_7.int≠0)) then ((uA (IntKind.i64.wrap (x_6.int.tdiv x_7.int))).bind fun r_19=>some r_19) else none else
 bif (decide (x_7.int≠0)) then ((uA (x_6.int.tmod x_7.int)).bind fun r_20=>some r_20) else none
 | .inr q=>some q
def qb (a_op:Int) (a_l:(List Val)):Option (Val):=(az (wU a_l) fuel (0:Int)).bind (qW a_op a_l)
theorem rq {a_op:Int} {a_l:(List Val)} {r:Val} (H:qb a_op a_l=some r):Pure Tryz.prog 117 [.one (.int .i64 a_op), .one (.lst (a_l.map cV))] (.val (.agg (cV r))):=by
 unfold qb at H
 refine po_ Tryz.func117 Tryz.ntmps117 ?_
 refine bz ?_
 refine alM_ (fun s:Int=>match s with|v_1=>[(0, .one (.c (.int .i64 a_op))),(1, .one (.c (.lst (a_l.map cV)))),(4, .one (.ptr 0 0)),(9, .one (.c (.lst (a_l.map cV)))),(10, .one (.c (.int .i64 ((a_l.length:Nat):Int)))),(11, .one (.c (.int .i64 v_1)))]) (fun s=>match s with|v_1=>[.box [.c (.int .i64 (0:Int)), .c (.int .i64 (0:Int)), .c (.str ByteArray.empty)]]) H (fun _=>aqj _)
  (fm_ bY [] rfl bA cz) ?_
 rintro v_1 st1 hb1 hk1
 unfold wU at hb1
 dsimp only at hb1 ⊢
 rcases af hb1 with ⟨q_2,hb1⟩|⟨q_2,hb1⟩
 ·obtain ⟨x_3,i1z,i1,i1x,hb1⟩:=bn (f:=cV) hb1
  rcases af hb1 with ⟨q_4,hb1⟩|⟨q_4,hb1⟩
  ·obtain ⟨r_5,c2,hb1⟩:=bd_ hb1
   replace c2:=gX c2
   cases hb1
   have hx1:qW a_op a_l (.inr r_5)=some _:=hk1
   unfold qW at hx1
   dsimp only at hx1
   cases hx1
   exact aK
  cases hb1
  refine bz ?_
  exact ⟨_,rfl,fm_ bY [_] rfl bA cz⟩
 cases hb1
 have hx1:qW a_op a_l (.inl v_1)=some _:=hk1
 unfold qW at hx1
 dsimp only at hx1
 obtain ⟨x_6,i3z,i3,i3x,hx1⟩:=bn (f:=cV) hx1
 obtain ⟨x_7,i4z,i4,i4x,hx1⟩:=bn (f:=cV) hx1
 rcases af hx1 with ⟨q_8,hx1⟩|⟨q_8,hx1⟩
 ·obtain ⟨r_9,c5,hx1⟩:=bd_ hx1
  replace c5:=pK c5
  cases hx1
  exact aK
 refine bz ?_
 rcases af hx1 with ⟨q_10,hx1⟩|⟨q_10,hx1⟩
 ·obtain ⟨r_11,c6,hx1⟩:=bd_ hx1
  replace c6:=pK c6
  cases hx1
  exact aK
 rcases af hx1 with ⟨q_12,hx1⟩|⟨q_12,hx1⟩
 ·obtain ⟨r_13,c7,hx1⟩:=bd_ hx1
  replace c7:=XN c7
  cases hx1
  exact aK
 rcases af hx1 with ⟨q_14,hx1⟩|⟨q_14,hx1⟩
 ·obtain ⟨r_15,c8,hx1⟩:=bd_ hx1
  replace c8:=pK c8
  cases hx1
  exact aK
 refine bz ?_
 rcases af hx1 with ⟨q_16,hx1⟩|⟨q_16,hx1⟩
 ·obtain ⟨r_17,c9,hx1⟩:=bd_ hx1
  replace c9:=gX c9
  cases hx1
  exact aK
 rcases af hx1 with ⟨q_18,hx1⟩|⟨q_18,hx1⟩
 ·obtain ⟨g10,hx1⟩:=aS hx1
  obtain ⟨r_19,c11,hx1⟩:=bd_ hx1
  replace c11:=pK c11
  cases hx1
  exact aK
 obtain ⟨g12,hx1⟩:=aS hx1
 obtain ⟨r_20,c13,hx1⟩:=bd_ hx1
 replace c13:=pK c13
 cases hx1
 exact aK
set_option maxHeartbeats 8000000
def Df (s_7:(List Val)):(Int × Int)->Option (Step (Int × Int) (Val)):=fun s=>match s with
 | (t_8,v_9)=>bif (decide (v_9<((s_7.length:Nat):Int))) then (aT s_7 v_9).bind fun x_11=>(oO x_11).bind fun r_12=>(abC t_8 r_12).bind fun r_13=>some (.next (r_13,(IntKind.i64.wrap (v_9+(1:Int))))) else
 some (.exit (t_8,v_9))
def Jw:Sum (Int × Int) (Val)->Option ((Val))
 | .inl (t_8,v_9)=>(Hg t_8).bind fun r_14=>some r_14
 | .inr q=>some q
def Dx (s_15:(List Val)):(Int × Int)->Option (Step (Int × Int) (Val)):=fun s=>match s with
 | (t_16,v_17)=>bif (decide (v_17<((s_15.length:Nat):Int))) then (aT s_15 v_17).bind fun x_19=>(oO x_19).bind fun r_20=>(Qq t_16 r_20).bind fun r_21=>some (.next (r_21,(IntKind.i64.wrap (v_17+(1:Int))))) else
 some (.exit (t_16,v_17))
def IQ:Sum (Int × Int) (Val)->Option ((Val))
 | .inl (t_16,v_17)=>(Hg t_16).bind fun r_22=>some r_22
 | .inr q=>some q
def rE (a_op:Int) (a_l:(List Val)):Option (Val):=(aT a_l (0:Int)).bind fun x_1=>(oO x_1).bind fun r_2=>bif (decide (a_op=(4:Int))) then (QJ r_2).bind fun r_4=>(Hg r_4).bind fun r_5=>some r_5 else
 bif (decide (a_op=(5:Int))) then (l6 a_l (1:Int) ((a_l.length:Nat):Int)).bind fun s_7=>(az (Df s_7) fuel (r_2,(0:Int))).bind (Jw) else
 (l6 a_l (1:Int) ((a_l.length:Nat):Int)).bind fun s_15=>(az (Dx s_15) fuel (r_2,(0:Int))).bind (IQ)
theorem JE {a_op:Int} {a_l:(List Val)} {r:Val} (H:rE a_op a_l=some r):Pure Tryz.prog 113 [.one (.int .i64 a_op), .one (.lst (a_l.map cV))] (.val (.agg (cV r))):=by
 unfold rE at H
 refine po_ Tryz.func113 Tryz.ntmps113 ?_
 obtain ⟨x_1,i1z,i1,i1x,H⟩:=bn (f:=cV) H
 obtain ⟨r_2,c2,H⟩:=bd_ H
 replace c2:=sJ c2
 rcases af H with ⟨q_3,H⟩|⟨q_3,H⟩
 ·obtain ⟨r_4,c3,H⟩:=bd_ H
  replace c3:=yw c3
  obtain ⟨r_5,c4,H⟩:=bd_ H
  replace c4:=FN c4
  cases H
  exact aK
 rcases af H with ⟨q_6,H⟩|⟨q_6,H⟩
 ·obtain ⟨s_7,u5,H⟩:=bd_ H
  obtain ⟨⟨u5a,u5b,u5c⟩,u5⟩:=gT u5
  have u5x:=K4 (f:=cV) u5
  repeat' (first|refine gs_ ?_|rw [u5x]|rw [show ((0:Nat):Int)=0 from rfl])
  refine alM_ (fun s:Int × Int=>match s with|(t_8,v_9)=>[(4, .one (.ptr 0 0)),(5, .one (.c (.int .i64 t_8))),(35, .one (.c (.lst (s_7.map cV)))),(36, .one (.c (.int .i64 ((s_7.length:Nat):Int)))),(37, .one (.c (.int .i64 v_9)))]) (fun s=>match s with|(t_8,v_9)=>[.box [.c (.int .i64 (0:Int)), .c (.int .i64 (0:Int)), .c (.str ByteArray.empty)]]) H (fun _=>aqj _)
   (fm_ bY [] rfl bA cz) ?_
  rintro ⟨t_8,v_9⟩ st1 hb1 hk1
  unfold Df at hb1
  dsimp only at hb1 ⊢
  repeat' (first|refine gs_ ?_|rw [u5x]|rw [show ((0:Nat):Int)=0 from rfl])
  rcases af hb1 with ⟨q_10,hb1⟩|⟨q_10,hb1⟩
  ·obtain ⟨x_11,i6z,i6,i6x,hb1⟩:=bn (f:=cV) hb1
   obtain ⟨r_12,c7,hb1⟩:=bd_ hb1
   replace c7:=sJ c7
   obtain ⟨r_13,c8,hb1⟩:=bd_ hb1
   replace c8:=aj3 c8
   cases hb1
   repeat' (first|refine gs_ ?_|rw [u5x]|rw [show ((0:Nat):Int)=0 from rfl])
   exact ⟨_,rfl,fm_ bY [_] rfl bA cz⟩
  cases hb1
  have hx1:Jw (.inl (t_8,v_9))=some _:=hk1
  unfold Jw at hx1
  dsimp only at hx1
  obtain ⟨r_14,c9,hx1⟩:=bd_ hx1
  replace c9:=FN c9
  cases hx1
  repeat' (first|refine gs_ ?_|rw [u5x]|rw [show ((0:Nat):Int)=0 from rfl])
  refine bL (bR rfl ?_ ?_)
  ·repeat' (first|exact trivial|rfl|exact ap_ rfl|omega|apply And.intro)
  ·first|rfl|(simp only [aqb,ap',aqd,ap5]<;>rfl)
 obtain ⟨s_15,u10,H⟩:=bd_ H
 obtain ⟨⟨u10a,u10b,u10c⟩,u10⟩:=gT u10
 have u10x:=K4 (f:=cV) u10
 repeat' (first|refine gs_ ?_|rw [u10x]|rw [show ((0:Nat):Int)=0 from rfl])
 refine alM_ (fun s:Int × Int=>match s with|(t_16,v_17)=>[(4, .one (.ptr 0 0)),(5, .one (.c (.int .i64 t_16))),(16, .one (.c (.lst (s_15.map cV)))),(17, .one (.c (.int .i64 ((s_15.length:Nat):Int)))),(18, .one (.c (.int .i64 v_17)))]) (fun s=>match s with|(t_16,v_17)=>[.box [.c (.int .i64 (0:Int)), .c (.int .i64 (0:Int)), .c (.str ByteArray.empty)]]) H (fun _=>aqj _)
  (fm_ bY [] rfl bA cz) ?_
 rintro ⟨t_16,v_17⟩ st2 hb2 hk2
 unfold Dx at hb2
 dsimp only at hb2 ⊢
 repeat' (first|refine gs_ ?_|rw [u10x]|rw [show ((0:Nat):Int)=0 from rfl])
 rcases af hb2 with ⟨q_18,hb2⟩|⟨q_18,hb2⟩
 ·obtain ⟨x_19,i11z,i11,i11x,hb2⟩:=bn (f:=cV) hb2
  obtain ⟨r_20,c12,hb2⟩:=bd_ hb2
  replace c12:=sJ c12
  obtain ⟨r_21,c13,hb2⟩:=bd_ hb2
  replace c13:=ahc c13
  cases hb2
  repeat' (first|refine gs_ ?_|rw [u10x]|rw [show ((0:Nat):Int)=0 from rfl])
  exact ⟨_,rfl,fm_ bY [_] rfl bA cz⟩
 cases hb2
 have hx2:IQ (.inl (t_16,v_17))=some _:=hk2
 unfold IQ at hx2
 dsimp only at hx2
 obtain ⟨r_22,c14,hx2⟩:=bd_ hx2
 replace c14:=FN c14
 cases hx2
 repeat' (first|refine gs_ ?_|rw [u10x]|rw [show ((0:Nat):Int)=0 from rfl])
 refine bL (bR rfl ?_ ?_)
 ·repeat' (first|exact trivial|rfl|exact ap_ rfl|omega|apply And.intro)
 ·first|rfl|(simp only [aqb,ap',aqd,ap5]<;>rfl)
set_option maxHeartbeats 8000000
def gAt (a_row:(List Val)) (a_i:Int):Option (Val):=bif (decide (a_i<(0:Int))) then (pI ).bind fun r_2=>some r_2 else
 bif (decide (((a_row.length:Nat):Int)<=a_i)) then (pI ).bind fun r_4=>some r_4 else
 (aT a_row a_i).bind fun x_5=>some x_5
theorem amn {a_row:(List Val)} {a_i:Int} {r:Val} (H:gAt a_row a_i=some r):Pure Tryz.prog 228 [.one (.lst (a_row.map cV)), .one (.int .i64 a_i)] (.val (.agg (cV r))):=by
 unfold gAt at H
 refine po_ Tryz.func228 Tryz.ntmps228 ?_
 rcases af H with ⟨q_1,H⟩|⟨q_1,H⟩
 ·obtain ⟨r_2,c1,H⟩:=bd_ H
  replace c1:=gX c1
  cases H
  exact aK
 rcases af H with ⟨q_3,H⟩|⟨q_3,H⟩
 ·obtain ⟨r_4,c2,H⟩:=bd_ H
  replace c2:=gX c2
  cases H
  exact aK
 obtain ⟨x_5,i3z,i3,i3x,H⟩:=bn (f:=cV) H
 cases H
 exact aK
def FT (a_row:(List Val)) (a_l:(List Int)):((List Val) × Int)->Option (Step ((List Val) × Int) ((List Val))):=fun s=>match s with
 | (out_1,v_2)=>bif (decide (v_2<((a_l.length:Nat):Int))) then (aT a_l v_2).bind fun x_4=>(gAt a_row x_4).bind fun r_5=>bif (decide (out_1.length+1<=4398046511104)) then (some (.next ((out_1++[r_5]),(IntKind.i64.wrap (v_2+(1:Int)))))) else none else
 some (.exit (out_1,v_2))
def OH:Sum ((List Val) × Int) ((List Val))->Option (((List Val)))
 | .inl (out_1,v_2)=>some out_1
 | .inr q=>some q
def XG (a_row:(List Val)) (a_l:(List Int)):Option ((List Val)):=bif (decide (0<=((a_l.length:Nat):Int))) then (bif (decide ((32:Int)*((a_l.length:Nat):Int)<=281474976710656)) then (bif (decide (((a_l.length:Nat):Int)<=9223372036854775807)) then ((az (FT a_row a_l) fuel ([],(0:Int))).bind (OH)) else none) else none) else none
theorem acu {p q:Prop} (k:q) (h:Bx q->p:=by
 intro hq
 repeat' (first|refine dS rfl rfl rfl rfl rfl (Bd tab_ok (k:=3) (by_:=32) rfl rfl rfl rfl rfl rfl (by decide) (by omega) (by omega) (by omega)) ?_|refine gs_ ?_|fail)
 exact hq.out):p:=h ⟨k⟩
theorem akZ {p:Prop} (h:p:=by
 repeat' (first|refine dS rfl rfl rfl rfl rfl (Bd tab_ok (k:=3) (by_:=32) rfl rfl rfl rfl rfl rfl (by decide) (by omega) (by omega) (by omega)) ?_|refine gs_ ?_|fail)
 refine bL (bR rfl ?_ ?_)
 ·repeat' (first|exact trivial|rfl|exact ap_ rfl|omega|apply And.intro)
 ·first|rfl|(simp only [aqb,ap',aqd,ap5]<;>rfl)):p:=h
theorem aik {a_row:(List Val)} {a_l:(List Int)} {r:(List Val)} (H:XG a_row a_l=some r):Pure Tryz.prog 179 [.one (.lst (a_row.map cV)), .one (.lst (a_l.map (fun x=>[AC.int .i64 x])))] (.val (.one (.lst (r.map cV)))):=by
 unfold XG at H
 refine po_ Tryz.func179 Tryz.ntmps179 ?_
 obtain ⟨g1,H⟩:=aS H
 obtain ⟨g2,H⟩:=aS H
 obtain ⟨g3,H⟩:=aS H
 refine acu ?_
 refine alM_ (fun s:(List Val) × Int=>match s with|(out_1,v_2)=>[(0, .one (.c (.lst (a_row.map cV)))),(5, .one (.own (out_1.map cV) 0)),(11, .one (.c (.lst (a_l.map (fun x=>[AC.int .i64 x]))))),(12, .one (.c (.int .i64 ((a_l.length:Nat):Int)))),(13, .one (.c (.int .i64 v_2)))]) (fun s=>match s with|(out_1,v_2)=>[.spare out_1.length 3]) H (fun _=>aqj _)
  (fm_ bY [] rfl bA cz) ?_
 rintro ⟨out_1,v_2⟩ st1 hb1 hk1
 unfold FT at hb1
 dsimp only at hb1 ⊢
 rcases af hb1 with ⟨q_3,hb1⟩|⟨q_3,hb1⟩
 ·obtain ⟨x_4,i4z,i4,i4x,hb1⟩:=bn (f:=(fun x=>[AC.int .i64 x])) hb1
  obtain ⟨r_5,c5,hb1⟩:=bd_ hb1
  replace c5:=amn c5
  obtain ⟨g6,hb1⟩:=aS hb1
  cases hb1
  refine acu ?_
  exact ⟨_,rfl,fm_ jD [] iR bA cz⟩
 cases hb1
 have hx1:OH (.inl (out_1,v_2))=some _:=hk1
 unfold OH at hx1
 dsimp only at hx1
 cases hx1
 exact akZ
def Ho (a_row:(List Val)) (a_i:Int):Option (Val):=(XG a_row [a_i]).bind fun r_1=>(aT r_1 (0:Int)).bind fun x_2=>(xZ x_2).bind fun r_3=>bif (!r_3) then (pI ).bind fun r_5=>some r_5 else
 some x_2
theorem Zu {a_row:(List Val)} {a_i:Int} {r:Val} (H:Ho a_row a_i=some r):Pure Tryz.prog 112 [.one (.lst (a_row.map cV)), .one (.int .i64 a_i)] (.val (.agg (cV r))):=by
 unfold Ho at H
 refine po_ Tryz.func112 Tryz.ntmps112 ?_
 obtain ⟨r_1,c1,H⟩:=bd_ H
 replace c1:=aik c1
 try simp only [aqb,ap',aqd,ap5,aL] at c1
 obtain ⟨x_2,i2z,i2,i2x,H⟩:=bn (f:=cV) H
 obtain ⟨r_3,c3,H⟩:=bd_ H
 replace c3:=Ej c3
 rcases af H with ⟨q_4,H⟩|⟨q_4,H⟩
 ·obtain ⟨r_5,c4,H⟩:=bd_ H
  replace c4:=gX c4
  cases H
  exact aK
 cases H
 exact aK
set_option maxHeartbeats 8000000
def afp (a_p:aP) (a_q:aP):Option (Int × Bool):=(YJ a_p).bind fun r_1=>bif (!r_1) then some ((0:Int),false) else
 (YJ a_q).bind fun r_3=>bif (!r_3) then some ((0:Int),false) else
 bif (decide (a_p.hi<a_q.lo)) then some ((0:Int),true) else
 bif (decide (a_p.hi=a_q.lo)) then some ((1:Int),true) else
 bif (decide (a_q.hi<a_p.lo)) then some ((12:Int),true) else
 bif (decide (a_q.hi=a_p.lo)) then some ((11:Int),true) else
 bif (dU [.c (.int .i64 a_p.lo), .c (.int .i64 a_p.hi)] [.c (.int .i64 a_q.lo), .c (.int .i64 a_q.hi)]) then some ((6:Int),true) else
 bif (decide (a_p.lo=a_q.lo)) then bif (decide (a_p.hi<a_q.hi)) then some ((3:Int),true) else
 some ((9:Int),true) else
 bif (decide (a_p.hi=a_q.hi)) then bif (decide (a_q.lo<a_p.lo)) then some ((5:Int),true) else
 some ((7:Int),true) else
 bif (decide (a_p.lo<a_q.lo)) then bif (decide (a_q.hi<a_p.hi)) then some ((8:Int),true) else
 bif (decide (a_q.lo<a_p.lo)) then bif (decide (a_p.hi<a_q.hi)) then some ((4:Int),true) else
 some ((2:Int),true) else
 some ((2:Int),true) else
 bif (decide (a_q.lo<a_p.lo)) then bif (decide (a_p.hi<a_q.hi)) then some ((4:Int),true) else
 some ((10:Int),true) else
 some ((10:Int),true)
theorem acP {a_p:aP} {a_q:aP} {r:Int × Bool} (H:afp a_p a_q=some r):Pure Tryz.prog 84 [.agg (bv a_p), .agg (bv a_q)] (.tup [.one (.int .i64 r.1), .one (.bool r.2)]):=by
 unfold afp at H
 refine po_ Tryz.func84 Tryz.ntmps84 ?_
 obtain ⟨r_1,c1,H⟩:=bd_ H
 replace c1:=yQ c1
 rcases af H with ⟨q_2,H⟩|⟨q_2,H⟩
 ·cases H
  exact aK
 obtain ⟨r_3,c2,H⟩:=bd_ H
 replace c2:=yQ c2
 rcases af H with ⟨q_4,H⟩|⟨q_4,H⟩
 ·cases H
  exact aK
 refine bz ?_
 rcases af H with ⟨q_5,H⟩|⟨q_5,H⟩
 ·cases H
  exact aK
 rcases af H with ⟨q_6,H⟩|⟨q_6,H⟩
 ·cases H
  exact aK
 rcases af H with ⟨q_7,H⟩|⟨q_7,H⟩
 ·cases H
  exact aK
 refine bz ?_
 rcases af H with ⟨q_8,H⟩|⟨q_8,H⟩
 ·cases H
  exact aK
 rcases af H with ⟨q_9,H⟩|⟨q_9,H⟩
 ·cases H
  exact aK
 rcases af H with ⟨q_10,H⟩|⟨q_10,H⟩
 ·refine bz ?_
  rcases af H with ⟨q_11,H⟩|⟨q_11,H⟩
  ·cases H
   exact aK
  cases H
  exact aK
 refine bz ?_
 rcases af H with ⟨q_12,H⟩|⟨q_12,H⟩
 ·rcases af H with ⟨q_13,H⟩|⟨q_13,H⟩
  ·cases H
   exact aK
  cases H
  exact aK
 rcases af H with ⟨q_14,H⟩|⟨q_14,H⟩
 ·rcases af H with ⟨q_15,H⟩|⟨q_15,H⟩
  ·cases H
   exact aK
  refine bz ?_
  rcases af H with ⟨q_16,H⟩|⟨q_16,H⟩
  ·rcases af H with ⟨q_17,H⟩|⟨q_17,H⟩
   ·cases H
    exact aK
   cases H
   exact aK
  cases H
  exact aK
 rcases af H with ⟨q_18,H⟩|⟨q_18,H⟩
 ·refine bz ?_
  rcases af H with ⟨q_19,H⟩|⟨q_19,H⟩
  ·cases H
   exact aK
  cases H
  exact aK
 cases H
 exact aK
end Go.Proofs.YtlcceppoloaecaaGreatDoor
