/- Parts of the proof, joined. No condition. -/
import Derived.Test.YtnbnpnmkgemdeaaGreatDoorKAA
import Derived.Test.YtnbnpnmkgemdeaaGreatDoorKAY
import Derived.Test.YtnbnpnmkgemdeaaGreatDoorKAJ
import Derived.Test.YtnbnpnmkgemdeaaGreatDoorKAR
import Derived.Test.YtnbnpnmkgemdeaaGreatDoorKAX
import Derived.Test.YtnbnpnmkgemdeaaGreatDoorKAO
import Derived.Test.YtnbnpnmkgemdeaaGreatDoorKAW
set_option linter.unusedSimpArgs false
set_option linter.unusedVariables false
namespace Go.Proofs.YtnbnpnmkgemdeaaGreatDoor
open Go.RowKit Go.MapKept
set_option maxRecDepth 100000
set_option maxHeartbeats 8000000
def ul (a_op:Int):Option (Int × Int):=bif (decide (a_op=(1:Int))) then some ((0:Int),(0:Int)) else
 bif (decide (a_op=(2:Int))) then some ((0:Int),(0:Int)) else
 bif (decide (a_op=(4:Int))) then some ((1:Int),(1:Int)) else
 bif (decide (a_op=(18:Int))) then some ((1:Int),(1:Int)) else
 bif (decide (a_op=(20:Int))) then some ((1:Int),(1:Int)) else
 bif (decide (a_op=(21:Int))) then some ((1:Int),(1:Int)) else
 bif (decide (a_op=(5:Int))) then some ((2:Int),(1099511627776:Int)) else
 bif (decide (a_op=(6:Int))) then some ((2:Int),(1099511627776:Int)) else
 bif (decide (a_op=(7:Int))) then some ((2:Int),(2:Int)) else
 bif (decide (a_op=(8:Int))) then some ((2:Int),(2:Int)) else
 bif (decide (a_op=(9:Int))) then some ((2:Int),(2:Int)) else
 bif (decide (a_op=(10:Int))) then some ((2:Int),(2:Int)) else
 bif (decide (a_op=(11:Int))) then some ((2:Int),(2:Int)) else
 bif (decide (a_op=(12:Int))) then some ((2:Int),(2:Int)) else
 bif (decide (a_op=(13:Int))) then some ((2:Int),(2:Int)) else
 bif (decide (a_op=(14:Int))) then some ((2:Int),(2:Int)) else
 bif (decide (a_op=(15:Int))) then some ((2:Int),(2:Int)) else
 bif (decide (a_op=(16:Int))) then some ((2:Int),(2:Int)) else
 bif (decide (a_op=(17:Int))) then some ((2:Int),(2:Int)) else
 bif (decide (a_op=(19:Int))) then some ((2:Int),(2:Int)) else
 bif (decide (a_op=(22:Int))) then some ((3:Int),(3:Int)) else
 bif (decide (a_op=(23:Int))) then some ((1:Int),(1099511627776:Int)) else
 bif (decide (a_op=(24:Int))) then some ((4:Int),(4:Int)) else
 some ((-1:Int),(0:Int))
def jE (a_e:Ex):Option (Bool):=(ul a_e.op).bind fun r_1=>bif (decide (r_1.1<(0:Int))) then some false else
 bif (decide (((a_e.args.length:Nat):Int)<r_1.1)) then some false else
 bif (decide (r_1.2<((a_e.args.length:Nat):Int))) then some false else
 bif (!(a_e.nm.toList==(⟨#[]⟩:ByteArray).toList)) then some false else
 bif (decide (a_e.op=(1:Int))) then bif (decide (a_e.int=(0:Int))) then (dx a_e.v).bind fun r_8=>some r_8 else
 some false else
 bif (decide (a_e.op=(2:Int))) then (dK ).bind fun r_10=>some (cB [.c (.int .i64 a_e.v.kind), .c (.int .i64 a_e.v.int), .c (.str a_e.v.text)] [.c (.int .i64 r_10.kind), .c (.int .i64 r_10.int), .c (.str r_10.text)]) else
 bif (decide (a_e.op=(24:Int))) then (dK ).bind fun r_12=>bif (cB [.c (.int .i64 a_e.v.kind), .c (.int .i64 a_e.v.int), .c (.str a_e.v.text)] [.c (.int .i64 r_12.kind), .c (.int .i64 r_12.int), .c (.str r_12.text)]) then bif (decide ((0:Int)<=a_e.int)) then some (decide (a_e.int<(13:Int))) else
 some false else
 some false else
 bif (decide (a_e.int=(0:Int))) then (dK ).bind fun r_16=>some (cB [.c (.int .i64 a_e.v.kind), .c (.int .i64 a_e.v.int), .c (.str a_e.v.text)] [.c (.int .i64 r_16.kind), .c (.int .i64 r_16.int), .c (.str r_16.text)]) else
 some false
set_option maxHeartbeats 8000000
def fZ (a_op:Int) (a_a:Val) (a_b:Val):Option (Int):=bif (decide (a_op=(7:Int))) then (Oo a_a a_b).bind fun r_2=>some r_2 else
 bif (decide (a_op=(8:Int))) then (Oo a_a a_b).bind fun r_4=>(BL r_4).bind fun r_5=>some r_5 else
 bif (decide (a_op=(9:Int))) then (sF a_a a_b).bind fun r_7=>some r_7 else
 bif (decide (a_op=(11:Int))) then (sF a_b a_a).bind fun r_9=>some r_9 else
 bif (decide (a_op=(10:Int))) then (sF a_b a_a).bind fun r_11=>(BL r_11).bind fun r_12=>some r_12 else
 (sF a_a a_b).bind fun r_13=>(BL r_13).bind fun r_14=>some r_14
def NP (a_n:Int):Option (Int):=some (M4 a_n (IntKind.i64.wrap (0-a_n)))
def dm (a_op:Int) (a_a:Int) (a_b:Int):Option (Val):=bif (decide (a_op=(13:Int))) then (nR (IntKind.i64.wrap (a_a+a_b))).bind fun r_2=>some r_2 else
 bif (decide (a_op=(14:Int))) then (nR (IntKind.i64.wrap (a_a-a_b))).bind fun r_4=>some r_4 else
 bif (decide (a_op=(15:Int))) then bif (decide (a_a≠(0:Int))) then (NP a_b).bind fun r_7=>(NP a_a).bind fun r_8=>bif (decide (r_8≠0)) then (bif (decide ((IntKind.i64.wrap ((1125899906842624:Int).tdiv r_8))<r_7)) then (dK ).bind fun r_10=>some r_10 else
 (nR (IntKind.i64.wrap (a_a*a_b))).bind fun r_11=>some r_11) else none else
 (nR (IntKind.i64.wrap (a_a*a_b))).bind fun r_12=>some r_12 else
 bif (decide (a_b=(0:Int))) then (dK ).bind fun r_14=>some r_14 else
 bif (decide (a_op=(16:Int))) then bif (decide (a_b≠0)) then ((nR (IntKind.i64.wrap (a_a.tdiv a_b))).bind fun r_16=>some r_16) else none else
 bif (decide (a_b≠0)) then ((nR (a_a.tmod a_b)).bind fun r_17=>some r_17) else none
def A9 (a_l:(List Val)) (a_kind:Int):(Int)->Option (Step (Int) (Bool)):=fun s=>match s with
 | i_1=>bif (decide (i_1<((a_l.length:Nat):Int))) then (au a_l i_1).bind fun x_3=>bif (decide (x_3.kind≠a_kind)) then some (.ret false) else
 some (.next (IntKind.i64.wrap (i_1+(1:Int)))) else
 some (.exit i_1)
def ya:Sum (Int) (Bool)->Option ((Bool))
 | .inl i_1=>some true
 | .inr q=>some q
def IX (a_l:(List Val)) (a_kind:Int):Option (Bool):=(ah (A9 a_l a_kind) fuel (0:Int)).bind (ya)
def mH (a_op:Int) (a_l:(List Val)):(Int × Int)->Option (Step (Int × Int) (Val)):=fun s=>match s with
 | (t_3,i_4)=>bif (decide (i_4<((a_l.length:Nat):Int))) then bif (decide (a_op=(5:Int))) then (au a_l i_4).bind fun x_7=>(dN x_7).bind fun r_8=>(Ct t_3 r_8).bind fun r_9=>some (.next (r_9,(IntKind.i64.wrap (i_4+(1:Int))))) else
 (au a_l i_4).bind fun x_10=>(dN x_10).bind fun r_11=>(Li t_3 r_11).bind fun r_12=>some (.next (r_12,(IntKind.i64.wrap (i_4+(1:Int))))) else
 some (.exit (t_3,i_4))
def vS:Sum (Int × Int) (Val)->Option ((Val))
 | .inl (t_3,i_4)=>(Ap t_3).bind fun r_13=>some r_13
 | .inr q=>some q
def uT (a_op:Int) (a_l:(List Val)):Option (Val):=(au a_l (0:Int)).bind fun x_1=>(dN x_1).bind fun r_2=>(ah (mH a_op a_l) fuel (r_2,(1:Int))).bind (vS)
set_option maxHeartbeats 8000000
def iq (a_rel:Int) (a_p:eG) (a_q:eG):Option (Bool):=bif (decide (a_rel=(0:Int))) then some (decide (a_p.hi<a_q.lo)) else
 bif (decide (a_rel=(1:Int))) then some (decide (a_p.hi=a_q.lo)) else
 bif (decide (a_rel=(2:Int))) then bif (decide (a_p.lo<a_q.lo)) then bif (decide (a_q.lo<a_p.hi)) then some (decide (a_p.hi<a_q.hi)) else
 some false else
 some false else
 bif (decide (a_rel=(3:Int))) then bif (decide (a_p.lo=a_q.lo)) then some (decide (a_p.hi<a_q.hi)) else
 some false else
 bif (decide (a_rel=(4:Int))) then bif (decide (a_q.lo<a_p.lo)) then some (decide (a_p.hi<a_q.hi)) else
 some false else
 bif (decide (a_rel=(5:Int))) then bif (decide (a_p.hi=a_q.hi)) then some (decide (a_q.lo<a_p.lo)) else
 some false else
 bif (decide (a_rel=(6:Int))) then some (cB [.c (.int .i64 a_p.lo), .c (.int .i64 a_p.hi)] [.c (.int .i64 a_q.lo), .c (.int .i64 a_q.hi)]) else
 bif (decide (a_rel=(7:Int))) then bif (decide (a_p.hi=a_q.hi)) then some (decide (a_p.lo<a_q.lo)) else
 some false else
 bif (decide (a_rel=(8:Int))) then bif (decide (a_p.lo<a_q.lo)) then some (decide (a_q.hi<a_p.hi)) else
 some false else
 bif (decide (a_rel=(9:Int))) then bif (decide (a_p.lo=a_q.lo)) then some (decide (a_q.hi<a_p.hi)) else
 some false else
 bif (decide (a_rel=(10:Int))) then bif (decide (a_q.lo<a_p.lo)) then bif (decide (a_p.lo<a_q.hi)) then some (decide (a_q.hi<a_p.hi)) else
 some false else
 some false else
 bif (decide (a_rel=(11:Int))) then some (decide (a_q.hi=a_p.lo)) else
 bif (decide (a_rel=(12:Int))) then some (decide (a_q.hi<a_p.lo)) else
 some false
def xe (a_rel:Int) (a_p:eG) (a_q:eG):Option (Bool):=(oz a_p).bind fun r_1=>bif r_1 then (oz a_q).bind fun r_3=>bif r_3 then (iq a_rel a_p a_q).bind fun r_5=>some r_5 else
 some false else
 some false
def oM (a_p:eG) (a_q:eG):(Int)->Option (Step (Int) (Int × Bool)):=fun s=>match s with
 | rel_1=>bif (decide (rel_1<(13:Int))) then (xe rel_1 a_p a_q).bind fun r_3=>bif r_3 then some (.ret (rel_1,true)) else
 some (.next (IntKind.i64.wrap (rel_1+(1:Int)))) else
 some (.exit rel_1)
def sZ:Sum (Int) (Int × Bool)->Option ((Int × Bool))
 | .inl rel_1=>some ((0:Int),false)
 | .inr q=>some q
def IR (a_p:eG) (a_q:eG):Option (Int × Bool):=(ah (oM a_p a_q) fuel (0:Int)).bind (sZ)
set_option maxHeartbeats 8000000
def oZ (a_rel:Int) (a_l:(List Val)):Option (Val):=(IX a_l (1:Int)).bind fun r_1=>bif (!r_1) then (dK ).bind fun r_3=>some r_3 else
 (au a_l (0:Int)).bind fun x_4=>(au a_l (1:Int)).bind fun x_5=>(au a_l (2:Int)).bind fun x_6=>(au a_l (3:Int)).bind fun x_7=>(IR (⟨x_4.int,x_5.int⟩:eG) (⟨x_6.int,x_7.int⟩:eG)).bind fun r_8=>bif (!r_8.2) then (dK ).bind fun r_10=>some r_10 else
 (qi (decide (r_8.1=a_rel))).bind fun r_11=>some r_11
def sW (a_op:Int) (a_l:(List Val)):Option (Val):=(IX a_l (2:Int)).bind fun r_1=>bif (!r_1) then (dK ).bind fun r_3=>some r_3 else
 bif (decide (a_op=(19:Int))) then (au a_l (0:Int)).bind fun x_5=>(au a_l (1:Int)).bind fun x_6=>bif (decide (x_5.text.size+x_6.text.size<=9223372036854775807)) then ((Ch (x_5.text++x_6.text)).bind fun r_7=>some r_7) else none else
 (au a_l (0:Int)).bind fun x_8=>(nR ((x_8.text.size:Nat):Int)).bind fun r_9=>some r_9
def qI (a_l:(List Val)):(Int)->Option (Step (Int) (Val)):=fun s=>match s with
 | i_7=>bif (decide (i_7<((a_l.length:Nat):Int))) then (au a_l i_7).bind fun x_9=>bif (decide (x_9.kind≠(0:Int))) then some (.ret x_9) else
 some (.next (IntKind.i64.wrap (i_7+(1:Int)))) else
 some (.exit i_7)
def mK:Sum (Int) (Val)->Option ((Val))
 | .inl i_7=>(dK ).bind fun r_11=>some r_11
 | .inr q=>some q
def qx (a_op:Int) (a_l:(List Val)):Option (Val):=bif (decide (a_op=(22:Int))) then (au a_l (0:Int)).bind fun x_2=>(dN x_2).bind fun r_3=>bif (decide (r_3=(2:Int))) then (au a_l (1:Int)).bind fun x_5=>some x_5 else
 (au a_l (2:Int)).bind fun x_6=>some x_6 else
 (ah (qI a_l) fuel (0:Int)).bind (mK)
def zT (a_e:Ex) (a_row:(List Val)):Option (Val):=bif (decide (a_e.op=(2:Int))) then (LW a_row a_e.int).bind fun r_2=>(dx r_2).bind fun r_3=>bif (!r_3) then (dK ).bind fun r_5=>some r_5 else
 some r_2 else
 (dx a_e.v).bind fun r_6=>bif (!r_6) then (dK ).bind fun r_8=>some r_8 else
 some a_e.v
set_option maxHeartbeats 8000000
theorem kQ {α β ρ:Type} {l:List α} {body:(List β × Int)->Option (Step (List β × Int) ρ)} (g:α->List β) (N:Nat) (h1 : ∀ (s:List β) (i:Nat) x,l[i]?=some x->s.length+(g x).length<=N->body (s,(i:Int))=some (.next (s++g x,((i+1:Nat):Int)))) (h2 : ∀ s:List β,body (s,((l.length:Nat):Int))=some (.exit (s,((l.length:Nat):Int)))) (hl:l.length<fuel) (s:List β) (hN:s.length+(l.flatMap g).length<=N) :
  ah body fuel (s,(0:Int))=some (.inl (s++l.flatMap g,((l.length:Nat):Int))):=by
 have key : ∀ (n i:Nat) (s:List β),i<=l.length->l.length-i<n->s.length+((l.drop i).flatMap g).length<=N->ah body n (s,(i:Int))=some (.inl (s++(l.drop i).flatMap g,((l.length:Nat):Int))):=by
  intro n
  induction n with
  | zero=>intro i s _ h _;omega
  | succ n ih =>
   intro i s hi hn hs
   rw [ah]
   by_cases hlt:i<l.length
   ·obtain ⟨x,hx⟩:=gol_ hlt
    have e1:=(YY.1 hx).2
    rw [Zv hlt,e1,ZC] at hs ⊢
    rw [Y6] at hs
    rw [h1 s i x hx (by omega)]
    show ah body n _=_
    rw [ih (i+1) (s++g x) (by omega) (by omega) (by rw [Y6];omega),Zp]
   ·have:i=l.length:=by omega
    subst this
    rw [h2,ZO]
    simp
 have:=key fuel 0 s (Zj _) (by omega) (by simpa using hN)
 simpa using this
instance decRow (a b : List Val) : Decidable (a = b) := if h : dP a b = 0 then .isTrue (tCr_.zero _ _ h) else .isFalse fun e => h (by rw [e]; exact tCr_.refl _)
set_option maxHeartbeats 8000000
abbrev bR (p:eG):Bool:=decide (0<=p.lo)&&decide (p.lo<p.hi)&&decide (p.hi<=1099511627776)
theorem KR (p:eG):Tw p=some (bR p):=by
 unfold Tw bR
 cases h1:decide (0<=p.lo)<;>cases h2:decide (p.lo<p.hi)<;>cases h3:decide (p.hi<=1099511627776)<;>simp_all
theorem fo_ {α β:Type} (f:α->β) : ∀ l:List α,(l.flatMap fun x=>[f x])=l.map f
 | []=>rfl
 | x::l=>by rw [ZC,fo_ f l];rfl
theorem BC (p:eG):oz p=some (bR p):=by
 unfold oz bR
 cases h1:decide (0<=p.lo)<;>cases h2:decide (p.lo<p.hi)<;>cases h3:decide (p.hi<=1099511627776)<;>simp_all
def gY:Val:=⟨0,0,ByteArray.empty⟩
theorem kJ:jM=some gY:=rfl
theorem bO:dK=some gY:=rfl
def vF (v:Val):Bool:=(dx v).getD false
theorem iJ (v:Val):dx v=some (vF v):=by
 obtain ⟨r,hr⟩:=DK v
 unfold vF
 rw [hr];rfl
theorem wV (v:Val):lT v=some (vF v):=(show lT v=dx v from rfl).trans (iJ v)
def zV (v:Val):Val:=bif vF v then v else gY
theorem wS (v:Val):qp v=some (zV v):=by
 unfold qp zV
 rw [wV,YX,kJ]
 cases vF v<;>rfl
theorem Bu (v:Val):qP v=some (zV v):=by
 unfold qP zV
 rw [iJ,YX,bO]
 cases vF v<;>rfl
theorem lh:vF gY=true:=by
 have e:(ByteArray.empty.toList==(⟨#[]⟩:ByteArray).toList)=true:=by rw [ByteArray.toList_eq,ByteArray.toList_eq];rfl
 unfold vF dx gY
 dsimp only
 rw [e];rfl
theorem mD (v:Val):vF (zV v)=true:=by
 unfold zV
 cases h:vF v with
 | true=>exact h
 | false=>exact lh
def eF (b:Bool):Val:=bif b then ⟨3,1,ByteArray.empty⟩ else ⟨3,0,ByteArray.empty⟩
theorem E9 (b:Bool):sw b=some (eF b):=by cases b<;>rfl
theorem jT (b:Bool):qi b=some (eF b):=by cases b<;>rfl
theorem A_ (b:Bool):vF (eF b)=true:=by
 have e:(ByteArray.empty.toList==(⟨#[]⟩:ByteArray).toList)=true:=by rw [ByteArray.toList_eq,ByteArray.toList_eq];rfl
 unfold vF dx eF
 cases b<;>(dsimp only [cond_true,cond_false];rw [e];rfl)
theorem kL (n:Int):jN n=some (zV ⟨1,n,ByteArray.empty⟩):=by unfold jN;rw [wS];rfl
theorem ji (n:Int):nR n=some (zV ⟨1,n,ByteArray.empty⟩):=by unfold nR;rw [Bu];rfl
theorem NS (s:ByteArray):y9 s=some (zV ⟨2,0,s⟩):=by unfold y9;rw [wS];rfl
theorem OX (s:ByteArray):Ch s=some (zV ⟨2,0,s⟩):=by unfold Ch;rw [Bu];rfl
def T3 (t:Int):Prop:=t=0\/t=1\/t=2
theorem wu (v:Val) : ∃ t,kC v=some t/\dN v=some t/\T3 t:=by
 have e:kC v=dN v:=rfl
 have h : ∃ t,dN v=some t/\T3 t:=by
  unfold dN
  rw [jT,jT]
  simp only [YX]
  cases cB [.c (.int .i64 v.kind), .c (.int .i64 v.int), .c (.str v.text)] [.c (.int .i64 (eF true).kind), .c (.int .i64 (eF true).int), .c (.str (eF true).text)] with
  | true=>exact ⟨2,rfl, .inr (.inr rfl)⟩
  | false =>
   rw [YZ]
   cases cB [.c (.int .i64 v.kind), .c (.int .i64 v.int), .c (.str v.text)] [.c (.int .i64 (eF false).kind), .c (.int .i64 (eF false).int), .c (.str (eF false).text)] with
   | true=>exact ⟨0,rfl, .inl rfl⟩
   | false=>exact ⟨1,rfl, .inr (.inl rfl)⟩
 obtain ⟨t,h1,h2⟩:=h
 exact ⟨t,e.trans h1,h1,h2⟩
def tF_ (v:Val):Int:=(dN v).getD 1
theorem iT (v:Val):kC v=some (tF_ v):=by obtain ⟨t,h1,h2,_⟩:=wu v;unfold tF_;rw [h1,h2];rfl
theorem jV (v:Val):dN v=some (tF_ v):=by obtain ⟨t,h1,h2,_⟩:=wu v;unfold tF_;rw [h2];rfl
theorem h_ (v:Val):T3 (tF_ v):=by obtain ⟨t,h1,h2,h3⟩:=wu v;unfold tF_;rw [h2];exact h3
def Da (a:Int):Int:=if a=2 then 0 else if a=0 then 2 else 1
def Ei (a b:Int):Int:=if a=0\/b=0 then 0 else if a=2/\b=2 then 2 else 1
def Rs (a b:Int):Int:=if a=2\/b=2 then 2 else if a=0/\b=0 then 0 else 1
theorem qA (a:Int):T3 (Da a):=by unfold Da;split;exact .inl rfl;split;exact .inr (.inr rfl);exact .inr (.inl rfl)
theorem Hg (a b:Int):T3 (Ei a b):=by unfold Ei;split;exact .inl rfl;split;exact .inr (.inr rfl);exact .inr (.inl rfl)
theorem KO (a b:Int):T3 (Rs a b):=by unfold Rs;split;exact .inr (.inr rfl);split;exact .inl rfl;exact .inr (.inl rfl)
theorem uQ {a:Int} (h:T3 a):Er a=some (Da a):=by rcases h with rfl|rfl|rfl<;>rfl
theorem xS {a:Int} (h:T3 a):BL a=some (Da a):=by rcases h with rfl|rfl|rfl<;>rfl
theorem C9 {a:Int} (h:T3 a):nS a=some a:=by rcases h with rfl|rfl|rfl<;>rfl
theorem FW {a b:Int} (ha:T3 a) (hb:T3 b):y_ [a,b]=some (WS (WS 2 a) b):=by
 unfold y_
 rw [bE (l:=[a,b]) (mk:=fun t i=>(t,i)) (f:=fun t x=>(nS x).bind fun r=>some (.inl (WS t r))) ?_ ?_ (by unfold fuel;simp) 2]
 ·simp only [bU,C9 ha,C9 hb,YX]
  rfl
 ·intro s i x hx
  have hi:=(YY.1 hx).1
  unfold uB
  dsimp only
  rw [aU hx,Y0,gn_ hx,wrapN (by simp at hi;omega)]
  simp only [YX]
  cases nS x<;>rfl
 ·intro s
  unfold uB
  dsimp only
  rw [lF_,YZ]
theorem Tg {a b:Int} (ha:T3 a) (hb:T3 b):KN a b=some (Ei a b):=by
 unfold KN
 rw [FW ha hb]
 rcases ha with rfl|rfl|rfl<;>rcases hb with rfl|rfl|rfl<;>rfl
theorem QR {a b:Int} (ha:T3 a) (hb:T3 b):Ct a b=some (Ei a b):=by
 rcases ha with rfl|rfl|rfl<;>rcases hb with rfl|rfl|rfl<;>rfl
theorem UE {a b:Int} (ha:T3 a) (hb:T3 b):Dy a b=some (Rs a b):=by
 unfold Dy
 rw [uQ ha,uQ hb]
 simp only [YX]
 rw [FW (qA a) (qA b)]
 rcases ha with rfl|rfl|rfl<;>rcases hb with rfl|rfl|rfl<;>rfl
theorem RY {a b:Int} (ha:T3 a) (hb:T3 b):Li a b=some (Rs a b):=by
 rcases ha with rfl|rfl|rfl<;>rcases hb with rfl|rfl|rfl<;>rfl
def w_ (t:Int):Val:=if t=2 then eF true else if t=0 then eF false else gY
theorem jr {t:Int} (h:T3 t):x8 t=some (w_ t):=by rcases h with rfl|rfl|rfl<;>rfl
theorem nU {t:Int} (h:T3 t):Ap t=some (w_ t):=by rcases h with rfl|rfl|rfl<;>rfl
theorem rD (t:Int):vF (w_ t)=true:=by
 unfold w_
 split
 ·exact A_ _
 ·split
  ·exact A_ _
  ·exact lh
def Ma (a b:Val) (is:Bool):Int:=if a.kind=0\/a.kind≠b.kind then 1 else bif is then 2 else 0
theorem M0 (a b:Val) (is:Bool):T3 (Ma a b is):=by
 unfold Ma
 split
 ·exact .inr (.inl rfl)
 ·cases is
  ·exact .inl rfl
  ·exact .inr (.inr rfl)
theorem wQ (a b:Val) (is:Bool):ry a b is=some (Ma a b is):=by
 unfold ry Ma
 by_cases h1:a.kind=0
 ·simp [h1]
 ·by_cases h2:a.kind=b.kind
  ·have hb : ¬ b.kind=0:=by rw [<- h2];exact h1
   simp only [h2,Y1 hb,YZ,ne_eq,not_true_eq_false,decide_false,or_false]
   rw [if_neg hb]
   cases is<;>rfl
  ·simp only [Y1 h1,YZ,ne_eq,h2,not_false_eq_true,decide_true,Y0,or_true,if_true]
theorem BZ (a b:Val) (is:Bool):uK a b is=some (Ma a b is):=(show uK a b is=ry a b is from rfl).trans (wQ a b is)
def V3 (a b:Val):Int:=Ma a b (decide (sG a b=0))
def TV (a b:Val):Int:=Ma a b (decide (sG a b<0))
theorem SK (a b:Val):OP a b=some (V3 a b):=by unfold OP;rw [xz,YX,wQ];rfl
theorem RS (a b:Val):Oo a b=some (V3 a b):=by unfold Oo;rw [Cm,YX,BZ];rfl
theorem OU (a b:Val):sH a b=some (TV a b):=by unfold sH;rw [xz,YX,wQ];rfl
theorem Oy (a b:Val):sF a b=some (TV a b):=by unfold sF;rw [Cm,YX,BZ];rfl
def qO (op:Int) (a b:Val):Int:=if op=7 then V3 a b else if op=8 then Da (V3 a b) else if op=9 then TV a b else if op=11 then TV b a else if op=10 then Da (TV b a) else Da (TV a b)
theorem Le (a b:Val):T3 (V3 a b):=M0 _ _ _
theorem yN (a b:Val):T3 (TV a b):=M0 _ _ _
theorem iG (op:Int) (a b:Val):T3 (qO op a b):=by
 unfold qO
 split
 ·exact Le _ _
 split
 ·exact qA _
 split
 ·exact yN _ _
 split
 ·exact yN _ _
 split
 ·exact qA _
 ·exact qA _
theorem eP (op:Int) (a b:Val):kW op a b=some (qO op a b):=by
 unfold kW qO
 simp only [SK,OU,YX,uQ (Le a b),uQ (yN a b),uQ (yN b a)]
 by_cases h1:op=7
 ·simp [h1]
 by_cases h2:op=8
 ·simp [h2]
 by_cases h3:op=9
 ·simp [h3]
 by_cases h4:op=11
 ·simp [h4]
 by_cases h5:op=10
 ·simp [h5]
 simp [h1,h2,h3,h4,h5]
theorem ig (op:Int) (a b:Val):fZ op a b=some (qO op a b):=by
 unfold fZ qO
 simp only [RS,Oy,YX,xS (Le a b),xS (yN a b),xS (yN b a)]
 by_cases h1:op=7
 ·simp [h1]
 by_cases h2:op=8
 ·simp [h2]
 by_cases h3:op=9
 ·simp [h3]
 by_cases h4:op=11
 ·simp [h4]
 by_cases h5:op=10
 ·simp [h5]
 simp [h1,h2,h3,h4,h5]
def dZ (p q:eG):Int :=
 if p.hi<q.lo then 0 else if p.hi=q.lo then 1 else if q.hi<p.lo then 12 else if q.hi=p.lo then 11 else if p.lo=q.lo/\p.hi=q.hi then 6
 else if p.lo=q.lo then (if p.hi<q.hi then 3 else 9) else if p.hi=q.hi then (if q.lo<p.lo then 5 else 7)
 else if p.lo<q.lo/\q.hi<p.hi then 8 else if q.lo<p.lo/\p.hi<q.hi then 4 else if p.lo<q.lo then 2 else 10
theorem di (p q:eG):cB [.c (.int .i64 p.lo), .c (.int .i64 p.hi)] [.c (.int .i64 q.lo), .c (.int .i64 q.hi)]=decide (p.lo=q.lo/\p.hi=q.hi):=by
 simp [cB]
theorem Nf (p q:eG):Ph p q=some (if bR p=true/\bR q=true then (dZ p q,true) else (0,false)):=by
 unfold Ph
 rw [KR,KR]
 simp only [YX]
 cases hp:bR p with
 | false=>simp
 | true =>
  cases hq:bR q with
  | false=>simp
  | true =>
   simp only [Bool.not_true,YZ,and_self,if_true,di]
   unfold dZ
   by_cases h1:p.hi<q.lo
   ·simp only [Bool.cond_decide,eq_true h1,if_true,if_false,and_true,true_and,and_false,false_and,and_self]
   by_cases h2:p.hi=q.lo
   ·simp only [Bool.cond_decide,eq_true h2,eq_false h1,if_true,if_false,and_true,true_and,and_false,false_and,and_self]
   by_cases h3:q.hi<p.lo
   ·simp only [Bool.cond_decide,eq_true h3,eq_false h1,eq_false h2,if_true,if_false,and_true,true_and,and_false,false_and,and_self]
   by_cases h4:q.hi=p.lo
   ·simp only [Bool.cond_decide,eq_true h4,eq_false h1,eq_false h2,eq_false h3,if_true,if_false,and_true,true_and,and_false,false_and,and_self]
   by_cases h5:p.lo=q.lo
   ·by_cases h6:p.hi=q.hi
    ·simp only [Bool.cond_decide,eq_true h5,eq_true h6,eq_false h1,eq_false h2,eq_false h3,eq_false h4,if_true,if_false,and_true,true_and,and_false,false_and,and_self]
    ·by_cases h7:p.hi<q.hi
     ·simp only [Bool.cond_decide,eq_true h5,eq_true h7,eq_false h1,eq_false h2,eq_false h3,eq_false h4,eq_false h6,if_true,if_false,and_true,true_and,and_false,false_and,and_self]
     ·simp only [Bool.cond_decide,eq_true h5,eq_false h1,eq_false h2,eq_false h3,eq_false h4,eq_false h6,eq_false h7,if_true,if_false,and_true,true_and,and_false,false_and,and_self]
   ·by_cases h6:p.hi=q.hi
    ·by_cases h7:q.lo<p.lo
     ·simp only [Bool.cond_decide,eq_true h6,eq_true h7,eq_false h1,eq_false h2,eq_false h3,eq_false h4,eq_false h5,if_true,if_false,and_true,true_and,and_false,false_and,and_self]
     ·simp only [Bool.cond_decide,eq_true h6,eq_false h1,eq_false h2,eq_false h3,eq_false h4,eq_false h5,eq_false h7,if_true,if_false,and_true,true_and,and_false,false_and,and_self]
    ·by_cases h7:p.lo<q.lo
     ·by_cases h8:q.hi<p.hi
      ·simp only [Bool.cond_decide,eq_true h7,eq_true h8,eq_false h1,eq_false h2,eq_false h3,eq_false h4,eq_false h5,eq_false h6,if_true,if_false,and_true,true_and,and_false,false_and,and_self]
      ·by_cases h9:q.lo<p.lo
       ·omega
       ·simp only [Bool.cond_decide,eq_true h7,eq_false h1,eq_false h2,eq_false h3,eq_false h4,eq_false h5,eq_false h6,eq_false h8,eq_false h9,if_true,if_false,and_true,true_and,and_false,false_and,and_self]
     ·by_cases h8:q.lo<p.lo
      ·by_cases h9:p.hi<q.hi
       ·simp only [Bool.cond_decide,eq_true h8,eq_true h9,eq_false h1,eq_false h2,eq_false h3,eq_false h4,eq_false h5,eq_false h6,eq_false h7,if_true,if_false,and_true,true_and,and_false,false_and,and_self]
       ·simp only [Bool.cond_decide,eq_true h8,eq_false h1,eq_false h2,eq_false h3,eq_false h4,eq_false h5,eq_false h6,eq_false h7,eq_false h9,if_true,if_false,and_true,true_and,and_false,false_and,and_self]
      ·omega
theorem qL {p:eG} (h:bR p=true):0<=p.lo/\p.lo<p.hi/\p.hi<=1099511627776:=by
 unfold bR at h
 simp only [Zg,decide_eq_true_eq] at h
 omega
theorem PP {p q:eG} (hp:0<=p.lo/\p.lo<p.hi) (hq:0<=q.lo/\q.lo<q.hi):dZ p q=0↔p.hi<q.lo:=by
 unfold dZ
 repeat' split
 all_goals (constructor<;>intro h<;>omega)
theorem Uy (p q:eG):iq 0 p q=some (decide (p.hi<q.lo)):=by
 unfold iq
 simp only [Int.reduceEq,decide_false,decide_true,Y0,YZ,di]<;>rfl
theorem Q8 {p q:eG} (hp:0<=p.lo/\p.lo<p.hi) (hq:0<=q.lo/\q.lo<q.hi):dZ p q=1↔p.hi=q.lo:=by
 unfold dZ
 repeat' split
 all_goals (constructor<;>intro h<;>omega)
theorem Uu (p q:eG):iq 1 p q=some (decide (p.hi=q.lo)):=by
 unfold iq
 simp only [Int.reduceEq,decide_false,decide_true,Y0,YZ,di]<;>rfl
theorem QT {p q:eG} (hp:0<=p.lo/\p.lo<p.hi) (hq:0<=q.lo/\q.lo<q.hi):dZ p q=2↔p.lo<q.lo/\q.lo<p.hi/\p.hi<q.hi:=by
 unfold dZ
 repeat' split
 all_goals (constructor<;>intro h<;>omega)
theorem U_ (p q:eG):iq 2 p q=some (decide (p.lo<q.lo/\q.lo<p.hi/\p.hi<q.hi)):=by
 unfold iq
 simp only [Int.reduceEq,decide_false,decide_true,Y0,YZ,di]
 by_cases h0:p.lo<q.lo<;>by_cases h1:q.lo<p.hi<;>simp [h0,h1]
theorem Qw {p q:eG} (hp:0<=p.lo/\p.lo<p.hi) (hq:0<=q.lo/\q.lo<q.hi):dZ p q=3↔p.lo=q.lo/\p.hi<q.hi:=by
 unfold dZ
 repeat' split
 all_goals (constructor<;>intro h<;>omega)
theorem UQ (p q:eG):iq 3 p q=some (decide (p.lo=q.lo/\p.hi<q.hi)):=by
 unfold iq
 simp only [Int.reduceEq,decide_false,decide_true,Y0,YZ,di]
 by_cases h0:p.lo=q.lo<;>simp [h0]
theorem Qi {p q:eG} (hp:0<=p.lo/\p.lo<p.hi) (hq:0<=q.lo/\q.lo<q.hi):dZ p q=4↔q.lo<p.lo/\p.hi<q.hi:=by
 unfold dZ
 repeat' split
 all_goals (constructor<;>intro h<;>omega)
theorem UU (p q:eG):iq 4 p q=some (decide (q.lo<p.lo/\p.hi<q.hi)):=by
 unfold iq
 simp only [Int.reduceEq,decide_false,decide_true,Y0,YZ,di]
 by_cases h0:q.lo<p.lo<;>simp [h0]
theorem Qc {p q:eG} (hp:0<=p.lo/\p.lo<p.hi) (hq:0<=q.lo/\q.lo<q.hi):dZ p q=5↔p.hi=q.hi/\q.lo<p.lo:=by
 unfold dZ
 repeat' split
 all_goals (constructor<;>intro h<;>omega)
theorem TW (p q:eG):iq 5 p q=some (decide (p.hi=q.hi/\q.lo<p.lo)):=by
 unfold iq
 simp only [Int.reduceEq,decide_false,decide_true,Y0,YZ,di]
 by_cases h0:p.hi=q.hi<;>simp [h0]
theorem Pv {p q:eG} (hp:0<=p.lo/\p.lo<p.hi) (hq:0<=q.lo/\q.lo<q.hi):dZ p q=6↔p.lo=q.lo/\p.hi=q.hi:=by
 unfold dZ
 repeat' split
 all_goals (constructor<;>intro h<;>omega)
theorem U2 (p q:eG):iq 6 p q=some (decide (p.lo=q.lo/\p.hi=q.hi)):=by
 unfold iq
 simp only [Int.reduceEq,decide_false,decide_true,Y0,YZ,di]<;>rfl
theorem QX {p q:eG} (hp:0<=p.lo/\p.lo<p.hi) (hq:0<=q.lo/\q.lo<q.hi):dZ p q=7↔p.hi=q.hi/\p.lo<q.lo:=by
 unfold dZ
 repeat' split
 all_goals (constructor<;>intro h<;>omega)
theorem Uw (p q:eG):iq 7 p q=some (decide (p.hi=q.hi/\p.lo<q.lo)):=by
 unfold iq
 simp only [Int.reduceEq,decide_false,decide_true,Y0,YZ,di]
 by_cases h0:p.hi=q.hi<;>simp [h0]
theorem PZ {p q:eG} (hp:0<=p.lo/\p.lo<p.hi) (hq:0<=q.lo/\q.lo<q.hi):dZ p q=8↔p.lo<q.lo/\q.hi<p.hi:=by
 unfold dZ
 repeat' split
 all_goals (constructor<;>intro h<;>omega)
theorem UV (p q:eG):iq 8 p q=some (decide (p.lo<q.lo/\q.hi<p.hi)):=by
 unfold iq
 simp only [Int.reduceEq,decide_false,decide_true,Y0,YZ,di]
 by_cases h0:p.lo<q.lo<;>simp [h0]
theorem QQ {p q:eG} (hp:0<=p.lo/\p.lo<p.hi) (hq:0<=q.lo/\q.lo<q.hi):dZ p q=9↔p.lo=q.lo/\q.hi<p.hi:=by
 unfold dZ
 repeat' split
 all_goals (constructor<;>intro h<;>omega)
theorem UX (p q:eG):iq 9 p q=some (decide (p.lo=q.lo/\q.hi<p.hi)):=by
 unfold iq
 simp only [Int.reduceEq,decide_false,decide_true,Y0,YZ,di]
 by_cases h0:p.lo=q.lo<;>simp [h0]
theorem Ox {p q:eG} (hp:0<=p.lo/\p.lo<p.hi) (hq:0<=q.lo/\q.lo<q.hi):dZ p q=10↔q.lo<p.lo/\p.lo<q.hi/\q.hi<p.hi:=by
 unfold dZ
 repeat' split
 all_goals (constructor<;>intro h<;>omega)
theorem SC (p q:eG):iq 10 p q=some (decide (q.lo<p.lo/\p.lo<q.hi/\q.hi<p.hi)):=by
 unfold iq
 simp only [Int.reduceEq,decide_false,decide_true,Y0,YZ,di]
 by_cases h0:q.lo<p.lo<;>by_cases h1:p.lo<q.hi<;>simp [h0,h1]
theorem N8 {p q:eG} (hp:0<=p.lo/\p.lo<p.hi) (hq:0<=q.lo/\q.lo<q.hi):dZ p q=11↔q.hi=p.lo:=by
 unfold dZ
 repeat' split
 all_goals (constructor<;>intro h<;>omega)
theorem Te (p q:eG):iq 11 p q=some (decide (q.hi=p.lo)):=by
 unfold iq
 simp only [Int.reduceEq,decide_false,decide_true,Y0,YZ,di]<;>rfl
theorem NZ {p q:eG} (hp:0<=p.lo/\p.lo<p.hi) (hq:0<=q.lo/\q.lo<q.hi):dZ p q=12↔q.hi<p.lo:=by
 unfold dZ
 repeat' split
 all_goals (constructor<;>intro h<;>omega)
theorem Tf (p q:eG):iq 12 p q=some (decide (q.hi<p.lo)):=by
 unfold iq
 simp only [Int.reduceEq,decide_false,decide_true,Y0,YZ,di]<;>rfl
theorem ww (p q:eG):0<=dZ p q/\dZ p q<13:=by
 unfold dZ
 repeat' split
 all_goals omega
theorem QL {rel:Int} (h : ¬ (0<=rel/\rel<13)) (p q:eG):iq rel p q=some false:=by
 unfold iq
 rw [Y1 (show ¬ rel=0 by omega),YZ]
 rw [Y1 (show ¬ rel=1 by omega),YZ]
 rw [Y1 (show ¬ rel=2 by omega),YZ]
 rw [Y1 (show ¬ rel=3 by omega),YZ]
 rw [Y1 (show ¬ rel=4 by omega),YZ]
 rw [Y1 (show ¬ rel=5 by omega),YZ]
 rw [Y1 (show ¬ rel=6 by omega),YZ]
 rw [Y1 (show ¬ rel=7 by omega),YZ]
 rw [Y1 (show ¬ rel=8 by omega),YZ]
 rw [Y1 (show ¬ rel=9 by omega),YZ]
 rw [Y1 (show ¬ rel=10 by omega),YZ]
 rw [Y1 (show ¬ rel=11 by omega),YZ]
 rw [Y1 (show ¬ rel=12 by omega),YZ]
theorem QJ {p q:eG} (hp:bR p=true) (hq:bR q=true) (rel:Int):iq rel p q=some (decide (dZ p q=rel)):=by
 obtain ⟨p1,p2,p3⟩:=qL hp
 obtain ⟨q1,q2,q3⟩:=qL hq
 by_cases hr:0<=rel/\rel<13
 ·have:rel=0\/rel=1\/rel=2\/rel=3\/rel=4\/rel=5\/rel=6\/rel=7\/rel=8\/rel=9\/rel=10\/rel=11\/rel=12:=by omega
  rcases this with rfl|rfl|rfl|rfl|rfl|rfl|rfl|rfl|rfl|rfl|rfl|rfl|rfl
  ·rw [Uy];congr 1;rw [decide_eq_decide,PP ⟨p1,p2⟩ ⟨q1,q2⟩]
  ·rw [Uu];congr 1;rw [decide_eq_decide,Q8 ⟨p1,p2⟩ ⟨q1,q2⟩]
  ·rw [U_];congr 1;rw [decide_eq_decide,QT ⟨p1,p2⟩ ⟨q1,q2⟩]
  ·rw [UQ];congr 1;rw [decide_eq_decide,Qw ⟨p1,p2⟩ ⟨q1,q2⟩]
  ·rw [UU];congr 1;rw [decide_eq_decide,Qi ⟨p1,p2⟩ ⟨q1,q2⟩]
  ·rw [TW];congr 1;rw [decide_eq_decide,Qc ⟨p1,p2⟩ ⟨q1,q2⟩]
  ·rw [U2];congr 1;rw [decide_eq_decide,Pv ⟨p1,p2⟩ ⟨q1,q2⟩]
  ·rw [Uw];congr 1;rw [decide_eq_decide,QX ⟨p1,p2⟩ ⟨q1,q2⟩]
  ·rw [UV];congr 1;rw [decide_eq_decide,PZ ⟨p1,p2⟩ ⟨q1,q2⟩]
  ·rw [UX];congr 1;rw [decide_eq_decide,QQ ⟨p1,p2⟩ ⟨q1,q2⟩]
  ·rw [SC];congr 1;rw [decide_eq_decide,Ox ⟨p1,p2⟩ ⟨q1,q2⟩]
  ·rw [Te];congr 1;rw [decide_eq_decide,N8 ⟨p1,p2⟩ ⟨q1,q2⟩]
  ·rw [Tf];congr 1;rw [decide_eq_decide,NZ ⟨p1,p2⟩ ⟨q1,q2⟩]
 ·rw [QL hr,Y1]
  have:=ww p q
  omega
theorem Di (rel:Int) (p q:eG):xe rel p q=some (bR p&&(bR q&&decide (dZ p q=rel))):=by
 unfold xe
 rw [BC,BC]
 simp only [YX]
 cases hp:bR p with
 | false=>rfl
 | true =>
  cases hq:bR q with
  | false=>rfl
  | true=>rw [QJ hp hq];rfl
theorem I5 (p q:eG) (h:bR p=true/\bR q=true) : ∀ (n i:Nat),(i:Int)<=dZ p q->13-i<n->ah (oM p q) n (i:Int)=some (.inr (dZ p q,true))
 | 0,i,_,h2=>by omega
 | n+1,i,h1,h2=>by
  have hr:=ww p q
  rw [ah]
  unfold oM
  dsimp only
  rw [Y2 (show (i:Int)<13 by omega),Y0,Di,YX,h.1,h.2,wrapN (by omega)]
  by_cases e:dZ p q=i
  ·rw [e];simp
  ·simp only [Zx,Y1 e,YZ]
   exact I5 p q h n (i+1) (by omega) (by omega)
theorem JG (p q:eG) (h : ¬ (bR p=true/\bR q=true)) : ∀ (n i:Nat),i<=13->13-i<n->ah (oM p q) n (i:Int)=some (.inl ((13:Nat):Int))
 | 0,i,_,h2=>by omega
 | n+1,i,h1,h2=>by
  rw [ah]
  unfold oM
  dsimp only
  by_cases hi:i=13
  ·subst hi;rfl
  ·rw [Y2 (show (i:Int)<13 by omega),Y0,Di,YX,wrapN (by omega)]
   have:(bR p&&(bR q&&decide (dZ p q=i)))=false:=by
    cases hp:bR p<;>cases hq:bR q<;>simp_all
   rw [this,YZ]
   exact JG p q h n (i+1) (by omega) (by omega)
theorem PD (p q:eG):IR p q=some (if bR p=true/\bR q=true then (dZ p q,true) else (0,false)):=by
 unfold IR
 by_cases h:bR p=true/\bR q=true
 ·have:=I5 p q h fuel 0 (ww p q).1 (by unfold fuel;omega)
  rw [show ((0:Nat):Int)=0 from rfl] at this
  rw [this,if_pos h];rfl
 ·have:=JG p q h fuel 0 (by omega) (by unfold fuel;omega)
  rw [show ((0:Nat):Int)=0 from rfl] at this
  rw [this,if_neg h];rfl
def pG (row:List Val) (i:Int):Val:=if 0<=i then (row[i.toNat]?).getD gY else gY
theorem Rk (row:List Val) (i:Int):Vy row i=some (pG row i):=by
 unfold Vy pG
 by_cases h1:i<0
 ·rw [Y2 h1,Y0,if_neg (by omega)];rfl
 ·rw [Y1 h1,YZ,if_pos (by omega)]
  by_cases h2:((row.length:Nat):Int)<=i
  ·rw [Y2 h2,Y0,List.getElem?_eq_none (by omega)];rfl
  ·rw [Y1 h2,YZ]
   obtain ⟨x,hx⟩:=gol_ (show i.toNat<row.length by omega)
   unfold au
   rw [if_pos (by omega),hx];rfl
theorem SI (row:List Val) (i:Int):LW row i=some (pG row i):=(show LW row i=Vy row i from rfl).trans (Rk row i)
theorem OI (row:List Val) (i:Int):Kl row [i]=some [pG row i]:=by
 unfold Kl
 simp only [Zk,Zu]
 rw [show decide ((0:Int)<=(((0+1:Nat)):Int))=true from rfl,show decide ((32:Int)*(((0+1:Nat)):Int)<=281474976710656)=true from rfl,show decide ((((0+1:Nat)):Int)<=9223372036854775807)=true from rfl]
 simp only [Y0]
 rw [bE (l:=[i]) (mk:=fun t i=>(t,i)) (f:=push (pG row) 4398046511104) ?_ ?_ (by unfold fuel;simp) []]
 ·rw [u_ _ _ _ _ (by simp)];rfl
 ·intro s j x hx
  have hi:=(YY.1 hx).1
  unfold ym push
  dsimp only
  rw [aU hx,Y0,gn_ hx]
  simp only [YX]
  rw [Rk,YX,wrapN (by simp at hi;omega)]
  cases decide (s.length+1<=4398046511104)<;>rfl
 ·intro s
  unfold ym
  dsimp only
  rw [lF_,YZ]
theorem K3 (row:List Val) (i:Int):xu row i=some (zV (pG row i)):=by
 unfold xu
 rw [OI,YX,show au [pG row i] (0:Int)=some (pG row i) from rfl,YX,wV,YX,kJ]
 unfold zV
 cases vF (pG row i)<;>rfl
theorem Gm (e:Ex) (row:List Val) (h:e.op=2):zT e row=some (zV (pG row e.int)):=by
 unfold zT
 rw [h,show decide ((2:Int)=2)=true from rfl,Y0,SI,YX,iJ,YX,bO]
 unfold zV
 cases vF (pG row e.int)<;>rfl
theorem z8 (e:Ex) (row:List Val) (h:e.op=1) (hv:vF e.v=true):zT e row=some e.v:=by
 unfold zT
 rw [h,show decide ((1:Int)=2)=false from rfl,YZ,iJ,YX,hv]
 rfl
def dR (l:List Val) (k:Int):Bool:=l.all fun v=>decide (v.kind=k)
theorem lM (l:List Val) (k:Int) (hl:l.length<=1000000):IX l k=some (dR l k):=by
 unfold IX
 rw [bE (l:=l) (mk:=fun (_:Unit) i=>i) (f:=fun _ v=>some (if v.kind≠k then .inr false else .inl ())) ?_ ?_ (by unfold fuel;omega) ()]
 ·have : ∀ l:List Val,bU (ρ:=Bool) (fun (_:Unit) (v:Val)=>some (if v.kind≠k then .inr false else .inl ())) () l=some (if dR l k=true then .inl () else .inr false):=by
   intro l
   induction l with
   | nil=>rfl
   | cons v l ih =>
    rw [bU]
    by_cases h:v.kind=k
    ·simp only [ne_eq,h,not_true_eq_false,if_false]
     rw [ih];simp [dR,h]
    ·simp [dR,h]
  rw [this]
  cases dR l k<;>rfl
 ·intro s i x hx
  have hi:=(YY.1 hx).1
  unfold A9
  dsimp only
  rw [aU hx,Y0,gn_ hx,wrapN (by omega)]
  simp only [YX]
  by_cases h:x.kind=k
  ·simp [h,o7]
  ·simp [h,o7]
 ·intro s
  unfold A9
  dsimp only
  rw [lF_,YZ]
def yg (f:Int->Int->Int) (l:List Val) (t:Int):Int:=l.foldl (fun t v=>f t (tF_ v)) t
theorem AQ {f:Int->Int->Int} (hf : ∀ a b,T3 (f a b)) : ∀ (l:List Val) (t:Int),T3 t->T3 (yg f l t)
 | [],t,h=>h
 | v::l,t,h=>AQ hf l _ (hf _ _)
theorem xW {f:Int->Int->Int} (hf : ∀ a b,T3 (f a b)) {g:Int->Int->Option Int} (hg : ∀ a b,T3 a->T3 b->g a b=some (f a b)) : ∀ (l:List Val) (t:Int),T3 t->bU (ρ:=Val) (fun t v=>(g t (tF_ v)).bind fun r=>some (.inl r)) t l=some (.inl (yg f l t))
 | [],t,h=>rfl
 | v::l,t,h=>by
  rw [bU,hg _ _ h (h_ v)]
  exact xW hf hg l _ (hf _ _)
theorem KH (x:Val) (l:List Val) (hl:l.length<=1000000):nC 5 (x::l)=some (w_ (yg Ei l (tF_ x))):=by
 unfold nC
 rw [show au (x::l) (0:Int)=some x from rfl,YX,iT,YX,show decide ((5:Int)=4)=false from rfl,YZ,show decide ((5:Int)=5)=true from rfl,Y0]
 rw [show pK (x::l) (1:Int) (((x::l).length:Nat):Int)=some l by unfold pK;rw [if_pos (by simp only [Zk];omega)];simp,YX]
 rw [bE (l:=l) (mk:=fun t i=>(t,i)) (f:=fun t v=>(KN t (tF_ v)).bind fun r=>some (.inl r)) ?_ ?_ (by unfold fuel;omega) (tF_ x)]
 ·rw [xW Hg (fun a b ha hb=>Tg ha hb) l _ (h_ x)]
  show (x8 (yg Ei l (tF_ x))).bind _=_
  rw [jr (AQ Hg l _ (h_ x))];rfl
 ·intro s i v hv
  have hi:=(YY.1 hv).1
  unfold uE
  dsimp only
  rw [aU hv,Y0,gn_ hv,wrapN (by omega)]
  simp only [YX]
  rw [iT,YX]
  cases KN s (tF_ v)<;>rfl
 ·intro s
  unfold uE
  dsimp only
  rw [lF_,YZ]
theorem OJ (x:Val) (l:List Val) (hl:l.length<=1000000):nC 6 (x::l)=some (w_ (yg Rs l (tF_ x))):=by
 unfold nC
 rw [show au (x::l) (0:Int)=some x from rfl,YX,iT,YX,show decide ((6:Int)=4)=false from rfl,YZ,show decide ((6:Int)=5)=false from rfl,YZ]
 rw [show pK (x::l) (1:Int) (((x::l).length:Nat):Int)=some l by unfold pK;rw [if_pos (by simp only [Zk];omega)];simp,YX]
 rw [bE (l:=l) (mk:=fun t i=>(t,i)) (f:=fun t v=>(Dy t (tF_ v)).bind fun r=>some (.inl r)) ?_ ?_ (by unfold fuel;omega) (tF_ x)]
 ·rw [xW KO (fun a b ha hb=>UE ha hb) l _ (h_ x)]
  show (x8 (yg Rs l (tF_ x))).bind _=_
  rw [jr (AQ KO l _ (h_ x))];rfl
 ·intro s i v hv
  have hi:=(YY.1 hv).1
  unfold vg
  dsimp only
  rw [aU hv,Y0,gn_ hv,wrapN (by omega)]
  simp only [YX]
  rw [iT,YX]
  cases Dy s (tF_ v)<;>rfl
 ·intro s
  unfold vg
  dsimp only
  rw [lF_,YZ]
theorem LV (x:Val):nC 4 [x]=some (w_ (Da (tF_ x))):=by
 unfold nC
 rw [show au [x] (0:Int)=some x from rfl,YX,iT,YX,show decide ((4:Int)=4)=true from rfl,Y0,uQ (h_ x),YX,jr (qA _)];rfl
theorem DD (op:Int) (f:Int->Int->Int) (hf : ∀ a b,T3 (f a b)) (hop : ∀ a b,T3 a->T3 b->(bif decide (op=5) then Ct a b else Li a b)=some (f a b)) (x:Val) (l:List Val) (hl:l.length<=1000000):uT op (x::l)=some (w_ (yg f l (tF_ x))):=by
 unfold uT
 rw [show au (x::l) (0:Int)=some x from rfl,YX,jV,YX]
 have:=Ij (l:=x::l) (body:=mH op (x::l)) (ρ:=Val) (mk:=fun t i=>(t,i)) (f:=fun t v=>(bif decide (op=5) then Ct t (tF_ v) else Li t (tF_ v)).bind fun r=>some (.inl r)) (by
  intro s i v hv
  have hi:=(YY.1 hv).1
  unfold mH
  dsimp only
  rw [aU hv,Y0,gn_ hv,wrapN (by simp at hi;omega)]
  simp only [YX,jV]
  cases decide (op=5)
  ·simp only [YZ];cases Li s (tF_ v)<;>rfl
  ·simp only [Y0];cases Ct s (tF_ v)<;>rfl) (by
  intro s
  unfold mH
  dsimp only
  rw [lF_,YZ]) fuel 1 (tF_ x) (by simp) (by unfold fuel;simp;omega)
 rw [show ((1:Nat):Int)=1 from rfl] at this
 rw [this]
 have h2:=xW hf hop l (tF_ x) (h_ x)
 rw [show (x::l).drop 1=l from rfl,h2]
 show (Ap (yg f l (tF_ x))).bind _=_
 rw [nU (AQ hf l _ (h_ x))];rfl
theorem ma (s:ByteArray):(s.toList==(⟨#[]⟩:ByteArray).toList)=true↔s=ByteArray.empty:=by
 rw [beq_iff_eq,ByteArray.toList_eq,ByteArray.toList_eq]
 constructor
 ·intro h
  have:s.data.toList=[]:=h
  obtain ⟨d⟩:=s
  obtain ⟨l⟩:=d
  simp at this
  subst this;rfl
 ·rintro rfl;rfl
structure VV (v:Val):Prop where
 kind:0<=v.kind/\v.kind<=3
 int : -1125899906842624<=v.int/\v.int<=1125899906842624
 text:v.text.size<=200
theorem yh {v:Val} (h:vF v=true):VV v:=by
 have hx:=iJ v
 rw [h] at hx
 unfold dx at hx
 have e0 : ∀ s:ByteArray,s=ByteArray.empty->s.size<=200:=by rintro s rfl;decide
 by_cases k0:v.kind=0
 ·rw [Y2 k0,Y0] at hx
  by_cases i0:v.int=0
  ·rw [Y2 i0,Y0] at hx
   have:=(ma _).1 (Zw hx)
   exact ⟨by omega,by omega,e0 _ this⟩
  ·rw [Y1 i0,YZ] at hx;cases hx
 rw [Y1 k0,YZ] at hx
 by_cases k1:v.kind=1
 ·rw [Y2 k1,Y0] at hx
  by_cases t0:(v.text.toList==(⟨#[]⟩:ByteArray).toList)=true
  ·rw [t0,Y0] at hx
   by_cases i1:(-1125899906842624:Int)<=v.int
   ·rw [Y2 i1,Y0] at hx
    have:=Zr (Zw hx)
    exact ⟨by omega,⟨i1,this⟩,e0 _ ((ma _).1 t0)⟩
   ·rw [Y1 i1,YZ] at hx;cases hx
  ·rw [Bool.not_eq_true] at t0
   rw [t0,YZ] at hx;cases hx
 rw [Y1 k1,YZ] at hx
 by_cases k2:v.kind=2
 ·rw [Y2 k2,Y0] at hx
  by_cases i0:v.int=0
  ·rw [Y2 i0,Y0] at hx
   by_cases t2:((v.text.size:Nat):Int)<=200
   ·exact ⟨by omega,by omega,by omega⟩
   ·rw [Y1 t2,YZ] at hx;cases hx
  ·rw [Y1 i0,YZ] at hx;cases hx
 rw [Y1 k2,YZ] at hx
 by_cases k3:v.kind=3
 ·rw [Y2 k3,Y0] at hx
  by_cases t0:(v.text.toList==(⟨#[]⟩:ByteArray).toList)=true
  ·rw [t0,Y0] at hx
   by_cases i0:v.int=0
   ·exact ⟨by omega,by omega,e0 _ ((ma _).1 t0)⟩
   ·rw [Y1 i0,YZ] at hx
    have:=Zr (Zw hx)
    exact ⟨by omega,by omega,e0 _ ((ma _).1 t0)⟩
  ·rw [Bool.not_eq_true] at t0
   rw [t0,YZ] at hx;cases hx
 rw [Y1 k3,YZ] at hx
 cases hx
abbrev WP (n:Int):Val:=zV ⟨1,n,ByteArray.empty⟩
abbrev Wv (s:ByteArray):Val:=zV ⟨2,0,s⟩
def RF (op a b:Int):Val:=(dm op a b).getD gY
theorem TM {a:Int} (h : -1125899906842624<=a/\a<=1125899906842624):M4 a (IntKind.i64.wrap (0-a))=(a.natAbs:Int):=by
 rw [bV (by omega)]
 unfold M4
 split<;>omega
theorem Ep (a b:Int):uj a b=dm 15 a b:=by
 unfold uj dm
 rw [show decide ((15:Int)=13)=false from rfl,show decide ((15:Int)=14)=false from rfl,show decide ((15:Int)=15)=true from rfl]
 simp only [Y0,YZ]
 cases decide (a≠0) with
 | false=>simp only [YZ];rw [kL,ji]
 | true =>
  simp only [Y0]
  unfold NP
  simp only [YX]
  rw [kL,ji]
  rfl
theorem Hl {op a b:Int} (ha : -1125899906842624<=a/\a<=1125899906842624) : ∃ v,dm op a b=some v/\vF v=true:=by
 unfold dm
 simp only [ji,YX,bO]
 cases decide (op=13) with
 | true=>exact ⟨_,rfl,mD _⟩
 | false =>
 cases decide (op=14) with
 | true=>exact ⟨_,rfl,mD _⟩
 | false =>
 cases decide (op=15) with
 | true =>
  simp only [Y0,YZ]
  by_cases h:a=0
  ·subst h;exact ⟨_,rfl,mD _⟩
  ·rw [Y2 (show a≠0 from h),Y0]
   unfold NP
   simp only [YX]
   rw [TM ha,Y2 (show ((a.natAbs:Nat):Int)≠0 by omega),Y0]
   generalize decide (IntKind.i64.wrap ((1125899906842624:Int).tdiv ((a.natAbs:Nat):Int))<M4 b (IntKind.i64.wrap (0-b)))=c
   cases c with
   | true=>exact ⟨_,rfl,lh⟩
   | false=>exact ⟨_,rfl,mD _⟩
 | false =>
  simp only [YZ]
  by_cases h:b=0
  ·rw [Y2 h];exact ⟨_,rfl,lh⟩
  ·rw [Y1 h,Y2 (show b≠0 from h)]
   simp only [Y0,YZ]
   cases decide (op=16) with
   | true=>exact ⟨_,rfl,mD _⟩
   | false=>exact ⟨_,rfl,mD _⟩
theorem fK {op a b:Int} (ha : -1125899906842624<=a/\a<=1125899906842624):dm op a b=some (RF op a b)/\vF (RF op a b)=true:=by
 obtain ⟨v,h1,h2⟩:=Hl (op:=op) (b:=b) ha
 unfold RF
 rw [h1];exact ⟨rfl,h2⟩
theorem Bv (l:List Val) (hl:l.length<=1000000):ah (pF l) fuel (0:Int)=some (bif dR l 1 then .inl ((l.length:Nat):Int) else .inr gY):=by
 rw [bE (l:=l) (mk:=fun (_:Unit) i=>i) (f:=fun _ v=>some (if v.kind≠1 then .inr gY else .inl ())) ?_ ?_ (by unfold fuel;omega) ()]
 ·have : ∀ l:List Val,bU (ρ:=Val) (fun (_:Unit) (v:Val)=>some (if v.kind≠1 then .inr gY else .inl ())) () l=some (if dR l 1=true then .inl () else .inr gY):=by
   intro l
   induction l with
   | nil=>rfl
   | cons v l ih =>
    rw [bU]
    by_cases h:v.kind=1
    ·simp only [ne_eq,h,not_true_eq_false,if_false]
     rw [ih];simp [dR,h]
    ·simp [dR,h]
  rw [this]
  cases dR l 1<;>rfl
 ·intro s i x hx
  have hi:=(YY.1 hx).1
  unfold pF
  dsimp only
  rw [aU hx,Y0,gn_ hx,wrapN (by omega)]
  simp only [YX]
  by_cases h:x.kind=1
  ·simp [h,o7]
  ·simp [h,o7,kJ]
 ·intro s
  unfold pF
  dsimp only
  rw [lF_,YZ]
def fB (op:Int) (a b:Val):Val:=bif dR [a,b] 1 then RF op a.int b.int else gY
theorem nG {op:Int} {a b:Val} (ha:VV a) (h:op=13\/op=14\/op=15\/op=16\/op=17):lc op [a,b]=some (fB op a b):=by
 unfold lc fB
 rw [Bv _ (by simp)]
 cases dR [a,b] 1 with
 | false=>rfl
 | true =>
  simp only [Y0,YX]
  have hc:=(fK (op:=op) (b:=b.int) ha.int).1
  rw [<- hc]
  unfold lY
  dsimp only
  rw [show au [a,b] (0:Int)=some a from rfl,YX,show au [a,b] (IntKind.i64.wrap ((([a,b].length:Nat):Int)-1))=some b from rfl,YX]
  rcases h with rfl|rfl|rfl|rfl|rfl
  ·unfold dm
   rw [show decide ((13:Int)=13)=true from rfl,Y0,Y0,ji,kL]
  ·unfold dm
   rw [show decide ((14:Int)=13)=false from rfl,show decide ((14:Int)=14)=true from rfl]
   simp only [Y0,YZ]
   rw [ji,kL]
  ·rw [show decide ((15:Int)=13)=false from rfl,show decide ((15:Int)=14)=false from rfl,show decide ((15:Int)=15)=true from rfl]
   simp only [Y0,YZ]
   rw [Ep]
   cases dm 15 a.int b.int<;>rfl
  ·unfold dm
   rw [show decide ((16:Int)=13)=false from rfl,show decide ((16:Int)=14)=false from rfl,show decide ((16:Int)=15)=false from rfl,show decide ((16:Int)=18)=false from rfl,show decide ((16:Int)=16)=true from rfl]
   simp only [Y0,YZ,kL,ji,kJ,bO]
  ·unfold dm
   rw [show decide ((17:Int)=13)=false from rfl,show decide ((17:Int)=14)=false from rfl,show decide ((17:Int)=15)=false from rfl,show decide ((17:Int)=18)=false from rfl,show decide ((17:Int)=16)=false from rfl]
   simp only [Y0,YZ,kL,ji,kJ,bO]
def Jq (a:Val):Val:=bif dR [a] 1 then WP (IntKind.i64.wrap (0-a.int)) else gY
theorem Mf (a:Val):lc 18 [a]=some (Jq a):=by
 unfold lc Jq
 rw [Bv _ (by simp)]
 cases dR [a] 1 with
 | false=>rfl
 | true =>
  simp only [Y0,YX]
  show (jN _).bind _=_
  rw [kL];rfl
def GZ (a b:Val):Val:=bif dR [a,b] 2 then Wv (a.text++b.text) else gY
def H5 (a:Val):Val:=bif dR [a] 2 then WP ((a.text.size:Nat):Int) else gY
theorem Md {a b:Val} (ha:VV a) (hb:VV b):sW 19 [a,b]=some (GZ a b):=by
 unfold sW GZ
 rw [lM _ _ (by simp),YX]
 cases dR [a,b] 2 with
 | false=>rfl
 | true =>
  have h1:=ha.text
  have h2:=hb.text
  rw [Bool.not_true,YZ,Y0,show decide ((19:Int)=19)=true from rfl,Y0,show au [a,b] (0:Int)=some a from rfl,YX,show au [a,b] (1:Int)=some b from rfl,YX]
  rw [Y2 (show a.text.size+b.text.size<=9223372036854775807 by omega),Y0,OX];rfl
theorem KT (a:Val):sW 20 [a]=some (H5 a):=by
 unfold sW H5
 rw [lM _ _ (by simp),YX]
 cases dR [a] 2 with
 | false=>rfl
 | true =>
  rw [Bool.not_true,YZ,Y0,show decide ((20:Int)=19)=false from rfl,YZ,show au [a] (0:Int)=some a from rfl,YX,ji];rfl
def ou (p:Int × ByteArray) (x:Val):Option (Sum (Int × ByteArray) Val):=bif decide (x.kind≠2) then some (.inr gY) else bif decide (p.2.size+x.text.size<=9223372036854775807) then some (.inl (IntKind.i64.wrap (p.1+((x.text.size:Nat):Int)),p.2++x.text)) else none
theorem Dm (op:Int) (l:List Val) (hl:l.length<=1000000):tN op l=(DR (fun (p:Int × ByteArray) i=>(p.1,p.2,i)) l.length (bU ou (0,⟨#[]⟩) l)).bind (mi op):=by
 unfold tN
 rw [bE (l:=l) (mk:=fun (p:Int × ByteArray) i=>(p.1,p.2,i)) (f:=ou) ?_ ?_ (by unfold fuel;omega) ((0:Int),(⟨#[]⟩:ByteArray))]
 ·intro s i x hx
  have hi:=(YY.1 hx).1
  unfold uz ou
  dsimp only
  rw [aU hx,Y0,gn_ hx,wrapN (by omega)]
  simp only [YX]
  cases decide (x.kind≠2) with
  | true=>rfl
  | false =>
   simp only [YZ]
   cases decide (s.2.size+x.text.size<=9223372036854775807)<;>rfl
 ·intro s
  unfold uz
  dsimp only
  rw [lF_,YZ]
theorem RQ (s:ByteArray):(⟨#[]⟩:ByteArray)++s=s:=by
 apply ByteArray.ext
 simp
theorem Kz {a b:Val} (ha:VV a) (hb:VV b):tN 19 [a,b]=some (GZ a b):=by
 have h1:=ha.text
 have h2:=hb.text
 have h0:(⟨#[]⟩:ByteArray).size=0:=rfl
 rw [Dm _ _ (by simp)]
 unfold GZ
 by_cases ka:a.kind=2
 ·by_cases kb:b.kind=2
  ·have e:dR [a,b] 2=true:=by simp [dR,ka,kb]
   rw [e]
   simp only [bU,ou]
   rw [Y1 (show ¬ a.kind≠2 by omega),YZ,Y2 (show (⟨#[]⟩:ByteArray).size+a.text.size<=9223372036854775807 by rw [h0];omega),Y0]
   simp only []
   rw [Y1 (show ¬ b.kind≠2 by omega),YZ,RQ,Y2 (show a.text.size+b.text.size<=9223372036854775807 by omega),Y0]
   show (y9 (a.text++b.text)).bind _=_
   rw [NS];rfl
  ·have e:dR [a,b] 2=false:=by simp [dR,kb]
   rw [e]
   simp only [bU,ou]
   rw [Y1 (show ¬ a.kind≠2 by omega),YZ,Y2 (show (⟨#[]⟩:ByteArray).size+a.text.size<=9223372036854775807 by rw [h0];omega),Y0]
   simp only []
   rw [Y2 (show b.kind≠2 from kb),Y0];rfl
 ·have e:dR [a,b] 2=false:=by simp [dR,ka]
  rw [e]
  simp only [bU,ou]
  rw [Y2 (show a.kind≠2 from ka),Y0];rfl
theorem Me {a:Val} (ha:VV a):tN 20 [a]=some (H5 a):=by
 have h1:=ha.text
 have h0:(⟨#[]⟩:ByteArray).size=0:=rfl
 rw [Dm _ _ (by simp)]
 unfold H5
 by_cases ka:a.kind=2
 ·have e:dR [a] 2=true:=by simp [dR,ka]
  rw [e]
  simp only [bU,ou]
  rw [Y1 (show ¬ a.kind≠2 by omega),YZ,Y2 (show (⟨#[]⟩:ByteArray).size+a.text.size<=9223372036854775807 by rw [h0];omega),Y0]
  show (jN (IntKind.i64.wrap (0+((a.text.size:Nat):Int)))).bind _=_
  rw [kL,Int.zero_add,bV (by omega)];rfl
 ·have e:dR [a] 2=false:=by simp [dR,ka]
  rw [e]
  simp only [bU,ou]
  rw [Y2 (show a.kind≠2 from ka),Y0];rfl
def Ay (rel:Int) (a b c d:Val):Val :=
 bif dR [a,b,c,d] 1 then (if bR ⟨a.int,b.int⟩=true/\bR ⟨c.int,d.int⟩=true then eF (decide (dZ ⟨a.int,b.int⟩ ⟨c.int,d.int⟩=rel)) else gY) else gY
theorem Gu (rel:Int) (a b c d:Val):oZ rel [a,b,c,d]=some (Ay rel a b c d):=by
 unfold oZ Ay
 rw [lM _ _ (by simp),YX]
 cases dR [a,b,c,d] 1 with
 | false=>exact congrArg (fun o:Option Val=>o.bind fun r=>some r) bO
 | true =>
  rw [Bool.not_true,YZ,Y0,show au [a,b,c,d] (0:Int)=some a from rfl,show au [a,b,c,d] (1:Int)=some b from rfl,show au [a,b,c,d] (2:Int)=some c from rfl,show au [a,b,c,d] (3:Int)=some d from rfl]
  rw [YX,YX,YX,YX,PD,YX]
  generalize dZ ⟨a.int,b.int⟩ ⟨c.int,d.int⟩=x
  generalize bR ⟨a.int,b.int⟩=y
  generalize bR ⟨c.int,d.int⟩=z
  cases y<;>cases z
  ·exact congrArg (fun o:Option Val=>o.bind fun r=>some r) bO
  ·exact congrArg (fun o:Option Val=>o.bind fun r=>some r) bO
  ·exact congrArg (fun o:Option Val=>o.bind fun r=>some r) bO
  ·exact congrArg (fun o:Option Val=>o.bind fun r=>some r) (jT _)
theorem IC (rel:Int) (a b c d:Val):sU rel [a,b,c,d]=some (Ay rel a b c d):=by
 unfold sU Ay xC
 rw [show au [a,b,c,d] (0:Int)=some a from rfl,show au [a,b,c,d] (1:Int)=some b from rfl,show au [a,b,c,d] (2:Int)=some c from rfl,show au [a,b,c,d] (3:Int)=some d from rfl]
 simp only [YX]
 rw [Nf,YX,kJ]
 have e:dR [a,b,c,d] 1=((decide (a.kind=1)&&decide (b.kind=1))&&(decide (c.kind=1)&&decide (d.kind=1))):=by
  simp [dR,Bool.and_assoc]
 rw [e]
 generalize (decide (a.kind=1)&&decide (b.kind=1))=u
 generalize (decide (c.kind=1)&&decide (d.kind=1))=v
 generalize dZ ⟨a.int,b.int⟩ ⟨c.int,d.int⟩=x
 generalize bR ⟨a.int,b.int⟩=y
 generalize bR ⟨c.int,d.int⟩=z
 cases u
 ·rfl
 cases v
 ·rfl
 cases y<;>cases z
 ·rfl
 ·rfl
 ·rfl
 ·exact congrArg (fun o:Option Val=>o.bind fun r=>some r) (E9 _)
theorem dn {n k:Int} : decide (n=k)=(decide (k<=n)&&decide (n<=k)):=by
 rw [Bool.eq_iff_iff];simp only [Zg,decide_eq_true_eq];omega
theorem Ia {n k:Int} (h:n<=1099511627776):decide (k<=n)=(decide (k<=n)&&decide (n<=1099511627776)):=by
 rw [Y2 h,Bool.and_true]
def kz (op:Int):Int × Int:=(ul op).getD (-1,0)
theorem rX (op n:Int) (h:n<=1099511627776):ul op=some (kz op)/\lK op n=some (decide (0<=(kz op).1)&&(decide ((kz op).1<=n)&&decide (n<=(kz op).2)),decide (0<=(kz op).1))/\(0<=(kz op).1->op=1\/op=2\/op=4\/op=5\/op=6\/op=7\/op=8\/op=9\/op=10\/op=11\/op=12\/op=13\/op=14\/op=15\/op=16\/op=17\/op=18\/op=19\/op=20\/op=21\/op=22\/op=23\/op=24) /\ -1<=(kz op).1:=by
 by_cases h1:op=1
 ·subst h1
  refine ⟨rfl,?_,fun _=>by simp,by decide⟩
  show some (decide (n=0),true)=some (true&&(decide ((0:Int)<=n)&&decide (n<=0)),true)
  rw [Zx, <- dn]
 by_cases h2:op=2
 ·subst h2
  refine ⟨rfl,?_,fun _=>by simp,by decide⟩
  show some (decide (n=0),true)=some (true&&(decide ((0:Int)<=n)&&decide (n<=0)),true)
  rw [Zx, <- dn]
 by_cases h4:op=4
 ·subst h4
  refine ⟨rfl,?_,fun _=>by simp,by decide⟩
  show some (decide (n=1),true)=some (true&&(decide ((1:Int)<=n)&&decide (n<=1)),true)
  rw [Zx, <- dn]
 by_cases h5:op=5
 ·subst h5
  refine ⟨rfl,?_,fun _=>by simp,by decide⟩
  show some (decide ((2:Int)<=n),true)=some (true&&(decide ((2:Int)<=n)&&decide (n<=1099511627776)),true)
  rw [Zx, <- Ia h]
 by_cases h6:op=6
 ·subst h6
  refine ⟨rfl,?_,fun _=>by simp,by decide⟩
  show some (decide ((2:Int)<=n),true)=some (true&&(decide ((2:Int)<=n)&&decide (n<=1099511627776)),true)
  rw [Zx, <- Ia h]
 by_cases h7:op=7
 ·subst h7
  refine ⟨rfl,?_,fun _=>by simp,by decide⟩
  show some (decide (n=2),true)=some (true&&(decide ((2:Int)<=n)&&decide (n<=2)),true)
  rw [Zx, <- dn]
 by_cases h8:op=8
 ·subst h8
  refine ⟨rfl,?_,fun _=>by simp,by decide⟩
  show some (decide (n=2),true)=some (true&&(decide ((2:Int)<=n)&&decide (n<=2)),true)
  rw [Zx, <- dn]
 by_cases h9:op=9
 ·subst h9
  refine ⟨rfl,?_,fun _=>by simp,by decide⟩
  show some (decide (n=2),true)=some (true&&(decide ((2:Int)<=n)&&decide (n<=2)),true)
  rw [Zx, <- dn]
 by_cases h10:op=10
 ·subst h10
  refine ⟨rfl,?_,fun _=>by simp,by decide⟩
  show some (decide (n=2),true)=some (true&&(decide ((2:Int)<=n)&&decide (n<=2)),true)
  rw [Zx, <- dn]
 by_cases h11:op=11
 ·subst h11
  refine ⟨rfl,?_,fun _=>by simp,by decide⟩
  show some (decide (n=2),true)=some (true&&(decide ((2:Int)<=n)&&decide (n<=2)),true)
  rw [Zx, <- dn]
 by_cases h12:op=12
 ·subst h12
  refine ⟨rfl,?_,fun _=>by simp,by decide⟩
  show some (decide (n=2),true)=some (true&&(decide ((2:Int)<=n)&&decide (n<=2)),true)
  rw [Zx, <- dn]
 by_cases h13:op=13
 ·subst h13
  refine ⟨rfl,?_,fun _=>by simp,by decide⟩
  show some (decide (n=2),true)=some (true&&(decide ((2:Int)<=n)&&decide (n<=2)),true)
  rw [Zx, <- dn]
 by_cases h14:op=14
 ·subst h14
  refine ⟨rfl,?_,fun _=>by simp,by decide⟩
  show some (decide (n=2),true)=some (true&&(decide ((2:Int)<=n)&&decide (n<=2)),true)
  rw [Zx, <- dn]
 by_cases h15:op=15
 ·subst h15
  refine ⟨rfl,?_,fun _=>by simp,by decide⟩
  show some (decide (n=2),true)=some (true&&(decide ((2:Int)<=n)&&decide (n<=2)),true)
  rw [Zx, <- dn]
 by_cases h16:op=16
 ·subst h16
  refine ⟨rfl,?_,fun _=>by simp,by decide⟩
  show some (decide (n=2),true)=some (true&&(decide ((2:Int)<=n)&&decide (n<=2)),true)
  rw [Zx, <- dn]
 by_cases h17:op=17
 ·subst h17
  refine ⟨rfl,?_,fun _=>by simp,by decide⟩
  show some (decide (n=2),true)=some (true&&(decide ((2:Int)<=n)&&decide (n<=2)),true)
  rw [Zx, <- dn]
 by_cases h18:op=18
 ·subst h18
  refine ⟨rfl,?_,fun _=>by simp,by decide⟩
  show some (decide (n=1),true)=some (true&&(decide ((1:Int)<=n)&&decide (n<=1)),true)
  rw [Zx, <- dn]
 by_cases h19:op=19
 ·subst h19
  refine ⟨rfl,?_,fun _=>by simp,by decide⟩
  show some (decide (n=2),true)=some (true&&(decide ((2:Int)<=n)&&decide (n<=2)),true)
  rw [Zx, <- dn]
 by_cases h20:op=20
 ·subst h20
  refine ⟨rfl,?_,fun _=>by simp,by decide⟩
  show some (decide (n=1),true)=some (true&&(decide ((1:Int)<=n)&&decide (n<=1)),true)
  rw [Zx, <- dn]
 by_cases h21:op=21
 ·subst h21
  refine ⟨rfl,?_,fun _=>by simp,by decide⟩
  show some (decide (n=1),true)=some (true&&(decide ((1:Int)<=n)&&decide (n<=1)),true)
  rw [Zx, <- dn]
 by_cases h22:op=22
 ·subst h22
  refine ⟨rfl,?_,fun _=>by simp,by decide⟩
  show some (decide (n=3),true)=some (true&&(decide ((3:Int)<=n)&&decide (n<=3)),true)
  rw [Zx, <- dn]
 by_cases h23:op=23
 ·subst h23
  refine ⟨rfl,?_,fun _=>by simp,by decide⟩
  show some (decide ((1:Int)<=n),true)=some (true&&(decide ((1:Int)<=n)&&decide (n<=1099511627776)),true)
  rw [Zx, <- Ia h]
 by_cases h24:op=24
 ·subst h24
  refine ⟨rfl,?_,fun _=>by simp,by decide⟩
  show some (decide (n=4),true)=some (true&&(decide ((4:Int)<=n)&&decide (n<=4)),true)
  rw [Zx, <- dn]
 have e1:ul op=some (-1,0):=by
  unfold ul;simp only [Y1 h1,Y1 h2,Y1 h4,Y1 h5,Y1 h6,Y1 h7,Y1 h8,Y1 h9,Y1 h10,Y1 h11,Y1 h12,Y1 h13,Y1 h14,Y1 h15,Y1 h16,Y1 h17,Y1 h18,Y1 h19,Y1 h20,Y1 h21,Y1 h22,Y1 h23,Y1 h24,YZ]
 have e2:lK op n=some (false,false):=by
  unfold lK;simp only [Y1 h1,Y1 h2,Y1 h4,Y1 h5,Y1 h6,Y1 h7,Y1 h8,Y1 h9,Y1 h10,Y1 h11,Y1 h12,Y1 h13,Y1 h14,Y1 h15,Y1 h16,Y1 h17,Y1 h18,Y1 h19,Y1 h20,Y1 h21,Y1 h22,Y1 h23,Y1 h24,YZ]
 have e3:kz op=(-1,0):=by unfold kz;rw [e1];rfl
 rw [e1,e2,e3]
 exact ⟨rfl,rfl,fun h=>absurd h (by decide),by decide⟩
theorem VR:kz 13=(2,2):=rfl
theorem V6:kz 14=(2,2):=rfl
theorem WM:kz 15=(2,2):=rfl
theorem Wz:kz 16=(2,2):=rfl
theorem VM:kz 17=(2,2):=rfl
theorem Ua:kz 22=(3,3):=rfl
def jc (e:Ex):Bool:=(jE e).getD false
def JJ (v:Val):Bool:=cB [.c (.int .i64 v.kind), .c (.int .i64 v.int), .c (.str v.text)] [.c (.int .i64 (0:Int)), .c (.int .i64 (0:Int)), .c (.str ByteArray.empty)]
def pO (e:Ex):Bool:=(e.nm.toList==(⟨#[]⟩:ByteArray).toList)&&(if e.op=1 then decide (e.int=0)&&vF e.v else if e.op=2 then JJ e.v else if e.op=24 then JJ e.v&&(decide (0<=e.int)&&decide (e.int<13)) else decide (e.int=0)&&JJ e.v)
theorem jd (e:Ex) (h:e.args.length<=100000):jE e=some ((decide (0<=(kz e.op).1)&&(decide ((kz e.op).1<=((e.args.length:Nat):Int))&&decide (((e.args.length:Nat):Int)<=(kz e.op).2)))&&pO e)/\om e=some ((decide (0<=(kz e.op).1)&&(decide ((kz e.op).1<=((e.args.length:Nat):Int))&&decide (((e.args.length:Nat):Int)<=(kz e.op).2)))&&pO e):=by
 obtain ⟨h1,h2,h3,h4⟩:=rX e.op ((e.args.length:Nat):Int) (by omega)
 generalize kz e.op=a at h1 h2 h3 h4
 obtain ⟨lo,hi⟩:=a
 dsimp only at h1 h2 h3 h4 ⊢
 have hR:jE e=(bif decide (0<=lo)&&(decide (lo<=((e.args.length:Nat):Int))&&decide (((e.args.length:Nat):Int)<=hi)) then some (pO e) else some false):=by
  unfold jE
  rw [h1,YX]
  dsimp only
  by_cases c1:0<=lo
  ·rw [Y1 (show ¬ lo<0 by omega),Y2 c1,YZ,Zx]
   by_cases c2:lo<=((e.args.length:Nat):Int)
   ·rw [Y1 (show ¬ ((e.args.length:Nat):Int)<lo by omega),Y2 c2,YZ,Zx]
    by_cases c3:((e.args.length:Nat):Int)<=hi
    ·rw [Y1 (show ¬ hi<((e.args.length:Nat):Int) by omega),Y2 c3,YZ,Y0]
     unfold pO
     cases (e.nm.toList==(⟨#[]⟩:ByteArray).toList) with
     | false=>rfl
     | true =>
      rw [Bool.not_true,YZ,Zx]
      by_cases o1:e.op=1
      ·rw [Y2 o1,Y0,if_pos o1,iJ]
       cases decide (e.int=0)<;>rfl
      ·rw [Y1 o1,YZ,if_neg o1,bO]
       by_cases o2:e.op=2
       ·rw [Y2 o2,Y0,if_pos o2];rfl
       ·rw [Y1 o2,YZ,if_neg o2]
        by_cases o3:e.op=24
        ·rw [Y2 o3,Y0,if_pos o3]
         show (bif JJ e.v then _ else _)=_
         cases JJ e.v
         ·rfl
         ·rw [Y0,Zx]
          cases decide (0<=e.int)<;>rfl
        ·rw [Y1 o3,YZ,if_neg o3]
         cases decide (e.int=0)<;>rfl
    ·rw [Y2 (show hi<((e.args.length:Nat):Int) by omega),Y1 c3,Y0];rfl
   ·rw [Y2 (show ((e.args.length:Nat):Int)<lo by omega),Y1 c2,Y0];rfl
  ·rw [Y2 (show lo<0 by omega),Y1 c1,Y0];rfl
 have hP:om e=(bif decide (0<=lo)&&(decide (lo<=((e.args.length:Nat):Int))&&decide (((e.args.length:Nat):Int)<=hi)) then some (pO e) else some false):=by
  unfold om
  rw [h2,YX]
  dsimp only
  cases (decide (0<=lo)&&(decide (lo<=((e.args.length:Nat):Int))&&decide (((e.args.length:Nat):Int)<=hi))) with
  | false=>rfl
  | true =>
   rw [Bool.not_true,YZ,Y0]
   unfold pO
   cases (e.nm.toList==(⟨#[]⟩:ByteArray).toList) with
   | false=>rfl
   | true =>
    rw [Bool.not_true,YZ,Zx]
    by_cases o1:e.op=1
    ·rw [Y2 o1,Y0,if_pos o1,wV]
     cases decide (e.int=0)<;>rfl
    ·rw [Y1 o1,YZ,if_neg o1]
     by_cases o3:e.op=24
     ·have o2 : ¬ e.op=2:=by omega
      rw [Y2 o3,Y0,if_neg o2,if_pos o3]
      by_cases i1:0<=e.int
      ·rw [Y1 (show ¬ e.int<0 by omega),YZ,Y2 i1,Zx]
       by_cases i2:e.int<13
       ·rw [Y1 (show ¬ 13<=e.int by omega),YZ,Y2 i2,Bool.and_true];rfl
       ·rw [Y2 (show 13<=e.int by omega),Y0,Y1 i2,Bool.and_false]
      ·rw [Y2 (show e.int<0 by omega),Y0,Y1 i1,Bool.false_and,Bool.and_false]
     ·rw [Y1 o3,YZ]
      by_cases o2:e.op=2
      ·rw [Y2 o2,Y0,if_pos o2];rfl
      ·rw [Y1 o2,YZ,if_neg o2,if_neg o3]
       cases decide (e.int=0)<;>rfl
 rw [hR,hP]
 cases (decide (0<=lo)&&(decide (lo<=((e.args.length:Nat):Int))&&decide (((e.args.length:Nat):Int)<=hi)))<;>exact ⟨rfl,rfl⟩
theorem sP {e:Ex} (h:e.args.length<=100000):jE e=some (jc e):=by unfold jc;rw [(jd e h).1];rfl
theorem qG {e:Ex} (h:e.args.length<=100000):om e=some (jc e):=by unfold jc;rw [(jd e h).2,(jd e h).1];rfl
theorem rF {e:Ex} (h:e.args.length<=100000) (hf:jc e=true):(e.op=1\/e.op=2\/e.op=4\/e.op=5\/e.op=6\/e.op=7\/e.op=8\/e.op=9\/e.op=10\/e.op=11\/e.op=12\/e.op=13\/e.op=14\/e.op=15\/e.op=16\/e.op=17\/e.op=18\/e.op=19\/e.op=20\/e.op=21\/e.op=22\/e.op=23\/e.op=24)/\(kz e.op).1<=((e.args.length:Nat):Int)/\((e.args.length:Nat):Int)<=(kz e.op).2/\pO e=true:=by
 obtain ⟨_,_,h3,_⟩:=rX e.op ((e.args.length:Nat):Int) (by omega)
 unfold jc at hf
 rw [(jd e h).1,Option.getD_some,Zg,Zg,Zg] at hf
 exact ⟨h3 (Zr hf.1.1),Zr hf.1.2.1,Zr hf.1.2.2,hf.2⟩
theorem CG {e:Ex} (h:e.op=1) (hr:pO e=true):vF e.v=true:=by
 unfold pO at hr
 rw [if_pos h,Zg,Zg] at hr
 exact hr.2.2
set_option maxHeartbeats 8000000
def dI (a_e:Ex) (a_row:(List Val)) (rec:Ex->List Val->Option Val):((List Val) × Int)->Option (Step ((List Val) × Int) (Val)):=fun s=>match s with
 | (l_4,i_5)=>bif (decide (i_5<((a_e.args.length:Nat):Int))) then (au a_e.args i_5).bind fun x_7=>(rec x_7 a_row).bind fun r_8=>bif (decide (l_4.length+1<=4398046511104)) then (some (.next ((l_4++[r_8]),(IntKind.i64.wrap (i_5+(1:Int)))))) else none else
 some (.exit (l_4,i_5))
def gER_K (a_e:Ex) (a_row:(List Val)):Sum ((List Val) × Int) (Val)->Option ((Val))
 | .inl (l_4,i_5)=>bif (decide (a_e.op=(1:Int))) then (zT a_e a_row).bind fun r_10=>some r_10 else
 bif (decide (a_e.op=(2:Int))) then (zT a_e a_row).bind fun r_12=>some r_12 else
 bif (decide (a_e.op=(4:Int))) then (au l_4 (0:Int)).bind fun x_14=>(dN x_14).bind fun r_15=>(BL r_15).bind fun r_16=>(Ap r_16).bind fun r_17=>some r_17 else
 bif (decide (a_e.op=(5:Int))) then (uT a_e.op l_4).bind fun r_19=>some r_19 else
 bif (decide (a_e.op=(6:Int))) then (uT a_e.op l_4).bind fun r_21=>some r_21 else
 bif (decide (a_e.op=(7:Int))) then (au l_4 (0:Int)).bind fun x_23=>(au l_4 (1:Int)).bind fun x_24=>(fZ a_e.op x_23 x_24).bind fun r_25=>(Ap r_25).bind fun r_26=>some r_26 else
 bif (decide (a_e.op=(8:Int))) then (au l_4 (0:Int)).bind fun x_28=>(au l_4 (1:Int)).bind fun x_29=>(fZ a_e.op x_28 x_29).bind fun r_30=>(Ap r_30).bind fun r_31=>some r_31 else
 bif (decide (a_e.op=(9:Int))) then (au l_4 (0:Int)).bind fun x_33=>(au l_4 (1:Int)).bind fun x_34=>(fZ a_e.op x_33 x_34).bind fun r_35=>(Ap r_35).bind fun r_36=>some r_36 else
 bif (decide (a_e.op=(10:Int))) then (au l_4 (0:Int)).bind fun x_38=>(au l_4 (1:Int)).bind fun x_39=>(fZ a_e.op x_38 x_39).bind fun r_40=>(Ap r_40).bind fun r_41=>some r_41 else
 bif (decide (a_e.op=(11:Int))) then (au l_4 (0:Int)).bind fun x_43=>(au l_4 (1:Int)).bind fun x_44=>(fZ a_e.op x_43 x_44).bind fun r_45=>(Ap r_45).bind fun r_46=>some r_46 else
 bif (decide (a_e.op=(12:Int))) then (au l_4 (0:Int)).bind fun x_48=>(au l_4 (1:Int)).bind fun x_49=>(fZ a_e.op x_48 x_49).bind fun r_50=>(Ap r_50).bind fun r_51=>some r_51 else
 bif (decide (a_e.op=(18:Int))) then (IX l_4 (1:Int)).bind fun r_53=>bif (!r_53) then (dK ).bind fun r_55=>some r_55 else
 (au l_4 (0:Int)).bind fun x_56=>(nR (IntKind.i64.wrap (0-x_56.int))).bind fun r_57=>some r_57 else
 bif (decide (a_e.op=(19:Int))) then (sW a_e.op l_4).bind fun r_59=>some r_59 else
 bif (decide (a_e.op=(20:Int))) then (sW a_e.op l_4).bind fun r_61=>some r_61 else
 bif (decide (a_e.op=(21:Int))) then (au l_4 (0:Int)).bind fun x_63=>(qi (decide (x_63.kind=(0:Int)))).bind fun r_64=>some r_64 else
 bif (decide (a_e.op=(22:Int))) then (qx a_e.op l_4).bind fun r_66=>some r_66 else
 bif (decide (a_e.op=(23:Int))) then (qx a_e.op l_4).bind fun r_68=>some r_68 else
 bif (decide (a_e.op=(24:Int))) then (oZ a_e.int l_4).bind fun r_70=>some r_70 else
 (IX l_4 (1:Int)).bind fun r_71=>bif (!r_71) then (dK ).bind fun r_73=>some r_73 else
 (au l_4 (0:Int)).bind fun x_74=>(au l_4 (1:Int)).bind fun x_75=>(dm a_e.op x_74.int x_75.int).bind fun r_76=>some r_76
 | .inr q=>some q
def jq (rec:Ex->List Val->Option Val) (a_e:Ex) (a_row:(List Val)):Option (Val):=(jE a_e).bind fun r_1=>bif (!r_1) then (dK ).bind fun r_3=>some r_3 else
 (ah (dI a_e a_row rec) fuel ([],(0:Int))).bind (gER_K a_e a_row)
def df:Nat->Ex->List Val->Option Val
 | 0,_,_=>none
 | n+1,e,r=>jq (df n) e r
end Go.Proofs.YtnbnpnmkgemdeaaGreatDoor
