/- Parts of the proof, joined. No condition. -/
import Derived.Test.YtfpbmfalamappaaGreatDoorKAA
import Derived.Test.YtfpbmfalamappaaGreatDoorKAP
import Derived.Test.YtfpbmfalamappaaGreatDoorKAR
import Derived.Test.YtfpbmfalamappaaGreatDoorKAJ
set_option linter.unusedSimpArgs false
set_option linter.unusedVariables false
namespace Go.Proofs.YtfpbmfalamappaaGreatDoor
open Go.RowKit Go.MapKept
set_option maxRecDepth 100000
def gH:Val:=⟨0,0,ByteArray.empty⟩
theorem mf:kL=some gH:=rfl
theorem bR:dJ=some gH:=rfl
def vF (v:Val):Bool:=(dW v).getD false
theorem jJ (v:Val):dW v=some (vF v):=by
 obtain ⟨r,hr⟩:=G7 v
 unfold vF
 rw [hr];rfl
theorem yA (v:Val):qa v=some (vF v):=(show qa v=dW v from rfl).trans (jJ v)
def Lf (v:Val):Val:=bif vF v then v else gH
theorem ES (v:Val):ug v=some (Lf v):=by
 unfold ug Lf
 rw [yA,aa8,mf]
 cases vF v<;>rfl
theorem EZ (v:Val):sJ v=some (Lf v):=by
 unfold sJ Lf
 rw [jJ,aa8,bR]
 cases vF v<;>rfl
theorem mG:vF gH=true:=by
 have e:(ByteArray.empty.toList==(⟨#[]⟩:ByteArray).toList)=true:=by rw [ByteArray.toList_eq,ByteArray.toList_eq];rfl
 unfold vF dW gH
 dsimp only
 rw [e];rfl
theorem qj (v:Val):vF (Lf v)=true:=by
 unfold Lf
 cases h:vF v with
 | true=>exact h
 | false=>exact mG
def mM (b:Bool):Val:=bif b then ⟨3,1,ByteArray.empty⟩ else ⟨3,0,ByteArray.empty⟩
theorem Jf (b:Bool):vL b=some (mM b):=by cases b<;>rfl
theorem xL (b:Bool):uq b=some (mM b):=by cases b<;>rfl
theorem Eh (b:Bool):vF (mM b)=true:=by
 have e:(ByteArray.empty.toList==(⟨#[]⟩:ByteArray).toList)=true:=by rw [ByteArray.toList_eq,ByteArray.toList_eq];rfl
 unfold vF dW mM
 cases b<;>(dsimp only [cond_true,cond_false];rw [e];rfl)
theorem mh (n:Int):mK n=some (Lf ⟨1,n,ByteArray.empty⟩):=by unfold mK;rw [ES];rfl
theorem kE (n:Int):lM n=some (Lf ⟨1,n,ByteArray.empty⟩):=by unfold lM;rw [EZ];rfl
theorem Ra (s:ByteArray):BV s=some (Lf ⟨2,0,s⟩):=by unfold BV;rw [ES];rfl
theorem Ru (s:ByteArray):EM s=some (Lf ⟨2,0,s⟩):=by unfold EM;rw [EZ];rfl
def T3 (t:Int):Prop:=t=0\/t=1\/t=2
theorem yX (v:Val) : ∃ t,lK v=some t/\iq v=some t/\T3 t:=by
 have e:lK v=iq v:=rfl
 have h : ∃ t,iq v=some t/\T3 t:=by
  unfold iq
  rw [xL,xL]
  simp only [aa8]
  cases dS [.c (.int .i64 v.kind), .c (.int .i64 v.int), .c (.str v.text)] [.c (.int .i64 (mM true).kind), .c (.int .i64 (mM true).int), .c (.str (mM true).text)] with
  | true=>exact ⟨2,rfl, .inr (.inr rfl)⟩
  | false =>
   rw [aa_]
   cases dS [.c (.int .i64 v.kind), .c (.int .i64 v.int), .c (.str v.text)] [.c (.int .i64 (mM false).kind), .c (.int .i64 (mM false).int), .c (.str (mM false).text)] with
   | true=>exact ⟨0,rfl, .inl rfl⟩
   | false=>exact ⟨1,rfl, .inr (.inl rfl)⟩
 obtain ⟨t,h1,h2⟩:=h
 exact ⟨t,e.trans h1,h1,h2⟩
def tF_ (v:Val):Int:=(iq v).getD 1
theorem jH (v:Val):lK v=some (tF_ v):=by obtain ⟨t,h1,h2,_⟩:=yX v;unfold tF_;rw [h1,h2];rfl
theorem og (v:Val):iq v=some (tF_ v):=by obtain ⟨t,h1,h2,_⟩:=yX v;unfold tF_;rw [h2];rfl
theorem iT (v:Val):T3 (tF_ v):=by obtain ⟨t,h1,h2,h3⟩:=yX v;unfold tF_;rw [h2];exact h3
def Gf (a:Int):Int:=if a=2 then 0 else if a=0 then 2 else 1
def H5 (a b:Int):Int:=if a=0\/b=0 then 0 else if a=2/\b=2 then 2 else 1
def Vm (a b:Int):Int:=if a=2\/b=2 then 2 else if a=0/\b=0 then 0 else 1
theorem sW (a:Int):T3 (Gf a):=by unfold Gf;split;exact .inl rfl;split;exact .inr (.inr rfl);exact .inr (.inl rfl)
theorem Kv (a b:Int):T3 (H5 a b):=by unfold H5;split;exact .inl rfl;split;exact .inr (.inr rfl);exact .inr (.inl rfl)
theorem N0 (a b:Int):T3 (Vm a b):=by unfold Vm;split;exact .inr (.inr rfl);split;exact .inl rfl;exact .inr (.inl rfl)
theorem xm {a:Int} (h:T3 a):Hu a=some (Gf a):=by rcases h with rfl|rfl|rfl<;>rfl
theorem Ak {a:Int} (h:T3 a):Ez a=some (Gf a):=by rcases h with rfl|rfl|rfl<;>rfl
theorem EU {a:Int} (h:T3 a):p8 a=some a:=by rcases h with rfl|rfl|rfl<;>rfl
theorem JF {a b:Int} (ha:T3 a) (hb:T3 b):BH [a,b]=some (WV (WV 2 a) b):=by
 unfold BH
 rw [dx (l:=[a,b]) (mk:=fun t i=>(t,i)) (f:=fun t x=>(p8 x).bind fun r=>some (.inl (WV t r))) ?_ ?_ (by unfold fuel;simp) 2]
 ·simp only [dE,EU ha,EU hb,aa8]
  rfl
 ·intro s i x hx
  have hi:=(aa9.1 hx).1
  unfold xh
  dsimp only
  rw [aY hx,aa',gn_ hx,wrapN (by simp at hi;omega)]
  simp only [aa8]
  cases p8 x<;>rfl
 ·intro s
  unfold xh
  dsimp only
  rw [lF_,aa_]
theorem VQ {a b:Int} (ha:T3 a) (hb:T3 b):Pb a b=some (H5 a b):=by
 unfold Pb
 rw [JF ha hb]
 rcases ha with rfl|rfl|rfl<;>rcases hb with rfl|rfl|rfl<;>rfl
theorem TB {a b:Int} (ha:T3 a) (hb:T3 b):Gl a b=some (H5 a b):=by
 rcases ha with rfl|rfl|rfl<;>rcases hb with rfl|rfl|rfl<;>rfl
theorem X9 {a b:Int} (ha:T3 a) (hb:T3 b):Gy a b=some (Vm a b):=by
 unfold Gy
 rw [xm ha,xm hb]
 simp only [aa8]
 rw [JF (sW a) (sW b)]
 rcases ha with rfl|rfl|rfl<;>rcases hb with rfl|rfl|rfl<;>rfl
theorem Vo {a b:Int} (ha:T3 a) (hb:T3 b):NU a b=some (Vm a b):=by
 rcases ha with rfl|rfl|rfl<;>rcases hb with rfl|rfl|rfl<;>rfl
def zw (t:Int):Val:=if t=2 then mM true else if t=0 then mM false else gH
theorem kG {t:Int} (h:T3 t):zQ t=some (zw t):=by rcases h with rfl|rfl|rfl<;>rfl
theorem qc {t:Int} (h:T3 t):DC t=some (zw t):=by rcases h with rfl|rfl|rfl<;>rfl
theorem tZ (t:Int):vF (zw t)=true:=by
 unfold zw
 split
 ·exact Eh _
 ·split
  ·exact Eh _
  ·exact mG
def N7 (a b:Val) (is:Bool):Int:=if a.kind=0\/a.kind≠b.kind then 1 else bif is then 2 else 0
theorem Px (a b:Val) (is:Bool):T3 (N7 a b is):=by
 unfold N7
 split
 ·exact .inr (.inl rfl)
 ·cases is
  ·exact .inl rfl
  ·exact .inr (.inr rfl)
theorem yZ (a b:Val) (is:Bool):sM a b is=some (N7 a b is):=by
 unfold sM N7
 by_cases h1:a.kind=0
 ·simp [h1]
 ·by_cases h2:a.kind=b.kind
  ·have hb : ¬ b.kind=0:=by rw [<- h2];exact h1
   simp only [h2,aba hb,aa_,ne_eq,not_true_eq_false,decide_false,or_false]
   rw [if_neg hb]
   cases is<;>rfl
  ·simp only [aba h1,aa_,ne_eq,h2,not_false_eq_true,decide_true,aa',or_true,if_true]
theorem Ha (a b:Val) (is:Bool):xu a b is=some (N7 a b is):=(show xu a b is=sM a b is from rfl).trans (yZ a b is)
def ZB (a b:Val):Int:=N7 a b (decide (ni a b=0))
def X8 (a b:Val):Int:=N7 a b (decide (ni a b<0))
theorem VP (a b:Val):Rp a b=some (ZB a b):=by unfold Rp;rw [u_,aa8,yZ];rfl
theorem Ww (a b:Val):QY a b=some (ZB a b):=by unfold QY;rw [zT,aa8,Ha];rfl
theorem Sz (a b:Val):uN a b=some (X8 a b):=by unfold uN;rw [u_,aa8,yZ];rfl
theorem Sk (a b:Val):wy a b=some (X8 a b):=by unfold wy;rw [zT,aa8,Ha];rfl
def sP (op:Int) (a b:Val):Int:=if op=7 then ZB a b else if op=8 then Gf (ZB a b) else if op=9 then X8 a b else if op=11 then X8 b a else if op=10 then Gf (X8 b a) else Gf (X8 a b)
theorem Og (a b:Val):T3 (ZB a b):=Px _ _ _
theorem BR (a b:Val):T3 (X8 a b):=Px _ _ _
theorem jq (op:Int) (a b:Val):T3 (sP op a b):=by
 unfold sP
 split
 ·exact Og _ _
 split
 ·exact sW _
 split
 ·exact BR _ _
 split
 ·exact BR _ _
 split
 ·exact sW _
 ·exact sW _
theorem fK (op:Int) (a b:Val):l9 op a b=some (sP op a b):=by
 unfold l9 sP
 simp only [VP,Sz,aa8,xm (Og a b),xm (BR a b),xm (BR b a)]
 by_cases h1:op=7
 ·simp [h1]
 by_cases h2:op=8
 ·simp [h2]
 by_cases h3:op=9
 ·simp [h3]
 by_cases h4:op=11
 ·simp [h4]
 by_cases h5:op=10
 ·simp [h5]
 simp [h1,h2,h3,h4,h5]
theorem iV (op:Int) (a b:Val):ib op a b=some (sP op a b):=by
 unfold ib sP
 simp only [Ww,Sk,aa8,Ak (Og a b),Ak (BR a b),Ak (BR b a)]
 by_cases h1:op=7
 ·simp [h1]
 by_cases h2:op=8
 ·simp [h2]
 by_cases h3:op=9
 ·simp [h3]
 by_cases h4:op=11
 ·simp [h4]
 by_cases h5:op=10
 ·simp [h5]
 simp [h1,h2,h3,h4,h5]
def fT (p q:iQ):Int :=
 if p.hi<q.lo then 0 else if p.hi=q.lo then 1 else if q.hi<p.lo then 12 else if q.hi=p.lo then 11 else if p.lo=q.lo/\p.hi=q.hi then 6
 else if p.lo=q.lo then (if p.hi<q.hi then 3 else 9) else if p.hi=q.hi then (if q.lo<p.lo then 5 else 7)
 else if p.lo<q.lo/\q.hi<p.hi then 8 else if q.lo<p.lo/\p.hi<q.hi then 4 else if p.lo<q.lo then 2 else 10
theorem dL (p q:iQ):dS [.c (.int .i64 p.lo), .c (.int .i64 p.hi)] [.c (.int .i64 q.lo), .c (.int .i64 q.hi)]=decide (p.lo=q.lo/\p.hi=q.hi):=by
 simp [dS]
theorem VO (p q:iQ):TM p q=some (if dN p=true/\dN q=true then (fT p q,true) else (0,false)):=by
 unfold TM
 rw [Uh,Uh]
 simp only [aa8]
 cases hp:dN p with
 | false=>simp
 | true =>
  cases hq:dN q with
  | false=>simp
  | true =>
   simp only [Bool.not_true,aa_,and_self,if_true,dL]
   unfold fT
   by_cases h1:p.hi<q.lo
   ·simp only [Bool.cond_decide,eq_true h1,if_true,if_false,and_true,true_and,and_false,false_and,and_self]
   by_cases h2:p.hi=q.lo
   ·simp only [Bool.cond_decide,eq_true h2,eq_false h1,if_true,if_false,and_true,true_and,and_false,false_and,and_self]
   by_cases h3:q.hi<p.lo
   ·simp only [Bool.cond_decide,eq_true h3,eq_false h1,eq_false h2,if_true,if_false,and_true,true_and,and_false,false_and,and_self]
   by_cases h4:q.hi=p.lo
   ·simp only [Bool.cond_decide,eq_true h4,eq_false h1,eq_false h2,eq_false h3,if_true,if_false,and_true,true_and,and_false,false_and,and_self]
   by_cases h5:p.lo=q.lo
   ·by_cases h6:p.hi=q.hi
    ·simp only [Bool.cond_decide,eq_true h5,eq_true h6,eq_false h1,eq_false h2,eq_false h3,eq_false h4,if_true,if_false,and_true,true_and,and_false,false_and,and_self]
    ·by_cases h7:p.hi<q.hi
     ·simp only [Bool.cond_decide,eq_true h5,eq_true h7,eq_false h1,eq_false h2,eq_false h3,eq_false h4,eq_false h6,if_true,if_false,and_true,true_and,and_false,false_and,and_self]
     ·simp only [Bool.cond_decide,eq_true h5,eq_false h1,eq_false h2,eq_false h3,eq_false h4,eq_false h6,eq_false h7,if_true,if_false,and_true,true_and,and_false,false_and,and_self]
   ·by_cases h6:p.hi=q.hi
    ·by_cases h7:q.lo<p.lo
     ·simp only [Bool.cond_decide,eq_true h6,eq_true h7,eq_false h1,eq_false h2,eq_false h3,eq_false h4,eq_false h5,if_true,if_false,and_true,true_and,and_false,false_and,and_self]
     ·simp only [Bool.cond_decide,eq_true h6,eq_false h1,eq_false h2,eq_false h3,eq_false h4,eq_false h5,eq_false h7,if_true,if_false,and_true,true_and,and_false,false_and,and_self]
    ·by_cases h7:p.lo<q.lo
     ·by_cases h8:q.hi<p.hi
      ·simp only [Bool.cond_decide,eq_true h7,eq_true h8,eq_false h1,eq_false h2,eq_false h3,eq_false h4,eq_false h5,eq_false h6,if_true,if_false,and_true,true_and,and_false,false_and,and_self]
      ·by_cases h9:q.lo<p.lo
       ·omega
       ·simp only [Bool.cond_decide,eq_true h7,eq_false h1,eq_false h2,eq_false h3,eq_false h4,eq_false h5,eq_false h6,eq_false h8,eq_false h9,if_true,if_false,and_true,true_and,and_false,false_and,and_self]
     ·by_cases h8:q.lo<p.lo
      ·by_cases h9:p.hi<q.hi
       ·simp only [Bool.cond_decide,eq_true h8,eq_true h9,eq_false h1,eq_false h2,eq_false h3,eq_false h4,eq_false h5,eq_false h6,eq_false h7,if_true,if_false,and_true,true_and,and_false,false_and,and_self]
       ·simp only [Bool.cond_decide,eq_true h8,eq_false h1,eq_false h2,eq_false h3,eq_false h4,eq_false h5,eq_false h6,eq_false h7,eq_false h9,if_true,if_false,and_true,true_and,and_false,false_and,and_self]
      ·omega
theorem GL {p:iQ} (h:dN p=true):0<=p.lo/\p.lo<p.hi/\p.hi<=1099511627776:=by
 unfold dN at h
 simp only [abr,decide_eq_true_eq] at h
 omega
theorem Tk {p q:iQ} (hp:0<=p.lo/\p.lo<p.hi) (hq:0<=q.lo/\q.lo<q.hi):fT p q=0↔p.hi<q.lo:=by
 unfold fT
 repeat' split
 all_goals (constructor<;>intro h<;>omega)
theorem XC (p q:iQ):jd 0 p q=some (decide (p.hi<q.lo)):=by
 unfold jd
 simp only [Int.reduceEq,decide_false,decide_true,aa',aa_,dL]<;>rfl
theorem Ux {p q:iQ} (hp:0<=p.lo/\p.lo<p.hi) (hq:0<=q.lo/\q.lo<q.hi):fT p q=1↔p.hi=q.lo:=by
 unfold fT
 repeat' split
 all_goals (constructor<;>intro h<;>omega)
theorem Yg (p q:iQ):jd 1 p q=some (decide (p.hi=q.lo)):=by
 unfold jd
 simp only [Int.reduceEq,decide_false,decide_true,aa',aa_,dL]<;>rfl
theorem Vd {p q:iQ} (hp:0<=p.lo/\p.lo<p.hi) (hq:0<=q.lo/\q.lo<q.hi):fT p q=2↔p.lo<q.lo/\q.lo<p.hi/\p.hi<q.hi:=by
 unfold fT
 repeat' split
 all_goals (constructor<;>intro h<;>omega)
theorem XE (p q:iQ):jd 2 p q=some (decide (p.lo<q.lo/\q.lo<p.hi/\p.hi<q.hi)):=by
 unfold jd
 simp only [Int.reduceEq,decide_false,decide_true,aa',aa_,dL]
 by_cases h0:p.lo<q.lo<;>by_cases h1:q.lo<p.hi<;>simp [h0,h1]
theorem Tz {p q:iQ} (hp:0<=p.lo/\p.lo<p.hi) (hq:0<=q.lo/\q.lo<q.hi):fT p q=3↔p.lo=q.lo/\p.hi<q.hi:=by
 unfold fT
 repeat' split
 all_goals (constructor<;>intro h<;>omega)
theorem Xx (p q:iQ):jd 3 p q=some (decide (p.lo=q.lo/\p.hi<q.hi)):=by
 unfold jd
 simp only [Int.reduceEq,decide_false,decide_true,aa',aa_,dL]
 by_cases h0:p.lo=q.lo<;>simp [h0]
theorem Ua {p q:iQ} (hp:0<=p.lo/\p.lo<p.hi) (hq:0<=q.lo/\q.lo<q.hi):fT p q=4↔q.lo<p.lo/\p.hi<q.hi:=by
 unfold fT
 repeat' split
 all_goals (constructor<;>intro h<;>omega)
theorem XK (p q:iQ):jd 4 p q=some (decide (q.lo<p.lo/\p.hi<q.hi)):=by
 unfold jd
 simp only [Int.reduceEq,decide_false,decide_true,aa',aa_,dL]
 by_cases h0:q.lo<p.lo<;>simp [h0]
theorem SH {p q:iQ} (hp:0<=p.lo/\p.lo<p.hi) (hq:0<=q.lo/\q.lo<q.hi):fT p q=5↔p.hi=q.hi/\q.lo<p.lo:=by
 unfold fT
 repeat' split
 all_goals (constructor<;>intro h<;>omega)
theorem Xo (p q:iQ):jd 5 p q=some (decide (p.hi=q.hi/\q.lo<p.lo)):=by
 unfold jd
 simp only [Int.reduceEq,decide_false,decide_true,aa',aa_,dL]
 by_cases h0:p.hi=q.hi<;>simp [h0]
theorem T9 {p q:iQ} (hp:0<=p.lo/\p.lo<p.hi) (hq:0<=q.lo/\q.lo<q.hi):fT p q=6↔p.lo=q.lo/\p.hi=q.hi:=by
 unfold fT
 repeat' split
 all_goals (constructor<;>intro h<;>omega)
theorem XJ (p q:iQ):jd 6 p q=some (decide (p.lo=q.lo/\p.hi=q.hi)):=by
 unfold jd
 simp only [Int.reduceEq,decide_false,decide_true,aa',aa_,dL]<;>rfl
theorem UD {p q:iQ} (hp:0<=p.lo/\p.lo<p.hi) (hq:0<=q.lo/\q.lo<q.hi):fT p q=7↔p.hi=q.hi/\p.lo<q.lo:=by
 unfold fT
 repeat' split
 all_goals (constructor<;>intro h<;>omega)
theorem XX (p q:iQ):jd 7 p q=some (decide (p.hi=q.hi/\p.lo<q.lo)):=by
 unfold jd
 simp only [Int.reduceEq,decide_false,decide_true,aa',aa_,dL]
 by_cases h0:p.hi=q.hi<;>simp [h0]
theorem Ui {p q:iQ} (hp:0<=p.lo/\p.lo<p.hi) (hq:0<=q.lo/\q.lo<q.hi):fT p q=8↔p.lo<q.lo/\q.hi<p.hi:=by
 unfold fT
 repeat' split
 all_goals (constructor<;>intro h<;>omega)
theorem XF (p q:iQ):jd 8 p q=some (decide (p.lo<q.lo/\q.hi<p.hi)):=by
 unfold jd
 simp only [Int.reduceEq,decide_false,decide_true,aa',aa_,dL]
 by_cases h0:p.lo<q.lo<;>simp [h0]
theorem U7 {p q:iQ} (hp:0<=p.lo/\p.lo<p.hi) (hq:0<=q.lo/\q.lo<q.hi):fT p q=9↔p.lo=q.lo/\q.hi<p.hi:=by
 unfold fT
 repeat' split
 all_goals (constructor<;>intro h<;>omega)
theorem XL (p q:iQ):jd 9 p q=some (decide (p.lo=q.lo/\q.hi<p.hi)):=by
 unfold jd
 simp only [Int.reduceEq,decide_false,decide_true,aa',aa_,dL]
 by_cases h0:p.lo=q.lo<;>simp [h0]
theorem Rc {p q:iQ} (hp:0<=p.lo/\p.lo<p.hi) (hq:0<=q.lo/\q.lo<q.hi):fT p q=10↔q.lo<p.lo/\p.lo<q.hi/\q.hi<p.hi:=by
 unfold fT
 repeat' split
 all_goals (constructor<;>intro h<;>omega)
theorem Vt (p q:iQ):jd 10 p q=some (decide (q.lo<p.lo/\p.lo<q.hi/\q.hi<p.hi)):=by
 unfold jd
 simp only [Int.reduceEq,decide_false,decide_true,aa',aa_,dL]
 by_cases h0:q.lo<p.lo<;>by_cases h1:p.lo<q.hi<;>simp [h0,h1]
theorem QZ {p q:iQ} (hp:0<=p.lo/\p.lo<p.hi) (hq:0<=q.lo/\q.lo<q.hi):fT p q=11↔q.hi=p.lo:=by
 unfold fT
 repeat' split
 all_goals (constructor<;>intro h<;>omega)
theorem V3 (p q:iQ):jd 11 p q=some (decide (q.hi=p.lo)):=by
 unfold jd
 simp only [Int.reduceEq,decide_false,decide_true,aa',aa_,dL]<;>rfl
theorem QT {p q:iQ} (hp:0<=p.lo/\p.lo<p.hi) (hq:0<=q.lo/\q.lo<q.hi):fT p q=12↔q.hi<p.lo:=by
 unfold fT
 repeat' split
 all_goals (constructor<;>intro h<;>omega)
theorem VE (p q:iQ):jd 12 p q=some (decide (q.hi<p.lo)):=by
 unfold jd
 simp only [Int.reduceEq,decide_false,decide_true,aa',aa_,dL]<;>rfl
theorem zg (p q:iQ):0<=fT p q/\fT p q<13:=by
 unfold fT
 repeat' split
 all_goals omega
theorem TK {rel:Int} (h : ¬ (0<=rel/\rel<13)) (p q:iQ):jd rel p q=some false:=by
 unfold jd
 rw [aba (show ¬ rel=0 by omega),aa_]
 rw [aba (show ¬ rel=1 by omega),aa_]
 rw [aba (show ¬ rel=2 by omega),aa_]
 rw [aba (show ¬ rel=3 by omega),aa_]
 rw [aba (show ¬ rel=4 by omega),aa_]
 rw [aba (show ¬ rel=5 by omega),aa_]
 rw [aba (show ¬ rel=6 by omega),aa_]
 rw [aba (show ¬ rel=7 by omega),aa_]
 rw [aba (show ¬ rel=8 by omega),aa_]
 rw [aba (show ¬ rel=9 by omega),aa_]
 rw [aba (show ¬ rel=10 by omega),aa_]
 rw [aba (show ¬ rel=11 by omega),aa_]
 rw [aba (show ¬ rel=12 by omega),aa_]
theorem TG {p q:iQ} (hp:dN p=true) (hq:dN q=true) (rel:Int):jd rel p q=some (decide (fT p q=rel)):=by
 obtain ⟨p1,p2,p3⟩:=GL hp
 obtain ⟨q1,q2,q3⟩:=GL hq
 by_cases hr:0<=rel/\rel<13
 ·have:rel=0\/rel=1\/rel=2\/rel=3\/rel=4\/rel=5\/rel=6\/rel=7\/rel=8\/rel=9\/rel=10\/rel=11\/rel=12:=by omega
  rcases this with rfl|rfl|rfl|rfl|rfl|rfl|rfl|rfl|rfl|rfl|rfl|rfl|rfl
  ·rw [XC];congr 1;rw [decide_eq_decide,Tk ⟨p1,p2⟩ ⟨q1,q2⟩]
  ·rw [Yg];congr 1;rw [decide_eq_decide,Ux ⟨p1,p2⟩ ⟨q1,q2⟩]
  ·rw [XE];congr 1;rw [decide_eq_decide,Vd ⟨p1,p2⟩ ⟨q1,q2⟩]
  ·rw [Xx];congr 1;rw [decide_eq_decide,Tz ⟨p1,p2⟩ ⟨q1,q2⟩]
  ·rw [XK];congr 1;rw [decide_eq_decide,Ua ⟨p1,p2⟩ ⟨q1,q2⟩]
  ·rw [Xo];congr 1;rw [decide_eq_decide,SH ⟨p1,p2⟩ ⟨q1,q2⟩]
  ·rw [XJ];congr 1;rw [decide_eq_decide,T9 ⟨p1,p2⟩ ⟨q1,q2⟩]
  ·rw [XX];congr 1;rw [decide_eq_decide,UD ⟨p1,p2⟩ ⟨q1,q2⟩]
  ·rw [XF];congr 1;rw [decide_eq_decide,Ui ⟨p1,p2⟩ ⟨q1,q2⟩]
  ·rw [XL];congr 1;rw [decide_eq_decide,U7 ⟨p1,p2⟩ ⟨q1,q2⟩]
  ·rw [Vt];congr 1;rw [decide_eq_decide,Rc ⟨p1,p2⟩ ⟨q1,q2⟩]
  ·rw [V3];congr 1;rw [decide_eq_decide,QZ ⟨p1,p2⟩ ⟨q1,q2⟩]
  ·rw [VE];congr 1;rw [decide_eq_decide,QT ⟨p1,p2⟩ ⟨q1,q2⟩]
 ·rw [TK hr,aba]
  have:=zg p q
  omega
theorem FJ (rel:Int) (p q:iQ):Ap rel p q=some (dN p&&(dN q&&decide (fT p q=rel))):=by
 unfold Ap
 rw [F_,F_]
 simp only [aa8]
 cases hp:dN p with
 | false=>rfl
 | true =>
  cases hq:dN q with
  | false=>rfl
  | true=>rw [TG hp hq];rfl
theorem Ni (p q:iQ) (h:dN p=true/\dN q=true) : ∀ (n i:Nat),(i:Int)<=fT p q->13-i<n->ax (rM p q) n (i:Int)=some (.inr (fT p q,true))
 | 0,i,_,h2=>by omega
 | n+1,i,h1,h2=>by
  have hr:=zg p q
  rw [ax]
  unfold rM
  dsimp only
  rw [abb (show (i:Int)<13 by omega),aa',FJ,aa8,h.1,h.2,wrapN (by omega)]
  by_cases e:fT p q=i
  ·rw [e];simp
  ·simp only [abI,aba e,aa_]
   exact Ni p q h n (i+1) (by omega) (by omega)
theorem M0 (p q:iQ) (h : ¬ (dN p=true/\dN q=true)) : ∀ (n i:Nat),i<=13->13-i<n->ax (rM p q) n (i:Int)=some (.inl ((13:Nat):Int))
 | 0,i,_,h2=>by omega
 | n+1,i,h1,h2=>by
  rw [ax]
  unfold rM
  dsimp only
  by_cases hi:i=13
  ·subst hi;rfl
  ·rw [abb (show (i:Int)<13 by omega),aa',FJ,aa8,wrapN (by omega)]
   have:(dN p&&(dN q&&decide (fT p q=i)))=false:=by
    cases hp:dN p<;>cases hq:dN q<;>simp_all
   rw [this,aa_]
   exact M0 p q h n (i+1) (by omega) (by omega)
theorem SK (p q:iQ):NH p q=some (if dN p=true/\dN q=true then (fT p q,true) else (0,false)):=by
 unfold NH
 by_cases h:dN p=true/\dN q=true
 ·have:=Ni p q h fuel 0 (zg p q).1 (by unfold fuel;omega)
  rw [show ((0:Nat):Int)=0 from rfl] at this
  rw [this,if_pos h];rfl
 ·have:=M0 p q h fuel 0 (by omega) (by unfold fuel;omega)
  rw [show ((0:Nat):Int)=0 from rfl] at this
  rw [this,if_neg h];rfl
def vv (row:List Val) (i:Int):Val:=if 0<=i then (row[i.toNat]?).getD gH else gH
theorem U_ (row:List Val) (i:Int):Yt row i=some (vv row i):=by
 unfold Yt vv
 by_cases h1:i<0
 ·rw [abb h1,aa',if_neg (by omega)];rfl
 ·rw [aba h1,aa_,if_pos (by omega)]
  by_cases h2:((row.length:Nat):Int)<=i
  ·rw [abb h2,aa',List.getElem?_eq_none (by omega)];rfl
  ·rw [aba h2,aa_]
   obtain ⟨x,hx⟩:=gol_ (show i.toNat<row.length by omega)
   unfold aL
   rw [if_pos (by omega),hx];rfl
theorem Qa (row:List Val) (i:Int):ME row i=some (vv row i):=(show ME row i=Yt row i from rfl).trans (U_ row i)
theorem Sb (row:List Val) (i:Int):Ll row [i]=some [vv row i]:=by
 unfold Ll
 simp only [abw,abF]
 rw [show decide ((0:Int)<=(((0+1:Nat)):Int))=true from rfl,show decide ((32:Int)*(((0+1:Nat)):Int)<=281474976710656)=true from rfl,show decide ((((0+1:Nat)):Int)<=9223372036854775807)=true from rfl]
 simp only [aa']
 rw [dx (l:=[i]) (mk:=fun t i=>(t,i)) (f:=push (vv row) 4398046511104) ?_ ?_ (by unfold fuel;simp) []]
 ·rw [I4 _ _ _ _ (by simp)];rfl
 ·intro s j x hx
  have hi:=(aa9.1 hx).1
  unfold zP push
  dsimp only
  rw [aY hx,aa',gn_ hx]
  simp only [aa8]
  rw [U_,aa8,wrapN (by simp at hi;omega)]
  cases decide (s.length+1<=4398046511104)<;>rfl
 ·intro s
  unfold zP
  dsimp only
  rw [lF_,aa_]
theorem Pp (row:List Val) (i:Int):zK row i=some (Lf (vv row i)):=by
 unfold zK
 rw [Sb,aa8,show aL [vv row i] (0:Int)=some (vv row i) from rfl,aa8,yA,aa8,mf]
 unfold Lf
 cases vF (vv row i)<;>rfl
theorem Q4 (e:Ex) (row:List Val) (h:e.op=2):Dt e row=some (Lf (vv row e.int)):=by
 unfold Dt
 rw [h,show decide ((2:Int)=2)=true from rfl,aa',Qa,aa8,jJ,aa8,bR]
 unfold Lf
 cases vF (vv row e.int)<;>rfl
theorem Md (e:Ex) (row:List Val) (h:e.op=1) (hv:vF e.v=true):Dt e row=some e.v:=by
 unfold Dt
 rw [h,show decide ((1:Int)=2)=false from rfl,aa_,jJ,aa8,hv]
 rfl
def fD (l:List Val) (k:Int):Bool:=l.all fun v=>decide (v.kind=k)
theorem mZ (l:List Val) (k:Int) (hl:l.length<=1000000):L8 l k=some (fD l k):=by
 unfold L8
 rw [dx (l:=l) (mk:=fun (_:Unit) i=>i) (f:=fun _ v=>some (if v.kind≠k then .inr false else .inl ())) ?_ ?_ (by unfold fuel;omega) ()]
 ·have : ∀ l:List Val,dE (ρ:=Bool) (fun (_:Unit) (v:Val)=>some (if v.kind≠k then .inr false else .inl ())) () l=some (if fD l k=true then .inl () else .inr false):=by
   intro l
   induction l with
   | nil=>rfl
   | cons v l ih =>
    rw [dE]
    by_cases h:v.kind=k
    ·simp only [ne_eq,h,not_true_eq_false,if_false]
     rw [ih];simp [fD,h]
    ·simp [fD,h]
  rw [this]
  cases fD l k<;>rfl
 ·intro s i x hx
  have hi:=(aa9.1 hx).1
  unfold D5
  dsimp only
  rw [aY hx,aa',gn_ hx,wrapN (by omega)]
  simp only [aa8]
  by_cases h:x.kind=k
  ·simp [h,rf]
  ·simp [h,rf]
 ·intro s
  unfold D5
  dsimp only
  rw [lF_,aa_]
def A8 (f:Int->Int->Int) (l:List Val) (t:Int):Int:=l.foldl (fun t v=>f t (tF_ v)) t
theorem DV {f:Int->Int->Int} (hf : ∀ a b,T3 (f a b)) : ∀ (l:List Val) (t:Int),T3 t->T3 (A8 f l t)
 | [],t,h=>h
 | v::l,t,h=>DV hf l _ (hf _ _)
theorem zV {f:Int->Int->Int} (hf : ∀ a b,T3 (f a b)) {g:Int->Int->Option Int} (hg : ∀ a b,T3 a->T3 b->g a b=some (f a b)) : ∀ (l:List Val) (t:Int),T3 t->dE (ρ:=Val) (fun t v=>(g t (tF_ v)).bind fun r=>some (.inl r)) t l=some (.inl (A8 f l t))
 | [],t,h=>rfl
 | v::l,t,h=>by
  rw [dE,hg _ _ h (iT v)]
  exact zV hf hg l _ (hf _ _)
theorem Pm (x:Val) (l:List Val) (hl:l.length<=1000000):oU 5 (x::l)=some (zw (A8 H5 l (tF_ x))):=by
 unfold oU
 rw [show aL (x::l) (0:Int)=some x from rfl,aa8,jH,aa8,show decide ((5:Int)=4)=false from rfl,aa_,show decide ((5:Int)=5)=true from rfl,aa']
 rw [show jE (x::l) (1:Int) (((x::l).length:Nat):Int)=some l by unfold jE;rw [if_pos (by simp only [abw];omega)];simp,aa8]
 rw [dx (l:=l) (mk:=fun t i=>(t,i)) (f:=fun t v=>(Pb t (tF_ v)).bind fun r=>some (.inl r)) ?_ ?_ (by unfold fuel;omega) (tF_ x)]
 ·rw [zV Kv (fun a b ha hb=>VQ ha hb) l _ (iT x)]
  show (zQ (A8 H5 l (tF_ x))).bind _=_
  rw [kG (DV Kv l _ (iT x))];rfl
 ·intro s i v hv
  have hi:=(aa9.1 hv).1
  unfold wO
  dsimp only
  rw [aY hv,aa',gn_ hv,wrapN (by omega)]
  simp only [aa8]
  rw [jH,aa8]
  cases Pb s (tF_ v)<;>rfl
 ·intro s
  unfold wO
  dsimp only
  rw [lF_,aa_]
theorem Sa (x:Val) (l:List Val) (hl:l.length<=1000000):oU 6 (x::l)=some (zw (A8 Vm l (tF_ x))):=by
 unfold oU
 rw [show aL (x::l) (0:Int)=some x from rfl,aa8,jH,aa8,show decide ((6:Int)=4)=false from rfl,aa_,show decide ((6:Int)=5)=false from rfl,aa_]
 rw [show jE (x::l) (1:Int) (((x::l).length:Nat):Int)=some l by unfold jE;rw [if_pos (by simp only [abw];omega)];simp,aa8]
 rw [dx (l:=l) (mk:=fun t i=>(t,i)) (f:=fun t v=>(Gy t (tF_ v)).bind fun r=>some (.inl r)) ?_ ?_ (by unfold fuel;omega) (tF_ x)]
 ·rw [zV N0 (fun a b ha hb=>X9 ha hb) l _ (iT x)]
  show (zQ (A8 Vm l (tF_ x))).bind _=_
  rw [kG (DV N0 l _ (iT x))];rfl
 ·intro s i v hv
  have hi:=(aa9.1 hv).1
  unfold xw
  dsimp only
  rw [aY hv,aa',gn_ hv,wrapN (by omega)]
  simp only [aa8]
  rw [jH,aa8]
  cases Gy s (tF_ v)<;>rfl
 ·intro s
  unfold xw
  dsimp only
  rw [lF_,aa_]
theorem OW (x:Val):oU 4 [x]=some (zw (Gf (tF_ x))):=by
 unfold oU
 rw [show aL [x] (0:Int)=some x from rfl,aa8,jH,aa8,show decide ((4:Int)=4)=true from rfl,aa',xm (iT x),aa8,kG (sW _)];rfl
theorem EY (op:Int) (f:Int->Int->Int) (hf : ∀ a b,T3 (f a b)) (hop : ∀ a b,T3 a->T3 b->(bif decide (op=5) then Gl a b else NU a b)=some (f a b)) (x:Val) (l:List Val) (hl:l.length<=1000000):wR op (x::l)=some (zw (A8 f l (tF_ x))):=by
 unfold wR
 rw [show aL (x::l) (0:Int)=some x from rfl,aa8,og,aa8]
 have:=Ld (l:=x::l) (body:=nQ op (x::l)) (ρ:=Val) (mk:=fun t i=>(t,i)) (f:=fun t v=>(bif decide (op=5) then Gl t (tF_ v) else NU t (tF_ v)).bind fun r=>some (.inl r)) (by
  intro s i v hv
  have hi:=(aa9.1 hv).1
  unfold nQ
  dsimp only
  rw [aY hv,aa',gn_ hv,wrapN (by simp at hi;omega)]
  simp only [aa8,og]
  cases decide (op=5)
  ·simp only [aa_];cases NU s (tF_ v)<;>rfl
  ·simp only [aa'];cases Gl s (tF_ v)<;>rfl) (by
  intro s
  unfold nQ
  dsimp only
  rw [lF_,aa_]) fuel 1 (tF_ x) (by simp) (by unfold fuel;simp;omega)
 rw [show ((1:Nat):Int)=1 from rfl] at this
 rw [this]
 have h2:=zV hf hop l (tF_ x) (iT x)
 rw [show (x::l).drop 1=l from rfl,h2]
 show (DC (A8 f l (tF_ x))).bind _=_
 rw [qc (DV hf l _ (iT x))];rfl
theorem xM (s:ByteArray):(s.toList==(⟨#[]⟩:ByteArray).toList)=true↔s=ByteArray.empty:=by
 rw [beq_iff_eq,ByteArray.toList_eq,ByteArray.toList_eq]
 constructor
 ·intro h
  have:s.data.toList=[]:=h
  obtain ⟨d⟩:=s
  obtain ⟨l⟩:=d
  simp at this
  subst this;rfl
 ·rintro rfl;rfl
structure VV (v:Val):Prop where
 kind:0<=v.kind/\v.kind<=3
 int : -1125899906842624<=v.int/\v.int<=1125899906842624
 text:v.text.size<=200
theorem uF {v:Val} (h:vF v=true):VV v:=by
 have hx:=jJ v
 rw [h] at hx
 unfold dW at hx
 have e0 : ∀ s:ByteArray,s=ByteArray.empty->s.size<=200:=by rintro s rfl;decide
 by_cases k0:v.kind=0
 ·rw [abb k0,aa'] at hx
  by_cases i0:v.int=0
  ·rw [abb i0,aa'] at hx
   have:=(xM _).1 (abH hx)
   exact ⟨by omega,by omega,e0 _ this⟩
  ·rw [aba i0,aa_] at hx;cases hx
 rw [aba k0,aa_] at hx
 by_cases k1:v.kind=1
 ·rw [abb k1,aa'] at hx
  by_cases t0:(v.text.toList==(⟨#[]⟩:ByteArray).toList)=true
  ·rw [t0,aa'] at hx
   by_cases i1:(-1125899906842624:Int)<=v.int
   ·rw [abb i1,aa'] at hx
    have:=abD (abH hx)
    exact ⟨by omega,⟨i1,this⟩,e0 _ ((xM _).1 t0)⟩
   ·rw [aba i1,aa_] at hx;cases hx
  ·rw [Bool.not_eq_true] at t0
   rw [t0,aa_] at hx;cases hx
 rw [aba k1,aa_] at hx
 by_cases k2:v.kind=2
 ·rw [abb k2,aa'] at hx
  by_cases i0:v.int=0
  ·rw [abb i0,aa'] at hx
   by_cases t2:((v.text.size:Nat):Int)<=200
   ·exact ⟨by omega,by omega,by omega⟩
   ·rw [aba t2,aa_] at hx;cases hx
  ·rw [aba i0,aa_] at hx;cases hx
 rw [aba k2,aa_] at hx
 by_cases k3:v.kind=3
 ·rw [abb k3,aa'] at hx
  by_cases t0:(v.text.toList==(⟨#[]⟩:ByteArray).toList)=true
  ·rw [t0,aa'] at hx
   by_cases i0:v.int=0
   ·exact ⟨by omega,by omega,e0 _ ((xM _).1 t0)⟩
   ·rw [aba i0,aa_] at hx
    have:=abD (abH hx)
    exact ⟨by omega,by omega,e0 _ ((xM _).1 t0)⟩
  ·rw [Bool.not_eq_true] at t0
   rw [t0,aa_] at hx;cases hx
 rw [aba k3,aa_] at hx
 cases hx
theorem VV.vok {v:Val} (h:VV v):Uj v:=⟨⟨by have:=h.kind;omega,by have:=h.kind;omega⟩,⟨by have:=h.int;omega,by have:=h.int;omega⟩,by have:=h.text;omega⟩
abbrev Zd (n:Int):Val:=Lf ⟨1,n,ByteArray.empty⟩
abbrev ZA (s:ByteArray):Val:=Lf ⟨2,0,s⟩
def Vy (op a b:Int):Val:=(dM op a b).getD gH
theorem Yd {a:Int} (h : -1125899906842624<=a/\a<=1125899906842624):SE a (IntKind.i64.wrap (0-a))=(a.natAbs:Int):=by
 rw [bJ (by omega)]
 unfold SE
 split<;>omega
theorem Ik (a b:Int):uL a b=dM 15 a b:=by
 unfold uL dM
 rw [show decide ((15:Int)=13)=false from rfl,show decide ((15:Int)=14)=false from rfl,show decide ((15:Int)=15)=true from rfl]
 simp only [aa',aa_]
 cases decide (a≠0) with
 | false=>simp only [aa_];rw [mh,kE]
 | true =>
  simp only [aa']
  unfold RL
  simp only [aa8]
  rw [mh,kE]
  rfl
theorem Kq {op a b:Int} (ha : -1125899906842624<=a/\a<=1125899906842624) : ∃ v,dM op a b=some v/\vF v=true:=by
 unfold dM
 simp only [kE,aa8,bR]
 cases decide (op=13) with
 | true=>exact ⟨_,rfl,qj _⟩
 | false =>
 cases decide (op=14) with
 | true=>exact ⟨_,rfl,qj _⟩
 | false =>
 cases decide (op=15) with
 | true =>
  simp only [aa',aa_]
  by_cases h:a=0
  ·subst h;exact ⟨_,rfl,qj _⟩
  ·rw [abb (show a≠0 from h),aa']
   unfold RL
   simp only [aa8]
   rw [Yd ha,abb (show ((a.natAbs:Nat):Int)≠0 by omega),aa']
   generalize decide (IntKind.i64.wrap ((1125899906842624:Int).tdiv ((a.natAbs:Nat):Int))<SE b (IntKind.i64.wrap (0-b)))=c
   cases c with
   | true=>exact ⟨_,rfl,mG⟩
   | false=>exact ⟨_,rfl,qj _⟩
 | false =>
  simp only [aa_]
  by_cases h:b=0
  ·rw [abb h];exact ⟨_,rfl,mG⟩
  ·rw [aba h,abb (show b≠0 from h)]
   simp only [aa',aa_]
   cases decide (op=16) with
   | true=>exact ⟨_,rfl,qj _⟩
   | false=>exact ⟨_,rfl,qj _⟩
theorem gP {op a b:Int} (ha : -1125899906842624<=a/\a<=1125899906842624):dM op a b=some (Vy op a b)/\vF (Vy op a b)=true:=by
 obtain ⟨v,h1,h2⟩:=Kq (op:=op) (b:=b) ha
 unfold Vy
 rw [h1];exact ⟨rfl,h2⟩
theorem Ep (l:List Val) (hl:l.length<=1000000):ax (qF l) fuel (0:Int)=some (bif fD l 1 then .inl ((l.length:Nat):Int) else .inr gH):=by
 rw [dx (l:=l) (mk:=fun (_:Unit) i=>i) (f:=fun _ v=>some (if v.kind≠1 then .inr gH else .inl ())) ?_ ?_ (by unfold fuel;omega) ()]
 ·have : ∀ l:List Val,dE (ρ:=Val) (fun (_:Unit) (v:Val)=>some (if v.kind≠1 then .inr gH else .inl ())) () l=some (if fD l 1=true then .inl () else .inr gH):=by
   intro l
   induction l with
   | nil=>rfl
   | cons v l ih =>
    rw [dE]
    by_cases h:v.kind=1
    ·simp only [ne_eq,h,not_true_eq_false,if_false]
     rw [ih];simp [fD,h]
    ·simp [fD,h]
  rw [this]
  cases fD l 1<;>rfl
 ·intro s i x hx
  have hi:=(aa9.1 hx).1
  unfold qF
  dsimp only
  rw [aY hx,aa',gn_ hx,wrapN (by omega)]
  simp only [aa8]
  by_cases h:x.kind=1
  ·simp [h,rf]
  ·simp [h,rf,mf]
 ·intro s
  unfold qF
  dsimp only
  rw [lF_,aa_]
def fU (op:Int) (a b:Val):Val:=bif fD [a,b] 1 then Vy op a.int b.int else gH
theorem nN {op:Int} {a b:Val} (ha:VV a) (h:op=13\/op=14\/op=15\/op=16\/op=17):mF op [a,b]=some (fU op a b):=by
 unfold mF fU
 rw [Ep _ (by simp)]
 cases fD [a,b] 1 with
 | false=>rfl
 | true =>
  simp only [aa',aa8]
  have hc:=(gP (op:=op) (b:=b.int) ha.int).1
  rw [<- hc]
  unfold nJ
  dsimp only
  rw [show aL [a,b] (0:Int)=some a from rfl,aa8,show aL [a,b] (IntKind.i64.wrap ((([a,b].length:Nat):Int)-1))=some b from rfl,aa8]
  rcases h with rfl|rfl|rfl|rfl|rfl
  ·unfold dM
   rw [show decide ((13:Int)=13)=true from rfl,aa',aa',kE,mh]
  ·unfold dM
   rw [show decide ((14:Int)=13)=false from rfl,show decide ((14:Int)=14)=true from rfl]
   simp only [aa',aa_]
   rw [kE,mh]
  ·rw [show decide ((15:Int)=13)=false from rfl,show decide ((15:Int)=14)=false from rfl,show decide ((15:Int)=15)=true from rfl]
   simp only [aa',aa_]
   rw [Ik]
   cases dM 15 a.int b.int<;>rfl
  ·unfold dM
   rw [show decide ((16:Int)=13)=false from rfl,show decide ((16:Int)=14)=false from rfl,show decide ((16:Int)=15)=false from rfl,show decide ((16:Int)=18)=false from rfl,show decide ((16:Int)=16)=true from rfl]
   simp only [aa',aa_,mh,kE,mf,bR]
  ·unfold dM
   rw [show decide ((17:Int)=13)=false from rfl,show decide ((17:Int)=14)=false from rfl,show decide ((17:Int)=15)=false from rfl,show decide ((17:Int)=18)=false from rfl,show decide ((17:Int)=16)=false from rfl]
   simp only [aa',aa_,mh,kE,mf,bR]
def MO (a:Val):Val:=bif fD [a] 1 then Zd (IntKind.i64.wrap (0-a.int)) else gH
theorem OQ (a:Val):mF 18 [a]=some (MO a):=by
 unfold mF MO
 rw [Ep _ (by simp)]
 cases fD [a] 1 with
 | false=>rfl
 | true =>
  simp only [aa',aa8]
  show (mK _).bind _=_
  rw [mh];rfl
def Kj (a b:Val):Val:=bif fD [a,b] 2 then ZA (a.text++b.text) else gH
def KG (a:Val):Val:=bif fD [a] 2 then Zd ((a.text.size:Nat):Int) else gH
theorem Ox {a b:Val} (ha:VV a) (hb:VV b):uW 19 [a,b]=some (Kj a b):=by
 unfold uW Kj
 rw [mZ _ _ (by simp),aa8]
 cases fD [a,b] 2 with
 | false=>rfl
 | true =>
  have h1:=ha.text
  have h2:=hb.text
  rw [Bool.not_true,aa_,aa',show decide ((19:Int)=19)=true from rfl,aa',show aL [a,b] (0:Int)=some a from rfl,aa8,show aL [a,b] (1:Int)=some b from rfl,aa8]
  rw [abb (show a.text.size+b.text.size<=9223372036854775807 by omega),aa',Ru];rfl
theorem OJ (a:Val):uW 20 [a]=some (KG a):=by
 unfold uW KG
 rw [mZ _ _ (by simp),aa8]
 cases fD [a] 2 with
 | false=>rfl
 | true =>
  rw [Bool.not_true,aa_,aa',show decide ((20:Int)=19)=false from rfl,aa_,show aL [a] (0:Int)=some a from rfl,aa8,kE];rfl
def pu (p:Int × ByteArray) (x:Val):Option (Sum (Int × ByteArray) Val):=bif decide (x.kind≠2) then some (.inr gH) else bif decide (p.2.size+x.text.size<=9223372036854775807) then some (.inl (IntKind.i64.wrap (p.1+((x.text.size:Nat):Int)),p.2++x.text)) else none
theorem Fv (op:Int) (l:List Val) (hl:l.length<=1000000):wD op l=(G9 (fun (p:Int × ByteArray) i=>(p.1,p.2,i)) l.length (dE pu (0,⟨#[]⟩) l)).bind (nL op):=by
 unfold wD
 rw [dx (l:=l) (mk:=fun (p:Int × ByteArray) i=>(p.1,p.2,i)) (f:=pu) ?_ ?_ (by unfold fuel;omega) ((0:Int),(⟨#[]⟩:ByteArray))]
 ·intro s i x hx
  have hi:=(aa9.1 hx).1
  unfold xq pu
  dsimp only
  rw [aY hx,aa',gn_ hx,wrapN (by omega)]
  simp only [aa8]
  cases decide (x.kind≠2) with
  | true=>rfl
  | false =>
   simp only [aa_]
   cases decide (s.2.size+x.text.size<=9223372036854775807)<;>rfl
 ·intro s
  unfold xq
  dsimp only
  rw [lF_,aa_]
theorem Vr (s:ByteArray):(⟨#[]⟩:ByteArray)++s=s:=by
 apply ByteArray.ext
 simp
theorem Ou {a b:Val} (ha:VV a) (hb:VV b):wD 19 [a,b]=some (Kj a b):=by
 have h1:=ha.text
 have h2:=hb.text
 have h0:(⟨#[]⟩:ByteArray).size=0:=rfl
 rw [Fv _ _ (by simp)]
 unfold Kj
 by_cases ka:a.kind=2
 ·by_cases kb:b.kind=2
  ·have e:fD [a,b] 2=true:=by simp [fD,ka,kb]
   rw [e]
   simp only [dE,pu]
   rw [aba (show ¬ a.kind≠2 by omega),aa_,abb (show (⟨#[]⟩:ByteArray).size+a.text.size<=9223372036854775807 by rw [h0];omega),aa']
   simp only []
   rw [aba (show ¬ b.kind≠2 by omega),aa_,Vr,abb (show a.text.size+b.text.size<=9223372036854775807 by omega),aa']
   show (BV (a.text++b.text)).bind _=_
   rw [Ra];rfl
  ·have e:fD [a,b] 2=false:=by simp [fD,kb]
   rw [e]
   simp only [dE,pu]
   rw [aba (show ¬ a.kind≠2 by omega),aa_,abb (show (⟨#[]⟩:ByteArray).size+a.text.size<=9223372036854775807 by rw [h0];omega),aa']
   simp only []
   rw [abb (show b.kind≠2 from kb),aa'];rfl
 ·have e:fD [a,b] 2=false:=by simp [fD,ka]
  rw [e]
  simp only [dE,pu]
  rw [abb (show a.kind≠2 from ka),aa'];rfl
theorem Ps {a:Val} (ha:VV a):wD 20 [a]=some (KG a):=by
 have h1:=ha.text
 have h0:(⟨#[]⟩:ByteArray).size=0:=rfl
 rw [Fv _ _ (by simp)]
 unfold KG
 by_cases ka:a.kind=2
 ·have e:fD [a] 2=true:=by simp [fD,ka]
  rw [e]
  simp only [dE,pu]
  rw [aba (show ¬ a.kind≠2 by omega),aa_,abb (show (⟨#[]⟩:ByteArray).size+a.text.size<=9223372036854775807 by rw [h0];omega),aa']
  show (mK (IntKind.i64.wrap (0+((a.text.size:Nat):Int)))).bind _=_
  rw [mh,Int.zero_add,bJ (by omega)];rfl
 ·have e:fD [a] 2=false:=by simp [fD,ka]
  rw [e]
  simp only [dE,pu]
  rw [abb (show a.kind≠2 from ka),aa'];rfl
def J3 (rel:Int) (a b c d:Val):Val :=
 bif fD [a,b,c,d] 1 then (if dN ⟨a.int,b.int⟩=true/\dN ⟨c.int,d.int⟩=true then mM (decide (fT ⟨a.int,b.int⟩ ⟨c.int,d.int⟩=rel)) else gH) else gH
theorem JY (rel:Int) (a b c d:Val):qQ rel [a,b,c,d]=some (J3 rel a b c d):=by
 unfold qQ J3
 rw [mZ _ _ (by simp),aa8]
 cases fD [a,b,c,d] 1 with
 | false=>exact congrArg (fun o:Option Val=>o.bind fun r=>some r) bR
 | true =>
  rw [Bool.not_true,aa_,aa',show aL [a,b,c,d] (0:Int)=some a from rfl,show aL [a,b,c,d] (1:Int)=some b from rfl,show aL [a,b,c,d] (2:Int)=some c from rfl,show aL [a,b,c,d] (3:Int)=some d from rfl]
  rw [aa8,aa8,aa8,aa8,SK,aa8]
  generalize fT ⟨a.int,b.int⟩ ⟨c.int,d.int⟩=x
  generalize dN ⟨a.int,b.int⟩=y
  generalize dN ⟨c.int,d.int⟩=z
  cases y<;>cases z
  ·exact congrArg (fun o:Option Val=>o.bind fun r=>some r) bR
  ·exact congrArg (fun o:Option Val=>o.bind fun r=>some r) bR
  ·exact congrArg (fun o:Option Val=>o.bind fun r=>some r) bR
  ·exact congrArg (fun o:Option Val=>o.bind fun r=>some r) (xL _)
theorem Nq (rel:Int) (a b c d:Val):wH rel [a,b,c,d]=some (J3 rel a b c d):=by
 unfold wH J3 Ae
 rw [show aL [a,b,c,d] (0:Int)=some a from rfl,show aL [a,b,c,d] (1:Int)=some b from rfl,show aL [a,b,c,d] (2:Int)=some c from rfl,show aL [a,b,c,d] (3:Int)=some d from rfl]
 simp only [aa8]
 rw [VO,aa8,mf]
 have e:fD [a,b,c,d] 1=((decide (a.kind=1)&&decide (b.kind=1))&&(decide (c.kind=1)&&decide (d.kind=1))):=by
  simp [fD,Bool.and_assoc]
 rw [e]
 generalize (decide (a.kind=1)&&decide (b.kind=1))=u
 generalize (decide (c.kind=1)&&decide (d.kind=1))=v
 generalize fT ⟨a.int,b.int⟩ ⟨c.int,d.int⟩=x
 generalize dN ⟨a.int,b.int⟩=y
 generalize dN ⟨c.int,d.int⟩=z
 cases u
 ·rfl
 cases v
 ·rfl
 cases y<;>cases z
 ·rfl
 ·rfl
 ·rfl
 ·exact congrArg (fun o:Option Val=>o.bind fun r=>some r) (Jf _)
theorem dO {n k:Int} : decide (n=k)=(decide (k<=n)&&decide (n<=k)):=by
 rw [Bool.eq_iff_iff];simp only [abr,decide_eq_true_eq];omega
theorem JZ {n k:Int} (h:n<=1099511627776):decide (k<=n)=(decide (k<=n)&&decide (n<=1099511627776)):=by
 rw [abb h,Bool.and_true]
def lJ (op:Int):Int × Int:=(vg op).getD (-1,0)
theorem wh (op n:Int) (h:n<=1099511627776):vg op=some (lJ op)/\uf op n=some (decide (0<=(lJ op).1)&&(decide ((lJ op).1<=n)&&decide (n<=(lJ op).2)),decide (0<=(lJ op).1))/\(0<=(lJ op).1->op=1\/op=2\/op=4\/op=5\/op=6\/op=7\/op=8\/op=9\/op=10\/op=11\/op=12\/op=13\/op=14\/op=15\/op=16\/op=17\/op=18\/op=19\/op=20\/op=21\/op=22\/op=23\/op=24) /\ -1<=(lJ op).1:=by
 by_cases h1:op=1
 ·subst h1
  refine ⟨rfl,?_,fun _=>by simp,by decide⟩
  show some (decide (n=0),true)=some (true&&(decide ((0:Int)<=n)&&decide (n<=0)),true)
  rw [abI, <- dO]
 by_cases h2:op=2
 ·subst h2
  refine ⟨rfl,?_,fun _=>by simp,by decide⟩
  show some (decide (n=0),true)=some (true&&(decide ((0:Int)<=n)&&decide (n<=0)),true)
  rw [abI, <- dO]
 by_cases h4:op=4
 ·subst h4
  refine ⟨rfl,?_,fun _=>by simp,by decide⟩
  show some (decide (n=1),true)=some (true&&(decide ((1:Int)<=n)&&decide (n<=1)),true)
  rw [abI, <- dO]
 by_cases h5:op=5
 ·subst h5
  refine ⟨rfl,?_,fun _=>by simp,by decide⟩
  show some (decide ((2:Int)<=n),true)=some (true&&(decide ((2:Int)<=n)&&decide (n<=1099511627776)),true)
  rw [abI, <- JZ h]
 by_cases h6:op=6
 ·subst h6
  refine ⟨rfl,?_,fun _=>by simp,by decide⟩
  show some (decide ((2:Int)<=n),true)=some (true&&(decide ((2:Int)<=n)&&decide (n<=1099511627776)),true)
  rw [abI, <- JZ h]
 by_cases h7:op=7
 ·subst h7
  refine ⟨rfl,?_,fun _=>by simp,by decide⟩
  show some (decide (n=2),true)=some (true&&(decide ((2:Int)<=n)&&decide (n<=2)),true)
  rw [abI, <- dO]
 by_cases h8:op=8
 ·subst h8
  refine ⟨rfl,?_,fun _=>by simp,by decide⟩
  show some (decide (n=2),true)=some (true&&(decide ((2:Int)<=n)&&decide (n<=2)),true)
  rw [abI, <- dO]
 by_cases h9:op=9
 ·subst h9
  refine ⟨rfl,?_,fun _=>by simp,by decide⟩
  show some (decide (n=2),true)=some (true&&(decide ((2:Int)<=n)&&decide (n<=2)),true)
  rw [abI, <- dO]
 by_cases h10:op=10
 ·subst h10
  refine ⟨rfl,?_,fun _=>by simp,by decide⟩
  show some (decide (n=2),true)=some (true&&(decide ((2:Int)<=n)&&decide (n<=2)),true)
  rw [abI, <- dO]
 by_cases h11:op=11
 ·subst h11
  refine ⟨rfl,?_,fun _=>by simp,by decide⟩
  show some (decide (n=2),true)=some (true&&(decide ((2:Int)<=n)&&decide (n<=2)),true)
  rw [abI, <- dO]
 by_cases h12:op=12
 ·subst h12
  refine ⟨rfl,?_,fun _=>by simp,by decide⟩
  show some (decide (n=2),true)=some (true&&(decide ((2:Int)<=n)&&decide (n<=2)),true)
  rw [abI, <- dO]
 by_cases h13:op=13
 ·subst h13
  refine ⟨rfl,?_,fun _=>by simp,by decide⟩
  show some (decide (n=2),true)=some (true&&(decide ((2:Int)<=n)&&decide (n<=2)),true)
  rw [abI, <- dO]
 by_cases h14:op=14
 ·subst h14
  refine ⟨rfl,?_,fun _=>by simp,by decide⟩
  show some (decide (n=2),true)=some (true&&(decide ((2:Int)<=n)&&decide (n<=2)),true)
  rw [abI, <- dO]
 by_cases h15:op=15
 ·subst h15
  refine ⟨rfl,?_,fun _=>by simp,by decide⟩
  show some (decide (n=2),true)=some (true&&(decide ((2:Int)<=n)&&decide (n<=2)),true)
  rw [abI, <- dO]
 by_cases h16:op=16
 ·subst h16
  refine ⟨rfl,?_,fun _=>by simp,by decide⟩
  show some (decide (n=2),true)=some (true&&(decide ((2:Int)<=n)&&decide (n<=2)),true)
  rw [abI, <- dO]
 by_cases h17:op=17
 ·subst h17
  refine ⟨rfl,?_,fun _=>by simp,by decide⟩
  show some (decide (n=2),true)=some (true&&(decide ((2:Int)<=n)&&decide (n<=2)),true)
  rw [abI, <- dO]
 by_cases h18:op=18
 ·subst h18
  refine ⟨rfl,?_,fun _=>by simp,by decide⟩
  show some (decide (n=1),true)=some (true&&(decide ((1:Int)<=n)&&decide (n<=1)),true)
  rw [abI, <- dO]
 by_cases h19:op=19
 ·subst h19
  refine ⟨rfl,?_,fun _=>by simp,by decide⟩
  show some (decide (n=2),true)=some (true&&(decide ((2:Int)<=n)&&decide (n<=2)),true)
  rw [abI, <- dO]
 by_cases h20:op=20
 ·subst h20
  refine ⟨rfl,?_,fun _=>by simp,by decide⟩
  show some (decide (n=1),true)=some (true&&(decide ((1:Int)<=n)&&decide (n<=1)),true)
  rw [abI, <- dO]
 by_cases h21:op=21
 ·subst h21
  refine ⟨rfl,?_,fun _=>by simp,by decide⟩
  show some (decide (n=1),true)=some (true&&(decide ((1:Int)<=n)&&decide (n<=1)),true)
  rw [abI, <- dO]
 by_cases h22:op=22
 ·subst h22
  refine ⟨rfl,?_,fun _=>by simp,by decide⟩
  show some (decide (n=3),true)=some (true&&(decide ((3:Int)<=n)&&decide (n<=3)),true)
  rw [abI, <- dO]
 by_cases h23:op=23
 ·subst h23
  refine ⟨rfl,?_,fun _=>by simp,by decide⟩
  show some (decide ((1:Int)<=n),true)=some (true&&(decide ((1:Int)<=n)&&decide (n<=1099511627776)),true)
  rw [abI, <- JZ h]
 by_cases h24:op=24
 ·subst h24
  refine ⟨rfl,?_,fun _=>by simp,by decide⟩
  show some (decide (n=4),true)=some (true&&(decide ((4:Int)<=n)&&decide (n<=4)),true)
  rw [abI, <- dO]
 have e1:vg op=some (-1,0):=by
  unfold vg;simp only [aba h1,aba h2,aba h4,aba h5,aba h6,aba h7,aba h8,aba h9,aba h10,aba h11,aba h12,aba h13,aba h14,aba h15,aba h16,aba h17,aba h18,aba h19,aba h20,aba h21,aba h22,aba h23,aba h24,aa_]
 have e2:uf op n=some (false,false):=by
  unfold uf;simp only [aba h1,aba h2,aba h4,aba h5,aba h6,aba h7,aba h8,aba h9,aba h10,aba h11,aba h12,aba h13,aba h14,aba h15,aba h16,aba h17,aba h18,aba h19,aba h20,aba h21,aba h22,aba h23,aba h24,aa_]
 have e3:lJ op=(-1,0):=by unfold lJ;rw [e1];rfl
 rw [e1,e2,e3]
 exact ⟨rfl,rfl,fun h=>absurd h (by decide),by decide⟩
theorem ar1:lJ 1=(0,0):=rfl
theorem ar2:lJ 2=(0,0):=rfl
theorem ar4:lJ 4=(1,1):=rfl
theorem ar5:lJ 5=(2,1099511627776):=rfl
theorem ar6:lJ 6=(2,1099511627776):=rfl
theorem ar7:lJ 7=(2,2):=rfl
theorem ar8:lJ 8=(2,2):=rfl
theorem ar9:lJ 9=(2,2):=rfl
theorem aaW:lJ 10=(2,2):=rfl
theorem aao:lJ 11=(2,2):=rfl
theorem aam:lJ 12=(2,2):=rfl
theorem ZC:lJ 13=(2,2):=rfl
theorem Y4:lJ 14=(2,2):=rfl
theorem Zk:lJ 15=(2,2):=rfl
theorem ZF:lJ 16=(2,2):=rfl
theorem YJ:lJ 17=(2,2):=rfl
theorem aa0:lJ 18=(1,1):=rfl
theorem aaG:lJ 19=(2,2):=rfl
theorem aaT:lJ 20=(1,1):=rfl
theorem aaJ:lJ 21=(1,1):=rfl
theorem Xw:lJ 22=(3,3):=rfl
theorem aaA:lJ 23=(1,1099511627776):=rfl
theorem aak:lJ 24=(4,4):=rfl
def uC (e:Ex):Bool:=(kC e).getD false
def Vf (v:Val):Bool:=dS [.c (.int .i64 v.kind), .c (.int .i64 v.int), .c (.str v.text)] [.c (.int .i64 (0:Int)), .c (.int .i64 (0:Int)), .c (.str ByteArray.empty)]
def zM (e:Ex):Bool:=(e.nm.toList==(⟨#[]⟩:ByteArray).toList)&&(if e.op=1 then decide (e.int=0)&&vF e.v else if e.op=2 then Vf e.v else if e.op=24 then Vf e.v&&(decide (0<=e.int)&&decide (e.int<13)) else decide (e.int=0)&&Vf e.v)
theorem pJ (e:Ex) (h:e.args.length<=100000):kC e=some ((decide (0<=(lJ e.op).1)&&(decide ((lJ e.op).1<=((e.args.length:Nat):Int))&&decide (((e.args.length:Nat):Int)<=(lJ e.op).2)))&&zM e)/\pq e=some ((decide (0<=(lJ e.op).1)&&(decide ((lJ e.op).1<=((e.args.length:Nat):Int))&&decide (((e.args.length:Nat):Int)<=(lJ e.op).2)))&&zM e):=by
 obtain ⟨h1,h2,h3,h4⟩:=wh e.op ((e.args.length:Nat):Int) (by omega)
 generalize lJ e.op=a at h1 h2 h3 h4
 obtain ⟨lo,hi⟩:=a
 dsimp only at h1 h2 h3 h4 ⊢
 have hR:kC e=(bif decide (0<=lo)&&(decide (lo<=((e.args.length:Nat):Int))&&decide (((e.args.length:Nat):Int)<=hi)) then some (zM e) else some false):=by
  unfold kC
  rw [h1,aa8]
  dsimp only
  by_cases c1:0<=lo
  ·rw [aba (show ¬ lo<0 by omega),abb c1,aa_,abI]
   by_cases c2:lo<=((e.args.length:Nat):Int)
   ·rw [aba (show ¬ ((e.args.length:Nat):Int)<lo by omega),abb c2,aa_,abI]
    by_cases c3:((e.args.length:Nat):Int)<=hi
    ·rw [aba (show ¬ hi<((e.args.length:Nat):Int) by omega),abb c3,aa_,aa']
     unfold zM
     cases (e.nm.toList==(⟨#[]⟩:ByteArray).toList) with
     | false=>rfl
     | true =>
      rw [Bool.not_true,aa_,abI]
      by_cases o1:e.op=1
      ·rw [abb o1,aa',if_pos o1,jJ]
       cases decide (e.int=0)<;>rfl
      ·rw [aba o1,aa_,if_neg o1,bR]
       by_cases o2:e.op=2
       ·rw [abb o2,aa',if_pos o2];rfl
       ·rw [aba o2,aa_,if_neg o2]
        by_cases o3:e.op=24
        ·rw [abb o3,aa',if_pos o3]
         show (bif Vf e.v then _ else _)=_
         cases Vf e.v
         ·rfl
         ·rw [aa',abI]
          cases decide (0<=e.int)<;>rfl
        ·rw [aba o3,aa_,if_neg o3]
         cases decide (e.int=0)<;>rfl
    ·rw [abb (show hi<((e.args.length:Nat):Int) by omega),aba c3,aa'];rfl
   ·rw [abb (show ((e.args.length:Nat):Int)<lo by omega),aba c2,aa'];rfl
  ·rw [abb (show lo<0 by omega),aba c1,aa'];rfl
 have hP:pq e=(bif decide (0<=lo)&&(decide (lo<=((e.args.length:Nat):Int))&&decide (((e.args.length:Nat):Int)<=hi)) then some (zM e) else some false):=by
  unfold pq
  rw [h2,aa8]
  dsimp only
  cases (decide (0<=lo)&&(decide (lo<=((e.args.length:Nat):Int))&&decide (((e.args.length:Nat):Int)<=hi))) with
  | false=>rfl
  | true =>
   rw [Bool.not_true,aa_,aa']
   unfold zM
   cases (e.nm.toList==(⟨#[]⟩:ByteArray).toList) with
   | false=>rfl
   | true =>
    rw [Bool.not_true,aa_,abI]
    by_cases o1:e.op=1
    ·rw [abb o1,aa',if_pos o1,yA]
     cases decide (e.int=0)<;>rfl
    ·rw [aba o1,aa_,if_neg o1]
     by_cases o3:e.op=24
     ·have o2 : ¬ e.op=2:=by omega
      rw [abb o3,aa',if_neg o2,if_pos o3]
      by_cases i1:0<=e.int
      ·rw [aba (show ¬ e.int<0 by omega),aa_,abb i1,abI]
       by_cases i2:e.int<13
       ·rw [aba (show ¬ 13<=e.int by omega),aa_,abb i2,Bool.and_true];rfl
       ·rw [abb (show 13<=e.int by omega),aa',aba i2,Bool.and_false]
      ·rw [abb (show e.int<0 by omega),aa',aba i1,Bool.false_and,Bool.and_false]
     ·rw [aba o3,aa_]
      by_cases o2:e.op=2
      ·rw [abb o2,aa',if_pos o2];rfl
      ·rw [aba o2,aa_,if_neg o2,if_neg o3]
       cases decide (e.int=0)<;>rfl
 rw [hR,hP]
 cases (decide (0<=lo)&&(decide (lo<=((e.args.length:Nat):Int))&&decide (((e.args.length:Nat):Int)<=hi)))<;>exact ⟨rfl,rfl⟩
theorem Dp {e:Ex} (h:e.args.length<=100000):kC e=some (uC e):=by unfold uC;rw [(pJ e h).1];rfl
theorem GU {e:Ex} (h:e.args.length<=100000):pq e=some (uC e):=by unfold uC;rw [(pJ e h).2,(pJ e h).1];rfl
theorem yF {e:Ex} (h:e.args.length<=100000) (hf:uC e=true):(e.op=1\/e.op=2\/e.op=4\/e.op=5\/e.op=6\/e.op=7\/e.op=8\/e.op=9\/e.op=10\/e.op=11\/e.op=12\/e.op=13\/e.op=14\/e.op=15\/e.op=16\/e.op=17\/e.op=18\/e.op=19\/e.op=20\/e.op=21\/e.op=22\/e.op=23\/e.op=24)/\(lJ e.op).1<=((e.args.length:Nat):Int)/\((e.args.length:Nat):Int)<=(lJ e.op).2/\zM e=true:=by
 obtain ⟨_,_,h3,_⟩:=wh e.op ((e.args.length:Nat):Int) (by omega)
 unfold uC at hf
 rw [(pJ e h).1,Option.getD_some,abr,abr,abr] at hf
 exact ⟨h3 (abD hf.1.1),abD hf.1.2.1,abD hf.1.2.2,hf.2⟩
theorem OT {e:Ex} (h:e.op=1) (hr:zM e=true):vF e.v=true:=by
 unfold zM at hr
 rw [if_pos h,abr,abr] at hr
 exact hr.2.2
set_option maxHeartbeats 8000000
def Ef (rec:Ex->List Val->Option Val) (a_e:Ex) (a_row:(List Val)):Option (Int):=(rec a_e a_row).bind fun r_1=>(lK r_1).bind fun r_2=>some r_2
theorem O6 {rec:Ex->List Val->Option Val}  (hrec : ∀ {x:Ex} {y:List Val} {r:Val}, rec x y=some r->Pure Tryz.prog 72 [.agg (tE x), .one (.lst (y.map cV))] (.val (.agg (cV r)))) {a_e:Ex} {a_row:(List Val)} {r:Int} (H:Ef rec a_e a_row=some r):Pure Tryz.prog 70 [.agg (tE a_e), .one (.lst (a_row.map cV))] (.val (.one (.int .i64 r))):=by
 unfold Ef at H
 rw [tE_eq a_e]
 refine po_ Tryz.func70 Tryz.ntmps70 ?_
 obtain ⟨r_1,c1,H⟩:=bd_ H
 replace c1:=hrec c1
 try simp only [abm,abk,abo,abd,tE_eq,tP_eq] at c1
 obtain ⟨r_2,c2,H⟩:=bd_ H
 replace c2:=oO c2
 cases H
 exact go_
def qY (c_15:(List Val)):(Int)->Option (Step (Int) (Val)):=fun s=>match s with
 | v_30=>bif (decide (v_30<((c_15.length:Nat):Int))) then (aL c_15 v_30).bind fun x_32=>bif (decide (x_32.kind≠(0:Int))) then some (.ret x_32) else
 some (.next (IntKind.i64.wrap (v_30+(1:Int)))) else
 some (.exit v_30)
def nA:Sum (Int) (Val)->Option ((Val))
 | .inl v_30=>(kL ).bind fun r_34=>some r_34
 | .inr q=>some q
def rF (a_e:Ex) (a_row:(List Val)) (rec:Ex->List Val->Option Val):((List Val) × Int)->Option (Step ((List Val) × Int) (Val)):=fun s=>match s with
 | (c_15,v_16)=>bif (decide (v_16<((a_e.args.length:Nat):Int))) then (aL a_e.args v_16).bind fun x_18=>(rec x_18 a_row).bind fun r_19=>bif (decide (0<=v_16)) then (bif (decide (v_16<((a_e.args.length:Nat):Int))) then (bif (decide ((0+v_16.toNat)<c_15.length)) then (some (.next ((c_15.set (0+v_16.toNat) r_19),(IntKind.i64.wrap (v_16+(1:Int)))))) else none) else none) else none else
 some (.exit (c_15,v_16))
def bI (a_e:Ex):Sum ((List Val) × Int) (Val)->Option ((Val))
 | .inl (c_15,v_16)=>bif (decide (c_15.length=a_e.args.length)) then (bif (decide (a_e.op=(4:Int))) then (oU a_e.op c_15).bind fun r_21=>some r_21 else
 bif (decide (a_e.op=(5:Int))) then (oU a_e.op c_15).bind fun r_23=>some r_23 else
 bif (decide (a_e.op=(6:Int))) then (oU a_e.op c_15).bind fun r_25=>some r_25 else
 bif (decide (a_e.op=(21:Int))) then (aL c_15 (0:Int)).bind fun x_27=>(vL (decide (x_27.kind=(0:Int)))).bind fun r_28=>some r_28 else
 bif (decide (a_e.op=(23:Int))) then (ax (qY c_15) fuel (0:Int)).bind (nA) else
 bif (decide (a_e.op=(24:Int))) then (wH a_e.int c_15).bind fun r_36=>some r_36 else
 bif (decide (a_e.op=(19:Int))) then (wD a_e.op c_15).bind fun r_38=>some r_38 else
 bif (decide (a_e.op=(20:Int))) then (wD a_e.op c_15).bind fun r_40=>some r_40 else
 bif (decide (a_e.op=(13:Int))) then (mF a_e.op c_15).bind fun r_42=>some r_42 else
 bif (decide (a_e.op=(14:Int))) then (mF a_e.op c_15).bind fun r_44=>some r_44 else
 bif (decide (a_e.op=(15:Int))) then (mF a_e.op c_15).bind fun r_46=>some r_46 else
 bif (decide (a_e.op=(16:Int))) then (mF a_e.op c_15).bind fun r_48=>some r_48 else
 bif (decide (a_e.op=(17:Int))) then (mF a_e.op c_15).bind fun r_50=>some r_50 else
 bif (decide (a_e.op=(18:Int))) then (mF a_e.op c_15).bind fun r_52=>some r_52 else
 (aL c_15 (0:Int)).bind fun x_53=>(aL c_15 (1:Int)).bind fun x_54=>(l9 a_e.op x_53 x_54).bind fun r_55=>(zQ r_55).bind fun r_56=>some r_56) else none
 | .inr q=>some q
def Ce (rec:Ex->List Val->Option Val) (a_e:Ex) (a_row:(List Val)):Option (Val):=(pq a_e).bind fun r_1=>bif (!r_1) then (kL ).bind fun r_3=>some r_3 else
 bif (decide (a_e.op=(1:Int))) then some a_e.v else
 bif (decide (a_e.op=(2:Int))) then (zK a_row a_e.int).bind fun r_6=>some r_6 else
 bif (decide (a_e.op=(22:Int))) then (aL a_e.args (0:Int)).bind fun x_8=>(Ef rec x_8 a_row).bind fun r_9=>bif (decide (r_9=(2:Int))) then (aL a_e.args (1:Int)).bind fun x_11=>(rec x_11 a_row).bind fun r_12=>some r_12 else
 (aL a_e.args (2:Int)).bind fun x_13=>(rec x_13 a_row).bind fun r_14=>some r_14 else
 bif (decide (0<=((a_e.args.length:Nat):Int))) then (bif (decide ((32:Int)*((a_e.args.length:Nat):Int)<=281474976710656)) then (bif (decide (((a_e.args.length:Nat):Int)<=9223372036854775807)) then ((ax (rF a_e a_row rec) fuel ((List.replicate a_e.args.length ((⟨(0:Int),(0:Int),ByteArray.empty⟩:Val))),(0:Int))).bind (bI a_e)) else none) else none) else none
theorem iB {p q:Prop} (k:q) (h:Bx q->p:=by
 intro hq
 repeat' (first|refine cZ rfl rfl rfl rfl rfl (xG tab_ok (k:=3) (by_:=32) rfl rfl rfl (by decide) rfl rfl rfl rfl rfl (by decide) (by omega) (by omega) (by omega)) ?_|refine D6 (enc:=cV) rfl rfl rfl rfl rfl (by omega) rfl (fun _=>rfl) rfl ?_|refine gs_ ?_|fail)
 exact hq.out):p:=h ⟨k⟩
theorem di {p:Prop} (h:p:=by
 repeat' (first|refine cZ rfl rfl rfl rfl rfl (xG tab_ok (k:=3) (by_:=32) rfl rfl rfl (by decide) rfl rfl rfl rfl rfl (by decide) (by omega) (by omega) (by omega)) ?_|refine D6 (enc:=cV) rfl rfl rfl rfl rfl (by omega) rfl (fun _=>rfl) rfl ?_|refine gs_ ?_|fail)
 refine aO (aR rfl ?_ ?_)
 ·repeat' (first|exact trivial|rfl|exact abj rfl|omega|apply And.intro)
 ·first|rfl|(simp only [abm,abk,abo,abd]<;>rfl)):p:=h
theorem RI {rec:Ex->List Val->Option Val}  (hrec : ∀ {x:Ex} {y:List Val} {r:Val}, rec x y=some r->Pure Tryz.prog 72 [.agg (tE x), .one (.lst (y.map cV))] (.val (.agg (cV r)))) {a_e:Ex} {a_row:(List Val)} {r:Val} (H:Ce rec a_e a_row=some r):Pure Tryz.prog 72 [.agg (tE a_e), .one (.lst (a_row.map cV))] (.val (.agg (cV r))):=by
 unfold Ce at H
 rw [tE_eq a_e]
 refine po_ Tryz.func72 Tryz.ntmps72 ?_
 obtain ⟨r_1,c1,H⟩:=bd_ H
 replace c1:=EF c1
 try simp only [abm,abk,abo,abd,tE_eq,tP_eq] at c1
 rcases cnd_ H with ⟨q_2,H⟩|⟨q_2,H⟩
 ·obtain ⟨r_3,c2,H⟩:=bd_ H
  replace c2:=ed c2
  cases H
  exact di
 rcases cnd_ H with ⟨q_4,H⟩|⟨q_4,H⟩
 ·cases H
  exact di
 refine iB ?_
 rcases cnd_ H with ⟨q_5,H⟩|⟨q_5,H⟩
 ·obtain ⟨r_6,c3,H⟩:=bd_ H
  replace c3:=Oy c3
  cases H
  exact di
 rcases cnd_ H with ⟨q_7,H⟩|⟨q_7,H⟩
 ·obtain ⟨x_8,i4z,i4,i4x,H⟩:=aX (f:=tE) H
  simp only [abm,abk,abo,abd,tE_eq] at i4x
  obtain ⟨r_9,c5,H⟩:=bd_ H
  replace c5:=O6 hrec c5
  try simp only [abm,abk,abo,abd,tE_eq,tP_eq] at c5
  rcases cnd_ H with ⟨q_10,H⟩|⟨q_10,H⟩
  ·obtain ⟨x_11,i6z,i6,i6x,H⟩:=aX (f:=tE) H
   simp only [abm,abk,abo,abd,tE_eq] at i6x
   obtain ⟨r_12,c7,H⟩:=bd_ H
   replace c7:=hrec c7
   try simp only [abm,abk,abo,abd,tE_eq,tP_eq] at c7
   cases H
   exact di
  obtain ⟨x_13,i8z,i8,i8x,H⟩:=aX (f:=tE) H
  simp only [abm,abk,abo,abd,tE_eq] at i8x
  obtain ⟨r_14,c9,H⟩:=bd_ H
  replace c9:=hrec c9
  try simp only [abm,abk,abo,abd,tE_eq,tP_eq] at c9
  cases H
  exact di
 obtain ⟨g10,H⟩:=aK H
 obtain ⟨g11,H⟩:=aK H
 obtain ⟨g12,H⟩:=aK H
 refine iB ?_
 refine alM_ (fun s:(List Val) × Int=>match s with|(c_15,v_16)=>[(1, .one (.c (.lst (a_row.map cV)))),(2, .one (.ptr 0 0)),(4, .one (.ptr 1 0)),(5, .one (.sl 2 (25+65536) 0 a_e.args.length)),(52, .one (.c (.lst (a_e.args.map tE)))),(53, .one (.c (.int .i64 ((a_e.args.length:Nat):Int)))),(54, .one (.c (.int .i64 v_16)))]) (fun s=>match s with|(c_15,v_16)=>[.box [.c (.int .i64 a_e.op), .c (.int .i64 a_e.int), .c (.int .i64 a_e.v.kind), .c (.int .i64 a_e.v.int), .c (.str a_e.v.text), .c (.str a_e.nm), .c (.lst (a_e.args.map tE))], .box [.c (.int .i64 (0:Int)), .c (.int .i64 (0:Int)), .c (.str ByteArray.empty)], .row (25+65536) ((c_15.map cV).map (List.map SV.c)) 3]) H (fun _=>abv _)
  (fm_ bV [] (by simp only [List.map_replicate]<;>rfl) bE ⟨rA (by rfl),rA (by rfl),lg _ _ _ _ _,trivial⟩) ?_
 rintro ⟨c_15,v_16⟩ st1 hb1 hk1
 unfold rF at hb1
 dsimp only at hb1 ⊢
 rcases cnd_ hb1 with ⟨q_17,hb1⟩|⟨q_17,hb1⟩
 ·obtain ⟨x_18,i13z,i13,i13x,hb1⟩:=aX (f:=tE) hb1
  simp only [abm,abk,abo,abd,tE_eq] at i13x
  obtain ⟨r_19,c14,hb1⟩:=bd_ hb1
  replace c14:=hrec c14
  try simp only [abm,abk,abo,abd,tE_eq,tP_eq] at c14
  obtain ⟨g15,hb1⟩:=aK hb1
  obtain ⟨g16,hb1⟩:=aK hb1
  obtain ⟨g17,hb1⟩:=aK hb1
  cases hb1
  refine iB ?_
  exact ⟨_,rfl,fm_ bV [_] rfl bE ⟨rA (by rfl),rA (by rfl),lg _ _ _ _ _,trivial⟩⟩
 cases hb1
 have hx1:bI a_e (.inl (c_15,v_16))=some _:=hk1
 unfold bI at hx1
 dsimp only at hx1
 obtain ⟨g18,hx1⟩:=aK hx1
 have z19:((c_15.map cV).drop 0).take a_e.args.length=c_15.map cV:=by rw [List.drop_zero,abP];rw [abl];omega
 refine zF 2 (cs:=c_15.map cV) rfl (w_ _) ?_
 simp only [abk,abo,thA,Y6,and_self,if_true,eq_self,List.set,z19]
 refine iB ?_
 rcases cnd_ hx1 with ⟨q_20,hx1⟩|⟨q_20,hx1⟩
 ·obtain ⟨r_21,c20,hx1⟩:=bd_ hx1
  replace c20:=BD c20
  cases hx1
  exact di
 rcases cnd_ hx1 with ⟨q_22,hx1⟩|⟨q_22,hx1⟩
 ·obtain ⟨r_23,c21,hx1⟩:=bd_ hx1
  replace c21:=BD c21
  cases hx1
  exact di
 rcases cnd_ hx1 with ⟨q_24,hx1⟩|⟨q_24,hx1⟩
 ·obtain ⟨r_25,c22,hx1⟩:=bd_ hx1
  replace c22:=BD c22
  cases hx1
  exact di
 refine iB ?_
 rcases cnd_ hx1 with ⟨q_26,hx1⟩|⟨q_26,hx1⟩
 ·obtain ⟨x_27,i23z,i23,i23x,hx1⟩:=aX (f:=cV) hx1
  obtain ⟨r_28,c24,hx1⟩:=bd_ hx1
  replace c24:=rW c24
  cases hx1
  exact di
 rcases cnd_ hx1 with ⟨q_29,hx1⟩|⟨q_29,hx1⟩
 ·refine iB ?_
  refine alM_ (fun s:Int=>match s with|v_30=>[(4, .one (.ptr 1 0)),(86, .one (.c (.lst (c_15.map cV)))),(87, .one (.c (.int .i64 ((c_15.length:Nat):Int)))),(88, .one (.c (.int .i64 v_30)))]) (fun s=>match s with|v_30=>[.box [.c (.int .i64 a_e.op), .c (.int .i64 a_e.int), .c (.int .i64 a_e.v.kind), .c (.int .i64 a_e.v.int), .c (.str a_e.v.text), .c (.str a_e.nm), .c (.lst (a_e.args.map tE))], .box [.c (.int .i64 (0:Int)), .c (.int .i64 (0:Int)), .c (.str ByteArray.empty)], .dead]) hx1 (fun _=>abv _)
   (fm_ bV [] rfl bE dw) ?_
  rintro v_30 st2 hb2 hk2
  unfold qY at hb2
  dsimp only at hb2 ⊢
  rcases cnd_ hb2 with ⟨q_31,hb2⟩|⟨q_31,hb2⟩
  ·obtain ⟨x_32,i25z,i25,i25x,hb2⟩:=aX (f:=cV) hb2
   refine iB ?_
   rcases cnd_ hb2 with ⟨q_33,hb2⟩|⟨q_33,hb2⟩
   ·cases hb2
    have hx2:nA (.inr x_32)=some _:=hk2
    unfold nA at hx2
    dsimp only at hx2
    cases hx2
    exact di
   cases hb2
   refine iB ?_
   exact ⟨_,rfl,fm_ bV [_] rfl bE dw⟩
  cases hb2
  have hx2:nA (.inl v_30)=some _:=hk2
  unfold nA at hx2
  dsimp only at hx2
  obtain ⟨r_34,c26,hx2⟩:=bd_ hx2
  replace c26:=ed c26
  cases hx2
  exact di
 rcases cnd_ hx1 with ⟨q_35,hx1⟩|⟨q_35,hx1⟩
 ·obtain ⟨r_36,c27,hx1⟩:=bd_ hx1
  replace c27:=Ms c27
  cases hx1
  exact di
 refine iB ?_
 rcases cnd_ hx1 with ⟨q_37,hx1⟩|⟨q_37,hx1⟩
 ·obtain ⟨r_38,c28,hx1⟩:=bd_ hx1
  replace c28:=IW c28
  cases hx1
  exact di
 rcases cnd_ hx1 with ⟨q_39,hx1⟩|⟨q_39,hx1⟩
 ·obtain ⟨r_40,c29,hx1⟩:=bd_ hx1
  replace c29:=IW c29
  cases hx1
  exact di
 rcases cnd_ hx1 with ⟨q_41,hx1⟩|⟨q_41,hx1⟩
 ·obtain ⟨r_42,c30,hx1⟩:=bd_ hx1
  replace c30:=nH c30
  cases hx1
  exact di
 refine iB ?_
 rcases cnd_ hx1 with ⟨q_43,hx1⟩|⟨q_43,hx1⟩
 ·obtain ⟨r_44,c31,hx1⟩:=bd_ hx1
  replace c31:=nH c31
  cases hx1
  exact di
 rcases cnd_ hx1 with ⟨q_45,hx1⟩|⟨q_45,hx1⟩
 ·obtain ⟨r_46,c32,hx1⟩:=bd_ hx1
  replace c32:=nH c32
  cases hx1
  exact di
 rcases cnd_ hx1 with ⟨q_47,hx1⟩|⟨q_47,hx1⟩
 ·obtain ⟨r_48,c33,hx1⟩:=bd_ hx1
  replace c33:=nH c33
  cases hx1
  exact di
 refine iB ?_
 rcases cnd_ hx1 with ⟨q_49,hx1⟩|⟨q_49,hx1⟩
 ·obtain ⟨r_50,c34,hx1⟩:=bd_ hx1
  replace c34:=nH c34
  cases hx1
  exact di
 rcases cnd_ hx1 with ⟨q_51,hx1⟩|⟨q_51,hx1⟩
 ·obtain ⟨r_52,c35,hx1⟩:=bd_ hx1
  replace c35:=nH c35
  cases hx1
  exact di
 obtain ⟨x_53,i36z,i36,i36x,hx1⟩:=aX (f:=cV) hx1
 obtain ⟨x_54,i37z,i37,i37x,hx1⟩:=aX (f:=cV) hx1
 obtain ⟨r_55,c38,hx1⟩:=bd_ hx1
 replace c38:=Gt c38
 obtain ⟨r_56,c39,hx1⟩:=bd_ hx1
 replace c39:=Ai c39
 cases hx1
 exact di
def uR:Nat->Ex->List Val->Option Val
 | 0,_,_=>none
 | n+1,e,r=>Ce (uR n) e r
theorem Ev : ∀ (n:Nat) {x:Ex} {y:List Val} {r:Val}, uR n x y=some r->Pure Tryz.prog 72 [.agg (tE x), .one (.lst (y.map cV))] (.val (.agg (cV r)))
 | 0,_,_,_,h=>nomatch h
 | n+1,_,_,_,h=>RI (Ev n) h
end Go.Proofs.YtfpbmfalamappaaGreatDoor
