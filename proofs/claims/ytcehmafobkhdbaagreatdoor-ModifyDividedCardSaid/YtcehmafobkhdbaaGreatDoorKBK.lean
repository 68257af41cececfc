/- Parts of the proof, joined. No condition. -/
import Derived.Test.YtcehmafobkhdbaaGreatDoorKBJ
set_option linter.unusedSimpArgs false
set_option linter.unusedVariables false
namespace Go.Proofs.YtcehmafobkhdbaaGreatDoor
open Go.RowKit Go.MapKept
set_option maxRecDepth 100000
def g_ (p q:aI):Int :=
 if p.hi<q.lo then 0 else if p.hi=q.lo then 1 else if q.hi<p.lo then 12 else if q.hi=p.lo then 11 else if p.lo=q.lo/\p.hi=q.hi then 6
 else if p.lo=q.lo then (if p.hi<q.hi then 3 else 9) else if p.hi=q.hi then (if q.lo<p.lo then 5 else 7)
 else if p.lo<q.lo/\q.hi<p.hi then 8 else if q.lo<p.lo/\p.hi<q.hi then 4 else if p.lo<q.lo then 2 else 10
theorem dV (p q:aI):dL [.c (.int .i64 p.lo), .c (.int .i64 p.hi)] [.c (.int .i64 q.lo), .c (.int .i64 q.hi)]=decide (p.lo=q.lo/\p.hi=q.hi):=by
 simp [dL]
theorem acU (p q:aI):W9 p q=some (if aL p=true/\aL q=true then (g_ p q,true) else (0,false)):=by
 unfold W9
 rw [Bj,Bj]
 simp only [agU]
 cases hp:aL p with
 | false=>simp
 | true =>
  cases hq:aL q with
  | false=>simp
  | true =>
   simp only [Bool.not_true,agW,and_self,if_true,dV]
   unfold g_
   by_cases h1:p.hi<q.lo
   ·simp only [Bool.cond_decide,eq_true h1,if_true,if_false,and_true,true_and,and_false,false_and,and_self]
   by_cases h2:p.hi=q.lo
   ·simp only [Bool.cond_decide,eq_true h2,eq_false h1,if_true,if_false,and_true,true_and,and_false,false_and,and_self]
   by_cases h3:q.hi<p.lo
   ·simp only [Bool.cond_decide,eq_true h3,eq_false h1,eq_false h2,if_true,if_false,and_true,true_and,and_false,false_and,and_self]
   by_cases h4:q.hi=p.lo
   ·simp only [Bool.cond_decide,eq_true h4,eq_false h1,eq_false h2,eq_false h3,if_true,if_false,and_true,true_and,and_false,false_and,and_self]
   by_cases h5:p.lo=q.lo
   ·by_cases h6:p.hi=q.hi
    ·simp only [Bool.cond_decide,eq_true h5,eq_true h6,eq_false h1,eq_false h2,eq_false h3,eq_false h4,if_true,if_false,and_true,true_and,and_false,false_and,and_self]
    ·by_cases h7:p.hi<q.hi
     ·simp only [Bool.cond_decide,eq_true h5,eq_true h7,eq_false h1,eq_false h2,eq_false h3,eq_false h4,eq_false h6,if_true,if_false,and_true,true_and,and_false,false_and,and_self]
     ·simp only [Bool.cond_decide,eq_true h5,eq_false h1,eq_false h2,eq_false h3,eq_false h4,eq_false h6,eq_false h7,if_true,if_false,and_true,true_and,and_false,false_and,and_self]
   ·by_cases h6:p.hi=q.hi
    ·by_cases h7:q.lo<p.lo
     ·simp only [Bool.cond_decide,eq_true h6,eq_true h7,eq_false h1,eq_false h2,eq_false h3,eq_false h4,eq_false h5,if_true,if_false,and_true,true_and,and_false,false_and,and_self]
     ·simp only [Bool.cond_decide,eq_true h6,eq_false h1,eq_false h2,eq_false h3,eq_false h4,eq_false h5,eq_false h7,if_true,if_false,and_true,true_and,and_false,false_and,and_self]
    ·by_cases h7:p.lo<q.lo
     ·by_cases h8:q.hi<p.hi
      ·simp only [Bool.cond_decide,eq_true h7,eq_true h8,eq_false h1,eq_false h2,eq_false h3,eq_false h4,eq_false h5,eq_false h6,if_true,if_false,and_true,true_and,and_false,false_and,and_self]
      ·by_cases h9:q.lo<p.lo
       ·omega
       ·simp only [Bool.cond_decide,eq_true h7,eq_false h1,eq_false h2,eq_false h3,eq_false h4,eq_false h5,eq_false h6,eq_false h8,eq_false h9,if_true,if_false,and_true,true_and,and_false,false_and,and_self]
     ·by_cases h8:q.lo<p.lo
      ·by_cases h9:p.hi<q.hi
       ·simp only [Bool.cond_decide,eq_true h8,eq_true h9,eq_false h1,eq_false h2,eq_false h3,eq_false h4,eq_false h5,eq_false h6,eq_false h7,if_true,if_false,and_true,true_and,and_false,false_and,and_self]
       ·simp only [Bool.cond_decide,eq_true h8,eq_false h1,eq_false h2,eq_false h3,eq_false h4,eq_false h5,eq_false h6,eq_false h7,eq_false h9,if_true,if_false,and_true,true_and,and_false,false_and,and_self]
      ·omega
theorem qW {p:aI} (h:aL p=true):0<=p.lo/\p.lo<p.hi/\p.hi<=1099511627776:=by
 unfold aL at h
 simp only [ahb,decide_eq_true_eq] at h
 omega
theorem abe {p q:aI} (hp:0<=p.lo/\p.lo<p.hi) (hq:0<=q.lo/\q.lo<q.hi):g_ p q=0↔p.hi<q.lo:=by
 unfold g_
 repeat' split
 all_goals (constructor<;>intro h<;>omega)
theorem adD (p q:aI):kR 0 p q=some (decide (p.hi<q.lo)):=by
 unfold kR
 simp only [Int.reduceEq,decide_false,decide_true,agX,agW,dV]<;>rfl
theorem Zy {p q:aI} (hp:0<=p.lo/\p.lo<p.hi) (hq:0<=q.lo/\q.lo<q.hi):g_ p q=1↔p.hi=q.lo:=by
 unfold g_
 repeat' split
 all_goals (constructor<;>intro h<;>omega)
theorem adi (p q:aI):kR 1 p q=some (decide (p.hi=q.lo)):=by
 unfold kR
 simp only [Int.reduceEq,decide_false,decide_true,agX,agW,dV]<;>rfl
theorem aap {p q:aI} (hp:0<=p.lo/\p.lo<p.hi) (hq:0<=q.lo/\q.lo<q.hi):g_ p q=2↔p.lo<q.lo/\q.lo<p.hi/\p.hi<q.hi:=by
 unfold g_
 repeat' split
 all_goals (constructor<;>intro h<;>omega)
theorem ada (p q:aI):kR 2 p q=some (decide (p.lo<q.lo/\q.lo<p.hi/\p.hi<q.hi)):=by
 unfold kR
 simp only [Int.reduceEq,decide_false,decide_true,agX,agW,dV]
 by_cases h0:p.lo<q.lo<;>by_cases h1:q.lo<p.hi<;>simp [h0,h1]
theorem YP {p q:aI} (hp:0<=p.lo/\p.lo<p.hi) (hq:0<=q.lo/\q.lo<q.hi):g_ p q=3↔p.lo=q.lo/\p.hi<q.hi:=by
 unfold g_
 repeat' split
 all_goals (constructor<;>intro h<;>omega)
theorem adP (p q:aI):kR 3 p q=some (decide (p.lo=q.lo/\p.hi<q.hi)):=by
 unfold kR
 simp only [Int.reduceEq,decide_false,decide_true,agX,agW,dV]
 by_cases h0:p.lo=q.lo<;>simp [h0]
theorem ZJ {p q:aI} (hp:0<=p.lo/\p.lo<p.hi) (hq:0<=q.lo/\q.lo<q.hi):g_ p q=4↔q.lo<p.lo/\p.hi<q.hi:=by
 unfold g_
 repeat' split
 all_goals (constructor<;>intro h<;>omega)
theorem aei (p q:aI):kR 4 p q=some (decide (q.lo<p.lo/\p.hi<q.hi)):=by
 unfold kR
 simp only [Int.reduceEq,decide_false,decide_true,agX,agW,dV]
 by_cases h0:q.lo<p.lo<;>simp [h0]
theorem ZP {p q:aI} (hp:0<=p.lo/\p.lo<p.hi) (hq:0<=q.lo/\q.lo<q.hi):g_ p q=5↔p.hi=q.hi/\q.lo<p.lo:=by
 unfold g_
 repeat' split
 all_goals (constructor<;>intro h<;>omega)
theorem ady (p q:aI):kR 5 p q=some (decide (p.hi=q.hi/\q.lo<p.lo)):=by
 unfold kR
 simp only [Int.reduceEq,decide_false,decide_true,agX,agW,dV]
 by_cases h0:p.hi=q.hi<;>simp [h0]
theorem ZC {p q:aI} (hp:0<=p.lo/\p.lo<p.hi) (hq:0<=q.lo/\q.lo<q.hi):g_ p q=6↔p.lo=q.lo/\p.hi=q.hi:=by
 unfold g_
 repeat' split
 all_goals (constructor<;>intro h<;>omega)
theorem ad2 (p q:aI):kR 6 p q=some (decide (p.lo=q.lo/\p.hi=q.hi)):=by
 unfold kR
 simp only [Int.reduceEq,decide_false,decide_true,agX,agW,dV]<;>rfl
theorem ZE {p q:aI} (hp:0<=p.lo/\p.lo<p.hi) (hq:0<=q.lo/\q.lo<q.hi):g_ p q=7↔p.hi=q.hi/\p.lo<q.lo:=by
 unfold g_
 repeat' split
 all_goals (constructor<;>intro h<;>omega)
theorem adG (p q:aI):kR 7 p q=some (decide (p.hi=q.hi/\p.lo<q.lo)):=by
 unfold kR
 simp only [Int.reduceEq,decide_false,decide_true,agX,agW,dV]
 by_cases h0:p.hi=q.hi<;>simp [h0]
theorem aaE {p q:aI} (hp:0<=p.lo/\p.lo<p.hi) (hq:0<=q.lo/\q.lo<q.hi):g_ p q=8↔p.lo<q.lo/\q.hi<p.hi:=by
 unfold g_
 repeat' split
 all_goals (constructor<;>intro h<;>omega)
theorem adE (p q:aI):kR 8 p q=some (decide (p.lo<q.lo/\q.hi<p.hi)):=by
 unfold kR
 simp only [Int.reduceEq,decide_false,decide_true,agX,agW,dV]
 by_cases h0:p.lo<q.lo<;>simp [h0]
theorem aa7 {p q:aI} (hp:0<=p.lo/\p.lo<p.hi) (hq:0<=q.lo/\q.lo<q.hi):g_ p q=9↔p.lo=q.lo/\q.hi<p.hi:=by
 unfold g_
 repeat' split
 all_goals (constructor<;>intro h<;>omega)
theorem adg (p q:aI):kR 9 p q=some (decide (p.lo=q.lo/\q.hi<p.hi)):=by
 unfold kR
 simp only [Int.reduceEq,decide_false,decide_true,agX,agW,dV]
 by_cases h0:p.lo=q.lo<;>simp [h0]
theorem Wn {p q:aI} (hp:0<=p.lo/\p.lo<p.hi) (hq:0<=q.lo/\q.lo<q.hi):g_ p q=10↔q.lo<p.lo/\p.lo<q.hi/\q.hi<p.hi:=by
 unfold g_
 repeat' split
 all_goals (constructor<;>intro h<;>omega)
theorem abP (p q:aI):kR 10 p q=some (decide (q.lo<p.lo/\p.lo<q.hi/\q.hi<p.hi)):=by
 unfold kR
 simp only [Int.reduceEq,decide_false,decide_true,agX,agW,dV]
 by_cases h0:q.lo<p.lo<;>by_cases h1:p.lo<q.hi<;>simp [h0,h1]
theorem Xz {p q:aI} (hp:0<=p.lo/\p.lo<p.hi) (hq:0<=q.lo/\q.lo<q.hi):g_ p q=11↔q.hi=p.lo:=by
 unfold g_
 repeat' split
 all_goals (constructor<;>intro h<;>omega)
theorem abB (p q:aI):kR 11 p q=some (decide (q.hi=p.lo)):=by
 unfold kR
 simp only [Int.reduceEq,decide_false,decide_true,agX,agW,dV]<;>rfl
theorem Xk {p q:aI} (hp:0<=p.lo/\p.lo<p.hi) (hq:0<=q.lo/\q.lo<q.hi):g_ p q=12↔q.hi<p.lo:=by
 unfold g_
 repeat' split
 all_goals (constructor<;>intro h<;>omega)
theorem acv (p q:aI):kR 12 p q=some (decide (q.hi<p.lo)):=by
 unfold kR
 simp only [Int.reduceEq,decide_false,decide_true,agX,agW,dV]<;>rfl
theorem BJ (p q:aI):0<=g_ p q/\g_ p q<13:=by
 unfold g_
 repeat' split
 all_goals omega
theorem ZG {rel:Int} (h : ¬ (0<=rel/\rel<13)) (p q:aI):kR rel p q=some false:=by
 unfold kR
 rw [agY (show ¬ rel=0 by omega),agW]
 rw [agY (show ¬ rel=1 by omega),agW]
 rw [agY (show ¬ rel=2 by omega),agW]
 rw [agY (show ¬ rel=3 by omega),agW]
 rw [agY (show ¬ rel=4 by omega),agW]
 rw [agY (show ¬ rel=5 by omega),agW]
 rw [agY (show ¬ rel=6 by omega),agW]
 rw [agY (show ¬ rel=7 by omega),agW]
 rw [agY (show ¬ rel=8 by omega),agW]
 rw [agY (show ¬ rel=9 by omega),agW]
 rw [agY (show ¬ rel=10 by omega),agW]
 rw [agY (show ¬ rel=11 by omega),agW]
 rw [agY (show ¬ rel=12 by omega),agW]
theorem aaT {p q:aI} (hp:aL p=true) (hq:aL q=true) (rel:Int):kR rel p q=some (decide (g_ p q=rel)):=by
 obtain ⟨p1,p2,p3⟩:=qW hp
 obtain ⟨q1,q2,q3⟩:=qW hq
 by_cases hr:0<=rel/\rel<13
 ·have:rel=0\/rel=1\/rel=2\/rel=3\/rel=4\/rel=5\/rel=6\/rel=7\/rel=8\/rel=9\/rel=10\/rel=11\/rel=12:=by omega
  rcases this with rfl|rfl|rfl|rfl|rfl|rfl|rfl|rfl|rfl|rfl|rfl|rfl|rfl
  ·rw [adD];congr 1;rw [decide_eq_decide,abe ⟨p1,p2⟩ ⟨q1,q2⟩]
  ·rw [adi];congr 1;rw [decide_eq_decide,Zy ⟨p1,p2⟩ ⟨q1,q2⟩]
  ·rw [ada];congr 1;rw [decide_eq_decide,aap ⟨p1,p2⟩ ⟨q1,q2⟩]
  ·rw [adP];congr 1;rw [decide_eq_decide,YP ⟨p1,p2⟩ ⟨q1,q2⟩]
  ·rw [aei];congr 1;rw [decide_eq_decide,ZJ ⟨p1,p2⟩ ⟨q1,q2⟩]
  ·rw [ady];congr 1;rw [decide_eq_decide,ZP ⟨p1,p2⟩ ⟨q1,q2⟩]
  ·rw [ad2];congr 1;rw [decide_eq_decide,ZC ⟨p1,p2⟩ ⟨q1,q2⟩]
  ·rw [adG];congr 1;rw [decide_eq_decide,ZE ⟨p1,p2⟩ ⟨q1,q2⟩]
  ·rw [adE];congr 1;rw [decide_eq_decide,aaE ⟨p1,p2⟩ ⟨q1,q2⟩]
  ·rw [adg];congr 1;rw [decide_eq_decide,aa7 ⟨p1,p2⟩ ⟨q1,q2⟩]
  ·rw [abP];congr 1;rw [decide_eq_decide,Wn ⟨p1,p2⟩ ⟨q1,q2⟩]
  ·rw [abB];congr 1;rw [decide_eq_decide,Xz ⟨p1,p2⟩ ⟨q1,q2⟩]
  ·rw [acv];congr 1;rw [decide_eq_decide,Xk ⟨p1,p2⟩ ⟨q1,q2⟩]
 ·rw [ZG hr,agY]
  have:=BJ p q
  omega
theorem Jk (rel:Int) (p q:aI):Ai rel p q=some (aL p&&(aL q&&decide (g_ p q=rel))):=by
 unfold Ai
 rw [eH,eH]
 simp only [agU]
 cases hp:aL p with
 | false=>rfl
 | true =>
  cases hq:aL q with
  | false=>rfl
  | true=>rw [aaT hp hq];rfl
theorem Rs (p q:aI) (h:aL p=true/\aL q=true) : ∀ (n i:Nat),(i:Int)<=g_ p q->13-i<n->ax (uK p q) n (i:Int)=some (.inr (g_ p q,true))
 | 0,i,_,h2=>by omega
 | n+1,i,h1,h2=>by
  have hr:=BJ p q
  rw [ax]
  unfold uK
  dsimp only
  rw [agZ (show (i:Int)<13 by omega),agX,Jk,agU,h.1,h.2,wrapN (by omega)]
  by_cases e:g_ p q=i
  ·rw [e];simp
  ·simp only [ahr,agY e,agW]
   exact Rs p q h n (i+1) (by omega) (by omega)
theorem QQ (p q:aI) (h : ¬ (aL p=true/\aL q=true)) : ∀ (n i:Nat),i<=13->13-i<n->ax (uK p q) n (i:Int)=some (.inl ((13:Nat):Int))
 | 0,i,_,h2=>by omega
 | n+1,i,h1,h2=>by
  rw [ax]
  unfold uK
  dsimp only
  by_cases hi:i=13
  ·subst hi;rfl
  ·rw [agZ (show (i:Int)<13 by omega),agX,Jk,agU,wrapN (by omega)]
   have:(aL p&&(aL q&&decide (g_ p q=i)))=false:=by
    cases hp:aL p<;>cases hq:aL q<;>simp_all
   rw [this,agW]
   exact QQ p q h n (i+1) (by omega) (by omega)
theorem Ze (p q:aI):Q0 p q=some (if aL p=true/\aL q=true then (g_ p q,true) else (0,false)):=by
 unfold Q0
 by_cases h:aL p=true/\aL q=true
 ·have:=Rs p q h fuel 0 (BJ p q).1 (by unfold fuel;omega)
  rw [show ((0:Nat):Int)=0 from rfl] at this
  rw [this,if_pos h];rfl
 ·have:=QQ p q h fuel 0 (by omega) (by unfold fuel;omega)
  rw [show ((0:Nat):Int)=0 from rfl] at this
  rw [this,if_neg h];rfl
def Al (row:List Val) (i:Int):Val:=if 0<=i then (row[i.toNat]?).getD mX else mX
theorem Y6 (row:List Val) (i:Int):gAt row i=some (Al row i):=by
 unfold gAt Al
 by_cases h1:i<0
 ·rw [agZ h1,agX,if_neg (by omega)];rfl
 ·rw [agY h1,agW,if_pos (by omega)]
  by_cases h2:((row.length:Nat):Int)<=i
  ·rw [agZ h2,agX,ahH (by omega)];rfl
  ·rw [agY h2,agW]
   obtain ⟨x,hx⟩:=gol_ (show i.toNat<row.length by omega)
   unfold aH
   rw [if_pos (by omega),hx];rfl
theorem abF (row:List Val) (i:Int):Ti row i=some (Al row i):=(show Ti row i=gAt row i from rfl).trans (Y6 row i)
theorem Xx (row:List Val) (i:Int):Q3 row [i]=some [Al row i]:=by
 unfold Q3
 simp only [ahf,aho]
 rw [show decide ((0:Int)<=(((0+1:Nat)):Int))=true from rfl,show decide ((32:Int)*(((0+1:Nat)):Int)<=281474976710656)=true from rfl,show decide ((((0+1:Nat)):Int)<=9223372036854775807)=true from rfl]
 simp only [agX]
 rw [di (l:=[i]) (mk:=fun t i=>(t,i)) (f:=push (Al row) 4398046511104) ?_ ?_ (by unfold fuel;simp) []]
 ·rw [Mr _ _ _ _ (by simp)];rfl
 ·intro s j x hx
  have hi:=(agV.1 hx).1
  unfold Dq push
  dsimp only
  rw [aV hx,agX,gn_ hx]
  simp only [agU]
  rw [Y6,agU,wrapN (by simp at hi;omega)]
  cases decide (s.length+1<=4398046511104)<;>rfl
 ·intro s
  unfold Dq
  dsimp only
  rw [lF_,agW]
theorem TQ (row:List Val) (i:Int):Dk row i=some (PZ (Al row i)):=by
 unfold Dk
 rw [Xx,agU,show aH [Al row i] (0:Int)=some (Al row i) from rfl,agU,Ct,agU,oK]
 unfold PZ
 cases vF (Al row i)<;>rfl
theorem Xp (e:Ex) (row:List Val) (h:e.op=2):Gt e row=some (PZ (Al row e.int)):=by
 unfold Gt
 rw [h,show decide ((2:Int)=2)=true from rfl,agX,abF,agU,lK,agU,dn]
 unfold PZ
 cases vF (Al row e.int)<;>rfl
theorem Sg (e:Ex) (row:List Val) (h:e.op=1) (hv:vF e.v=true):Gt e row=some e.v:=by
 unfold Gt
 rw [h,show decide ((1:Int)=2)=false from rfl,agW,lK,agU,hv]
 rfl
def gM (l:List Val) (k:Int):Bool:=l.all fun v=>decide (v.kind=k)
theorem qb (l:List Val) (k:Int) (hl:l.length<=1000000):RF l k=some (gM l k):=by
 unfold RF
 rw [di (l:=l) (mk:=fun (_:Unit) i=>i) (f:=fun _ v=>some (if v.kind≠k then .inr false else .inl ())) ?_ ?_ (by unfold fuel;omega) ()]
 ·have : ∀ l:List Val,dF (ρ:=Bool) (fun (_:Unit) (v:Val)=>some (if v.kind≠k then .inr false else .inl ())) () l=some (if gM l k=true then .inl () else .inr false):=by
   intro l
   induction l with
   | nil=>rfl
   | cons v l ih =>
    rw [dF]
    by_cases h:v.kind=k
    ·simp only [ne_eq,h,not_true_eq_false,if_false]
     rw [ih];simp [gM,h]
    ·simp [gM,h]
  rw [this]
  cases gM l k<;>rfl
 ·intro s i x hx
  have hi:=(agV.1 hx).1
  unfold Hy
  dsimp only
  rw [aV hx,agX,gn_ hx,wrapN (by omega)]
  simp only [agU]
  by_cases h:x.kind=k
  ·simp [h,uw]
  ·simp [h,uw]
 ·intro s
  unfold Hy
  dsimp only
  rw [lF_,agW]
def DY (f:Int->Int->Int) (l:List Val) (t:Int):Int:=l.foldl (fun t v=>f t (tF_ v)) t
theorem G8 {f:Int->Int->Int} (hf : ∀ a b,T3 (f a b)) : ∀ (l:List Val) (t:Int),T3 t->T3 (DY f l t)
 | [],t,h=>h
 | v::l,t,h=>G8 hf l _ (hf _ _)
theorem D9 {f:Int->Int->Int} (hf : ∀ a b,T3 (f a b)) {g:Int->Int->Option Int} (hg : ∀ a b,T3 a->T3 b->g a b=some (f a b)) : ∀ (l:List Val) (t:Int),T3 t->dF (ρ:=Val) (fun t v=>(g t (tF_ v)).bind fun r=>some (.inl r)) t l=some (.inl (DY f l t))
 | [],t,h=>rfl
 | v::l,t,h=>by
  rw [dF,hg _ _ h (kD v)]
  exact D9 hf hg l _ (hf _ _)
theorem Ub (x:Val) (l:List Val) (hl:l.length<=1000000):rJ 5 (x::l)=some (CW (DY Le l (tF_ x))):=by
 unfold rJ
 rw [show aH (x::l) (0:Int)=some x from rfl,agU,lH,agU,show decide ((5:Int)=4)=false from rfl,agW,show decide ((5:Int)=5)=true from rfl,agX]
 rw [show lT (x::l) (1:Int) (((x::l).length:Nat):Int)=some l by unfold lT;rw [if_pos (by simp only [ahf];omega)];simp,agU]
 rw [di (l:=l) (mk:=fun t i=>(t,i)) (f:=fun t v=>(UM t (tF_ v)).bind fun r=>some (.inl r)) ?_ ?_ (by unfold fuel;omega) (tF_ x)]
 ·rw [D9 OT (fun a b ha hb=>abx ha hb) l _ (kD x)]
  show (Ee (DY Le l (tF_ x))).bind _=_
  rw [mq (G8 OT l _ (kD x))];rfl
 ·intro s i v hv
  have hi:=(agV.1 hv).1
  unfold Ad
  dsimp only
  rw [aV hv,agX,gn_ hv,wrapN (by omega)]
  simp only [agU]
  rw [lH,agU]
  cases UM s (tF_ v)<;>rfl
 ·intro s
  unfold Ad
  dsimp only
  rw [lF_,agW]
theorem Wu (x:Val) (l:List Val) (hl:l.length<=1000000):rJ 6 (x::l)=some (CW (DY or3 l (tF_ x))):=by
 unfold rJ
 rw [show aH (x::l) (0:Int)=some x from rfl,agU,lH,agU,show decide ((6:Int)=4)=false from rfl,agW,show decide ((6:Int)=5)=false from rfl,agW]
 rw [show lT (x::l) (1:Int) (((x::l).length:Nat):Int)=some l by unfold lT;rw [if_pos (by simp only [ahf];omega)];simp,agU]
 rw [di (l:=l) (mk:=fun t i=>(t,i)) (f:=fun t v=>(KF t (tF_ v)).bind fun r=>some (.inl r)) ?_ ?_ (by unfold fuel;omega) (tF_ x)]
 ·rw [D9 UG (fun a b ha hb=>adI ha hb) l _ (kD x)]
  show (Ee (DY or3 l (tF_ x))).bind _=_
  rw [mq (G8 UG l _ (kD x))];rfl
 ·intro s i v hv
  have hi:=(agV.1 hv).1
  unfold Ag
  dsimp only
  rw [aV hv,agX,gn_ hv,wrapN (by omega)]
  simp only [agU]
  rw [lH,agU]
  cases KF s (tF_ v)<;>rfl
 ·intro s
  unfold Ag
  dsimp only
  rw [lF_,agW]
theorem TL (x:Val):rJ 4 [x]=some (CW (IZ (tF_ x))):=by
 unfold rJ
 rw [show aH [x] (0:Int)=some x from rfl,agU,lH,agU,show decide ((4:Int)=4)=true from rfl,agX,zL (kD x),agU,mq (wE _)];rfl
theorem Kc (op:Int) (f:Int->Int->Int) (hf : ∀ a b,T3 (f a b)) (hop : ∀ a b,T3 a->T3 b->(bif decide (op=5) then IV a b else TU a b)=some (f a b)) (x:Val) (l:List Val) (hl:l.length<=1000000):Ah op (x::l)=some (CW (DY f l (tF_ x))):=by
 unfold Ah
 rw [show aH (x::l) (0:Int)=some x from rfl,agU,qy,agU]
 have:=NW (l:=x::l) (body:=qC op (x::l)) (ρ:=Val) (mk:=fun t i=>(t,i)) (f:=fun t v=>(bif decide (op=5) then IV t (tF_ v) else TU t (tF_ v)).bind fun r=>some (.inl r)) (by
  intro s i v hv
  have hi:=(agV.1 hv).1
  unfold qC
  dsimp only
  rw [aV hv,agX,gn_ hv,wrapN (by simp at hi;omega)]
  simp only [agU,qy]
  cases decide (op=5)
  ·simp only [agW];cases TU s (tF_ v)<;>rfl
  ·simp only [agX];cases IV s (tF_ v)<;>rfl) (by
  intro s
  unfold qC
  dsimp only
  rw [lF_,agW]) fuel 1 (tF_ x) (by simp) (by unfold fuel;simp;omega)
 rw [show ((1:Nat):Int)=1 from rfl] at this
 rw [this]
 have h2:=D9 hf hop l (tF_ x) (kD x)
 rw [show (x::l).drop 1=l from rfl,h2]
 show (GD (DY f l (tF_ x))).bind _=_
 rw [si (G8 hf l _ (kD x))];rfl
theorem zT (s:ByteArray):(s.toList==(⟨#[]⟩:ByteArray).toList)=true↔s=ByteArray.empty:=by
 rw [beq_iff_eq,ByteArray.toList_eq,ByteArray.toList_eq]
 constructor
 ·intro h
  have:s.data.toList=[]:=h
  obtain ⟨d⟩:=s
  obtain ⟨l⟩:=d
  simp at this
  subst this;rfl
 ·rintro rfl;rfl
structure VV (v:Val):Prop where
 kind:0<=v.kind/\v.kind<=3
 int : -1125899906842624<=v.int/\v.int<=1125899906842624
 text:v.text.size<=200
theorem xL {v:Val} (h:vF v=true):VV v:=by
 have hx:=lK v
 rw [h] at hx
 unfold eP at hx
 have e0 : ∀ s:ByteArray,s=ByteArray.empty->s.size<=200:=by rintro s rfl;decide
 by_cases k0:v.kind=0
 ·rw [agZ k0,agX] at hx
  by_cases i0:v.int=0
  ·rw [agZ i0,agX] at hx
   have:=(zT _).1 (ahq hx)
   exact ⟨by omega,by omega,e0 _ this⟩
  ·rw [agY i0,agW] at hx;cases hx
 rw [agY k0,agW] at hx
 by_cases k1:v.kind=1
 ·rw [agZ k1,agX] at hx
  by_cases t0:(v.text.toList==(⟨#[]⟩:ByteArray).toList)=true
  ·rw [t0,agX] at hx
   by_cases i1:(-1125899906842624:Int)<=v.int
   ·rw [agZ i1,agX] at hx
    have:=ahm (ahq hx)
    exact ⟨by omega,⟨i1,this⟩,e0 _ ((zT _).1 t0)⟩
   ·rw [agY i1,agW] at hx;cases hx
  ·rw [Bool.not_eq_true] at t0
   rw [t0,agW] at hx;cases hx
 rw [agY k1,agW] at hx
 by_cases k2:v.kind=2
 ·rw [agZ k2,agX] at hx
  by_cases i0:v.int=0
  ·rw [agZ i0,agX] at hx
   by_cases t2:((v.text.size:Nat):Int)<=200
   ·exact ⟨by omega,by omega,by omega⟩
   ·rw [agY t2,agW] at hx;cases hx
  ·rw [agY i0,agW] at hx;cases hx
 rw [agY k2,agW] at hx
 by_cases k3:v.kind=3
 ·rw [agZ k3,agX] at hx
  by_cases t0:(v.text.toList==(⟨#[]⟩:ByteArray).toList)=true
  ·rw [t0,agX] at hx
   by_cases i0:v.int=0
   ·exact ⟨by omega,by omega,e0 _ ((zT _).1 t0)⟩
   ·rw [agY i0,agW] at hx
    have:=ahm (ahq hx)
    exact ⟨by omega,by omega,e0 _ ((zT _).1 t0)⟩
  ·rw [Bool.not_eq_true] at t0
   rw [t0,agW] at hx;cases hx
 rw [agY k3,agW] at hx
 cases hx
theorem VV.vok {v:Val} (h:VV v):VOK v:=⟨⟨by have:=h.kind;omega,by have:=h.kind;omega⟩,⟨by have:=h.int;omega,by have:=h.int;omega⟩,by have:=h.text;omega⟩
abbrev afM (n:Int):Val:=PZ ⟨1,n,ByteArray.empty⟩
abbrev afg (s:ByteArray):Val:=PZ ⟨2,0,s⟩
def ab9 (op a b:Int):Val:=(eD op a b).getD mX
theorem aed {a:Int} (h : -1125899906842624<=a/\a<=1125899906842624):CY a (IntKind.i64.wrap (0-a))=(a.natAbs:Int):=by
 rw [fK (by omega)]
 unfold CY
 split<;>omega
theorem LU (a b:Int):yO a b=eD 15 a b:=by
 unfold yO eD
 rw [show decide ((15:Int)=13)=false from rfl,show decide ((15:Int)=14)=false from rfl,show decide ((15:Int)=15)=true from rfl]
 simp only [agX,agW]
 cases decide (a≠0) with
 | false=>simp only [agW];rw [oG,mP]
 | true =>
  simp only [agX]
  unfold Ya
  simp only [agU]
  rw [oG,mP]
  rfl
theorem N0 {op a b:Int} (ha : -1125899906842624<=a/\a<=1125899906842624) : ∃ v,eD op a b=some v/\vF v=true:=by
 unfold eD
 simp only [mP,agU,dn]
 cases decide (op=13) with
 | true=>exact ⟨_,rfl,ug _⟩
 | false =>
 cases decide (op=14) with
 | true=>exact ⟨_,rfl,ug _⟩
 | false =>
 cases decide (op=15) with
 | true =>
  simp only [agX,agW]
  by_cases h:a=0
  ·subst h;exact ⟨_,rfl,ug _⟩
  ·rw [agZ (show a≠0 from h),agX]
   unfold Ya
   simp only [agU]
   rw [aed ha,agZ (show ((a.natAbs:Nat):Int)≠0 by omega),agX]
   generalize decide (IntKind.i64.wrap ((1125899906842624:Int).tdiv ((a.natAbs:Nat):Int))<CY b (IntKind.i64.wrap (0-b)))=c
   cases c with
   | true=>exact ⟨_,rfl,pG⟩
   | false=>exact ⟨_,rfl,ug _⟩
 | false =>
  simp only [agW]
  by_cases h:b=0
  ·rw [agZ h];exact ⟨_,rfl,pG⟩
  ·rw [agY h,agZ (show b≠0 from h)]
   simp only [agX,agW]
   cases decide (op=16) with
   | true=>exact ⟨_,rfl,ug _⟩
   | false=>exact ⟨_,rfl,ug _⟩
theorem iI {op a b:Int} (ha : -1125899906842624<=a/\a<=1125899906842624):eD op a b=some (ab9 op a b)/\vF (ab9 op a b)=true:=by
 obtain ⟨v,h1,h2⟩:=N0 (op:=op) (b:=b) ha
 unfold ab9
 rw [h1];exact ⟨rfl,h2⟩
theorem KE (l:List Val) (hl:l.length<=1000000):ax (uG l) fuel (0:Int)=some (bif gM l 1 then .inl ((l.length:Nat):Int) else .inr mX):=by
 rw [di (l:=l) (mk:=fun (_:Unit) i=>i) (f:=fun _ v=>some (if v.kind≠1 then .inr mX else .inl ())) ?_ ?_ (by unfold fuel;omega) ()]
 ·have : ∀ l:List Val,dF (ρ:=Val) (fun (_:Unit) (v:Val)=>some (if v.kind≠1 then .inr mX else .inl ())) () l=some (if gM l 1=true then .inl () else .inr mX):=by
   intro l
   induction l with
   | nil=>rfl
   | cons v l ih =>
    rw [dF]
    by_cases h:v.kind=1
    ·simp only [ne_eq,h,not_true_eq_false,if_false]
     rw [ih];simp [gM,h]
    ·simp [gM,h]
  rw [this]
  cases gM l 1<;>rfl
 ·intro s i x hx
  have hi:=(agV.1 hx).1
  unfold uG
  dsimp only
  rw [aV hx,agX,gn_ hx,wrapN (by omega)]
  simp only [agU]
  by_cases h:x.kind=1
  ·simp [h,uw]
  ·simp [h,uw,oK]
 ·intro s
  unfold uG
  dsimp only
  rw [lF_,agW]
def ig (op:Int) (a b:Val):Val:=bif gM [a,b] 1 then ab9 op a.int b.int else mX
theorem rF {op:Int} {a b:Val} (ha:VV a) (h:op=13\/op=14\/op=15\/op=16\/op=17):pu op [a,b]=some (ig op a b):=by
 unfold pu ig
 rw [KE _ (by simp)]
 cases gM [a,b] 1 with
 | false=>rfl
 | true =>
  simp only [agX,agU]
  have hc:=(iI (op:=op) (b:=b.int) ha.int).1
  rw [<- hc]
  unfold qi
  dsimp only
  rw [show aH [a,b] (0:Int)=some a from rfl,agU,show aH [a,b] (IntKind.i64.wrap ((([a,b].length:Nat):Int)-1))=some b from rfl,agU]
  rcases h with rfl|rfl|rfl|rfl|rfl
  ·unfold eD
   rw [show decide ((13:Int)=13)=true from rfl,agX,agX,mP,oG]
  ·unfold eD
   rw [show decide ((14:Int)=13)=false from rfl,show decide ((14:Int)=14)=true from rfl]
   simp only [agX,agW]
   rw [mP,oG]
  ·rw [show decide ((15:Int)=13)=false from rfl,show decide ((15:Int)=14)=false from rfl,show decide ((15:Int)=15)=true from rfl]
   simp only [agX,agW]
   rw [LU]
   cases eD 15 a.int b.int<;>rfl
  ·unfold eD
   rw [show decide ((16:Int)=13)=false from rfl,show decide ((16:Int)=14)=false from rfl,show decide ((16:Int)=15)=false from rfl,show decide ((16:Int)=18)=false from rfl,show decide ((16:Int)=16)=true from rfl]
   simp only [agX,agW,oG,mP,oK,dn]
  ·unfold eD
   rw [show decide ((17:Int)=13)=false from rfl,show decide ((17:Int)=14)=false from rfl,show decide ((17:Int)=15)=false from rfl,show decide ((17:Int)=18)=false from rfl,show decide ((17:Int)=16)=false from rfl]
   simp only [agX,agW,oG,mP,oK,dn]
def Q6 (a:Val):Val:=bif gM [a] 1 then afM (IntKind.i64.wrap (0-a.int)) else mX
theorem SS (a:Val):pu 18 [a]=some (Q6 a):=by
 unfold pu Q6
 rw [KE _ (by simp)]
 cases gM [a] 1 with
 | false=>rfl
 | true =>
  simp only [agX,agU]
  show (sW _).bind _=_
  rw [oG];rfl
def O5 (a b:Val):Val:=bif gM [a,b] 2 then afg (a.text++b.text) else mX
def O9 (a:Val):Val:=bif gM [a] 2 then afM ((a.text.size:Nat):Int) else mX
theorem SX {a b:Val} (ha:VV a) (hb:VV b):yH 19 [a,b]=some (O5 a b):=by
 unfold yH O5
 rw [qb _ _ (by simp),agU]
 cases gM [a,b] 2 with
 | false=>rfl
 | true =>
  have h1:=ha.text
  have h2:=hb.text
  rw [Bool.not_true,agW,agX,show decide ((19:Int)=19)=true from rfl,agX,show aH [a,b] (0:Int)=some a from rfl,agU,show aH [a,b] (1:Int)=some b from rfl,agU]
  rw [agZ (show a.text.size+b.text.size<=9223372036854775807 by omega),agX,XX];rfl
theorem T9 (a:Val):yH 20 [a]=some (O9 a):=by
 unfold yH O9
 rw [qb _ _ (by simp),agU]
 cases gM [a] 2 with
 | false=>rfl
 | true =>
  rw [Bool.not_true,agW,agX,show decide ((20:Int)=19)=false from rfl,agW,show aH [a] (0:Int)=some a from rfl,agU,mP];rfl
def sQ (p:Int × ByteArray) (x:Val):Option (Sum (Int × ByteArray) Val):=bif decide (x.kind≠2) then some (.inr mX) else bif decide (p.2.size+x.text.size<=9223372036854775807) then some (.inl (IntKind.i64.wrap (p.1+((x.text.size:Nat):Int)),p.2++x.text)) else none
theorem KI (op:Int) (l:List Val) (hl:l.length<=1000000):zx op l=(Jl (fun (p:Int × ByteArray) i=>(p.1,p.2,i)) l.length (dF sQ (0,⟨#[]⟩) l)).bind (qg op):=by
 unfold zx
 rw [di (l:=l) (mk:=fun (p:Int × ByteArray) i=>(p.1,p.2,i)) (f:=sQ) ?_ ?_ (by unfold fuel;omega) ((0:Int),(⟨#[]⟩:ByteArray))]
 ·intro s i x hx
  have hi:=(agV.1 hx).1
  unfold zR sQ
  dsimp only
  rw [aV hx,agX,gn_ hx,wrapN (by omega)]
  simp only [agU]
  cases decide (x.kind≠2) with
  | true=>rfl
  | false =>
   simp only [agW]
   cases decide (s.2.size+x.text.size<=9223372036854775807)<;>rfl
 ·intro s
  unfold zR
  dsimp only
  rw [lF_,agW]
theorem ab5 (s:ByteArray):(⟨#[]⟩:ByteArray)++s=s:=by
 apply ByteArray.ext
 simp
theorem Tj {a b:Val} (ha:VV a) (hb:VV b):zx 19 [a,b]=some (O5 a b):=by
 have h1:=ha.text
 have h2:=hb.text
 have h0:(⟨#[]⟩:ByteArray).size=0:=rfl
 rw [KI _ _ (by simp)]
 unfold O5
 by_cases ka:a.kind=2
 ·by_cases kb:b.kind=2
  ·have e:gM [a,b] 2=true:=by simp [gM,ka,kb]
   rw [e]
   simp only [dF,sQ]
   rw [agY (show ¬ a.kind≠2 by omega),agW,agZ (show (⟨#[]⟩:ByteArray).size+a.text.size<=9223372036854775807 by rw [h0];omega),agX]
   simp only []
   rw [agY (show ¬ b.kind≠2 by omega),agW,ab5,agZ (show a.text.size+b.text.size<=9223372036854775807 by omega),agX]
   show (Fe (a.text++b.text)).bind _=_
   rw [Ws];rfl
  ·have e:gM [a,b] 2=false:=by simp [gM,kb]
   rw [e]
   simp only [dF,sQ]
   rw [agY (show ¬ a.kind≠2 by omega),agW,agZ (show (⟨#[]⟩:ByteArray).size+a.text.size<=9223372036854775807 by rw [h0];omega),agX]
   simp only []
   rw [agZ (show b.kind≠2 from kb),agX];rfl
 ·have e:gM [a,b] 2=false:=by simp [gM,ka]
  rw [e]
  simp only [dF,sQ]
  rw [agZ (show a.kind≠2 from ka),agX];rfl
theorem Tq {a:Val} (ha:VV a):zx 20 [a]=some (O9 a):=by
 have h1:=ha.text
 have h0:(⟨#[]⟩:ByteArray).size=0:=rfl
 rw [KI _ _ (by simp)]
 unfold O9
 by_cases ka:a.kind=2
 ·have e:gM [a] 2=true:=by simp [gM,ka]
  rw [e]
  simp only [dF,sQ]
  rw [agY (show ¬ a.kind≠2 by omega),agW,agZ (show (⟨#[]⟩:ByteArray).size+a.text.size<=9223372036854775807 by rw [h0];omega),agX]
  show (sW (IntKind.i64.wrap (0+((a.text.size:Nat):Int)))).bind _=_
  rw [oG,Int.zero_add,fK (by omega)];rfl
 ·have e:gM [a] 2=false:=by simp [gM,ka]
  rw [e]
  simp only [dF,sQ]
  rw [agZ (show a.kind≠2 from ka),agX];rfl
def Oy (rel:Int) (a b c d:Val):Val :=
 bif gM [a,b,c,d] 1 then (if aL ⟨a.int,b.int⟩=true/\aL ⟨c.int,d.int⟩=true then pM (decide (g_ ⟨a.int,b.int⟩ ⟨c.int,d.int⟩=rel)) else mX) else mX
theorem OL (rel:Int) (a b c d:Val):uL rel [a,b,c,d]=some (Oy rel a b c d):=by
 unfold uL Oy
 rw [qb _ _ (by simp),agU]
 cases gM [a,b,c,d] 1 with
 | false=>exact congrArg (fun o:Option Val=>o.bind fun r=>some r) dn
 | true =>
  rw [Bool.not_true,agW,agX,show aH [a,b,c,d] (0:Int)=some a from rfl,show aH [a,b,c,d] (1:Int)=some b from rfl,show aH [a,b,c,d] (2:Int)=some c from rfl,show aH [a,b,c,d] (3:Int)=some d from rfl]
  rw [agU,agU,agU,agU,Ze,agU]
  generalize g_ ⟨a.int,b.int⟩ ⟨c.int,d.int⟩=x
  generalize aL ⟨a.int,b.int⟩=y
  generalize aL ⟨c.int,d.int⟩=z
  cases y<;>cases z
  ·exact congrArg (fun o:Option Val=>o.bind fun r=>some r) dn
  ·exact congrArg (fun o:Option Val=>o.bind fun r=>some r) dn
  ·exact congrArg (fun o:Option Val=>o.bind fun r=>some r) dn
  ·exact congrArg (fun o:Option Val=>o.bind fun r=>some r) (Ac _)
theorem Ra (rel:Int) (a b c d:Val):y_ rel [a,b,c,d]=some (Oy rel a b c d):=by
 unfold y_ Oy DT
 rw [show aH [a,b,c,d] (0:Int)=some a from rfl,show aH [a,b,c,d] (1:Int)=some b from rfl,show aH [a,b,c,d] (2:Int)=some c from rfl,show aH [a,b,c,d] (3:Int)=some d from rfl]
 simp only [agU]
 rw [acU,agU,oK]
 have e:gM [a,b,c,d] 1=((decide (a.kind=1)&&decide (b.kind=1))&&(decide (c.kind=1)&&decide (d.kind=1))):=by
  simp [gM,Bool.and_assoc]
 rw [e]
 generalize (decide (a.kind=1)&&decide (b.kind=1))=u
 generalize (decide (c.kind=1)&&decide (d.kind=1))=v
 generalize g_ ⟨a.int,b.int⟩ ⟨c.int,d.int⟩=x
 generalize aL ⟨a.int,b.int⟩=y
 generalize aL ⟨c.int,d.int⟩=z
 cases u
 ·rfl
 cases v
 ·rfl
 cases y<;>cases z
 ·rfl
 ·rfl
 ·rfl
 ·exact congrArg (fun o:Option Val=>o.bind fun r=>some r) (Nu _)
theorem eF {n k:Int} : decide (n=k)=(decide (k<=n)&&decide (n<=k)):=by
 rw [Bool.eq_iff_iff];simp only [ahb,decide_eq_true_eq];omega
theorem OQ {n k:Int} (h:n<=1099511627776):decide (k<=n)=(decide (k<=n)&&decide (n<=1099511627776)):=by
 rw [agZ h,Bool.and_true]
def nY (op:Int):Int × Int:=(yK op).getD (-1,0)
theorem zf (op n:Int) (h:n<=1099511627776):yK op=some (nY op)/\wP op n=some (decide (0<=(nY op).1)&&(decide ((nY op).1<=n)&&decide (n<=(nY op).2)),decide (0<=(nY op).1))/\(0<=(nY op).1->op=1\/op=2\/op=4\/op=5\/op=6\/op=7\/op=8\/op=9\/op=10\/op=11\/op=12\/op=13\/op=14\/op=15\/op=16\/op=17\/op=18\/op=19\/op=20\/op=21\/op=22\/op=23\/op=24) /\ -1<=(nY op).1:=by
 by_cases h1:op=1
 ·subst h1
  refine ⟨rfl,?_,fun _=>by simp,by decide⟩
  show some (decide (n=0),true)=some (true&&(decide ((0:Int)<=n)&&decide (n<=0)),true)
  rw [ahr, <- eF]
 by_cases h2:op=2
 ·subst h2
  refine ⟨rfl,?_,fun _=>by simp,by decide⟩
  show some (decide (n=0),true)=some (true&&(decide ((0:Int)<=n)&&decide (n<=0)),true)
  rw [ahr, <- eF]
 by_cases h4:op=4
 ·subst h4
  refine ⟨rfl,?_,fun _=>by simp,by decide⟩
  show some (decide (n=1),true)=some (true&&(decide ((1:Int)<=n)&&decide (n<=1)),true)
  rw [ahr, <- eF]
 by_cases h5:op=5
 ·subst h5
  refine ⟨rfl,?_,fun _=>by simp,by decide⟩
  show some (decide ((2:Int)<=n),true)=some (true&&(decide ((2:Int)<=n)&&decide (n<=1099511627776)),true)
  rw [ahr, <- OQ h]
 by_cases h6:op=6
 ·subst h6
  refine ⟨rfl,?_,fun _=>by simp,by decide⟩
  show some (decide ((2:Int)<=n),true)=some (true&&(decide ((2:Int)<=n)&&decide (n<=1099511627776)),true)
  rw [ahr, <- OQ h]
 by_cases h7:op=7
 ·subst h7
  refine ⟨rfl,?_,fun _=>by simp,by decide⟩
  show some (decide (n=2),true)=some (true&&(decide ((2:Int)<=n)&&decide (n<=2)),true)
  rw [ahr, <- eF]
 by_cases h8:op=8
 ·subst h8
  refine ⟨rfl,?_,fun _=>by simp,by decide⟩
  show some (decide (n=2),true)=some (true&&(decide ((2:Int)<=n)&&decide (n<=2)),true)
  rw [ahr, <- eF]
 by_cases h9:op=9
 ·subst h9
  refine ⟨rfl,?_,fun _=>by simp,by decide⟩
  show some (decide (n=2),true)=some (true&&(decide ((2:Int)<=n)&&decide (n<=2)),true)
  rw [ahr, <- eF]
 by_cases h10:op=10
 ·subst h10
  refine ⟨rfl,?_,fun _=>by simp,by decide⟩
  show some (decide (n=2),true)=some (true&&(decide ((2:Int)<=n)&&decide (n<=2)),true)
  rw [ahr, <- eF]
 by_cases h11:op=11
 ·subst h11
  refine ⟨rfl,?_,fun _=>by simp,by decide⟩
  show some (decide (n=2),true)=some (true&&(decide ((2:Int)<=n)&&decide (n<=2)),true)
  rw [ahr, <- eF]
 by_cases h12:op=12
 ·subst h12
  refine ⟨rfl,?_,fun _=>by simp,by decide⟩
  show some (decide (n=2),true)=some (true&&(decide ((2:Int)<=n)&&decide (n<=2)),true)
  rw [ahr, <- eF]
 by_cases h13:op=13
 ·subst h13
  refine ⟨rfl,?_,fun _=>by simp,by decide⟩
  show some (decide (n=2),true)=some (true&&(decide ((2:Int)<=n)&&decide (n<=2)),true)
  rw [ahr, <- eF]
 by_cases h14:op=14
 ·subst h14
  refine ⟨rfl,?_,fun _=>by simp,by decide⟩
  show some (decide (n=2),true)=some (true&&(decide ((2:Int)<=n)&&decide (n<=2)),true)
  rw [ahr, <- eF]
 by_cases h15:op=15
 ·subst h15
  refine ⟨rfl,?_,fun _=>by simp,by decide⟩
  show some (decide (n=2),true)=some (true&&(decide ((2:Int)<=n)&&decide (n<=2)),true)
  rw [ahr, <- eF]
 by_cases h16:op=16
 ·subst h16
  refine ⟨rfl,?_,fun _=>by simp,by decide⟩
  show some (decide (n=2),true)=some (true&&(decide ((2:Int)<=n)&&decide (n<=2)),true)
  rw [ahr, <- eF]
 by_cases h17:op=17
 ·subst h17
  refine ⟨rfl,?_,fun _=>by simp,by decide⟩
  show some (decide (n=2),true)=some (true&&(decide ((2:Int)<=n)&&decide (n<=2)),true)
  rw [ahr, <- eF]
 by_cases h18:op=18
 ·subst h18
  refine ⟨rfl,?_,fun _=>by simp,by decide⟩
  show some (decide (n=1),true)=some (true&&(decide ((1:Int)<=n)&&decide (n<=1)),true)
  rw [ahr, <- eF]
 by_cases h19:op=19
 ·subst h19
  refine ⟨rfl,?_,fun _=>by simp,by decide⟩
  show some (decide (n=2),true)=some (true&&(decide ((2:Int)<=n)&&decide (n<=2)),true)
  rw [ahr, <- eF]
 by_cases h20:op=20
 ·subst h20
  refine ⟨rfl,?_,fun _=>by simp,by decide⟩
  show some (decide (n=1),true)=some (true&&(decide ((1:Int)<=n)&&decide (n<=1)),true)
  rw [ahr, <- eF]
 by_cases h21:op=21
 ·subst h21
  refine ⟨rfl,?_,fun _=>by simp,by decide⟩
  show some (decide (n=1),true)=some (true&&(decide ((1:Int)<=n)&&decide (n<=1)),true)
  rw [ahr, <- eF]
 by_cases h22:op=22
 ·subst h22
  refine ⟨rfl,?_,fun _=>by simp,by decide⟩
  show some (decide (n=3),true)=some (true&&(decide ((3:Int)<=n)&&decide (n<=3)),true)
  rw [ahr, <- eF]
 by_cases h23:op=23
 ·subst h23
  refine ⟨rfl,?_,fun _=>by simp,by decide⟩
  show some (decide ((1:Int)<=n),true)=some (true&&(decide ((1:Int)<=n)&&decide (n<=1099511627776)),true)
  rw [ahr, <- OQ h]
 by_cases h24:op=24
 ·subst h24
  refine ⟨rfl,?_,fun _=>by simp,by decide⟩
  show some (decide (n=4),true)=some (true&&(decide ((4:Int)<=n)&&decide (n<=4)),true)
  rw [ahr, <- eF]
 have e1:yK op=some (-1,0):=by
  unfold yK;simp only [agY h1,agY h2,agY h4,agY h5,agY h6,agY h7,agY h8,agY h9,agY h10,agY h11,agY h12,agY h13,agY h14,agY h15,agY h16,agY h17,agY h18,agY h19,agY h20,agY h21,agY h22,agY h23,agY h24,agW]
 have e2:wP op n=some (false,false):=by
  unfold wP;simp only [agY h1,agY h2,agY h4,agY h5,agY h6,agY h7,agY h8,agY h9,agY h10,agY h11,agY h12,agY h13,agY h14,agY h15,agY h16,agY h17,agY h18,agY h19,agY h20,agY h21,agY h22,agY h23,agY h24,agW]
 have e3:nY op=(-1,0):=by unfold nY;rw [e1];rfl
 rw [e1,e2,e3]
 exact ⟨rfl,rfl,fun h=>absurd h (by decide),by decide⟩
theorem ar1:nY 1=(0,0):=rfl
theorem ar2:nY 2=(0,0):=rfl
theorem ar4:nY 4=(1,1):=rfl
theorem ar5:nY 5=(2,1099511627776):=rfl
theorem ar6:nY 6=(2,1099511627776):=rfl
theorem ar7:nY 7=(2,2):=rfl
theorem ar8:nY 8=(2,2):=rfl
theorem ar9:nY 9=(2,2):=rfl
theorem agu:nY 10=(2,2):=rfl
theorem aga:nY 11=(2,2):=rfl
theorem agH:nY 12=(2,2):=rfl
theorem afd:nY 13=(2,2):=rfl
theorem afr:nY 14=(2,2):=rfl
theorem ae4:nY 15=(2,2):=rfl
theorem ae9:nY 16=(2,2):=rfl
theorem aeS:nY 17=(2,2):=rfl
theorem agI:nY 18=(1,1):=rfl
theorem agc:nY 19=(2,2):=rfl
theorem agz:nY 20=(1,1):=rfl
theorem agk:nY 21=(1,1):=rfl
theorem aek:nY 22=(3,3):=rfl
theorem agB:nY 23=(1,1099511627776):=rfl
theorem agJ:nY 24=(4,4):=rfl
def xI (e:Ex):Bool:=(mG e).getD false
def Z0 (v:Val):Bool:=dL [.c (.int .i64 v.kind), .c (.int .i64 v.int), .c (.str v.text)] [.c (.int .i64 (0:Int)), .c (.int .i64 (0:Int)), .c (.str ByteArray.empty)]
def DR (e:Ex):Bool:=(e.nm.toList==(⟨#[]⟩:ByteArray).toList)&&(if e.op=1 then decide (e.int=0)&&vF e.v else if e.op=2 then Z0 e.v else if e.op=24 then Z0 e.v&&(decide (0<=e.int)&&decide (e.int<13)) else decide (e.int=0)&&Z0 e.v)
theorem tq (e:Ex) (h:e.args.length<=100000):mG e=some ((decide (0<=(nY e.op).1)&&(decide ((nY e.op).1<=((e.args.length:Nat):Int))&&decide (((e.args.length:Nat):Int)<=(nY e.op).2)))&&DR e)/\sH e=some ((decide (0<=(nY e.op).1)&&(decide ((nY e.op).1<=((e.args.length:Nat):Int))&&decide (((e.args.length:Nat):Int)<=(nY e.op).2)))&&DR e):=by
 obtain ⟨h1,h2,h3,h4⟩:=zf e.op ((e.args.length:Nat):Int) (by omega)
 generalize nY e.op=a at h1 h2 h3 h4
 obtain ⟨lo,hi⟩:=a
 dsimp only at h1 h2 h3 h4 ⊢
 have hR:mG e=(bif decide (0<=lo)&&(decide (lo<=((e.args.length:Nat):Int))&&decide (((e.args.length:Nat):Int)<=hi)) then some (DR e) else some false):=by
  unfold mG
  rw [h1,agU]
  dsimp only
  by_cases c1:0<=lo
  ·rw [agY (show ¬ lo<0 by omega),agZ c1,agW,ahr]
   by_cases c2:lo<=((e.args.length:Nat):Int)
   ·rw [agY (show ¬ ((e.args.length:Nat):Int)<lo by omega),agZ c2,agW,ahr]
    by_cases c3:((e.args.length:Nat):Int)<=hi
    ·rw [agY (show ¬ hi<((e.args.length:Nat):Int) by omega),agZ c3,agW,agX]
     unfold DR
     cases (e.nm.toList==(⟨#[]⟩:ByteArray).toList) with
     | false=>rfl
     | true =>
      rw [Bool.not_true,agW,ahr]
      by_cases o1:e.op=1
      ·rw [agZ o1,agX,if_pos o1,lK]
       cases decide (e.int=0)<;>rfl
      ·rw [agY o1,agW,if_neg o1,dn]
       by_cases o2:e.op=2
       ·rw [agZ o2,agX,if_pos o2];rfl
       ·rw [agY o2,agW,if_neg o2]
        by_cases o3:e.op=24
        ·rw [agZ o3,agX,if_pos o3]
         show (bif Z0 e.v then _ else _)=_
         cases Z0 e.v
         ·rfl
         ·rw [agX,ahr]
          cases decide (0<=e.int)<;>rfl
        ·rw [agY o3,agW,if_neg o3]
         cases decide (e.int=0)<;>rfl
    ·rw [agZ (show hi<((e.args.length:Nat):Int) by omega),agY c3,agX];rfl
   ·rw [agZ (show ((e.args.length:Nat):Int)<lo by omega),agY c2,agX];rfl
  ·rw [agZ (show lo<0 by omega),agY c1,agX];rfl
 have hP:sH e=(bif decide (0<=lo)&&(decide (lo<=((e.args.length:Nat):Int))&&decide (((e.args.length:Nat):Int)<=hi)) then some (DR e) else some false):=by
  unfold sH
  rw [h2,agU]
  dsimp only
  cases (decide (0<=lo)&&(decide (lo<=((e.args.length:Nat):Int))&&decide (((e.args.length:Nat):Int)<=hi))) with
  | false=>rfl
  | true =>
   rw [Bool.not_true,agW,agX]
   unfold DR
   cases (e.nm.toList==(⟨#[]⟩:ByteArray).toList) with
   | false=>rfl
   | true =>
    rw [Bool.not_true,agW,ahr]
    by_cases o1:e.op=1
    ·rw [agZ o1,agX,if_pos o1,Ct]
     cases decide (e.int=0)<;>rfl
    ·rw [agY o1,agW,if_neg o1]
     by_cases o3:e.op=24
     ·have o2 : ¬ e.op=2:=by omega
      rw [agZ o3,agX,if_neg o2,if_pos o3]
      by_cases i1:0<=e.int
      ·rw [agY (show ¬ e.int<0 by omega),agW,agZ i1,ahr]
       by_cases i2:e.int<13
       ·rw [agY (show ¬ 13<=e.int by omega),agW,agZ i2,Bool.and_true];rfl
       ·rw [agZ (show 13<=e.int by omega),agX,agY i2,Bool.and_false]
      ·rw [agZ (show e.int<0 by omega),agX,agY i1,Bool.false_and,Bool.and_false]
     ·rw [agY o3,agW]
      by_cases o2:e.op=2
      ·rw [agZ o2,agX,if_pos o2];rfl
      ·rw [agY o2,agW,if_neg o2,if_neg o3]
       cases decide (e.int=0)<;>rfl
 rw [hR,hP]
 cases (decide (0<=lo)&&(decide (lo<=((e.args.length:Nat):Int))&&decide (((e.args.length:Nat):Int)<=hi)))<;>exact ⟨rfl,rfl⟩
theorem F6 {e:Ex} (h:e.args.length<=100000):mG e=some (xI e):=by unfold xI;rw [(tq e h).1];rfl
theorem Iz {e:Ex} (h:e.args.length<=100000):sH e=some (xI e):=by unfold xI;rw [(tq e h).2,(tq e h).1];rfl
theorem B_ {e:Ex} (h:e.args.length<=100000) (hf:xI e=true):(e.op=1\/e.op=2\/e.op=4\/e.op=5\/e.op=6\/e.op=7\/e.op=8\/e.op=9\/e.op=10\/e.op=11\/e.op=12\/e.op=13\/e.op=14\/e.op=15\/e.op=16\/e.op=17\/e.op=18\/e.op=19\/e.op=20\/e.op=21\/e.op=22\/e.op=23\/e.op=24)/\(nY e.op).1<=((e.args.length:Nat):Int)/\((e.args.length:Nat):Int)<=(nY e.op).2/\DR e=true:=by
 obtain ⟨_,_,h3,_⟩:=zf e.op ((e.args.length:Nat):Int) (by omega)
 unfold xI at hf
 rw [(tq e h).1,Option.getD_some,ahb,ahb,ahb] at hf
 exact ⟨h3 (ahm hf.1.1),ahm hf.1.2.1,ahm hf.1.2.2,hf.2⟩
theorem Tn {e:Ex} (h:e.op=1) (hr:DR e=true):vF e.v=true:=by
 unfold DR at hr
 rw [if_pos h,ahb,ahb] at hr
 exact hr.2.2
set_option maxHeartbeats 8000000
def GL (rec:Ex->List Val->Option Val) (a_e:Ex) (a_row:(List Val)):Option (Int):=(rec a_e a_row).bind fun r_1=>(lh r_1).bind fun r_2=>some r_2
theorem SY {rec:Ex->List Val->Option Val}  (hrec : ∀ {x:Ex} {y:List Val} {r:Val}, rec x y=some r->Pure Tryz.prog 52 [.agg (tE x), .one (.lst (y.map cV))] (.val (.agg (cV r)))) {a_e:Ex} {a_row:(List Val)} {r:Int} (H:GL rec a_e a_row=some r):Pure Tryz.prog 73 [.agg (tE a_e), .one (.lst (a_row.map cV))] (.val (.one (.int .i64 r))):=by
 unfold GL at H
 rw [aC a_e]
 refine po_ Tryz.func73 Tryz.ntmps73 ?_
 obtain ⟨r_1,c1,H⟩:=bd_ H
 replace c1:=hrec c1
 try simp only [ag8,ag6,ag_,ag0,aC] at c1
 obtain ⟨r_2,c2,H⟩:=bd_ H
 replace c2:=lN c2
 cases H
 exact aD
def uS (c_15:(List Val)):(Int)->Option (Step (Int) (Val)):=fun s=>match s with
 | v_30=>bif (decide (v_30<((c_15.length:Nat):Int))) then (aH c_15 v_30).bind fun x_32=>bif (decide (x_32.kind≠(0:Int))) then some (.ret x_32) else
 some (.next (IntKind.i64.wrap (v_30+(1:Int)))) else
 some (.exit v_30)
def qh:Sum (Int) (Val)->Option ((Val))
 | .inl v_30=>(oM ).bind fun r_34=>some r_34
 | .inr q=>some q
def uQ (a_e:Ex) (a_row:(List Val)) (rec:Ex->List Val->Option Val):((List Val) × Int)->Option (Step ((List Val) × Int) (Val)):=fun s=>match s with
 | (c_15,v_16)=>bif (decide (v_16<((a_e.args.length:Nat):Int))) then (aH a_e.args v_16).bind fun x_18=>(rec x_18 a_row).bind fun r_19=>bif (decide (0<=v_16)) then (bif (decide (v_16<((a_e.args.length:Nat):Int))) then (bif (decide ((0+v_16.toNat)<c_15.length)) then (some (.next ((c_15.set (0+v_16.toNat) r_19),(IntKind.i64.wrap (v_16+(1:Int)))))) else none) else none) else none else
 some (.exit (c_15,v_16))
def bK (a_e:Ex):Sum ((List Val) × Int) (Val)->Option ((Val))
 | .inl (c_15,v_16)=>bif (decide (c_15.length=a_e.args.length)) then (bif (decide (a_e.op=(4:Int))) then (rJ a_e.op c_15).bind fun r_21=>some r_21 else
 bif (decide (a_e.op=(5:Int))) then (rJ a_e.op c_15).bind fun r_23=>some r_23 else
 bif (decide (a_e.op=(6:Int))) then (rJ a_e.op c_15).bind fun r_25=>some r_25 else
 bif (decide (a_e.op=(21:Int))) then (aH c_15 (0:Int)).bind fun x_27=>(yg (decide (x_27.kind=(0:Int)))).bind fun r_28=>some r_28 else
 bif (decide (a_e.op=(23:Int))) then (ax (uS c_15) fuel (0:Int)).bind (qh) else
 bif (decide (a_e.op=(24:Int))) then (y_ a_e.int c_15).bind fun r_36=>some r_36 else
 bif (decide (a_e.op=(19:Int))) then (zx a_e.op c_15).bind fun r_38=>some r_38 else
 bif (decide (a_e.op=(20:Int))) then (zx a_e.op c_15).bind fun r_40=>some r_40 else
 bif (decide (a_e.op=(13:Int))) then (pu a_e.op c_15).bind fun r_42=>some r_42 else
 bif (decide (a_e.op=(14:Int))) then (pu a_e.op c_15).bind fun r_44=>some r_44 else
 bif (decide (a_e.op=(15:Int))) then (pu a_e.op c_15).bind fun r_46=>some r_46 else
 bif (decide (a_e.op=(16:Int))) then (pu a_e.op c_15).bind fun r_48=>some r_48 else
 bif (decide (a_e.op=(17:Int))) then (pu a_e.op c_15).bind fun r_50=>some r_50 else
 bif (decide (a_e.op=(18:Int))) then (pu a_e.op c_15).bind fun r_52=>some r_52 else
 (aH c_15 (0:Int)).bind fun x_53=>(aH c_15 (1:Int)).bind fun x_54=>(oo a_e.op x_53 x_54).bind fun r_55=>(Ee r_55).bind fun r_56=>some r_56) else none
 | .inr q=>some q
def EY (rec:Ex->List Val->Option Val) (a_e:Ex) (a_row:(List Val)):Option (Val):=(sH a_e).bind fun r_1=>bif (!r_1) then (oM ).bind fun r_3=>some r_3 else
 bif (decide (a_e.op=(1:Int))) then some a_e.v else
 bif (decide (a_e.op=(2:Int))) then (Dk a_row a_e.int).bind fun r_6=>some r_6 else
 bif (decide (a_e.op=(22:Int))) then (aH a_e.args (0:Int)).bind fun x_8=>(GL rec x_8 a_row).bind fun r_9=>bif (decide (r_9=(2:Int))) then (aH a_e.args (1:Int)).bind fun x_11=>(rec x_11 a_row).bind fun r_12=>some r_12 else
 (aH a_e.args (2:Int)).bind fun x_13=>(rec x_13 a_row).bind fun r_14=>some r_14 else
 bif (decide (0<=((a_e.args.length:Nat):Int))) then (bif (decide ((32:Int)*((a_e.args.length:Nat):Int)<=281474976710656)) then (bif (decide (((a_e.args.length:Nat):Int)<=9223372036854775807)) then ((ax (uQ a_e a_row rec) fuel ((List.replicate a_e.args.length ((⟨(0:Int),(0:Int),ByteArray.empty⟩:Val))),(0:Int))).bind (bK a_e)) else none) else none) else none
theorem jY {p q:Prop} (k:q) (h:Bx q->p:=by
 intro hq
 repeat' (first|refine jQ rfl rfl rfl rfl rfl (FB tab_ok (k:=3) (by_:=32) rfl rfl rfl (by decide) rfl rfl rfl rfl rfl (by decide) (by omega) (by omega) (by omega)) ?_|refine Hq (enc:=cV) rfl rfl rfl rfl rfl (by omega) rfl (fun _=>rfl) rfl ?_|refine gs_ ?_|fail)
 exact hq.out):p:=h ⟨k⟩
theorem dx {p:Prop} (h:p:=by
 repeat' (first|refine jQ rfl rfl rfl rfl rfl (FB tab_ok (k:=3) (by_:=32) rfl rfl rfl (by decide) rfl rfl rfl rfl rfl (by decide) (by omega) (by omega) (by omega)) ?_|refine Hq (enc:=cV) rfl rfl rfl rfl rfl (by omega) rfl (fun _=>rfl) rfl ?_|refine gs_ ?_|fail)
 refine bO (bZ rfl ?_ ?_)
 ·repeat' (first|exact trivial|rfl|exact ag5 rfl|omega|apply And.intro)
 ·first|rfl|(simp only [ag8,ag6,ag_,ag0]<;>rfl)):p:=h
theorem WS {rec:Ex->List Val->Option Val}  (hrec : ∀ {x:Ex} {y:List Val} {r:Val}, rec x y=some r->Pure Tryz.prog 52 [.agg (tE x), .one (.lst (y.map cV))] (.val (.agg (cV r)))) {a_e:Ex} {a_row:(List Val)} {r:Val} (H:EY rec a_e a_row=some r):Pure Tryz.prog 52 [.agg (tE a_e), .one (.lst (a_row.map cV))] (.val (.agg (cV r))):=by
 unfold EY at H
 rw [aC a_e]
 refine po_ Tryz.func52 Tryz.ntmps52 ?_
 obtain ⟨r_1,c1,H⟩:=bd_ H
 replace c1:=TV c1
 try simp only [ag8,ag6,ag_,ag0,aC] at c1
 rcases af H with ⟨q_2,H⟩|⟨q_2,H⟩
 ·obtain ⟨r_3,c2,H⟩:=bd_ H
  replace c2:=gu c2
  cases H
  exact dx
 rcases af H with ⟨q_4,H⟩|⟨q_4,H⟩
 ·cases H
  exact dx
 refine jY ?_
 rcases af H with ⟨q_5,H⟩|⟨q_5,H⟩
 ·obtain ⟨r_6,c3,H⟩:=bd_ H
  replace c3:=Tc c3
  cases H
  exact dx
 rcases af H with ⟨q_7,H⟩|⟨q_7,H⟩
 ·obtain ⟨x_8,i4z,i4,i4x,H⟩:=aY (f:=tE) H
  simp only [ag8,ag6,ag_,ag0,aC] at i4x
  obtain ⟨r_9,c5,H⟩:=bd_ H
  replace c5:=SY hrec c5
  try simp only [ag8,ag6,ag_,ag0,aC] at c5
  rcases af H with ⟨q_10,H⟩|⟨q_10,H⟩
  ·obtain ⟨x_11,i6z,i6,i6x,H⟩:=aY (f:=tE) H
   simp only [ag8,ag6,ag_,ag0,aC] at i6x
   obtain ⟨r_12,c7,H⟩:=bd_ H
   replace c7:=hrec c7
   try simp only [ag8,ag6,ag_,ag0,aC] at c7
   cases H
   exact dx
  obtain ⟨x_13,i8z,i8,i8x,H⟩:=aY (f:=tE) H
  simp only [ag8,ag6,ag_,ag0,aC] at i8x
  obtain ⟨r_14,c9,H⟩:=bd_ H
  replace c9:=hrec c9
  try simp only [ag8,ag6,ag_,ag0,aC] at c9
  cases H
  exact dx
 obtain ⟨g10,H⟩:=aG H
 obtain ⟨g11,H⟩:=aG H
 obtain ⟨g12,H⟩:=aG H
 refine jY ?_
 refine alM_ (fun s:(List Val) × Int=>match s with|(c_15,v_16)=>[(1, .one (.c (.lst (a_row.map cV)))),(2, .one (.ptr 0 0)),(4, .one (.ptr 1 0)),(5, .one (.sl 2 (27+65536) 0 a_e.args.length)),(52, .one (.c (.lst (a_e.args.map tE)))),(53, .one (.c (.int .i64 ((a_e.args.length:Nat):Int)))),(54, .one (.c (.int .i64 v_16)))]) (fun s=>match s with|(c_15,v_16)=>[.box [.c (.int .i64 a_e.op), .c (.int .i64 a_e.int), .c (.int .i64 a_e.v.kind), .c (.int .i64 a_e.v.int), .c (.str a_e.v.text), .c (.str a_e.nm), .c (.lst (a_e.args.map tE))], .box [.c (.int .i64 (0:Int)), .c (.int .i64 (0:Int)), .c (.str ByteArray.empty)], .row (27+65536) ((c_15.map cV).map (List.map SV.c)) 3]) H (fun _=>ahe _)
  (fm_ dh [] (by simp only [List.map_replicate]<;>rfl) bH ⟨kQ (by rfl),kQ (by rfl),CE _ _ _ _ _,trivial⟩) ?_
 rintro ⟨c_15,v_16⟩ st1 hb1 hk1
 unfold uQ at hb1
 dsimp only at hb1 ⊢
 rcases af hb1 with ⟨q_17,hb1⟩|⟨q_17,hb1⟩
 ·obtain ⟨x_18,i13z,i13,i13x,hb1⟩:=aY (f:=tE) hb1
  simp only [ag8,ag6,ag_,ag0,aC] at i13x
  obtain ⟨r_19,c14,hb1⟩:=bd_ hb1
  replace c14:=hrec c14
  try simp only [ag8,ag6,ag_,ag0,aC] at c14
  obtain ⟨g15,hb1⟩:=aG hb1
  obtain ⟨g16,hb1⟩:=aG hb1
  obtain ⟨g17,hb1⟩:=aG hb1
  cases hb1
  refine jY ?_
  exact ⟨_,rfl,fm_ dh [_] rfl bH ⟨kQ (by rfl),kQ (by rfl),CE _ _ _ _ _,trivial⟩⟩
 cases hb1
 have hx1:bK a_e (.inl (c_15,v_16))=some _:=hk1
 unfold bK at hx1
 dsimp only at hx1
 obtain ⟨g18,hx1⟩:=aG hx1
 have z19:((c_15.map cV).drop 0).take a_e.args.length=c_15.map cV:=by rw [List.drop_zero,ahy];rw [ag7];omega
 refine wM 2 (cs:=c_15.map cV) rfl (GV _) ?_
 simp only [ag6,ag_,thA,thS,and_self,if_true,eq_self,List.set,z19]
 refine jY ?_
 rcases af hx1 with ⟨q_20,hx1⟩|⟨q_20,hx1⟩
 ·obtain ⟨r_21,c20,hx1⟩:=bd_ hx1
  replace c20:=Ez c20
  cases hx1
  exact dx
 rcases af hx1 with ⟨q_22,hx1⟩|⟨q_22,hx1⟩
 ·obtain ⟨r_23,c21,hx1⟩:=bd_ hx1
  replace c21:=Ez c21
  cases hx1
  exact dx
 rcases af hx1 with ⟨q_24,hx1⟩|⟨q_24,hx1⟩
 ·obtain ⟨r_25,c22,hx1⟩:=bd_ hx1
  replace c22:=Ez c22
  cases hx1
  exact dx
 refine jY ?_
 rcases af hx1 with ⟨q_26,hx1⟩|⟨q_26,hx1⟩
 ·obtain ⟨x_27,i23z,i23,i23x,hx1⟩:=aY (f:=cV) hx1
  obtain ⟨r_28,c24,hx1⟩:=bd_ hx1
  replace c24:=uM c24
  cases hx1
  exact dx
 rcases af hx1 with ⟨q_29,hx1⟩|⟨q_29,hx1⟩
 ·refine jY ?_
  refine alM_ (fun s:Int=>match s with|v_30=>[(4, .one (.ptr 1 0)),(86, .one (.c (.lst (c_15.map cV)))),(87, .one (.c (.int .i64 ((c_15.length:Nat):Int)))),(88, .one (.c (.int .i64 v_30)))]) (fun s=>match s with|v_30=>[.box [.c (.int .i64 a_e.op), .c (.int .i64 a_e.int), .c (.int .i64 a_e.v.kind), .c (.int .i64 a_e.v.int), .c (.str a_e.v.text), .c (.str a_e.nm), .c (.lst (a_e.args.map tE))], .box [.c (.int .i64 (0:Int)), .c (.int .i64 (0:Int)), .c (.str ByteArray.empty)], .dead]) hx1 (fun _=>ahe _)
   (fm_ dh [] rfl bH dw) ?_
  rintro v_30 st2 hb2 hk2
  unfold uS at hb2
  dsimp only at hb2 ⊢
  rcases af hb2 with ⟨q_31,hb2⟩|⟨q_31,hb2⟩
  ·obtain ⟨x_32,i25z,i25,i25x,hb2⟩:=aY (f:=cV) hb2
   refine jY ?_
   rcases af hb2 with ⟨q_33,hb2⟩|⟨q_33,hb2⟩
   ·cases hb2
    have hx2:qh (.inr x_32)=some _:=hk2
    unfold qh at hx2
    dsimp only at hx2
    cases hx2
    exact dx
   cases hb2
   refine jY ?_
   exact ⟨_,rfl,fm_ dh [_] rfl bH dw⟩
  cases hb2
  have hx2:qh (.inl v_30)=some _:=hk2
  unfold qh at hx2
  dsimp only at hx2
  obtain ⟨r_34,c26,hx2⟩:=bd_ hx2
  replace c26:=gu c26
  cases hx2
  exact dx
 rcases af hx1 with ⟨q_35,hx1⟩|⟨q_35,hx1⟩
 ·obtain ⟨r_36,c27,hx1⟩:=bd_ hx1
  replace c27:=RX c27
  cases hx1
  exact dx
 refine jY ?_
 rcases af hx1 with ⟨q_37,hx1⟩|⟨q_37,hx1⟩
 ·obtain ⟨r_38,c28,hx1⟩:=bd_ hx1
  replace c28:=MC c28
  cases hx1
  exact dx
 rcases af hx1 with ⟨q_39,hx1⟩|⟨q_39,hx1⟩
 ·obtain ⟨r_40,c29,hx1⟩:=bd_ hx1
  replace c29:=MC c29
  cases hx1
  exact dx
 rcases af hx1 with ⟨q_41,hx1⟩|⟨q_41,hx1⟩
 ·obtain ⟨r_42,c30,hx1⟩:=bd_ hx1
  replace c30:=qx c30
  cases hx1
  exact dx
 refine jY ?_
 rcases af hx1 with ⟨q_43,hx1⟩|⟨q_43,hx1⟩
 ·obtain ⟨r_44,c31,hx1⟩:=bd_ hx1
  replace c31:=qx c31
  cases hx1
  exact dx
 rcases af hx1 with ⟨q_45,hx1⟩|⟨q_45,hx1⟩
 ·obtain ⟨r_46,c32,hx1⟩:=bd_ hx1
  replace c32:=qx c32
  cases hx1
  exact dx
 rcases af hx1 with ⟨q_47,hx1⟩|⟨q_47,hx1⟩
 ·obtain ⟨r_48,c33,hx1⟩:=bd_ hx1
  replace c33:=qx c33
  cases hx1
  exact dx
 refine jY ?_
 rcases af hx1 with ⟨q_49,hx1⟩|⟨q_49,hx1⟩
 ·obtain ⟨r_50,c34,hx1⟩:=bd_ hx1
  replace c34:=qx c34
  cases hx1
  exact dx
 rcases af hx1 with ⟨q_51,hx1⟩|⟨q_51,hx1⟩
 ·obtain ⟨r_52,c35,hx1⟩:=bd_ hx1
  replace c35:=qx c35
  cases hx1
  exact dx
 obtain ⟨x_53,i36z,i36,i36x,hx1⟩:=aY (f:=cV) hx1
 obtain ⟨x_54,i37z,i37,i37x,hx1⟩:=aY (f:=cV) hx1
 obtain ⟨r_55,c38,hx1⟩:=bd_ hx1
 replace c38:=Ia c38
 obtain ⟨r_56,c39,hx1⟩:=bd_ hx1
 replace c39:=DI c39
 cases hx1
 exact dx
def pK:Nat->Ex->List Val->Option Val
 | 0,_,_=>none
 | n+1,e,r=>EY (pK n) e r
theorem rC : ∀ (n:Nat) {x:Ex} {y:List Val} {r:Val}, pK n x y=some r->Pure Tryz.prog 52 [.agg (tE x), .one (.lst (y.map cV))] (.val (.agg (cV r)))
 | 0,_,_,_,h=>nomatch h
 | n+1,_,_,_,h=>WS (rC n) h
set_option maxHeartbeats 8000000
def qQ (a_e:Ex) (a_row:(List Val)) (rec:Ex->List Val->Option Val):((List Val) × Int)->Option (Step ((List Val) × Int) (Val)):=fun s=>match s with
 | (l_4,i_5)=>bif (decide (i_5<((a_e.args.length:Nat):Int))) then (aH a_e.args i_5).bind fun x_7=>(rec x_7 a_row).bind fun r_8=>bif (decide (l_4.length+1<=4398046511104)) then (some (.next ((l_4++[r_8]),(IntKind.i64.wrap (i_5+(1:Int)))))) else none else
 some (.exit (l_4,i_5))
def gER_K (a_e:Ex) (a_row:(List Val)):Sum ((List Val) × Int) (Val)->Option ((Val))
 | .inl (l_4,i_5)=>bif (decide (a_e.op=(1:Int))) then (Gt a_e a_row).bind fun r_10=>some r_10 else
 bif (decide (a_e.op=(2:Int))) then (Gt a_e a_row).bind fun r_12=>some r_12 else
 bif (decide (a_e.op=(4:Int))) then (aH l_4 (0:Int)).bind fun x_14=>(jy x_14).bind fun r_15=>(Ku r_15).bind fun r_16=>(GD r_16).bind fun r_17=>some r_17 else
 bif (decide (a_e.op=(5:Int))) then (Ah a_e.op l_4).bind fun r_19=>some r_19 else
 bif (decide (a_e.op=(6:Int))) then (Ah a_e.op l_4).bind fun r_21=>some r_21 else
 bif (decide (a_e.op=(7:Int))) then (aH l_4 (0:Int)).bind fun x_23=>(aH l_4 (1:Int)).bind fun x_24=>(jl a_e.op x_23 x_24).bind fun r_25=>(GD r_25).bind fun r_26=>some r_26 else
 bif (decide (a_e.op=(8:Int))) then (aH l_4 (0:Int)).bind fun x_28=>(aH l_4 (1:Int)).bind fun x_29=>(jl a_e.op x_28 x_29).bind fun r_30=>(GD r_30).bind fun r_31=>some r_31 else
 bif (decide (a_e.op=(9:Int))) then (aH l_4 (0:Int)).bind fun x_33=>(aH l_4 (1:Int)).bind fun x_34=>(jl a_e.op x_33 x_34).bind fun r_35=>(GD r_35).bind fun r_36=>some r_36 else
 bif (decide (a_e.op=(10:Int))) then (aH l_4 (0:Int)).bind fun x_38=>(aH l_4 (1:Int)).bind fun x_39=>(jl a_e.op x_38 x_39).bind fun r_40=>(GD r_40).bind fun r_41=>some r_41 else
 bif (decide (a_e.op=(11:Int))) then (aH l_4 (0:Int)).bind fun x_43=>(aH l_4 (1:Int)).bind fun x_44=>(jl a_e.op x_43 x_44).bind fun r_45=>(GD r_45).bind fun r_46=>some r_46 else
 bif (decide (a_e.op=(12:Int))) then (aH l_4 (0:Int)).bind fun x_48=>(aH l_4 (1:Int)).bind fun x_49=>(jl a_e.op x_48 x_49).bind fun r_50=>(GD r_50).bind fun r_51=>some r_51 else
 bif (decide (a_e.op=(18:Int))) then (RF l_4 (1:Int)).bind fun r_53=>bif (!r_53) then (fQ ).bind fun r_55=>some r_55 else
 (aH l_4 (0:Int)).bind fun x_56=>(sF (IntKind.i64.wrap (0-x_56.int))).bind fun r_57=>some r_57 else
 bif (decide (a_e.op=(19:Int))) then (yH a_e.op l_4).bind fun r_59=>some r_59 else
 bif (decide (a_e.op=(20:Int))) then (yH a_e.op l_4).bind fun r_61=>some r_61 else
 bif (decide (a_e.op=(21:Int))) then (aH l_4 (0:Int)).bind fun x_63=>(wB (decide (x_63.kind=(0:Int)))).bind fun r_64=>some r_64 else
 bif (decide (a_e.op=(22:Int))) then (ww a_e.op l_4).bind fun r_66=>some r_66 else
 bif (decide (a_e.op=(23:Int))) then (ww a_e.op l_4).bind fun r_68=>some r_68 else
 bif (decide (a_e.op=(24:Int))) then (uL a_e.int l_4).bind fun r_70=>some r_70 else
 (RF l_4 (1:Int)).bind fun r_71=>bif (!r_71) then (fQ ).bind fun r_73=>some r_73 else
 (aH l_4 (0:Int)).bind fun x_74=>(aH l_4 (1:Int)).bind fun x_75=>(eD a_e.op x_74.int x_75.int).bind fun r_76=>some r_76
 | .inr q=>some q
def Aj (rec:Ex->List Val->Option Val) (a_e:Ex) (a_row:(List Val)):Option (Val):=(mG a_e).bind fun r_1=>bif (!r_1) then (fQ ).bind fun r_3=>some r_3 else
 (ax (qQ a_e a_row rec) fuel ([],(0:Int))).bind (gER_K a_e a_row)
theorem UH {rec:Ex->List Val->Option Val}  (hrec : ∀ {x:Ex} {y:List Val} {r:Val}, rec x y=some r->Pure Tryz.prog 55 [.agg (tE x), .one (.lst (y.map cV))] (.val (.agg (cV r)))) {a_e:Ex} {a_row:(List Val)} {r:Val} (H:Aj rec a_e a_row=some r):Pure Tryz.prog 55 [.agg (tE a_e), .one (.lst (a_row.map cV))] (.val (.agg (cV r))):=by
 unfold Aj at H
 rw [aC a_e]
 refine po_ Tryz.func55 Tryz.ntmps55 ?_
 obtain ⟨r_1,c1,H⟩:=bd_ H
 replace c1:=Gp c1
 try simp only [ag8,ag6,ag_,ag0,aC] at c1
 rcases af H with ⟨q_2,H⟩|⟨q_2,H⟩
 ·obtain ⟨r_3,c2,H⟩:=bd_ H
  replace c2:=dm c2
  cases H
  exact aD
 refine bF ?_
 refine bX 5 3 rfl ?_
 refine alM_ (fun s:(List Val) × Int=>match s with|(l_4,i_5)=>[(1, .one (.c (.lst (a_row.map cV)))),(2, .one (.ptr 0 0)),(4, .one (.ptr 1 0)),(5, .one (.own (l_4.map cV) 2)),(6, .one (.c (.int .i64 i_5)))]) (fun s=>match s with|(l_4,i_5)=>[.box [.c (.int .i64 a_e.op), .c (.int .i64 a_e.int), .c (.int .i64 a_e.v.kind), .c (.int .i64 a_e.v.int), .c (.str a_e.v.text), .c (.str a_e.nm), .c (.lst (a_e.args.map tE))], .box [.c (.int .i64 (0:Int)), .c (.int .i64 (0:Int)), .c (.str ByteArray.empty)], .spare l_4.length 3]) H (fun _=>ahe _)
  (fm_ dh [] rfl bH dw) ?_
 rintro ⟨l_4,i_5⟩ st1 hb1 hk1
 unfold qQ at hb1
 dsimp only at hb1 ⊢
 rcases af hb1 with ⟨q_6,hb1⟩|⟨q_6,hb1⟩
 ·obtain ⟨x_7,i3z,i3,i3x,hb1⟩:=aY (f:=tE) hb1
  simp only [ag8,ag6,ag_,ag0,aC] at i3x
  obtain ⟨r_8,c4,hb1⟩:=bd_ hb1
  replace c4:=hrec c4
  try simp only [ag8,ag6,ag_,ag0,aC] at c4
  obtain ⟨g5,hb1⟩:=aG hb1
  cases hb1
  refine bF ?_
  exact ⟨_,rfl,fm_ lC [] lD bH dw⟩
 cases hb1
 have hx1:gER_K a_e a_row (.inl (l_4,i_5))=some _:=hk1
 unfold gER_K at hx1
 dsimp only at hx1
 refine bF ?_
 rcases af hx1 with ⟨q_9,hx1⟩|⟨q_9,hx1⟩
 ·obtain ⟨r_10,c6,hx1⟩:=bd_ hx1
  replace c6:=QG c6
  try simp only [ag8,ag6,ag_,ag0,aC] at c6
  cases hx1
  exact aD
 rcases af hx1 with ⟨q_11,hx1⟩|⟨q_11,hx1⟩
 ·obtain ⟨r_12,c7,hx1⟩:=bd_ hx1
  replace c7:=QG c7
  try simp only [ag8,ag6,ag_,ag0,aC] at c7
  cases hx1
  exact aD
 rcases af hx1 with ⟨q_13,hx1⟩|⟨q_13,hx1⟩
 ·obtain ⟨x_14,i8z,i8,i8x,hx1⟩:=aY (f:=cV) hx1
  obtain ⟨r_15,c9,hx1⟩:=bd_ hx1
  replace c9:=nO c9
  obtain ⟨r_16,c10,hx1⟩:=bd_ hx1
  replace c10:=Ep c10
  obtain ⟨r_17,c11,hx1⟩:=bd_ hx1
  replace c11:=sK c11
  cases hx1
  exact aD
 refine bF ?_
 rcases af hx1 with ⟨q_18,hx1⟩|⟨q_18,hx1⟩
 ·obtain ⟨r_19,c12,hx1⟩:=bd_ hx1
  replace c12:=H8 c12
  cases hx1
  exact aD
 rcases af hx1 with ⟨q_20,hx1⟩|⟨q_20,hx1⟩
 ·obtain ⟨r_21,c13,hx1⟩:=bd_ hx1
  replace c13:=H8 c13
  cases hx1
  exact aD
 rcases af hx1 with ⟨q_22,hx1⟩|⟨q_22,hx1⟩
 ·obtain ⟨x_23,i14z,i14,i14x,hx1⟩:=aY (f:=cV) hx1
  obtain ⟨x_24,i15z,i15,i15x,hx1⟩:=aY (f:=cV) hx1
  obtain ⟨r_25,c16,hx1⟩:=bd_ hx1
  replace c16:=kE c16
  obtain ⟨r_26,c17,hx1⟩:=bd_ hx1
  replace c17:=sK c17
  cases hx1
  exact aD
 refine bF ?_
 rcases af hx1 with ⟨q_27,hx1⟩|⟨q_27,hx1⟩
 ·obtain ⟨x_28,i18z,i18,i18x,hx1⟩:=aY (f:=cV) hx1
  obtain ⟨x_29,i19z,i19,i19x,hx1⟩:=aY (f:=cV) hx1
  obtain ⟨r_30,c20,hx1⟩:=bd_ hx1
  replace c20:=kE c20
  obtain ⟨r_31,c21,hx1⟩:=bd_ hx1
  replace c21:=sK c21
  cases hx1
  exact aD
 rcases af hx1 with ⟨q_32,hx1⟩|⟨q_32,hx1⟩
 ·obtain ⟨x_33,i22z,i22,i22x,hx1⟩:=aY (f:=cV) hx1
  obtain ⟨x_34,i23z,i23,i23x,hx1⟩:=aY (f:=cV) hx1
  obtain ⟨r_35,c24,hx1⟩:=bd_ hx1
  replace c24:=kE c24
  obtain ⟨r_36,c25,hx1⟩:=bd_ hx1
  replace c25:=sK c25
  cases hx1
  exact aD
 rcases af hx1 with ⟨q_37,hx1⟩|⟨q_37,hx1⟩
 ·obtain ⟨x_38,i26z,i26,i26x,hx1⟩:=aY (f:=cV) hx1
  obtain ⟨x_39,i27z,i27,i27x,hx1⟩:=aY (f:=cV) hx1
  obtain ⟨r_40,c28,hx1⟩:=bd_ hx1
  replace c28:=kE c28
  obtain ⟨r_41,c29,hx1⟩:=bd_ hx1
  replace c29:=sK c29
  cases hx1
  exact aD
 refine bF ?_
 rcases af hx1 with ⟨q_42,hx1⟩|⟨q_42,hx1⟩
 ·obtain ⟨x_43,i30z,i30,i30x,hx1⟩:=aY (f:=cV) hx1
  obtain ⟨x_44,i31z,i31,i31x,hx1⟩:=aY (f:=cV) hx1
  obtain ⟨r_45,c32,hx1⟩:=bd_ hx1
  replace c32:=kE c32
  obtain ⟨r_46,c33,hx1⟩:=bd_ hx1
  replace c33:=sK c33
  cases hx1
  exact aD
 rcases af hx1 with ⟨q_47,hx1⟩|⟨q_47,hx1⟩
 ·obtain ⟨x_48,i34z,i34,i34x,hx1⟩:=aY (f:=cV) hx1
  obtain ⟨x_49,i35z,i35,i35x,hx1⟩:=aY (f:=cV) hx1
  obtain ⟨r_50,c36,hx1⟩:=bd_ hx1
  replace c36:=kE c36
  obtain ⟨r_51,c37,hx1⟩:=bd_ hx1
  replace c37:=sK c37
  cases hx1
  exact aD
 rcases af hx1 with ⟨q_52,hx1⟩|⟨q_52,hx1⟩
 ·obtain ⟨r_53,c38,hx1⟩:=bd_ hx1
  replace c38:=Hl c38
  refine bF ?_
  rcases af hx1 with ⟨q_54,hx1⟩|⟨q_54,hx1⟩
  ·obtain ⟨r_55,c39,hx1⟩:=bd_ hx1
   replace c39:=dm c39
   cases hx1
   exact aD
  obtain ⟨x_56,i40z,i40,i40x,hx1⟩:=aY (f:=cV) hx1
  obtain ⟨r_57,c41,hx1⟩:=bd_ hx1
  replace c41:=oq c41
  cases hx1
  exact aD
 refine bF ?_
 rcases af hx1 with ⟨q_58,hx1⟩|⟨q_58,hx1⟩
 ·obtain ⟨r_59,c42,hx1⟩:=bd_ hx1
  replace c42:=MX c42
  cases hx1
  exact aD
 rcases af hx1 with ⟨q_60,hx1⟩|⟨q_60,hx1⟩
 ·obtain ⟨r_61,c43,hx1⟩:=bd_ hx1
  replace c43:=MX c43
  cases hx1
  exact aD
 rcases af hx1 with ⟨q_62,hx1⟩|⟨q_62,hx1⟩
 ·obtain ⟨x_63,i44z,i44,i44x,hx1⟩:=aY (f:=cV) hx1
  obtain ⟨r_64,c45,hx1⟩:=bd_ hx1
  replace c45:=qj c45
  cases hx1
  exact aD
 refine bF ?_
 rcases af hx1 with ⟨q_65,hx1⟩|⟨q_65,hx1⟩
 ·obtain ⟨r_66,c46,hx1⟩:=bd_ hx1
  replace c46:=IR c46
  cases hx1
  exact aD
 rcases af hx1 with ⟨q_67,hx1⟩|⟨q_67,hx1⟩
 ·obtain ⟨r_68,c47,hx1⟩:=bd_ hx1
  replace c47:=IR c47
  cases hx1
  exact aD
 rcases af hx1 with ⟨q_69,hx1⟩|⟨q_69,hx1⟩
 ·obtain ⟨r_70,c48,hx1⟩:=bd_ hx1
  replace c48:=PM c48
  cases hx1
  exact aD
 obtain ⟨r_71,c49,hx1⟩:=bd_ hx1
 replace c49:=Hl c49
 refine bF ?_
 rcases af hx1 with ⟨q_72,hx1⟩|⟨q_72,hx1⟩
 ·obtain ⟨r_73,c50,hx1⟩:=bd_ hx1
  replace c50:=dm c50
  cases hx1
  exact aD
 obtain ⟨x_74,i51z,i51,i51x,hx1⟩:=aY (f:=cV) hx1
 obtain ⟨x_75,i52z,i52,i52x,hx1⟩:=aY (f:=cV) hx1
 obtain ⟨r_76,c53,hx1⟩:=bd_ hx1
 replace c53:=PG c53
 cases hx1
 exact aD
def kL:Nat->Ex->List Val->Option Val
 | 0,_,_=>none
 | n+1,e,r=>Aj (kL n) e r
theorem Ff : ∀ (n:Nat) {x:Ex} {y:List Val} {r:Val}, kL n x y=some r->Pure Tryz.prog 55 [.agg (tE x), .one (.lst (y.map cV))] (.val (.agg (cV r)))
 | 0,_,_,_,h=>nomatch h
 | n+1,_,_,_,h=>UH (Ff n) h
end Go.Proofs.YtcehmafobkhdbaaGreatDoor
