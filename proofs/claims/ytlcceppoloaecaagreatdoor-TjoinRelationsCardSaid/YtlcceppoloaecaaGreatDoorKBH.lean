/- Parts of the proof, joined. No condition. -/
import Derived.Test.YtlcceppoloaecaaGreatDoorKAA
import Derived.Test.YtlcceppoloaecaaGreatDoorKBF
set_option linter.unusedSimpArgs false
set_option linter.unusedVariables false
namespace Go.Proofs.YtlcceppoloaecaaGreatDoor
open Go.RowKit Go.MapKept
set_option maxRecDepth 100000
def bF (p q:bD):Int :=
 if p.hi<q.lo then 0 else if p.hi=q.lo then 1 else if q.hi<p.lo then 12 else if q.hi=p.lo then 11 else if p.lo=q.lo/\p.hi=q.hi then 6
 else if p.lo=q.lo then (if p.hi<q.hi then 3 else 9) else if p.hi=q.hi then (if q.lo<p.lo then 5 else 7)
 else if p.lo<q.lo/\q.hi<p.hi then 8 else if q.lo<p.lo/\p.hi<q.hi then 4 else if p.lo<q.lo then 2 else 10
theorem bB (p q:bD):bz [.c (.int .i64 p.lo), .c (.int .i64 p.hi)] [.c (.int .i64 q.lo), .c (.int .i64 q.hi)]=decide (p.lo=q.lo/\p.hi=q.hi):=by
 simp [bz]
theorem MZ (p q:bD):Jz p q=some (if ay p=true/\ay q=true then (bF p q,true) else (0,false)):=by
 unfold Jz
 rw [nP,nP]
 simp only [Va]
 cases hp:ay p with
 | false=>simp
 | true =>
  cases hq:ay q with
  | false=>simp
  | true =>
   simp only [Bool.not_true,Vd,and_self,if_true,bB]
   unfold bF
   by_cases h1:p.hi<q.lo
   ·simp only [Bool.cond_decide,eq_true h1,if_true,if_false,and_true,true_and,and_false,false_and,and_self]
   by_cases h2:p.hi=q.lo
   ·simp only [Bool.cond_decide,eq_true h2,eq_false h1,if_true,if_false,and_true,true_and,and_false,false_and,and_self]
   by_cases h3:q.hi<p.lo
   ·simp only [Bool.cond_decide,eq_true h3,eq_false h1,eq_false h2,if_true,if_false,and_true,true_and,and_false,false_and,and_self]
   by_cases h4:q.hi=p.lo
   ·simp only [Bool.cond_decide,eq_true h4,eq_false h1,eq_false h2,eq_false h3,if_true,if_false,and_true,true_and,and_false,false_and,and_self]
   by_cases h5:p.lo=q.lo
   ·by_cases h6:p.hi=q.hi
    ·simp only [Bool.cond_decide,eq_true h5,eq_true h6,eq_false h1,eq_false h2,eq_false h3,eq_false h4,if_true,if_false,and_true,true_and,and_false,false_and,and_self]
    ·by_cases h7:p.hi<q.hi
     ·simp only [Bool.cond_decide,eq_true h5,eq_true h7,eq_false h1,eq_false h2,eq_false h3,eq_false h4,eq_false h6,if_true,if_false,and_true,true_and,and_false,false_and,and_self]
     ·simp only [Bool.cond_decide,eq_true h5,eq_false h1,eq_false h2,eq_false h3,eq_false h4,eq_false h6,eq_false h7,if_true,if_false,and_true,true_and,and_false,false_and,and_self]
   ·by_cases h6:p.hi=q.hi
    ·by_cases h7:q.lo<p.lo
     ·simp only [Bool.cond_decide,eq_true h6,eq_true h7,eq_false h1,eq_false h2,eq_false h3,eq_false h4,eq_false h5,if_true,if_false,and_true,true_and,and_false,false_and,and_self]
     ·simp only [Bool.cond_decide,eq_true h6,eq_false h1,eq_false h2,eq_false h3,eq_false h4,eq_false h5,eq_false h7,if_true,if_false,and_true,true_and,and_false,false_and,and_self]
    ·by_cases h7:p.lo<q.lo
     ·by_cases h8:q.hi<p.hi
      ·simp only [Bool.cond_decide,eq_true h7,eq_true h8,eq_false h1,eq_false h2,eq_false h3,eq_false h4,eq_false h5,eq_false h6,if_true,if_false,and_true,true_and,and_false,false_and,and_self]
      ·by_cases h9:q.lo<p.lo
       ·omega
       ·simp only [Bool.cond_decide,eq_true h7,eq_false h1,eq_false h2,eq_false h3,eq_false h4,eq_false h5,eq_false h6,eq_false h8,eq_false h9,if_true,if_false,and_true,true_and,and_false,false_and,and_self]
     ·by_cases h8:q.lo<p.lo
      ·by_cases h9:p.hi<q.hi
       ·simp only [Bool.cond_decide,eq_true h8,eq_true h9,eq_false h1,eq_false h2,eq_false h3,eq_false h4,eq_false h5,eq_false h6,eq_false h7,if_true,if_false,and_true,true_and,and_false,false_and,and_self]
       ·simp only [Bool.cond_decide,eq_true h8,eq_false h1,eq_false h2,eq_false h3,eq_false h4,eq_false h5,eq_false h6,eq_false h7,eq_false h9,if_true,if_false,and_true,true_and,and_false,false_and,and_self]
      ·omega
theorem xW {p:bD} (h:ay p=true):0<=p.lo/\p.lo<p.hi/\p.hi<=1099511627776:=by
 unfold ay at h
 simp only [Vu,decide_eq_true_eq] at h
 omega
theorem KG {p q:bD} (hp:0<=p.lo/\p.lo<p.hi) (hq:0<=q.lo/\q.lo<q.hi):bF p q=0↔p.hi<q.lo:=by
 unfold bF
 repeat' split
 all_goals (constructor<;>intro h<;>omega)
theorem Qo (p q:bD):eU 0 p q=some (decide (p.hi<q.lo)):=by
 unfold eU
 simp only [Int.reduceEq,decide_false,decide_true,Ve,Vd,bB]<;>rfl
theorem Mh {p q:bD} (hp:0<=p.lo/\p.lo<p.hi) (hq:0<=q.lo/\q.lo<q.hi):bF p q=1↔p.hi=q.lo:=by
 unfold bF
 repeat' split
 all_goals (constructor<;>intro h<;>omega)
theorem Ps (p q:bD):eU 1 p q=some (decide (p.hi=q.lo)):=by
 unfold eU
 simp only [Int.reduceEq,decide_false,decide_true,Ve,Vd,bB]<;>rfl
theorem KE {p q:bD} (hp:0<=p.lo/\p.lo<p.hi) (hq:0<=q.lo/\q.lo<q.hi):bF p q=2↔p.lo<q.lo/\q.lo<p.hi/\p.hi<q.hi:=by
 unfold bF
 repeat' split
 all_goals (constructor<;>intro h<;>omega)
theorem Pp (p q:bD):eU 2 p q=some (decide (p.lo<q.lo/\q.lo<p.hi/\p.hi<q.hi)):=by
 unfold eU
 simp only [Int.reduceEq,decide_false,decide_true,Ve,Vd,bB]
 by_cases h0:p.lo<q.lo<;>by_cases h1:q.lo<p.hi<;>simp [h0,h1]
theorem Ki {p q:bD} (hp:0<=p.lo/\p.lo<p.hi) (hq:0<=q.lo/\q.lo<q.hi):bF p q=3↔p.lo=q.lo/\p.hi<q.hi:=by
 unfold bF
 repeat' split
 all_goals (constructor<;>intro h<;>omega)
theorem Pi (p q:bD):eU 3 p q=some (decide (p.lo=q.lo/\p.hi<q.hi)):=by
 unfold eU
 simp only [Int.reduceEq,decide_false,decide_true,Ve,Vd,bB]
 by_cases h0:p.lo=q.lo<;>simp [h0]
theorem Mi {p q:bD} (hp:0<=p.lo/\p.lo<p.hi) (hq:0<=q.lo/\q.lo<q.hi):bF p q=4↔q.lo<p.lo/\p.hi<q.hi:=by
 unfold bF
 repeat' split
 all_goals (constructor<;>intro h<;>omega)
theorem Ql (p q:bD):eU 4 p q=some (decide (q.lo<p.lo/\p.hi<q.hi)):=by
 unfold eU
 simp only [Int.reduceEq,decide_false,decide_true,Ve,Vd,bB]
 by_cases h0:q.lo<p.lo<;>simp [h0]
theorem Mf {p q:bD} (hp:0<=p.lo/\p.lo<p.hi) (hq:0<=q.lo/\q.lo<q.hi):bF p q=5↔p.hi=q.hi/\q.lo<p.lo:=by
 unfold bF
 repeat' split
 all_goals (constructor<;>intro h<;>omega)
theorem PW (p q:bD):eU 5 p q=some (decide (p.hi=q.hi/\q.lo<p.lo)):=by
 unfold eU
 simp only [Int.reduceEq,decide_false,decide_true,Ve,Vd,bB]
 by_cases h0:p.hi=q.hi<;>simp [h0]
theorem K_ {p q:bD} (hp:0<=p.lo/\p.lo<p.hi) (hq:0<=q.lo/\q.lo<q.hi):bF p q=6↔p.lo=q.lo/\p.hi=q.hi:=by
 unfold bF
 repeat' split
 all_goals (constructor<;>intro h<;>omega)
theorem P6 (p q:bD):eU 6 p q=some (decide (p.lo=q.lo/\p.hi=q.hi)):=by
 unfold eU
 simp only [Int.reduceEq,decide_false,decide_true,Ve,Vd,bB]<;>rfl
theorem Kn {p q:bD} (hp:0<=p.lo/\p.lo<p.hi) (hq:0<=q.lo/\q.lo<q.hi):bF p q=7↔p.hi=q.hi/\p.lo<q.lo:=by
 unfold bF
 repeat' split
 all_goals (constructor<;>intro h<;>omega)
theorem Qc (p q:bD):eU 7 p q=some (decide (p.hi=q.hi/\p.lo<q.lo)):=by
 unfold eU
 simp only [Int.reduceEq,decide_false,decide_true,Ve,Vd,bB]
 by_cases h0:p.hi=q.hi<;>simp [h0]
theorem Lr {p q:bD} (hp:0<=p.lo/\p.lo<p.hi) (hq:0<=q.lo/\q.lo<q.hi):bF p q=8↔p.lo<q.lo/\q.hi<p.hi:=by
 unfold bF
 repeat' split
 all_goals (constructor<;>intro h<;>omega)
theorem Qg (p q:bD):eU 8 p q=some (decide (p.lo<q.lo/\q.hi<p.hi)):=by
 unfold eU
 simp only [Int.reduceEq,decide_false,decide_true,Ve,Vd,bB]
 by_cases h0:p.lo<q.lo<;>simp [h0]
theorem Ms {p q:bD} (hp:0<=p.lo/\p.lo<p.hi) (hq:0<=q.lo/\q.lo<q.hi):bF p q=9↔p.lo=q.lo/\q.hi<p.hi:=by
 unfold bF
 repeat' split
 all_goals (constructor<;>intro h<;>omega)
theorem Po (p q:bD):eU 9 p q=some (decide (p.lo=q.lo/\q.hi<p.hi)):=by
 unfold eU
 simp only [Int.reduceEq,decide_false,decide_true,Ve,Vd,bB]
 by_cases h0:p.lo=q.lo<;>simp [h0]
theorem Jj {p q:bD} (hp:0<=p.lo/\p.lo<p.hi) (hq:0<=q.lo/\q.lo<q.hi):bF p q=10↔q.lo<p.lo/\p.lo<q.hi/\q.hi<p.hi:=by
 unfold bF
 repeat' split
 all_goals (constructor<;>intro h<;>omega)
theorem Od (p q:bD):eU 10 p q=some (decide (q.lo<p.lo/\p.lo<q.hi/\q.hi<p.hi)):=by
 unfold eU
 simp only [Int.reduceEq,decide_false,decide_true,Ve,Vd,bB]
 by_cases h0:q.lo<p.lo<;>by_cases h1:p.lo<q.hi<;>simp [h0,h1]
theorem I4 {p q:bD} (hp:0<=p.lo/\p.lo<p.hi) (hq:0<=q.lo/\q.lo<q.hi):bF p q=11↔q.hi=p.lo:=by
 unfold bF
 repeat' split
 all_goals (constructor<;>intro h<;>omega)
theorem Nu (p q:bD):eU 11 p q=some (decide (q.hi=p.lo)):=by
 unfold eU
 simp only [Int.reduceEq,decide_false,decide_true,Ve,Vd,bB]<;>rfl
theorem Ih {p q:bD} (hp:0<=p.lo/\p.lo<p.hi) (hq:0<=q.lo/\q.lo<q.hi):bF p q=12↔q.hi<p.lo:=by
 unfold bF
 repeat' split
 all_goals (constructor<;>intro h<;>omega)
theorem NM (p q:bD):eU 12 p q=some (decide (q.hi<p.lo)):=by
 unfold eU
 simp only [Int.reduceEq,decide_false,decide_true,Ve,Vd,bB]<;>rfl
theorem qx (p q:bD):0<=bF p q/\bF p q<13:=by
 unfold bF
 repeat' split
 all_goals omega
theorem JR {rel:Int} (h : ¬ (0<=rel/\rel<13)) (p q:bD):eU rel p q=some false:=by
 unfold eU
 rw [Vf (show ¬ rel=0 by omega),Vd]
 rw [Vf (show ¬ rel=1 by omega),Vd]
 rw [Vf (show ¬ rel=2 by omega),Vd]
 rw [Vf (show ¬ rel=3 by omega),Vd]
 rw [Vf (show ¬ rel=4 by omega),Vd]
 rw [Vf (show ¬ rel=5 by omega),Vd]
 rw [Vf (show ¬ rel=6 by omega),Vd]
 rw [Vf (show ¬ rel=7 by omega),Vd]
 rw [Vf (show ¬ rel=8 by omega),Vd]
 rw [Vf (show ¬ rel=9 by omega),Vd]
 rw [Vf (show ¬ rel=10 by omega),Vd]
 rw [Vf (show ¬ rel=11 by omega),Vd]
 rw [Vf (show ¬ rel=12 by omega),Vd]
theorem K7 {p q:bD} (hp:ay p=true) (hq:ay q=true) (rel:Int):eU rel p q=some (decide (bF p q=rel)):=by
 obtain ⟨p1,p2,p3⟩:=xW hp
 obtain ⟨q1,q2,q3⟩:=xW hq
 by_cases hr:0<=rel/\rel<13
 ·have:rel=0\/rel=1\/rel=2\/rel=3\/rel=4\/rel=5\/rel=6\/rel=7\/rel=8\/rel=9\/rel=10\/rel=11\/rel=12:=by omega
  rcases this with rfl|rfl|rfl|rfl|rfl|rfl|rfl|rfl|rfl|rfl|rfl|rfl|rfl
  ·rw [Qo];congr 1;rw [decide_eq_decide,KG ⟨p1,p2⟩ ⟨q1,q2⟩]
  ·rw [Ps];congr 1;rw [decide_eq_decide,Mh ⟨p1,p2⟩ ⟨q1,q2⟩]
  ·rw [Pp];congr 1;rw [decide_eq_decide,KE ⟨p1,p2⟩ ⟨q1,q2⟩]
  ·rw [Pi];congr 1;rw [decide_eq_decide,Ki ⟨p1,p2⟩ ⟨q1,q2⟩]
  ·rw [Ql];congr 1;rw [decide_eq_decide,Mi ⟨p1,p2⟩ ⟨q1,q2⟩]
  ·rw [PW];congr 1;rw [decide_eq_decide,Mf ⟨p1,p2⟩ ⟨q1,q2⟩]
  ·rw [P6];congr 1;rw [decide_eq_decide,K_ ⟨p1,p2⟩ ⟨q1,q2⟩]
  ·rw [Qc];congr 1;rw [decide_eq_decide,Kn ⟨p1,p2⟩ ⟨q1,q2⟩]
  ·rw [Qg];congr 1;rw [decide_eq_decide,Lr ⟨p1,p2⟩ ⟨q1,q2⟩]
  ·rw [Po];congr 1;rw [decide_eq_decide,Ms ⟨p1,p2⟩ ⟨q1,q2⟩]
  ·rw [Od];congr 1;rw [decide_eq_decide,Jj ⟨p1,p2⟩ ⟨q1,q2⟩]
  ·rw [Nu];congr 1;rw [decide_eq_decide,I4 ⟨p1,p2⟩ ⟨q1,q2⟩]
  ·rw [NM];congr 1;rw [decide_eq_decide,Ih ⟨p1,p2⟩ ⟨q1,q2⟩]
 ·rw [JR hr,Vf]
  have:=qx p q
  omega
theorem qc (rel:Int) (p q:bD):lY rel p q=some (ay p&&(ay q&&decide (bF p q=rel))):=by
 unfold lY
 rw [x9,x9]
 simp only [Va]
 cases hp:ay p with
 | false=>rfl
 | true =>
  cases hq:ay q with
  | false=>rfl
  | true=>rw [K7 hp hq];rfl
end Go.Proofs.YtlcceppoloaecaaGreatDoor
