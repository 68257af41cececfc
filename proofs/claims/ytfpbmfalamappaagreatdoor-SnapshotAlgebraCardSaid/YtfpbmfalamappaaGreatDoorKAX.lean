/- Parts of the proof, joined. No condition. -/
import Derived.Test.YtfpbmfalamappaaGreatDoorKAA
import Derived.Test.YtfpbmfalamappaaGreatDoorKAV
import Derived.Test.YtfpbmfalamappaaGreatDoorKAW
import Derived.Test.YtfpbmfalamappaaGreatDoorKAJ
import Derived.Test.YtfpbmfalamappaaGreatDoorKAF
set_option linter.unusedSimpArgs false
set_option linter.unusedVariables false
namespace Go.Proofs.YtfpbmfalamappaaGreatDoor
open Go.RowKit Go.MapKept
set_option maxRecDepth 100000
theorem Fs (e:Ex) (m:Int) (hm:2<=m/\m<=1000) (B:Int) (hB:B<=4611686018427387904) (rec:Ex->Option Int) (recP:Ex->Int->Option Int)
  (hrec : ∀ x∈e.args, ∃ d,rec x=some d/\1<=d/\d<=B/\recP x (m-1)=some (min d (m-1))) (hlen:e.args.length<=100000) :
  ∀ (N i:Nat) (a:Int),0<=a->a<=max 0 B->i<=e.args.length->e.args.length-i<N ->
   ∃ r,ax (eY e rec) N (a,(i:Int))=some (.inl (r,((e.args.length:Nat):Int)))/\ax (gG e m recP) N (min (a+1) m,(i:Int))=some (.inl (min (r+1) m,((e.args.length:Nat):Int)))/\0<=r/\r<=max 0 B
 | 0,i,a,_,_,_,h=>by omega
 | N+1,i,a,h1,h2,hi,hN=>by
  rw [ax,ax]
  by_cases hlt:i<e.args.length
  ·obtain ⟨x,hx⟩:=gol_ hlt
   obtain ⟨d,e1,e2,e3,e4⟩:=hrec x (abe hx)
   have hb:eY e rec (a,(i:Int))=some (.next (max a d,((i+1:Nat):Int))):=by
    unfold eY
    dsimp only
    rw [aY hx,aa',gn_ hx,aa8,e1,aa8,wrapN (by omega)]
    congr 3
    unfold SE;split<;>omega
   have hb2:gG e m recP (min (a+1) m,(i:Int))=some (.next (min (max a d+1) m,((i+1:Nat):Int))):=by
    unfold gG
    dsimp only
    rw [aY hx,aa',gn_ hx,aa8,bJ (by omega),e4,aa8,bJ (by omega),wrapN (by omega)]
    congr 3
    unfold SE;split<;>omega
   rw [hb,hb2]
   exact Fs e m hm B hB rec recP hrec hlen N (i+1) (max a d) (by omega) (by omega) (by omega) (by omega)
  ·have:i=e.args.length:=by omega
   subst this
   have hb:eY e rec (a,((e.args.length:Nat):Int))=some (.exit (a,((e.args.length:Nat):Int))):=by
    unfold eY
    dsimp only
    rw [lF_,aa_]
   have hb2:gG e m recP (min (a+1) m,((e.args.length:Nat):Int))=some (.exit (min (a+1) m,((e.args.length:Nat):Int))):=by
    unfold gG
    dsimp only
    rw [lF_,aa_]
   rw [hb,hb2]
   exact ⟨a,rfl,rfl,h1,h2⟩
theorem Et : ∀ (n:Nat) (e:Ex),n<=4611686018427387904->gY n e -> ∃ d,oZ n e=some d/\1<=d/\d<=(n:Int) /\ ∀ m:Int,1<=m->m<=1000->tV n e m=some (min d m)
 | 0,_,_,h=>h.elim
 | n+1,e,hn,h=>by
  have hd : ∃ r,(∀ m:Int,2<=m->m<=1000->ax (gG e m (tV n)) fuel (1,0)=some (.inl (min (r+1) m,((e.args.length:Nat):Int))))/\ax (eY e (oZ n)) fuel (0,0)=some (.inl (r,((e.args.length:Nat):Int)))/\0<=r/\r<=max 0 (n:Int):=by
   have key : ∀ m:Int,2<=m->m<=1000->_:=fun m h1 h2=>Fs e m ⟨h1,h2⟩ (n:Int) (by omega) (oZ n) (tV n) (by
    intro x hx
    obtain ⟨d,e1,e2,e3,e4⟩:=Et n x (by omega) (h.2 x hx)
    exact ⟨d,e1,e2,e3,e4 (m-1) (by omega) (by omega)⟩) h.1 fuel 0 0 (Int.le_refl _) (by omega) (abv _) (by unfold fuel;have:=h.1;omega)
   obtain ⟨r,e1,e2,e3,e4⟩:=key 2 (by omega) (by omega)
   refine ⟨r,fun m h1 h2=>?_,e1,e3,e4⟩
   obtain ⟨r',f1,f2,f3,f4⟩:=key m h1 h2
   have:r'=r:=by
    rw [e1] at f1
    have:=abH f1
    injection this with this
    injection this with this _
    exact this.symm
   subst this
   rw [show min ((0:Int)+1) m=1 by omega] at f2
   exact f2
  obtain ⟨r,k1,k2,k3,k4⟩:=hd
  refine ⟨r+1,?_,by omega,by omega,fun m h1 h2=>?_⟩
  ·show rC (oZ n) e=_
   unfold rC
   rw [k2]
   show some (IntKind.i64.wrap (r+1))=_
   rw [bJ (by omega)]
  ·show vY (tV n) e m=_
   unfold vY
   by_cases hm:m<=1
   ·rw [abb hm,aa']
    congr 1;omega
   ·rw [aba hm,aa_,k1 m (by omega) h2];rfl
def Hy:Int->List Int->Option Int
 | t,[]=>some t
 | t,x::l=>if x=0 then Hy t l else if t≠0/\t≠x then none else Hy x l
def XR (o:Option Int):Int × Bool:=match o with|some k=>(k,true)|none=>(0,false)
theorem Gb : ∀ (l:List Int) (t:Int),dE (ρ:=Int × Bool) (fun t x=>some (if x=0 then .inl t else if t≠0/\t≠x then .inr (0,false) else .inl x)) t l=some (match Hy t l with|some k => .inl k|none => .inr (0,false))
 | [],t=>rfl
 | x::l,t=>by
  rw [dE,Hy]
  by_cases h:x=0
  ·rw [if_pos h,if_pos h];exact Gb l t
  ·rw [if_neg h,if_neg h]
   by_cases h2:t≠0/\t≠x
   ·rw [if_pos h2,if_pos h2]
   ·rw [if_neg h2,if_neg h2];exact Gb l x
theorem ic (l:List Int) (hl:l.length<=1000000):kD l=some (XR (Hy 0 l)):=by
 unfold kD
 rw [dx (l:=l) (mk:=fun t i=>(t,i)) (f:=fun t x=>some (if x=0 then .inl t else if t≠0/\t≠x then .inr (0,false) else .inl x)) ?_ ?_ (by unfold fuel;omega) (0:Int)]
 ·rw [Gb]
  cases Hy 0 l<;>rfl
 ·intro s i x hx
  have hi:=(aa9.1 hx).1
  unfold wX
  dsimp only
  rw [aY hx,aa',gn_ hx,wrapN (by omega)]
  simp only [aa8]
  by_cases h:x=0
  ·rw [abb h,aa',if_pos h];rfl
  ·rw [aba h,aa_,if_neg h]
   by_cases h1:s=0
   ·rw [aba (show ¬ s≠0 by omega),aa_,if_neg (by omega)];rfl
   ·rw [abb (show s≠0 from h1),aa']
    by_cases h2:s=x
    ·rw [aba (show ¬ s≠x by omega),aa_,if_neg (by omega)];rfl
    ·rw [abb (show s≠x from h2),aa',if_pos ⟨h1,h2⟩];rfl
 ·intro s
  unfold wX
  dsimp only
  rw [lF_,aa_]
theorem lW (l:List Int) (hl:l.length<=1000000):jv l=some (XR (Hy 0 l)):=(show jv l=kD l from rfl).trans (ic l hl)
def ik (l:List Int) (k:Int):Bool:=l.all fun x=>decide (x=k)||decide (x=0)
theorem dY (l:List Int) (k:Int) (hl:l.length<=1000000):iA l k=some (ik l k):=by
 unfold iA
 rw [dx (l:=l) (mk:=fun (_:Unit) i=>i) (f:=fun _ x=>some (if x=k\/x=0 then .inl () else .inr false)) ?_ ?_ (by unfold fuel;omega) ()]
 ·have : ∀ l:List Int,dE (ρ:=Bool) (fun (_:Unit) (x:Int)=>some (if x=k\/x=0 then .inl () else .inr false)) () l=some (if ik l k=true then .inl () else .inr false):=by
   intro l
   induction l with
   | nil=>rfl
   | cons x l ih =>
    rw [dE]
    by_cases h:x=k\/x=0
    ·rw [if_pos h]
     show dE _ () l=_
     rw [ih]
     have:ik (x::l) k=ik l k:=by
      unfold ik
      rw [List.all_cons]
      rcases h with h|h<;>simp [h]
     rw [this]
    ·rw [if_neg h]
     have:ik (x::l) k=false:=by
      unfold ik
      rw [List.all_cons,aba (fun e=>h (.inl e)),aba (fun e=>h (.inr e))];rfl
     rw [this];rfl
  rw [this]
  cases ik l k<;>rfl
 ·intro s i x hx
  have hi:=(aa9.1 hx).1
  unfold wM
  dsimp only
  rw [aY hx,aa',gn_ hx,wrapN (by omega)]
  simp only [aa8]
  by_cases h:x=k
  ·rw [aba (show ¬ x≠k by omega),aa_,if_pos (.inl h)];rfl
  ·rw [abb (show x≠k from h),aa']
   by_cases h2:x=0
   ·rw [aba (show ¬ x≠0 by omega),aa_,if_pos (.inr h2)];rfl
   ·rw [abb (show x≠0 from h2),aa',if_neg (by omega)];rfl
 ·intro s
  unfold wM
  dsimp only
  rw [lF_,aa_]
theorem GK (k:Int) (hk:k≠0) : ∀ (l:List Int) (t:Int),Hy t (l++[k])=if (t=0\/t=k)/\ik l k=true then some k else none
 | [],t=>by
  show (if k=0 then some t else if t≠0/\t≠k then none else some k)=if (t=0\/t=k)/\true=true then some k else none
  rw [if_neg hk]
  by_cases h:t=0\/t=k
  ·rw [if_neg (show ¬ (t≠0/\t≠k) by omega),if_pos (show (t=0\/t=k)/\true=true from ⟨h,rfl⟩)]
  ·rw [if_pos (show t≠0/\t≠k by omega),if_neg (fun e=>h e.1)]
 | x::l,t=>by
  rw [List.cons_append,Hy]
  by_cases h:x=0
  ·rw [if_pos h,GK k hk l t]
   have:ik (x::l) k=ik l k:=by unfold ik;rw [List.all_cons,abb h,Bool.or_true,abI]
   rw [this]
  ·rw [if_neg h]
   have ha:ik (x::l) k=(decide (x=k)&&ik l k):=by unfold ik;rw [List.all_cons,aba h,Bool.or_false]
   rw [ha]
   by_cases h2:t≠0/\t≠x
   ·rw [if_pos h2,if_neg]
    rintro ⟨h3,h4⟩
    rw [abr] at h4
    have:=abD h4.1
    omega
   ·rw [if_neg h2,GK k hk l x]
    by_cases h3:x=k
    ·rw [abb h3,abI]
     by_cases h4:ik l k=true
     ·rw [if_pos ⟨.inr h3,h4⟩,if_pos ⟨by omega,h4⟩]
     ·rw [if_neg (fun e=>h4 e.2),if_neg (fun e=>h4 e.2)]
    ·rw [aba h3,Bool.false_and,if_neg (by omega),if_neg (by simp)]
theorem fM {l:List Int} {k:Int} (h0:l≠[]) (hl:l.length<=100000) (hk:k≠0):uz l k=some (ik l k):=by
 have ho:Mq l=true:=by
  unfold Mq
  rw [abb hl,Bool.and_true]
  cases l with
  | nil=>exact absurd rfl h0
  | cons a b=>rfl
 unfold uz
 rw [ho,aa',ic _ (by rw [abg];simp;omega),aa8,GK k hk]
 cases h:ik l k with
 | true=>rw [if_pos ⟨.inl rfl,rfl⟩];show some (bif true then decide (k=k) else false)=_;simp
 | false=>rw [if_neg (by simp)];rfl
theorem NB {e:Ex} {l:List Int} {kinds:List Int} (hlo:(lJ e.op).1<=((l.length:Nat):Int)) (hhi:((l.length:Nat):Int)<=(lJ e.op).2) (hl:l.length<=100000) (ho:e.op=1\/e.op=4\/e.op=5\/e.op=6\/e.op=7\/e.op=8\/e.op=9\/e.op=10\/e.op=11\/e.op=12\/e.op=13\/e.op=14\/e.op=15\/e.op=16\/e.op=17\/e.op=18\/e.op=19\/e.op=20\/e.op=21\/e.op=22\/e.op=23\/e.op=24) : ∃ r,gRs11 e l kinds=some r/\gRsP e l=some r:=by
 rcases ho with ho|ho|ho|ho|ho|ho|ho|ho|ho|ho|ho|ho|ho|ho|ho|ho|ho|ho|ho|ho|ho|ho
 ·rw [ho,ar1] at hlo hhi
  dsimp only at hlo hhi
  unfold gRs11 gRsP
  simp only [ho,Int.reduceEq,decide_false,decide_true,aa',aa_]
  exact ⟨_,rfl,rfl⟩
 ·rw [ho,ar4] at hlo hhi
  dsimp only at hlo hhi
  unfold gRs11 gRsP
  simp only [ho,Int.reduceEq,decide_false,decide_true,aa',aa_]
  rw [dY _ _ (by omega),fM (by rintro rfl;simp at hlo) hl (by decide)];exact ⟨_,rfl,rfl⟩
 ·rw [ho,ar5] at hlo hhi
  dsimp only at hlo hhi
  unfold gRs11 gRsP
  simp only [ho,Int.reduceEq,decide_false,decide_true,aa',aa_]
  rw [dY _ _ (by omega),fM (by rintro rfl;simp at hlo) hl (by decide)];exact ⟨_,rfl,rfl⟩
 ·rw [ho,ar6] at hlo hhi
  dsimp only at hlo hhi
  unfold gRs11 gRsP
  simp only [ho,Int.reduceEq,decide_false,decide_true,aa',aa_]
  rw [dY _ _ (by omega),fM (by rintro rfl;simp at hlo) hl (by decide)];exact ⟨_,rfl,rfl⟩
 ·rw [ho,ar7] at hlo hhi
  dsimp only at hlo hhi
  unfold gRs11 gRsP
  simp only [ho,Int.reduceEq,decide_false,decide_true,aa',aa_]
  rw [lW _ (by omega),ic _ (by omega)];exact ⟨_,rfl,rfl⟩
 ·rw [ho,ar8] at hlo hhi
  dsimp only at hlo hhi
  unfold gRs11 gRsP
  simp only [ho,Int.reduceEq,decide_false,decide_true,aa',aa_]
  rw [lW _ (by omega),ic _ (by omega)];exact ⟨_,rfl,rfl⟩
 ·rw [ho,ar9] at hlo hhi
  dsimp only at hlo hhi
  unfold gRs11 gRsP
  simp only [ho,Int.reduceEq,decide_false,decide_true,aa',aa_]
  rw [lW _ (by omega),ic _ (by omega)];exact ⟨_,rfl,rfl⟩
 ·rw [ho,aaW] at hlo hhi
  dsimp only at hlo hhi
  unfold gRs11 gRsP
  simp only [ho,Int.reduceEq,decide_false,decide_true,aa',aa_]
  rw [lW _ (by omega),ic _ (by omega)];exact ⟨_,rfl,rfl⟩
 ·rw [ho,aao] at hlo hhi
  dsimp only at hlo hhi
  unfold gRs11 gRsP
  simp only [ho,Int.reduceEq,decide_false,decide_true,aa',aa_]
  rw [lW _ (by omega),ic _ (by omega)];exact ⟨_,rfl,rfl⟩
 ·rw [ho,aam] at hlo hhi
  dsimp only at hlo hhi
  unfold gRs11 gRsP
  simp only [ho,Int.reduceEq,decide_false,decide_true,aa',aa_]
  rw [lW _ (by omega),ic _ (by omega)];exact ⟨_,rfl,rfl⟩
 ·rw [ho,ZC] at hlo hhi
  dsimp only at hlo hhi
  unfold gRs11 gRsP
  simp only [ho,Int.reduceEq,decide_false,decide_true,aa',aa_]
  rw [dY _ _ (by omega),fM (by rintro rfl;simp at hlo) hl (by decide)];exact ⟨_,rfl,rfl⟩
 ·rw [ho,Y4] at hlo hhi
  dsimp only at hlo hhi
  unfold gRs11 gRsP
  simp only [ho,Int.reduceEq,decide_false,decide_true,aa',aa_]
  rw [dY _ _ (by omega),fM (by rintro rfl;simp at hlo) hl (by decide)];exact ⟨_,rfl,rfl⟩
 ·rw [ho,Zk] at hlo hhi
  dsimp only at hlo hhi
  unfold gRs11 gRsP
  simp only [ho,Int.reduceEq,decide_false,decide_true,aa',aa_]
  rw [dY _ _ (by omega),fM (by rintro rfl;simp at hlo) hl (by decide)];exact ⟨_,rfl,rfl⟩
 ·rw [ho,ZF] at hlo hhi
  dsimp only at hlo hhi
  unfold gRs11 gRsP
  simp only [ho,Int.reduceEq,decide_false,decide_true,aa',aa_]
  rw [dY _ _ (by omega),fM (by rintro rfl;simp at hlo) hl (by decide)];exact ⟨_,rfl,rfl⟩
 ·rw [ho,YJ] at hlo hhi
  dsimp only at hlo hhi
  unfold gRs11 gRsP
  simp only [ho,Int.reduceEq,decide_false,decide_true,aa',aa_]
  rw [dY _ _ (by omega),fM (by rintro rfl;simp at hlo) hl (by decide)];exact ⟨_,rfl,rfl⟩
 ·rw [ho,aa0] at hlo hhi
  dsimp only at hlo hhi
  unfold gRs11 gRsP
  simp only [ho,Int.reduceEq,decide_false,decide_true,aa',aa_]
  rw [dY _ _ (by omega),fM (by rintro rfl;simp at hlo) hl (by decide)];exact ⟨_,rfl,rfl⟩
 ·rw [ho,aaG] at hlo hhi
  dsimp only at hlo hhi
  unfold gRs11 gRsP
  simp only [ho,Int.reduceEq,decide_false,decide_true,aa',aa_]
  rw [dY _ _ (by omega),fM (by rintro rfl;simp at hlo) hl (by decide)];exact ⟨_,rfl,rfl⟩
 ·rw [ho,aaT] at hlo hhi
  dsimp only at hlo hhi
  unfold gRs11 gRsP
  simp only [ho,Int.reduceEq,decide_false,decide_true,aa',aa_]
  rw [dY _ _ (by omega),fM (by rintro rfl;simp at hlo) hl (by decide)];exact ⟨_,rfl,rfl⟩
 ·rw [ho,aaJ] at hlo hhi
  dsimp only at hlo hhi
  unfold gRs11 gRsP
  simp only [ho,Int.reduceEq,decide_false,decide_true,aa',aa_]
  exact ⟨_,rfl,rfl⟩
 ·rw [ho,Xw] at hlo hhi
  dsimp only at hlo hhi
  unfold gRs11 gRsP
  simp only [ho,Int.reduceEq,decide_false,decide_true,aa',aa_]
  obtain ⟨a,b,c,rfl⟩:=Vw (l:=l) (by omega)
  rw [show jE [a,b,c] (1:Int) ((([a,b,c].length:Nat)):Int)=some [b,c] from rfl,show jE [a,b,c] (0:Int) (1:Int)=some [a] from rfl]
  simp only [aa8]
  rw [lW _ (by simp),ic _ (by simp)]
  simp only [aa8]
  rw [dY _ _ (by simp),fM (by simp) (by simp) (by decide)]
  cases (XR (Hy 0 [b,c])).2<;>exact ⟨_,rfl,rfl⟩
 ·rw [ho,aaA] at hlo hhi
  dsimp only at hlo hhi
  unfold gRs11 gRsP
  simp only [ho,Int.reduceEq,decide_false,decide_true,aa',aa_]
  rw [lW _ (by omega),ic _ (by omega)];exact ⟨_,rfl,rfl⟩
 ·rw [ho,aak] at hlo hhi
  dsimp only at hlo hhi
  unfold gRs11 gRsP
  simp only [ho,Int.reduceEq,decide_false,decide_true,aa',aa_]
  rw [dY _ _ (by omega),fM (by rintro rfl;simp at hlo) hl (by decide)];exact ⟨_,rfl,rfl⟩
theorem EL (e:Ex) (kinds:List Int) (rec:Ex->List Int->Option (Int × Int)) (hrec : ∀ x∈e.args, ∃ c,rec x kinds=some c) (hlen:e.args.length<=100000) :
  ∀ (N i:Nat) (s:List Int),s.length=i->i<=e.args.length->e.args.length-i<N -> ∃ r,ax (dA e kinds rec) N (s,(i:Int))=some r /\ ∀ t j,r = .inl (t,j)->t.length=e.args.length
 | 0,i,s,_,_,h=>by omega
 | N+1,i,s,hs,hi,hN=>by
  rw [ax]
  by_cases hlt:i<e.args.length
  ·obtain ⟨x,hx⟩:=gol_ hlt
   obtain ⟨c,hc⟩:=hrec x (abe hx)
   by_cases h0:c.2=0
   ·have hb:dA e kinds rec (s,(i:Int))=some (.next (s++[c.1],((i+1:Nat):Int))):=by
     unfold dA
     dsimp only
     rw [aY hx,aa',gn_ hx,aa8,hc,aa8,aba (show ¬ c.2≠0 by omega),aa_,abb (by omega),aa',wrapN (by omega)]
    rw [hb]
    exact EL e kinds rec hrec hlen N (i+1) (s++[c.1]) (by rw [abg,hs];rfl) (by omega) (by omega)
   ·have hb:dA e kinds rec (s,(i:Int))=some (.ret (0,c.2)):=by
     unfold dA
     dsimp only
     rw [aY hx,aa',gn_ hx,aa8,hc,aa8,abb (show c.2≠0 from h0),aa']
    rw [hb]
    exact ⟨_,rfl,fun t j h=>by cases h⟩
  ·have:i=e.args.length:=by omega
   subst this
   have hb:dA e kinds rec (s,((e.args.length:Nat):Int))=some (.exit (s,((e.args.length:Nat):Int))):=by
    unfold dA
    dsimp only
    rw [lF_,aa_]
   rw [hb]
   exact ⟨_,rfl,fun t j h=>by injection h with h;injection h with h _;rw [<- h];exact hs⟩
theorem Fg (kinds:List Int) : ∀ (n:Nat) (e:Ex),gY n e -> ∃ c,kw n e kinds=some c/\sI n e kinds=some c
 | 0,_,h=>h.elim
 | n+1,e,h=>by
  have hx : ∀ x∈e.args, ∃ c,kw n x kinds=some c/\sI n x kinds=some c:=fun x hx=>Fg kinds n x (h.2 x hx)
  have hb:pE e kinds (sI n)=dA e kinds (kw n):=by
   funext s
   obtain ⟨l,i⟩:=s
   unfold pE dA
   dsimp only
   cases hg:aL e.args i with
   | none=>rfl
   | some x =>
    obtain ⟨c,c1,c2⟩:=hx x (abe (Cq hg).2)
    simp only [aa8]
    rw [c1,c2]
  obtain ⟨a1,a2,a3,a4⟩:=wh e.op ((e.args.length:Nat):Int) (by have:=h.1;omega)
  show ∃ c,ru (kw n) e kinds=some c/\vB (sI n) e kinds=some c
  unfold ru vB
  rw [a1,a2,aa8,aa8]
  dsimp only
  by_cases h00:(lJ e.op).1<0
  ·rw [abb h00,aba (show ¬ 0<=(lJ e.op).1 by omega),aa']
   exact ⟨_,rfl,rfl⟩
  have h0:0<=(lJ e.op).1:=by omega
  rw [aba (show ¬ (lJ e.op).1<0 by omega),abb h0,Bool.not_true,aa_,aa_,Dp h.1,GU h.1,aa8,aa8]
  cases hf:uC e with
  | false=>exact ⟨_,rfl,rfl⟩
  | true =>
   rw [Bool.not_true,aa_,aa_]
   obtain ⟨hops,hlo,hhi,hrest⟩:=yF h.1 hf
   by_cases o2:e.op=2
   ·rw [abb o2,aa',aa']
    by_cases i0:e.int<0
    ·rw [abb i0];exact ⟨_,rfl,rfl⟩
    rw [aba i0,aa_,aa_]
    by_cases i1:((kinds.length:Nat):Int)<=e.int
    ·rw [abb i1];exact ⟨_,rfl,rfl⟩
    rw [aba i1,aa_,aa_]
    obtain ⟨x,hx1⟩:=gol_ (l:=kinds) (i:=e.int.toNat) (by omega)
    have hg:aL kinds e.int=some x:=by unfold aL;rw [if_pos (by omega)];exact hx1
    rw [o2,ar2] at hhi
    dsimp only at hhi
    have hz:e.args.length=0:=by omega
    have hbr:ax (mR e kinds (kw n)) fuel ([],(0:Int))=some (.inl ([],0)):=by
     have:fuel=(fuel-1)+1:=rfl
     rw [this,ax]
     unfold mR
     dsimp only
     rw [hz,show decide ((0:Int)<((0:Nat):Int))=false from rfl,aa_]
    rw [hbr,hg]
    refine ⟨(x,0),?_,rfl⟩
    show (gRs11 e [] kinds).bind _=_
    unfold gRs11
    rw [o2,show decide ((2:Int)=1)=false from rfl,show decide ((2:Int)=2)=true from rfl,aa_,aa',hg]
    rfl
   ·rw [aba o2,aa_,aa_,hb]
    obtain ⟨r,hr,hk⟩:=EL e kinds (kw n) (fun x hm=>(hx x hm).imp fun c hc=>hc.1) h.1 fuel 0 [] rfl (abv _) (by unfold fuel;have:=h.1;omega)
    rw [show ((0:Nat):Int)=0 from rfl] at hr
    rw [hr,aa8,aa8]
    cases r with
    | inr q=>exact ⟨q,rfl,rfl⟩
    | inl p =>
     obtain ⟨t,j⟩:=p
     have ht:=hk t j rfl
     obtain ⟨q,q1,q2⟩:=NB (e:=e) (l:=t) (kinds:=kinds) (by rw [ht];exact hlo) (by rw [ht];exact hhi) (by rw [ht];exact h.1) (by omega)
     unfold iU jT
     dsimp only
     rw [q1,q2,aa8]
     cases q.2<;>exact ⟨_,rfl,rfl⟩
theorem M5 {e:Ex} (kinds:List Int) (h:gY fuel e) : ∃ c,wF e kinds=some c/\IE e kinds=some c:=by
 obtain ⟨d,d1,d2,d3,d4⟩:=Et fuel e (by unfold fuel;omega) h
 obtain ⟨c,c1,c2⟩:=Fg kinds fuel e h
 unfold wF IE P6
 rw [d1,d4 25 (by omega) (by omega),c1,c2]
 simp only [aa8]
 by_cases hd:(24:Int)<d
 ·rw [abb hd,abb (show (24:Int)<min d 25 by omega)];exact ⟨_,rfl,rfl⟩
 ·rw [aba hd,aba (show ¬ (24:Int)<min d 25 by omega)];exact ⟨_,rfl,rfl⟩
set_option maxHeartbeats 8000000
abbrev bW (x:Int):Int:=IntKind.i64.wrap (Int.fdiv (IntKind.u64.wrap x) (2 ^ (min (Int.toNat (1:Int)) (IntKind.bits .u64))))
def fA {α:Type} (a_a:Int) (a_b:Int) (a_n:Int) (n:Nat):((List α) × Int)->Option (Step ((List α) × Int) (List α)):=fun s=>match s with
 | (c_1,i_2)=>bif (decide (i_2<a_n)) then bif (decide (0<=(IntKind.i64.wrap (a_b+i_2)))) then (bif (decide ((IntKind.i64.wrap (a_b+i_2))<((n:Nat):Int))) then ((aL c_1 (IntKind.i64.wrap (a_b+i_2))).bind fun x_4=>bif (decide (0<=(IntKind.i64.wrap (a_a+i_2)))) then (bif (decide ((IntKind.i64.wrap (a_a+i_2))<((n:Nat):Int))) then ((aL c_1 (IntKind.i64.wrap (a_a+i_2))).bind fun x_5=>bif (decide (0<=(IntKind.i64.wrap (a_a+i_2)))) then (bif (decide ((IntKind.i64.wrap (a_a+i_2))<((n:Nat):Int))) then (bif (decide ((0+(IntKind.i64.wrap (a_a+i_2)).toNat)<c_1.length)) then (bif (decide (0<=(IntKind.i64.wrap (a_b+i_2)))) then (bif (decide ((IntKind.i64.wrap (a_b+i_2))<((n:Nat):Int))) then (bif (decide ((0+(IntKind.i64.wrap (a_b+i_2)).toNat)<(c_1.set (0+(IntKind.i64.wrap (a_a+i_2)).toNat) x_4).length)) then (some (.next (((c_1.set (0+(IntKind.i64.wrap (a_a+i_2)).toNat) x_4).set (0+(IntKind.i64.wrap (a_b+i_2)).toNat) x_5),(IntKind.i64.wrap (i_2+(1:Int)))))) else none) else none) else none) else none) else none) else none) else none) else none) else none) else none else
 some (.exit (c_1,i_2))
def ql {α:Type} : Sum ((List α) × Int) (List α)->Option ((List α))
 | .inl (c_1,i_2)=>some c_1
 | .inr q=>some q
def jG {α:Type} (n:Nat) (a_data:(List α)) (a_a:Int) (a_b:Int) (a_n:Int) (a_cmp:α->α->Option (Int)):Option (List α):=(ax (fA a_a a_b a_n n) fuel (a_data,(0:Int))).bind (ql)
def gK {α:Type} (a_m:Int) (a_cmp:α->α->Option (Int)) (n:Nat):((List α) × Int × Int)->Option (Step ((List α) × Int × Int) (List α)):=fun s=>match s with
 | (c_1,i_2,j_3)=>bif (decide (i_2≠j_3)) then bif (decide (j_3<i_2)) then (jG n c_1 (IntKind.i64.wrap (a_m-i_2)) a_m j_3 a_cmp).bind fun c_6=>some (.next (c_6,(IntKind.i64.wrap (i_2-j_3)),j_3)) else
 (jG n c_1 (IntKind.i64.wrap (a_m-i_2)) (IntKind.i64.wrap ((IntKind.i64.wrap (a_m+j_3))-i_2)) i_2 a_cmp).bind fun c_7=>some (.next (c_7,i_2,(IntKind.i64.wrap (j_3-i_2)))) else
 some (.exit (c_1,i_2,j_3))
def su {α:Type} (a_m:Int) (a_cmp:α->α->Option (Int)) (n:Nat):Sum ((List α) × Int × Int) (List α)->Option ((List α))
 | .inl (c_1,i_2,j_3)=>(jG n c_1 (IntKind.i64.wrap (a_m-i_2)) a_m i_2 a_cmp).bind fun c_8=>some c_8
 | .inr q=>some q
def pY {α:Type} (n:Nat) (a_data:(List α)) (a_a:Int) (a_m:Int) (a_b:Int) (a_cmp:α->α->Option (Int)):Option (List α):=(ax (gK a_m a_cmp n) fuel (a_data,(IntKind.i64.wrap (a_m-a_a)),(IntKind.i64.wrap (a_b-a_m)))).bind (su a_m a_cmp n)
def eP {α:Type} (a_a:Int) (a_cmp:α->α->Option (Int)) (n:Nat):((List α) × Int)->Option (Step ((List α) × Int) (List α)):=fun s=>match s with
 | (c_4,j_5)=>bif (decide (a_a<j_5)) then bif (decide (0<=j_5)) then (bif (decide (j_5<((n:Nat):Int))) then ((aL c_4 j_5).bind fun x_7=>bif (decide (0<=(IntKind.i64.wrap (j_5-(1:Int))))) then (bif (decide ((IntKind.i64.wrap (j_5-(1:Int)))<((n:Nat):Int))) then ((aL c_4 (IntKind.i64.wrap (j_5-(1:Int)))).bind fun x_8=>(a_cmp x_7 x_8).bind fun r_9=>bif (decide (r_9<(0:Int))) then bif (decide (0<=(IntKind.i64.wrap (j_5-(1:Int))))) then (bif (decide ((IntKind.i64.wrap (j_5-(1:Int)))<((n:Nat):Int))) then (bif (decide (0<=j_5)) then (bif (decide (j_5<((n:Nat):Int))) then (bif (decide (0<=j_5)) then (bif (decide (j_5<((n:Nat):Int))) then (bif (decide ((0+j_5.toNat)<c_4.length)) then (bif (decide (0<=(IntKind.i64.wrap (j_5-(1:Int))))) then (bif (decide ((IntKind.i64.wrap (j_5-(1:Int)))<((n:Nat):Int))) then (bif (decide ((0+(IntKind.i64.wrap (j_5-(1:Int))).toNat)<(c_4.set (0+j_5.toNat) x_8).length)) then (some (.next (((c_4.set (0+j_5.toNat) x_8).set (0+(IntKind.i64.wrap (j_5-(1:Int))).toNat) x_7),(IntKind.i64.wrap (j_5-(1:Int)))))) else none) else none) else none) else none) else none) else none) else none) else none) else none) else none else
 some (.exit (c_4,j_5))) else none) else none) else none) else none else
 some (.exit (c_4,j_5))
def jV {α:Type} (i_2:Int):Sum ((List α) × Int) (List α)->Option (Step ((List α) × Int) (List α))
 | .inl (c_4,j_5)=>some (.next (c_4,(IntKind.i64.wrap (i_2+(1:Int)))))
 | .inr q=>some (.ret q)
def eZ {α:Type} (a_a:Int) (a_b:Int) (a_cmp:α->α->Option (Int)) (n:Nat):((List α) × Int)->Option (Step ((List α) × Int) (List α)):=fun s=>match s with
 | (c_1,i_2)=>bif (decide (i_2<a_b)) then (ax (eP a_a a_cmp n) fuel (c_1,i_2)).bind (jV i_2) else
 some (.exit (c_1,i_2))
def vN {α:Type} : Sum ((List α) × Int) (List α)->Option ((List α))
 | .inl (c_1,i_2)=>some c_1
 | .inr q=>some q
def qK {α:Type} (n:Nat) (a_data:(List α)) (a_a:Int) (a_b:Int) (a_cmp:α->α->Option (Int)):Option (List α):=(ax (eZ a_a a_b a_cmp n) fuel (a_data,(IntKind.i64.wrap (a_a+(1:Int))))).bind (vN)
def oW {α:Type} (n:Nat) (i_2:Int):((List α) × Int)->Option (Step ((List α) × Int) (List α)):=fun s=>match s with
 | (c_9,k_10)=>bif (decide (k_10<(IntKind.i64.wrap (i_2-(1:Int))))) then bif (decide (0<=(IntKind.i64.wrap (k_10+(1:Int))))) then (bif (decide ((IntKind.i64.wrap (k_10+(1:Int)))<((n:Nat):Int))) then ((aL c_9 (IntKind.i64.wrap (k_10+(1:Int)))).bind fun x_12=>bif (decide (0<=k_10)) then (bif (decide (k_10<((n:Nat):Int))) then ((aL c_9 k_10).bind fun x_13=>bif (decide (0<=k_10)) then (bif (decide (k_10<((n:Nat):Int))) then (bif (decide ((0+k_10.toNat)<c_9.length)) then (bif (decide (0<=(IntKind.i64.wrap (k_10+(1:Int))))) then (bif (decide ((IntKind.i64.wrap (k_10+(1:Int)))<((n:Nat):Int))) then (bif (decide ((0+(IntKind.i64.wrap (k_10+(1:Int))).toNat)<(c_9.set (0+k_10.toNat) x_12).length)) then (some (.next (((c_9.set (0+k_10.toNat) x_12).set (0+(IntKind.i64.wrap (k_10+(1:Int))).toNat) x_13),(IntKind.i64.wrap (k_10+(1:Int)))))) else none) else none) else none) else none) else none) else none) else none) else none) else none) else none else
 some (.exit (c_9,k_10))
def E9 {α:Type} : Sum ((List α) × Int) (List α)->Option ((List α))
 | .inl (c_9,k_10)=>some c_9
 | .inr q=>some q
def rU {α:Type} (a_data:List α) (a_a:Int) (a_cmp:α->α->Option (Int)) (n:Nat):(Int × Int)->Option (Step (Int × Int) (List α)):=fun s=>match s with
 | (i_2,j_3)=>bif (decide (i_2<j_3)) then bif (decide (0<=(bW (IntKind.i64.wrap (i_2+j_3))))) then (bif (decide ((bW (IntKind.i64.wrap (i_2+j_3)))<((n:Nat):Int))) then ((aL a_data (bW (IntKind.i64.wrap (i_2+j_3)))).bind fun x_5=>bif (decide (0<=a_a)) then (bif (decide (a_a<((n:Nat):Int))) then ((aL a_data a_a).bind fun x_6=>(a_cmp x_5 x_6).bind fun r_7=>bif (decide (r_7<(0:Int))) then some (.next ((IntKind.i64.wrap ((bW (IntKind.i64.wrap (i_2+j_3)))+(1:Int))),j_3)) else
 some (.next (i_2,(bW (IntKind.i64.wrap (i_2+j_3)))))) else none) else none) else none) else none else
 some (.exit (i_2,j_3))
def uY {α:Type} (a_data:List α) (a_a:Int) (n:Nat):Sum (Int × Int) (List α)->Option ((List α))
 | .inl (i_2,j_3)=>(ax (oW n i_2) fuel (a_data,a_a)).bind (E9)
 | .inr q=>some q
def o6 {α:Type} (n:Nat) (i_15:Int):((List α) × Int)->Option (Step ((List α) × Int) (List α)):=fun s=>match s with
 | (c_22,k_23)=>bif (decide (i_15<k_23)) then bif (decide (0<=(IntKind.i64.wrap (k_23-(1:Int))))) then (bif (decide ((IntKind.i64.wrap (k_23-(1:Int)))<((n:Nat):Int))) then ((aL c_22 (IntKind.i64.wrap (k_23-(1:Int)))).bind fun x_25=>bif (decide (0<=k_23)) then (bif (decide (k_23<((n:Nat):Int))) then ((aL c_22 k_23).bind fun x_26=>bif (decide (0<=k_23)) then (bif (decide (k_23<((n:Nat):Int))) then (bif (decide ((0+k_23.toNat)<c_22.length)) then (bif (decide (0<=(IntKind.i64.wrap (k_23-(1:Int))))) then (bif (decide ((IntKind.i64.wrap (k_23-(1:Int)))<((n:Nat):Int))) then (bif (decide ((0+(IntKind.i64.wrap (k_23-(1:Int))).toNat)<(c_22.set (0+k_23.toNat) x_25).length)) then (some (.next (((c_22.set (0+k_23.toNat) x_25).set (0+(IntKind.i64.wrap (k_23-(1:Int))).toNat) x_26),(IntKind.i64.wrap (k_23-(1:Int)))))) else none) else none) else none) else none) else none) else none) else none) else none) else none) else none else
 some (.exit (c_22,k_23))
def Fw {α:Type} : Sum ((List α) × Int) (List α)->Option ((List α))
 | .inl (c_22,k_23)=>some c_22
 | .inr q=>some q
def rQ {α:Type} (a_data:List α) (a_m:Int) (a_cmp:α->α->Option (Int)) (n:Nat):(Int × Int)->Option (Step (Int × Int) (List α)):=fun s=>match s with
 | (i_15,j_16)=>bif (decide (i_15<j_16)) then bif (decide (0<=a_m)) then (bif (decide (a_m<((n:Nat):Int))) then ((aL a_data a_m).bind fun x_18=>bif (decide (0<=(bW (IntKind.i64.wrap (i_15+j_16))))) then (bif (decide ((bW (IntKind.i64.wrap (i_15+j_16)))<((n:Nat):Int))) then ((aL a_data (bW (IntKind.i64.wrap (i_15+j_16)))).bind fun x_19=>(a_cmp x_18 x_19).bind fun r_20=>bif (!(decide (r_20<(0:Int)))) then some (.next ((IntKind.i64.wrap ((bW (IntKind.i64.wrap (i_15+j_16)))+(1:Int))),j_16)) else
 some (.next (i_15,(bW (IntKind.i64.wrap (i_15+j_16)))))) else none) else none) else none) else none else
 some (.exit (i_15,j_16))
def vJ {α:Type} (a_data:List α) (a_m:Int) (n:Nat):Sum (Int × Int) (List α)->Option ((List α))
 | .inl (i_15,j_16)=>(ax (o6 n i_15) fuel (a_data,a_m)).bind (Fw)
 | .inr q=>some q
def mi {α:Type} (a_data:List α) (a_a:Int) (a_m:Int) (a_b:Int) (a_cmp:α->α->Option (Int)) (n:Nat):(Int × Int)->Option (Step (Int × Int) (List α)):=fun s=>match s with
 | (start_28,r_29)=>bif (decide (start_28<r_29)) then bif (decide (0<=(IntKind.i64.wrap ((IntKind.i64.wrap ((IntKind.i64.wrap ((bW (IntKind.i64.wrap (a_a+a_b)))+a_m))-(1:Int)))-(bW (IntKind.i64.wrap (start_28+r_29))))))) then (bif (decide ((IntKind.i64.wrap ((IntKind.i64.wrap ((IntKind.i64.wrap ((bW (IntKind.i64.wrap (a_a+a_b)))+a_m))-(1:Int)))-(bW (IntKind.i64.wrap (start_28+r_29)))))<((n:Nat):Int))) then ((aL a_data (IntKind.i64.wrap ((IntKind.i64.wrap ((IntKind.i64.wrap ((bW (IntKind.i64.wrap (a_a+a_b)))+a_m))-(1:Int)))-(bW (IntKind.i64.wrap (start_28+r_29)))))).bind fun x_31=>bif (decide (0<=(bW (IntKind.i64.wrap (start_28+r_29))))) then (bif (decide ((bW (IntKind.i64.wrap (start_28+r_29)))<((n:Nat):Int))) then ((aL a_data (bW (IntKind.i64.wrap (start_28+r_29)))).bind fun x_32=>(a_cmp x_31 x_32).bind fun r_33=>bif (!(decide (r_33<(0:Int)))) then some (.next ((IntKind.i64.wrap ((bW (IntKind.i64.wrap (start_28+r_29)))+(1:Int))),r_29)) else
 some (.next (start_28,(bW (IntKind.i64.wrap (start_28+r_29)))))) else none) else none) else none) else none else
 some (.exit (start_28,r_29))
def lX {α:Type} (a_data:List α) (a_a:Int) (a_m:Int) (a_b:Int) (a_cmp:α->α->Option (Int)) (n:Nat) (rec:Nat->List α->Int->Int->Int->(α->α->Option Int)->Option (List α)):Sum (Int × Int) (List α)->Option ((List α))
 | .inl (start_28,r_29)=>bif (decide (start_28<a_m)) then bif (decide (a_m<(IntKind.i64.wrap ((IntKind.i64.wrap ((bW (IntKind.i64.wrap (a_a+a_b)))+a_m))-start_28)))) then (pY n a_data start_28 a_m (IntKind.i64.wrap ((IntKind.i64.wrap ((bW (IntKind.i64.wrap (a_a+a_b)))+a_m))-start_28)) a_cmp).bind fun c_37=>bif (decide (a_a<start_28)) then bif (decide (start_28<(bW (IntKind.i64.wrap (a_a+a_b))))) then (rec n c_37 a_a start_28 (bW (IntKind.i64.wrap (a_a+a_b))) a_cmp).bind fun c_40=>bif (decide ((bW (IntKind.i64.wrap (a_a+a_b)))<(IntKind.i64.wrap ((IntKind.i64.wrap ((bW (IntKind.i64.wrap (a_a+a_b)))+a_m))-start_28)))) then bif (decide ((IntKind.i64.wrap ((IntKind.i64.wrap ((bW (IntKind.i64.wrap (a_a+a_b)))+a_m))-start_28))<a_b)) then (rec n c_40 (bW (IntKind.i64.wrap (a_a+a_b))) (IntKind.i64.wrap ((IntKind.i64.wrap ((bW (IntKind.i64.wrap (a_a+a_b)))+a_m))-start_28)) a_b a_cmp).bind fun c_43=>some c_43 else
 some c_40 else
 some c_40 else
 bif (decide ((bW (IntKind.i64.wrap (a_a+a_b)))<(IntKind.i64.wrap ((IntKind.i64.wrap ((bW (IntKind.i64.wrap (a_a+a_b)))+a_m))-start_28)))) then bif (decide ((IntKind.i64.wrap ((IntKind.i64.wrap ((bW (IntKind.i64.wrap (a_a+a_b)))+a_m))-start_28))<a_b)) then (rec n c_37 (bW (IntKind.i64.wrap (a_a+a_b))) (IntKind.i64.wrap ((IntKind.i64.wrap ((bW (IntKind.i64.wrap (a_a+a_b)))+a_m))-start_28)) a_b a_cmp).bind fun c_46=>some c_46 else
 some c_37 else
 some c_37 else
 bif (decide ((bW (IntKind.i64.wrap (a_a+a_b)))<(IntKind.i64.wrap ((IntKind.i64.wrap ((bW (IntKind.i64.wrap (a_a+a_b)))+a_m))-start_28)))) then bif (decide ((IntKind.i64.wrap ((IntKind.i64.wrap ((bW (IntKind.i64.wrap (a_a+a_b)))+a_m))-start_28))<a_b)) then (rec n c_37 (bW (IntKind.i64.wrap (a_a+a_b))) (IntKind.i64.wrap ((IntKind.i64.wrap ((bW (IntKind.i64.wrap (a_a+a_b)))+a_m))-start_28)) a_b a_cmp).bind fun c_49=>some c_49 else
 some c_37 else
 some c_37 else
 bif (decide (a_a<start_28)) then bif (decide (start_28<(bW (IntKind.i64.wrap (a_a+a_b))))) then (rec n a_data a_a start_28 (bW (IntKind.i64.wrap (a_a+a_b))) a_cmp).bind fun c_52=>bif (decide ((bW (IntKind.i64.wrap (a_a+a_b)))<(IntKind.i64.wrap ((IntKind.i64.wrap ((bW (IntKind.i64.wrap (a_a+a_b)))+a_m))-start_28)))) then bif (decide ((IntKind.i64.wrap ((IntKind.i64.wrap ((bW (IntKind.i64.wrap (a_a+a_b)))+a_m))-start_28))<a_b)) then (rec n c_52 (bW (IntKind.i64.wrap (a_a+a_b))) (IntKind.i64.wrap ((IntKind.i64.wrap ((bW (IntKind.i64.wrap (a_a+a_b)))+a_m))-start_28)) a_b a_cmp).bind fun c_55=>some c_55 else
 some c_52 else
 some c_52 else
 bif (decide ((bW (IntKind.i64.wrap (a_a+a_b)))<(IntKind.i64.wrap ((IntKind.i64.wrap ((bW (IntKind.i64.wrap (a_a+a_b)))+a_m))-start_28)))) then bif (decide ((IntKind.i64.wrap ((IntKind.i64.wrap ((bW (IntKind.i64.wrap (a_a+a_b)))+a_m))-start_28))<a_b)) then (rec n a_data (bW (IntKind.i64.wrap (a_a+a_b))) (IntKind.i64.wrap ((IntKind.i64.wrap ((bW (IntKind.i64.wrap (a_a+a_b)))+a_m))-start_28)) a_b a_cmp).bind fun c_58=>some c_58 else
 some a_data else
 some a_data else
 bif (decide ((bW (IntKind.i64.wrap (a_a+a_b)))<(IntKind.i64.wrap ((IntKind.i64.wrap ((bW (IntKind.i64.wrap (a_a+a_b)))+a_m))-start_28)))) then bif (decide ((IntKind.i64.wrap ((IntKind.i64.wrap ((bW (IntKind.i64.wrap (a_a+a_b)))+a_m))-start_28))<a_b)) then (rec n a_data (bW (IntKind.i64.wrap (a_a+a_b))) (IntKind.i64.wrap ((IntKind.i64.wrap ((bW (IntKind.i64.wrap (a_a+a_b)))+a_m))-start_28)) a_b a_cmp).bind fun c_61=>some c_61 else
 some a_data else
 some a_data else
 bif (decide (a_a<start_28)) then bif (decide (start_28<(bW (IntKind.i64.wrap (a_a+a_b))))) then (rec n a_data a_a start_28 (bW (IntKind.i64.wrap (a_a+a_b))) a_cmp).bind fun c_64=>bif (decide ((bW (IntKind.i64.wrap (a_a+a_b)))<(IntKind.i64.wrap ((IntKind.i64.wrap ((bW (IntKind.i64.wrap (a_a+a_b)))+a_m))-start_28)))) then bif (decide ((IntKind.i64.wrap ((IntKind.i64.wrap ((bW (IntKind.i64.wrap (a_a+a_b)))+a_m))-start_28))<a_b)) then (rec n c_64 (bW (IntKind.i64.wrap (a_a+a_b))) (IntKind.i64.wrap ((IntKind.i64.wrap ((bW (IntKind.i64.wrap (a_a+a_b)))+a_m))-start_28)) a_b a_cmp).bind fun c_67=>some c_67 else
 some c_64 else
 some c_64 else
 bif (decide ((bW (IntKind.i64.wrap (a_a+a_b)))<(IntKind.i64.wrap ((IntKind.i64.wrap ((bW (IntKind.i64.wrap (a_a+a_b)))+a_m))-start_28)))) then bif (decide ((IntKind.i64.wrap ((IntKind.i64.wrap ((bW (IntKind.i64.wrap (a_a+a_b)))+a_m))-start_28))<a_b)) then (rec n a_data (bW (IntKind.i64.wrap (a_a+a_b))) (IntKind.i64.wrap ((IntKind.i64.wrap ((bW (IntKind.i64.wrap (a_a+a_b)))+a_m))-start_28)) a_b a_cmp).bind fun c_70=>some c_70 else
 some a_data else
 some a_data else
 bif (decide ((bW (IntKind.i64.wrap (a_a+a_b)))<(IntKind.i64.wrap ((IntKind.i64.wrap ((bW (IntKind.i64.wrap (a_a+a_b)))+a_m))-start_28)))) then bif (decide ((IntKind.i64.wrap ((IntKind.i64.wrap ((bW (IntKind.i64.wrap (a_a+a_b)))+a_m))-start_28))<a_b)) then (rec n a_data (bW (IntKind.i64.wrap (a_a+a_b))) (IntKind.i64.wrap ((IntKind.i64.wrap ((bW (IntKind.i64.wrap (a_a+a_b)))+a_m))-start_28)) a_b a_cmp).bind fun c_73=>some c_73 else
 some a_data else
 some a_data
 | .inr q=>some q
def zG {α:Type} (a_data:List α) (a_a:Int) (a_m:Int) (a_b:Int) (a_cmp:α->α->Option (Int)) (n:Nat):(Int × Int)->Option (Step (Int × Int) (List α)):=fun s=>match s with
 | (start_74,r_75)=>bif (decide (start_74<r_75)) then bif (decide (0<=(IntKind.i64.wrap ((IntKind.i64.wrap ((IntKind.i64.wrap ((bW (IntKind.i64.wrap (a_a+a_b)))+a_m))-(1:Int)))-(bW (IntKind.i64.wrap (start_74+r_75))))))) then (bif (decide ((IntKind.i64.wrap ((IntKind.i64.wrap ((IntKind.i64.wrap ((bW (IntKind.i64.wrap (a_a+a_b)))+a_m))-(1:Int)))-(bW (IntKind.i64.wrap (start_74+r_75)))))<((n:Nat):Int))) then ((aL a_data (IntKind.i64.wrap ((IntKind.i64.wrap ((IntKind.i64.wrap ((bW (IntKind.i64.wrap (a_a+a_b)))+a_m))-(1:Int)))-(bW (IntKind.i64.wrap (start_74+r_75)))))).bind fun x_77=>bif (decide (0<=(bW (IntKind.i64.wrap (start_74+r_75))))) then (bif (decide ((bW (IntKind.i64.wrap (start_74+r_75)))<((n:Nat):Int))) then ((aL a_data (bW (IntKind.i64.wrap (start_74+r_75)))).bind fun x_78=>(a_cmp x_77 x_78).bind fun r_79=>bif (!(decide (r_79<(0:Int)))) then some (.next ((IntKind.i64.wrap ((bW (IntKind.i64.wrap (start_74+r_75)))+(1:Int))),r_75)) else
 some (.next (start_74,(bW (IntKind.i64.wrap (start_74+r_75)))))) else none) else none) else none) else none else
 some (.exit (start_74,r_75))
def uZ {α:Type} (a_data:List α) (a_a:Int) (a_m:Int) (a_b:Int) (a_cmp:α->α->Option (Int)) (n:Nat) (rec:Nat->List α->Int->Int->Int->(α->α->Option Int)->Option (List α)):Sum (Int × Int) (List α)->Option ((List α))
 | .inl (start_74,r_75)=>bif (decide (start_74<a_m)) then bif (decide (a_m<(IntKind.i64.wrap ((IntKind.i64.wrap ((bW (IntKind.i64.wrap (a_a+a_b)))+a_m))-start_74)))) then (pY n a_data start_74 a_m (IntKind.i64.wrap ((IntKind.i64.wrap ((bW (IntKind.i64.wrap (a_a+a_b)))+a_m))-start_74)) a_cmp).bind fun c_83=>bif (decide (a_a<start_74)) then bif (decide (start_74<(bW (IntKind.i64.wrap (a_a+a_b))))) then (rec n c_83 a_a start_74 (bW (IntKind.i64.wrap (a_a+a_b))) a_cmp).bind fun c_86=>bif (decide ((bW (IntKind.i64.wrap (a_a+a_b)))<(IntKind.i64.wrap ((IntKind.i64.wrap ((bW (IntKind.i64.wrap (a_a+a_b)))+a_m))-start_74)))) then bif (decide ((IntKind.i64.wrap ((IntKind.i64.wrap ((bW (IntKind.i64.wrap (a_a+a_b)))+a_m))-start_74))<a_b)) then (rec n c_86 (bW (IntKind.i64.wrap (a_a+a_b))) (IntKind.i64.wrap ((IntKind.i64.wrap ((bW (IntKind.i64.wrap (a_a+a_b)))+a_m))-start_74)) a_b a_cmp).bind fun c_89=>some c_89 else
 some c_86 else
 some c_86 else
 bif (decide ((bW (IntKind.i64.wrap (a_a+a_b)))<(IntKind.i64.wrap ((IntKind.i64.wrap ((bW (IntKind.i64.wrap (a_a+a_b)))+a_m))-start_74)))) then bif (decide ((IntKind.i64.wrap ((IntKind.i64.wrap ((bW (IntKind.i64.wrap (a_a+a_b)))+a_m))-start_74))<a_b)) then (rec n c_83 (bW (IntKind.i64.wrap (a_a+a_b))) (IntKind.i64.wrap ((IntKind.i64.wrap ((bW (IntKind.i64.wrap (a_a+a_b)))+a_m))-start_74)) a_b a_cmp).bind fun c_92=>some c_92 else
 some c_83 else
 some c_83 else
 bif (decide ((bW (IntKind.i64.wrap (a_a+a_b)))<(IntKind.i64.wrap ((IntKind.i64.wrap ((bW (IntKind.i64.wrap (a_a+a_b)))+a_m))-start_74)))) then bif (decide ((IntKind.i64.wrap ((IntKind.i64.wrap ((bW (IntKind.i64.wrap (a_a+a_b)))+a_m))-start_74))<a_b)) then (rec n c_83 (bW (IntKind.i64.wrap (a_a+a_b))) (IntKind.i64.wrap ((IntKind.i64.wrap ((bW (IntKind.i64.wrap (a_a+a_b)))+a_m))-start_74)) a_b a_cmp).bind fun c_95=>some c_95 else
 some c_83 else
 some c_83 else
 bif (decide (a_a<start_74)) then bif (decide (start_74<(bW (IntKind.i64.wrap (a_a+a_b))))) then (rec n a_data a_a start_74 (bW (IntKind.i64.wrap (a_a+a_b))) a_cmp).bind fun c_98=>bif (decide ((bW (IntKind.i64.wrap (a_a+a_b)))<(IntKind.i64.wrap ((IntKind.i64.wrap ((bW (IntKind.i64.wrap (a_a+a_b)))+a_m))-start_74)))) then bif (decide ((IntKind.i64.wrap ((IntKind.i64.wrap ((bW (IntKind.i64.wrap (a_a+a_b)))+a_m))-start_74))<a_b)) then (rec n c_98 (bW (IntKind.i64.wrap (a_a+a_b))) (IntKind.i64.wrap ((IntKind.i64.wrap ((bW (IntKind.i64.wrap (a_a+a_b)))+a_m))-start_74)) a_b a_cmp).bind fun c_101=>some c_101 else
 some c_98 else
 some c_98 else
 bif (decide ((bW (IntKind.i64.wrap (a_a+a_b)))<(IntKind.i64.wrap ((IntKind.i64.wrap ((bW (IntKind.i64.wrap (a_a+a_b)))+a_m))-start_74)))) then bif (decide ((IntKind.i64.wrap ((IntKind.i64.wrap ((bW (IntKind.i64.wrap (a_a+a_b)))+a_m))-start_74))<a_b)) then (rec n a_data (bW (IntKind.i64.wrap (a_a+a_b))) (IntKind.i64.wrap ((IntKind.i64.wrap ((bW (IntKind.i64.wrap (a_a+a_b)))+a_m))-start_74)) a_b a_cmp).bind fun c_104=>some c_104 else
 some a_data else
 some a_data else
 bif (decide ((bW (IntKind.i64.wrap (a_a+a_b)))<(IntKind.i64.wrap ((IntKind.i64.wrap ((bW (IntKind.i64.wrap (a_a+a_b)))+a_m))-start_74)))) then bif (decide ((IntKind.i64.wrap ((IntKind.i64.wrap ((bW (IntKind.i64.wrap (a_a+a_b)))+a_m))-start_74))<a_b)) then (rec n a_data (bW (IntKind.i64.wrap (a_a+a_b))) (IntKind.i64.wrap ((IntKind.i64.wrap ((bW (IntKind.i64.wrap (a_a+a_b)))+a_m))-start_74)) a_b a_cmp).bind fun c_107=>some c_107 else
 some a_data else
 some a_data else
 bif (decide (a_a<start_74)) then bif (decide (start_74<(bW (IntKind.i64.wrap (a_a+a_b))))) then (rec n a_data a_a start_74 (bW (IntKind.i64.wrap (a_a+a_b))) a_cmp).bind fun c_110=>bif (decide ((bW (IntKind.i64.wrap (a_a+a_b)))<(IntKind.i64.wrap ((IntKind.i64.wrap ((bW (IntKind.i64.wrap (a_a+a_b)))+a_m))-start_74)))) then bif (decide ((IntKind.i64.wrap ((IntKind.i64.wrap ((bW (IntKind.i64.wrap (a_a+a_b)))+a_m))-start_74))<a_b)) then (rec n c_110 (bW (IntKind.i64.wrap (a_a+a_b))) (IntKind.i64.wrap ((IntKind.i64.wrap ((bW (IntKind.i64.wrap (a_a+a_b)))+a_m))-start_74)) a_b a_cmp).bind fun c_113=>some c_113 else
 some c_110 else
 some c_110 else
 bif (decide ((bW (IntKind.i64.wrap (a_a+a_b)))<(IntKind.i64.wrap ((IntKind.i64.wrap ((bW (IntKind.i64.wrap (a_a+a_b)))+a_m))-start_74)))) then bif (decide ((IntKind.i64.wrap ((IntKind.i64.wrap ((bW (IntKind.i64.wrap (a_a+a_b)))+a_m))-start_74))<a_b)) then (rec n a_data (bW (IntKind.i64.wrap (a_a+a_b))) (IntKind.i64.wrap ((IntKind.i64.wrap ((bW (IntKind.i64.wrap (a_a+a_b)))+a_m))-start_74)) a_b a_cmp).bind fun c_116=>some c_116 else
 some a_data else
 some a_data else
 bif (decide ((bW (IntKind.i64.wrap (a_a+a_b)))<(IntKind.i64.wrap ((IntKind.i64.wrap ((bW (IntKind.i64.wrap (a_a+a_b)))+a_m))-start_74)))) then bif (decide ((IntKind.i64.wrap ((IntKind.i64.wrap ((bW (IntKind.i64.wrap (a_a+a_b)))+a_m))-start_74))<a_b)) then (rec n a_data (bW (IntKind.i64.wrap (a_a+a_b))) (IntKind.i64.wrap ((IntKind.i64.wrap ((bW (IntKind.i64.wrap (a_a+a_b)))+a_m))-start_74)) a_b a_cmp).bind fun c_119=>some c_119 else
 some a_data else
 some a_data
 | .inr q=>some q
def ut {α:Type} (rec:Nat->List α->Int->Int->Int->(α->α->Option Int)->Option (List α)) (n:Nat) (a_data:(List α)) (a_a:Int) (a_m:Int) (a_b:Int) (a_cmp:α->α->Option (Int)):Option (List α):=bif (decide ((IntKind.i64.wrap (a_m-a_a))=(1:Int))) then (ax (rU a_data a_a a_cmp n) fuel (a_m,a_b)).bind (uY a_data a_a n) else
 bif (decide ((IntKind.i64.wrap (a_b-a_m))=(1:Int))) then (ax (rQ a_data a_m a_cmp n) fuel (a_a,a_m)).bind (vJ a_data a_m n) else
 bif (decide ((bW (IntKind.i64.wrap (a_a+a_b)))<a_m)) then (ax (mi a_data a_a a_m a_b a_cmp n) fuel ((IntKind.i64.wrap ((IntKind.i64.wrap ((bW (IntKind.i64.wrap (a_a+a_b)))+a_m))-a_b)),(bW (IntKind.i64.wrap (a_a+a_b))))).bind (lX a_data a_a a_m a_b a_cmp n rec) else
 (ax (zG a_data a_a a_m a_b a_cmp n) fuel (a_a,a_m)).bind (uZ a_data a_a a_m a_b a_cmp n rec)
def Hg {α:Type} : Nat->Nat->List α->Int->Int->Int->(α->α->Option Int)->Option (List α)
 | 0,_,_,_,_,_,_=>none
 | q+1,n,X,a,m,b,cmp=>ut (Hg q) n X a m b cmp
def jC {α:Type} (a_n:Int) (a_cmp:α->α->Option (Int)) (n:Nat) (blockSize_8:Int):((List α) × Int × Int)->Option (Step ((List α) × Int × Int) (List α)):=fun s=>match s with
 | (c_10,a_11,b_12)=>bif (decide (b_12<=a_n)) then (Hg fuel n c_10 a_11 (IntKind.i64.wrap (a_11+blockSize_8)) b_12 a_cmp).bind fun c_14=>some (.next (c_14,b_12,(IntKind.i64.wrap (b_12+(IntKind.i64.wrap ((2:Int)*blockSize_8)))))) else
 some (.exit (c_10,a_11,b_12))
def tu {α:Type} (a_n:Int) (a_cmp:α->α->Option (Int)) (n:Nat) (blockSize_8:Int):Sum ((List α) × Int × Int) (List α)->Option (Step ((List α) × Int) (List α))
 | .inl (c_10,a_11,b_12)=>bif (decide ((IntKind.i64.wrap (a_11+blockSize_8))<a_n)) then (Hg fuel n c_10 a_11 (IntKind.i64.wrap (a_11+blockSize_8)) a_n a_cmp).bind fun c_16=>some (.next (c_16,(IntKind.i64.wrap (blockSize_8*(2:Int))))) else
 some (.next (c_10,(IntKind.i64.wrap (blockSize_8*(2:Int)))))
 | .inr q=>some (.ret q)
def jA {α:Type} (a_n:Int) (a_cmp:α->α->Option (Int)) (n:Nat):((List α) × Int)->Option (Step ((List α) × Int) (List α)):=fun s=>match s with
 | (c_7,blockSize_8)=>bif (decide (blockSize_8<a_n)) then (ax (jC a_n a_cmp n blockSize_8) fuel (c_7,(0:Int),(IntKind.i64.wrap ((2:Int)*blockSize_8)))).bind (tu a_n a_cmp n blockSize_8) else
 some (.exit (c_7,blockSize_8))
def yV {α:Type} : Sum ((List α) × Int) (List α)->Option ((List α))
 | .inl (c_7,blockSize_8)=>some c_7
 | .inr q=>some q
def jB {α:Type} (a_n:Int) (a_cmp:α->α->Option (Int)) (n:Nat):((List α) × Int × Int)->Option (Step ((List α) × Int × Int) (List α)):=fun s=>match s with
 | (c_1,a_2,b_3)=>bif (decide (b_3<=a_n)) then (qK n c_1 a_2 b_3 a_cmp).bind fun c_5=>some (.next (c_5,b_3,(IntKind.i64.wrap (b_3+(20:Int))))) else
 some (.exit (c_1,a_2,b_3))
def sS {α:Type} (a_n:Int) (a_cmp:α->α->Option (Int)) (n:Nat):Sum ((List α) × Int × Int) (List α)->Option ((List α))
 | .inl (c_1,a_2,b_3)=>(qK n c_1 a_2 a_n a_cmp).bind fun c_6=>(ax (jA a_n a_cmp n) fuel (c_6,(20:Int))).bind (yV)
 | .inr q=>some q
def zC {α:Type} (n:Nat) (a_data:(List α)) (a_n:Int) (a_cmp:α->α->Option (Int)):Option (List α):=(ax (jB a_n a_cmp n) fuel (a_data,(0:Int),(20:Int))).bind (sS a_n a_cmp n)
def zU {α:Type} (n:Nat) (a_x:(List α)) (a_cmp:α->α->Option (Int)):Option (List α):=(zC n a_x ((n:Nat):Int) a_cmp).bind fun c_1=>some c_1
section
variable {α:Type} {lt:α->α->Bool} {S:α->Prop}
structure Ay (lt:α->α->Bool) (S:α->Prop):Prop where
 irr : ∀ x,S x->lt x x=false
 tr : ∀ x y z,S x->S y->S z->lt x y=true->lt y z=true->lt x z=true
 tot : ∀ x y,S x->S y->lt x y=false->lt y x=false->x=y
theorem Ay.mono {S':α->Prop} (h:Ay lt S) (k : ∀ x,S' x->S x):Ay lt S' :=
 ⟨fun x hx=>h.irr x (k x hx),fun x y z hx hy hz=>h.tr x y z (k x hx) (k y hy) (k z hz),fun x y hx hy=>h.tot x y (k x hx) (k y hy)⟩
def eQ (lt:α->α->Bool) (l:List α):Prop:=l.Pairwise fun a b=>lt b a=false
theorem Ay.le_tr (h:Ay lt S) {x y z:α} (sx:S x) (sy:S y) (sz:S z) (h1:lt y x=false) (h2:lt z y=false):lt z x=false:=by
 cases h3:lt z x with
 | false=>rfl
 | true =>
  cases h4:lt x y with
  | true=>rw [h.tr z x y sz sx sy h3 h4] at h2;cases h2
  | false=>have:=h.tot x y sx sy h4 h1;subst this;rw [h3] at h2;cases h2
theorem Ay.le_of (h:Ay lt S) {x y:α} (sx:S x) (sy:S y) (h1:lt x y=true):lt y x=false:=by
 cases h2:lt y x with
 | false=>rfl
 | true=>have:=h.tr x y x sx sy sx h1 h2;rw [h.irr x sx] at this;cases this
theorem LD (h:Ay lt S) {L:List α} {x y:α} (hS : ∀ z∈L++[x],S z) (ha:eQ lt (L++[x])) (hy:y∈L++[x]):lt x y=false:=by
 rcases abC.1 hy with hy|hy
 ·exact (List.pairwise_append.1 ha).2.2 y hy x (by simp)
 ·simp at hy;subst hy;exact h.irr y (hS y (by simp))
theorem M3 (h:Ay lt S) {L:List α} {x y:α} (hS : ∀ z∈x::L,S z) (ha:eQ lt (x::L)) (hy:y∈x::L):lt y x=false:=by
 rcases abq.1 hy with rfl|hy
 ·exact h.irr y (hS y (by simp))
 ·exact (ab2.1 ha).1 y hy
theorem Qv (h:Ay lt S) {A B:List α} (hA : ∀ z∈A,S z) (hB : ∀ z∈B,S z) (a:eQ lt A) (b:eQ lt B) (hg:A=[]\/B=[] \/ ∃ A' x y B',A=A'++[x]/\B=y::B'/\lt y x=false) : ∀ x∈A, ∀ y∈B,lt y x=false:=by
 intro u hu v hv
 rcases hg with rfl|rfl|⟨A',x,y,B',rfl,rfl,hxy⟩
 ·simp at hu
 ·simp at hv
 ·have s1:=hA u hu;have s2:=hA x (by simp);have s3:=hB y (by simp);have s4:=hB v hv
  exact h.le_tr s1 s2 s4 (LD h hA a hu) (h.le_tr s2 s3 s4 hxy (M3 h hB b hv))
theorem Ei (h:Ay lt S) {L1 L2:List α} {x:α} (sx:S x) (hS : ∀ z∈L1++L2,S z) (ha:eQ lt (L1++L2)) (h1:L1=[] \/ ∃ L y,L1=L++[y]/\lt x y=false) (h2:L2=[] \/ ∃ z L,L2=z::L/\lt z x=false):eQ lt (L1++x::L2):=by
 have hp:=List.pairwise_append.1 ha
 refine List.pairwise_append.2 ⟨hp.1,ab2.2 ⟨fun v hv=>?_,hp.2.1⟩,fun u hu v hv=>?_⟩
 ·rcases h2 with rfl|⟨z,L,rfl,hz⟩
  ·simp at hv
  ·exact h.le_tr sx (hS z (by simp)) (hS v (by simp at hv ⊢;exact .inr hv)) hz (M3 h (fun w hw=>hS w (by simp at hw ⊢;exact .inr hw)) hp.2.1 hv)
 ·rcases abq.1 hv with rfl|hv
  ·rcases h1 with rfl|⟨L,y,rfl,hy⟩
   ·simp at hu
   ·exact h.le_tr (hS u (by simp at hu ⊢;rcases hu with hu|hu;exact .inl hu;exact .inr (.inl hu))) (hS y (by simp)) sx (LD h (fun w hw=>hS w (List.mem_append_left _ hw)) hp.1 hu) hy
  ·exact hp.2.2 u hu v hv
theorem Oc (h:Ay lt S) {A1 A2 B1 B2 M1 M2:List α} (hS : ∀ z∈(A1++A2)++(B1++B2),S z) (hA:eQ lt (A1++A2)) (hB:eQ lt (B1++B2)) (h1:A1=[]\/B2=[] \/ ∃ A' x y B',A1=A'++[x]/\B2=y::B'/\lt y x=false) (h2:B1=[]\/A2=[] \/ ∃ A' x y B',B1=A'++[x]/\A2=y::B'/\lt y x=false)
  (m1:eQ lt M1) (m2:eQ lt M2) (p1:M1.Perm (A1++B1)) (p2:M2.Perm (A2++B2)):eQ lt (M1++M2):=by
 have pa:=List.pairwise_append.1 hA
 have pb:=List.pairwise_append.1 hB
 have g1:=Qv h (fun z hz=>hS z (by simp [hz])) (fun z hz=>hS z (by simp [hz])) pa.1 pb.2.1 h1
 have g2:=Qv h (fun z hz=>hS z (by simp [hz])) (fun z hz=>hS z (by simp [hz])) pb.1 pa.2.1 h2
 refine List.pairwise_append.2 ⟨m1,m2,fun x hx y hy=>?_⟩
 rcases abC.1 (p1.mem_iff.1 hx) with hx|hx<;>rcases abC.1 (p2.mem_iff.1 hy) with hy|hy
 ·exact pa.2.2 x hx y hy
 ·exact g1 x hx y hy
 ·exact g2 x hx y hy
 ·exact pb.2.2 x hx y hy
theorem Lg {A1 A2 B1 B2 M1 M2:List α} (p1:M1.Perm (A1++B1)) (p2:M2.Perm (A2++B2)):(M1++M2).Perm ((A1++A2)++(B1++B2)):=by
 refine (p1.append p2).trans ?_
 rw [abB,abB]
 refine List.Perm.append_left A1 ?_
 rw [<- abB, <- abB]
 exact List.Perm.append_right B2 List.perm_append_comm
theorem Qg {β:Type} (f:α->β) (U V T:List α) (x y:α):(((U++x::(V++y::T)).map f).set U.length (f y)).set (U.length+1+V.length) (f x)=(U++y::(V++x::T)).map f:=by
 rw [abm,abk,List.set_append_right _ _ (by simp)]
 simp only [abl,Nat.sub_self,List.set_cons_zero]
 rw [List.set_append_right _ _ (by simp;omega)]
 simp only [abl]
 rw [show U.length+1+V.length-U.length=V.length+1 by omega,List.set_cons_succ,abm,List.set_append_right _ _ (by simp)]
 simp
theorem get_at (U:List α) (x:α) (T:List α):(U++x::T)[U.length]?=some x:=by simp
theorem DX (U V T:List α) (x y:α):(U++x::(V++y::T))[U.length+1+V.length]?=some y:=by
 rw [abf (by omega),show U.length+1+V.length-U.length=V.length+1 by omega,List.getElem?_cons_succ,abf (by omega)]
 simp
end
section
variable {α:Type}
theorem Ti (a b:Nat) (h:a+b<=4611686018427387904):IntKind.i64.wrap ((a:Int)+(b:Int))=((a+b:Nat):Int):=by rw [bJ (by omega)];omega
theorem QU (a b:Nat) (h:b<=a) (h2:a<=4611686018427387904):IntKind.i64.wrap ((a:Int)-(b:Int))=((a-b:Nat):Int):=by rw [bJ (by omega)];omega
theorem JD {i n:Nat} (h:i<n):decide ((i:Int)<((n:Nat):Int))=true:=abb (by omega)
theorem Nk (i:Nat):decide ((0:Int)<=(i:Int))=true:=abb (by omega)
theorem Qz (i:Nat):0+((i:Int)).toNat=i:=by omega
theorem RQ {n:Nat} {c:List α} {a b k i:Nat} {x y:α} (hn:c.length=n) (hn2:n<=1000000000) (hk:i<k) (ha:c[a+i]?=some x) (hb:c[b+i]?=some y):fA (a:Int) (b:Int) (k:Int) n (c,(i:Int))=some (.next ((c.set (a+i) y).set (b+i) x,((i+1:Nat):Int))):=by
 have h1:=(aa9.1 ha).1
 have h2:=(aa9.1 hb).1
 unfold fA
 dsimp only
 rw [Ti a i (by omega),Ti b i (by omega),wrapN (by omega)]
 simp only [JD hk,Nk,JD (show a+i<n by omega),JD (show b+i<n by omega),aa',gn_ ha,gn_ hb,aa8,Qz,List.length_set,abb (show a+i<c.length by omega),abb (show b+i<c.length by omega)]
theorem Sw {n:Nat} {c:List α} {a b:Int} {k i:Nat} (hk : ¬ i<k):fA a b (k:Int) n (c,(i:Int))=some (.exit (c,(i:Int))):=by
 unfold fA
 dsimp only
 rw [aba (by omega),aa_]
theorem JI {n:Nat} (hn2:n<=1000000000) (a b k:Nat) : ∀ (U W P V Q:List α) (N i:Nat),U.length=W.length->P.length=a+i->P.length+U.length+V.length=b+i->i+U.length=k->(P++(U++(V++(W++Q)))).length=n->U.length<N->ax (fA (a:Int) (b:Int) (k:Int) n) N (P++(U++(V++(W++Q))),(i:Int))=some (.inl (P++(W++(V++(U++Q))),((k:Nat):Int)))
 | U,W,P,V,Q,0,i,_,_,_,_,_,h=>by omega
 | [],W,P,V,Q,N+1,i,hl,hp,hb,hi,hn,_=>by
  have hW:W=[]:=abL.1 hl.symm
  subst hW
  rw [ax,Sw (by simp at hi;omega)]
  simp only [abF,Nat.add_zero] at hi
  subst hi
  rfl
 | u::U,[],P,V,Q,N+1,i,hl,_,_,_,_,_=>by simp at hl
 | u::U,w::W,P,V,Q,N+1,i,hl,hp,hb,hi,hn,hN=>by
  simp only [abw] at hl hb hi hN
  have e:P++(u::U++(V++(w::W++Q)))=P++u::((U++V)++w::(W++Q)):=by simp
  rw [ax,e,RQ (x:=u) (y:=w) (by rw [<- e];exact hn) hn2 (by omega) (by rw [<- hp];exact get_at _ _ _) (by have:=DX P (U++V) (W++Q) u w;rwa [show P.length+1+(U++V).length=b+i by simp;omega] at this)]
  have s2:=Qg (f:=fun x:α=>x) P (U++V) (W++Q) u w
  rw [List.map_id',List.map_id',show P.length+1+(U++V).length=b+i by simp;omega,hp] at s2
  rw [s2]
  have e2:P++w::((U++V)++u::(W++Q))=(P++[w])++(U++((V++[u])++(W++Q))):=by simp
  show ax _ N (P++w::((U++V)++u::(W++Q)),((i+1:Nat):Int))=_
  rw [e2,JI hn2 a b k U W (P++[w]) (V++[u]) Q N (i+1) (by omega) (by simp;omega) (by simp;omega) (by omega) (by rw [<- hn];simp only [abg,abw,abF];omega) (by omega)]
  simp
theorem qi {n:Nat} (hn2:n<=1000000000) {P U V W Q:List α} (cmp:α->α->Option Int) (hl:U.length=W.length) (hn:(P++(U++(V++(W++Q)))).length=n):jG n (P++(U++(V++(W++Q)))) (P.length:Int) ((P.length+U.length+V.length:Nat):Int) (U.length:Int) cmp=some (P++(W++(V++(U++Q)))):=by
 unfold jG
 have:=JI hn2 P.length (P.length+U.length+V.length) U.length U W P V Q fuel 0 hl (by omega) (by omega) (by omega) hn (by simp at hn;unfold fuel;omega)
 rw [show ((0:Nat):Int)=0 from rfl] at this
 rw [this];rfl
theorem vH {n:Nat} (hn2:n<=1000000000) (cmp:α->α->Option Int) (m:Nat) : ∀ (N:Nat) (P A B Q:List α),P.length+A.length=m->0<A.length->0<B.length->(P++(A++(B++Q))).length=n->A.length+B.length<N -> ∃ P' A' B' Q',ax (gK (m:Int) cmp n) N (P++(A++(B++Q)),(A.length:Int),(B.length:Int))=some (.inl (P'++(A'++(B'++Q')),(A'.length:Int),(B'.length:Int)))/\A'.length=B'.length/\P'.length+A'.length=m/\P'++(B'++(A'++Q'))=P++(B++(A++Q))/\(P'++(A'++(B'++Q'))).length=n
 | 0,P,A,B,Q,_,_,_,_,h=>by omega
 | N+1,P,A,B,Q,hm,hA,hB,hn,hN=>by
  have hn':=hn
  simp only [abg] at hn'
  rw [ax]
  by_cases h0:A.length=B.length
  ·have hb:gK (m:Int) cmp n (P++(A++(B++Q)),(A.length:Int),(B.length:Int))=some (.exit (P++(A++(B++Q)),(A.length:Int),(B.length:Int))):=by
    unfold gK
    dsimp only
    rw [aba (by omega),aa_]
   rw [hb]
   exact ⟨P,A,B,Q,rfl,h0,hm,rfl,hn⟩
  ·by_cases h1:B.length<A.length
   ·have hs:=qi hn2 (P:=P) (U:=A.take B.length) (V:=A.drop B.length) (W:=B) (Q:=Q) cmp (by rw [abY];omega) (by rw [<- hn];simp;omega)
    have eA:A.take B.length++(A.drop B.length++(B++Q))=A++(B++Q):=by rw [<- abB,abU]
    rw [eA] at hs
    have hb:gK (m:Int) cmp n (P++(A++(B++Q)),(A.length:Int),(B.length:Int))=some (.next (P++(B++(A.drop B.length++(A.take B.length++Q))),((A.length-B.length:Nat):Int),(B.length:Int))):=by
     unfold gK
     dsimp only
     rw [abb (show (A.length:Int)≠(B.length:Int) by omega),aa',abb (show (B.length:Int)<(A.length:Int) by omega),aa',QU m A.length (by omega) (by omega),QU A.length B.length (by omega) (by omega),show m-A.length=P.length by omega]
     rw [abY,List.length_drop,Nat.min_eq_left (by omega),show P.length+B.length+(A.length-B.length)=m by omega] at hs
     rw [hs];rfl
    rw [hb]
    obtain ⟨P',A',B',Q',k1,k2,k3,k4,k5⟩:=vH hn2 cmp m N (P++B) (A.drop B.length) (A.take B.length) Q (by simp;omega) (by simp;omega) (by simp;omega) (by rw [<- hn];simp;omega) (by simp;omega)
    refine ⟨P',A',B',Q',?_,k2,k3,?_,k5⟩
    ·rw [<- k1]
     simp only [List.length_drop,abY,Nat.min_eq_left (Nat.le_of_lt h1),abB]
    ·rw [k4]
     simp only [abB]
     rw [<- abB (A.take B.length),abU]
   ·have hs:=qi hn2 (P:=P) (U:=A) (V:=B.take (B.length-A.length)) (W:=B.drop (B.length-A.length)) (Q:=Q) cmp (by rw [List.length_drop];omega) (by rw [<- hn];simp;omega)
    have eB:B.take (B.length-A.length)++(B.drop (B.length-A.length)++Q)=B++Q:=by rw [<- abB,abU]
    rw [eB] at hs
    have hb:gK (m:Int) cmp n (P++(A++(B++Q)),(A.length:Int),(B.length:Int))=some (.next (P++(B.drop (B.length-A.length)++(B.take (B.length-A.length)++(A++Q))),(A.length:Int),((B.length-A.length:Nat):Int))):=by
     unfold gK
     dsimp only
     rw [abb (show (A.length:Int)≠(B.length:Int) by omega),aa',aba (show ¬ (B.length:Int)<(A.length:Int) by omega),aa_,QU m A.length (by omega) (by omega),Ti m B.length (by omega),QU (m+B.length) A.length (by omega) (by omega),QU B.length A.length (by omega) (by omega),show m-A.length=P.length by omega]
     rw [abY,Nat.min_eq_left (by omega),show P.length+A.length+(B.length-A.length)=m+B.length-A.length by omega] at hs
     rw [hs];rfl
    rw [hb]
    obtain ⟨P',A',B',Q',k1,k2,k3,k4,k5⟩:=vH hn2 cmp m N P (B.drop (B.length-A.length)) (B.take (B.length-A.length)) (A++Q) (by simp;omega) (by simp;omega) (by simp;omega) (by rw [<- hn];simp;omega) (by simp;omega)
    refine ⟨P',A',B',Q',?_,k2,k3,?_,k5⟩
    ·rw [<- k1]
     simp only [List.length_drop,abY,Nat.min_eq_left (Nat.sub_le _ _),show B.length-(B.length-A.length)=A.length by omega]
    ·rw [k4]
     simp only [<- abB]
     rw [abB P,abU]
theorem Ov {n:Nat} (hn2:n<=1000000000) {P A B Q:List α} (cmp:α->α->Option Int) (hA:0<A.length) (hB:0<B.length) (hn:(P++(A++(B++Q))).length=n):pY n (P++(A++(B++Q))) (P.length:Int) ((P.length+A.length:Nat):Int) ((P.length+A.length+B.length:Nat):Int) cmp=some (P++(B++(A++Q))):=by
 have hn':=hn
 simp only [abg] at hn'
 unfold pY
 rw [QU (P.length+A.length) P.length (by omega) (by omega),QU (P.length+A.length+B.length) (P.length+A.length) (by omega) (by omega),show P.length+A.length-P.length=A.length by omega,show P.length+A.length+B.length-(P.length+A.length)=B.length by omega]
 obtain ⟨P',A',B',Q',k1,k2,k3,k4,k5⟩:=vH hn2 cmp (P.length+A.length) fuel P A B Q rfl hA hB hn (by unfold fuel;omega)
 rw [k1,aa8]
 unfold su
 dsimp only
 have k5':=k5
 simp only [abg] at k5'
 have hs:=qi hn2 (P:=P') (U:=A') (V:=[]) (W:=B') (Q:=Q') cmp k2 k5
 rw [abd,abd,abF,Nat.add_zero,k3] at hs
 rw [QU (P.length+A.length) A'.length (by omega) (by omega),show P.length+A.length-A'.length=P'.length by omega,hs,k4];rfl
end
section
variable {α:Type} {lt:α->α->Bool} {S:α->Prop} {cmp:α->α->Option Int}
theorem u64_in {x:Int} (h0:0<=x) (h:x<=4611686018427387904):IntKind.u64.wrap x=x:=by
 simp only [IntKind.wrap,IntKind.bits,IntKind.signed]
 simp
 omega
theorem BL {i j:Nat} (h:i+j<=4611686018427387904):bW (IntKind.i64.wrap ((i:Int)+(j:Int)))=(((i+j)/2:Nat):Int):=by
 rw [Ti i j h]
 show IntKind.i64.wrap (Int.fdiv (IntKind.u64.wrap ((i+j:Nat):Int)) 2)=_
 rw [u64_in (by omega) (by omega),Int.fdiv_eq_ediv_of_nonneg _ (by omega),bJ (by omega)]
 omega
def oH (cmp:α->α->Option Int) (lt:α->α->Bool) (S:α->Prop):Prop := ∀ x y,S x->S y -> ∃ r,cmp x y=some r/\decide (r<0)=lt x y
theorem YC (a:Nat) (h:1<=a) (h2:a<=4611686018427387904):IntKind.i64.wrap ((a:Int)-1)=((a-1:Nat):Int):=by rw [bJ (by omega)];omega
theorem IY (h:Ay lt S) (hc:oH cmp lt S) {n:Nat} (hn2:n<=1000000000) (P Q:List α) (x:α) (sx:S x) : ∀ (k:Nat) (L1 L2:List α) (N:Nat),L1.length=k->(∀ z∈L1++L2,S z)->eQ lt (L1++L2)->(L2=[] \/ ∃ z L,L2=z::L/\lt z x=false)->(P++((L1++x::L2)++Q)).length=n->k<N ->
  ∃ M j,ax (eP (P.length:Int) cmp n) N (P++((L1++x::L2)++Q),((P.length+k:Nat):Int))=some (.inl (P++(M++Q),j))/\eQ lt M/\M.Perm (x::(L1++L2))
 | k,L1,L2,0,_,_,_,_,_,hN=>by omega
 | 0,L1,L2,N+1,hk,hS,ha,h2,hn,hN=>by
  have:L1=[]:=abL.1 hk
  subst this
  rw [ax]
  have hb:eP (P.length:Int) cmp n (P++(([]++x::L2)++Q),((P.length+0:Nat):Int))=some (.exit (P++(([]++x::L2)++Q),((P.length+0:Nat):Int))):=by
   unfold eP
   dsimp only
   rw [aba (by omega),aa_]
  rw [hb]
  refine ⟨x::L2,_,rfl,?_, .refl _⟩
  have:=Ei h (L1:=[]) (L2:=L2) sx hS ha (.inl rfl) h2
  exact this
 | k+1,L1,L2,N+1,hk,hS,ha,h2,hn,hN=>by
  obtain ⟨L,y,rfl⟩ : ∃ L y,L1=L++[y]:=by
   rcases List.eq_nil_or_concat L1 with e|⟨L,y,e⟩
   ·subst e;simp at hk
   ·exact ⟨L,y,by simpa using e⟩
  have hL:L.length=k:=by simp at hk;exact hk
  have hn':=hn
  simp only [abg,abw,abF] at hn'
  have sy:S y:=hS y (by simp)
  have e1:P++((L++[y])++x::L2++Q)=(P++L)++y::([]++x::(L2++Q)):=by simp
  have g1:(P++((L++[y])++x::L2++Q))[P.length+k]?=some y:=by rw [e1, <- hL, <- abg];exact get_at _ _ _
  have g2:(P++((L++[y])++x::L2++Q))[P.length+(k+1)]?=some x:=by
   have:=DX (P++L) [] (L2++Q) y x
   rw [<- e1] at this
   rwa [show (P++L).length+1+([]:List α).length=P.length+(k+1) by simp;omega] at this
  obtain ⟨r,hr,hr2⟩:=hc x y sx sy
  rw [ax]
  cases hxy:lt x y with
  | false =>
   have hb:eP (P.length:Int) cmp n (P++((L++[y])++x::L2++Q),((P.length+(k+1):Nat):Int))=some (.exit (P++((L++[y])++x::L2++Q),((P.length+(k+1):Nat):Int))):=by
    unfold eP
    dsimp only
    rw [YC _ (by omega) (by omega),show P.length+(k+1)-1=P.length+k by omega]
    simp only [abb (show (P.length:Int)<((P.length+(k+1):Nat):Int) by omega),Nk,JD (show P.length+(k+1)<n by omega),JD (show P.length+k<n by omega),aa',gn_ g1,gn_ g2,aa8,hr,hr2,hxy,aa_]
   rw [hb]
   refine ⟨(L++[y])++x::L2,_,rfl,Ei h sx hS ha (.inr ⟨L,y,rfl,hxy⟩) h2,List.perm_middle⟩
  | true =>
   have hb:eP (P.length:Int) cmp n (P++((L++[y])++x::L2++Q),((P.length+(k+1):Nat):Int))=some (.next (P++((L++x::(y::L2))++Q),((P.length+k:Nat):Int))):=by
    unfold eP
    dsimp only
    rw [YC _ (by omega) (by omega),show P.length+(k+1)-1=P.length+k by omega]
    simp only [abb (show (P.length:Int)<((P.length+(k+1):Nat):Int) by omega),Nk,JD (show P.length+(k+1)<n by omega),JD (show P.length+k<n by omega),aa',gn_ g1,gn_ g2,aa8,hr,hr2,hxy,Qz,List.length_set,abb (show P.length+(k+1)<(P++((L++[y])++x::L2++Q)).length by omega),abb (show P.length+k<(P++((L++[y])++x::L2++Q)).length by omega)]
    have s2:=Qg (f:=fun z:α=>z) (P++L) [] (L2++Q) y x
    rw [List.map_id',List.map_id', <- e1,show (P++L).length=P.length+k by simp;omega,abF,show P.length+k+1+0=P.length+(k+1) by omega] at s2
    rw [List.set_comm _ _ (by omega),s2]
    simp
   rw [hb]
   obtain ⟨M,j,k1,k2,k3⟩:=IY h hc hn2 P Q x sx k L (y::L2) N hL (fun z hz=>hS z (by simp at hz ⊢;rcases hz with hz|hz|hz<;>simp [hz])) (by simpa using ha) (.inr ⟨y,L2,rfl,h.le_of sx sy hxy⟩) (by rw [<- hn];simp) (by omega)
   exact ⟨M,j,k1,k2,k3.trans (by simp)⟩
theorem Jw (h:Ay lt S) (hc:oH cmp lt S) {n:Nat} (hn2:n<=1000000000) (P Q:List α) (b:Nat) : ∀ (R M:List α) (N:Nat),P.length+M.length+R.length=b->(∀ z∈M++R,S z)->eQ lt M->(P++(M++(R++Q))).length=n->R.length<N ->
  ∃ M',ax (eZ (P.length:Int) (b:Int) cmp n) N (P++(M++(R++Q)),((P.length+M.length:Nat):Int))=some (.inl (P++(M'++Q),(b:Int)))/\eQ lt M'/\M'.Perm (M++R)
 | R,M,0,_,_,_,_,hN=>by omega
 | [],M,N+1,hb,hS,ha,hn,hN=>by
  simp only [abF,Nat.add_zero] at hb
  subst hb
  rw [ax]
  have hB:eZ (P.length:Int) ((P.length+M.length:Nat):Int) cmp n (P++(M++([]++Q)),((P.length+M.length:Nat):Int))=some (.exit (P++(M++([]++Q)),((P.length+M.length:Nat):Int))):=by
   unfold eZ
   dsimp only
   rw [aba (by omega),aa_]
  rw [hB]
  exact ⟨M,rfl,ha,by simp⟩
 | x::R,M,N+1,hb,hS,ha,hn,hN=>by
  have hn':=hn
  simp only [abg,abw] at hn' hb
  obtain ⟨M1,j,k1,k2,k3⟩:=IY h hc hn2 P (R++Q) x (hS x (by simp)) M.length M [] fuel rfl (fun z hz=>hS z (by simp at hz ⊢;exact .inl hz)) (by simpa using ha) (.inl rfl) (by rw [<- hn];simp) (by unfold fuel;omega)
  have hl:M1.length=M.length+1:=by rw [k3.length_eq];simp
  have e1:P++((M++x::[])++(R++Q))=P++(M++(x::R++Q)):=by simp
  rw [e1] at k1
  rw [ax]
  have hB:eZ (P.length:Int) (b:Int) cmp n (P++(M++(x::R++Q)),((P.length+M.length:Nat):Int))=some (.next (P++(M1++(R++Q)),((P.length+M1.length:Nat):Int))):=by
   unfold eZ
   dsimp only
   rw [abb (show ((P.length+M.length:Nat):Int)<(b:Int) by omega),aa',k1,aa8]
   unfold jV
   dsimp only
   rw [wrapN (by omega),hl,Nat.add_assoc]
  rw [hB]
  obtain ⟨M',q1,q2,q3⟩:=Jw h hc hn2 P Q b R M1 N (by omega) (fun z hz=>by
   rcases abC.1 hz with hz|hz
   ·have:=k3.mem_iff.1 hz;simp at this;rcases this with rfl|hz
    ·exact hS z (by simp)
    ·exact hS z (by simp [hz])
   ·exact hS z (by simp [hz])) k2 (by rw [<- hn];simp [hl];omega) (by simp at hN;omega)
  refine ⟨M',q1,q2,q3.trans ?_⟩
  refine (k3.append_right R).trans ?_
  simp only [abJ,List.cons_append]
  exact (List.perm_middle (a:=x) (l₁:=M) (l₂:=R)).symm
theorem CS (h:Ay lt S) (hc:oH cmp lt S) {n:Nat} (hn2:n<=1000000000) {P M Q:List α} (hS : ∀ z∈M,S z) (hn:(P++(M++Q)).length=n) : ∃ M',qK n (P++(M++Q)) (P.length:Int) ((P.length+M.length:Nat):Int) cmp=some (P++(M'++Q))/\eQ lt M'/\M'.Perm M:=by
 have hn':=hn
 simp only [abg] at hn'
 unfold qK
 rw [show IntKind.i64.wrap ((P.length:Int)+1)=((P.length+1:Nat):Int) from wrapN (by omega)]
 match M,hS,hn,hn' with
 | [],hS,hn,hn' =>
  refine ⟨[],?_,List.Pairwise.nil, .refl _⟩
  have hf:fuel=(fuel-1)+1:=rfl
  rw [hf,ax]
  have hB:eZ (P.length:Int) ((P.length+([]:List α).length:Nat):Int) cmp n (P++([]++Q),((P.length+1:Nat):Int))=some (.exit (P++([]++Q),((P.length+1:Nat):Int))):=by
   unfold eZ
   dsimp only
   rw [aba (by simp only [abF];omega),aa_]
  rw [hB];rfl
 | x::M,hS,hn,hn' =>
  simp only [abw] at hn'
  obtain ⟨M',q1,q2,q3⟩:=Jw h hc hn2 P Q (P.length+(x::M).length) M [x] fuel (by simp;omega) (by simpa using hS) (by simp [eQ]) (by rw [<- hn];simp) (by unfold fuel;omega)
  refine ⟨M',?_,q2,by simpa using q3⟩
  have e:P++([x]++(M++Q))=P++(x::M++Q):=by simp
  rw [e,show P.length+[x].length=P.length+1 from rfl] at q1
  rw [q1];rfl
end
end Go.Proofs.YtfpbmfalamappaaGreatDoor
