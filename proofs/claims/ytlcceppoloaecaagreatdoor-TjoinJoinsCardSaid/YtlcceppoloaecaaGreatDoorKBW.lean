/- Parts of the proof, joined. No condition. -/
import Derived.Test.YtlcceppoloaecaaGreatDoorKAA
import Derived.Test.YtlcceppoloaecaaGreatDoorKBV
import Derived.Test.YtlcceppoloaecaaGreatDoorKBK
import Derived.Test.YtlcceppoloaecaaGreatDoorKBU
import Derived.Test.YtlcceppoloaecaaGreatDoorKBR
import Derived.Test.YtlcceppoloaecaaGreatDoorKBS
import Derived.Test.YtlcceppoloaecaaGreatDoorKBQ
import Derived.Test.YtlcceppoloaecaaGreatDoorKBL
import Derived.Test.YtlcceppoloaecaaGreatDoorKBJ
import Derived.Test.YtlcceppoloaecaaGreatDoorKAJ
import Derived.Test.YtlcceppoloaecaaGreatDoorKBT
import Derived.Test.YtlcceppoloaecaaGreatDoorKAL
import Derived.Test.YtlcceppoloaecaaGreatDoorKBP
set_option linter.unusedSimpArgs false
set_option linter.unusedVariables false
namespace Go.Proofs.YtlcceppoloaecaaGreatDoor
open Go.RowKit Go.MapKept
set_option maxRecDepth 100000
theorem N7 (e:Ex) (m:Int) (hm:2<=m/\m<=1000) (B:Int) (hB:B<=4611686018427387904) (rec:Ex->Option Int) (recP:Ex->Int->Option Int)
  (hrec : ∀ x∈e.args, ∃ d,rec x=some d/\1<=d/\d<=B/\recP x (m-1)=some (min d (m-1))) (hlen:e.args.length<=100000) :
  ∀ (N i:Nat) (a:Int),0<=a->a<=max 0 B->i<=e.args.length->e.args.length-i<N ->
   ∃ r,az (h_ e rec) N (a,(i:Int))=some (.inl (r,((e.args.length:Nat):Int)))/\az (iW e m recP) N (min (a+1) m,(i:Int))=some (.inl (min (r+1) m,((e.args.length:Nat):Int)))/\0<=r/\r<=max 0 B
 | 0,i,a,_,_,_,h=>by omega
 | N+1,i,a,h1,h2,hi,hN=>by
  rw [az,az]
  by_cases hlt:i<e.args.length
  ·obtain ⟨x,hx⟩:=gol_ hlt
   obtain ⟨d,e1,e2,e3,e4⟩:=hrec x (ap6 hx)
   have hb:h_ e rec (a,(i:Int))=some (.next (max a d,((i+1:Nat):Int))):=by
    unfold h_
    dsimp only
    rw [bf hx,ap2,gn_ hx,apZ,e1,apZ,wrapN (by omega)]
    congr 3
    unfold PW;split<;>omega
   have hb2:iW e m recP (min (a+1) m,(i:Int))=some (.next (min (max a d+1) m,((i+1:Nat):Int))):=by
    unfold iW
    dsimp only
    rw [bf hx,ap2,gn_ hx,apZ,fO (by omega),e4,apZ,fO (by omega),wrapN (by omega)]
    congr 3
    unfold PW;split<;>omega
   rw [hb,hb2]
   exact N7 e m hm B hB rec recP hrec hlen N (i+1) (max a d) (by omega) (by omega) (by omega) (by omega)
  ·have:i=e.args.length:=by omega
   subst this
   have hb:h_ e rec (a,((e.args.length:Nat):Int))=some (.exit (a,((e.args.length:Nat):Int))):=by
    unfold h_
    dsimp only
    rw [lF_,ap1]
   have hb2:iW e m recP (min (a+1) m,((e.args.length:Nat):Int))=some (.exit (min (a+1) m,((e.args.length:Nat):Int))):=by
    unfold iW
    dsimp only
    rw [lF_,ap1]
   rw [hb,hb2]
   exact ⟨a,rfl,rfl,h1,h2⟩
theorem OE : ∀ (n:Nat) (e:Ex),n<=4611686018427387904->lF n e -> ∃ d,rT n e=some d/\1<=d/\d<=(n:Int) /\ ∀ m:Int,1<=m->m<=1000->xS n e m=some (min d m)
 | 0,_,_,h=>h.elim
 | n+1,e,hn,h=>by
  have hd : ∃ r,(∀ m:Int,2<=m->m<=1000->az (iW e m (xS n)) fuel (1,0)=some (.inl (min (r+1) m,((e.args.length:Nat):Int))))/\az (h_ e (rT n)) fuel (0,0)=some (.inl (r,((e.args.length:Nat):Int)))/\0<=r/\r<=max 0 (n:Int):=by
   have key : ∀ m:Int,2<=m->m<=1000->_:=fun m h1 h2=>N7 e m ⟨h1,h2⟩ (n:Int) (by omega) (rT n) (xS n) (by
    intro x hx
    obtain ⟨d,e1,e2,e3,e4⟩:=OE n x (by omega) (h.2 x hx)
    exact ⟨d,e1,e2,e3,e4 (m-1) (by omega) (by omega)⟩) h.1 fuel 0 0 (Int.le_refl _) (by omega) (aqj _) (by unfold fuel;have:=h.1;omega)
   obtain ⟨r,e1,e2,e3,e4⟩:=key 2 (by omega) (by omega)
   refine ⟨r,fun m h1 h2=>?_,e1,e3,e4⟩
   obtain ⟨r',f1,f2,f3,f4⟩:=key m h1 h2
   have:r'=r:=by
    rw [e1] at f1
    have:=aqw f1
    injection this with this
    injection this with this _
    exact this.symm
   subst this
   rw [show min ((0:Int)+1) m=1 by omega] at f2
   exact f2
  obtain ⟨r,k1,k2,k3,k4⟩:=hd
  refine ⟨r+1,?_,by omega,by omega,fun m h1 h2=>?_⟩
  ·show vS (rT n) e=_
   unfold vS
   rw [k2]
   show some (IntKind.i64.wrap (r+1))=_
   rw [fO (by omega)]
  ·show Al (xS n) e m=_
   unfold Al
   by_cases hm:m<=1
   ·rw [ap4 hm,ap2]
    congr 1;omega
   ·rw [ap3 hm,ap1,k1 m (by omega) h2];rfl
def QG:Int->List Int->Option Int
 | t,[]=>some t
 | t,x::l=>if x=0 then QG t l else if t≠0/\t≠x then none else QG x l
def al5 (o:Option Int):Int × Bool:=match o with|some k=>(k,true)|none=>(0,false)
theorem Np : ∀ (l:List Int) (t:Int),d_ (ρ:=Int × Bool) (fun t x=>some (if x=0 then .inl t else if t≠0/\t≠x then .inr (0,false) else .inl x)) t l=some (match QG t l with|some k => .inl k|none => .inr (0,false))
 | [],t=>rfl
 | x::l,t=>by
  rw [d_,QG]
  by_cases h:x=0
  ·rw [if_pos h,if_pos h];exact Np l t
  ·rw [if_neg h,if_neg h]
   by_cases h2:t≠0/\t≠x
   ·rw [if_pos h2,if_pos h2]
   ·rw [if_neg h2,if_neg h2];exact Np l x
theorem jw (l:List Int) (hl:l.length<=1000000):nK l=some (al5 (QG 0 l)):=by
 unfold nK
 rw [dI (l:=l) (mk:=fun t i=>(t,i)) (f:=fun t x=>some (if x=0 then .inl t else if t≠0/\t≠x then .inr (0,false) else .inl x)) ?_ ?_ (by unfold fuel;omega) (0:Int)]
 ·rw [Np]
  cases QG 0 l<;>rfl
 ·intro s i x hx
  have hi:=(ap0.1 hx).1
  unfold CQ
  dsimp only
  rw [bf hx,ap2,gn_ hx,wrapN (by omega)]
  simp only [apZ]
  by_cases h:x=0
  ·rw [ap4 h,ap2,if_pos h];rfl
  ·rw [ap3 h,ap1,if_neg h]
   by_cases h1:s=0
   ·rw [ap3 (show ¬ s≠0 by omega),ap1,if_neg (by omega)];rfl
   ·rw [ap4 (show s≠0 from h1),ap2]
    by_cases h2:s=x
    ·rw [ap3 (show ¬ s≠x by omega),ap1,if_neg (by omega)];rfl
    ·rw [ap4 (show s≠x from h2),ap2,if_pos ⟨h1,h2⟩];rfl
 ·intro s
  unfold CQ
  dsimp only
  rw [lF_,ap1]
theorem p9 (l:List Int) (hl:l.length<=1000000):lT l=some (al5 (QG 0 l)):=(show lT l=nK l from rfl).trans (jw l hl)
def jL (l:List Int) (k:Int):Bool:=l.all fun x=>decide (x=k)||decide (x=0)
theorem fV (l:List Int) (k:Int) (hl:l.length<=1000000):kr l k=some (jL l k):=by
 unfold kr
 rw [dI (l:=l) (mk:=fun (_:Unit) i=>i) (f:=fun _ x=>some (if x=k\/x=0 then .inl () else .inr false)) ?_ ?_ (by unfold fuel;omega) ()]
 ·have : ∀ l:List Int,d_ (ρ:=Bool) (fun (_:Unit) (x:Int)=>some (if x=k\/x=0 then .inl () else .inr false)) () l=some (if jL l k=true then .inl () else .inr false):=by
   intro l
   induction l with
   | nil=>rfl
   | cons x l ih =>
    rw [d_]
    by_cases h:x=k\/x=0
    ·rw [if_pos h]
     show d_ _ () l=_
     rw [ih]
     have:jL (x::l) k=jL l k:=by
      unfold jL
      rw [List.all_cons]
      rcases h with h|h<;>simp [h]
     rw [this]
    ·rw [if_neg h]
     have:jL (x::l) k=false:=by
      unfold jL
      rw [List.all_cons,ap3 (fun e=>h (.inl e)),ap3 (fun e=>h (.inr e))];rfl
     rw [this];rfl
  rw [this]
  cases jL l k<;>rfl
 ·intro s i x hx
  have hi:=(ap0.1 hx).1
  unfold Dq
  dsimp only
  rw [bf hx,ap2,gn_ hx,wrapN (by omega)]
  simp only [apZ]
  by_cases h:x=k
  ·rw [ap3 (show ¬ x≠k by omega),ap1,if_pos (.inl h)];rfl
  ·rw [ap4 (show x≠k from h),ap2]
   by_cases h2:x=0
   ·rw [ap3 (show ¬ x≠0 by omega),ap1,if_pos (.inr h2)];rfl
   ·rw [ap4 (show x≠0 from h2),ap2,if_neg (by omega)];rfl
 ·intro s
  unfold Dq
  dsimp only
  rw [lF_,ap1]
theorem Nz (k:Int) (hk:k≠0) : ∀ (l:List Int) (t:Int),QG t (l++[k])=if (t=0\/t=k)/\jL l k=true then some k else none
 | [],t=>by
  show (if k=0 then some t else if t≠0/\t≠k then none else some k)=if (t=0\/t=k)/\true=true then some k else none
  rw [if_neg hk]
  by_cases h:t=0\/t=k
  ·rw [if_neg (show ¬ (t≠0/\t≠k) by omega),if_pos (show (t=0\/t=k)/\true=true from ⟨h,rfl⟩)]
  ·rw [if_pos (show t≠0/\t≠k by omega),if_neg (fun e=>h e.1)]
 | x::l,t=>by
  rw [List.cons_append,QG]
  by_cases h:x=0
  ·rw [if_pos h,Nz k hk l t]
   have:jL (x::l) k=jL l k:=by unfold jL;rw [List.all_cons,ap4 h,Bool.or_true,aqx]
   rw [this]
  ·rw [if_neg h]
   have ha:jL (x::l) k=(decide (x=k)&&jL l k):=by unfold jL;rw [List.all_cons,ap3 h,Bool.or_false]
   rw [ha]
   by_cases h2:t≠0/\t≠x
   ·rw [if_pos h2,if_neg]
    rintro ⟨h3,h4⟩
    rw [aqg] at h4
    have:=aqs h4.1
    omega
   ·rw [if_neg h2,Nz k hk l x]
    by_cases h3:x=k
    ·rw [ap4 h3,aqx]
     by_cases h4:jL l k=true
     ·rw [if_pos ⟨.inr h3,h4⟩,if_pos ⟨by omega,h4⟩]
     ·rw [if_neg (fun e=>h4 e.2),if_neg (fun e=>h4 e.2)]
    ·rw [ap3 h3,Bool.false_and,if_neg (by omega),if_neg (by simp)]
theorem iN {l:List Int} {k:Int} (h0:l≠[]) (hl:l.length<=100000) (hk:k≠0):zR l k=some (jL l k):=by
 have ho:XB l=true:=by
  unfold XB
  rw [ap4 hl,Bool.and_true]
  cases l with
  | nil=>exact absurd rfl h0
  | cons a b=>rfl
 unfold zR
 rw [ho,ap2,jw _ (by rw [ap8];simp;omega),apZ,Nz k hk]
 cases h:jL l k with
 | true=>rw [if_pos ⟨.inl rfl,rfl⟩];show some (bif true then decide (k=k) else false)=_;simp
 | false=>rw [if_neg (by simp)];rfl
theorem Zc {e:Ex} {l:List Int} {kinds:List Int} (hlo:(oQ e.op).1<=((l.length:Nat):Int)) (hhi:((l.length:Nat):Int)<=(oQ e.op).2) (hl:l.length<=100000) (ho:e.op=1\/e.op=4\/e.op=5\/e.op=6\/e.op=7\/e.op=8\/e.op=9\/e.op=10\/e.op=11\/e.op=12\/e.op=13\/e.op=14\/e.op=15\/e.op=16\/e.op=17\/e.op=18\/e.op=19\/e.op=20\/e.op=21\/e.op=22\/e.op=23\/e.op=24) : ∃ r,gRs11 e l kinds=some r/\gRsP e l=some r:=by
 rcases ho with ho|ho|ho|ho|ho|ho|ho|ho|ho|ho|ho|ho|ho|ho|ho|ho|ho|ho|ho|ho|ho|ho
 ·rw [ho,ar1] at hlo hhi
  dsimp only at hlo hhi
  unfold gRs11 gRsP
  simp only [ho,Int.reduceEq,decide_false,decide_true,ap2,ap1]
  exact ⟨_,rfl,rfl⟩
 ·rw [ho,ar4] at hlo hhi
  dsimp only at hlo hhi
  unfold gRs11 gRsP
  simp only [ho,Int.reduceEq,decide_false,decide_true,ap2,ap1]
  rw [fV _ _ (by omega),iN (by rintro rfl;simp at hlo) hl (by decide)];exact ⟨_,rfl,rfl⟩
 ·rw [ho,ar5] at hlo hhi
  dsimp only at hlo hhi
  unfold gRs11 gRsP
  simp only [ho,Int.reduceEq,decide_false,decide_true,ap2,ap1]
  rw [fV _ _ (by omega),iN (by rintro rfl;simp at hlo) hl (by decide)];exact ⟨_,rfl,rfl⟩
 ·rw [ho,ar6] at hlo hhi
  dsimp only at hlo hhi
  unfold gRs11 gRsP
  simp only [ho,Int.reduceEq,decide_false,decide_true,ap2,ap1]
  rw [fV _ _ (by omega),iN (by rintro rfl;simp at hlo) hl (by decide)];exact ⟨_,rfl,rfl⟩
 ·rw [ho,ar7] at hlo hhi
  dsimp only at hlo hhi
  unfold gRs11 gRsP
  simp only [ho,Int.reduceEq,decide_false,decide_true,ap2,ap1]
  rw [p9 _ (by omega),jw _ (by omega)];exact ⟨_,rfl,rfl⟩
 ·rw [ho,ar8] at hlo hhi
  dsimp only at hlo hhi
  unfold gRs11 gRsP
  simp only [ho,Int.reduceEq,decide_false,decide_true,ap2,ap1]
  rw [p9 _ (by omega),jw _ (by omega)];exact ⟨_,rfl,rfl⟩
 ·rw [ho,ar9] at hlo hhi
  dsimp only at hlo hhi
  unfold gRs11 gRsP
  simp only [ho,Int.reduceEq,decide_false,decide_true,ap2,ap1]
  rw [p9 _ (by omega),jw _ (by omega)];exact ⟨_,rfl,rfl⟩
 ·rw [ho,ao9] at hlo hhi
  dsimp only at hlo hhi
  unfold gRs11 gRsP
  simp only [ho,Int.reduceEq,decide_false,decide_true,ap2,ap1]
  rw [p9 _ (by omega),jw _ (by omega)];exact ⟨_,rfl,rfl⟩
 ·rw [ho,apw] at hlo hhi
  dsimp only at hlo hhi
  unfold gRs11 gRsP
  simp only [ho,Int.reduceEq,decide_false,decide_true,ap2,ap1]
  rw [p9 _ (by omega),jw _ (by omega)];exact ⟨_,rfl,rfl⟩
 ·rw [ho,ao6] at hlo hhi
  dsimp only at hlo hhi
  unfold gRs11 gRsP
  simp only [ho,Int.reduceEq,decide_false,decide_true,ap2,ap1]
  rw [p9 _ (by omega),jw _ (by omega)];exact ⟨_,rfl,rfl⟩
 ·rw [ho,aov] at hlo hhi
  dsimp only at hlo hhi
  unfold gRs11 gRsP
  simp only [ho,Int.reduceEq,decide_false,decide_true,ap2,ap1]
  rw [fV _ _ (by omega),iN (by rintro rfl;simp at hlo) hl (by decide)];exact ⟨_,rfl,rfl⟩
 ·rw [ho,anC] at hlo hhi
  dsimp only at hlo hhi
  unfold gRs11 gRsP
  simp only [ho,Int.reduceEq,decide_false,decide_true,ap2,ap1]
  rw [fV _ _ (by omega),iN (by rintro rfl;simp at hlo) hl (by decide)];exact ⟨_,rfl,rfl⟩
 ·rw [ho,ang] at hlo hhi
  dsimp only at hlo hhi
  unfold gRs11 gRsP
  simp only [ho,Int.reduceEq,decide_false,decide_true,ap2,ap1]
  rw [fV _ _ (by omega),iN (by rintro rfl;simp at hlo) hl (by decide)];exact ⟨_,rfl,rfl⟩
 ·rw [ho,aos] at hlo hhi
  dsimp only at hlo hhi
  unfold gRs11 gRsP
  simp only [ho,Int.reduceEq,decide_false,decide_true,ap2,ap1]
  rw [fV _ _ (by omega),iN (by rintro rfl;simp at hlo) hl (by decide)];exact ⟨_,rfl,rfl⟩
 ·rw [ho,anz] at hlo hhi
  dsimp only at hlo hhi
  unfold gRs11 gRsP
  simp only [ho,Int.reduceEq,decide_false,decide_true,ap2,ap1]
  rw [fV _ _ (by omega),iN (by rintro rfl;simp at hlo) hl (by decide)];exact ⟨_,rfl,rfl⟩
 ·rw [ho,apB] at hlo hhi
  dsimp only at hlo hhi
  unfold gRs11 gRsP
  simp only [ho,Int.reduceEq,decide_false,decide_true,ap2,ap1]
  rw [fV _ _ (by omega),iN (by rintro rfl;simp at hlo) hl (by decide)];exact ⟨_,rfl,rfl⟩
 ·rw [ho,ao7] at hlo hhi
  dsimp only at hlo hhi
  unfold gRs11 gRsP
  simp only [ho,Int.reduceEq,decide_false,decide_true,ap2,ap1]
  rw [fV _ _ (by omega),iN (by rintro rfl;simp at hlo) hl (by decide)];exact ⟨_,rfl,rfl⟩
 ·rw [ho,apE] at hlo hhi
  dsimp only at hlo hhi
  unfold gRs11 gRsP
  simp only [ho,Int.reduceEq,decide_false,decide_true,ap2,ap1]
  rw [fV _ _ (by omega),iN (by rintro rfl;simp at hlo) hl (by decide)];exact ⟨_,rfl,rfl⟩
 ·rw [ho,ao'] at hlo hhi
  dsimp only at hlo hhi
  unfold gRs11 gRsP
  simp only [ho,Int.reduceEq,decide_false,decide_true,ap2,ap1]
  exact ⟨_,rfl,rfl⟩
 ·rw [ho,alF] at hlo hhi
  dsimp only at hlo hhi
  unfold gRs11 gRsP
  simp only [ho,Int.reduceEq,decide_false,decide_true,ap2,ap1]
  obtain ⟨a,b,c,rfl⟩:=akI (l:=l) (by omega)
  rw [show l6 [a,b,c] (1:Int) ((([a,b,c].length:Nat)):Int)=some [b,c] from rfl,show l6 [a,b,c] (0:Int) (1:Int)=some [a] from rfl]
  simp only [apZ]
  rw [p9 _ (by simp),jw _ (by simp)]
  simp only [apZ]
  rw [fV _ _ (by simp),iN (by simp) (by simp) (by decide)]
  cases (al5 (QG 0 [b,c])).2<;>exact ⟨_,rfl,rfl⟩
 ·rw [ho,api] at hlo hhi
  dsimp only at hlo hhi
  unfold gRs11 gRsP
  simp only [ho,Int.reduceEq,decide_false,decide_true,ap2,ap1]
  rw [p9 _ (by omega),jw _ (by omega)];exact ⟨_,rfl,rfl⟩
 ·rw [ho,apu] at hlo hhi
  dsimp only at hlo hhi
  unfold gRs11 gRsP
  simp only [ho,Int.reduceEq,decide_false,decide_true,ap2,ap1]
  rw [fV _ _ (by omega),iN (by rintro rfl;simp at hlo) hl (by decide)];exact ⟨_,rfl,rfl⟩
theorem Ns (e:Ex) (kinds:List Int) (rec:Ex->List Int->Option (Int × Int)) (hrec : ∀ x∈e.args, ∃ c,rec x kinds=some c) (hlen:e.args.length<=100000) :
  ∀ (N i:Nat) (s:List Int),s.length=i->i<=e.args.length->e.args.length-i<N -> ∃ r,az (dZ e kinds rec) N (s,(i:Int))=some r /\ ∀ t j,r = .inl (t,j)->t.length=e.args.length
 | 0,i,s,_,_,h=>by omega
 | N+1,i,s,hs,hi,hN=>by
  rw [az]
  by_cases hlt:i<e.args.length
  ·obtain ⟨x,hx⟩:=gol_ hlt
   obtain ⟨c,hc⟩:=hrec x (ap6 hx)
   by_cases h0:c.2=0
   ·have hb:dZ e kinds rec (s,(i:Int))=some (.next (s++[c.1],((i+1:Nat):Int))):=by
     unfold dZ
     dsimp only
     rw [bf hx,ap2,gn_ hx,apZ,hc,apZ,ap3 (show ¬ c.2≠0 by omega),ap1,ap4 (by omega),ap2,wrapN (by omega)]
    rw [hb]
    exact Ns e kinds rec hrec hlen N (i+1) (s++[c.1]) (by rw [ap8,hs];rfl) (by omega) (by omega)
   ·have hb:dZ e kinds rec (s,(i:Int))=some (.ret (0,c.2)):=by
     unfold dZ
     dsimp only
     rw [bf hx,ap2,gn_ hx,apZ,hc,apZ,ap4 (show c.2≠0 from h0),ap2]
    rw [hb]
    exact ⟨_,rfl,fun t j h=>by cases h⟩
  ·have:i=e.args.length:=by omega
   subst this
   have hb:dZ e kinds rec (s,((e.args.length:Nat):Int))=some (.exit (s,((e.args.length:Nat):Int))):=by
    unfold dZ
    dsimp only
    rw [lF_,ap1]
   rw [hb]
   exact ⟨_,rfl,fun t j h=>by injection h with h;injection h with h _;rw [<- h];exact hs⟩
theorem Pn (kinds:List Int) : ∀ (n:Nat) (e:Ex),lF n e -> ∃ c,nI n e kinds=some c/\yH n e kinds=some c
 | 0,_,h=>h.elim
 | n+1,e,h=>by
  have hx : ∀ x∈e.args, ∃ c,nI n x kinds=some c/\yH n x kinds=some c:=fun x hx=>Pn kinds n x (h.2 x hx)
  have hb:uL e kinds (yH n)=dZ e kinds (nI n):=by
   funext s
   obtain ⟨l,i⟩:=s
   unfold uL dZ
   dsimp only
   cases hg:aT e.args i with
   | none=>rfl
   | some x =>
    obtain ⟨c,c1,c2⟩:=hx x (ap6 (nW hg).2)
    simp only [apZ]
    rw [c1,c2]
  obtain ⟨a1,a2,a3,a4⟩:=Bj e.op ((e.args.length:Nat):Int) (by have:=h.1;omega)
  show ∃ c,wQ (nI n) e kinds=some c/\Bt (yH n) e kinds=some c
  unfold wQ Bt
  rw [a1,a2,apZ,apZ]
  dsimp only
  by_cases h00:(oQ e.op).1<0
  ·rw [ap4 h00,ap3 (show ¬ 0<=(oQ e.op).1 by omega),ap2]
   exact ⟨_,rfl,rfl⟩
  have h0:0<=(oQ e.op).1:=by omega
  rw [ap3 (show ¬ (oQ e.op).1<0 by omega),ap4 h0,Bool.not_true,ap1,ap1,Kr h.1,NW h.1,apZ,apZ]
  cases hf:zP e with
  | false=>exact ⟨_,rfl,rfl⟩
  | true =>
   rw [Bool.not_true,ap1,ap1]
   obtain ⟨hops,hlo,hhi,hrest⟩:=Eu h.1 hf
   by_cases o2:e.op=2
   ·rw [ap4 o2,ap2,ap2]
    by_cases i0:e.int<0
    ·rw [ap4 i0];exact ⟨_,rfl,rfl⟩
    rw [ap3 i0,ap1,ap1]
    by_cases i1:((kinds.length:Nat):Int)<=e.int
    ·rw [ap4 i1];exact ⟨_,rfl,rfl⟩
    rw [ap3 i1,ap1,ap1]
    obtain ⟨x,hx1⟩:=gol_ (l:=kinds) (i:=e.int.toNat) (by omega)
    have hg:aT kinds e.int=some x:=by unfold aT;rw [if_pos (by omega)];exact hx1
    rw [o2,ar2] at hhi
    dsimp only at hhi
    have hz:e.args.length=0:=by omega
    have hbr:az (qI e kinds (nI n)) fuel ([],(0:Int))=some (.inl ([],0)):=by
     have:fuel=(fuel-1)+1:=rfl
     rw [this,az]
     unfold qI
     dsimp only
     rw [hz,show decide ((0:Int)<((0:Nat):Int))=false from rfl,ap1]
    rw [hbr,hg]
    refine ⟨(x,0),?_,rfl⟩
    show (gRs11 e [] kinds).bind _=_
    unfold gRs11
    rw [o2,show decide ((2:Int)=1)=false from rfl,show decide ((2:Int)=2)=true from rfl,ap1,ap2,hg]
    rfl
   ·rw [ap3 o2,ap1,ap1,hb]
    obtain ⟨r,hr,hk⟩:=Ns e kinds (nI n) (fun x hm=>(hx x hm).imp fun c hc=>hc.1) h.1 fuel 0 [] rfl (aqj _) (by unfold fuel;have:=h.1;omega)
    rw [show ((0:Nat):Int)=0 from rfl] at hr
    rw [hr,apZ,apZ]
    cases r with
    | inr q=>exact ⟨q,rfl,rfl⟩
    | inl p =>
     obtain ⟨t,j⟩:=p
     have ht:=hk t j rfl
     obtain ⟨q,q1,q2⟩:=Zc (e:=e) (l:=t) (kinds:=kinds) (by rw [ht];exact hlo) (by rw [ht];exact hhi) (by rw [ht];exact h.1) (by omega)
     unfold kL mO
     dsimp only
     rw [q1,q2,apZ]
     cases q.2<;>exact ⟨_,rfl,rfl⟩
theorem WE {e:Ex} (kinds:List Int) (h:lF fuel e) : ∃ c,EI e kinds=some c/\SS e kinds=some c:=by
 obtain ⟨d,d1,d2,d3,d4⟩:=OE fuel e (by unfold fuel;omega) h
 obtain ⟨c,c1,c2⟩:=Pn kinds fuel e h
 unfold EI SS adc
 rw [d1,d4 25 (by omega) (by omega),c1,c2]
 simp only [apZ]
 by_cases hd:(24:Int)<d
 ·rw [ap4 hd,ap4 (show (24:Int)<min d 25 by omega)];exact ⟨_,rfl,rfl⟩
 ·rw [ap3 hd,ap3 (show ¬ (24:Int)<min d 25 by omega)];exact ⟨_,rfl,rfl⟩
set_option maxHeartbeats 8000000
noncomputable section
def oI (a_e:Ex) (a_row:(List Val)):Option (Int):=(l9 fuel a_e a_row).bind fun r_1=>(jR r_1).bind fun r_2=>some r_2
theorem qJ {a_e:Ex} {a_row:(List Val)} {r:Int} (H:oI a_e a_row=some r):Pure Tryz.prog 70 [.agg (tE a_e), .one (.lst (a_row.map cV))] (.val (.one (.int .i64 r))):=by
 unfold oI at H
 rw [aL a_e]
 refine po_ Tryz.func70 Tryz.ntmps70 ?_
 obtain ⟨r_1,c1,H⟩:=bd_ H
 replace c1:=SY fuel c1
 try simp only [aqb,ap',aqd,ap5,aL] at c1
 obtain ⟨r_2,c2,H⟩:=bd_ H
 replace c2:=oo c2
 cases H
 exact aK
def jy (a_r:bH):(Int)->Option (Step (Int) (Bool)):=fun s=>match s with
 | i_1=>bif (decide (i_1<((a_r.facts.length:Nat):Int))) then (aT a_r.facts i_1).bind fun x_3=>(dX x_3.valid).bind fun r_4=>bif (!r_4) then some (.ret false) else
 (Bg x_3.row a_r.kinds).bind fun r_6=>bif (!r_6) then some (.ret false) else
 some (.next (IntKind.i64.wrap (i_1+(1:Int)))) else
 some (.exit i_1)
def iE (a_r:bH):Sum (Int) (Bool)->Option ((Bool))
 | .inl i_1=>bif (decide ((0:Int)<((a_r.kinds.length:Nat):Int))) then bif (decide (((a_r.kinds.length:Nat):Int)<=(48:Int))) then (MU a_r.kinds).bind fun r_10=>some r_10 else
 some false else
 some false
 | .inr q=>some q
def EW (a_r:bH):Option (Bool):=(az (jy a_r) fuel (0:Int)).bind (iE a_r)
theorem TK {a_r:bH} {r:Bool} (H:EW a_r=some r):Pure Tryz.prog 47 [.agg (bD a_r)] (.val (.one (.bool r))):=by
 unfold EW at H
 refine po_ Tryz.func47 Tryz.ntmps47 ?_
 refine bz ?_
 refine alM_ (fun s:Int=>match s with|i_1=>[(1, .one (.ptr 0 0)),(3, .one (.c (.int .i64 i_1)))]) (fun s=>match s with|i_1=>[.box [.c (.lst (a_r.kinds.map (fun x=>[AC.int .i64 x]))), .c (.lst (a_r.facts.map aU))]]) H (fun _=>aqj _)
  (fm_ bY [] rfl bA cz) ?_
 rintro i_1 st1 hb1 hk1
 unfold jy at hb1
 dsimp only at hb1 ⊢
 rcases af hb1 with ⟨q_2,hb1⟩|⟨q_2,hb1⟩
 ·obtain ⟨x_3,i1z,i1,i1x,hb1⟩:=bn (f:=aU) hb1
  obtain ⟨r_4,c2,hb1⟩:=bd_ hb1
  replace c2:=fC c2
  rcases af hb1 with ⟨q_5,hb1⟩|⟨q_5,hb1⟩
  ·cases hb1
   have hx1:iE a_r (.inr false)=some _:=hk1
   unfold iE at hx1
   dsimp only at hx1
   cases hx1
   exact aK
  obtain ⟨r_6,c3,hb1⟩:=bd_ hb1
  replace c3:=afd c3
  rcases af hb1 with ⟨q_7,hb1⟩|⟨q_7,hb1⟩
  ·cases hb1
   have hx1:iE a_r (.inr false)=some _:=hk1
   unfold iE at hx1
   dsimp only at hx1
   cases hx1
   exact aK
  cases hb1
  refine bz ?_
  exact ⟨_,rfl,fm_ bY [] rfl bA cz⟩
 cases hb1
 have hx1:iE a_r (.inl i_1)=some _:=hk1
 unfold iE at hx1
 dsimp only at hx1
 rcases af hx1 with ⟨q_8,hx1⟩|⟨q_8,hx1⟩
 ·rcases af hx1 with ⟨q_9,hx1⟩|⟨q_9,hx1⟩
  ·obtain ⟨r_10,c4,hx1⟩:=bd_ hx1
   replace c4:=afJ c4
   cases hx1
   exact aK
  cases hx1
  exact aK
 cases hx1
 exact aK
def vk (a_a:bH) (a_b:bH):Option (Bool):=(oG a_a.kinds a_b.kinds).bind fun r_1=>bif r_1 then (Cc a_a.facts a_b.facts).bind fun r_3=>some r_3 else
 some false
theorem xk {a_a:bH} {a_b:bH} {r:Bool} (H:vk a_a a_b=some r):Pure Tryz.prog 17 [.agg (bD a_a), .agg (bD a_b)] (.val (.one (.bool r))):=by
 unfold vk at H
 refine po_ Tryz.func17 Tryz.ntmps17 ?_
 obtain ⟨r_1,c1,H⟩:=bd_ H
 replace c1:=DV c1
 rcases af H with ⟨q_2,H⟩|⟨q_2,H⟩
 ·obtain ⟨r_3,c2,H⟩:=bd_ H
  replace c2:=Ir c2
  cases H
  exact aK
 cases H
 exact aK
end
def JF (e:Ex) (row:List Val):Val:=(l9 fuel e row).getD dH
theorem val_ok {e:Ex} (h:lF fuel e) (row:List Val):l9 fuel e row=some (JF e row)/\BO fuel e row=some (JF e row)/\vF (JF e row)=true:=by
 obtain ⟨v,h1,h2,h3⟩:=Sz row fuel e h
 unfold JF
 rw [h1];exact ⟨rfl,h2,h3⟩
def lY (e:Ex) (row:List Val):Bool:=decide (tF_ (JF e row)=2)
theorem Zt {e:Ex} (h:lF fuel e) (row:List Val):LV e row=some (tF_ (JF e row)):=by
 unfold LV
 rw [(val_ok h row).2.1,apZ,l7];rfl
theorem yG {e:Ex} (h:lF fuel e) (row:List Val):oI e row=some (tF_ (JF e row)):=by
 unfold oI
 rw [(val_ok h row).1,apZ,sS];rfl
theorem ZR {e:Ex} (kinds:List Int) (h:lF fuel e) : ∃ n,Db e kinds=some n:=by
 obtain ⟨c,c1,_⟩:=WE kinds h
 unfold Db
 rw [c1,apZ]
 cases decide (c.2≠0)<;>cases decide (c.1≠3)<;>cases decide (c.1≠0)<;>exact ⟨_,rfl⟩
set_option maxHeartbeats 8000000
noncomputable section
theorem ZA {a_l:(List aC)} {a_f:(List aP)->Option ((List aP))} {r:(List aC)} {F_a_f:FuncId} {caps_a_f:List AC} (hf_a_f : ∀ (y0:(List aP)) (r:(List aP)),a_f y0=some r->Pure Tryz.prog F_a_f ([.one (.lst (y0.map bv))]++caps_a_f.map .one) (.val (.one (.lst (r.map bv))))) (H:Iz a_l a_f=some r):Run Tryz.prog 145 [] [.one (.c (.lst (a_l.map aU))), .one (.c (.fn F_a_f caps_a_f))] [.spare r.length 3] (.one (.own (r.map aU) 0)):=by
 unfold Iz at H
 refine bP tab_ok Tryz.func145 rfl rfl Tryz.ntmps145 (by simp) ?_
 simp only [iH]
 obtain ⟨r_1,c1,H⟩:=bd_ H
 replace c1:=Ph c1
 refine bz ?_
 refine dC 5 3 rfl ?_
 refine alM_ (fun s:(List aC) × Int=>match s with|(out_2,v_3)=>[(1, .one (.c (.fn F_a_f caps_a_f))),(5, .one (.own (out_2.map aU) 0)),(11, .one (.c (.lst (r_1.map ah)))),(12, .one (.c (.int .i64 ((r_1.length:Nat):Int)))),(13, .one (.c (.int .i64 v_3)))]) (fun s=>match s with|(out_2,v_3)=>[.spare out_2.length 3]) H (fun _=>aqj _)
  (fm_ bY [] rfl bA cz) ?_
 rintro ⟨out_2,v_3⟩ st3 hb3 hk3
 unfold vX at hb3
 dsimp only at hb3 ⊢
 rcases af hb3 with ⟨q_4,hb3⟩|⟨q_4,hb3⟩
 ·obtain ⟨x_5,i2z,i2,i2x,hb3⟩:=bn (f:=ah) hb3
  obtain ⟨r_6,c3,hb3⟩:=bd_ hb3
  replace c3:=hf_a_f _ _ c3
  try simp only [aqb,ap',aqd,ap5,aL] at c3
  refine bz ?_
  refine alM_ (fun s:(List aC) × Int=>match s with|(out_7,v_8)=>[(1, .one (.c (.fn F_a_f caps_a_f))),(5, .one (.own (out_7.map aU) 0)),(7, .one (.ptr 1 0)),(11, .one (.c (.lst (r_1.map ah)))),(12, .one (.c (.int .i64 ((r_1.length:Nat):Int)))),(13, .one (.c (.int .i64 v_3))),(20, .one (.c (.lst (r_6.map bv)))),(21, .one (.c (.int .i64 ((r_6.length:Nat):Int)))),(22, .one (.c (.int .i64 v_8)))]) (fun s=>match s with|(out_7,v_8)=>[.spare out_7.length 3, .box [.c (.lst (x_5.row.map cV)), .c (.lst (x_5.periods.map bv))]]) hb3 (fun _=>aqj _)
   (fm_ bY [] rfl bA cz) ?_
  rintro ⟨out_7,v_8⟩ st4 hb4 hk4
  unfold xq at hb4
  dsimp only at hb4 ⊢
  rcases af hb4 with ⟨q_9,hb4⟩|⟨q_9,hb4⟩
  ·obtain ⟨x_10,i4z,i4,i4x,hb4⟩:=bn (f:=bv) hb4
   obtain ⟨g5,hb4⟩:=aS hb4
   obtain ⟨g6,hb4⟩:=aS hb4
   cases hb4
   refine bz ?_
   exact ⟨_,rfl,fm_ jD [_,_] iR bA cz⟩
  cases hb4
  have hx4:xe v_3 (.inl (out_7,v_8))=some _:=hk4
  unfold xe at hx4
  dsimp only at hx4
  cases hx4
  refine bz ?_
  exact ⟨_,rfl,fm_ jD [_] iR bA cz⟩
 cases hb3
 have hx3:qZ (.inl (out_2,v_3))=some _:=hk3
 unfold qZ at hx3
 dsimp only at hx3
 cases hx3
 exact am3
end
theorem Xv {r:List Val} {R:List (List Val)} (h:Tj (r::R)):r∉R:=by
 intro hr
 have:=List.rel_of_pairwise_cons h hr
 rw [tCr_.refl] at this
 omega
theorem ad5 (s t:List aC) (r:List Val):bO (s++t) r=bO s r++bO t r:=by unfold bO;rw [List.filter_append,aqb]
theorem O6 (r:List Val) : ∀ ps:List aP,(∀ p∈ps,St.a_ (toP p)=true)->bO (ps.map fun p=>(⟨r,p⟩:aC)) r=ps
 | [],_=>rfl
 | p::ps,h=>by
  have ih:=O6 r ps fun q hq=>h q (aqm _ hq)
  have hp:aD p=true:=h p (aqM ..)
  unfold bO at ih ⊢
  rw [ap',List.filter_cons_of_pos (by simp [hp]),ap',ih]
theorem XJ {r x:List Val} (hx:x≠r) (ps:List aP):bO (ps.map fun p=>(⟨x,p⟩:aC)) r=[]:=by
 unfold bO
 rw [List.map_eq_nil_iff,List.filter_eq_nil_iff]
 intro f hf h
 obtain ⟨p,_,rfl⟩:=aqz.1 hf
 simp only [aqg,decide_eq_true_eq] at h
 exact hx h.2
theorem Ez (L:List Val->List aP) (hL : ∀ r, ∀ p∈L r,St.a_ (toP p)=true) : ∀ (R:List (List Val)),Tj R -> ∀ r,bO (R.flatMap fun r=>(L r).map fun p=>(⟨r,p⟩:aC)) r=if r∈R then L r else []
 | [],_,r=>rfl
 | x::R,h,r=>by
  have ih:=Ez L hL R (List.Pairwise.of_cons h) r
  rw [aqC,ad5,ih]
  by_cases hx:x=r
  ·subst hx
   rw [O6 x _ (hL x),if_neg (Xv h),if_pos (aqM ..),aqy]
  ·rw [XJ hx,ap5]
   by_cases hr:r∈R
   ·rw [if_pos hr,if_pos (aqm _ hr)]
   ·rw [if_neg hr,if_neg (by intro h;rcases aqf.1 h with h|h;exact hx h.symm;exact hr h)]
theorem PP {α:Type} (p:α->Bool) : ∀ l:List α,(l.filter p).length+(l.filter fun x => !p x).length=l.length
 | []=>rfl
 | x::l=>by
  have:=PP p l
  rw [List.filter_cons,List.filter_cons]
  cases h:p x<;>simp<;>omega
theorem ahD (l:List aC) (r:List Val):(bO l r).length<=(l.filter fun f=>decide (f.row=r)).length:=by
 unfold bO
 rw [aqa]
 induction l with
 | nil=>exact aqe _
 | cons f l ih =>
  rw [List.filter_cons,List.filter_cons]
  cases aD f.valid<;>cases decide (f.row=r)<;>simp<;>omega
theorem aa' {r x:List Val} (h:x≠r) (l:List aC):bO l x=bO (l.filter fun f => !decide (f.row=r)) x:=by
 unfold bO
 rw [List.filter_filter]
 congr 1
 apply List.filter_congr
 intro f _
 by_cases hx:f.row=x
 ·have:f.row≠r:=fun e=>h (hx.symm.trans e)
  simp [hx,h]
 ·simp [hx]
theorem RL : ∀ (R:List (List Val)) (l:List aC),Tj R->(R.flatMap fun r=>bO l r).length<=l.length
 | [],l,_=>aqj _
 | r::R,l,h=>by
  rw [aqC,ap8]
  have e:(R.flatMap fun x=>bO l x)=R.flatMap fun x=>bO (l.filter fun f => !decide (f.row=r)) x:=by
   rw [List.flatMap_def,List.flatMap_def]
   congr 1
   refine List.map_congr_left fun x hx=>aa' ?_ l
   rintro rfl
   exact Xv h hx
  rw [e]
  have h1:=RL R (l.filter fun f => !decide (f.row=r)) (List.Pairwise.of_cons h)
  have h2:=ahD l r
  have h3:=PP (fun f:aC=>decide (f.row=r)) l
  omega
theorem gZ {α β γ:Type} (f:α->List β) (g:α->List γ) : ∀ l:List α,(∀ x∈l,(f x).length<=(g x).length)->(l.flatMap f).length<=(l.flatMap g).length
 | [],_=>aqe _
 | x::l,h=>by
  rw [aqC,aqC,ap8,ap8]
  have:=h x (aqM ..)
  have:=gZ f g l fun y hy=>h y (aqm _ hy)
  omega
theorem iG (l:List aC) (r:List Val):(bO l r).length<=l.length:=by
 unfold bO;rw [aqa];exact List.length_filter_le _ _
theorem abJ {l:List aC} {R:List (List Val)} (h:gQ l R) {r:List Val} (hr:r∉R):bO l r=[]:=by
 unfold bO
 rw [List.map_eq_nil_iff,List.filter_eq_nil_iff]
 intro f hf hc
 rw [aqg] at hc
 exact hr ((h.2 r).2 ⟨f,hf,hc.1,aqs hc.2⟩)
section
variable {l:List aC} {R:List (List Val)} (h:gQ l R) (hn:l.length<=300)
include h hn
theorem ake:(gM l R).length<=l.length:=by
 refine Nat.le_trans ?_ (RL R l h.1)
 refine gZ _ _ _ fun r _=>?_
 rw [aqa]
 exact ada _ (Nat.le_trans (iG l r) hn)
theorem acZ (r:List Val):bO (gM l R) r=if r∈R then cK (bO l r) else [] :=
 Ez (fun r=>cK (bO l r)) (fun r p hp=>mX _ (Nat.le_trans (iG l r) hn) p hp) R h.1 r
end
def aR (l:List aC) (t:Int):List (List Val):=(l.filter fun f=>aY f.valid t).map (·.row)
theorem Ar (t:Int) (r:List Val) : ∀ l:List aC,(aR l t).count r=fe (bO l r) t
 | []=>rfl
 | f::l=>by
  have ih:=Ar t r l
  unfold aR at ih ⊢
  have e:bO (f::l) r=(if (aD f.valid&&decide (f.row=r))=true then [f.valid] else [])++bO l r:=by
   unfold bO
   rw [List.filter_cons]
   split<;>simp
  rw [List.filter_cons,e]
  by_cases hc:aY f.valid t=true
  ·have hv:aD f.valid=true:=by
    have:=hc
    rw [uf,aqg] at this
    exact this.1
   rw [if_pos hc,ap',List.count_cons,ih]
   by_cases hr:f.row=r
   ·simp only [hv,hr,decide_true,Bool.and_self,if_true,List.cons_append,ap5,beq_self_eq_true]
    rw [gU,if_pos hc];omega
   ·simp [hr]
  ·rw [if_neg hc,ih]
   split
   ·rw [List.cons_append,ap5,gU,if_neg hc,aqH]
   ·rfl
theorem aml {l:List aC} {R:List (List Val)} (h:gQ l R) (hn:l.length<=300) (t:Int):(aR (gM l R) t).Perm (aR l t):=by
 rw [List.perm_iff_count]
 intro r
 rw [Ar,Ar,acZ h hn r]
 split
 ·exact GM _ (Nat.le_trans (iG l r) hn) t
 ·rename_i hr
  rw [abJ h hr]
open Go.RowKit
theorem fB (a b:List aC) (t:Int):aR (a++b) t=aR a t++aR b t:=by unfold aR;rw [List.filter_append,aqb]
theorem ai1 {ps:List aP} {p:aP} (hp:p∈ps) {t:Int} (h:aY p t=true):0<fe ps t:=by
 unfold fe
 exact List.length_pos_of_mem (List.mem_filter.2 ⟨hp,h⟩)
theorem acW {l:List aC} {R:List (List Val)} (h:gQ l R) (r:List Val):r∈R ↔ ∃ t,0<fe (bO l r) t:=by
 constructor
 ·intro hr
  obtain ⟨f,hf,hv,e⟩:=(h.2 r).1 hr
  have hp:f.valid∈bO l r:=aqz.2 ⟨f,List.mem_filter.2 ⟨hf,by simp [hv,e]⟩,rfl⟩
  have hV:=(Ji f.valid).1 (show St.a_ (toP f.valid)=true from hv)
  exact ⟨f.valid.lo,ai1 hp ((eO hV _).2 ⟨Int.le_refl _,hV.2.1⟩)⟩
 ·rintro ⟨t,ht⟩
  refine Classical.byContradiction fun hr=>?_
  rw [abJ h hr] at ht
  exact absurd ht (by simp [fe])
theorem adN {ps qs:List aP} (hn:ps.length<=300) (hm:qs.length<=300) (h : ∀ t,fe ps t=fe qs t):cK ps=cK qs:=by
 have hc : ∀ t,fe (cK ps) t=fe (cK qs) t:=fun t=>by rw [GM ps hn,GM qs hm,h]
 exact Ey (yR ps) (yR qs) (Qa _ (cK ps) (cK qs) rfl (LK ps hn) (LK qs hm) (fun p hp=>(Ji p).1 (mX ps hn p hp)) (fun p hp=>(Ji p).1 (mX qs hm p hp)) hc)
theorem ajH {l m:List aC} {R T:List (List Val)} (h:gQ l R) (k:gQ m T) (hl:l.length<=300) (hm:m.length<=300) (hp : ∀ t,(aR l t).Perm (aR m t)):gM l R=gM m T:=by
 have hc : ∀ r t,fe (bO l r) t=fe (bO m r) t:=fun r t=>by rw [<- Ar, <- Ar];exact (hp t).count_eq r
 have hR:R=T:=Iw h.1 k.1 fun r=>by rw [acW h,acW k];simp only [hc]
 subst hR
 unfold gM
 rw [List.flatMap_def,List.flatMap_def]
 congr 1
 refine List.map_congr_left fun r _=>?_
 rw [adN (Nat.le_trans (iG l r) hl) (Nat.le_trans (iG m r) hm) (hc r)]
noncomputable def ala (l:List aC):List (List Val):=Classical.choose (Qg l)
theorem sW (l:List aC):gQ l (ala l):=(Classical.choose_spec (Qg l)).1
noncomputable def canon (l:List aC):List aC:=gM l (ala l)
theorem P5 {l:List aC} {R:List (List Val)} (h:gQ l R):gM l R=canon l:=by unfold canon;rw [gQ.ext h (sW l)]
theorem oD {l:List aC} (hn:l.length<=300):(canon l).length<=l.length:=ake (sW l) hn
theorem pF {l:List aC} (hn:l.length<=300) (t:Int):(aR (canon l) t).Perm (aR l t):=aml (sW l) hn t
theorem Cg {l m:List aC} (hl:l.length<=300) (hm:m.length<=300) (hp : ∀ t,(aR l t).Perm (aR m t)):canon l=canon m:=ajH (sW l) (sW m) hl hm hp
theorem Dy {l:List aC} (hn:l.length<=300) {f:aC} (h:f∈canon l):aD f.valid=true /\ ∃ g∈l,g.row=f.row:=by
 unfold canon gM at h
 obtain ⟨r,hr,h⟩:=List.mem_flatMap.1 h
 obtain ⟨p,hp,rfl⟩:=aqz.1 h
 obtain ⟨g,hg,_,e⟩:=((sW l).2 r).1 hr
 exact ⟨mX _ (Nat.le_trans (iG l r) hn) p hp,g,hg,e⟩
theorem cB {l:List aC} (h:bU l):bU (canon l):=by
 have hn:l.length<=300:=by have:=h.1;omega
 refine ⟨Nat.le_trans (oD hn) h.1,fun f hf=>?_⟩
 obtain ⟨_,g,hg,e⟩:=Dy hn hf
 rw [<- e];exact h.2 g hg
theorem sj {l:List aC} (h:bU l):ya l=some (canon l):=by
 obtain ⟨R,hR,e⟩:=acA l h
 rw [e,P5 hR]
theorem Xe {l:List aC} (hn:l.length<=300) (hr : ∀ f∈l,f.row.length<=1000000):tJ l=some (canon l):=by
 obtain ⟨R,hR,e,_⟩:=Y7 l hn hr
 rw [e,P5 hR]
theorem CL {l:List aC} (h:bU l) : ∀ f∈l,f.row.length<=1000000:=fun f hf=>by have:=(h.2 f hf).1;omega
theorem mF {l:List aC} (h:bU l):tJ l=some (canon l):=Xe (by have:=h.1;omega) (CL h)
theorem Az {l:List aC} (h:bU l):Cc l l=some true:=Xi l (by have:=h.1;omega) (CL h)
theorem uR {r:bH} (hk:r.kinds.length<=1000000) (h:bU r.facts):vk r r=some true:=by
 unfold vk
 rw [zU _ hk,apZ,ap2,Az h];rfl
structure Wt (r:bH):Prop where
 len:r.facts.length<=16
 kinds:r.kinds.length<=48
 per : ∀ f∈r.facts,aD f.valid=true
 row : ∀ f∈r.facts,f.row.length=r.kinds.length
 val : ∀ f∈r.facts, ∀ v∈f.row,vF v=true
theorem Wt.fcts {r:bH} (h:Wt r):bU r.facts:=⟨by have:=h.len;omega,fun f hf=>⟨by rw [h.row f hf];have:=h.kinds;omega,fun v hv=>(A9 (h.val f hf v hv)).vok⟩⟩
theorem aaL {row:List Val} {kinds:List Int} (hk:kinds.length<=1000000) : ∃ b,Bg row kinds=some b/\(b=true->row.length=kinds.length /\ ∀ v∈row,vF v=true):=by
 by_cases he:row.length=kinds.length
 ·obtain ⟨b,hb⟩:=ae_ row kinds (by omega)
  refine ⟨b,hb,fun hbt=>⟨he,?_⟩⟩
  subst hbt
  unfold Bg at hb
  rw [show decide (((row.length:Nat):Int)≠((kinds.length:Nat):Int))=false from ap3 (by omega),ap1] at hb
  have key : ∀ (n i:Nat),i<=row.length->row.length-i<n->(az (kY row kinds) n (i:Int)).bind mI=some true -> ∀ v∈row.drop i,vF v=true:=by
   intro n
   induction n with
   | zero=>intro i _ h;omega
   | succ n ih =>
    intro i hi hn hb v hv
    rw [az] at hb
    by_cases hlt:i<row.length
    ·obtain ⟨x,hx⟩:=gol_ hlt
     obtain ⟨k,hk⟩:=gol_ (l:=kinds) (i:=i) (by omega)
     have h1:kY row kinds (i:Int)=bif (!vF x) then some (.ret false) else bif decide (x.kind≠0) then bif decide (x.kind≠k) then some (.ret false) else some (.next ((i+1:Nat):Int)) else some (.next ((i+1:Nat):Int)):=by
      unfold kY
      dsimp only
      rw [bf hx,ap2,gn_ hx,gn_ hk]
      simp only [apZ]
      rw [mi,apZ,wrapN (by omega)]
     have hd:row.drop i=x::row.drop (i+1):=by rw [aqv hlt,(ap0.1 hx).2]
     rw [hd] at hv
     cases hvx:vF x with
     | false=>rw [h1,hvx] at hb;exact absurd (show (some false:Option Bool)=some true from hb) (by decide)
     | true =>
      have h2:kY row kinds (i:Int)=some (.next ((i+1:Nat):Int)):=by
       rw [h1,hvx,Bool.not_true,ap1]
       cases c1:decide (x.kind≠0) with
       | false=>rfl
       | true =>
        cases c2:decide (x.kind≠k) with
        | false=>rfl
        | true=>rw [h1,hvx,Bool.not_true,ap1,c1,c2] at hb;exact absurd (show (some false:Option Bool)=some true from hb) (by decide)
      rw [h2] at hb
      rcases aqf.1 hv with rfl|hv
      ·exact hvx
      ·exact ih (i+1) (by omega) (by omega) hb v hv
    ·rw [List.drop_eq_nil_of_le (by omega)] at hv;cases hv
  exact fun v hv=>key fuel 0 (aqj _) (by unfold fuel;omega) hb v (by rw [List.drop_zero];exact hv)
 ·refine ⟨false,?_,fun h=>by cases h⟩
  unfold Bg
  rw [show decide (((row.length:Nat):Int)≠((kinds.length:Nat):Int))=true from ap4 (by omega)];rfl
theorem M7 {r:bH} (hl:r.facts.length<=1000) (hk:r.kinds.length<=48) : ∃ b,EW r=some b/\(b=true->(∀ f∈r.facts,aD f.valid=true)/\(∀ f∈r.facts,f.row.length=r.kinds.length) /\ ∀ f∈r.facts, ∀ v∈f.row,vF v=true):=by
 have key : ∀ (n i:Nat),i<=r.facts.length->r.facts.length-i<n -> ∃ b,(az (jy r) n (i:Int)).bind (iE r)=some b/\(b=true -> ∀ f∈r.facts.drop i,aD f.valid=true/\f.row.length=r.kinds.length /\ ∀ v∈f.row,vF v=true):=by
  intro n
  induction n with
  | zero=>intro i _ h;omega
  | succ n ih =>
   intro i hi hn
   rw [az]
   by_cases hlt:i<r.facts.length
   ·obtain ⟨x,hx⟩:=gol_ hlt
    have hd:r.facts.drop i=x::r.facts.drop (i+1):=by rw [aqv hlt,(ap0.1 hx).2]
    obtain ⟨b,hb,hb2⟩:=aaL (row:=x.row) (kinds:=r.kinds) (by omega)
    have h1:jy r (i:Int)=bif !(aD x.valid) then some (.ret false) else bif !b then some (.ret false) else some (.next ((i+1:Nat):Int)):=by
     unfold jy
     dsimp only
     rw [bf hx,ap2,gn_ hx,apZ,tL,apZ,hb,apZ,wrapN (by omega)]
    rw [h1]
    cases hp:aD x.valid with
    | false=>exact ⟨false,rfl,fun h=>by cases h⟩
    | true =>
     cases b with
     | false=>exact ⟨false,rfl,fun h=>by cases h⟩
     | true =>
      obtain ⟨c,hc,hc2⟩:=ih (i+1) (by omega) (by omega)
      refine ⟨c,hc,fun h f hf=>?_⟩
      rw [hd] at hf
      rcases aqf.1 hf with rfl|hf
      ·exact ⟨hp,hb2 rfl⟩
      ·exact hc2 h f hf
   ·have:i=r.facts.length:=by omega
    subst this
    have h1:jy r ((r.facts.length:Nat):Int)=some (.exit ((r.facts.length:Nat):Int)):=by
     unfold jy
     dsimp only
     rw [lF_,ap1]
    rw [h1]
    obtain ⟨b,hb⟩:=ad_ r.kinds (by omega)
    have : ∃ c,iE r (.inl ((r.facts.length:Nat):Int))=some c:=by
     unfold iE
     dsimp only
     rw [hb]
     cases decide ((0:Int)<((r.kinds.length:Nat):Int))<;>cases decide (((r.kinds.length:Nat):Int)<=48)<;>exact ⟨_,rfl⟩
    obtain ⟨c,hc⟩:=this
    refine ⟨c,hc,fun _ f hf=>?_⟩
    rw [aqU] at hf;cases hf
 obtain ⟨b,hb,hb2⟩:=key fuel 0 (aqj _) (by unfold fuel;omega)
 refine ⟨b,hb,fun h=>?_⟩
 have:=hb2 h
 rw [List.drop_zero] at this
 exact ⟨fun f hf=>(this f hf).1,fun f hf=>(this f hf).2.1,fun f hf=>(this f hf).2.2⟩
def dn (r:List Val) (ps:List aP):List aC:=ps.map fun p=>⟨r,p⟩
def cT (e:Ex) (x y:aC):Bool:=lY e (x.row++y.row)
def jnY (e:Ex) (x y:aC):List aC:=bif nQ x.valid y.valid&&cT e x y then [⟨x.row++y.row,vO x.valid y.valid⟩] else []
def jnX (e:Ex) (b:List aC) (x:aC):List aC:=b.flatMap (jnY e x)
def Ce (e:Ex) (a b:List aC):List aC:=a.flatMap (jnX e b)
def alX (e:Ex) (n:Nat) (b:List aC) (x:aC):List aC:=dn (x.row++List.replicate n dH) (lq (cT e) b x)
def qz (e:Ex) (n:Nat) (a b:List aC):List aC:=a.flatMap (alX e n b)
theorem ajl (e:Ex) (x y:aC):(jnY e x y).length<=1:=by unfold jnY;cases nQ x.valid y.valid&&cT e x y<;>simp
theorem akp (e:Ex) (b:List aC) (x:aC):(jnX e b x).length<=b.length:=Gq _ (ajl e x) b
theorem xM {α β:Type} (g:α->List β) (k:Nat) : ∀ l:List α,(∀ x∈l,(g x).length<=k)->(l.flatMap g).length<=l.length*k
 | [],_=>by simp
 | x::l,h=>by
  have h1:=h x (by simp)
  have h2:=xM g k l fun y hy=>h y (by simp [hy])
  rw [aqC,ap8,aqk,Nat.add_mul]
  omega
theorem zK (e:Ex) {a b:List aC} (ha:a.length<=12) (hb:b.length<=12):(Ce e a b).length<=144:=by
 have:=xM (jnX e b) 12 a fun x _=>by have:=akp e b x;omega
 unfold Ce;omega
theorem y9 (e:Ex) (n:Nat) {a b:List aC} (ha:a.length<=12) (hb:b.length<=12) (hv : ∀ f∈a,aD f.valid=true):(qz e n a b).length<=156:=by
 have:=xM (alX e n b) 13 a fun x hx=>by
  have:=LW (c:=cT e) (b:=b) (hv x hx)
  unfold alX dn;rw [aqa];omega
 unfold qz;omega
theorem ai8 {e:Ex} {a b:List aC} {f:aC} (h:f∈Ce e a b) : ∃ x∈a, ∃ y∈b,f.row=x.row++y.row:=by
 obtain ⟨x,hx,h⟩:=List.mem_flatMap.1 h
 obtain ⟨y,hy,h⟩:=List.mem_flatMap.1 h
 refine ⟨x,hx,y,hy,?_⟩
 unfold jnY at h
 cases hc:nQ x.valid y.valid&&cT e x y with
 | false=>rw [hc] at h;cases h
 | true=>rw [hc,ap2,aqF] at h;rw [h]
theorem abU {e:Ex} {n:Nat} {a b:List aC} {f:aC} (h:f∈qz e n a b) : ∃ x∈a,f.row=x.row++List.replicate n dH:=by
 obtain ⟨x,hx,h⟩:=List.mem_flatMap.1 h
 obtain ⟨p,_,rfl⟩:=aqz.1 h
 exact ⟨x,hx,rfl⟩
set_option maxHeartbeats 8000000
noncomputable section
def GQ (a_kinds:(List Int)) (a_l:(List aC)):Option (bH):=bif (decide (a_kinds.length<=17592186044416)) then ((ya a_l).bind fun r_1=>some (⟨a_kinds,r_1⟩:bH)) else none
theorem Oq {a_kinds:(List Int)} {a_l:(List aC)} {r:bH} (H:GQ a_kinds a_l=some r):Pure Tryz.prog 54 [.one (.lst (a_kinds.map (fun x=>[AC.int .i64 x]))), .one (.lst (a_l.map aU))] (.val (.agg (bD r))):=by
 unfold GQ at H
 refine po_ Tryz.func54 Tryz.ntmps54 ?_
 obtain ⟨g1,H⟩:=aS H
 obtain ⟨r_1,c2,H⟩:=bd_ H
 replace c2:=acV c2
 cases H
 exact aK
end
def anW:TI := { tab with owns:=fun f=>f==160||tab.owns f }
theorem Gb:TIok Tryz.prog anW:=⟨tab_ok.size,tab_ok.agg,tab_ok.elem,tab_ok.field,tab_ok.zero,tab_ok.bytes,tab_ok.kind,tab_ok.struct,tab_ok.zok,tab_ok.eqs⟩
def anu:TI := { anW with soft:=true }
theorem GX:TIok Tryz.prog anu:=⟨tab_ok.size,tab_ok.agg,tab_ok.elem,tab_ok.field,tab_ok.zero,tab_ok.bytes,tab_ok.kind,tab_ok.struct,tab_ok.zok,tab_ok.eqs⟩
def aeQ (l:List aP) (p:aP):List aP:=match l.getLast? with
 | some q=>if p.lo<=q.hi then l.dropLast++[⟨q.lo,PW q.hi p.hi⟩] else l++[p]
 | none=>l++[p]
theorem Pd (p:aP):aeQ [] p=[p]:=rfl
theorem CW (l:List aP) (q p:aP):aeQ (l++[q]) p=if p.lo<=q.hi then l++[⟨q.lo,PW q.hi p.hi⟩] else (l++[q])++[p]:=by
 unfold aeQ;rw [List.getLast?_concat]
 simp only [List.dropLast_concat]
theorem af6 (l:List aP) (p:aP):(aeQ l p).length<=l.length+1:=by
 rcases Cs l with rfl|⟨m,q,rfl⟩
 ·rw [Pd];simp
 ·rw [CW];split<;>simp
theorem agv {l:List aP} {x y:Int} (h : ∀ p∈l,p.hi<=x) (hxy:x<y):aeQ l ⟨x,y⟩=yo l x y:=by
 rcases Cs l with rfl|⟨m,q,rfl⟩
 ·rfl
 ·have hq:=h q (by simp)
  rw [CW,Jz]
  by_cases hx:q.hi=x
  ·rw [if_pos (by show x<=q.hi;omega),if_pos hx,L_,show max q.hi (⟨x,y⟩:aP).hi=y by show max q.hi y=y;omega]
  ·rw [if_neg (by show ¬ x<=q.hi;omega),if_neg hx]
set_option maxHeartbeats 4000000 in
theorem aaG (l:List aP) (p:aP) (hl:l.length<=1000000):TQ Tryz.prog 160 (l.map bv) 2 [.agg (bv p)] ((aeQ l p).map bv):=by
 refine Ww Tryz.func160 rfl rfl Tryz.ntmps160 (by simp) ?_
 simp only [argT,PV.av,ap',aqd]
 rcases Cs l with rfl|⟨m,q,rfl⟩
 ·rw [Pd]
  repeat' (first
   | refine st_nil ?_
   | (refine aM rfl rfl rfl rfl ?_ ?_; · (repeat' (first|exact trivial|rfl|exact ap_ rfl|omega|exact aF (by intro _;rfl) _|(intro e he;simp at he;subst he;rfl)|(intro e he;obtain ⟨q,_,rfl⟩:=aqz.1 (aqW he);rfl)|(simp only [aqa];omega)|(simp only [aqa,aqQ];omega)|(simp only [aqa,ap8,aqQ,aqk,aqu];omega)|apply And.intro)))
   | (refine aN rfl rfl rfl rfl ?_ ?_; · (repeat' (first|exact trivial|rfl|exact ap_ rfl|omega|exact aF (by intro _;rfl) _|(intro e he;simp at he;subst he;rfl)|(intro e he;obtain ⟨q,_,rfl⟩:=aqz.1 (aqW he);rfl)|(simp only [aqa];omega)|(simp only [aqa,aqQ];omega)|(simp only [aqa,ap8,aqQ,aqk,aqu];omega)|apply And.intro)))
   | (refine sS_ rfl rfl rfl ?_ ?_; · (repeat' (first|exact trivial|rfl|exact ap_ rfl|omega|exact aF (by intro _;rfl) _|(intro e he;simp at he;subst he;rfl)|(intro e he;obtain ⟨q,_,rfl⟩:=aqz.1 (aqW he);rfl)|(simp only [aqa];omega)|(simp only [aqa,aqQ];omega)|(simp only [aqa,ap8,aqQ,aqk,aqu];omega)|apply And.intro)))
   | (refine aO rfl rfl rfl rfl ?_ ?_; · (repeat' (first|exact trivial|rfl|exact ap_ rfl|omega|exact aF (by intro _;rfl) _|(intro e he;simp at he;subst he;rfl)|(intro e he;obtain ⟨q,_,rfl⟩:=aqz.1 (aqW he);rfl)|(simp only [aqa];omega)|(simp only [aqa,aqQ];omega)|(simp only [aqa,ap8,aqQ,aqk,aqu];omega)|apply And.intro)))
   | refine aH rfl rfl rfl ?_
   | refine sk0_ rfl rfl ?_
   | (refine aV rfl (fun hb=>?_) (fun hb=>?_)<;>(first|exact (fx_ hb).elim|rw [hb]))
   | refine aw_seq ?_
   | refine aw_region tab_ok _ rfl ?_
   | refine aw_drawn2 tabS_ok _ rfl mixed (by decide +kernel) ?_
   | (refine aG rfl (fun hb=>?_) (fun hb=>?_)<;>(try exact (fx_ hb).elim))
   | refine aw_block ?_
   | refine aw_exit ?_
   | refine aw_ret ?_
   | refine aw_skip ?_)
  exact ⟨.inr rfl,rfl,rfl⟩
 ·have hlen:(m++[q]).length=m.length+1:=by simp
  have hm:m.length<=1000000:=by omega
  have hge:((m++[q]).map bv)[((m.length:Nat):Int).toNat]?=some (bv q):=by rw [Int.toNat_natCast,aqb,ap7 (by simp)];simp
  have hw1:IntKind.i64.wrap (((m.length+1:Nat):Int)-1)=((m.length:Nat):Int):=bF (by omega) (by omega)
  have hg0:decide ((0:Int)<((m.length+1:Nat):Int))=true:=ap4 (by omega)
  have htk:List.drop (((0:Nat):Int)).toNat (List.take (((m.length:Nat):Int)).toNat ((m++[q]).map bv))=m.map bv:=by rw [Int.toNat_natCast,Int.toNat_natCast,List.drop_zero,aqb,List.take_left' (by simp)]
  have hln:((m++[q]).map bv).length=m.length+1:=by simp
  rw [CW]
  by_cases hpq:p.lo<=q.hi
  ·have hp1:decide (p.lo<=q.hi)=true:=ap4 hpq
   rw [if_pos hpq]
   repeat' (first
    | refine st_nil ?_
    | rw [hln]
    | rw [hw1]
    | rw [hg0]
    | rw [hp1]
    | rw [htk]
    | rw [mx_norm]
    | (refine aM rfl rfl rfl rfl ?_ ?_; · (repeat' (first|exact trivial|rfl|exact ap_ rfl|omega|exact aF (by intro _;rfl) _|(intro e he;simp at he;subst he;rfl)|(intro e he;obtain ⟨q,_,rfl⟩:=aqz.1 (aqW he);rfl)|(simp only [aqa];omega)|(simp only [aqa,aqQ];omega)|(simp only [aqa,ap8,aqQ,aqk,aqu];omega)|apply And.intro)))
    | (refine dm rfl rfl rfl rfl rfl rfl rfl rfl hge ?_ ?_; · exact ⟨by omega,rfl⟩)
    | (refine aN rfl rfl rfl rfl ?_ ?_; · (repeat' (first|exact trivial|rfl|exact ap_ rfl|omega|exact aF (by intro _;rfl) _|(intro e he;simp at he;subst he;rfl)|(intro e he;obtain ⟨q,_,rfl⟩:=aqz.1 (aqW he);rfl)|(simp only [aqa];omega)|(simp only [aqa,aqQ];omega)|(simp only [aqa,ap8,aqQ,aqk,aqu];omega)|apply And.intro)))
    | (refine sS_ rfl rfl rfl ?_ ?_; · (repeat' (first|exact trivial|rfl|exact ap_ rfl|omega|exact aF (by intro _;rfl) _|(intro e he;simp at he;subst he;rfl)|(intro e he;obtain ⟨q,_,rfl⟩:=aqz.1 (aqW he);rfl)|(simp only [aqa];omega)|(simp only [aqa,aqQ];omega)|(simp only [aqa,ap8,aqQ,aqk,aqu];omega)|apply And.intro)))
    | (refine aO rfl rfl rfl rfl ?_ ?_; · (repeat' (first|exact trivial|rfl|exact ap_ rfl|omega|exact aF (by intro _;rfl) _|(intro e he;simp at he;subst he;rfl)|(intro e he;obtain ⟨q,_,rfl⟩:=aqz.1 (aqW he);rfl)|(simp only [aqa];omega)|(simp only [aqa,aqQ];omega)|(simp only [aqa,ap8,aqQ,aqk,aqu];omega)|apply And.intro)))
    | refine aH rfl rfl rfl ?_
    | refine sk0_ rfl rfl ?_
    | (refine aV rfl (fun hb=>?_) (fun hb=>?_)<;>(first|exact (fx_ hb).elim|rw [hb]))
    | refine aw_seq ?_
    | refine aw_region tab_ok _ rfl ?_
    | refine aw_drawn2 tabS_ok _ rfl mixed (by decide +kernel) ?_
    | (refine aG rfl (fun hb=>?_) (fun hb=>?_)<;>(try exact (fx_ hb).elim))
    | refine aw_block ?_
    | refine aw_exit ?_
    | refine aw_ret ?_
    | refine aw_skip ?_)
   exact ⟨.inr rfl,(by rw [aqb];rfl),(by simp)⟩
  ·have hp1:decide (p.lo<=q.hi)=false:=ap3 hpq
   rw [if_neg hpq]
   repeat' (first
    | refine st_nil ?_
    | rw [hln]
    | rw [hw1]
    | rw [hg0]
    | rw [hp1]
    | (refine aM rfl rfl rfl rfl ?_ ?_; · (repeat' (first|exact trivial|rfl|exact ap_ rfl|omega|exact aF (by intro _;rfl) _|(intro e he;simp at he;subst he;rfl)|(intro e he;obtain ⟨q,_,rfl⟩:=aqz.1 (aqW he);rfl)|(simp only [aqa];omega)|(simp only [aqa,aqQ];omega)|(simp only [aqa,ap8,aqQ,aqk,aqu];omega)|apply And.intro)))
    | (refine dm rfl rfl rfl rfl rfl rfl rfl rfl hge ?_ ?_; · exact ⟨by omega,rfl⟩)
    | (refine aN rfl rfl rfl rfl ?_ ?_; · (repeat' (first|exact trivial|rfl|exact ap_ rfl|omega|exact aF (by intro _;rfl) _|(intro e he;simp at he;subst he;rfl)|(intro e he;obtain ⟨q,_,rfl⟩:=aqz.1 (aqW he);rfl)|(simp only [aqa];omega)|(simp only [aqa,aqQ];omega)|(simp only [aqa,ap8,aqQ,aqk,aqu];omega)|apply And.intro)))
    | (refine sS_ rfl rfl rfl ?_ ?_; · (repeat' (first|exact trivial|rfl|exact ap_ rfl|omega|exact aF (by intro _;rfl) _|(intro e he;simp at he;subst he;rfl)|(intro e he;obtain ⟨q,_,rfl⟩:=aqz.1 (aqW he);rfl)|(simp only [aqa];omega)|(simp only [aqa,aqQ];omega)|(simp only [aqa,ap8,aqQ,aqk,aqu];omega)|apply And.intro)))
    | (refine aO rfl rfl rfl rfl ?_ ?_; · (repeat' (first|exact trivial|rfl|exact ap_ rfl|omega|exact aF (by intro _;rfl) _|(intro e he;simp at he;subst he;rfl)|(intro e he;obtain ⟨q,_,rfl⟩:=aqz.1 (aqW he);rfl)|(simp only [aqa];omega)|(simp only [aqa,aqQ];omega)|(simp only [aqa,ap8,aqQ,aqk,aqu];omega)|apply And.intro)))
    | refine aH rfl rfl rfl ?_
    | refine sk0_ rfl rfl ?_
    | (refine aV rfl (fun hb=>?_) (fun hb=>?_)<;>(first|exact (fx_ hb).elim|rw [hb]))
    | refine aw_seq ?_
    | refine aw_region tab_ok _ rfl ?_
    | refine aw_drawn2 tabS_ok _ rfl mixed (by decide +kernel) ?_
    | (refine aG rfl (fun hb=>?_) (fun hb=>?_)<;>(try exact (fx_ hb).elim))
    | refine aw_block ?_
    | refine aw_exit ?_
    | refine aw_ret ?_
    | refine aw_skip ?_)
   exact ⟨.inr rfl,(by rw [aqb (l₁:=m++[q])];rfl),(by simp)⟩
end Go.Proofs.YtlcceppoloaecaaGreatDoor
namespace Go.Proofs.YtlcceppoloaecaaGreatDoor.Aw
open Go.RowKit Go.MapKept
set_option maxRecDepth 100000
def asa:List PV:=[.one (.lst [[.lst [[.int .i64 1, .int .i64 1, .str ⟨#[]⟩]], .int .i64 0, .int .i64 6],[.lst [[.int .i64 1, .int .i64 2, .str ⟨#[]⟩]], .int .i64 3, .int .i64 9]]), .one (.lst [[.lst [[.int .i64 1, .int .i64 1, .str ⟨#[]⟩]], .int .i64 4, .int .i64 8],[.lst [[.int .i64 1, .int .i64 1, .str ⟨#[]⟩]], .int .i64 5, .int .i64 7]])]
def rsa:CV := .val (.one (.lst [[.int .i64 0, .int .i64 0],[.int .i64 0, .int .i64 1],[.int .i64 1, .int .i64 0],[.int .i64 1, .int .i64 1]]))
theorem apA:(evF cx 64).1 12 asa=some rsa:=by kernel_rfl
theorem anX:Pure Tryz.prog 12 asa rsa:=(oz Hd 64).1 _ _ _ apA
def asb:List PV:=[.one (.lst [[.lst [[.int .i64 1, .int .i64 1, .str ⟨#[]⟩]], .int .i64 0, .int .i64 6],[.lst [[.int .i64 1, .int .i64 2, .str ⟨#[]⟩]], .int .i64 3, .int .i64 9]]), .one (.lst [[.lst [[.int .i64 1, .int .i64 1, .str ⟨#[]⟩]], .int .i64 4, .int .i64 8],[.lst [[.int .i64 1, .int .i64 1, .str ⟨#[]⟩]], .int .i64 5, .int .i64 7]]), .one (.int .i64 8)]
def rsb:CV := .val (.one (.lst [[.int .i64 1, .int .i64 0],[.int .i64 1, .int .i64 1]]))
theorem apt:(evF cx 64).1 14 asb=some rsb:=by kernel_rfl
theorem ant:Pure Tryz.prog 14 asb rsb:=(oz Hd 64).1 _ _ _ apt
def ase:List PV:=[.agg [.lst [[.int .i64 1]], .lst [[.lst [[.int .i64 1, .int .i64 1, .str ⟨#[]⟩]], .int .i64 0, .int .i64 6],[.lst [[.int .i64 1, .int .i64 2, .str ⟨#[]⟩]], .int .i64 3, .int .i64 9]]], .agg [.lst [[.int .i64 1]], .lst [[.lst [[.int .i64 1, .int .i64 1, .str ⟨#[]⟩]], .int .i64 4, .int .i64 8],[.lst [[.int .i64 1, .int .i64 1, .str ⟨#[]⟩]], .int .i64 5, .int .i64 7]]], .agg [.int .i64 7, .int .i64 0, .int .i64 0, .int .i64 0, .str ⟨#[]⟩, .str ⟨#[]⟩, .lst [[.int .i64 2, .int .i64 0, .int .i64 0, .int .i64 0, .str ⟨#[]⟩, .str ⟨#[]⟩, .lst []],[.int .i64 2, .int .i64 1, .int .i64 0, .int .i64 0, .str ⟨#[]⟩, .str ⟨#[]⟩, .lst []]]]]
def rse:CV := .val (.agg [.lst [[.int .i64 1]], .lst [[.lst [[.int .i64 1, .int .i64 1, .str ⟨#[]⟩]], .int .i64 4, .int .i64 6]]])
theorem rune:(evF cx 64).1 22 ase=some rse:=by kernel_rfl
theorem anR:Pure Tryz.prog 22 ase rse:=(oz Hd 64).1 _ _ _ rune
end Go.Proofs.YtlcceppoloaecaaGreatDoor.Aw
