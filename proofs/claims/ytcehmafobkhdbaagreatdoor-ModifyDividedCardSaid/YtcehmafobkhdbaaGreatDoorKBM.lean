/- Parts of the proof, joined. No condition. -/
import Derived.Test.YtcehmafobkhdbaaGreatDoorKBL
set_option linter.unusedSimpArgs false
set_option linter.unusedVariables false
namespace Go.Proofs.YtcehmafobkhdbaaGreatDoor
open Go.RowKit Go.MapKept
set_option maxRecDepth 100000
theorem H6 (e:Ex) (m:Int) (hm:2<=m/\m<=1000) (B:Int) (hB:B<=4611686018427387904) (rec:Ex->Option Int) (recP:Ex->Int->Option Int)
  (hrec : ∀ x∈e.args, ∃ d,rec x=some d/\1<=d/\d<=B/\recP x (m-1)=some (min d (m-1))) (hlen:e.args.length<=100000) :
  ∀ (N i:Nat) (a:Int),0<=a->a<=max 0 B->i<=e.args.length->e.args.length-i<N ->
   ∃ r,ax (gG e rec) N (a,(i:Int))=some (.inl (r,((e.args.length:Nat):Int)))/\ax (jS e m recP) N (min (a+1) m,(i:Int))=some (.inl (min (r+1) m,((e.args.length:Nat):Int)))/\0<=r/\r<=max 0 B
 | 0,i,a,_,_,_,h=>by omega
 | N+1,i,a,h1,h2,hi,hN=>by
  rw [ax,ax]
  by_cases hlt:i<e.args.length
  ·obtain ⟨x,hx⟩:=gol_ hlt
   obtain ⟨d,e1,e2,e3,e4⟩:=hrec x (ag1 hx)
   have hb:gG e rec (a,(i:Int))=some (.next (max a d,((i+1:Nat):Int))):=by
    unfold gG
    dsimp only
    rw [aV hx,agX,gn_ hx,agU,e1,agU,wrapN (by omega)]
    congr 3
    unfold CY;split<;>omega
   have hb2:jS e m recP (min (a+1) m,(i:Int))=some (.next (min (max a d+1) m,((i+1:Nat):Int))):=by
    unfold jS
    dsimp only
    rw [aV hx,agX,gn_ hx,agU,fK (by omega),e4,agU,fK (by omega),wrapN (by omega)]
    congr 3
    unfold CY;split<;>omega
   rw [hb,hb2]
   exact H6 e m hm B hB rec recP hrec hlen N (i+1) (max a d) (by omega) (by omega) (by omega) (by omega)
  ·have:i=e.args.length:=by omega
   subst this
   have hb:gG e rec (a,((e.args.length:Nat):Int))=some (.exit (a,((e.args.length:Nat):Int))):=by
    unfold gG
    dsimp only
    rw [lF_,agW]
   have hb2:jS e m recP (min (a+1) m,((e.args.length:Nat):Int))=some (.exit (min (a+1) m,((e.args.length:Nat):Int))):=by
    unfold jS
    dsimp only
    rw [lF_,agW]
   rw [hb,hb2]
   exact ⟨a,rfl,rfl,h1,h2⟩
theorem JH : ∀ (n:Nat) (e:Ex),n<=4611686018427387904->fH n e -> ∃ d,rz n e=some d/\1<=d/\d<=(n:Int) /\ ∀ m:Int,1<=m->m<=1000->zK n e m=some (min d m)
 | 0,_,_,h=>h.elim
 | n+1,e,hn,h=>by
  have hd : ∃ r,(∀ m:Int,2<=m->m<=1000->ax (jS e m (zK n)) fuel (1,0)=some (.inl (min (r+1) m,((e.args.length:Nat):Int))))/\ax (gG e (rz n)) fuel (0,0)=some (.inl (r,((e.args.length:Nat):Int)))/\0<=r/\r<=max 0 (n:Int):=by
   have key : ∀ m:Int,2<=m->m<=1000->_:=fun m h1 h2=>H6 e m ⟨h1,h2⟩ (n:Int) (by omega) (rz n) (zK n) (by
    intro x hx
    obtain ⟨d,e1,e2,e3,e4⟩:=JH n x (by omega) (h.2 x hx)
    exact ⟨d,e1,e2,e3,e4 (m-1) (by omega) (by omega)⟩) h.1 fuel 0 0 (Int.le_refl _) (by omega) (ahe _) (by unfold fuel;have:=h.1;omega)
   obtain ⟨r,e1,e2,e3,e4⟩:=key 2 (by omega) (by omega)
   refine ⟨r,fun m h1 h2=>?_,e1,e3,e4⟩
   obtain ⟨r',f1,f2,f3,f4⟩:=key m h1 h2
   have:r'=r:=by
    rw [e1] at f1
    have:=ahq f1
    injection this with this
    injection this with this _
    exact this.symm
   subst this
   rw [show min ((0:Int)+1) m=1 by omega] at f2
   exact f2
  obtain ⟨r,k1,k2,k3,k4⟩:=hd
  refine ⟨r+1,?_,by omega,by omega,fun m h1 h2=>?_⟩
  ·show uI (rz n) e=_
   unfold uI
   rw [k2]
   show some (IntKind.i64.wrap (r+1))=_
   rw [fK (by omega)]
  ·show H7 (zK n) e m=_
   unfold H7
   by_cases hm:m<=1
   ·rw [agZ hm,agX]
    congr 1;omega
   ·rw [agY hm,agW,k1 m (by omega) h2];rfl
def LA:Int->List Int->Option Int
 | t,[]=>some t
 | t,x::l=>if x=0 then LA t l else if t≠0/\t≠x then none else LA x l
def adn (o:Option Int):Int × Bool:=match o with|some k=>(k,true)|none=>(0,false)
theorem IG : ∀ (l:List Int) (t:Int),dF (ρ:=Int × Bool) (fun t x=>some (if x=0 then .inl t else if t≠0/\t≠x then .inr (0,false) else .inl x)) t l=some (match LA t l with|some k => .inl k|none => .inr (0,false))
 | [],t=>rfl
 | x::l,t=>by
  rw [dF,LA]
  by_cases h:x=0
  ·rw [if_pos h,if_pos h];exact IG l t
  ·rw [if_neg h,if_neg h]
   by_cases h2:t≠0/\t≠x
   ·rw [if_pos h2,if_pos h2]
   ·rw [if_neg h2,if_neg h2];exact IG l x
theorem jh (l:List Int) (hl:l.length<=1000000):pE l=some (adn (LA 0 l)):=by
 unfold pE
 rw [di (l:=l) (mk:=fun t i=>(t,i)) (f:=fun t x=>some (if x=0 then .inl t else if t≠0/\t≠x then .inr (0,false) else .inl x)) ?_ ?_ (by unfold fuel;omega) (0:Int)]
 ·rw [IG]
  cases LA 0 l<;>rfl
 ·intro s i x hx
  have hi:=(agV.1 hx).1
  unfold FH
  dsimp only
  rw [aV hx,agX,gn_ hx,wrapN (by omega)]
  simp only [agU]
  by_cases h:x=0
  ·rw [agZ h,agX,if_pos h];rfl
  ·rw [agY h,agW,if_neg h]
   by_cases h1:s=0
   ·rw [agY (show ¬ s≠0 by omega),agW,if_neg (by omega)];rfl
   ·rw [agZ (show s≠0 from h1),agX]
    by_cases h2:s=x
    ·rw [agY (show ¬ s≠x by omega),agW,if_neg (by omega)];rfl
    ·rw [agZ (show s≠x from h2),agX,if_pos ⟨h1,h2⟩];rfl
 ·intro s
  unfold FH
  dsimp only
  rw [lF_,agW]
theorem oL (l:List Int) (hl:l.length<=1000000):lw l=some (adn (LA 0 l)):=(show lw l=pE l from rfl).trans (jh l hl)
def jv (l:List Int) (k:Int):Bool:=l.all fun x=>decide (x=k)||decide (x=0)
theorem fo (l:List Int) (k:Int) (hl:l.length<=1000000):jH l k=some (jv l k):=by
 unfold jH
 rw [di (l:=l) (mk:=fun (_:Unit) i=>i) (f:=fun _ x=>some (if x=k\/x=0 then .inl () else .inr false)) ?_ ?_ (by unfold fuel;omega) ()]
 ·have : ∀ l:List Int,dF (ρ:=Bool) (fun (_:Unit) (x:Int)=>some (if x=k\/x=0 then .inl () else .inr false)) () l=some (if jv l k=true then .inl () else .inr false):=by
   intro l
   induction l with
   | nil=>rfl
   | cons x l ih =>
    rw [dF]
    by_cases h:x=k\/x=0
    ·rw [if_pos h]
     show dF _ () l=_
     rw [ih]
     have:jv (x::l) k=jv l k:=by
      unfold jv
      rw [List.all_cons]
      rcases h with h|h<;>simp [h]
     rw [this]
    ·rw [if_neg h]
     have:jv (x::l) k=false:=by
      unfold jv
      rw [List.all_cons,agY (fun e=>h (.inl e)),agY (fun e=>h (.inr e))];rfl
     rw [this];rfl
  rw [this]
  cases jv l k<;>rfl
 ·intro s i x hx
  have hi:=(agV.1 hx).1
  unfold Aa
  dsimp only
  rw [aV hx,agX,gn_ hx,wrapN (by omega)]
  simp only [agU]
  by_cases h:x=k
  ·rw [agY (show ¬ x≠k by omega),agW,if_pos (.inl h)];rfl
  ·rw [agZ (show x≠k from h),agX]
   by_cases h2:x=0
   ·rw [agY (show ¬ x≠0 by omega),agW,if_pos (.inr h2)];rfl
   ·rw [agZ (show x≠0 from h2),agX,if_neg (by omega)];rfl
 ·intro s
  unfold Aa
  dsimp only
  rw [lF_,agW]
theorem K5 (k:Int) (hk:k≠0) : ∀ (l:List Int) (t:Int),LA t (l++[k])=if (t=0\/t=k)/\jv l k=true then some k else none
 | [],t=>by
  show (if k=0 then some t else if t≠0/\t≠k then none else some k)=if (t=0\/t=k)/\true=true then some k else none
  rw [if_neg hk]
  by_cases h:t=0\/t=k
  ·rw [if_neg (show ¬ (t≠0/\t≠k) by omega),if_pos (show (t=0\/t=k)/\true=true from ⟨h,rfl⟩)]
  ·rw [if_pos (show t≠0/\t≠k by omega),if_neg (fun e=>h e.1)]
 | x::l,t=>by
  rw [List.cons_append,LA]
  by_cases h:x=0
  ·rw [if_pos h,K5 k hk l t]
   have:jv (x::l) k=jv l k:=by unfold jv;rw [List.all_cons,agZ h,Bool.or_true,ahr]
   rw [this]
  ·rw [if_neg h]
   have ha:jv (x::l) k=(decide (x=k)&&jv l k):=by unfold jv;rw [List.all_cons,agY h,Bool.or_false]
   rw [ha]
   by_cases h2:t≠0/\t≠x
   ·rw [if_pos h2,if_neg]
    rintro ⟨h3,h4⟩
    rw [ahb] at h4
    have:=ahm h4.1
    omega
   ·rw [if_neg h2,K5 k hk l x]
    by_cases h3:x=k
    ·rw [agZ h3,ahr]
     by_cases h4:jv l k=true
     ·rw [if_pos ⟨.inr h3,h4⟩,if_pos ⟨by omega,h4⟩]
     ·rw [if_neg (fun e=>h4 e.2),if_neg (fun e=>h4 e.2)]
    ·rw [agY h3,Bool.false_and,if_neg (by omega),if_neg (by simp)]
theorem ic {l:List Int} {k:Int} (h0:l≠[]) (hl:l.length<=100000) (hk:k≠0):Be l k=some (jv l k):=by
 have ho:R6 l=true:=by
  unfold R6
  rw [agZ hl,Bool.and_true]
  cases l with
  | nil=>exact absurd rfl h0
  | cons a b=>rfl
 unfold Be
 rw [ho,agX,jh _ (by rw [ag3];simp;omega),agU,K5 k hk]
 cases h:jv l k with
 | true=>rw [if_pos ⟨.inl rfl,rfl⟩];show some (bif true then decide (k=k) else false)=_;simp
 | false=>rw [if_neg (by simp)];rfl
theorem Sw {e:Ex} {l:List Int} {kinds:List Int} (hlo:(nY e.op).1<=((l.length:Nat):Int)) (hhi:((l.length:Nat):Int)<=(nY e.op).2) (hl:l.length<=100000) (ho:e.op=1\/e.op=4\/e.op=5\/e.op=6\/e.op=7\/e.op=8\/e.op=9\/e.op=10\/e.op=11\/e.op=12\/e.op=13\/e.op=14\/e.op=15\/e.op=16\/e.op=17\/e.op=18\/e.op=19\/e.op=20\/e.op=21\/e.op=22\/e.op=23\/e.op=24) : ∃ r,gRs11 e l kinds=some r/\gRsP e l=some r:=by
 rcases ho with ho|ho|ho|ho|ho|ho|ho|ho|ho|ho|ho|ho|ho|ho|ho|ho|ho|ho|ho|ho|ho|ho
 ·rw [ho,ar1] at hlo hhi
  dsimp only at hlo hhi
  unfold gRs11 gRsP
  simp only [ho,Int.reduceEq,decide_false,decide_true,agX,agW]
  exact ⟨_,rfl,rfl⟩
 ·rw [ho,ar4] at hlo hhi
  dsimp only at hlo hhi
  unfold gRs11 gRsP
  simp only [ho,Int.reduceEq,decide_false,decide_true,agX,agW]
  rw [fo _ _ (by omega),ic (by rintro rfl;simp at hlo) hl (by decide)];exact ⟨_,rfl,rfl⟩
 ·rw [ho,ar5] at hlo hhi
  dsimp only at hlo hhi
  unfold gRs11 gRsP
  simp only [ho,Int.reduceEq,decide_false,decide_true,agX,agW]
  rw [fo _ _ (by omega),ic (by rintro rfl;simp at hlo) hl (by decide)];exact ⟨_,rfl,rfl⟩
 ·rw [ho,ar6] at hlo hhi
  dsimp only at hlo hhi
  unfold gRs11 gRsP
  simp only [ho,Int.reduceEq,decide_false,decide_true,agX,agW]
  rw [fo _ _ (by omega),ic (by rintro rfl;simp at hlo) hl (by decide)];exact ⟨_,rfl,rfl⟩
 ·rw [ho,ar7] at hlo hhi
  dsimp only at hlo hhi
  unfold gRs11 gRsP
  simp only [ho,Int.reduceEq,decide_false,decide_true,agX,agW]
  rw [oL _ (by omega),jh _ (by omega)];exact ⟨_,rfl,rfl⟩
 ·rw [ho,ar8] at hlo hhi
  dsimp only at hlo hhi
  unfold gRs11 gRsP
  simp only [ho,Int.reduceEq,decide_false,decide_true,agX,agW]
  rw [oL _ (by omega),jh _ (by omega)];exact ⟨_,rfl,rfl⟩
 ·rw [ho,ar9] at hlo hhi
  dsimp only at hlo hhi
  unfold gRs11 gRsP
  simp only [ho,Int.reduceEq,decide_false,decide_true,agX,agW]
  rw [oL _ (by omega),jh _ (by omega)];exact ⟨_,rfl,rfl⟩
 ·rw [ho,agu] at hlo hhi
  dsimp only at hlo hhi
  unfold gRs11 gRsP
  simp only [ho,Int.reduceEq,decide_false,decide_true,agX,agW]
  rw [oL _ (by omega),jh _ (by omega)];exact ⟨_,rfl,rfl⟩
 ·rw [ho,aga] at hlo hhi
  dsimp only at hlo hhi
  unfold gRs11 gRsP
  simp only [ho,Int.reduceEq,decide_false,decide_true,agX,agW]
  rw [oL _ (by omega),jh _ (by omega)];exact ⟨_,rfl,rfl⟩
 ·rw [ho,agH] at hlo hhi
  dsimp only at hlo hhi
  unfold gRs11 gRsP
  simp only [ho,Int.reduceEq,decide_false,decide_true,agX,agW]
  rw [oL _ (by omega),jh _ (by omega)];exact ⟨_,rfl,rfl⟩
 ·rw [ho,afd] at hlo hhi
  dsimp only at hlo hhi
  unfold gRs11 gRsP
  simp only [ho,Int.reduceEq,decide_false,decide_true,agX,agW]
  rw [fo _ _ (by omega),ic (by rintro rfl;simp at hlo) hl (by decide)];exact ⟨_,rfl,rfl⟩
 ·rw [ho,afr] at hlo hhi
  dsimp only at hlo hhi
  unfold gRs11 gRsP
  simp only [ho,Int.reduceEq,decide_false,decide_true,agX,agW]
  rw [fo _ _ (by omega),ic (by rintro rfl;simp at hlo) hl (by decide)];exact ⟨_,rfl,rfl⟩
 ·rw [ho,ae4] at hlo hhi
  dsimp only at hlo hhi
  unfold gRs11 gRsP
  simp only [ho,Int.reduceEq,decide_false,decide_true,agX,agW]
  rw [fo _ _ (by omega),ic (by rintro rfl;simp at hlo) hl (by decide)];exact ⟨_,rfl,rfl⟩
 ·rw [ho,ae9] at hlo hhi
  dsimp only at hlo hhi
  unfold gRs11 gRsP
  simp only [ho,Int.reduceEq,decide_false,decide_true,agX,agW]
  rw [fo _ _ (by omega),ic (by rintro rfl;simp at hlo) hl (by decide)];exact ⟨_,rfl,rfl⟩
 ·rw [ho,aeS] at hlo hhi
  dsimp only at hlo hhi
  unfold gRs11 gRsP
  simp only [ho,Int.reduceEq,decide_false,decide_true,agX,agW]
  rw [fo _ _ (by omega),ic (by rintro rfl;simp at hlo) hl (by decide)];exact ⟨_,rfl,rfl⟩
 ·rw [ho,agI] at hlo hhi
  dsimp only at hlo hhi
  unfold gRs11 gRsP
  simp only [ho,Int.reduceEq,decide_false,decide_true,agX,agW]
  rw [fo _ _ (by omega),ic (by rintro rfl;simp at hlo) hl (by decide)];exact ⟨_,rfl,rfl⟩
 ·rw [ho,agc] at hlo hhi
  dsimp only at hlo hhi
  unfold gRs11 gRsP
  simp only [ho,Int.reduceEq,decide_false,decide_true,agX,agW]
  rw [fo _ _ (by omega),ic (by rintro rfl;simp at hlo) hl (by decide)];exact ⟨_,rfl,rfl⟩
 ·rw [ho,agz] at hlo hhi
  dsimp only at hlo hhi
  unfold gRs11 gRsP
  simp only [ho,Int.reduceEq,decide_false,decide_true,agX,agW]
  rw [fo _ _ (by omega),ic (by rintro rfl;simp at hlo) hl (by decide)];exact ⟨_,rfl,rfl⟩
 ·rw [ho,agk] at hlo hhi
  dsimp only at hlo hhi
  unfold gRs11 gRsP
  simp only [ho,Int.reduceEq,decide_false,decide_true,agX,agW]
  exact ⟨_,rfl,rfl⟩
 ·rw [ho,aek] at hlo hhi
  dsimp only at hlo hhi
  unfold gRs11 gRsP
  simp only [ho,Int.reduceEq,decide_false,decide_true,agX,agW]
  obtain ⟨a,b,c,rfl⟩:=abU (l:=l) (by omega)
  rw [show lT [a,b,c] (1:Int) ((([a,b,c].length:Nat)):Int)=some [b,c] from rfl,show lT [a,b,c] (0:Int) (1:Int)=some [a] from rfl]
  simp only [agU]
  rw [oL _ (by simp),jh _ (by simp)]
  simp only [agU]
  rw [fo _ _ (by simp),ic (by simp) (by simp) (by decide)]
  cases (adn (LA 0 [b,c])).2<;>exact ⟨_,rfl,rfl⟩
 ·rw [ho,agB] at hlo hhi
  dsimp only at hlo hhi
  unfold gRs11 gRsP
  simp only [ho,Int.reduceEq,decide_false,decide_true,agX,agW]
  rw [oL _ (by omega),jh _ (by omega)];exact ⟨_,rfl,rfl⟩
 ·rw [ho,agJ] at hlo hhi
  dsimp only at hlo hhi
  unfold gRs11 gRsP
  simp only [ho,Int.reduceEq,decide_false,decide_true,agX,agW]
  rw [fo _ _ (by omega),ic (by rintro rfl;simp at hlo) hl (by decide)];exact ⟨_,rfl,rfl⟩
theorem I4 (e:Ex) (kinds:List Int) (rec:Ex->List Int->Option (Int × Int)) (hrec : ∀ x∈e.args, ∃ c,rec x kinds=some c) (hlen:e.args.length<=100000) :
  ∀ (N i:Nat) (s:List Int),s.length=i->i<=e.args.length->e.args.length-i<N -> ∃ r,ax (dH e kinds rec) N (s,(i:Int))=some r /\ ∀ t j,r = .inl (t,j)->t.length=e.args.length
 | 0,i,s,_,_,h=>by omega
 | N+1,i,s,hs,hi,hN=>by
  rw [ax]
  by_cases hlt:i<e.args.length
  ·obtain ⟨x,hx⟩:=gol_ hlt
   obtain ⟨c,hc⟩:=hrec x (ag1 hx)
   by_cases h0:c.2=0
   ·have hb:dH e kinds rec (s,(i:Int))=some (.next (s++[c.1],((i+1:Nat):Int))):=by
     unfold dH
     dsimp only
     rw [aV hx,agX,gn_ hx,agU,hc,agU,agY (show ¬ c.2≠0 by omega),agW,agZ (by omega),agX,wrapN (by omega)]
    rw [hb]
    exact I4 e kinds rec hrec hlen N (i+1) (s++[c.1]) (by rw [ag3,hs];rfl) (by omega) (by omega)
   ·have hb:dH e kinds rec (s,(i:Int))=some (.ret (0,c.2)):=by
     unfold dH
     dsimp only
     rw [aV hx,agX,gn_ hx,agU,hc,agU,agZ (show c.2≠0 from h0),agX]
    rw [hb]
    exact ⟨_,rfl,fun t j h=>by cases h⟩
  ·have:i=e.args.length:=by omega
   subst this
   have hb:dH e kinds rec (s,((e.args.length:Nat):Int))=some (.exit (s,((e.args.length:Nat):Int))):=by
    unfold dH
    dsimp only
    rw [lF_,agW]
   rw [hb]
   exact ⟨_,rfl,fun t j h=>by injection h with h;injection h with h _;rw [<- h];exact hs⟩
theorem JJ (kinds:List Int) : ∀ (n:Nat) (e:Ex),fH n e -> ∃ c,mM n e kinds=some c/\zQ n e kinds=some c
 | 0,_,h=>h.elim
 | n+1,e,h=>by
  have hx : ∀ x∈e.args, ∃ c,mM n x kinds=some c/\zQ n x kinds=some c:=fun x hx=>JJ kinds n x (h.2 x hx)
  have hb:zg e kinds (zQ n)=dH e kinds (mM n):=by
   funext s
   obtain ⟨l,i⟩:=s
   unfold zg dH
   dsimp only
   cases hg:aH e.args i with
   | none=>rfl
   | some x =>
    obtain ⟨c,c1,c2⟩:=hx x (ag1 (nE hg).2)
    simp only [agU]
    rw [c1,c2]
  obtain ⟨a1,a2,a3,a4⟩:=zf e.op ((e.args.length:Nat):Int) (by have:=h.1;omega)
  show ∃ c,uu (mM n) e kinds=some c/\I9 (zQ n) e kinds=some c
  unfold uu I9
  rw [a1,a2,agU,agU]
  dsimp only
  by_cases h00:(nY e.op).1<0
  ·rw [agZ h00,agY (show ¬ 0<=(nY e.op).1 by omega),agX]
   exact ⟨_,rfl,rfl⟩
  have h0:0<=(nY e.op).1:=by omega
  rw [agY (show ¬ (nY e.op).1<0 by omega),agZ h0,Bool.not_true,agW,agW,F6 h.1,Iz h.1,agU,agU]
  cases hf:xI e with
  | false=>exact ⟨_,rfl,rfl⟩
  | true =>
   rw [Bool.not_true,agW,agW]
   obtain ⟨hops,hlo,hhi,hrest⟩:=B_ h.1 hf
   by_cases o2:e.op=2
   ·rw [agZ o2,agX,agX]
    by_cases i0:e.int<0
    ·rw [agZ i0];exact ⟨_,rfl,rfl⟩
    rw [agY i0,agW,agW]
    by_cases i1:((kinds.length:Nat):Int)<=e.int
    ·rw [agZ i1];exact ⟨_,rfl,rfl⟩
    rw [agY i1,agW,agW]
    obtain ⟨x,hx1⟩:=gol_ (l:=kinds) (i:=e.int.toNat) (by omega)
    have hg:aH kinds e.int=some x:=by unfold aH;rw [if_pos (by omega)];exact hx1
    rw [o2,ar2] at hhi
    dsimp only at hhi
    have hz:e.args.length=0:=by omega
    have hbr:ax (pW e kinds (mM n)) fuel ([],(0:Int))=some (.inl ([],0)):=by
     have:fuel=(fuel-1)+1:=rfl
     rw [this,ax]
     unfold pW
     dsimp only
     rw [hz,show decide ((0:Int)<((0:Nat):Int))=false from rfl,agW]
    rw [hbr,hg]
    refine ⟨(x,0),?_,rfl⟩
    show (gRs11 e [] kinds).bind _=_
    unfold gRs11
    rw [o2,show decide ((2:Int)=1)=false from rfl,show decide ((2:Int)=2)=true from rfl,agW,agX,hg]
    rfl
   ·rw [agY o2,agW,agW,hb]
    obtain ⟨r,hr,hk⟩:=I4 e kinds (mM n) (fun x hm=>(hx x hm).imp fun c hc=>hc.1) h.1 fuel 0 [] rfl (ahe _) (by unfold fuel;have:=h.1;omega)
    rw [show ((0:Nat):Int)=0 from rfl] at hr
    rw [hr,agU,agU]
    cases r with
    | inr q=>exact ⟨q,rfl,rfl⟩
    | inl p =>
     obtain ⟨t,j⟩:=p
     have ht:=hk t j rfl
     obtain ⟨q,q1,q2⟩:=Sw (e:=e) (l:=t) (kinds:=kinds) (by rw [ht];exact hlo) (by rw [ht];exact hhi) (by rw [ht];exact h.1) (by omega)
     unfold kz Gb
     dsimp only
     rw [q1,q2,agU]
     cases q.2<;>exact ⟨_,rfl,rfl⟩
theorem Q5 {e:Ex} (kinds:List Int) (h:fH fuel e) : ∃ c,vW e kinds=some c/\VL e kinds=some c:=by
 obtain ⟨d,d1,d2,d3,d4⟩:=JH fuel e (by unfold fuel;omega) h
 obtain ⟨c,c1,c2⟩:=JJ kinds fuel e h
 unfold vW VL ac9
 rw [d1,d4 25 (by omega) (by omega),c1,c2]
 simp only [agU]
 by_cases hd:(24:Int)<d
 ·rw [agZ hd,agZ (show (24:Int)<min d 25 by omega)];exact ⟨_,rfl,rfl⟩
 ·rw [agY hd,agY (show ¬ (24:Int)<min d 25 by omega)];exact ⟨_,rfl,rfl⟩
set_option maxHeartbeats 8000000
noncomputable section
def jA (a_e:Ex) (a_row:(List Val)):Option (Int):=(pK fuel a_e a_row).bind fun r_1=>(lh r_1).bind fun r_2=>some r_2
theorem qI {a_e:Ex} {a_row:(List Val)} {r:Int} (H:jA a_e a_row=some r):Pure Tryz.prog 73 [.agg (tE a_e), .one (.lst (a_row.map cV))] (.val (.one (.int .i64 r))):=by
 unfold jA at H
 rw [aC a_e]
 refine po_ Tryz.func73 Tryz.ntmps73 ?_
 obtain ⟨r_1,c1,H⟩:=bd_ H
 replace c1:=rC fuel c1
 try simp only [ag8,ag6,ag_,ag0,aC] at c1
 obtain ⟨r_2,c2,H⟩:=bd_ H
 replace c2:=lN c2
 cases H
 exact aD
end
set_option maxHeartbeats 8000000
noncomputable section
def l8 (a_e:Ex) (a_row:(List Val)):Option (Int):=(kL fuel a_e a_row).bind fun r_1=>(jy r_1).bind fun r_2=>some r_2
theorem xB {a_e:Ex} {a_row:(List Val)} {r:Int} (H:l8 a_e a_row=some r):Pure Tryz.prog 22 [.agg (tE a_e), .one (.lst (a_row.map cV))] (.val (.one (.int .i64 r))):=by
 unfold l8 at H
 rw [aC a_e]
 refine po_ Tryz.func22 Tryz.ntmps22 ?_
 obtain ⟨r_1,c1,H⟩:=bd_ H
 replace c1:=Ff fuel c1
 try simp only [ag8,ag6,ag_,ag0,aC] at c1
 obtain ⟨r_2,c2,H⟩:=bd_ H
 replace c2:=nO c2
 cases H
 exact aD
def xq (a_l:(List Ex)) (a_row:(List Val)):((List Val) × Int)->Option (Step ((List Val) × Int) ((List Val))):=fun s=>match s with
 | (out_1,i_2)=>bif (decide (i_2<((a_l.length:Nat):Int))) then (aH a_l i_2).bind fun x_4=>(kL fuel x_4 a_row).bind fun r_5=>bif (decide (out_1.length+1<=4398046511104)) then (some (.next ((out_1++[r_5]),(IntKind.i64.wrap (i_2+(1:Int)))))) else none else
 some (.exit (out_1,i_2))
def Cm:Sum ((List Val) × Int) ((List Val))->Option (((List Val)))
 | .inl (out_1,i_2)=>some out_1
 | .inr q=>some q
def sG (a_l:(List Ex)) (a_row:(List Val)):Option ((List Val)):=(ax (xq a_l a_row) fuel ([],(0:Int))).bind (Cm)
theorem Ce {a_l:(List Ex)} {a_row:(List Val)} {r:(List Val)} (H:sG a_l a_row=some r):Pure Tryz.prog 23 [.one (.lst (a_l.map tE)), .one (.lst (a_row.map cV))] (.val (.one (.lst (r.map cV)))):=by
 unfold sG at H
 refine po_ Tryz.func23 Tryz.ntmps23 ?_
 refine bF ?_
 refine bX 5 3 rfl ?_
 refine alM_ (fun s:(List Val) × Int=>match s with|(out_1,i_2)=>[(0, .one (.c (.lst (a_l.map tE)))),(1, .one (.c (.lst (a_row.map cV)))),(5, .one (.own (out_1.map cV) 0)),(6, .one (.c (.int .i64 i_2)))]) (fun s=>match s with|(out_1,i_2)=>[.spare out_1.length 3]) H (fun _=>ahe _)
  (fm_ dh [] rfl bH dw) ?_
 rintro ⟨out_1,i_2⟩ st1 hb1 hk1
 unfold xq at hb1
 dsimp only at hb1 ⊢
 rcases af hb1 with ⟨q_3,hb1⟩|⟨q_3,hb1⟩
 ·obtain ⟨x_4,i1z,i1,i1x,hb1⟩:=aY (f:=tE) hb1
  simp only [ag8,ag6,ag_,ag0,aC] at i1x
  obtain ⟨r_5,c2,hb1⟩:=bd_ hb1
  replace c2:=Ff fuel c2
  try simp only [ag8,ag6,ag_,ag0,aC] at c2
  obtain ⟨g3,hb1⟩:=aG hb1
  cases hb1
  refine bF ?_
  exact ⟨_,rfl,fm_ lC [] lD bH dw⟩
 cases hb1
 have hx1:Cm (.inl (out_1,i_2))=some _:=hk1
 unfold Cm at hx1
 dsimp only at hx1
 cases hx1
 exact aD
def nI (a_r:dA):(Int)->Option (Step (Int) (Bool)):=fun s=>match s with
 | i_1=>bif (decide (i_1<((a_r.facts.length:Nat):Int))) then (aH a_r.facts i_1).bind fun x_3=>(iP x_3.valid).bind fun r_4=>bif (!r_4) then some (.ret false) else
 (wS x_3.row a_r.kinds).bind fun r_6=>bif (!r_6) then some (.ret false) else
 some (.next (IntKind.i64.wrap (i_1+(1:Int)))) else
 some (.exit i_1)
def je (a_r:dA):Sum (Int) (Bool)->Option ((Bool))
 | .inl i_1=>bif (decide ((0:Int)<((a_r.kinds.length:Nat):Int))) then bif (decide (((a_r.kinds.length:Nat):Int)<=(48:Int))) then (Jv a_r.kinds).bind fun r_10=>some r_10 else
 some false else
 some false
 | .inr q=>some q
def JU (a_r:dA):Option (Bool):=(ax (nI a_r) fuel (0:Int)).bind (je a_r)
theorem Yp {a_r:dA} {r:Bool} (H:JU a_r=some r):Pure Tryz.prog 29 [.agg (tL a_r)] (.val (.one (.bool r))):=by
 unfold JU at H
 refine po_ Tryz.func29 Tryz.ntmps29 ?_
 refine bF ?_
 refine alM_ (fun s:Int=>match s with|i_1=>[(1, .one (.ptr 0 0)),(3, .one (.c (.int .i64 i_1)))]) (fun s=>match s with|i_1=>[.box [.c (.lst (a_r.kinds.map (fun x=>[AC.int .i64 x]))), .c (.lst (a_r.facts.map aJ))]]) H (fun _=>ahe _)
  (fm_ dh [] rfl bH dw) ?_
 rintro i_1 st1 hb1 hk1
 unfold nI at hb1
 dsimp only at hb1 ⊢
 rcases af hb1 with ⟨q_2,hb1⟩|⟨q_2,hb1⟩
 ·obtain ⟨x_3,i1z,i1,i1x,hb1⟩:=aY (f:=aJ) hb1
  obtain ⟨r_4,c2,hb1⟩:=bd_ hb1
  replace c2:=fw c2
  rcases af hb1 with ⟨q_5,hb1⟩|⟨q_5,hb1⟩
  ·cases hb1
   have hx1:je a_r (.inr false)=some _:=hk1
   unfold je at hx1
   dsimp only at hx1
   cases hx1
   exact aD
  obtain ⟨r_6,c3,hb1⟩:=bd_ hb1
  replace c3:=MG c3
  rcases af hb1 with ⟨q_7,hb1⟩|⟨q_7,hb1⟩
  ·cases hb1
   have hx1:je a_r (.inr false)=some _:=hk1
   unfold je at hx1
   dsimp only at hx1
   cases hx1
   exact aD
  cases hb1
  refine bF ?_
  exact ⟨_,rfl,fm_ dh [] rfl bH dw⟩
 cases hb1
 have hx1:je a_r (.inl i_1)=some _:=hk1
 unfold je at hx1
 dsimp only at hx1
 rcases af hx1 with ⟨q_8,hx1⟩|⟨q_8,hx1⟩
 ·rcases af hx1 with ⟨q_9,hx1⟩|⟨q_9,hx1⟩
  ·obtain ⟨r_10,c4,hx1⟩:=bd_ hx1
   replace c4:=YH c4
   cases hx1
   exact aD
  cases hx1
  exact aD
 cases hx1
 exact aD
end
end Go.Proofs.YtcehmafobkhdbaaGreatDoor
namespace Go.Proofs.YtcehmafobkhdbaaGreatDoor.St
open Go.RowKit
theorem Asc.of_list {l:List (Int × Int)} (h:l.Pairwise fun x y=>x.1<y.1):Asc l:=by
 intro i j x y hij hx hy
 obtain ⟨hi,rfl⟩:=agV.1 hx
 obtain ⟨hj,rfl⟩:=agV.1 hy
 exact List.pairwise_iff_getElem.1 h i j hi hj hij
theorem dX : ∀ {l:List (Int × Int)} {p:Int × Int}, fu p l=true->(p::l).Pairwise (fun x y=>x.1<y.1) /\ ∀ s∈l,s.1<1099511627776
 | [],p,_=>⟨by simp,by simp⟩
 | q::r,p,h=>by
  simp only [fu,ahb] at h
  obtain ⟨h1,h2⟩:=dX (l:=r) (p:=q) h.2
  have hs:p.1<q.1/\q.1<1099511627776:=by have:=h.1;simp [yD] at this;omega
  refine ⟨ahP.2 ⟨fun y hy=>?_,h1⟩,fun s hs'=>?_⟩
  ·rcases aha.1 hy with e|e
   ·subst e;exact hs.1
   ·have:=(ahP.1 h1).1 y e;omega
  ·rcases aha.1 hs' with e|e
   ·subst e;exact hs.2
   ·exact h2 s e
theorem iR {l:List (Int × Int)} (h:dN l=true):Asc l/\(∀ s∈l,s.1<1099511627776)/\l≠[] /\ ∀ x,l[0]?=some x->x.1=0:=by
 match l,h with
 | p::r,h =>
  simp only [dN,ahb,beq_iff_eq] at h
  obtain ⟨h1,h2⟩:=dX h.2
  refine ⟨Asc.of_list h1,fun s hs=>?_,by simp,fun x hx=>?_⟩
  ·rcases aha.1 hs with e|e
   ·subst e;omega
   ·exact h2 s e
  ·simp at hx;subst hx;exact h.1
def gJ (z:Int) (l:List (Int × Int)) (t:Int):Int:=l.foldl (fun n s=>if s.1<=t then s.2 else n) z
theorem yu {l:List (Int × Int)} {t:Int} (h1:0<=t) (h2:t<1099511627776):vV l t=gJ 0 l t:=by unfold vV;rw [if_pos ⟨h1,h2⟩];rfl
theorem ab1 {l:List (Int × Int)} {t:Int} (h : ¬ (0<=t/\t<1099511627776)):vV l t=0:=by unfold vV;rw [if_neg h]
theorem cB (z:Int) (p:Int × Int) (l:List (Int × Int)) (t:Int):gJ z (p::l) t=gJ (if p.1<=t then p.2 else z) l t:=rfl
theorem gQ {z:Int} {l:List (Int × Int)} {t:Int} (h : ∀ x∈l,t<x.1):gJ z l t=z:=zC t l z h
theorem Iq (z:Int) (l:List (Int × Int)) (q:Int × Int) (t:Int):gJ z (l++[q]) t=if q.1<=t then q.2 else gJ z l t:=by unfold gJ;rw [List.foldl_append];rfl
theorem Rf {u:List (Int × Int)} {x y:Int} {q:Int × Int} (hu:dN u=true) (hl:u.getLast?=some (x,y)) (h1:x<q.1) (h2:q.1<1099511627776) (h3:q.2≠y):dN (u++[q])=true:=by
 match u,hu with
 | p::r,hu =>
  simp only [dN,ahb,beq_iff_eq] at hu
  simp only [List.cons_append,dN,ahb,beq_iff_eq]
  refine ⟨hu.1,?_⟩
  have he:(p::r).getLast (by simp)=(x,y):=by
   rw [List.getLast?_eq_some_getLast (by simp)] at hl
   exact ahq hl
  rw [yA,hu.2,he]
  unfold yD
  simp [h1,h2,h3]
theorem X7 {u:List (Int × Int)} (ha:Asc u) {x y t:Int} (hl:u.getLast?=some (x,y)) (ht:x<=t) (z:Int):gJ z u t=y:=by
 have hne:u≠[]:=by intro e;subst e;simp at hl
 have hu:u=u.dropLast++[(x,y)]:=by
  have h1:=List.dropLast_concat_getLast hne
  rw [List.getLast?_eq_some_getLast hne] at hl
  rw [<- ahq hl];exact h1.symm
 rw [hu,Iq,if_pos ht]
theorem abv {u:List (Int × Int)} (ha:Asc u) {x y p v:Int} (hl:u.getLast?=some (x,y)) (hp:x<p) (z t:Int):gJ z (fU u (p,v)) t=if p<=t then v else gJ z u t:=by
 unfold fU
 rw [hl]
 simp only [Option.map_some,Option.some.injEq]
 by_cases e:y=v
 ·rw [if_pos e]
  split
  ·rw [X7 ha hl (by omega),e]
  ·rfl
 ·rw [if_neg e,Iq]
theorem Xv {u:List (Int × Int)} {x y p v:Int} (hu:dN u=true) (hl:u.getLast?=some (x,y)) (hp:x<p) (hF:p<1099511627776):dN (fU u (p,v))=true /\ ∃ x' y',(fU u (p,v)).getLast?=some (x',y')/\x'<=p:=by
 unfold fU
 rw [hl]
 simp only [Option.map_some,Option.some.injEq]
 by_cases e:y=v
 ·rw [if_pos e];exact ⟨hu,x,y,hl,by omega⟩
 ·rw [if_neg e];exact ⟨Rf hu hl hp hF (fun h=>e h.symm),p,v,by simp,Int.le_refl _⟩
theorem Kl (f:Int->Int) : ∀ (P:List Int) (u:List (Int × Int)) (x y:Int),dN u=true->u.getLast?=some (x,y)->(∀ p∈P,x<p/\p<1099511627776)->d_ P ->
  dN (P.foldl (fun acc p=>fU acc (p,f p)) u)=true /\ ∀ z t,gJ z (P.foldl (fun acc p=>fU acc (p,f p)) u) t=gJ (gJ z u t) (P.map fun p=>(p,f p)) t
 | [],u,x,y,hu,hl,_,_=>⟨hu,fun z t=>rfl⟩
 | p::P,u,x,y,hu,hl,hP,hA=>by
  obtain ⟨h1,h2⟩:=hP p (by simp)
  obtain ⟨g1,x',y',g2,g3⟩:=Xv (v:=f p) hu hl h1 h2
  obtain ⟨k1,k2⟩:=Kl f P (fU u (p,f p)) x' y' g1 g2 (fun q hq=>⟨by have:=hA.head q hq;omega,(hP q (by simp [hq])).2⟩) hA.tail
  refine ⟨k1,fun z t=>?_⟩
  rw [ahJ,k2,abv (iR hu).1 hl h1,ag6,cB]
theorem Fv (f:Int->Int) {P:List Int} (hA:d_ P) (h0:P.head?=some 0) (hF : ∀ p∈P,p<1099511627776):dN (dJ f P)=true /\ ∀ z t,gJ z (dJ f P) t=gJ z (P.map fun p=>(p,f p)) t:=by
 match P,h0 with
 | p::P,h0 =>
  simp at h0
  subst h0
  have h1:=Kl f P [(0,f 0)] 0 (f 0) rfl rfl (fun q hq=>⟨hA.head q hq,hF q (by simp [hq])⟩) hA.tail
  have h2:dJ f (0::P)=P.foldl (fun acc p=>fU acc (p,f p)) [(0,f 0)]:=rfl
  rw [h2]
  refine ⟨h1.1,fun z t=>?_⟩
  rw [h1.2,ag6,cB]
  rfl
def Y5 (g:Int->Int) (P:List Int):Prop := ∀ t p,0<=t->t<1099511627776->p∈P->p<=t->(∀ q∈P,q<=t->q<=p)->g t=g p
theorem M3 (g:Int->Int) : ∀ (P:List Int) (z t:Int),d_ P->(∃ p∈P,p<=t) -> ∃ p∈P,p<=t/\(∀ q∈P,q<=t->q<=p)/\gJ z (P.map fun p=>(p,g p)) t=g p
 | [],z,t,_,⟨p,hp,_⟩=>by simp at hp
 | a::P,z,t,hA,⟨p,hp,hpt⟩=>by
  have hat:a<=t:=by
   rcases aha.1 hp with e|e
   ·omega
   ·have:=hA.head p e;omega
  rw [ag6,cB,if_pos hat]
  by_cases h : ∃ q∈P,q<=t
  ·obtain ⟨q,h1,h2,h3,h4⟩:=M3 g P (g a) t hA.tail h
   refine ⟨q,by simp [h1],h2,fun r hr hrt=>?_,h4⟩
   rcases aha.1 hr with e|e
   ·have:=hA.head q h1;omega
   ·exact h3 r e hrt
  ·refine ⟨a,by simp,hat,fun r hr hrt=>?_,?_⟩
   ·rcases aha.1 hr with e|e
    ·omega
    ·exact absurd ⟨r,e,hrt⟩ h
   ·refine gQ fun x hx=>?_
    obtain ⟨q,hq,e⟩:=aht.1 hx
    subst e
    exact Int.not_le.1 fun hh=>h ⟨q,hq,hh⟩
theorem Qa (g:Int->Int) {P:List Int} (hA:d_ P) (h0:P.head?=some 0) (hF : ∀ p∈P,p<1099511627776) (hC:Y5 g P) {t:Int} (t1:0<=t) (t2:t<1099511627776):vV (dJ g P) t=g t:=by
 rw [yu t1 t2,(Fv g hA h0 hF).2]
 have h0m:(0:Int)∈P:=List.mem_of_mem_head? h0
 obtain ⟨p,h1,h2,h3,h4⟩:=M3 g P 0 t hA ⟨0,h0m,t1⟩
 rw [h4,hC t p t1 t2 h1 h2 h3]
theorem Nq {P:List Int} (hA:d_ P) (h0:(0:Int)∈P) (hp : ∀ p∈P,0<=p):P.head?=some 0:=by
 match P,h0 with
 | a::P,h0 =>
  have ha:=hp a (by simp)
  rcases aha.1 h0 with e|e
  ·rw [<- e];rfl
  ·have:=hA.head 0 e;omega
theorem tV {l:List (Int × Int)} (h:dN l=true) : ∀ s∈l,0<=s.1:=by
 obtain ⟨h1,_,h3,h4⟩:=iR h
 intro s hs
 obtain ⟨i,hi,e⟩:=List.mem_iff_getElem.1 hs
 have hpos:0<l.length:=by omega
 have h0:=h4 l[0] (ag4 hpos)
 by_cases e0:i=0
 ·subst e0;rw [<- e];omega
 ·have:=h1 0 i _ _ (by omega) (ag4 hpos) (ag4 hi)
  rw [e] at this;omega
theorem of_ok (l:List ((Int × Int) × Int)):dN (dJ (pF l) (iq l))=true /\ ∀ t,0<=t->t<1099511627776->vV (dJ (pF l) (iq l)) t=pF l t:=by
 obtain ⟨h1,h2⟩:=jI l
 have hnn : ∀ p∈iq l,0<=p:=by
  intro p hp
  rcases ((h2 p).1 hp).1 with e|⟨y,hy⟩
  ·omega
  ·exact (EU (p,y) hy).1
 have h0:(iq l).head?=some 0:=Nq h1 ((h2 0).2 ⟨.inl rfl,by omega⟩) hnn
 have hF : ∀ p∈iq l,p<1099511627776:=fun p hp=>((h2 p).1 hp).2
 have hC:Y5 (pF l) (iq l):=by
  intro t p t1 t2 hp hpt hmax
  rw [wT,wT]
  congr 1
  unfold tH
  congr 1
  refine List.map_congr_left fun c hc=>?_
  have hiff:a_ c.1 t=a_ c.1 p:=by
   unfold a_
   by_cases hv:aO c.1=true
   ·have hm : ∀ q,q=c.1.1\/q=c.1.2->q<=t->q<=p:=by
     intro q hq hqt
     refine hmax q ((h2 q).2 ⟨.inr ?_,by omega⟩) hqt
     rcases hq with e|e
     ·exact ⟨c.2,List.mem_flatMap.2 ⟨c,hc,by unfold pz;rw [if_pos hv];simp [e]⟩⟩
     ·exact ⟨wrap64 (-c.2),List.mem_flatMap.2 ⟨c,hc,by unfold pz;rw [if_pos hv];simp [e]⟩⟩
    have m1:=hm c.1.1 (.inl rfl)
    have m2:=hm c.1.2 (.inr rfl)
    rw [hv,ahr,ahr,Bool.eq_iff_iff]
    simp only [ahb,decide_eq_true_eq]
    constructor
    ·rintro ⟨u1,u2⟩;exact ⟨m1 u1,by omega⟩
    ·rintro ⟨u1,u2⟩
     refine ⟨by omega,Int.not_le.1 fun hh=>?_⟩
     have:=m2 hh;omega
   ·have:aO c.1=false:=by simpa using hv
    rw [this];simp
  rw [hiff]
 exact ⟨(Fv _ h1 h0 hF).1,fun t t1 t2=>Qa _ h1 h0 hF hC t1 t2⟩
def cnt (X:List (Int × Int)) (t:Int):Int:=(X.map fun p=>if a_ p t then (1:Int) else 0).sum
theorem wu (X Y:List (Int × Int)) (t:Int):cnt (X++Y) t=cnt X t+cnt Y t:=by simp [cnt]
theorem Pi {a b t:Int} (h0:0<=a) (h1:a<b) (h2:b<=1099511627776):cnt [(a,b)] t=if a<=t/\t<b then 1 else 0:=by
 have hv:aO (a,b)=true:=by simp [aO];omega
 simp [cnt,a_,hv]
theorem Ja (n t v:Int) (out:List (Int × Int)) {a b:Int} (h0:0<=a) (h1:a<b) (h2:b<=1099511627776) (hout : ∀ q∈out,aO q=true/\q.2<=a) :
  (∀ q∈dZ n out ((a,b),v),aO q=true/\q.2<=b)/\cnt (dZ n out ((a,b),v)) t=cnt out t+(if n<=v/\a<=t/\t<b then 1 else 0):=by
 have hv:aO (a,b)=true:=by simp [aO];omega
 have happ:(∀ q∈out++[(a,b)],aO q=true/\q.2<=b)/\cnt (out++[(a,b)]) t=cnt out t+(if a<=t/\t<b then 1 else 0):=by
  refine ⟨fun q hq=>?_,by rw [wu,Pi h0 h1 h2]⟩
  rcases ahl.1 hq with e|e
  ·have:=hout q e;exact ⟨this.1,by omega⟩
  ·simp at e;subst e;exact ⟨hv,Int.le_refl _⟩
 unfold dZ
 by_cases hn:n<=v
 ·rw [if_pos hn]
  simp only [hn,true_and]
  unfold jR
  split
  ·rename_i q hq
   split
   ·rename_i hle
    have hmem:q∈out:=List.mem_of_getLast? hq
    obtain ⟨hq1,hq2⟩:=hout q hmem
    have hle':a<=q.2:=hle
    have hqe:q.2=a:=by omega
    have hsp:out=out.dropLast++[q]:=by
     have hne:out≠[]:=by intro e;rw [e] at hmem;simp at hmem
     rw [List.getLast?_eq_some_getLast hne] at hq
     injection hq with hq
     rw [<- hq];exact (List.dropLast_concat_getLast hne).symm
    have hqv:0<=q.1/\q.1<q.2/\q.2<=1099511627776:=by simp [aO] at hq1;omega
    have hm:max q.2 b=b:=by omega
    show (∀ x∈out.dropLast++[(q.1,max q.2 b)],aO x=true/\x.2<=b)/\cnt (out.dropLast++[(q.1,max q.2 b)]) t=_
    rw [hm]
    refine ⟨fun x hx=>?_,?_⟩
    ·rcases ahl.1 hx with e|e
     ·have:=hout x (List.dropLast_subset _ e);exact ⟨this.1,by omega⟩
     ·simp at e;subst e;exact ⟨by simp [aO];omega,Int.le_refl _⟩
    ·have e1:cnt out t=cnt out.dropLast t+cnt [(q.1,q.2)] t:=by rw [<- wu];exact congrArg (cnt · t) hsp
     rw [e1,wu,Pi hqv.1 (by omega) h2,Pi hqv.1 hqv.2.1 hqv.2.2]
     split<;>split<;>split<;>omega
   ·exact happ
  ·exact happ
 ·rw [if_neg hn]
  refine ⟨fun q hq=>?_,by simp [hn]⟩
  have:=hout q hq;exact ⟨this.1,by omega⟩
theorem RA (n t:Int) (ht:t<1099511627776) : ∀ (r:List (Int × Int)) (x:Int × Int) (out:List (Int × Int)),0<=x.1->(x::r).Pairwise (fun p q=>p.1<q.1)->(∀ s∈x::r,s.1<1099511627776)->(∀ q∈out,aO q=true/\q.2<=x.1) ->
  cnt ((rR (x::r)).foldl (dZ n) out) t=cnt out t+(if x.1<=t/\n<=gJ x.2 r t then 1 else 0)
 | [],x,out,h0,_,hM,hout=>by
  have:=(Ja n t x.2 out h0 (hM x (by simp)) (Int.le_refl _) hout).2
  simp only [rR,ahJ,List.foldl_nil,this]
  have e:gJ x.2 [] t=x.2:=rfl
  rw [e]
  split<;>split<;>omega
 | y::r,x,out,h0,hp,hM,hout=>by
  have hxy:x.1<y.1:=(ahP.1 hp).1 y (by simp)
  have hy:=(ahP.1 hp).2
  obtain ⟨h1,h2⟩:=Ja n t x.2 out h0 hxy (by have:=hM y (by simp);omega) hout
  have ih:=RA n t ht r y _ (by omega) hy (fun s hs=>hM s (ahh _ hs)) h1
  have e:rR (x::y::r)=((x.1,y.1),x.2)::rR (y::r):=rfl
  rw [e,ahJ,ih,h2,cB]
  by_cases hyt:y.1<=t
  ·rw [if_pos hyt]
   split<;>split<;>split<;>omega
  ·rw [if_neg hyt]
   have e2:gJ x.2 r t=x.2:=gQ fun q hq=>by have:=(ahP.1 hy).1 q hq;omega
   rw [e2]
   split<;>split<;>split<;>omega
theorem acP {l:List (Int × Int)} (h:dN l=true) (n t:Int) (h1:0<=t) (h2:t<1099511627776):cnt (Hf l n) t=if n<=vV l t then 1 else 0:=by
 match l,h with
 | p::r,h =>
  have ha:=iR h
  have hp0:p.1=0:=ha.2.2.2 p rfl
  simp only [dN,ahb] at h
  have hv:=dX h.2
  have:=RA n t h2 r p [] (by omega) hv.1 ha.2.1 (by simp)
  unfold Hf
  rw [this,yu h1 h2,cB,if_pos (show p.1<=t by omega)]
  have e:cnt [] t=0:=rfl
  rw [e]
  simp [hp0,h1]
theorem Mj {l:List (Int × Int)} (h:dN l=true) (t:Int) (h1:0<=t) (h2:t<1099511627776) (h3:0<=vV l t) : ∀ k:Nat,cnt (mh l k) t=if (k:Int)<=vV l t then (k:Int) else vV l t
 | 0=>by
  have e:cnt (mh l 0) t=0:=rfl
  rw [e];split<;>omega
 | k+1=>by
  rw [wC,wu,Mj h t h1 h2 h3 k,acP h _ t h1 h2]
  split<;>split<;>split<;>omega
theorem aaQ {a b:List (Int × Int)} (h:a.Perm b) (t:Int):cnt a t=cnt b t:=by
 unfold cnt
 induction h with
 | nil=>rfl
 | cons x _ ih=>simp only [ag6,List.sum_cons,ih]
 | swap x y l=>simp only [ag6,List.sum_cons];omega
 | trans _ _ ih1 ih2=>exact ih1.trans ih2
theorem RZ {l:List (Int × Int)} (h:dN l=true) (t:Int) (h1:0<=t) (h2:t<1099511627776) (h3:0<=vV l t) (h4:vV l t<=600):cnt (uD l) t=vV l t:=by
 have hp:(uD l).Perm (mh l 600):=by
  have h0:=(qd (mR l) [] .nil).2
  rw [ag0] at h0
  have e:mR l=mh l 600:=by unfold mR mh;rfl
  rw [<- e];exact h0
 rw [aaQ hp,Mj h t h1 h2 h3]
 split<;>omega
def FZ (X:List (Int × Int)):List ((Int × Int) × Int):=X.map fun p=>(p,1)
theorem wZ (X:List (Int × Int)) (t:Int):tH (FZ X) t=cnt X t:=by
 unfold tH FZ cnt;rw [List.map_map];rfl
end Go.Proofs.YtcehmafobkhdbaaGreatDoor.St
namespace Go.Proofs.YtcehmafobkhdbaaGreatDoor
open Go.RowKit
def aX (p:aI) (t:Int):Bool:=St.a_ (toP p) t
theorem q8 (p:aI) (t:Int):aX p t=(St.aO (toP p)&&(decide (p.lo<=t)&&decide (t<p.hi))):=Bool.and_assoc _ _ _
def ed (ps:List aI) (t:Int):Nat:=(ps.filter fun p=>aX p t).length
theorem GX (ps:List aI) (t:Int):St.cnt (ps.map toP) t=(ed ps t:Int):=by
 unfold St.cnt ed
 induction ps with
 | nil=>rfl
 | cons p ps ih =>
  rw [ag6,ag6,List.sum_cons,ih,List.filter_cons]
  unfold aX
  by_cases h:St.a_ (toP p) t=true
  ·rw [if_pos h,if_pos h,ahf];omega
  ·rw [if_neg h,if_neg h];omega
theorem f_ (p:aI) (ps:List aI) (t:Int):ed (p::ps) t=(if aX p t=true then 1 else 0)+ed ps t:=by
 unfold ed
 rw [List.filter_cons]
 split<;>simp<;>omega
theorem Ux {p:aI} {t:Int} (h:aX p t=true):0<=t/\t<1099511627776:=by
 unfold aX St.a_ St.aO at h
 simp only [ahb,decide_eq_true_eq] at h
 omega
theorem KM {t:Int} (h : ¬(0<=t/\t<1099511627776)) (ps:List aI):ed ps t=0:=by
 unfold ed
 rw [ahu,List.filter_eq_nil_iff]
 exact fun p _ hp=>h (Ux hp)
theorem Wi (ps:List aI) (t:Int):ed ps t<=ps.length:=List.length_filter_le _ _
def fM (ps:List aI):List (Int × Int):=St.P5 ((ones ps).map toC)
theorem OA (ps:List aI):(ones ps).map toC=St.FZ (ps.map toP):=by
 unfold ones St.FZ
 rw [List.map_map,List.map_map];rfl
theorem V8 (ps:List aI):(bR ps).map toP=St.uD (fM ps):=by
 unfold bR EC AU fM
 rw [List.map_map,List.map_map]
 have e1:(toP∘ofP)=id:=by funext x;rfl
 have e2:(toS∘ofS)=id:=by funext x;rfl
 rw [e1,e2,List.map_id,List.map_id]
theorem lZ (ps:List aI):St.dN (fM ps)=true:=(St.of_ok _).1
theorem Mc (ps:List aI) (hn:ps.length<=300) (t:Int):St.vV (fM ps) t=(ed ps t:Int):=by
 by_cases h:0<=t/\t<1099511627776
 ·rw [show fM ps=St.dJ (St.pF ((ones ps).map toC)) (St.iq ((ones ps).map toC)) from rfl,(St.of_ok _).2 t h.1 h.2,St.vk t (yn ps) (by simp [ones];omega),OA,St.wZ,GX]
 ·rw [St.ab1 h,KM h];rfl
theorem sS (ps:List aI) (hn:ps.length<=300) (t:Int):0<=St.vV (fM ps) t/\St.vV (fM ps) t<=600:=by
 have:=Mc ps hn t
 have:=Wi ps t
 omega
theorem C8 (ps:List aI) (hn:ps.length<=300) (t:Int):ed (bR ps) t=ed ps t:=by
 by_cases h:0<=t/\t<1099511627776
 ·have h1:=GX (bR ps) t
  rw [V8,St.RZ (lZ ps) t h.1 h.2 (sS ps hn t).1 (sS ps hn t).2,Mc ps hn] at h1
  omega
 ·rw [KM h,KM h]
def Gy (ps:List aI) (x:Int):Nat:=(ps.filter fun p=>St.aO (toP p)&&decide (p.lo<=x)).length
theorem uk (p:aI) (ps:List aI) (t:Int):Gy (p::ps) t=(if (St.aO (toP p)&&decide (p.lo<=t))=true then 1 else 0)+Gy ps t:=by
 unfold Gy
 rw [List.filter_cons]
 split<;>simp<;>omega
theorem Sn {x y:Int} (h:x<y) : ∀ ps:List aI,ed ps y+Gy ps x<=ed ps x+Gy ps y
 | []=>by simp [ed,Gy]
 | p::ps=>by
  have ih:=Sn h ps
  rw [f_,f_,uk,uk]
  have:(if aX p y=true then 1 else 0)+(if (St.aO (toP p)&&decide (p.lo<=x))=true then 1 else 0)<=(if aX p x=true then 1 else 0)+(if (St.aO (toP p)&&decide (p.lo<=y))=true then 1 else 0):=by
   rw [q8,q8]
   cases hv:St.aO (toP p)
   ·simp
   ·simp only [ahr,ahb,decide_eq_true_eq]
    split<;>split<;>split<;>split<;>omega
  omega
theorem ab6 (ps:List aI) (x:Int):ed ps x<=Gy ps x:=by
 induction ps with
 | nil=>simp [ed,Gy]
 | cons p ps ih =>
  rw [f_,uk]
  have:(if aX p x=true then 1 else 0)<=(if (St.aO (toP p)&&decide (p.lo<=x))=true then 1 else 0):=by
   rw [q8]
   cases hv:St.aO (toP p)
   ·simp
   ·simp only [ahr,ahb,decide_eq_true_eq]
    split<;>split<;>omega
  omega
theorem YO {x y:Int} (h:x<=y) (ps:List aI):Gy ps x<=Gy ps y:=by
 induction ps with
 | nil=>simp [Gy]
 | cons p ps ih =>
  rw [uk,uk]
  have:(if (St.aO (toP p)&&decide (p.lo<=x))=true then 1 else 0)<=(if (St.aO (toP p)&&decide (p.lo<=y))=true then 1 else 0):=by
   cases hv:St.aO (toP p)
   ·simp
   ·simp only [ahr,decide_eq_true_eq]
    split<;>split<;>omega
  omega
theorem Me {l:List (Int × Int)} (ps:List aI) (ha:St.Asc l) (hF : ∀ s∈l,0<=s.1/\s.1<1099511627776) (hy : ∀ s∈l,s.2=(ed ps s.1:Int)) : ∀ k,k<=l.length ->
  (∀ q∈(St.oU l k).2,St.aO q=true)/\(∀ f∈(St.oU l k).1,0<=f/\f<1099511627776 /\ ∃ (j:Nat) (y:Int),j<k/\l[j]?=some (f,y)) /\
  ((k=0/\(St.oU l k).1=[]/\(St.oU l k).2=[]) \/ ∃ x y,l[k-1]?=some (x,y)/\0<k/\(St.oU l k).1.length=ed ps x/\(St.oU l k).2.length+(St.oU l k).1.length<=Gy ps x)
 | 0,_=>⟨fun q hq=>(by cases hq),fun f hf=>(by cases hf), .inl ⟨rfl,rfl,rfl⟩⟩
 | k+1,hk=>by
  obtain ⟨h1,h2,h3⟩:=Me ps ha hF hy k (by omega)
  have hx:l[k]?=some (l[k]'(by omega)):=ag4 (by omega)
  generalize l[k]'(by omega)=p at hx
  obtain ⟨x,y⟩:=p
  have hm:=ag1 hx
  have hxF:=hF _ hm
  have hxy:y=(ed ps x:Int):=hy _ hm
  rw [St.uT hx]
  have hc:St.qM y=ed ps x:=by
   unfold St.qM
   rw [hxy]
   split<;>omega
  unfold St.Ei
  dsimp only
  rw [hc]
  refine ⟨fun q hq=>?_,fun f hf=>?_, .inr ⟨x,y,by simpa using hx,by omega,St.uH _ _ _,?_⟩⟩
  ·rcases ahl.1 hq with hq|hq
   ·exact h1 q hq
   ·obtain ⟨f,hf,rfl⟩:=aht.1 hq
    obtain ⟨f1,f2,j,z,hj,hz⟩:=h2 f (List.mem_of_mem_drop hf)
    have:=ha j k _ _ hj hz hx
    show St.aO (f,x)=true
    unfold St.aO
    simp only [ahb,decide_eq_true_eq]
    dsimp only at this hxF
    omega
  ·unfold St.Ec at hf
   rcases ahl.1 hf with hf|hf
   ·obtain ⟨f1,f2,j,z,hj,hz⟩:=h2 f (ahQ hf)
    exact ⟨f1,f2,j,z,by omega,hz⟩
   ·obtain ⟨_,rfl⟩:=List.mem_replicate.1 hf
    exact ⟨hxF.1,hxF.2,k,y,by omega,hx⟩
  ·rw [St.uH,ag3,ag7,List.length_drop]
   rcases h3 with ⟨_,e1,e2⟩|⟨x0,y0,hx0,hk0,e1,e2⟩
   ·rw [e1,e2]
    have:=ab6 ps x
    simp only [aho]
    omega
   ·have hlt:=ha (k-1) k _ _ (by omega) hx0 hx
    dsimp only at hlt
    have b1:=Sn hlt ps
    have b2:=YO (Int.le_of_lt hlt) ps
    omega
theorem H9 (ps:List aI) (hn:ps.length<=300):(St.OZ (fM ps)).length<=ps.length /\ ∀ q∈St.OZ (fM ps),St.aO q=true:=by
 obtain ⟨ha,hF,hne,_⟩:=St.iR (lZ ps)
 have hnn:=St.tV (lZ ps)
 have hy : ∀ s∈fM ps,s.2=(ed ps s.1:Int):=by
  intro s hs
  have h:=((St.Ih ((ones ps).map toC)).2 s hs).2
  rw [h,St.vk s.1 (yn ps) (by simp [ones];omega),OA,St.wZ,GX]
 obtain ⟨h1,h2,h3⟩:=Me ps ha (fun s hs=>⟨hnn s hs,hF s hs⟩) hy (fM ps).length (ag' _)
 unfold St.OZ
 refine ⟨?_,fun q hq=>?_⟩
 ·rw [ag3,ag7]
  rcases h3 with ⟨_,e1,e2⟩|⟨x,y,_,_,_,e2⟩
  ·rw [e1,e2];exact ahe _
  ·exact Nat.le_trans e2 (List.length_filter_le _ _)
 ·rcases ahl.1 hq with hq|hq
  ·exact h1 q hq
  ·obtain ⟨f,hf,rfl⟩:=aht.1 hq
   obtain ⟨f1,f2,_⟩:=h2 f hf
   show St.aO (f,1099511627776)=true
   unfold St.aO
   simp only [ahb,decide_eq_true_eq]
   omega
theorem Dc (ps:List aI) (hn:ps.length<=300):((bR ps).map toP).Perm (St.OZ (fM ps)):=by
 obtain ⟨ha,hF,_,_⟩:=St.iR (lZ ps)
 have hM : ∀ s∈fM ps,s.2<=600:=by
  intro s hs
  have h:=((St.Ih ((ones ps).map toC)).2 s hs).2
  rw [h,St.vk s.1 (yn ps) (by simp [ones];omega),OA,St.wZ,GX]
  have:=Wi ps s.1
  omega
 rw [V8]
 have h0:=(St.qd (St.mR (fM ps)) [] .nil).2
 rw [ag0] at h0
 exact h0.trans (St.ND ha hF hM).symm
theorem VB (ps:List aI) (hn:ps.length<=300):(bR ps).length<=ps.length:=by
 have:=(Dc ps hn).length_eq
 rw [ag7] at this
 rw [this];exact (H9 ps hn).1
theorem mg (ps:List aI) (hn:ps.length<=300) : ∀ p∈bR ps,St.aO (toP p)=true:=fun p hp =>
 (H9 ps hn).2 _ ((Dc ps hn).subset (List.mem_map_of_mem hp))
open Go.RowKit Go.MapKept
set_option maxRecDepth 100000
theorem Qb {r:List Val} {R:List (List Val)} (h:Nt (r::R)):r∉R:=by
 intro hr
 have:=List.rel_of_pairwise_cons h hr
 rw [tCr_.refl] at this
 omega
theorem Iu {α:Type} (p:α->Bool) : ∀ l:List α,(l.filter p).length+(l.filter fun x => !p x).length=l.length
 | []=>rfl
 | x::l=>by
  have:=Iu p l
  rw [List.filter_cons,List.filter_cons]
  cases h:p x<;>simp<;>omega
theorem ZR (l:List aj) (r:List Val):(bD l r).length<=(l.filter fun f=>decide (f.row=r)).length:=by
 unfold bD
 rw [ag7]
 induction l with
 | nil=>exact ag' _
 | cons f l ih =>
  rw [List.filter_cons,List.filter_cons]
  cases aL f.valid<;>cases decide (f.row=r)<;>simp<;>omega
theorem SA {r x:List Val} (h:x≠r) (l:List aj):bD l x=bD (l.filter fun f => !decide (f.row=r)) x:=by
 unfold bD
 rw [List.filter_filter]
 congr 1
 apply List.filter_congr
 intro f _
 by_cases hx:f.row=x
 ·have:f.row≠r:=fun e=>h (hx.symm.trans e)
  simp [hx,h]
 ·simp [hx]
theorem M4 : ∀ (R:List (List Val)) (l:List aj),Nt R->(R.flatMap fun r=>bD l r).length<=l.length
 | [],l,_=>ahe _
 | r::R,l,h=>by
  rw [ahw,ag3]
  have e:(R.flatMap fun x=>bD l x)=R.flatMap fun x=>bD (l.filter fun f => !decide (f.row=r)) x:=by
   rw [List.flatMap_def,List.flatMap_def]
   congr 1
   refine List.map_congr_left fun x hx=>SA ?_ l
   rintro rfl
   exact Qb h hx
  rw [e]
  have h1:=M4 R (l.filter fun f => !decide (f.row=r)) (List.Pairwise.of_cons h)
  have h2:=ZR l r
  have h3:=Iu (fun f:aj=>decide (f.row=r)) l
  omega
theorem gF {α β γ:Type} (f:α->List β) (g:α->List γ) : ∀ l:List α,(∀ x∈l,(f x).length<=(g x).length)->(l.flatMap f).length<=(l.flatMap g).length
 | [],_=>ag' _
 | x::l,h=>by
  rw [ahw,ahw,ag3,ag3]
  have:=h x (ahG ..)
  have:=gF f g l fun y hy=>h y (ahh _ hy)
  omega
theorem il (l:List aj) (r:List Val):(bD l r).length<=l.length:=by
 unfold bD;rw [ag7];exact List.length_filter_le _ _
theorem UV {l:List aj} {R:List (List Val)} (h:fV l R) {r:List Val} (hr:r∉R):bD l r=[]:=by
 unfold bD
 rw [List.map_eq_nil_iff,List.filter_eq_nil_iff]
 intro f hf hc
 rw [ahb] at hc
 exact hr ((h.2 r).2 ⟨f,hf,hc.1,ahm hc.2⟩)
section
variable {l:List aj} {R:List (List Val)} (h:fV l R) (hn:l.length<=300)
include h hn
theorem acS:(fO l R).length<=l.length:=by
 refine Nat.le_trans ?_ (M4 R l h.1)
 refine gF _ _ _ fun r _=>?_
 rw [ag7]
 exact VB _ (Nat.le_trans (il l r) hn)
end
def aS (l:List aj) (t:Int):List (List Val):=(l.filter fun f=>aX f.valid t).map (·.row)
theorem za (t:Int) (r:List Val) : ∀ l:List aj,(aS l t).count r=ed (bD l r) t
 | []=>rfl
 | f::l=>by
  have ih:=za t r l
  unfold aS at ih ⊢
  have e:bD (f::l) r=(if (aL f.valid&&decide (f.row=r))=true then [f.valid] else [])++bD l r:=by
   unfold bD
   rw [List.filter_cons]
   split<;>simp
  rw [List.filter_cons,e]
  by_cases hc:aX f.valid t=true
  ·have hv:aL f.valid=true:=by
    have:=hc
    rw [q8,ahb] at this
    exact this.1
   rw [if_pos hc,ag6,List.count_cons,ih]
   by_cases hr:f.row=r
   ·simp only [hv,hr,decide_true,Bool.and_self,if_true,List.cons_append,ag0,beq_self_eq_true]
    rw [f_,if_pos hc];omega
   ·simp [hr]
  ·rw [if_neg hc,ih]
   split
   ·rw [List.cons_append,ag0,f_,if_neg hc,ahB]
   ·rfl
def Apart (p q:aI):Prop:=p.hi<q.lo\/q.hi<p.lo\/(p.lo<=q.lo/\q.hi<=p.hi)\/(q.lo<=p.lo/\p.hi<=q.hi)
def Lam (L:List aI):Prop := ∀ p∈L, ∀ q∈L,Apart p q
def Av (p:aI):Prop:=0<=p.lo/\p.lo<p.hi/\p.hi<=1099511627776
theorem EJ (p:aI):St.aO (toP p)=true↔Av p:=by
 unfold St.aO Av toP
 simp only [ahb,decide_eq_true_eq]
 omega
theorem eO {p:aI} (h:Av p) (t:Int):aX p t=true↔p.lo<=t/\t<p.hi:=by
 rw [q8,(EJ p).2 h,ahr,ahb,decide_eq_true_eq,decide_eq_true_eq]
theorem cnt_mono {s t:Int} : ∀ L:List aI,(∀ p∈L,aX p s=true->aX p t=true)->ed L s<=ed L t
 | [],_=>ag' _
 | p::L,h=>by
  have ih:=cnt_mono L fun q hq=>h q (ahh _ hq)
  have h0:=h p (ahG ..)
  rw [f_,f_]
  by_cases hs:aX p s=true
  ·rw [if_pos hs,if_pos (h0 hs)];omega
  ·rw [if_neg hs];omega
theorem vE (A B:List aI) (t:Int):ed (A++B) t=ed A t+ed B t:=by
 unfold ed;rw [List.filter_append,ag3]
theorem cnt_lt {s t:Int} {L:List aI} (h : ∀ p∈L,aX p s=true->aX p t=true) {q:aI} (hq:q∈L) (h1:aX q t=true) (h2:aX q s=false):ed L s<ed L t:=by
 obtain ⟨A,B,rfl⟩:=List.append_of_mem hq
 have hA:=cnt_mono A fun p hp=>h p (by simp [hp])
 have hB:=cnt_mono B fun p hp=>h p (by simp [hp])
 rw [vE,vE,f_,f_,if_pos h1,if_neg (by rw [h2];decide)]
 omega
theorem Zo {s t:Int} {L:List aI} (h:ed L s<ed L t) : ∃ q∈L,aX q t=true/\aX q s=false:=by
 apply Classical.byContradiction
 intro hn
 have:=cnt_mono (s:=t) (t:=s) L fun p hp h1=>by
  cases h2:aX p s
  ·exact absurd ⟨p,hp,h1,h2⟩ hn
  ·rfl
 omega
theorem aaV : ∀ L:List aI,L≠[] -> ∃ p∈L, ∀ q∈L,p.hi-p.lo<=q.hi-q.lo
 | [],h=>absurd rfl h
 | p::L,_=>by
  by_cases hL:L=[]
  ·subst hL
   exact ⟨p,ahG .., fun q hq=>by simp at hq;subst hq;omega⟩
  ·obtain ⟨m,hm,h⟩:=aaV L hL
   by_cases hpm:p.hi-p.lo<=m.hi-m.lo
   ·exact ⟨p,ahG .., fun q hq=>by
     rcases aha.1 hq with rfl|hq
     ·omega
     ·have:=h q hq;omega⟩
   ·exact ⟨m,ahh _ hm,fun q hq=>by
     rcases aha.1 hq with rfl|hq
     ·omega
     ·exact h q hq⟩
theorem OJ {p q:aI} (h1:p.lo=q.lo) (h2:p.hi=q.hi):p=q:=by
 cases p;cases q;simp_all
theorem falls {M:List aI} (hM:Lam M) (vM : ∀ p∈M,Av p) {q:aI} (hq:q∈M):ed M q.hi<ed M (q.hi-1):=by
 have vq:=vM q hq
 unfold Av at vq
 refine cnt_lt (fun s hs h=>?_) hq ((eO (vM q hq) _).2 (by omega)) ?_
 ·have vs:=vM s hs
  have ha:=hM q hq s hs
  rw [eO vs] at h ⊢
  unfold Av at vs
  unfold Apart at ha
  omega
 ·cases h:aX q q.hi
  ·rfl
  ·have:=(eO (vM q hq) _).1 h
   omega
theorem rises {M:List aI} (hM:Lam M) (vM : ∀ p∈M,Av p) {q:aI} (hq:q∈M):ed M (q.lo-1)<ed M q.lo:=by
 have vq:=vM q hq
 unfold Av at vq
 refine cnt_lt (fun s hs h=>?_) hq ((eO (vM q hq) _).2 (by omega)) ?_
 ·have vs:=vM s hs
  have ha:=hM q hq s hs
  rw [eO vs] at h ⊢
  unfold Av at vs
  unfold Apart at ha
  omega
 ·cases h:aX q (q.lo-1)
  ·rfl
  ·have:=(eO (vM q hq) _).1 h
   omega
theorem I_ : ∀ (n:Nat) (L M:List aI),L.length=n->Lam L->Lam M->(∀ p∈L,Av p)->(∀ p∈M,Av p)->(∀ t,ed L t=ed M t)->L.Perm M
 | 0,L,M,hn,_,_,_,vM,hc=>by
  obtain rfl:=ahu.1 hn
  cases M with
  | nil=>exact .nil
  | cons q M =>
   have vq:=vM q (ahG ..)
   have h:=hc q.lo
   rw [f_,if_pos ((eO vq _).2 (by unfold Av at vq;omega))] at h
   simp [ed] at h
   omega
 | n+1,L,M,hn,hL,hM,vL,vM,hc=>by
  obtain ⟨p,hp,hmin⟩:=aaV L (by intro e;rw [e] at hn;simp at hn)
  have vp:=vL p hp
  have vp':=vp
  unfold Av at vp'
  have sup : ∀ q∈L, ∀ t,p.lo<=t->t<p.hi->aX q t=true->q.lo<=p.lo/\p.hi<=q.hi:=by
   intro q hq t h1 h2 h3
   rw [eO (vL q hq)] at h3
   have ha:=hL p hp q hq
   have hm:=hmin q hq
   unfold Apart at ha
   omega
  have const : ∀ s t,p.lo<=s->s<p.hi->p.lo<=t->t<p.hi->ed L s<=ed L t:=by
   intro s t h1 h2 h3 h4
   refine cnt_mono L fun q hq h=>?_
   have:=sup q hq s h1 h2 h
   rw [eO (vL q hq)]
   omega
  have r1:=rises hL vL hp
  have f1:=falls hL vL hp
  rw [hc,hc] at r1 f1
  obtain ⟨q,hq,q1,q2⟩:=Zo r1
  obtain ⟨r,hr,e1,e2⟩:=Zo f1
  have vq:=vM q hq
  have vr:=vM r hr
  have vq':=vq
  have vr':=vr
  unfold Av at vq' vr'
  rw [eO vq] at q1
  rw [eO vr] at e1
  have q3 : ¬ (q.lo<=p.lo-1/\p.lo-1<q.hi):=fun h=>by rw [(eO vq _).2 h] at q2;cases q2
  have e3 : ¬ (r.lo<=p.hi/\p.hi<r.hi):=fun h=>by rw [(eO vr _).2 h] at e2;cases e2
  have q4:p.hi<=q.hi:=by
   apply Classical.byContradiction
   intro hlt
   have f2:=falls hM vM hq
   have:=const (q.hi-1) q.hi (by omega) (by omega) (by omega) (by omega)
   rw [hc,hc] at this
   omega
  have e4:r.lo<=p.lo:=by
   apply Classical.byContradiction
   intro hlt
   have f2:=rises hM vM hr
   have:=const r.lo (r.lo-1) (by omega) (by omega) (by omega) (by omega)
   rw [hc,hc] at this
   omega
  have hpM:p∈M:=by
   have ha:=hM q hq r hr
   unfold Apart at ha
   rcases ha with h|h|h|h
   ·omega
   ·omega
   ·rw [show p=r from OJ (by omega) (by omega)];exact hr
   ·rw [show p=q from OJ (by omega) (by omega)];exact hq
  obtain ⟨A,B,rfl⟩:=List.append_of_mem hp
  obtain ⟨C,D,rfl⟩:=List.append_of_mem hpM
  have sL : ∀ x∈A++B,x∈A++p::B:=fun x hx=>by simp at hx ⊢;rcases hx with h|h<;>simp [h]
  have sM : ∀ x∈C++D,x∈C++p::D:=fun x hx=>by simp at hx ⊢;rcases hx with h|h<;>simp [h]
  have ih:=I_ n (A++B) (C++D) (by simp at hn ⊢;omega) (fun x hx y hy=>hL x (sL x hx) y (sL y hy)) (fun x hx y hy=>hM x (sM x hx) y (sM y hy)) (fun x hx=>vL x (sL x hx)) (fun x hx=>vM x (sM x hx)) (fun t=>by
   have:=hc t
   rw [vE,vE,f_,f_] at this
   rw [vE,vE]
   omega)
  exact List.perm_middle.trans ((ih.cons p).trans List.perm_middle.symm)
def ApS (p q:Int × Int):Prop:=p.2<q.1\/q.2<p.1\/(p.1<=q.1/\q.2<=p.2)\/(q.1<=p.1/\p.2<=q.2)
structure Stk (E:List Int) (out:List (Int × Int)) (x:Int):Prop where
 asc:E.Pairwise (· <= ·)
 out2 : ∀ p∈out, ∀ q∈out,ApS p q
 fin : ∀ p∈out,p.2<=x/\p.1<p.2
 opn : ∀ f∈E,f<=x /\ ∀ q∈out,f<=q.1\/q.2<f
theorem Stk.pop {E:List Int} {out:List (Int × Int)} {x y:Int} (h:Stk E out x) (hxy:x<y) (c:Nat) :
  (∀ p∈out++(E.drop c).map (fun f=>(f,y)), ∀ q∈out++(E.drop c).map (fun f=>(f,y)),ApS p q)/\(∀ p∈out++(E.drop c).map (fun f=>(f,y)),p.2<=y/\p.1<p.2):=by
 have key : ∀ p∈out, ∀ f∈E.drop c,ApS p (f,y)/\ApS (f,y) p:=by
  intro p hp f hf
  have h1:=(h.opn f (List.mem_of_mem_drop hf)).2 p hp
  have h2:=h.fin p hp
  unfold ApS
  dsimp only
  omega
 have two : ∀ f∈E.drop c, ∀ g∈E.drop c,ApS (f,y) (g,y):=by
  intro f _ g _
  unfold ApS
  dsimp only
  omega
 refine ⟨fun p hp q hq=>?_,fun p hp=>?_⟩
 ·rcases ahl.1 hp with hp|hp<;>rcases ahl.1 hq with hq|hq
  ·exact h.out2 p hp q hq
  ·obtain ⟨f,hf,rfl⟩:=aht.1 hq
   exact (key p hp f hf).1
  ·obtain ⟨f,hf,rfl⟩:=aht.1 hp
   exact (key q hq f hf).2
  ·obtain ⟨f,hf,rfl⟩:=aht.1 hp
   obtain ⟨g,hg,rfl⟩:=aht.1 hq
   exact two f hf g hg
 ·rcases ahl.1 hp with hp|hp
  ·have:=h.fin p hp;omega
  ·obtain ⟨f,hf,rfl⟩:=aht.1 hp
   have:=(h.opn f (List.mem_of_mem_drop hf)).1
   dsimp only
   omega
theorem Stk.next {E:List Int} {out:List (Int × Int)} {x y:Int} (h:Stk E out x) (hxy:x<y) (c:Nat):Stk (St.Ec E y c) (out++(E.drop c).map fun f=>(f,y)) y:=by
 obtain ⟨h1,h2⟩:=h.pop hxy c
 unfold St.Ec
 refine ⟨?_,h1,h2,fun f hf=>?_⟩
 ·rw [List.pairwise_append]
  refine ⟨h.asc.sublist (List.take_sublist _ _),List.pairwise_replicate.2 (.inr (Int.le_refl _)),fun a ha b hb=>?_⟩
  obtain ⟨_,rfl⟩:=List.mem_replicate.1 hb
  have:=(h.opn a (ahQ ha)).1
  omega
 ·rcases ahl.1 hf with hf|hf
  ·have h3:=h.opn f (ahQ hf)
   refine ⟨by omega,fun q hq=>?_⟩
   rcases ahl.1 hq with hq|hq
   ·exact h3.2 q hq
   ·obtain ⟨g,hg,rfl⟩:=aht.1 hq
    have hs:(E.take c++E.drop c).Pairwise (· <= ·):=by rw [ahE];exact h.asc
    exact .inl ((List.pairwise_append.1 hs).2.2 f hf g hg)
  ·obtain ⟨hc,rfl⟩:=List.mem_replicate.1 hf
   refine ⟨Int.le_refl _,fun q hq=>?_⟩
   rcases ahl.1 hq with hq|hq
   ·have:=(h.fin q hq).1;exact .inr (by omega)
   ·rw [List.drop_eq_nil_of_le (by omega)] at hq
    cases hq
theorem Q_ {l:List (Int × Int)} (ha:St.Asc l) : ∀ k,k<=l.length->(k=0/\St.oU l k=([],[])) \/ ∃ x y,l[k-1]?=some (x,y)/\0<k/\Stk (St.oU l k).1 (St.oU l k).2 x
 | 0,_ => .inl ⟨rfl,rfl⟩
 | k+1,hk=>by
  have ih:=Q_ ha k (by omega)
  have hx:l[k]?=some (l[k]'(by omega)):=ag4 (by omega)
  generalize l[k]'(by omega)=p at hx
  obtain ⟨x,y⟩:=p
  refine .inr ⟨x,y,by simpa using hx,by omega,?_⟩
  rw [St.uT hx]
  unfold St.Ei
  dsimp only
  rcases ih with ⟨_,e⟩|⟨x0,y0,hx0,hk0,h⟩
  ·rw [e]
   exact Stk.next (x:=x-1) ⟨.nil,fun p hp=>(by cases hp),fun p hp=>(by cases hp),fun f hf=>(by cases hf)⟩ (by omega) _
  ·exact h.next (by have:=ha (k-1) k _ _ (by omega) hx0 hx;exact this) _
theorem Zg {l:List (Int × Int)} (ha:St.Asc l) (hF : ∀ s∈l,s.1<1099511627776) : ∀ p∈St.OZ l, ∀ q∈St.OZ l,ApS p q:=by
 unfold St.OZ
 rcases Q_ ha l.length (ag' _) with ⟨_,e⟩|⟨x,y,hx,hk,h⟩
 ·rw [e];intro p hp;cases hp
 ·have:=h.pop (y:=1099511627776) (hF _ (ag1 hx)) 0
  rw [List.drop_zero] at this
  exact this.1
theorem Ho (ps:List aI) (hn:ps.length<=300):Lam (bR ps):=by
 obtain ⟨ha,hF,_,_⟩:=St.iR (lZ ps)
 intro p hp q hq
 have h:=Zg ha hF _ ((Dc ps hn).subset (List.mem_map_of_mem hp)) _ ((Dc ps hn).subset (List.mem_map_of_mem hq))
 exact h
theorem xh (ps:List aI):(bR ps).Pairwise fun p q=>St.fP (toP p) (toP q):=by
 have h:=(St.qd (St.mR (fM ps)) [] .nil).1
 have e:(bR ps).map toP=(St.mR (fM ps)).foldl St.jr []:=V8 ps
 rw [<- e,List.pairwise_map] at h
 exact h
theorem Cq : ∀ {l m:List aI}, (l.Pairwise fun p q=>St.fP (toP p) (toP q))->(m.Pairwise fun p q=>St.fP (toP p) (toP q))->l.Perm m->l=m
 | [],m,_,_,h=>(List.Perm.nil_eq h)
 | p::l,[],_,_,h=>absurd h.length_eq (by simp)
 | p::l,q::m,hl,hm,h=>by
  have hp:p∈q::m:=h.subset (ahG ..)
  have hq:q∈p::l:=h.symm.subset (ahG ..)
  have e:p=q:=by
   rcases aha.1 hp with e|hp
   ·exact e
   ·rcases aha.1 hq with e|hq
    ·exact e.symm
    ·have h1:=List.rel_of_pairwise_cons hl hq
     have h2:=List.rel_of_pairwise_cons hm hp
     unfold St.fP toP at h1 h2
     dsimp only at h1 h2
     exact OJ (by omega) (by omega)
  subst e
  rw [Cq (List.Pairwise.of_cons hl) (List.Pairwise.of_cons hm) ((List.perm_cons p).1 h)]
theorem abn {ps:List aI} {p:aI} (hp:p∈ps) {t:Int} (h:aX p t=true):0<ed ps t:=by
 unfold ed
 exact List.length_pos_of_mem (List.mem_filter.2 ⟨hp,h⟩)
theorem Vb {l:List aj} {R:List (List Val)} (h:fV l R) (r:List Val):r∈R ↔ ∃ t,0<ed (bD l r) t:=by
 constructor
 ·intro hr
  obtain ⟨f,hf,hv,e⟩:=(h.2 r).1 hr
  have hp:f.valid∈bD l r:=aht.2 ⟨f,List.mem_filter.2 ⟨hf,by simp [hv,e]⟩,rfl⟩
  have hV:=(EJ f.valid).1 (show St.aO (toP f.valid)=true from hv)
  exact ⟨f.valid.lo,abn hp ((eO hV _).2 ⟨Int.le_refl _,hV.2.1⟩)⟩
 ·rintro ⟨t,ht⟩
  refine Classical.byContradiction fun hr=>?_
  rw [UV h hr] at ht
  exact absurd ht (by simp [ed])
theorem X4 {ps qs:List aI} (hn:ps.length<=300) (hm:qs.length<=300) (h : ∀ t,ed ps t=ed qs t):bR ps=bR qs:=by
 have hc : ∀ t,ed (bR ps) t=ed (bR qs) t:=fun t=>by rw [C8 ps hn,C8 qs hm,h]
 exact Cq (xh ps) (xh qs) (I_ _ (bR ps) (bR qs) rfl (Ho ps hn) (Ho qs hm) (fun p hp=>(EJ p).1 (mg ps hn p hp)) (fun p hp=>(EJ p).1 (mg qs hm p hp)) hc)
theorem abX {l m:List aj} {R T:List (List Val)} (h:fV l R) (k:fV m T) (hl:l.length<=300) (hm:m.length<=300) (hp : ∀ t,(aS l t).Perm (aS m t)):fO l R=fO m T:=by
 have hc : ∀ r t,ed (bD l r) t=ed (bD m r) t:=fun r t=>by rw [<- za, <- za];exact (hp t).count_eq r
 have hR:R=T:=EM h.1 k.1 fun r=>by rw [Vb h,Vb k];simp only [hc]
 subst hR
 unfold fO
 rw [List.flatMap_def,List.flatMap_def]
 congr 1
 refine List.map_congr_left fun r _=>?_
 rw [X4 (Nat.le_trans (il l r) hl) (Nat.le_trans (il m r) hm) (hc r)]
noncomputable def ac' (l:List aj):List (List Val):=Classical.choose (J9 l)
theorem ry (l:List aj):fV l (ac' l):=(Classical.choose_spec (J9 l)).1
noncomputable def canon (l:List aj):List aj:=fO l (ac' l)
theorem I6 {l:List aj} {R:List (List Val)} (h:fV l R):fO l R=canon l:=by unfold canon;rw [fV.ext h (ry l)]
theorem dS {l:List aj} (hn:l.length<=300):(canon l).length<=l.length:=acS (ry l) hn
theorem kg {l m:List aj} (hl:l.length<=300) (hm:m.length<=300) (hp : ∀ t,(aS l t).Perm (aS m t)):canon l=canon m:=abX (ry l) (ry m) hl hm hp
theorem Yi {l:List aj} (hn:l.length<=300) {f:aj} (h:f∈canon l):aL f.valid=true /\ ∃ g∈l,g.row=f.row:=by
 unfold canon fO at h
 obtain ⟨r,hr,h⟩:=List.mem_flatMap.1 h
 obtain ⟨p,hp,rfl⟩:=aht.1 h
 obtain ⟨g,hg,_,e⟩:=((ry l).2 r).1 hr
 exact ⟨mg _ (Nat.le_trans (il l r) hn) p hp,g,hg,e⟩
theorem bW {l:List aj} (h:bM l):bM (canon l):=by
 have hn:l.length<=300:=by have:=h.1;omega
 refine ⟨Nat.le_trans (dS hn) h.1,fun f hf=>?_⟩
 obtain ⟨_,g,hg,e⟩:=Yi hn hf
 rw [<- e];exact h.2 g hg
theorem qY {l:List aj} (h:bM l):Dw l=some (canon l):=by
 obtain ⟨R,hR,e⟩:=VG l h
 rw [e,I6 hR]
theorem Qk {l:List aj} (hn:l.length<=300) (hr : ∀ f∈l,f.row.length<=1000000):kU l=some (canon l):=by
 obtain ⟨R,hR,e,_⟩:=Sq l hn hr
 rw [e,I6 hR]
theorem vC {l:List aj} (h:bM l) : ∀ f∈l,f.row.length<=1000000:=fun f hf=>by have:=(h.2 f hf).1;omega
theorem iK {l:List aj} (h:bM l):kU l=some (canon l):=Qk (by have:=h.1;omega) (vC h)
theorem d9 {l:List aj} (h:bM l):kM l l=some true:=Qs l (by have:=h.1;omega) (vC h)
structure VH (r:dA):Prop where
 len:r.facts.length<=16
 kinds:r.kinds.length<=48
 per : ∀ f∈r.facts,aL f.valid=true
 row : ∀ f∈r.facts,f.row.length=r.kinds.length
 val : ∀ f∈r.facts, ∀ v∈f.row,vF v=true
theorem VH.fcts {r:dA} (h:VH r):bM r.facts:=⟨by have:=h.len;omega,fun f hf=>⟨by rw [h.row f hf];have:=h.kinds;omega,fun v hv=>(xL (h.val f hf v hv)).vok⟩⟩
theorem KV {row:List Val} {kinds:List Int} (hk:kinds.length<=1000000) : ∃ b,wS row kinds=some b/\(b=true->row.length=kinds.length /\ ∀ v∈row,vF v=true):=by
 by_cases he:row.length=kinds.length
 ·obtain ⟨b,hb⟩:=Yy row kinds (by omega)
  refine ⟨b,hb,fun hbt=>⟨he,?_⟩⟩
  subst hbt
  unfold wS at hb
  rw [show decide (((row.length:Nat):Int)≠((kinds.length:Nat):Int))=false from agY (by omega),agW] at hb
  have key : ∀ (n i:Nat),i<=row.length->row.length-i<n->(ax (j_ row kinds) n (i:Int)).bind l9=some true -> ∀ v∈row.drop i,vF v=true:=by
   intro n
   induction n with
   | zero=>intro i _ h;omega
   | succ n ih =>
    intro i hi hn hb v hv
    rw [ax] at hb
    by_cases hlt:i<row.length
    ·obtain ⟨x,hx⟩:=gol_ hlt
     obtain ⟨k,hk⟩:=gol_ (l:=kinds) (i:=i) (by omega)
     have h1:j_ row kinds (i:Int)=bif (!vF x) then some (.ret false) else bif decide (x.kind≠0) then bif decide (x.kind≠k) then some (.ret false) else some (.next ((i+1:Nat):Int)) else some (.next ((i+1:Nat):Int)):=by
      unfold j_
      dsimp only
      rw [aV hx,agX,gn_ hx,gn_ hk]
      simp only [agU]
      rw [lK,agU,wrapN (by omega)]
     have hd:row.drop i=x::row.drop (i+1):=by rw [ahp hlt,(agV.1 hx).2]
     rw [hd] at hv
     cases hvx:vF x with
     | false=>rw [h1,hvx] at hb;exact absurd (show (some false:Option Bool)=some true from hb) (by decide)
     | true =>
      have h2:j_ row kinds (i:Int)=some (.next ((i+1:Nat):Int)):=by
       rw [h1,hvx,Bool.not_true,agW]
       cases c1:decide (x.kind≠0) with
       | false=>rfl
       | true =>
        cases c2:decide (x.kind≠k) with
        | false=>rfl
        | true=>rw [h1,hvx,Bool.not_true,agW,c1,c2] at hb;exact absurd (show (some false:Option Bool)=some true from hb) (by decide)
      rw [h2] at hb
      rcases aha.1 hv with rfl|hv
      ·exact hvx
      ·exact ih (i+1) (by omega) (by omega) hb v hv
    ·rw [List.drop_eq_nil_of_le (by omega)] at hv;cases hv
  exact fun v hv=>key fuel 0 (ahe _) (by unfold fuel;omega) hb v (by rw [List.drop_zero];exact hv)
 ·refine ⟨false,?_,fun h=>by cases h⟩
  unfold wS
  rw [show decide (((row.length:Nat):Int)≠((kinds.length:Nat):Int))=true from agZ (by omega)];rfl
theorem KD {r:dA} (hl:r.facts.length<=1000) (hk:r.kinds.length<=48) : ∃ b,JU r=some b/\(b=true->(∀ f∈r.facts,aL f.valid=true)/\(∀ f∈r.facts,f.row.length=r.kinds.length) /\ ∀ f∈r.facts, ∀ v∈f.row,vF v=true):=by
 have key : ∀ (n i:Nat),i<=r.facts.length->r.facts.length-i<n -> ∃ b,(ax (nI r) n (i:Int)).bind (je r)=some b/\(b=true -> ∀ f∈r.facts.drop i,aL f.valid=true/\f.row.length=r.kinds.length /\ ∀ v∈f.row,vF v=true):=by
  intro n
  induction n with
  | zero=>intro i _ h;omega
  | succ n ih =>
   intro i hi hn
   rw [ax]
   by_cases hlt:i<r.facts.length
   ·obtain ⟨x,hx⟩:=gol_ hlt
    have hd:r.facts.drop i=x::r.facts.drop (i+1):=by rw [ahp hlt,(agV.1 hx).2]
    obtain ⟨b,hb,hb2⟩:=KV (row:=x.row) (kinds:=r.kinds) (by omega)
    have h1:nI r (i:Int)=bif !(aL x.valid) then some (.ret false) else bif !b then some (.ret false) else some (.next ((i+1:Nat):Int)):=by
     unfold nI
     dsimp only
     rw [aV hx,agX,gn_ hx,agU,eH,agU,hb,agU,wrapN (by omega)]
    rw [h1]
    cases hp:aL x.valid with
    | false=>exact ⟨false,rfl,fun h=>by cases h⟩
    | true =>
     cases b with
     | false=>exact ⟨false,rfl,fun h=>by cases h⟩
     | true =>
      obtain ⟨c,hc,hc2⟩:=ih (i+1) (by omega) (by omega)
      refine ⟨c,hc,fun h f hf=>?_⟩
      rw [hd] at hf
      rcases aha.1 hf with rfl|hf
      ·exact ⟨hp,hb2 rfl⟩
      ·exact hc2 h f hf
   ·have:i=r.facts.length:=by omega
    subst this
    have h1:nI r ((r.facts.length:Nat):Int)=some (.exit ((r.facts.length:Nat):Int)):=by
     unfold nI
     dsimp only
     rw [lF_,agW]
    rw [h1]
    obtain ⟨b,hb⟩:=YG r.kinds (by omega)
    have : ∃ c,je r (.inl ((r.facts.length:Nat):Int))=some c:=by
     unfold je
     dsimp only
     rw [hb]
     cases decide ((0:Int)<((r.kinds.length:Nat):Int))<;>cases decide (((r.kinds.length:Nat):Int)<=48)<;>exact ⟨_,rfl⟩
    obtain ⟨c,hc⟩:=this
    refine ⟨c,hc,fun _ f hf=>?_⟩
    rw [ahO] at hf;cases hf
 obtain ⟨b,hb,hb2⟩:=key fuel 0 (ahe _) (by unfold fuel;omega)
 refine ⟨b,hb,fun h=>?_⟩
 have:=hb2 h
 rw [List.drop_zero] at this
 exact ⟨fun f hf=>(this f hf).1,fun f hf=>(this f hf).2.1,fun f hf=>(this f hf).2.2⟩
def Em (e:Ex) (row:List Val):Val:=(kL fuel e row).getD mX
theorem val_ok {e:Ex} (h:fH fuel e) (row:List Val):kL fuel e row=some (Em e row)/\pK fuel e row=some (Em e row)/\vF (Em e row)=true:=by
 obtain ⟨v,h1,h2,h3⟩:=MW row fuel e h
 unfold Em
 rw [h1];exact ⟨rfl,h2,h3⟩
def oZ (e:Ex) (row:List Val):Bool:=decide (tF_ (Em e row)=2)
theorem UB {e:Ex} (h:fH fuel e) (row:List Val):jA e row=some (tF_ (Em e row)):=by
 unfold jA
 rw [(val_ok h row).2.1,agU,lH];rfl
theorem Da {e:Ex} (h:fH fuel e) (row:List Val):l8 e row=some (tF_ (Em e row)):=by
 unfold l8
 rw [(val_ok h row).1,agU,qy];rfl
theorem UO {e:Ex} (kinds:List Int) (h:fH fuel e) : ∃ n,Af e kinds=some n:=by
 obtain ⟨c,c1,_⟩:=Q5 kinds h
 unfold Af
 rw [c1,agU]
 cases decide (c.2≠0)<;>cases decide (c.1≠3)<;>cases decide (c.1≠0)<;>exact ⟨_,rfl⟩
def Az (e:Ex) (kinds:List Int):Int × Int:=(vW e kinds).getD (0,0)
theorem ZZ {e:Ex} (kinds:List Int) (h:fH fuel e):vW e kinds=some (Az e kinds)/\VL e kinds=some (Az e kinds):=by
 obtain ⟨c,c1,c2⟩:=Q5 kinds h
 unfold Az
 rw [c1];exact ⟨rfl,c2⟩
def qB (l:List Ex) (row:List Val):List Val:=l.map fun e=>Em e row
theorem Cf {l:List Ex} (hl:l.length<=100000) (he : ∀ e∈l,fH fuel e) (row:List Val):sG l row=some (qB l row):=by
 unfold sG
 rw [df (l:=l) (fun e=>[Em e row]) 4398046511104 ?_ ?_ (by unfold fuel;omega) [] (by rw [fo_];simp;omega)]
 ·rw [agU,ag0,fo_];rfl
 ·intro s i x hx hs
  have hi:=(agV.1 hx).1
  unfold xq
  dsimp only
  rw [aV hx,agX,gn_ hx,agU,(val_ok (he x (ag1 hx)) row).1,agU,wrapN (by omega),agZ (show s.length+1<=4398046511104 from hs),agX]
 ·intro s
  unfold xq
  dsimp only
  rw [lF_,agW]
end Go.Proofs.YtcehmafobkhdbaaGreatDoor
