/- Parts. No condition. -/
import Derived.Test.YtnbnpnmkgemdeaaGreatDoorKBG
import Derived.Test.YtnbnpnmkgemdeaaGreatDoorKBB
set_option maxHeartbeats 8000000
set_option maxRecDepth 100000
set_option linter.unusedSimpArgs false
set_option linter.unusedVariables false
namespace Go.Proofs.YtnbnpnmkgemdeaaGreatDoor
open _root_.List (replicate)
open IntKind (i64)
open Go.RowKit Go.MapKept Tryz
theorem xf (e:Ex)(m:Int)(hm:1<=m/\m<=1000)(rec:Ex->Int->Option Int)
  (Pq:∀ x∈e.args,∀ k:Int,1<=k->k<m ->∃ r,rec x k=some r/\1<=r/\r<=k/\(r<k->du r.toNat x)) :
  ∀ (N i:Nat) (c:Int),1<=c->c<=m->i<=e.args.length->(m-c).toNat<N->(i:Int)<=c ->
   ∃ r j,af (dq e m rec) N (c,(i:Int))=some (.inl (r,j))/\c<=r/\r<=m/\(r<m->((e.args.length-i:Nat):Int)<=r-c /\ ∀ x∈e.args.drop i,du (r-c).toNat x)
 |0,i,c,_,_,_,h,_=>by omega
 |N+1,i,c,h1,h2,hi,hN,hic=>by
  rw[af];by_cases O8:i<e.args.length
  .obtain⟨x,hx⟩:=gol_ O8
   have Ss:=ahX hx;by_cases hc:c<m
   .obtain⟨w,hw,w1,w2,w3⟩:=Pq x Ss (m-c) m0 m0
    have hb:dq e m rec (c,(i:Int))=some (.next (c+w,((i+1:Nat):Int))):=by
     unfold dq;dsimp only;rw[aG hx,ahT,ahV hc,ahT,gn_ hx,ahQ,aV m0,hw,ahQ,aV m0,wrapN m0]
    rw[hb];obtain⟨r,j,e1,e2,e3,e4⟩:=xf e m hm rec Pq N (i+1) (c+w) m0 m0 m0 m0 m0;refine⟨r,j,e1,m0,e3,λhr=>?_⟩;obtain⟨f1,f2⟩:=e4 hr;refine⟨m0,λy hy=>?_⟩;rw[ail O8,(ahR.1 hx).2]at hy;obtain rfl|hy:=ah8.1 hy
    .exact j8 m0 (w3 m0)
    .exact j8 m0 (f2 y hy)
   .have hb:dq e m rec (c,(i:Int))=some (.exit (c,(i:Int))):=by
     unfold dq;dsimp only;rw[aG hx,ahT,ahU hc,ahS]
    rw[hb];exact⟨c,_,rfl,Int.le_refl _,h2,λhr=>absurd hr hc⟩
  .have:i=e.args.length:=m0
   subst this;have hb:dq e m rec (c,(e.args.length:Int))=some (.exit (c,(e.args.length:Int))):=by
    unfold dq;dsimp only;rw[lF_,ahS]
   rw[hb];refine⟨c,_,rfl,Int.le_refl _,h2,λhr=>⟨m0,λy hy=>?_⟩⟩;rw[aiG]at hy
   cases hy
theorem wS:∀ (n:Nat) (e:Ex) (m:Int),1<=m->m<=1000->m<=(n:Int) ->∃ r,lT n e m=some r/\1<=r/\r<=m/\(r<m->du r.toNat e/\(e.args.length:Int)<r /\ ∀ x∈e.args,du (r-1).toNat x)
 |0,e,m,h1,_,h3=>by omega
 |n+1,e,m,h1,h2,h3=>by
  have Pq:∀ x∈e.args,∀ k:Int,1<=k->k<m ->∃ r,lT n x k=some r/\1<=r/\r<=k/\(r<k->du r.toNat x):=by
   intro x _ k k1 k2;obtain⟨r,e1,e2,e3,e4⟩:=wS n x k k1 m0 m0;exact⟨r,e1,e2,e3,λh=>(e4 h).1⟩
  obtain⟨r,j,e1,e2,e3,e4⟩:=xf e m ⟨h1,h2⟩ (lT n) Pq fuel 0 1 (Int.le_refl _) h1 (aia _) (by unfold fuel;omega) m0;refine⟨r,?_,e2,e3,λhr=>?_⟩
  .show qC (lT n) e m=_
   unfold qC;rw[show((0:Nat):Int)=0 from rfl]at e1;rw[e1];rfl
  .obtain⟨f1,f2⟩:=e4 hr
   rw[List.drop_zero]at f2;refine⟨?_,m0,f2⟩;obtain⟨k,hk⟩:∃ k,r.toNat=k+1:=⟨r.toNat-1,m0⟩;rw[hk];refine⟨m0,λx hx=>?_⟩;have:=f2 x hx;rwa[show(r-1).toNat=k by omega]at this
theorem yU (e:Ex)(m:Int)(hm:2<=m/\m<=1000)(B:Int)(hB:B<=4611686018427387904)(rec:Ex->Option Int)(TY:Ex->Int->Option Int)
  (Pq:∀ x∈e.args,∃ d,rec x=some d/\1<=d/\d<=B/\TY x (m-1)=some (min d (m-1))) (hlen:e.args.length<=100000) :
  ∀ (N i:Nat) (a:Int),0<=a->a<=max 0 B->i<=e.args.length->e.args.length-i<N ->
   ∃ r,af (de e rec) N (a,(i:Int))=some (.inl (r,(e.args.length:Int)))/\af (d_ e m TY) N (min (a+1) m,(i:Int))=some (.inl (min (r+1) m,(e.args.length:Int)))/\0<=r/\r<=max 0 B
 |0,i,a,_,_,_,h=>by omega
 |N+1,i,a,h1,h2,hi,hN=>by
  rw[af,af];by_cases O8:i<e.args.length
  .obtain⟨x,hx⟩:=gol_ O8
   obtain⟨d,e1,e2,e3,e4⟩:=Pq x (ahX hx);have hb:de e rec (a,(i:Int))=some (.next (max a d,((i+1:Nat):Int))):=by
    unfold de;dsimp only;rw[aG hx,ahT,gn_ hx,ahQ,e1,ahQ,wrapN m0];congr 3;unfold wZ;split<;>omega
   have Pe:d_ e m TY (min (a+1) m,(i:Int))=some (.next (min (max a d+1) m,((i+1:Nat):Int))):=by
    unfold d_;dsimp only;rw[aG hx,ahT,gn_ hx,ahQ,aV m0,e4,ahQ,aV m0,wrapN m0];congr 3;unfold wZ;split<;>omega
   rw[hb,Pe];exact yU e m hm B hB rec TY Pq hlen N (i+1) (max a d) m0 m0 m0 m0
  .have:i=e.args.length:=m0
   subst this;have hb:de e rec (a,(e.args.length:Int))=some (.exit (a,(e.args.length:Int))):=by
    unfold de;dsimp only;rw[lF_,ahS]
   have Pe:d_ e m TY (min (a+1) m,(e.args.length:Int))=some (.exit (min (a+1) m,(e.args.length:Int))):=by
    unfold d_;dsimp only;rw[lF_,ahS]
   rw[hb,Pe];exact⟨a,rfl,rfl,h1,h2⟩
theorem yJ:∀ (n:Nat) (e:Ex),n<=4611686018427387904->du n e ->∃ d,kU n e=some d/\1<=d/\d<=(n:Int) /\ ∀ m:Int,1<=m->m<=1000->n5 n e m=some (min d m)
 |0,_,_,h=>h.elim
 |n+1,e,hn,h=>by
  have hd:∃ r,(∀ m:Int,2<=m->m<=1000->af (d_ e m (n5 n)) fuel (1,0)=some (.inl (min (r+1) m,(e.args.length:Int))))/\af (de e (kU n)) fuel (0,0)=some (.inl (r,(e.args.length:Int)))/\0<=r/\r<=max 0 (n:Int):=by
   have key:∀ m:Int,2<=m->m<=1000->_:=λm h1 h2=>yU e m ⟨h1,h2⟩ (n:Int) m0 (kU n) (n5 n) (by
    intro x hx;obtain⟨d,e1,e2,e3,e4⟩:=yJ n x m0 (h.2 x hx);exact⟨d,e1,e2,e3,e4 (m-1) m0 m0⟩) h.1 fuel 0 0 (Int.le_refl _) m0 (aia _) (by unfold fuel;have:=h.1;omega)
   obtain⟨r,e1,e2,e3,e4⟩:=key 2 m0 m0;refine⟨r,λm h1 h2=>?_,e1,e3,e4⟩;obtain⟨r',f1,f2,f3,f4⟩:=key m h1 h2;have:r'=r:=by
    rw[e1]at f1;have:=aim f1;injection this with this
    injection this with this _
    exact this.symm
   subst this;rw[show min ((0:Int)+1) m=1 by omega]at f2;exact f2
  obtain⟨r,k1,k2,k3,k4⟩:=hd;refine⟨r+1,?_,m0,m0,λm h1 h2=>?_⟩
  .show mr (kU n) e=_
   unfold mr;rw[k2];show some (i64.wrap (r+1))=_;rw[aV m0]
  .show po (n5 n) e m=_
   unfold po;by_cases hm:m<=1
   .rw[ahV hm,ahT]
    congr 1;omega
   .rw[ahU hm,ahS,k1 m m0 h2];rfl
def BZ:Int->List Int->Option Int
 |t,[]=>some t
 |t,x::l=>if x=0 then BZ t l else if t≠0/\t≠x then none else BZ x l
def ad8 (o:Option Int):Int×Bool:=match o with|some k=>(k,true)|none=>(0,false)
theorem AO:∀ (l:List Int) (t:Int),cb (ρ:=Int×Bool) (λt x=>some (if x=0 then .inl t else if t≠0/\t≠x then .inr (0,false)else .inl x)) t l=some (match BZ t l with|some k => .inl k|none => .inr (0,false))
 |[],t=>rfl
 |x::l,t=>by
  rw[cb,BZ];by_cases h:x=0
  .rw[if_pos h,if_pos h];exact AO l t
  .rw[if_neg h,if_neg h]
   by_cases h2:t≠0/\t≠x
   .rw[if_pos h2,if_pos h2]
   .rw[if_neg h2,if_neg h2];exact AO l x
theorem eP (l:List Int)(hl:l.length<=1000000):ii l=some (ad8 (BZ 0 l)):=by
 unfold ii;rw[bP (l:=l) (mk:=λt i=>(t,i)) (f:=λt x=>some (if x=0 then .inl t else if t≠0/\t≠x then .inr (0,false)else .inl x)) ?_ ?_ (by unfold fuel;omega) (0:Int)]
 .rw[AO]
  cases BZ 0 l<;>rfl
 .intro s i x hx
  have hi:=(ahR.1 hx).1;unfold rp;dsimp only;rw[aG hx,ahT,gn_ hx,wrapN m0];simp only[ahQ];by_cases h:x=0
  .rw[ahV h,ahT,if_pos h];rfl
  .rw[ahU h,ahS,if_neg h]
   by_cases h1:s=0
   .rw[ahU (show ¬ s≠0 by omega),ahS,if_neg m0];rfl
   .rw[ahV (show s≠0 from h1),ahT]
    by_cases h2:s=x
    .rw[ahU (show ¬ s≠x by omega),ahS,if_neg m0];rfl
    .rw[ahV (show s≠x from h2),ahT,if_pos ⟨h1,h2⟩];rfl
 .intro s
  unfold rp;dsimp only;rw[lF_,ahS]
theorem jq (l:List Int)(hl:l.length<=1000000):f7 l=some (ad8 (BZ 0 l)):=(show f7 l=ii l from rfl).trans (eP l hl)
def eR (l:List Int)(k:Int):Bool:=l.all λx=>decide (x=k)||decide (x=0)
theorem cO (l:List Int)(k:Int)(hl:l.length<=1000000):fm l k=some (eR l k):=by
 unfold fm;rw[bP (l:=l) (mk:=λ(_:Unit) i=>i) (f:=λ_ x=>some (if x=k\/x=0 then .inl ()else .inr false)) ?_ ?_ (by unfold fuel;omega) ()]
 .have:∀ l:List Int,cb (ρ:=Bool) (λ(_:Unit) (x:Int)=>some (if x=k\/x=0 then .inl ()else .inr false)) () l=some (if eR l k=true then .inl ()else .inr false):=by
   intro l
   induction l with
   |nil=>rfl
   |cons x l ih =>
    rw[cb];by_cases h:x=k\/x=0
    .rw[if_pos h]
     show cb _ () l=_;rw[ih];have:eR (x::l) k=eR l k:=by
      unfold eR;rw[List.all_cons];rcases h with h|h<;>simp[h]
     rw[this]
    .rw[if_neg h]
     have:eR (x::l) k=false:=by
      unfold eR;rw[List.all_cons,ahU (λe=>h (.inl e)),ahU (λe=>h (.inr e))];rfl
     rw[this];rfl
  rw[this]
  cases eR l k<;>rfl
 .intro s i x hx
  have hi:=(ahR.1 hx).1;unfold rf;dsimp only;rw[aG hx,ahT,gn_ hx,wrapN m0];simp only[ahQ];by_cases h:x=k
  .rw[ahU (show ¬ x≠k by omega),ahS,if_pos (.inl h)];rfl
  .rw[ahV (show x≠k from h),ahT]
   by_cases h2:x=0
   .rw[ahU (show ¬ x≠0 by omega),ahS,if_pos (.inr h2)];rfl
   .rw[ahV (show x≠0 from h2),ahT,if_neg m0];rfl
 .intro s
  unfold rf;dsimp only;rw[lF_,ahS]
theorem AM (k:Int)(hk:k≠0):∀ (l:List Int) (t:Int),BZ t (l++[k])=if (t=0\/t=k)/\eR l k=true then some k else none
 |[],t=>by
  show(if k=0 then some t else if t≠0/\t≠k then none else some k)=if (t=0\/t=k)/\true=true then some k else none
  rw[if_neg hk];by_cases h:t=0\/t=k
  .rw[if_neg (show ¬ (t≠0/\t≠k)by omega),if_pos (show(t=0\/t=k)/\true=true from⟨h,rfl⟩)]
  .rw[if_pos (show t≠0/\t≠k by omega),if_neg (λe=>h e.1)]
 |x::l,t=>by
  rw[List.cons_append,BZ];by_cases h:x=0
  .rw[if_pos h,AM k hk l t]
   have:eR (x::l) k=eR l k:=by unfold eR;rw[List.all_cons,ahV h,Bool.or_true,ain]
   rw[this]
  .rw[if_neg h]
   have ha:eR (x::l) k=(decide (x=k)&&eR l k):=by unfold eR;rw[List.all_cons,ahU h,Bool.or_false]
   rw[ha];by_cases h2:t≠0/\t≠x
   .rw[if_pos h2,if_neg]
    rintro⟨h3,h4⟩;rw[ah9]at h4;have:=aii h4.1;omega
   .rw[if_neg h2,AM k hk l x]
    by_cases h3:x=k
    .rw[ahV h3,ain]
     by_cases h4:eR l k=true
     .rw[if_pos ⟨.inr h3,h4⟩,if_pos ⟨m0,h4⟩]
     .rw[if_neg (λe=>h4 e.2),if_neg (λe=>h4 e.2)]
    .rw[ahU h3,Bool.false_and,if_neg m0,if_neg m5]
theorem dL {l:List Int}{k:Int}(h0:l≠[])(hl:l.length<=100000)(hk:k≠0):oZ l k=some (eR l k):=by
 have ho:G1 l=true:=by
  unfold G1;rw[ahV hl,Bool.and_true]
  cases l with
  |nil=>exact absurd rfl h0
  |cons a b=>rfl
 unfold oZ;rw[ho,ahT,eP _ (by rw[ahZ];simp;omega),ahQ,AM k hk]
 cases h:eR l k with
 |true=>rw[if_pos ⟨.inl rfl,rfl⟩];show some (bif true then decide (k=k)else false)=_;simp
 |false=>rw[if_neg m5];rfl
theorem G4 {e:Ex}{l:List Int}{kinds:List Int}(PU:(jg e.op).1<=(l.length:Int))(P8:(l.length:Int)<=(jg e.op).2)(hl:l.length<=100000)(ho:e.op=1\/e.op=4\/e.op=5\/e.op=6\/e.op=7\/e.op=8\/e.op=9\/e.op=10\/e.op=11\/e.op=12\/e.op=13\/e.op=14\/e.op=15\/e.op=16\/e.op=17\/e.op=18\/e.op=19\/e.op=20\/e.op=21\/e.op=22\/e.op=23\/e.op=24):∃ r,gRs11 e l kinds=some r/\gRsP e l=some r:=by
 obtain ho|ho|ho|ho|ho|ho|ho|ho|ho|ho|ho|ho|ho|ho|ho|ho|ho|ho|ho|ho|ho|ho:=ho
 .rw[ho,ar1]at PU P8
  dsimp only at PU P8;unfold gRs11 gRsP;simp only[ho,Int.reduceEq,sl9];exact⟨_,rfl,rfl⟩
 .rw[ho,ar4]at PU P8
  dsimp only at PU P8;unfold gRs11 gRsP;simp only[ho,Int.reduceEq,sl9];rw[cO _ _ m0,dL (by rintro rfl;simp at PU) hl m9];exact⟨_,rfl,rfl⟩
 .rw[ho,ar5]at PU P8
  dsimp only at PU P8;unfold gRs11 gRsP;simp only[ho,Int.reduceEq,sl9];rw[cO _ _ m0,dL (by rintro rfl;simp at PU) hl m9];exact⟨_,rfl,rfl⟩
 .rw[ho,ar6]at PU P8
  dsimp only at PU P8;unfold gRs11 gRsP;simp only[ho,Int.reduceEq,sl9];rw[cO _ _ m0,dL (by rintro rfl;simp at PU) hl m9];exact⟨_,rfl,rfl⟩
 .rw[ho,ar7]at PU P8
  dsimp only at PU P8;unfold gRs11 gRsP;simp only[ho,Int.reduceEq,sl9];rw[jq _ m0,eP _ m0];exact⟨_,rfl,rfl⟩
 .rw[ho,ar8]at PU P8
  dsimp only at PU P8;unfold gRs11 gRsP;simp only[ho,Int.reduceEq,sl9];rw[jq _ m0,eP _ m0];exact⟨_,rfl,rfl⟩
 .rw[ho,ar9]at PU P8
  dsimp only at PU P8;unfold gRs11 gRsP;simp only[ho,Int.reduceEq,sl9];rw[jq _ m0,eP _ m0];exact⟨_,rfl,rfl⟩
 .rw[ho,agU]at PU P8
  dsimp only at PU P8;unfold gRs11 gRsP;simp only[ho,Int.reduceEq,sl9];rw[jq _ m0,eP _ m0];exact⟨_,rfl,rfl⟩
 .rw[ho,ahq]at PU P8
  dsimp only at PU P8;unfold gRs11 gRsP;simp only[ho,Int.reduceEq,sl9];rw[jq _ m0,eP _ m0];exact⟨_,rfl,rfl⟩
 .rw[ho,aha]at PU P8
  dsimp only at PU P8;unfold gRs11 gRsP;simp only[ho,Int.reduceEq,sl9];rw[jq _ m0,eP _ m0];exact⟨_,rfl,rfl⟩
 .rw[ho,afH]at PU P8
  dsimp only at PU P8;unfold gRs11 gRsP;simp only[ho,Int.reduceEq,sl9];rw[cO _ _ m0,dL (by rintro rfl;simp at PU) hl m9];exact⟨_,rfl,rfl⟩
 .rw[ho,agk]at PU P8
  dsimp only at PU P8;unfold gRs11 gRsP;simp only[ho,Int.reduceEq,sl9];rw[cO _ _ m0,dL (by rintro rfl;simp at PU) hl m9];exact⟨_,rfl,rfl⟩
 .rw[ho,af2]at PU P8
  dsimp only at PU P8;unfold gRs11 gRsP;simp only[ho,Int.reduceEq,sl9];rw[cO _ _ m0,dL (by rintro rfl;simp at PU) hl m9];exact⟨_,rfl,rfl⟩
 .rw[ho,afL]at PU P8
  dsimp only at PU P8;unfold gRs11 gRsP;simp only[ho,Int.reduceEq,sl9];rw[cO _ _ m0,dL (by rintro rfl;simp at PU) hl m9];exact⟨_,rfl,rfl⟩
 .rw[ho,agr]at PU P8
  dsimp only at PU P8;unfold gRs11 gRsP;simp only[ho,Int.reduceEq,sl9];rw[cO _ _ m0,dL (by rintro rfl;simp at PU) hl m9];exact⟨_,rfl,rfl⟩
 .rw[ho,ahx]at PU P8
  dsimp only at PU P8;unfold gRs11 gRsP;simp only[ho,Int.reduceEq,sl9];rw[cO _ _ m0,dL (by rintro rfl;simp at PU) hl m9];exact⟨_,rfl,rfl⟩
 .rw[ho,ahu]at PU P8
  dsimp only at PU P8;unfold gRs11 gRsP;simp only[ho,Int.reduceEq,sl9];rw[cO _ _ m0,dL (by rintro rfl;simp at PU) hl m9];exact⟨_,rfl,rfl⟩
 .rw[ho,ag5]at PU P8
  dsimp only at PU P8;unfold gRs11 gRsP;simp only[ho,Int.reduceEq,sl9];rw[cO _ _ m0,dL (by rintro rfl;simp at PU) hl m9];exact⟨_,rfl,rfl⟩
 .rw[ho,agX]at PU P8
  dsimp only at PU P8;unfold gRs11 gRsP;simp only[ho,Int.reduceEq,sl9];exact⟨_,rfl,rfl⟩
 .rw[ho,ae0]at PU P8
  dsimp only at PU P8;unfold gRs11 gRsP;simp only[ho,Int.reduceEq,sl9];obtain⟨a,b,c,rfl⟩:=adz (l:=l) m0;rw[show gE [a,b,c] (1:Int) ((([a,b,c].length:Nat)):Int)=some [b,c]from rfl,show gE [a,b,c] (0:Int) (1:Int)=some [a]from rfl];simp only[ahQ];rw[jq _ m5,eP _ m5];simp only[ahQ];rw[cO _ _ m5,dL m5 m5 m9]
  cases (ad8 (BZ 0 [b,c])).2<;>exact⟨_,rfl,rfl⟩
 .rw[ho,ahC]at PU P8
  dsimp only at PU P8;unfold gRs11 gRsP;simp only[ho,Int.reduceEq,sl9];rw[jq _ m0,eP _ m0];exact⟨_,rfl,rfl⟩
 .rw[ho,ag4]at PU P8
  dsimp only at PU P8;unfold gRs11 gRsP;simp only[ho,Int.reduceEq,sl9];rw[cO _ _ m0,dL (by rintro rfl;simp at PU) hl m9];exact⟨_,rfl,rfl⟩
theorem zS (e:Ex)(kinds:List Int)(rec:Ex->List Int->Option (Int×Int))(Pq:∀ x∈e.args,∃ c,rec x kinds=some c)(hlen:e.args.length<=100000) :
  ∀ (N i:Nat) (s:List Int),s.length=i->i<=e.args.length->e.args.length-i<N ->∃ r,af (ci e kinds rec) N (s,(i:Int))=some r /\ ∀ t j,r = .inl (t,j)->t.length=e.args.length
 |0,i,s,_,_,h=>by omega
 |N+1,i,s,hs,hi,hN=>by
  rw[af];by_cases O8:i<e.args.length
  .obtain⟨x,hx⟩:=gol_ O8
   obtain⟨c,hc⟩:=Pq x (ahX hx);by_cases h0:c.2=0
   .have hb:ci e kinds rec (s,(i:Int))=some (.next (s++[c.1],((i+1:Nat):Int))):=by
     unfold ci;dsimp only;rw[aG hx,ahT,gn_ hx,ahQ,hc,ahQ,ahU (show ¬ c.2≠0 by omega),ahS,ahV m0,ahT,wrapN m0]
    rw[hb];exact zS e kinds rec Pq hlen N (i+1) (s++[c.1]) (by rw[ahZ,hs];rfl) m0 m0
   .have hb:ci e kinds rec (s,(i:Int))=some (.ret (0,c.2)):=by
     unfold ci;dsimp only;rw[aG hx,ahT,gn_ hx,ahQ,hc,ahQ,ahV (show c.2≠0 from h0),ahT]
    rw[hb];exact⟨_,rfl,λt j h=>by cases h⟩
  .have:i=e.args.length:=m0
   subst this;have hb:ci e kinds rec (s,(e.args.length:Int))=some (.exit (s,(e.args.length:Int))):=by
    unfold ci;dsimp only;rw[lF_,ahS]
   rw[hb];exact⟨_,rfl,λt j h=>by injection h with h;injection h with h _;rw[<- h];exact hs⟩
theorem Bo (kinds:List Int):∀ (n:Nat) (e:Ex),du n e ->∃ c,ij n e kinds=some c/\od n e kinds=some c
 |0,_,h=>h.elim
 |n+1,e,h=>by
  have hx:∀ x∈e.args,∃ c,ij n x kinds=some c/\od n x kinds=some c:=λx hx=>Bo kinds n x (h.2 x hx)
  have hb:lV e kinds (od n)=ci e kinds (ij n):=by
   funext s;obtain⟨l,i⟩:=s;unfold lV ci;dsimp only
   cases hg:al e.args i with
   |none=>rfl
   |some x =>
    obtain⟨c,c1,c2⟩:=hx x (ahX (kw hg).2);simp only[ahQ];rw[c1,c2]
  obtain⟨a1,a2,a3,a4⟩:=pg e.op (e.args.length:Int) (by have:=h.1;omega);show ∃ c,mI (ij n) e kinds=some c/\qt (od n) e kinds=some c;unfold mI qt;rw[a1,a2,ahQ,ahQ];dsimp only;by_cases h00:(jg e.op).1<0
  .rw[ahV h00,ahU (show ¬ 0<=(jg e.op).1 by omega),ahT]
   exact⟨_,rfl,rfl⟩
  have h0:0<=(jg e.op).1:=m0
  rw[ahU (show ¬ (jg e.op).1<0 by omega),ahV h0,Bool.not_true,ahS,ahS,xp h.1,BC h.1,ahQ,ahQ]
  cases hf:pc e with
  |false=>exact⟨_,rfl,rfl⟩
  |true =>
   rw[Bool.not_true,ahS,ahS];obtain⟨Y5,PU,P8,Yj⟩:=s7 h.1 hf;by_cases o2:e.op=2
   .rw[ahV o2,ahT,ahT]
    by_cases i0:e.int<0
    .rw[ahV i0];exact⟨_,rfl,rfl⟩
    rw[ahU i0,ahS,ahS];by_cases i1:(kinds.length:Int)<=e.int
    .rw[ahV i1];exact⟨_,rfl,rfl⟩
    rw[ahU i1,ahS,ahS];obtain⟨x,O0⟩:=gol_ (l:=kinds) (i:=e.int.toNat) m0;have hg:al kinds e.int=some x:=by unfold al;rw[if_pos m0];exact O0
    rw[o2,ar2]at P8;dsimp only at P8;have hz:e.args.length=0:=m0
    have hbr:af (jW e kinds (ij n)) fuel ([],(0:Int))=some (.inl ([],0)):=by
     have:fuel=(fuel-1)+1:=rfl;rw[this,af];unfold jW;dsimp only;rw[hz,show decide ((0:Int)<((0:Nat):Int))=false from rfl,ahS]
    rw[hbr,hg];refine⟨(x,0),?_,rfl⟩;show(gRs11 e [] kinds).bind _=_;unfold gRs11;rw[o2,show decide ((2:Int)=1)=false from rfl,show decide ((2:Int)=2)=true from rfl,ahS,ahT,hg];rfl
   .rw[ahU o2,ahS,ahS,hb]
    obtain⟨r,hr,hk⟩:=zS e kinds (ij n) (λx hm=>(hx x hm).imp λc hc=>hc.1) h.1 fuel 0 [] rfl (aia _) (by unfold fuel;have:=h.1;omega);rw[show((0:Nat):Int)=0 from rfl]at hr;rw[hr,ahQ,ahQ]
    cases r with
    |inr q=>exact⟨q,rfl,rfl⟩
    |inl p =>
     obtain⟨t,j⟩:=p;have ht:=hk t j rfl;obtain⟨q,q1,q2⟩:=G4 (e:=e) (l:=t) (kinds:=kinds) (by rw[ht];exact PU) (by rw[ht];exact P8) (by rw[ht];exact h.1) m0;unfold fp gP;dsimp only;rw[q1,q2,ahQ]
     cases q.2<;>exact⟨_,rfl,rfl⟩
theorem HJ {e:Ex}(kinds:List Int)(h:du fuel e):∃ c,pE e kinds=some c/\Bv e kinds=some c:=by
 obtain⟨d,d1,d2,d3,d4⟩:=yJ fuel e (by unfold fuel;omega) h;obtain⟨c,c1,c2⟩:=Bo kinds fuel e h;unfold pE Bv KT;rw[d1,d4 25 m0 m0,c1,c2];simp only[ahQ];by_cases hd:(24:Int)<d
 .rw[ahV hd,ahV (show(24:Int)<min d 25 by omega)];exact⟨_,rfl,rfl⟩
 .rw[ahU hd,ahU (show ¬ (24:Int)<min d 25 by omega)];exact⟨_,rfl,rfl⟩
def CH (e:Ex)(row:List Val):Val:=(fJ fuel e row).getD ef
theorem val_ok {e:Ex}(h:du fuel e)(row:List Val):fJ fuel e row=some (CH e row)/\qn fuel e row=some (CH e row)/\vF (CH e row)=true:=by
 obtain⟨v,h1,h2,h3⟩:=Ez row fuel e h;unfold CH;rw[h1];exact⟨rfl,h2,h3⟩
def lz (e:Ex)(row:List Val):Bool:=decide (tF_ (CH e row)=2)
theorem Ak {e:Ex}(h:du fuel e)(row:List Val):ro e row=some (tF_ (CH e row)):=by
 unfold ro;rw[(val_ok h row).2.1,ahQ,ge];rfl
theorem uw {e:Ex}(h:du fuel e)(row:List Val):kf e row=some (tF_ (CH e row)):=by
 unfold kf;rw[(val_ok h row).1,ahQ,kE];rfl
theorem Ja {e:Ex}(kinds:List Int)(h:du fuel e):∃ n,j4 e kinds=some n:=by
 obtain⟨c,c1,_⟩:=HJ kinds h;unfold j4;rw[c1,ahQ]
 cases decide (c.2≠0)<;>cases decide (c.1≠3)<;>cases decide (c.1≠0)<;>exact⟨_,rfl⟩
def kR (e:Ex)(kinds:List Int):Int×Int:=(pE e kinds).getD (0,0)
theorem EQ {e:Ex}(kinds:List Int)(h:du fuel e):pE e kinds=some (kR e kinds)/\Bv e kinds=some (kR e kinds):=by
 obtain⟨c,c1,c2⟩:=HJ kinds h;unfold kR;rw[c1];exact⟨rfl,c2⟩
theorem D5 {kinds:List Int}{l:List Ex}(hl:l.length<=100000)(he:∀ e∈l,du fuel e):∀ (n i:Nat) (s:List Int),s.length=i->i<=l.length->l.length-i<n ->∃ p,(af (bO kinds l) n (s,(i:Int))).bind dB=some p/\(p.2=0->p.1=s++(l.drop i).map (λe=>(kR e kinds).1))
 |0,i,s,_,_,h=>by omega
 |n+1,i,s,hs,hi,hn=>by
  rw[af];by_cases O8:i<l.length
  .obtain⟨x,hx⟩:=gol_ O8
   have hc:=(EQ kinds (he x (ahX hx))).1;by_cases h0:(kR x kinds).2=0
   .by_cases h1:(kR x kinds).1=0
    .have hb:bO kinds l (s,(i:Int))=some (.ret ([],7)):=by
      unfold bO;dsimp only;rw[aG hx,ahT,gn_ hx,ahQ,hc,ahQ,ahU (show ¬ (kR x kinds).2≠0 by omega),ahS,ahV h1,ahT]
     rw[hb];exact⟨_,rfl,λh=>absurd (show(7:Int)=0 from h) m9⟩
    .have hb:bO kinds l (s,(i:Int))=some (.next (s++[(kR x kinds).1],((i+1:Nat):Int))):=by
      unfold bO;dsimp only;rw[aG hx,ahT,gn_ hx,ahQ,hc,ahQ,ahU (show ¬ (kR x kinds).2≠0 by omega),ahS,ahU h1,ahS,ahV m0,ahT,wrapN m0]
     rw[hb];obtain⟨p,p1,p2⟩:=D5 hl he n (i+1) (s++[(kR x kinds).1]) (by rw[ahZ,hs];rfl) m0 m0;refine⟨p,p1,λh=>?_⟩;rw[p2 h,ail O8,(ahR.1 hx).2,ah2,aig];rfl
   .have hb:bO kinds l (s,(i:Int))=some (.ret ([],(kR x kinds).2)):=by
     unfold bO;dsimp only;rw[aG hx,ahT,gn_ hx,ahQ,hc,ahQ,ahV (show(kR x kinds).2≠0 from h0),ahT]
    rw[hb];exact⟨_,rfl,λh=>absurd h h0⟩
  .have:i=l.length:=m0
   subst this;have hb:bO kinds l (s,(l.length:Int))=some (.exit (s,(l.length:Int))):=by
    unfold bO;dsimp only;rw[lF_,ahS]
   rw[hb];exact⟨_,rfl,λ_=>by rw[aiG];simp⟩
def gn (l:List Ex)(kinds:List Int):List Int:=l.map λe=>(kR e kinds).1
theorem xr {kinds:List Int}{l:List Ex}(hl:l.length<=100000)(he:∀ e∈l,du fuel e):∃ p,ik kinds l=some p/\(p.2=0->p.1=gn l kinds):=by
 obtain⟨p,p1,p2⟩:=D5 (kinds:=kinds) hl he fuel 0 [] rfl (aia _) (by unfold fuel;omega);exact⟨p,p1,p2⟩
def CQ (l:List Ex)(row:List Val):List Val:=l.map λe=>CH e row
theorem J6 {l:List Ex}(hl:l.length<=100000)(he:∀ e∈l,du fuel e)(row:List Val):uN l row=some (CQ l row):=by
 unfold uN;rw[bX (l:=l) (λe=>[CH e row]) 4398046511104 ?_ ?_ (by unfold fuel;omega) [] (by rw[fo_];simp;omega)]
 .rw[ahQ,ahW,fo_];rfl
 .intro s i x hx hs
  have hi:=(ahR.1 hx).1;unfold nM;dsimp only;rw[aG hx,ahT,gn_ hx,ahQ,(val_ok (he x (ahX hx)) row).1,ahQ,wrapN m0,ahV (show s.length+1<=4398046511104 from hs),ahT]
 .intro s
  unfold nM;dsimp only;rw[lF_,ahS]
theorem yG {row:List Val}{kinds:List Int}(hk:kinds.length<=1000000):∃ b,fK row kinds=some b/\(b=true->row.length=kinds.length /\ ∀ v∈row,vF v=true):=by
 by_cases he:row.length=kinds.length
 .obtain⟨b,hb⟩:=C7 row kinds m0
  refine⟨b,hb,λhbt=>⟨he,?_⟩⟩;subst hbt;unfold fK at hb;rw[show decide ((row.length:Int)≠(kinds.length:Int))=false from ahU m0,ahS]at hb;have key:∀ (n i:Nat),i<=row.length->row.length-i<n->(af (dH row kinds) n (i:Int)).bind fw=some true ->∀ v∈row.drop i,vF v=true:=by
   intro n
   induction n with
   |zero=>intro i _ h;omega
   |succ n ih =>
    intro i hi hn hb v hv;rw[af]at hb;by_cases O8:i<row.length
    .obtain⟨x,hx⟩:=gol_ O8
     obtain⟨k,hk⟩:=gol_ (l:=kinds) (i:=i) m0;have h1:dH row kinds (i:Int)=bif (!vF x)then some (.ret false)else bif decide (x.kind≠0)then bif decide (x.kind≠k)then some (.ret false)else some (.next ((i+1:Nat):Int))else some (.next ((i+1:Nat):Int)):=by
      unfold dH;dsimp only;rw[aG hx,ahT,gn_ hx,gn_ hk];simp only[ahQ];rw[fa,ahQ,wrapN m0]
     have hd:row.drop i=x::row.drop (i+1):=by rw[ail O8,(ahR.1 hx).2]
     rw[hd]at hv
     cases hvx:vF x with
     |false=>rw[h1,hvx]at hb;exact absurd (show(some false:Option Bool)=some true from hb) m9
     |true =>
      have h2:dH row kinds (i:Int)=some (.next ((i+1:Nat):Int)):=by
       rw[h1,hvx,Bool.not_true,ahS]
       cases c1:decide (x.kind≠0)with
       |false=>rfl
       |true =>
        cases c2:decide (x.kind≠k)with
        |false=>rfl
        |true=>rw[h1,hvx,Bool.not_true,ahS,c1,c2]at hb;exact absurd (show(some false:Option Bool)=some true from hb) m9
      rw[h2]at hb;obtain rfl|hv:=ah8.1 hv
      .exact hvx
      .exact ih (i+1) m0 m0 hb v hv
    .rw[List.drop_eq_nil_of_le m0]at hv;cases hv
  exact λv hv=>key fuel 0 (aia _) (by unfold fuel;omega) hb v (by rw[List.drop_zero];exact hv)
 .refine⟨false,?_,λh=>by cases h⟩
  unfold fK;rw[show decide ((row.length:Int)≠(kinds.length:Int))=true from ahV m0];rfl
structure bM (n:Nat)(b:aJ):Prop where
 len:b.rows.length<=n
 pos:0<b.kinds.length
 kinds:b.kinds.length<=48
 row:∀ r∈b.rows,r.length=b.kinds.length
 val:∀ r∈b.rows,∀ v∈r,vF v=true
theorem FK {b:aJ}{e:Ex}(hl:b.rows.length<=700)(hr:∀ x∈b.rows,x.length<=1000000)(he:du fuel e):iR b e=some ⟨b.kinds,aH (b.rows.filter (lz e))⟩:=by
 unfold iR;rw[bX (l:=b.rows) (λx=>if lz e x then [x]else []) 5864062014805 ?_ ?_ (by unfold fuel;omega) [] (by rw[lr];have:=List.length_filter_le (lz e) b.rows;simp only[aik];omega)]
 .rw[ahQ,ahW,lr]
  unfold jO;dsimp only;rw[dI _ (Nat.le_trans (List.length_filter_le _ _) hl) (λx hx=>hr x (List.mem_filter.1 hx).1)];rfl
 .intro s i x hx hs
  have hi:=(ahR.1 hx).1;unfold jY;dsimp only;rw[aG hx,ahT,gn_ hx,ahQ,uw he,ahQ,wrapN m0];show(bif lz e x then _ else _)=_
  cases hc:lz e x with
  |false=>simp
  |true =>
   rw[hc]at hs;rw[ahT,ahV (show s.length+1<=5864062014805 from hs)];rfl
 .intro s
  unfold jY;dsimp only;rw[lF_,ahS]
theorem B9 {b:aJ}{l:List Ex}(hn:b.rows.length<=700)(hl:l.length<=48)(he:∀ e∈l,du fuel e)(hp:ik b.kinds l=some (gn l b.kinds,0)):iW b l=some ⟨gn l b.kinds,aH (b.rows.map (CQ l))⟩:=by
 unfold iW;rw[hp,ahQ,bX (l:=b.rows) (λx=>[CQ l x]) 5864062014805 ?_ ?_ (by unfold fuel;omega) [] (by rw[fo_];simp;omega)]
 .rw[ahQ,ahW,fo_]
  unfold jd;dsimp only;rw[dI _ (by rw[ah3];exact hn) (λx hx=>by obtain⟨y,_,rfl⟩:=aip.1 hx;show(l.map _).length<=_;rw[ah3];omega)];rfl
 .intro s i x hx hs
  have hi:=(ahR.1 hx).1;unfold jc;dsimp only;rw[aG hx,ahT,gn_ hx,ahQ,J6 m0 he,ahQ,wrapN m0,ahV (show s.length+1<=5864062014805 from hs),ahT]
 .intro s
  unfold jc;dsimp only;rw[lF_,ahS]
theorem Ea {α β ρ:Type}{l:List α}{body:(List β×Bool×Int)->Option (Step (List β×Bool×Int) ρ)}(g:α->List β)(v:Bool)(N:Nat)(h1:∀ (s:List β) (f:Bool) (i:Nat) x,l[i]?=some x->s.length+(g x).length<=N->body (s,f,(i:Int))=some (.next (s++g x,(bif (g x).isEmpty then f else v),((i+1:Nat):Int))))(h2:∀ (s:List β) (f:Bool),body (s,f,(l.length:Int))=some (.exit (s,f,(l.length:Int))))(hl:l.length<fuel)(s:List β)(f:Bool)(hN:s.length+(l.flatMap g).length<=N) :
  af body fuel (s,f,(0:Int))=some (.inl (s++l.flatMap g,(bif (l.flatMap g).isEmpty then f else v),(l.length:Int))):=by
 have key:∀ (n i:Nat) (s:List β) (f:Bool),i<=l.length->l.length-i<n->s.length+((l.drop i).flatMap g).length<=N->af body n (s,f,(i:Int))=some (.inl (s++(l.drop i).flatMap g,(bif ((l.drop i).flatMap g).isEmpty then f else v),(l.length:Int))):=by
  intro n
  induction n with
  |zero=>intro i s f _ h _;omega
  |succ n ih =>
   intro i s f hi hn hs;rw[af];by_cases O8:i<l.length
   .obtain⟨x,hx⟩:=gol_ O8
    have e1:=(ahR.1 hx).2;rw[ail O8,e1,ais]at hs ⊢;rw[ahZ]at hs;rw[h1 s f i x hx m0];show af body n _=_;rw[ih (i+1) (s++g x) _ m0 m0 (by rw[ahZ];omega),aig];generalize (l.drop (i+1)).flatMap g=m
    cases g x<;>cases m<;>rfl
   .have:i=l.length:=m0
    subst this;rw[h2,aiG];simp
 have:=key fuel 0 s f (aia _) m0 (by simpa using hN);simpa using this
theorem yh {α β:Type}(g:α->List β)(k:Nat):∀ l:List α,(∀ x∈l,(g x).length<=k)->(l.flatMap g).length<=l.length*k
 |[],_=>by simp
 |x::l,h=>by
  have h1:=h x m5;have h2:=yh g k l λy hy=>h y (by simp[hy])
  rw[ais,ahZ,aib,Nat.add_mul];omega
theorem HW {kinds:List Int}{rows:List (List Val)}(hk:kinds.length<=1000000)(hl:rows.length<=700)(hr:∀ r∈rows,r≠[]/\r.length<=1000000):gW kinds rows=some ⟨kinds,aH rows⟩:=by
 unfold gW;rw[ahV (show kinds.length<=17592186044416 by omega),ahT];unfold nC;rw[rZ hl hr];rfl
def eI (e:Ex)(b:List (List Val))(x:List Val):List (List Val):=b.flatMap λy=>bif lz e (x++y)then [x++y]else []
def kT (e:Ex)(left:Bool)(n:Nat)(b:List (List Val))(x:List Val):List (List Val):=eI e b x++bif left&&(eI e b x).isEmpty then [x++replicate n ef]else []
def ld (e:Ex)(left:Bool)(n:Nat)(a b:List (List Val)):List (List Val):=a.flatMap (kT e left n b)
theorem II (e:Ex)(b:List (List Val))(x:List Val):(eI e b x).length<=b.length:=by
 have:=yh (λy=>bif lz e (x++y)then [x++y]else []) 1 b λy _=>by cases lz e (x++y)<;>simp
 unfold eI;omega
theorem v8 (e:Ex)(left:Bool)(n:Nat){a b:List (List Val)}{k:Nat}(ha:∀ r∈a,r.length=k)(hb:∀ r∈b,r.length=n):∀ r∈ld e left n a b,r.length=k+n:=by
 intro r hr;unfold ld at hr;obtain⟨x,hx,hr⟩:=List.mem_flatMap.1 hr;have h1:=ha x hx;unfold kT at hr;obtain hr|hr:=aih.1 hr
 .unfold eI at hr
  obtain⟨y,hy,hr⟩:=List.mem_flatMap.1 hr;have h2:=hb y hy
  cases hs:lz e (x++y)with
  |false=>rw[hs]at hr;cases hr
  |true=>rw[hs,ahT,List.mem_singleton]at hr;rw[hr,ahZ];omega
 .cases hs:left&&(eI e b x).isEmpty with
  |false=>rw[hs]at hr;cases hr
  |true=>rw[hs,ahT,List.mem_singleton]at hr;rw[hr,ahZ,List.length_replicate];omega
theorem xG {x y:List Val}(h0:0<x.length+y.length)(h1:x.length+y.length<=1000000):mt x y=some (x++y):=by
 unfold mt J4;rw[ahV h0,ahV h1];rfl
theorem wY {x y:List Val}(h1:x.length+y.length<=1000000):nl x y=some (x++y):=by
 unfold nl;rw[ahV (show x.length<=4398046511104 by omega),ahV (show x.length+y.length<=4398046511104 by omega)];rfl
theorem Ji {n:Nat}(h0:0<n)(h1:n<=48):ul ((n:Nat):Int)=some (replicate n ef):=by
 unfold ul;rw[ahU (show ¬ ((n:Nat):Int)<1 by omega),ahU (show ¬ (4096:Int)<((n:Nat):Int)by omega)];rfl
theorem J8 {n:Nat}(h1:n<=48):un ((n:Nat):Int)=some (replicate n ef):=by
 have key:∀ (m i:Nat),i<=n->n-i<m->af (gF ((n:Nat):Int)) m (replicate i ef,(i:Int))=some (.inl (replicate n ef,((n:Nat):Int))):=by
  intro m
  induction m with
  |zero=>intro i _ h;omega
  |succ m ih =>
   intro i hi hn;rw[af];by_cases O8:i<n
   .have hb:gF ((n:Nat):Int) (replicate i ef,(i:Int))=some (.next (replicate (i+1) ef,((i+1:Nat):Int))):=by
     unfold gF;dsimp only;rw[ahV (show(i:Int)<((n:Nat):Int)by omega),ahT,ahV (show((n:Nat):Int)<=4096 by omega),ahT,bJ,ahQ,List.length_replicate,ahV (show i+1<=4398046511104 by omega),ahT,wrapN m0,List.replicate_succ']
    rw[hb];exact ih (i+1) m0 m0
   .have:i=n:=m0
    subst this;have hb:gF ((i:Nat):Int) (replicate i ef,(i:Int))=some (.exit (replicate i ef,(i:Int))):=by
     unfold gF;dsimp only;rw[ahU (show ¬ ((i:Int)<((i:Nat):Int))by omega),ahS]
    rw[hb]
 unfold un;have:=key fuel 0 (aia _) (by unfold fuel;omega);rw[show(replicate 0 ef,((0:Nat):Int))=(([],(0:Int)):List Val×Int)from rfl]at this;rw[this];rfl
theorem tS {a b:List Int}(h:a.length+b.length<=1000000):om a b=some (a++b):=by
 unfold om;rw[ahV (show a.length<=17592186044416 by omega),ahV (show a.length+b.length<=17592186044416 by omega)];rfl
section
variable {a b:aJ} {e:Ex}
theorem HB (he:du fuel e){x:List Val}(VT:0<x.length)(hx:x.length<=48)(hb:bM 700 b)(s:List (List Val))(f:Bool)(hs:s.length+(eI e b.rows x).length<=5864062014805):af (nf b e x) fuel (s,f,(0:Int))=some (.inl (s++eI e b.rows x,(bif (eI e b.rows x).isEmpty then f else false),(b.rows.length:Int))):=by
 have X4:=hb.len;rw[Ea (l:=b.rows) (λy=>bif lz e (x++y)then [x++y]else []) false 5864062014805 ?_ ?_ (by unfold fuel;omega) s f (by unfold eI at hs;exact hs)]
 .rfl
 .intro s f i y hy hs
  have hi:=(ahR.1 hy).1;have hyk:=hb.row y (ahX hy);have:=hb.kinds;unfold nf;dsimp only;rw[aG hy,ahT,gn_ hy,ahQ,xG m0 m0,ahQ,Ak he,ahQ,wrapN m0];show(bif lz e (x++y)then _ else _)=_
  cases hc:lz e (x++y)with
  |false=>simp
  |true =>
   rw[hc]at hs;rw[ahT,ahV (show s.length+1<=5864062014805 from hs)];rfl
 .intro s f
  unfold nf;dsimp only;rw[lF_,ahS]
theorem M9 {left:Bool}(ha:bM 700 a)(hb:bM 700 b)(he:du fuel e)(Wh:(ld e left b.kinds.length a.rows b.rows).length<=700):tQ a b e left=some ⟨a.kinds++b.kinds,aH (ld e left b.kinds.length a.rows b.rows)⟩:=by
 have h1:=ha.len;have h2:=hb.len;have h3:=ha.kinds;have h4:=hb.kinds;have h5:=ha.pos;have h6:=hb.pos;unfold tQ;rw[bX (l:=a.rows) (kT e left b.kinds.length b.rows) 5864062014805 ?_ ?_ (by unfold fuel;omega) [] (by unfold ld at Wh;simp only[aik];omega)]
 .rw[ahQ,ahW]
  unfold qU;dsimp only;rw[ahV (show a.kinds.length<=17592186044416 by omega),ahT,ahV (show a.kinds.length+b.kinds.length<=17592186044416 by omega),ahT];rw[HW (by rw[ahZ];omega) (by unfold ld at Wh;omega) (λr hr=>?_)]
  .rfl
  .have:=v8 e left b.kinds.length (k:=a.kinds.length) ha.row hb.row r hr
   exact⟨λh0=>by rw[h0]at this;simp at this;omega,m0⟩
 .intro s i x hx hs
  have hi:=(ahR.1 hx).1;have hxk:=ha.row x (ahX hx);unfold rR;dsimp only;rw[aG hx,ahT,gn_ hx,ahQ];have VY:s.length+(eI e b.rows x).length<=5864062014805:=by unfold kT at hs;rw[ahZ]at hs;omega
  rw[HB he m0 m0 hb s true VY,ahQ];unfold rE;dsimp only;rw[Ji h6 h4,ahQ,xG (by rw[List.length_replicate];omega) (by rw[List.length_replicate];omega),ahQ,wrapN m0];unfold kT at hs ⊢
  cases hh:(eI e b.rows x).isEmpty with
  |false=>rw[ahS,ahS];simp
  |true =>
   rw[ahT,ahT]
   cases left with
   |false=>simp
   |true =>
    rw[hh]at hs;have hs2:(s++eI e b.rows x).length+1<=5864062014805:=by rw[ahZ]at hs ⊢;simp at hs;omega
    rw[ahT,ahV hs2,ahT];simp
 .intro s
  unfold rR;dsimp only;rw[lF_,ahS]
theorem EW (he:du fuel e){x:List Val}{i:Nat}(hxi:a.rows[i]?=some x)(hx:x.length<=48)(hb:bM 700 b)(s:List (List Val))(f:Bool)(hs:s.length+(eI e b.rows x).length<=5864062014805):af (ll a b e (i:Int)) fuel (s,f,(0:Int))=some (.inl (s++eI e b.rows x,(bif (eI e b.rows x).isEmpty then f else true),(b.rows.length:Int))):=by
 have X4:=hb.len;rw[Ea (l:=b.rows) (λy=>bif lz e (x++y)then [x++y]else []) true 5864062014805 ?_ ?_ (by unfold fuel;omega) s f (by unfold eI at hs;exact hs)]
 .rfl
 .intro s f k y hy hs
  have hi:=(ahR.1 hy).1;have hyk:=hb.row y (ahX hy);have:=hb.kinds;unfold ll;dsimp only;rw[aG hy,ahT,gn_ hxi,ahQ,gn_ hy,ahQ,wY m0,ahQ,uw he,ahQ,wrapN m0];show(bif lz e (x++y)then _ else _)=_
  cases hc:lz e (x++y)with
  |false=>simp
  |true =>
   rw[hc]at hs;rw[ahT,ahV (show s.length+1<=5864062014805 from hs)];rfl
 .intro s f
  unfold ll;dsimp only;rw[lF_,ahS]
theorem JH {left:Bool}(ha:bM 700 a)(hb:bM 700 b)(he:du fuel e)(Wh:(ld e left b.kinds.length a.rows b.rows).length<=700):nU a b e left=some ⟨a.kinds++b.kinds,aH (ld e left b.kinds.length a.rows b.rows)⟩:=by
 have h1:=ha.len;have h2:=hb.len;have h3:=ha.kinds;have h4:=hb.kinds;have h5:=ha.pos;have h6:=hb.pos;unfold nU;rw[tS m0,ahQ,bX (l:=a.rows) (kT e left b.kinds.length b.rows) 5864062014805 ?_ ?_ (by unfold fuel;omega) [] (by unfold ld at Wh;simp only[aik];omega)]
 .rw[ahQ,ahW]
  unfold nJ;dsimp only;rw[dI _ (by unfold ld at Wh;omega) (λr hr=>?_)]
  .rfl
  .have:=v8 e left b.kinds.length (k:=a.kinds.length) ha.row hb.row r hr
   omega
 .intro s i x hx hs
  have hi:=(ahR.1 hx).1;have hxk:=ha.row x (ahX hx);unfold oG;dsimp only;rw[aG hx,ahT];have VY:s.length+(eI e b.rows x).length<=5864062014805:=by unfold kT at hs;rw[ahZ]at hs;omega
  rw[EW he hx m0 hb s false VY,ahQ];unfold oC;dsimp only;rw[gn_ hx,ahQ,J8 h4,ahQ,wY (by rw[List.length_replicate];omega),ahQ,wrapN m0];unfold kT at hs ⊢
  cases left with
  |false=>simp
  |true =>
   cases hh:(eI e b.rows x).isEmpty with
   |false=>simp
   |true =>
    rw[hh]at hs;have hs2:(s++eI e b.rows x).length+1<=5864062014805:=by rw[ahZ]at hs ⊢;simp at hs;omega
    simp only[ahT,ahS,Bool.not_false,ain];rw[ahV hs2,ahT,aig]
 .intro s
  unfold oG;dsimp only;rw[lF_,ahS]
end
structure RK (l:List (List Val)):Prop where
 len:l.length<=700
 row:∀ r∈l,r≠[]/\r.length<=1000 /\ ∀ v∈r,KO v
theorem RK.of {l m:List (List Val)}(h:RK l)(h1:m.length<=700)(h2:∀ r∈m,r∈l):RK m:=⟨h1,λr hr=>h.row r (h2 r hr)⟩
theorem RK.sort {l:List (List Val)}(h:RK l):RK (aH l):=h.of (by rw[(aP l).length_eq];exact h.len) λr hr=>(aP l).mem_iff.1 hr
theorem RK.filter {l:List (List Val)}(h:RK l)(p:List Val->Bool):RK (l.filter p):=h.of (Nat.le_trans (List.length_filter_le _ _) h.len) λr hr=>(List.mem_filter.1 hr).1
theorem RK.app {l m:List (List Val)}(h:RK l)(g:RK m)(hn:l.length+m.length<=700):RK (l++m):=⟨by rw[ahZ];exact hn,λr hr=>(aih.1 hr).elim (h.row r) (g.row r)⟩
theorem RK.split {l:List (List Val)}(h:RK l)(n:List Val->Nat):RK (gY n l).1/\RK (gY n l).2:=by
 have:=AY l n;have hl:=h.len;exact⟨h.of m0 λr hr=>(uH r l n).1 hr,h.of m0 λr hr=>(uH r l n).2 hr⟩
theorem RK.keys {l:List (List Val)}(h:RK l):vn l=true:=abn (by have:=h.len;omega) λr hr=>(h.row r hr).2
theorem RK.big {l:List (List Val)}(h:RK l):∀ r∈l,r.length<=1000000:=λr hr=>by have:=(h.row r hr).2.1;omega
theorem bM.rk {n:Nat}{b:aJ}(h:bM n b)(hn:n<=700):RK b.rows:=⟨Nat.le_trans h.len hn,λr hr=>by
 have h1:=h.row r hr;have h2:=h.pos;have h3:=h.kinds;exact⟨λe=>by rw[e]at h1;simp at h1;omega,m0,λv hv=>(oT (h.val r hr v hv)).vok⟩⟩
theorem tj {kinds:List Int}{rows:List (List Val)}(hk:kinds.length<=1000000)(h:RK rows):gW kinds rows=some ⟨kinds,aH rows⟩:=HW hk h.len λr hr=>⟨(h.row r hr).1,by have:=(h.row r hr).2.1;omega⟩
theorem lO (a b:List Val)(ha:a.length<=1000000)(hb:b.length<=1000000):em a b=some (decide (a=b)):=by
 unfold em;rw[ni a b m0 m0,ahQ];congr 1;by_cases h:a=b
 .subst h
  rw[ahV rfl,tCr_.refl];rfl
 .rw[ahU h,ahU]
  intro h2;exact h (tCr_.zero _ _ h2)
theorem H5 {b:aJ}{e:Ex}(hk:b.kinds.length<=1000000)(h:RK b.rows)(he:du fuel e):mW b e=some ⟨b.kinds,aH (b.rows.filter (lz e))⟩:=by
 have hl:=h.len;unfold mW;rw[bX (l:=b.rows) (λx=>if lz e x then [x]else []) 5864062014805 ?_ ?_ (by unfold fuel;omega) [] (by rw[lr];have:=List.length_filter_le (lz e) b.rows;simp only[aik];omega)]
 .rw[ahQ,ahW,lr]
  unfold lD;dsimp only;rw[tj hk (h.filter _)];rfl
 .intro s i x hx hs
  have hi:=(ahR.1 hx).1;unfold lN;dsimp only;rw[aG hx,ahT,gn_ hx,ahQ,Ak he,ahQ,wrapN m0];show(bif lz e x then _ else _)=_
  cases hc:lz e x with
  |false=>simp
  |true =>
   rw[hc]at hs;rw[ahT,ahV (show s.length+1<=5864062014805 from hs)];rfl
 .intro s
  unfold lN;dsimp only;rw[lF_,ahS]
theorem EH {b:aJ}{e:Ex}(h:RK b.rows)(he:du fuel e):iR b e=some ⟨b.kinds,aH (b.rows.filter (lz e))⟩:=FK h.len h.big he
theorem Jd {a b:aJ}(hk:a.kinds.length<=1000000)(h:RK (a.rows++b.rows)):qT a b=some ⟨a.kinds,aH (a.rows++b.rows)⟩:=by
 have hl:=h.len;rw[ahZ]at hl;unfold qT;rw[ahV (show a.rows.length<=5864062014805 by omega),ahT,ahV (show a.rows.length+b.rows.length<=5864062014805 by omega),ahT,tj hk h];rfl
theorem Ir {a b:aJ}(h:RK (a.rows++b.rows)):mX a b=some ⟨a.kinds,aH (a.rows++b.rows)⟩:=by
 have hl:=h.len;rw[ahZ]at hl;unfold mX;rw[ahV (show a.rows.length<=5864062014805 by omega),ahT,ahV (show a.rows.length+b.rows.length<=5864062014805 by omega),ahT,dI _ h.len h.big];rfl
theorem Cb {b:aJ}(hk:b.kinds.length<=1000000)(h:RK b.rows):iQ b=some ⟨b.kinds,aH (dN [] b.rows)⟩:=by
 unfold iQ;rw[h.keys,ahT,vW,tj hk (h.of ?_ λr hr=>(eD r b.rows).1 hr)];have:=qV b.rows;rw[vW]at this;have:=h.len;omega
theorem Iu {a b:aJ}(hk:a.kinds.length<=1000000)(ha:RK a.rows)(hb:RK b.rows):nt a b=some ⟨a.kinds,aH (gY (λr=>b.rows.count r) a.rows).2⟩:=by
 unfold nt rB;rw[ha.keys,hb.keys];show(gW a.kinds _).bind _=_;rw[tj hk (ha.split _).2];rfl
theorem JV {a b:aJ}(hk:a.kinds.length<=1000000)(ha:RK a.rows)(hb:RK b.rows):ri a b=some ⟨a.kinds,aH (gY (λr=>b.rows.count r) a.rows).1⟩:=by
 unfold ri rB;rw[ha.keys,hb.keys];show(gW a.kinds _).bind _=_;rw[tj hk (ha.split _).1];rfl
theorem Ce (a b:List Int)(ha:a.length<=1000000):∃ c,dE a b=some c:=by
 unfold dE;by_cases h:a.length=b.length
 .rw[ahU (show ¬ (a.length:Int)≠(b.length:Int)by omega),ahS]
  have key:∀ (n i:Nat),i<=a.length->a.length-i<n ->∃ c,(af (bS a b) n (i:Int)).bind eQ=some c:=by
   intro n
   induction n with
   |zero=>intro i _ h;omega
   |succ n ih =>
    intro i hi hn;rw[af];by_cases O8:i<a.length
    .obtain⟨x,hx⟩:=gol_ O8
     obtain⟨y,hy⟩:=gol_ (l:=b) (i:=i) m0;have hb:bS a b (i:Int)=bif decide (x≠y)then some (.ret false)else some (.next ((i+1:Nat):Int)):=by
      unfold bS;dsimp only;rw[aG hx,ahT,gn_ hx,ahQ,gn_ hy,ahQ,wrapN m0]
     rw[hb]
     cases decide (x≠y)with
     |true=>exact⟨false,rfl⟩
     |false=>exact ih (i+1) m0 m0
    .have:i=a.length:=m0
     subst this;have hb:bS a b (a.length:Int)=some (.exit (a.length:Int)):=by
      unfold bS;dsimp only;rw[lF_,ahS]
     rw[hb];exact⟨true,rfl⟩
  exact key fuel 0 (aia _) (by unfold fuel;omega)
 .rw[ahV (show(a.length:Int)≠(b.length:Int)by omega),ahT]
  exact⟨false,rfl⟩
theorem A0 {kinds:List Int}{l:List Ex}(hl:l.length<=100000)(he:∀ e∈l,du fuel e):∀ (n i:Nat) (s:List Int) (p:List Int×Int),s.length=i->i<=l.length->(af (bO kinds l) n (s,(i:Int))).bind dB=some p->(af (fy l kinds) n (s,(i:Int))).bind fE=some p
 |0,i,s,p,_,_,h=>by exact absurd h (by simp[af])
 |n+1,i,s,p,hs,hi,h=>by
  rw[af]at h ⊢;by_cases O8:i<l.length
  .obtain⟨x,hx⟩:=gol_ O8
   have hc:=EQ kinds (he x (ahX hx));have e1:bO kinds l (s,(i:Int))=bif decide ((kR x kinds).2≠0)then some (.ret ([],(kR x kinds).2))else bif decide ((kR x kinds).1=0)then some (.ret ([],7))else some (.next (s++[(kR x kinds).1],((i+1:Nat):Int))):=by
    unfold bO;dsimp only;rw[aG hx,ahT,gn_ hx,ahQ,hc.1,ahQ,ahV (show s.length+1<=17592186044416 by omega),ahT,wrapN m0]
   have e2:fy l kinds (s,(i:Int))=bif decide ((kR x kinds).2≠0)then some (.ret ([],(kR x kinds).2))else bif decide ((kR x kinds).1=0)then some (.ret ([],7))else some (.next (s++[(kR x kinds).1],((i+1:Nat):Int))):=by
    unfold fy;dsimp only;rw[aG hx,ahT,gn_ hx,ahQ,hc.2,ahQ,ahV (show s.length+1<=17592186044416 by omega),ahT,wrapN m0]
   rw[e1]at h;rw[e2]
   cases c1:decide ((kR x kinds).2≠0)with
   |true=>rw[c1]at h;exact h
   |false =>
    cases c2:decide ((kR x kinds).1=0)with
    |true=>rw[c1,c2]at h;exact h
    |false =>
     rw[c1,c2]at h;exact A0 hl he n (i+1) _ p (by rw[ahZ,hs];rfl) m0 h
  .have:i=l.length:=m0
   subst this;have e1:bO kinds l (s,(l.length:Int))=some (.exit (s,(l.length:Int))):=by
    unfold bO;dsimp only;rw[lF_,ahS]
   have e2:fy l kinds (s,(l.length:Int))=some (.exit (s,(l.length:Int))):=by
    unfold fy;dsimp only;rw[lF_,ahS]
   rw[e1]at h;rw[e2];exact h
theorem IP {kinds:List Int}{l:List Ex}(hl:l.length<=100000)(he:∀ e∈l,du fuel e){p:List Int×Int}(h:ik kinds l=some p):tF l kinds=some p:=A0 hl he fuel 0 [] p rfl (aia _) h
theorem adc {l:List Ex}(h0:l≠[])(hl:l.length<=48)(he:∀ e∈l,du fuel e){rows:List (List Val)}(hr:rows.length<=700):RK (rows.map (CQ l)):=by
 refine⟨by rw[ah3];exact hr,λr hx=>?_⟩;obtain⟨y,_,rfl⟩:=aip.1 hx;have hlen:(CQ l y).length=l.length:=ah3 _;refine⟨λe=>h0 (aif (by rw[<- hlen,e];rfl)),m0,λv hv=>?_⟩;obtain⟨e,hx,rfl⟩:=aip.1 hv;exact(oT (val_ok (he e hx) y).2.2).vok
theorem Gp {l:List Ex}(hl:l.length<=48)(he:∀ e∈l,du fuel e)(x:List Val):af (hU l x) fuel ([],(0:Int))=some (.inl (CQ l x,(l.length:Int))):=by
 rw[bX (l:=l) (λe=>[CH e x]) 4398046511104 ?_ ?_ (by unfold fuel;omega) [] (by rw[fo_];simp;omega)]
 .rw[ahW,fo_];rfl
 .intro s i y hx hs
  have hi:=(ahR.1 hx).1;unfold hU;dsimp only;rw[aG hx,ahT,gn_ hx,ahQ,(val_ok (he y (ahX hx)) x).2.1,ahQ,wrapN m0,ahV (show s.length+1<=4398046511104 from hs),ahT]
 .intro s
  unfold hU;dsimp only;rw[lF_,ahS]
theorem E9 {b:aJ}{l:List Ex}(hn:b.rows.length<=700)(h0:l≠[])(hl:l.length<=48)(he:∀ e∈l,du fuel e)(hp:ik b.kinds l=some (gn l b.kinds,0)):j5 b l=some ⟨gn l b.kinds,aH (b.rows.map (CQ l))⟩:=by
 unfold j5;rw[bX (l:=b.rows) (λx=>[CQ l x]) 5864062014805 ?_ ?_ (by unfold fuel;omega) [] (by rw[fo_];simp;omega)]
 .rw[ahQ,ahW,fo_]
  unfold jR;dsimp only;rw[IP m0 he hp,ahQ,tj (by show(l.map _).length<=_;rw[ah3];omega) (adc h0 hl he hn)];rfl
 .intro s i x hx hs
  have hi:=(ahR.1 hx).1;unfold jQ;dsimp only;rw[aG hx,ahT,gn_ hx,ahQ,Gp hl he x,ahQ];unfold jT;dsimp only;rw[wrapN m0,ahV (show s.length+1<=5864062014805 from hs),ahT]
 .intro s
  unfold jQ;dsimp only;rw[lF_,ahS]
theorem Mc:∀ (l:List (List Val)) (p:Option (List Val)),(b6 p l).length<=l.length
 |[],_=>ah7 _
 |y::l,p=>by
  rw[qs];have:=Mc l (some y);split
  .rw[aib];omega
  .rw[aib,aib];omega
theorem qe {A:List (List Val)}(hl:A.length<=700)(hr:∀ r∈A,r.length<=1000000):∀ (n i:Nat),i<=A.length->A.length-i<n->af (dw A) n (b6 none (A.take i),(i:Int))=some (.inl (b6 none A,(A.length:Int)))
 |0,i,_,h=>by omega
 |n+1,i,hi,hn=>by
  rw[af];by_cases O8:i<A.length
  .obtain⟨x,hx⟩:=gol_ O8
   have SE:(b6 none (A.take i)).length<=i:=by have:=Mc (A.take i) none;rw[aiD]at this;omega
   have U0:=qq x (A.take i) none;rw[<- bG hx,uG]at U0;have hb:dw A (b6 none (A.take i),(i:Int))=some (.next (b6 none (A.take (i+1)),((i+1:Nat):Int))):=by
    unfold dw;dsimp only;rw[aG hx,ahT,gn_ hx,wrapN m0,U0]
    match i,O8,hx,SE with
    |0,O8,hx,SE =>
     rw[show decide (((0:Nat):Int)=0)=true from rfl,ahT,ahQ,ahV (show(b6 none (A.take 0)).length+1<=5864062014805 by omega),ahT];simp
    |j+1,O8,hx,SE =>
     obtain⟨x0,VT⟩:=gol_ (show j<A.length by omega);have VQ:(A.take (j+1)).getLast?=some x0:=by rw[bG VT];simp
     rw[ahU (show ¬ ((j+1:Nat):Int)=0 by omega),ahS,a8 (show((j+1:Nat):Int)-1=((j:Nat):Int)by omega) m0,gn_ VT,ahQ,ahQ,lO x0 x (hr x0 (ahX VT)) (hr x (ahX hx)),ahQ,VQ];by_cases he:x0=x
     .subst he;simp
     .rw[ahU he,if_neg (by simpa using he),Bool.not_false,ahT,ahV (show(b6 none (A.take (j+1))).length+1<=5864062014805 by omega),ahT]
   rw[hb];exact qe hl hr n (i+1) m0 m0
  .have:i=A.length:=m0
   subst this;have hb:dw A (b6 none (A.take A.length),(A.length:Int))=some (.exit (b6 none (A.take A.length),(A.length:Int))):=by
    unfold dw;dsimp only;rw[lF_,ahS]
   rw[hb,List.take_length]
theorem BR {l:List (List Val)}(h:RK l):kF l=some (b6 none (aH l)):=by
 have hl:=h.sort.len;unfold kF;rw[dI _ h.len h.big,ahQ];have:=qe hl h.sort.big fuel 0 (aia _) (by unfold fuel;omega);rw[show(b6 none ((aH l).take 0),((0:Nat):Int))=(([],(0:Int)):List (List Val)×Int)from rfl]at this;rw[this];rfl
theorem yy {b:aJ}(h:RK b.rows):gL b=some ⟨b.kinds,aH (dN [] b.rows)⟩:=by
 unfold gL;rw[BR h,Fv];rfl
