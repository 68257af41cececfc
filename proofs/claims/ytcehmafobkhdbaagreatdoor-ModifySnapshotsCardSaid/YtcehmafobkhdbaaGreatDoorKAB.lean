/- Parts of the proof, joined. No condition. -/
import Derived.Test.YtcehmafobkhdbaaGreatDoorKAA
import Derived.Deep.Upon
import Derived.LoopN
set_option linter.unusedSimpArgs false
set_option linter.unusedVariables false
namespace Go.Proofs.YtcehmafobkhdbaaGreatDoor
open Go.RowKit
section
variable {P:Program} {B:Nat->Prop} {R:PH} {γ:List Gh} {L:List Ob} {w:World}
theorem xE {i j k n:Nat} (hi:i<n) (hj:j<k):i*k+j<n*k:=by
 have:(i+1)*k<=n*k:=ahv _ hi
 rw [Nat.succ_mul] at this;omega
structure Cells (R:PH) (k:Nat) (es:List (List AC)) (news:List Value):Prop where
 len:news.length=es.length*k
 wide : ∀ e∈es,e.length=k
 get : ∀ (i:Nat) e (j:Nat) y,es[i]?=some e->e[j]?=some y -> ∃ u,news[i*k+j]?=some u/\bP R u y
theorem Cells.one {k:Nat} {es:List (List AC)} {news:List Value} (h:Cells R k es news) : ∀ u∈news,u.oneCell'=true:=by
 intro u hu
 obtain ⟨q,hq⟩:=List.mem_iff_getElem?.1 hu
 have hlt:=(agV.1 hq).1
 rw [h.len] at hlt
 have hk:0<k:=by
  rcases Nat.eq_zero_or_pos k with e|e
  ·subst e;simp at hlt
  ·exact e
 have h1:q/k<es.length:=Nat.div_lt_of_lt_mul (by rw [Nat.mul_comm];exact hlt)
 have h2:q%k<k:=Nat.mod_lt _ hk
 have he:es[q/k]?=some es[q/k]:=ag4 h1
 have hj:q%k<es[q/k].length:=by rw [h.wide _ (List.getElem_mem h1)];exact h2
 obtain ⟨u',hu',hp⟩:=h.get _ _ (q%k) _ he (ag4 hj)
 rw [Nat.div_add_mod' q k,hq] at hu'
 injection hu' with hu';subst hu'
 exact hp.one.2
theorem Ae {v:Value} {es:List (List AC)} {k:Nat} (h:bP R v (.lst es)) (hk : ∀ e∈es,e.length=k) :
  ∃ a c news,v = .slice a es.length c/\es.length<=c/\Cells R k es news/\(0<es.length -> ∃ b o,a=some ⟨b,o,none⟩ /\ ∀ (j:Nat) u,news[j]?=some u->R b (o+j)=some u):=by
 cases h with
 | lst a n c _ k' cv b o hn hc hkk ha hr hx =>
  subst hn
  by_cases hz:es.length=0
  ·have:es=[]:=ahj hz
   subst this
   exact ⟨a,c,[],rfl,hc,⟨by simp,by simp,fun i e j y he=>by simp at he⟩,fun h=>absurd h (by simp)⟩
  ·have hkk':k'=k:=by
    have h0:0<es.length:=by omega
    rw [<- hkk es[0] (List.getElem_mem h0),hk es[0] (List.getElem_mem h0)]
   subst hkk'
   refine ⟨a,c,(List.range (es.length*k')).map cv,rfl,hc,⟨by simp,hk,fun i e j y he hy=>⟨cv (i*k'+j),?_,hx i e j y he hy⟩⟩,fun hp=>⟨b,o,ha hp,fun j u hu=>?_⟩⟩
   ·have h1:=(agV.1 he).1
    have h2:j<k':=by rw [<- hk e (ag1 he)];exact (agV.1 hy).1
    rw [ahg,List.getElem?_range (xE h1 h2)];rfl
   ·rw [ahg] at hu
    by_cases hj:j<es.length*k'
    ·rw [List.getElem?_range hj] at hu
     injection hu with hu;subst hu
     exact hr j hj
    ·rw [ahH (by simp;omega)] at hu;cases hu
theorem Vh {es:List (List AC)} {k:Nat} {news:List Value} (h:Cells R k es news) (b o c:Nat) (hc:es.length<=c) (hR : ∀ (j:Nat) u,news[j]?=some u->R b (o+j)=some u) :
  bP R (.slice (some ⟨b,o,none⟩) es.length c) (.lst es):=by
 refine .lst _ _ _ es k (fun j=>(news[j]?).getD Go.undef) b o rfl hc h.wide (fun _=>rfl) (fun j hj=>?_) (fun i e j y he hy=>?_)
 ·have hlt:j<news.length:=by rw [h.len];exact hj
  have e:news[j]?=some news[j]:=ag4 hlt
  rw [hR j _ e,e];rfl
 ·obtain ⟨u,h1,h2⟩:=h.get i e j y he hy
  rw [h1];exact h2
theorem Cells.mono {R':PH} (hs:PH.sub R R') {es:List (List AC)} {k:Nat} {news:List Value} (h:Cells R k es news):Cells R' k es news :=
 ⟨h.len,h.wide,fun i e j y he hy=>let ⟨u,h1,h2⟩:=h.get i e j y he hy;⟨u,h1,bP.mono hs h2⟩⟩
theorem Cells.app {es xs:List (List AC)} {k:Nat} {olds news:List Value} (h:Cells R k es olds) (g:Cells R k xs news):Cells R k (es++xs) (olds++news):=by
 refine ⟨by simp [h.len,g.len,Nat.add_mul],fun e he=>?_,fun i e j y he hy=>?_⟩
 ·rcases ahl.1 he with he|he
  ·exact h.wide e he
  ·exact g.wide e he
 ·have hj:j<k:=by
   rw [<- show e.length=k from ?_]
   ·exact (agV.1 hy).1
   ·rcases ahl.1 (ag1 he) with he|he
    ·exact h.wide e he
    ·exact g.wide e he
  by_cases hi:i<es.length
  ·rw [ag9 hi] at he
   obtain ⟨u,h1,h2⟩:=h.get i e j y he hy
   exact ⟨u,by rw [ag9 (agV.1 h1).1];exact h1,h2⟩
  ·rw [ag2 (by omega)] at he
   obtain ⟨u,h1,h2⟩:=g.get (i-es.length) e j y he hy
   refine ⟨u,?_,h2⟩
   have hle:es.length*k<=i*k:=ahv _ (by omega)
   rw [ag2 (by rw [h.len];omega),h.len]
   have:i*k+j-es.length*k=(i-es.length)*k+j:=by rw [Nat.sub_mul];omega
   rw [this];exact h1
theorem aaI {tx E':TypeId} {k:Nat} (htx:P.underlying tx=some (.slice E')) (hi:Inv B R γ L w) {x:Value} {xs:List (List AC)} (h:bP R x (.lst xs)) (hk : ∀ e∈xs,e.length=k) :
  ∃ news,Src P k tx x xs.length news w/\Cells R k xs news:=by
 obtain ⟨a,c,news,rfl,hc,hcells,hR⟩:=Ae h hk
 refine ⟨news,?_,hcells⟩
 cases a with
 | none =>
  have h0:xs.length=0:=by
   rcases Nat.eq_zero_or_pos xs.length with e|e
   ·exact e
   ·obtain ⟨b,o,e1,_⟩:=hR e;cases e1
  have hn:news=[]:=ahj (by rw [hcells.len,h0];simp)
  rw [h0,hn]
  exact Src.ofNil w htx c
 | some ad =>
  refine Src.ofSlice w htx ad xs.length c news hcells.len (fun j u hu=>?_) hcells.one
  have hp:0<xs.length:=by
   rcases Nat.eq_zero_or_pos xs.length with e|e
   ·have:news=[]:=ahj (by rw [hcells.len,e];simp)
    rw [this] at hu;simp at hu
   ·exact e
  obtain ⟨b,o,e1,e2⟩:=hR hp
  injection e1 with e1;subst e1
  rw [Addr.add_mid]
  exact hi.val _ _ _ (e2 j u hu)
theorem Inv.move (hi:Inv B R γ L w) {i n k n' c:Nat} (hx:L[i]?=some (.spare n k)) (hn:n<n') (hnc:n'<=c) (hk:0<k) (cells:Array Value) (E:TypeId) (hcs:cells.size=c*k) (f:Nat->Option Value) (hf : ∀ o u,f o=some u->cells[o]?=some u)
  (hf' : ∀ o,n'*k<=o->f o=none) :
  Inv B (R.add w.heap.size f) (γ.set i (.arr w.heap.size c)) (L.set i (.spare n' k)) (w.drew.alloc (.cells cells E))/\Mv R (R.add w.heap.size f) γ (γ.set i (.arr w.heap.size c)) L (L.set i (.spare n' k)):=by
 have hlt:i<L.length:=(agV.1 hx).1
 have hm:Mv R (R.add w.heap.size f) γ (γ.set i (.arr w.heap.size c)) L (L.set i (.spare n' k)):=by
  refine ⟨Hd hi f,by simp,fun t m k' hlt' h=>?_,fun t ver es k' hlt' h=>?_,fun id b h=>?_⟩
  ·by_cases ht:t=i
   ·subst ht
    rw [ahc hlt] at h;injection h with h;injection h with h1 h2;subst h1 h2
    exact ⟨n,hx,by omega,fun e=>by omega⟩
   ·rw [ahd (Ne.symm ht)] at h
    exact ⟨m,h,ag' _,fun _=>by rw [ahd (Ne.symm ht)]⟩
  ·by_cases ht:t=i
   ·subst ht
    rw [ahc hlt] at h;injection h with h;cases h
   ·rw [ahd (Ne.symm ht)] at h
    exact ⟨ver,es,h,ag' _,fun _=>⟨rfl,by rw [ahd (Ne.symm ht)]⟩⟩
  ·have:id≠i:=by
    rintro rfl
    have:=hi.obj id _ _ hx h
    exact this
   rw [ahd (Ne.symm this)];exact h
 have gcase : ∀ j h,(γ.set i (Gh.arr w.heap.size c))[j]?=some h->(j=i/\h = .arr w.heap.size c)\/(j≠i/\γ[j]?=some h):=by
  intro j h hh
  by_cases hj:j=i
  ·subst hj
   rw [ahc (by rw [hi.len];exact hlt)] at hh
   injection hh with hh
   exact .inl ⟨rfl,hh.symm⟩
  ·rw [ahd (Ne.symm hj)] at hh
   exact .inr ⟨hj,hh⟩
 have hold : ∀ b,b<w.heap.size->(w.drew.alloc (.cells cells E)).heap[b]?=w.heap[b]?:=fun b hb=>jO w.drew _ hb
 refine ⟨⟨by simp [hi.len],fun b o u h=>?_,fun id y h hy hh=>?_,fun j1 j2 g1 g2 h1 h2 hne b hb=>?_,fun j h b hh hb=>?_,?_⟩,hm⟩
 ·rw [PH.add_eq hi.none_at] at h
  split at h
  ·rename_i e;subst e
   have this:(w.drew.alloc (.cells cells E)).heap[w.heap.size]?=some (.cells cells E):=ib w.drew (.cells cells E)
   rw [cob_ this]
   exact hf o u h
  ·have:=hi.lt h
   rw [<- hi.val _ _ _ h]
   exact World.cell?_of_block (w:=w) (hold b this)
 ·rcases gcase id h hh with ⟨rfl,rfl⟩|⟨hne,hh'⟩
  ·rw [ahc hlt] at hy
   injection hy with hy;subst hy
   refine ⟨⟨cells,E,ib w.drew _,hcs⟩,hnc,hk,fun o ho=>?_⟩
   rw [PH.add_eq hi.none_at,if_pos rfl];exact hf' o ho
  ·rw [ahd (Ne.symm hne)] at hy
   refine (hi.obj id y h hy hh').mv hm (fun b hb=>hold b (hi.new id h b hh' hb).2) (fun b o hb e=>?_)
   have:=(hi.new id h b hh' hb).2
   rw [PH.add_eq hi.none_at,if_neg (by omega)];exact e
 ·rcases gcase j1 g1 h1 with ⟨a1,rfl⟩|⟨a1,a2⟩<;>rcases gcase j2 g2 h2 with ⟨b1,rfl⟩|⟨b1,b2⟩
  ·omega
  ·simp only [Gh.block,Option.some.injEq] at hb
   subst hb
   intro e;have:=(hi.new j2 g2 _ b2 e).2;omega
  ·have:=(hi.new j1 g1 b a2 hb).2
   simp only [Gh.block,ne_eq,Option.some.injEq];omega
  ·exact hi.inj j1 j2 g1 g2 a2 b2 hne b hb
 ·have e:(w.drew.alloc (.cells cells E)).heap.size=w.heap.size+1:=by show (w.heap.push _).size=_;simp
  rcases gcase j h hh with ⟨_,rfl⟩|⟨_,b2⟩
  ·simp only [Gh.block,Option.some.injEq] at hb;subst hb
   exact ⟨fun hB=>by have:=hi.bsz _ hB;omega,by omega⟩
  ·have:=hi.new j h b b2 hb
   exact ⟨this.1,by omega⟩
 ·have e:(w.drew.alloc (.cells cells E)).heap.size=w.heap.size+1:=by show (w.heap.push _).size=_;simp
  intro b hb
  have:=hi.bsz b hb
  omega
theorem U5 (hi:Inv B R γ L w) {t tx ty E E':TypeId} {k by_:Nat} {es xs:List (List AC)} {i n:Nat} {v x:Value} (ht:P.underlying t=some (.slice E)) (htx:P.underlying tx=some (.slice E')) (hk0:0<k) (hz:Vm P E k) (hby:uf P E=some by_)
  (hL:L[i]?=some (.spare n k)) (hv:(SV.own es i).rep R γ L v) (hn:es.length=n) (hx:bP R x (.lst xs)) (hxk : ∀ e∈xs,e.length=k)
  (hb1:(n+xs.length)*by_<=140737488355328) (hb2:n+xs.length<=140737488355328) :
  ∃ u w' R' γ',(Builtin.append_ #[t,tx] ty #[v,x]).run P w = .ok u w'/\Inv B R' γ' (L.set i (.spare (n+xs.length) k)) w'/\Ext B R R' w w'/\Mv R R' γ γ' L (L.set i (.spare (n+xs.length) k)) /\
   (SV.own (es++xs) i).rep R' γ' (L.set i (.spare (n+xs.length) k)) u:=by
 obtain ⟨inf,z,hinf,hzz,hisz,hzc⟩:=hz
 have hbytes:inf.bytes=by_:=by unfold uf at hby;rw [hinf] at hby;simpa using hby
 obtain ⟨hpv,_,hall0⟩:=hv
 obtain ⟨_,hek,hlk⟩:=hall0 n k hL
 obtain ⟨g,hg,hlink⟩:=hlk hn
 have hlt:i<L.length:=(agV.1 hL).1
 obtain ⟨news,hsrc,hnews⟩:=aaI (P:=P) (k:=k) htx hi hx hxk
 have hsrc':Src P inf.size tx x xs.length news w:=by rw [hisz];exact hsrc
 have hobj:=hi.obj i _ _ hL hg

 have grow : ∀ (a:Option Addr) (c:Nat),v = .slice a n c->c<n+xs.length->0<k -> ∃ u w' R' γ',(Builtin.append_ #[t,tx] ty #[v,x]).run P w = .ok u w'/\Inv B R' γ' (L.set i (.spare (n+xs.length) k)) w'/\Ext B R R' w w'/\Mv R R' γ γ' L (L.set i (.spare (n+xs.length) k)) /\
   (SV.own (es++xs) i).rep R' γ' (L.set i (.spare (n+xs.length) k)) u:=by
  intro a c hva hc hk
  obtain ⟨a',c',olds,hv',hcc,holds,hRo⟩:=Ae hpv hek
  rw [hva] at hv'
  injection hv' with q1 q2 q3
  subst q1 q3
  have hpos:0<xs.length:=by omega
  have hfc:(Builtin.firstCells inf.size n (.slice a n c)).run P w.drew = .ok olds.toArray w.drew:=by
   rw [hisz]
   cases a with
   | none =>
    have h0:es.length=0:=by
     rcases Nat.eq_zero_or_pos es.length with e|e
     ·exact e
     ·obtain ⟨b,o,e1,_⟩:=hRo e;cases e1
    have:olds=[]:=ahj (by rw [holds.len,h0];simp)
    rw [this]
    exact run_firstCells_none w.drew k n n c
   | some ad =>
    refine run_firstCells_some w.drew k n ad n c olds (by rw [holds.len,hn]) (fun j u hu=>?_)
    have hp:0<es.length:=by
     rcases Nat.eq_zero_or_pos es.length with e|e
     ·have:olds=[]:=ahj (by rw [holds.len,e];simp)
      rw [this] at hu;simp at hu
     ·exact e
    obtain ⟨b,o,e1,e2⟩:=hRo hp
    injection e1 with e1;subst e1
    rw [Addr.add_mid]
    exact hi.val _ _ _ (e2 j u hu)
  have hrun:=run_append_grow_src (P:=P) (w:=w) t tx ty E inf z ht hinf hzz a n c olds hfc x xs.length news hsrc' hc (by omega) (by
   have h2:=nextslicecap_le hc
   have h3:Builtin.nextslicecap (n+xs.length) c*inf.bytes<=2*(n+xs.length)*inf.bytes:=ahv _ h2
   rw [hbytes] at h3 ⊢
   rw [Nat.mul_assoc] at h3
   omega)
  have hcap:=grownCap_ge w (n+xs.length) c E
  generalize grownCap w (n+xs.length) c E=cap at hrun hcap
  have hall:=holds.app hnews
  have hall_len:(olds++news).length=(n+xs.length)*k:=by rw [hall.len,ag3,hn]
  obtain ⟨hI,hM⟩:=hi.move hL (n':=n+xs.length) (c:=cap) (by omega) hcap hk ((olds++news).toArray++Builtin.zeroCells z.cells (cap-(n+xs.length))) E
   (by rw [Array.size_append,size_zeroCells,hzc];simp only [List.size_toArray];rw [hall_len, <- Nat.add_mul];congr 1;omega) (fun o=>if o<(n+xs.length)*k then (olds++news)[o]? else none)
   (fun o u h=>by
    split at h
    ·rename_i hlt2
     rw [Array.getElem?_append_left (by simp only [List.size_toArray];omega)]
     simpa using h
    ·cases h) (fun o ho=>by rw [if_neg (by omega)])
  refine ⟨_,_,_,_,by rw [hva];exact hrun,hI,?_,hM,?_,by simpa using hlt,fun n2 k2 e2=>?_⟩
  ·exact ⟨⟨rfl,rfl,rfl,by show w.heap.size<=(w.heap.push _).size;simp,fun b hb=>jO w.drew _ (hi.bsz b hb)⟩,hM.sub,fun b o hb=>by have:=hi.bsz b hb;rw [PH.add_eq hi.none_at,if_neg (by omega)]⟩
  ·have:=Vh (R:=R.add w.heap.size (fun o=>if o<(n+xs.length)*k then (olds++news)[o]? else none)) (hall.mono hM.sub) w.heap.size 0 cap (by rw [ag3,hn];exact hcap) (fun j u hu=>by
    have hj:=(agV.1 hu).1
    rw [hall_len] at hj
    rw [PH.add_eq hi.none_at,if_pos rfl,ahB]
    show (if j<(n+xs.length)*k then (olds++news)[j]? else none)=some u
    rw [if_pos hj];exact hu)
   rw [ag3,hn] at this
   exact this
  ·rw [ahc hlt] at e2;injection e2 with e2;injection e2 with e3 e4;subst e3 e4
   exact ⟨by simp [hn],hall.wide,fun _=>⟨.arr w.heap.size cap,ahc (by rw [hi.len];exact hlt),rfl⟩⟩
 match g,hlink,hobj with
 | .none,⟨a,hva⟩,hobj =>
  have hn0:n=0:=hobj
  subst hn0
  by_cases hm:xs.length=0
  ·have hx0:xs=[]:=ahj hm
   have he0:es=[]:=ahj hn
   subst hx0 he0
   have hnn:news=[]:=ahj (by rw [hnews.len];simp)
   rw [hnn] at hsrc'
   have hrun:=run_append_nothing (P:=P) w t tx ty E inf ht hinf a 0 0 (ag' _) x hsrc'
   have hset:L.set i (.spare (0+([]:List (List AC)).length) k)=L:=by
    apply List.ext_getElem?
    intro j
    by_cases hj:j=i
    ·subst hj;rw [ahc hlt,hL];rfl
    ·rw [ahd (Ne.symm hj)]
   rw [hset]
   exact ⟨v,w,R,γ,by rw [hva];exact hrun,hi,Ext.refl _ _ _,Mv.refl,by simpa using hpv,hlt,fun n2 k2 e2=>by
    rw [hL] at e2;injection e2 with e2;injection e2 with e3 e4;subst e3 e4
    exact ⟨by simp,by simp,fun _=>⟨.none,hg,a,hva⟩⟩⟩
  ·exact grow a 0 hva (by omega) hk0
 | .arr b c,hva,⟨⟨vs,E2,hb,hsz⟩,hnc,hk,hRn⟩ =>
  by_cases hroom:n+xs.length<=c
  ·have hle:(n+xs.length)*k<=c*k:=ahv _ hroom
   have hnl:news.length=xs.length*k:=hnews.len
   have hadd:n*k+news.length=(n+xs.length)*k:=by rw [hnl,Nat.add_mul]
   have hrun:=run_append_room_src (P:=P) (w:=w) t tx ty E inf ht hinf b 0 n c x xs.length news hsrc' hroom
    (fun j hj=>by
     rw [hisz,cob_ hb]
     have:0+n*k+j<vs.size:=by omega
     rw [ahi this];rfl)
    (fun j hj=>by simp [World.frozen?,hb])
   rw [hisz,ahB] at hrun
   obtain ⟨cs',g1,g2,g3⟩:=kY b E2 (0,0) news (n*k) w vs hb (by omega)
   have hsub0 : ∀ b' o u,R b' o=some u->(fun b' o=>if b'=b/\n*k<=o/\o<(n+xs.length)*k then news[o-n*k]? else R b' o) b' o=some u:=by
    intro b' o u h
    by_cases hc2:b'=b/\n*k<=o/\o<(n+xs.length)*k
    ·exfalso
     obtain ⟨rfl,h2,_⟩:=hc2
     rw [hRn o h2] at h;cases h
    ·simp only [hc2,if_false];exact h
   obtain ⟨R',hR'⟩ : ∃ R':PH, ∀ b' o,R' b' o=if b'=b/\n*k<=o/\o<(n+xs.length)*k then news[o-n*k]? else R b' o:=⟨R.put _ hsub0,fun _ _=>rfl⟩
   have hsub:PH.sub R R':=fun b' o u h=>by rw [hR'];exact hsub0 b' o u h
   have hM:Mv R R' γ γ L (L.set i (.spare (n+xs.length) k)):=by
    refine ⟨hsub,by simp,fun t' m k' hlt' h=>?_,fun t' ver es k' hlt' h=>?_,fun _ _ h=>h⟩
    ·by_cases ht':t'=i
     ·subst ht'
      rw [ahc hlt] at h;injection h with h;injection h with h1 h2;subst h1 h2
      exact ⟨n,hL,by omega,fun _=>rfl⟩
     ·rw [ahd (Ne.symm ht')] at h
      exact ⟨m,h,ag' _,fun _=>rfl⟩
    ·by_cases ht':t'=i
     ·subst ht'
      rw [ahc hlt] at h;injection h with h;cases h
     ·rw [ahd (Ne.symm ht')] at h
      exact ⟨ver,es,h,ag' _,fun _=>⟨rfl,rfl⟩⟩
   obtain ⟨a',c',olds,hv',hcc,holds,hRo⟩:=Ae hpv hek
   have hv2:v = .slice (some ⟨b,0,none⟩) n c:=hva
   rw [hv2] at hv'
   injection hv' with q1 q2 q3
   subst q1 q3
   refine ⟨_,w.setCells b (n*k) news,_,γ,by rw [hv2];exact hrun,?_,?_,hM,?_,by simpa using hlt,fun n2 k2 e2=>?_⟩
   ·refine hi.turn hL hg rfl hM (fun b' hne=>iy b hne _ _ _) (jG _ _ _ _) (fun b' o hne=>by rw [hR'];simp [hne]) (fun o u h=>?_) ?_
    ·rw [hR'] at h
     rw [cob_ g1,g3 o]
     by_cases hc2:n*k<=o/\o<(n+xs.length)*k
     ·simp only [hc2,and_self,if_true] at h
      rw [if_pos (by omega)];exact h
     ·rw [if_neg (by omega)]
      have h':R b o=some u:=by
       have : ¬ (b=b/\n*k<=o/\o<(n+xs.length)*k):=fun hh=>hc2 hh.2
       rw [if_neg this] at h;exact h
      have:=hi.val _ _ _ h'
      rw [cob_ hb] at this
      exact this
    ·refine ⟨⟨cs',E2,g1,by rw [g2];exact hsz⟩,hroom,hk,fun o ho=>?_⟩
     have hc2 : ¬ (b=b/\n*k<=o/\o<(n+xs.length)*k):=fun hh=>by omega
     rw [hR',if_neg hc2]
     exact hRn o (by rw [Nat.add_mul] at ho;omega)
   ·refine ⟨jb (hi.new i _ b hg rfl).1 _ _ _,hsub,fun b' o hb'=>?_⟩
    have hnB:=(hi.new i _ b hg rfl).1
    have hc2 : ¬ (b'=b/\n*k<=o/\o<(n+xs.length)*k):=fun hh=>hnB (by rw [<- hh.1];exact hb')
    rw [hR'];simp only [hc2,if_false]
   ·have:=Vh ((holds.app hnews).mono hsub) b 0 c (by rw [ag3,hn];exact hroom) (fun j u hu=>by
     rw [ahB]
     by_cases hj:j<olds.length
     ·rw [ag9 hj] at hu
      have hp:0<es.length:=by
       rcases Nat.eq_zero_or_pos es.length with e|e
       ·rw [holds.len,e] at hj;simp at hj
       ·exact e
      obtain ⟨b2,o2,e1,e2⟩:=hRo hp
      injection e1 with e1;injection e1 with e1 e3;subst e1 e3
      have h5:=e2 j u hu
      rw [ahB] at h5
      exact hsub _ _ _ h5
     ·rw [ag2 (by omega)] at hu
      have hj2:=(agV.1 hu).1
      have ho:olds.length=n*k:=by rw [holds.len,hn]
      have hc2:b=b/\n*k<=j/\j<(n+xs.length)*k:=⟨rfl,by omega,by omega⟩
      rw [hR'];simp only [hc2,and_self,if_true]
      rw [<- ho];exact hu)
    rw [ag3,hn] at this
    exact this
   ·rw [ahc hlt] at e2;injection e2 with e2;injection e2 with e3 e4;subst e3 e4
    exact ⟨by simp [hn],(holds.app hnews).wide,fun _=>⟨.arr b c,hg,rfl⟩⟩
  ·exact grow _ c hva (by omega) hk
end
def nC (σ:List Nat) (i:Nat):Nat:=σ.getD i 0
def Cap.ren (σ:List Nat):Cap->Cap
 | .c x => .c x
 | .ptr id off => .ptr (nC σ id) off
def SV.ren (σ:List Nat):SV->SV
 | .c x => .c x
 | .emp => .emp
 | .own es t => .own es (nC σ t)
 | .ptr id off => .ptr (nC σ id) off
 | .sl id ver lo n => .sl (nC σ id) ver lo n
 | .ep id ver i o => .ep (nC σ id) ver i o
 | .mp id => .mp (nC σ id)
 | .clo f caps => .clo f (caps.map (Cap.ren σ))
def AV.ren (σ:List Nat):AV->AV
 | .one x => .one (x.ren σ)
 | .agg xs => .agg (xs.map (SV.ren σ))
 | .tup ps => .tup ps
 | .tupS xs => .tupS (xs.map (SV.ren σ))
 | .undef => .undef
def Ob.ren (σ:List Nat):Ob->Ob
 | .box cs => .box (cs.map (SV.ren σ))
 | .spare n k => .spare n k
 | .row ver es k => .row ver (es.map (List.map (SV.ren σ))) k
 | .map kvs => .map (kvs.map fun p=>(p.1,p.2.ren σ))
 | .dead => .dead
def Cap.below (n:Nat):Cap->Prop
 | .ptr id _=>id<n
 | _=>True
def SV.below (n:Nat):SV->Prop
 | .own _ t=>t<n
 | .ptr id _=>id<n
 | .sl id _ _ _=>id<n
 | .ep id _ _ _=>id<n
 | .mp id=>id<n
 | .clo _ caps => ∀ x∈caps,x.below n
 | _=>True
def AV.below (n:Nat):AV->Prop
 | .one x=>x.below n
 | .agg xs => ∀ x∈xs,x.below n
 | .tupS xs => ∀ x∈xs,x.below n
 | _=>True
def Ob.below (n:Nat):Ob->Prop
 | .box cs => ∀ x∈cs,x.below n
 | .row _ es _ => ∀ e∈es, ∀ x∈e,x.below n
 | .map kvs => ∀ p∈kvs,p.2.below n
 | _=>True
structure K_ (σ:List Nat) (γ0:List Gh) (L0:List Ob) (γ:List Gh) (L:List Ob):Prop where
 glen:γ0.length=L0.length
 gh : ∀ i,i<L0.length->γ[nC σ i]?=γ0[i]?
 ob : ∀ (i:Nat) x,L0[i]?=some x->L[nC σ i]?=some (x.ren σ)
section
variable {P:Program} {B:Nat->Prop} {R:PH} {γ0 γ:List Gh} {L0 L:List Ob} {w:World} {σ:List Nat}
theorem K_.lt (h:K_ σ γ0 L0 γ L) {i:Nat} (hi:i<L0.length):nC σ i<L.length :=
 (agV.1 (h.ob i _ (ag4 hi))).1
theorem K_.spare (h:K_ σ γ0 L0 γ L) {i n k:Nat} (hi:i<L0.length) (e:L[nC σ i]?=some (.spare n k)):L0[i]?=some (.spare n k):=by
 have h0:=ag4 hi
 rw [h0]
 have h1:=h.ob i _ h0
 rw [e] at h1
 injection h1 with h1
 cases hx:L0[i]<;>rw [hx] at h1<;>simp [Ob.ren] at h1
 rw [h1.1,h1.2]
theorem K_.row (h:K_ σ γ0 L0 γ L) {i ver k:Nat} {es:List (List SV)} (hi:i<L0.length) (e:L[nC σ i]?=some (.row ver es k)) : ∃ es0,L0[i]?=some (.row ver es0 k)/\es0.length=es.length:=by
 have h0:=ag4 hi
 have h1:=h.ob i _ h0
 rw [e] at h1
 injection h1 with h1
 cases hx:L0[i]<;>rw [hx] at h1<;>simp [Ob.ren] at h1
 rename_i ver' es' k'
 obtain ⟨a,b,c⟩:=h1
 subst a b c
 exact ⟨es',by rw [h0,hx],by simp⟩
theorem K_.gbox (h:K_ σ γ0 L0 γ L) {i:Nat} {g:Gh} (e:γ0[i]?=some g):γ[nC σ i]?=some g:=by
 rw [h.gh i (by rw [<- h.glen];exact (agV.1 e).1)];exact e
theorem Cap.up (h:K_ σ γ0 L0 γ L) {x:Cap} {v:Value} (hx:x.rep R γ0 v):(x.ren σ).rep R γ v:=by
 cases x with
 | c y=>exact hx
 | ptr id off=>obtain ⟨b,h1,h2⟩:=hx;exact ⟨b,h1,h.gbox h2⟩
theorem SV.up (h:K_ σ γ0 L0 γ L) {x:SV} {v:Value} (hx:x.rep R γ0 L0 v):(x.ren σ).rep R γ L v:=by
 cases x with
 | c y=>exact hx
 | emp=>exact hx
 | own es t =>
  obtain ⟨h1,hlt,h2⟩:=hx
  refine ⟨h1,h.lt hlt,fun n k e=>?_⟩
  rw [h.gh t hlt]
  exact h2 n k (h.spare hlt e)
 | ptr id off=>obtain ⟨b,h1,h2⟩:=hx;exact ⟨b,h1,h.gbox h2⟩
 | sl id ver lo n =>
  obtain ⟨h1,hlt,h2⟩:=hx
  refine ⟨h1,h.lt hlt,fun ver' es k e=>?_⟩
  obtain ⟨es0,g1,g2⟩:=h.row hlt e
  rw [h.gh id hlt, <- g2]
  exact h2 ver' es0 k g1
 | ep id ver i o =>
  obtain ⟨h1,hlt,h2⟩:=hx
  refine ⟨h1,h.lt hlt,fun ver' es k e=>?_⟩
  obtain ⟨es0,g1,g2⟩:=h.row hlt e
  rw [h.gh id hlt, <- g2]
  exact h2 ver' es0 k g1
 | mp id=>obtain ⟨b,h1,h2⟩:=hx;exact ⟨b,h1,h.gbox h2⟩
 | clo f caps =>
  obtain ⟨vs,h1,h2,h3⟩:=hx
  refine ⟨vs,h1,by simpa using h2,fun j u x hu hx=>?_⟩
  rw [ahg] at hx
  cases hq:caps[j]? with
  | none=>simp [hq] at hx
  | some y=>simp [hq] at hx;subst hx;exact Cap.up h (h3 j u y hu hq)
theorem AV.up (h:K_ σ γ0 L0 γ L) {x:AV} {v:Value} (hx:x.rep R γ0 L0 v):(x.ren σ).rep R γ L v:=by
 cases x with
 | one x=>exact SV.up h hx
 | agg xs =>
  obtain ⟨vs,h1,h2,h3⟩:=hx
  refine ⟨vs,h1,by simpa using h2,fun j u x hu hx=>?_⟩
  rw [ahg] at hx
  cases hq:xs[j]? with
  | none=>simp [hq] at hx
  | some y=>simp [hq] at hx;subst hx;exact SV.up h (h3 j u y hu hq)
 | tup ps=>exact hx
 | tupS xs =>
  obtain ⟨vs,h1,h2,h3⟩:=hx
  refine ⟨vs,h1,by simpa using h2,fun j u x hu hx=>?_⟩
  rw [ahg] at hx
  cases hq:xs[j]? with
  | none=>simp [hq] at hx
  | some y=>simp [hq] at hx;subst hx;exact SV.up h (h3 j u y hu hq)
 | undef=>exact hx
theorem qU.up (h:K_ σ γ0 L0 γ L) {x:Ob} {g:Gh} (hx:qU R γ0 L0 w x g):qU R γ L w (x.ren σ) g:=by
 match x,g,hx with
 | .box cs, .box b,⟨⟨vs,E,h1,h2,h3⟩,h4⟩ =>
  refine ⟨⟨vs,E,h1,by simpa using h2,fun j u x hu hx=>?_⟩,h4⟩
  rw [ahg] at hx
  cases hq:cs[j]? with
  | none=>simp [hq] at hx
  | some y=>simp [hq] at hx;subst hx;exact SV.up h (h3 j u y hu hq)
 | .spare n k, .arr b c,h=>exact h
 | .spare n k, .none,h=>exact h
 | .row ver es k, .arr b c,⟨⟨vs,E,h1,h2,h3⟩,h4,h5,h6,h7⟩ =>
  refine ⟨⟨vs,E,h1,h2,fun i e j u x he hu hx=>?_⟩,by simpa using h4,h5,fun e he=>?_,h7⟩
  ·rw [ahg] at he
   cases hq:es[i]? with
   | none=>simp [hq] at he
   | some y =>
    simp [hq] at he;subst he
    rw [ahg] at hx
    cases hq2:y[j]? with
    | none=>simp [hq2] at hx
    | some z=>simp [hq2] at hx;subst hx;exact SV.up h (h3 i y j u z hq hu hq2)
  ·obtain ⟨y,hy,rfl⟩:=aht.1 he
   simpa using h6 y hy
 | .row ver es k, .none,h=>have h:es=[]:=h;subst h;rfl
 | .map kvs, .box b,⟨⟨es,h1,h2,h3⟩,h4⟩ =>
  refine ⟨⟨es,h1,by simpa using h2,fun j e p he hp=>?_⟩,h4⟩
  rw [ahg] at hp
  cases hq:kvs[j]? with
  | none=>simp [hq] at hp
  | some y=>simp [hq] at hp;subst hp;exact ⟨(h3 j e y he hq).1,(h3 j e y he hq).2.1,AV.up h (h3 j e y he hq).2.2⟩
 | .dead, .none,h=>exact h
 | .dead, .box _,h=>exact h
theorem Cap.down (h:K_ σ γ0 L0 γ L) {x:Cap} {v:Value} (hx:(x.ren σ).rep R γ v) (hb:x.below L0.length):x.rep R γ0 v:=by
 cases x with
 | c y=>exact hx
 | ptr id off=>obtain ⟨b,h1,h2⟩:=hx;exact ⟨b,h1,by rw [<- h.gh id hb];exact h2⟩
theorem SV.down (h:K_ σ γ0 L0 γ L) {x:SV} {v:Value} (hx:(x.ren σ).rep R γ L v) (hb:x.below L0.length):x.rep R γ0 L0 v:=by
 cases x with
 | c y=>exact hx
 | emp=>exact hx
 | own es t =>
  obtain ⟨h1,_,h2⟩:=hx
  have hlt:t<L0.length:=hb
  refine ⟨h1,hlt,fun n k e=>?_⟩
  rw [<- h.gh t hlt]
  exact h2 n k (h.ob t _ e)
 | ptr id off=>obtain ⟨b,h1,h2⟩:=hx;exact ⟨b,h1,by rw [<- h.gh id hb];exact h2⟩
 | sl id ver lo n =>
  obtain ⟨h1,_,h2⟩:=hx
  have hlt:id<L0.length:=hb
  refine ⟨h1,hlt,fun ver' es k e=>?_⟩
  have:=h2 ver' _ k (h.ob id _ e)
  rw [<- h.gh id hlt]
  simpa using this
 | ep id ver i o =>
  obtain ⟨h1,_,h2⟩:=hx
  have hlt:id<L0.length:=hb
  refine ⟨h1,hlt,fun ver' es k e=>?_⟩
  have:=h2 ver' _ k (h.ob id _ e)
  rw [<- h.gh id hlt]
  simpa using this
 | mp id=>obtain ⟨b,h1,h2⟩:=hx;exact ⟨b,h1,by rw [<- h.gh id hb];exact h2⟩
 | clo f caps =>
  obtain ⟨vs,h1,h2,h3⟩:=hx
  exact ⟨vs,h1,by simpa using h2,fun j u x hu hx=>Cap.down h (h3 j u _ hu (by rw [ahg,hx];rfl)) (hb x (ag1 hx))⟩
theorem AV.down (h:K_ σ γ0 L0 γ L) {x:AV} {v:Value} (hx:(x.ren σ).rep R γ L v) (hb:x.below L0.length):x.rep R γ0 L0 v:=by
 cases x with
 | one x=>exact SV.down h hx hb
 | agg xs =>
  obtain ⟨vs,h1,h2,h3⟩:=hx
  exact ⟨vs,h1,by simpa using h2,fun j u x hu hx=>SV.down h (h3 j u _ hu (by rw [ahg,hx];rfl)) (hb x (ag1 hx))⟩
 | tup ps=>exact hx
 | tupS xs =>
  obtain ⟨vs,h1,h2,h3⟩:=hx
  exact ⟨vs,h1,by simpa using h2,fun j u x hu hx=>SV.down h (h3 j u _ hu (by rw [ahg,hx];rfl)) (hb x (ag1 hx))⟩
 | undef=>exact hx
theorem qU.down (h:K_ σ γ0 L0 γ L) {x:Ob} {g:Gh} (hx:qU R γ L w (x.ren σ) g) (hb:x.below L0.length):qU R γ0 L0 w x g:=by
 match x,g,hx,hb with
 | .box cs, .box b,⟨⟨vs,E,h1,h2,h3⟩,h4⟩,hb =>
  exact ⟨⟨vs,E,h1,by simpa using h2,fun j u x hu hx=>SV.down h (h3 j u _ hu (by rw [ahg,hx];rfl)) (hb x (ag1 hx))⟩,h4⟩
 | .spare n k, .arr b c,h,_=>exact h
 | .spare n k, .none,h,_=>exact h
 | .row ver es k, .arr b c,⟨⟨vs,E,h1,h2,h3⟩,h4,h5,h6,h7⟩,hb =>
  refine ⟨⟨vs,E,h1,h2,fun i e j u x he hu hx=>?_⟩,by simpa using h4,h5,fun e he=>?_,h7⟩
  ·exact SV.down h (h3 i (e.map (SV.ren σ)) j u _ (by rw [ahg,he];rfl) hu (by rw [ahg,hx];rfl)) (hb e (ag1 he) x (ag1 hx))
  ·simpa using h6 _ (List.mem_map_of_mem he)
 | .row ver es k, .none,h,_=>have h:es.map _=[]:=h;exact List.map_eq_nil_iff.1 h
 | .map kvs, .box b,⟨⟨es,h1,h2,h3⟩,h4⟩,hb =>
  refine ⟨⟨es,h1,by simpa using h2,fun j e p he hp=>?_⟩,h4⟩
  have:=h3 j e _ he (by rw [ahg,hp];rfl)
  exact ⟨this.1,this.2.1,AV.down h this.2.2 (hb p (ag1 hp))⟩
 | .dead, .none,h,_=>exact h
 | .dead, .box _,h,_=>exact h
def Outside (γ0:List Gh) (w:World) (b:Nat):Prop:=b<w.heap.size /\ ∀ (i:Nat) g,γ0[i]?=some g->g.block≠some b
theorem Zj (hi:Inv B R γ L w) (h:K_ σ γ0 L0 γ L) (hinj : ∀ i j,i<L0.length->j<L0.length->nC σ i=nC σ j->i=j) (hb : ∀ x∈L0,x.below L0.length):Inv (Outside γ0 w) R γ0 L0 w:=by
 refine ⟨h.glen,hi.val,fun id x g hx hg=>?_,fun i j gi gj h1 h2 hne b hb=>?_,fun i g b hg hb=>⟨fun ho=>ho.2 i g hg hb,(hi.new _ g b (h.gbox hg) hb).2⟩,fun b hb=>hb.1⟩
 ·exact qU.down h (hi.obj _ _ g (h.ob id x hx) (h.gbox hg)) (hb x (ag1 hx))
 ·have b1:i<L0.length:=by rw [<- h.glen];exact (agV.1 h1).1
  have b2:j<L0.length:=by rw [<- h.glen];exact (agV.1 h2).1
  exact hi.inj _ _ gi gj (h.gbox h1) (h.gbox h2) (fun e=>hne (hinj i j b1 b2 e)) b hb
theorem Yv (hi:Inv B R γ L w) (h:K_ σ γ0 L0 γ L) {R':PH} {w':World} {σ':List Nat} {γ1 γ':List Gh} {L1 L':List Ob} (h1:Inv (Outside γ0 w) R' γ1 L1 w') (he:Ext (Outside γ0 w) R R' w w') (hm:Mv R R' γ0 γ1 L0 L1)
  (h':K_ σ' γ1 L1 γ' L') (hσ : ∀ i,i<L0.length->nC σ' i=nC σ i) (hlen:L.length<=L'.length) (hgl:γ'.length=L'.length)
  (inj' : ∀ i j,i<L1.length->j<L1.length->nC σ' i=nC σ' j->i=j)
  (all : ∀ j,j<L'.length->(∃ i,i<L1.length/\nC σ' i=j)\/(j<L.length/\(∀ i,i<L0.length->nC σ i≠j)/\L'[j]?=L[j]?/\γ'[j]?=γ[j]?))
  (new' : ∀ i,L0.length<=i->i<L1.length->L.length<=nC σ' i) :
  Inv B R' γ' L' w'/\Ext B R R' w w'/\Mv R R' γ γ' L L':=by
 have hBO : ∀ b,B b->Outside γ0 w b:=fun b hb=>⟨hi.bsz b hb,fun i g hg e=>(hi.new _ g b (h.gbox hg) e).1 hb⟩
 have hE:Ext B R R' w w':=⟨he.below.mono hBO,he.sub,fun b o hb=>he.old b o (hBO b hb)⟩
 have oth : ∀ j g b,(∀ i,i<L0.length->nC σ i≠j)->γ[j]?=some g->g.block=some b->Outside γ0 w b:=by
  intro j g b hj hg hb
  refine ⟨(hi.new j g b hg hb).2,fun i g0 hg0 e=>?_⟩
  have b1:i<L0.length:=by rw [<- h.glen];exact (agV.1 hg0).1
  exact hi.inj j _ g g0 hg (h.gbox hg0) (fun e=>hj i b1 e.symm) b hb e
 have hmv:Mv R R' γ γ' L L':=by
  have old : ∀ t,t<L.length->(∃ i,i<L0.length/\nC σ i=t)\/(L'[t]?=L[t]?/\γ'[t]?=γ[t]?):=by
   intro t ht
   rcases all t (ahx ht hlen) with ⟨i,hi1,hi2⟩|⟨_,_,a,b⟩
   ·by_cases hi0:i<L0.length
    ·exact .inl ⟨i,hi0,by rw [<- hσ i hi0];exact hi2⟩
    ·have:=new' i (by omega) hi1;omega
   ·exact .inr ⟨a,b⟩
  refine ⟨he.sub,hlen,fun t n' k ht e=>?_,fun t ver es' k ht e=>?_,fun id b hg=>?_⟩
  ·rcases old t ht with ⟨i,hi0,rfl⟩|⟨a,b⟩
   ·have hi1:i<L1.length:=ahx hi0 hm.len
    rw [<- hσ i hi0] at e
    obtain ⟨n,g1,g2,g3⟩:=hm.tok i n' k hi0 (h'.spare hi1 e)
    exact ⟨n,h.ob i _ g1,g2,fun q=>by rw [h.gh i hi0, <- hσ i hi0,h'.gh i hi1];exact g3 q⟩
   ·exact ⟨n',by rw [<- a];exact e,ag' _,fun _=>b⟩
  ·rcases old t ht with ⟨i,hi0,rfl⟩|⟨a,b⟩
   ·have hi1:i<L1.length:=ahx hi0 hm.len
    rw [<- hσ i hi0] at e
    obtain ⟨es1,q1,q2⟩:=h'.row hi1 e
    obtain ⟨ver0,es,g1,g2,g3⟩:=hm.row i ver es1 k hi0 q1
    exact ⟨ver0,_,h.ob i _ g1,g2,fun q=>⟨by have:=(g3 q).1;simp;omega,by rw [h.gh i hi0, <- hσ i hi0,h'.gh i hi1];exact (g3 q).2⟩⟩
   ·exact ⟨ver,es',by rw [<- a];exact e,ag' _,fun _=>⟨rfl,b⟩⟩
  ·have ht:id<L.length:=by rw [<- hi.len];exact (agV.1 hg).1
   rcases old id ht with ⟨i,hi0,rfl⟩|⟨a,b'⟩
   ·have hi1:i<L1.length:=ahx hi0 hm.len
    rw [<- hσ i hi0,h'.gh i hi1]
    exact hm.ptr i b (by rw [<- h.gh i hi0];exact hg)
   ·rw [b'];exact hg
 have back : ∀ j g,γ'[j]?=some g->(∃ i,i<L1.length/\nC σ' i=j/\γ1[i]?=some g)\/(j<L.length/\(∀ i,i<L0.length->nC σ i≠j)/\L'[j]?=L[j]?/\γ[j]?=some g):=by
  intro j g hg
  have hj:j<L'.length:=by rw [<- hgl];exact (agV.1 hg).1
  rcases all j hj with ⟨i,a,rfl⟩|⟨a,b,c,d⟩
  ·exact .inl ⟨i,a,rfl,by rw [<- h'.gh i a];exact hg⟩
  ·exact .inr ⟨a,b,c,by rw [<- d];exact hg⟩
 refine ⟨⟨hgl,h1.val,fun j x g hx hg=>?_,fun j1 j2 g1 g2 q1 q2 hne b hb=>?_,fun j g b hg hb=>?_,fun b hb=>ahx (hi.bsz b hb) he.below.size⟩,hE,hmv⟩
 ·rcases back j g hg with ⟨i,a,rfl,c⟩|⟨a,b,c,d⟩
  ·have hy:=ag4 a
   rw [h'.ob i _ hy] at hx
   injection hx with hx;subst hx
   exact qU.up h' (h1.obj i _ g hy c)
  ·exact (hi.obj j x g (by rw [<- c];exact hx) d).mv hmv (fun b' hb'=>he.below.block b' (oth j g b' b d hb')) (fun b' o hb' e=>by rw [he.old b' o (oth j g b' b d hb')];exact e)
 ·rcases back j1 g1 q1 with ⟨i1,a1,r1,c1⟩|⟨a1,b1,_,d1⟩<;>rcases back j2 g2 q2 with ⟨i2,a2,r2,c2⟩|⟨a2,b2,_,d2⟩
  ·exact h1.inj i1 i2 g1 g2 c1 c2 (fun e=>hne (by rw [<- r1, <- r2,e])) b hb
  ·intro e;exact (h1.new i1 g1 b c1 hb).1 (oth j2 g2 b b2 d2 e)
  ·intro e;exact (h1.new i2 g2 b c2 e).1 (oth j1 g1 b b1 d1 hb)
  ·exact hi.inj j1 j2 g1 g2 d1 d2 hne b hb
 ·rcases back j g hg with ⟨i,a,_,c⟩|⟨a,b',_,d⟩
  ·exact ⟨fun hB=>(h1.new i g b c hb).1 (hBO b hB),(h1.new i g b c hb).2⟩
  ·have:=hi.new j g b d hb
   exact ⟨this.1,ahx this.2 he.below.size⟩
end
def jV {α:Type} : List α->List Nat->List α->List α
 | l,i::σ,x::xs=>jV (l.set i x) σ xs
 | l,_,_=>l
theorem gU {α:Type} : ∀ (σ:List Nat) (l xs:List α),(jV l σ xs).length=l.length
 | [],l,xs=>by cases xs<;>rfl
 | i::σ,l,[]=>rfl
 | i::σ,l,x::xs=>by rw [jV,gU σ];simp
theorem wF {α:Type} : ∀ (σ:List Nat) (l xs:List α) (j:Nat),(∀ i∈σ,i≠j)->(jV l σ xs)[j]?=l[j]?
 | [],l,xs,j,_=>by cases xs<;>rfl
 | i::σ,l,[],j,_=>rfl
 | i::σ,l,x::xs,j,h=>by
  rw [jV,wF σ _ xs j (fun k hk=>h k (ahh _ hk)),ahd (h i (ahG ..))]
theorem FO {α:Type} : ∀ (σ:List Nat) (l xs:List α) (i s:Nat),σ.Nodup->(∀ k∈σ,k<l.length)->σ[i]?=some s->i<xs.length->(jV l σ xs)[s]?=xs[i]?
 | [],l,xs,i,s,_,_,h,_=>by simp at h
 | k::σ,l,[],i,s,_,_,_,h=>by simp at h
 | k::σ,l,x::xs,i,s,hn,hb,h,hi=>by
  rw [jV]
  have hn':=List.nodup_cons.1 hn
  cases i with
  | zero =>
   simp at h;subst h
   rw [wF σ _ xs k (fun q hq e=>hn'.1 (by rw [<- e];exact hq)),ahc (hb k (ahG ..))]
   rfl
  | succ i =>
   rw [FO σ (l.set k x) xs i s hn'.2 (fun q hq=>by simpa using hb q (ahh _ hq)) (by simpa using h) (by simpa using hi)]
   simp
theorem EL : ∀ {σ:List Nat} {i j s:Nat}, σ.Nodup->σ[i]?=some s->σ[j]?=some s->i=j
 | [],i,j,s,_,h,_=>by simp at h
 | k::σ,0,0,s,_,_,_=>rfl
 | k::σ,0,j+1,s,hn,h1,h2=>by
  simp at h1 h2;subst h1
  exact absurd (ag1 h2) (List.nodup_cons.1 hn).1
 | k::σ,i+1,0,s,hn,h1,h2=>by
  simp at h1 h2;subst h2
  exact absurd (ag1 h1) (List.nodup_cons.1 hn).1
 | k::σ,i+1,j+1,s,hn,h1,h2=>by
  have h3:σ[i]?=some s:=by simpa using h1
  have h4:σ[j]?=some s:=by simpa using h2
  have:=EL (List.nodup_cons.1 hn).2 h3 h4
  omega
def mE (n m:Nat):List Nat:=(List.range m).map (n + ·)
def dR (σ:List Nat) (n m:Nat):List Nat:=σ++mE n (m-σ.length)
def join {α:Type} (σ:List Nat) (l xs:List α):List α:=jV l σ xs++xs.drop σ.length
def joinL (σ:List Nat) (L L1:List Ob):List Ob:=join σ L (L1.map (Ob.ren (dR σ L.length L1.length)))
theorem xC {σ:List Nat} {n m i:Nat} (hi:i<σ.length):nC (dR σ n m) i=nC σ i:=by
 unfold nC dR
 rw [ahL,ahL,ag9 hi]
theorem pI {σ:List Nat} {i:Nat} (hi:i<σ.length):σ[i]?=some (nC σ i):=by
 unfold nC
 rw [ahL,ag4 hi];rfl
theorem xD {σ:List Nat} {n m i:Nat} (hi:σ.length<=i) (hm:i<m):nC (dR σ n m) i=n+(i-σ.length):=by
 unfold nC dR mE
 rw [ahL,ag2 hi,ahg,List.getElem?_range (by omega)];rfl
theorem VW {α:Type} {σ:List Nat} {l xs:List α} {n i:Nat} (hl:l.length=n) (hn:σ.Nodup) (hb : ∀ k∈σ,k<l.length) (hi:i<xs.length):(join σ l xs)[nC (dR σ n xs.length) i]?=xs[i]?:=by
 unfold join
 by_cases h:i<σ.length
 ·rw [xC h,ag9 (by rw [gU];exact hb _ (ag1 (pI h)))]
  exact FO σ l xs i _ hn hb (pI h) hi
 ·rw [xD (by omega) hi,ag2 (by rw [gU];omega),gU,ahF]
  congr 1;omega
theorem join_length {α:Type} (σ:List Nat) (l xs:List α):(join σ l xs).length=l.length+(xs.length-σ.length):=by
 unfold join;rw [ag3,gU,List.length_drop]
theorem IC {α:Type} {σ:List Nat} {l xs:List α} {j:Nat} (hj:j<l.length) (h : ∀ i∈σ,i≠j):(join σ l xs)[j]?=l[j]?:=by
 unfold join
 rw [ag9 (by rw [gU];exact hj)]
 exact wF σ l xs j h
section
variable {P:Program} {B:Nat->Prop} {R:PH} {γ:List Gh} {L0 L:List Ob} {w:World} {σ:List Nat}
def UQ (σ:List Nat) (γ:List Gh):List Gh:=σ.map fun i=>γ.getD i .none
theorem aaM (hi:Inv B R γ L w) (hlen:σ.length=L0.length) (hob : ∀ (i:Nat) x,L0[i]?=some x->L[nC σ i]?=some (x.ren σ)):K_ σ (UQ σ γ) L0 γ L:=by
 refine ⟨by simp [UQ,hlen],fun i h=>?_,hob⟩
 have hlt:nC σ i<γ.length:=by rw [hi.len];exact (agV.1 (hob i _ (ag4 h))).1
 unfold UQ
 rw [ahg,pI (by omega)]
 simp only [Option.map_some]
 rw [ahL,ag4 hlt];rfl
theorem Ud (hi:Inv B R γ L w) (hlen:σ.length=L0.length) (hnd:σ.Nodup) (hob : ∀ (i:Nat) x,L0[i]?=some x->L[nC σ i]?=some (x.ren σ)) {R':PH} {w':World} {γ1:List Gh} {L1:List Ob} (h1:Inv (Outside (UQ σ γ) w) R' γ1 L1 w') (he:Ext (Outside (UQ σ γ) w) R R' w w') (hm:Mv R R' (UQ σ γ) γ1 L0 L1) :
  Inv B R' (join σ γ γ1) (joinL σ L L1) w'/\Ext B R R' w w'/\Mv R R' γ (join σ γ γ1) L (joinL σ L L1)/\K_ (dR σ L.length L1.length) γ1 L1 (join σ γ γ1) (joinL σ L L1):=by
 have hemb:=aaM hi hlen hob
 have hbl : ∀ k∈σ,k<L.length:=by
  intro k hk
  obtain ⟨i,hi',rfl⟩:=List.getElem_of_mem hk
  have:nC σ i=σ[i]:=by have:=pI (σ:=σ) hi';rw [ag4 hi'] at this;injection this with this;exact this.symm
  rw [<- this];exact hemb.lt (by omega)
 have hbg : ∀ k∈σ,k<γ.length:=fun k hk=>by rw [hi.len];exact hbl k hk
 have hle:L0.length<=L1.length:=hm.len
 have e1:K_ (dR σ L.length L1.length) γ1 L1 (join σ γ γ1) (joinL σ L L1):=by
  refine ⟨h1.len,fun i h=>?_,fun i x hx=>?_⟩
  ·have:=VW (σ:=σ) (l:=γ) (xs:=γ1) (n:=L.length) (i:=i) hi.len hnd hbg (by rw [h1.len];exact h)
   rw [h1.len] at this;exact this
  ·have hlt:=(agV.1 hx).1
   have:=VW (σ:=σ) (l:=L) (xs:=L1.map (Ob.ren (dR σ L.length L1.length))) (n:=L.length) (i:=i) rfl hnd hbl (by simpa using hlt)
   rw [ag7] at this
   unfold joinL
   rw [this,ahg,hx];rfl
 have hL':(joinL σ L L1).length=L.length+(L1.length-σ.length):=by unfold joinL;rw [join_length,ag7]
 have hinj : ∀ i j,i<L1.length->j<L1.length->nC (dR σ L.length L1.length) i=nC (dR σ L.length L1.length) j->i=j:=by
  intro i j hi1 hj1 e
  by_cases a:i<σ.length<;>by_cases b:j<σ.length
  ·rw [xC a,xC b] at e
   have h1:=pI a
   have h2:=pI b
   rw [<- e] at h2
   exact EL hnd h1 h2
  ·rw [xC a,xD (by omega) hj1] at e
   have:=hbl _ (ag1 (pI a));omega
  ·rw [xC b,xD (by omega) hi1] at e
   have:=hbl _ (ag1 (pI b));omega
  ·rw [xD (by omega) hi1,xD (by omega) hj1] at e;omega
 have hall : ∀ j,j<(joinL σ L L1).length->(∃ i,i<L1.length/\nC (dR σ L.length L1.length) i=j)\/(j<L.length/\(∀ i,i<L0.length->nC σ i≠j)/\(joinL σ L L1)[j]?=L[j]?/\(join σ γ γ1)[j]?=γ[j]?):=by
  intro j hj
  rw [hL'] at hj
  by_cases hjL:j<L.length
  ·by_cases hjs:j∈σ
   ·obtain ⟨i,hi',hq⟩:=List.getElem_of_mem hjs
    refine .inl ⟨i,by omega,?_⟩
    rw [xC hi']
    have:=pI (σ:=σ) hi';rw [ag4 hi'] at this;injection this with this;rw [<- this];exact hq
   ·have hne : ∀ i∈σ,i≠j:=fun i hi' e=>hjs (by rw [<- e];exact hi')
    refine .inr ⟨hjL,fun i hi0 e=>hjs (by rw [<- e];exact ag1 (pI (by omega))),IC hjL hne,IC (by rw [hi.len];exact hjL) hne⟩
  ·exact .inl ⟨σ.length+(j-L.length),by omega,by rw [xD (by omega) (by omega)];omega⟩
 obtain ⟨a,b,c⟩:=Yv hi hemb h1 he hm e1 (fun i hi0=>xC (by omega)) (by rw [hL'];omega) (by rw [join_length,hL',hi.len,h1.len]) hinj hall (fun i hi0 hi1=>by rw [xD (by omega) hi1];omega)
 exact ⟨a,b,c,e1⟩
end
def Pure (P:Program) (f:FuncId) (args:List PV) (r:CV):Prop :=
 (∃ fn, P.funcs[f]? = some fn /\ fn.body.isSome = true /\ (fn.name == "runtime.NumGoroutine") = false) /\
 ∀ (R:PH) (w:World) (vs:Array Value),(∀ b o u,R b o=some u->w.cell? ⟨b,o,none⟩=some u)->vs.size=args.length->(∀ (j:Nat) v p,vs[j]?=some v->args[j]?=some p->p.rep R v) ->
  Calls P f vs w fun e w' => ∃ v R',e = .returned v/\Ext (· < w.heap.size) R R' w w'/\(∀ b o u,R' b o=some u->w'.cell? ⟨b,o,none⟩=some u)/\r.rep R' v
def Ul (R:PH) (w:World) (es:List (List AC)) (k:Nat) (v:Value):Gh->Prop
 | .none=>es=[] /\ ∃ a,v = .slice a 0 0
 | .arr b c=>v = .slice (some ⟨b,0,none⟩) es.length c/\(∃ vs E,w.heap[b]?=some (.cells vs E (0,0))/\vs.size=c*k)/\es.length<=c/\0<k /\ ∀ o,es.length*k<=o->R b o=none
 | .box _=>False
def QC (P:Program) (f:FuncId) (es:List (List AC)) (k:Nat) (args:List PV) (es':List (List AC)):Prop :=
 (∃ fn, P.funcs[f]? = some fn /\ fn.body.isSome = true /\ (fn.name == "runtime.NumGoroutine") = false) /\
 ∀ (R:PH) (w:World) (v:Value) (vs:Array Value) (g:Gh),(∀ b o u,R b o=some u->w.cell? ⟨b,o,none⟩=some u)->bP R v (.lst es)->(∀ e∈es,e.length=k)->Ul R w es k v g->vs.size=args.length->(∀ (j:Nat) v p,vs[j]?=some v->args[j]?=some p->p.rep R v) ->
  Calls P f (#[v]++vs) w fun e w' => ∃ v' R' g',e = .returned v'/\Ext (fun b=>b<w.heap.size/\g.block≠some b) R R' w w'/\(∀ b o u,R' b o=some u->w'.cell? ⟨b,o,none⟩=some u) /\
   bP R' v' (.lst es')/\(∀ e∈es',e.length=k)/\Ul R' w' es' k v' g' /\ ∀ b,g'.block=some b->w.heap.size<=b\/g.block=some b
def Run (P:Program) (f:FuncId) (L0:List Ob) (args:List AV) (L1:List Ob) (r:AV):Prop :=
 (∃ fn, P.funcs[f]? = some fn /\ fn.body.isSome = true /\ (fn.name == "runtime.NumGoroutine") = false) /\
 ∀ (B:Nat->Prop) (R:PH) (γ:List Gh) (w:World) (vs:Array Value),Inv B R γ L0 w->vs.size=args.length->(∀ (j:Nat) v p,vs[j]?=some v->args[j]?=some p->p.rep R γ L0 v) ->
  Calls P f vs w fun e w' => ∃ v R' γ',e = .returned v/\Inv B R' γ' L1 w'/\Ext B R R' w w'/\Mv R R' γ γ' L0 L1/\r.rep R' γ' L1 v
structure nX (σ:List Nat) (L0:List Ob) (args:List AV) (L:List Ob):Prop where
 len:σ.length=L0.length
 nd:σ.Nodup
 ob : ∀ (i:Nat) x,L0[i]?=some x->L[nC σ i]?=some (x.ren σ)
 obb : ∀ x∈L0,x.below L0.length
 argb : ∀ x∈args,x.below L0.length
def YK (ρ:Operand->Option AV):List Operand->Option (List AV)
 | []=>some []
 | x::xs=>match ρ x,YK ρ xs with
  | some v,some vs=>some (v::vs)
  | _,_=>none
def Cap.av:Cap->AV
 | .c x => .one (.c x)
 | .ptr id off => .one (.ptr id off)
def Vu (ti:TI):Operand->Bool
 | .func f=>ti.owns f
 | .tmp _=>ti.dyn
 | _=>false
def fJ (ti:TI) (ρ:Operand->Option AV):Op->Option (FuncId × List AV)
 | .call { callee := .value f,args, .. } => match Vu ti f,ρ f,YK ρ args.toList with
  | true,some (.one (.c (.fn g cs))),some vs=>some (g,vs++cs.map fun x => .one (.c x))
  | true,some (.one (.clo g caps)),some vs=>some (g,vs++caps.map Cap.av)
  | _,_,_=>none
 | _=>none
def Et (T:Tm):Option Tmp->AV->Tm
 | some d,v=>(d,v)::T
 | none,_=>T
def dOK (N:Nat):Option Tmp->Prop
 | some d=>d<N
 | none=>True
def gL (ρ:Operand->Option AV):List Operand->Option (List PV)
 | []=>some []
 | x::xs=>match (ρ x).bind AV.norm,gL ρ xs with
  | some p,some ps=>some (p::ps)
  | _,_=>none
def AQ (ti:TI) (ρ:Operand->Option AV):Op->Option (AV × Prop)
 | .buildSlice t len parts=>Fj ti ρ t len parts.toList
 | _=>none
def xA (ρ:Operand->Option AV):Op->Option (FuncId × List PV)
 | .call { callee := .value f,args, .. } => match ρ f with
  | some (.one (.c (.fn g cs)))=>(gL ρ args.toList).map fun ps=>(g,ps++cs.map .one)
  | _=>none
 | _=>none
def iQ (ti:TI) (ρ:Operand->Option AV):Op->Option (FuncId × List (List AC) × Option Nat × List PV)
 | .call { callee := .value (.func f),args, .. } => match ti.owns f,args.toList with
  | true,x::xs=>match ρ x,gL ρ xs with
   | some (.one (.own es t)),some ps=>some (f,es,some t,ps)
   | some (.one .emp),some ps=>some (f,[],none,ps)
   | _,_=>none
  | _,_=>none
 | _=>none
def cK (ti:TI):Op->Bool
 | .alloc _=>true
 | .box _ _=>true
 | .store _ _ _=>true
 | .call { callee := .builtin b, .. } => match b with
  | .append=>true
  | .unsafeString=>true
  | .unsafeSliceData=>true
  | .copy=>true
  | .clear=>true
  | .delete=>true
  | _=>false
 | .call { callee := .value f, .. } => Vu ti f
 | .makeSlice _ _ _=>true
 | .makeMap _ _=>true
 | .lookup _ _ _ _=>ti.dyn
 | .buildSlice _ _ _=>ti.dyn
 | .makeFunc _ _ _=>ti.dyn
 | .mapUpdate _ _ _ _=>true
 | .mapEntry _ _ _=>true
 | .entryStore _ _ _ _=>true
 | .insert _ _ _ _=>true
 | .binOp _ t _ _ _=>match ti.kind t with
  | some (.pointer _)=>true
  | some (.map _ _)=>true
  | some (.func _ _ _)=>true
  | some (.slice _)=>true
  | _=>false
 | .convert s d _=>match ti.kind d,ti.kind s with
  | some .unsafePointer,_=>true
  | _,some .unsafePointer=>true
  | _,_=>false
 | _=>false
def sk:Op->Nat
 | .alloc _=>1
 | .box _ _=>1
 | .call { callee := .builtin .append, .. } => 2
 | .store _ _ _=>3
 | .call { callee := .builtin .unsafeSliceData, .. } => 4
 | .lookup _ _ _ _=>4
 | .makeFunc _ _ _=>4
 | .binOp _ _ _ _ _=>4
 | .convert _ _ _=>4
 | _=>0
def xQ (P:Program) (ρ:Operand->Option AV) (L:List Ob) (op:Op) (v:AV) (L':List Ob):Prop :=
 ∀ (B:Nat->Prop) (R:PH) (γ:List Gh) (w:World) (ev:Operand->Value) (o:Oper),o.op=op->Inv B R γ L w->(∀ x,x∈op.operands -> ∀ v,ρ x=some v->v.rep R γ L (ev x))->((∀ f,ev (.func f) = .func (.func f) #[] #[]) /\ ∀ v,ev (.const v)=v)->aaX P B R γ L L' w (execOp ev o) v
def nM (P:Program) (ti:TI) (ρ:Operand->Option AV) (L:List Ob) (K:AV->List Ob->Prop) (op:Op):Prop :=
 (∃ v φ,pop ti ρ L op=some (v,φ)/\φ/\K v L)\/(∃ v φ,AQ ti ρ op=some (v,φ)/\φ/\K v L) \/
 (∃ v L' φ,He ti ρ L op=some (v,L',φ)/\φ/\K v L')\/(∃ g ps r,xA ρ op=some (g,ps)/\Pure P g ps r/\K r.av L) \/
 (∃ g es t k ps es' , iQ ti ρ op=some (g,es,some t,ps)/\L[t]?=some (.spare es.length k)/\QC P g es k ps es'/\K (.one (.own es' L.length)) (L.set t .dead++[.spare es'.length k])) \/
 (∃ g k ps es' , iQ ti ρ op=some (g,[],none,ps)/\QC P g [] k ps es'/\K (.one (.own es' L.length)) (L++[.spare es'.length k])) \/
 (∃ σ g L0 args L1 r,fJ ti ρ op=some (g,args.map (AV.ren σ))/\nX σ L0 args L/\Run P g L0 args L1 r/\K (r.ren (dR σ L.length L1.length)) (joinL σ L L1)) \/
 (∃ v L',(cK ti op=true/\(ti.soft=true->sk op=0\/(sk op=4/\L'=L)))/\xQ P ρ L op v L'/\K v L')
def gd (ds:List (Option Tmp)) (T:Tm) (A B:Prop):Option (Nat × Bool)->Prop
 | none=>A
 | some (j,want)=>match ds[j]? with
  | some (some d)=>match T.lookup d with
   | some (.one (.c (.bool b)))=>(b=want->A)/\(b=(!want)->B)
   | some .undef=>B
   | _=>False
  | _=>False
def aQ (P:Program) (ti:TI) (N:Nat) (ds:List (Option Tmp)) (K:Tm->List Ob->Prop):List Oper->Tm->List Ob->Prop
 | [],T,L=>K T L
 | o::rest,T,L=>dOK N o.dst/\gd ds T (nM P ti (look T) L (fun v L'=>aQ P ti N ds K rest (Et T o.dst v) L') o.op) (aQ P ti N ds K rest (Et T o.dst .undef) L) o.guard
section
variable {P:Program} {ti:TI} {B:Nat->Prop} {N:Nat} {R:PH} {γ:List Gh} {L:List Ob} {w:World}
theorem Inv.tok (hi:Inv B R γ L w) (k:Nat):Inv B R (γ++[.none]) (L++[.spare 0 k]) w:=by
 have gcase : ∀ j h,(γ++[Gh.none])[j]?=some h->(j=γ.length/\h = .none)\/(j<γ.length/\γ[j]?=some h):=by
  intro j h hh
  by_cases hid:j<γ.length
  ·rw [ag9 hid] at hh;exact .inr ⟨hid,hh⟩
  ·have:j=γ.length:=by have:=(agV.1 hh).1;simp at this;omega
   subst this
   rw [ag2 (by omega)] at hh
   simp at hh
   exact .inl ⟨rfl,hh.symm⟩
 refine ⟨by simp [hi.len],hi.val,fun id y h hy hh=>?_,fun j1 j2 g1 g2 h1 h2 hne b hb=>?_,fun j h b hh hb=>?_,hi.bsz⟩
 ·rcases gcase id h hh with ⟨rfl,rfl⟩|⟨hlt,hh'⟩
  ·rw [ag2 (by rw [hi.len];omega),hi.len] at hy
   simp at hy;subst hy;rfl
  ·rw [ag9 (by rw [<- hi.len];exact hlt)] at hy
   exact (hi.obj id y h hy hh').mv (Mv.push _ _ hi.len) (fun _ _=>rfl) (fun _ _ _ h=>h)
 ·rcases gcase j1 g1 h1 with ⟨_,rfl⟩|⟨_,a2⟩
  ·cases hb
  ·rcases gcase j2 g2 h2 with ⟨_,rfl⟩|⟨_,b2⟩
   ·intro e;cases e
   ·exact hi.inj j1 j2 g1 g2 a2 b2 hne b hb
 ·rcases gcase j h hh with ⟨_,rfl⟩|⟨_,a2⟩
  ·cases hb
  ·exact hi.new j h b a2 hb
theorem NY (hti:TIok P ti) (hi:Inv B R γ L w) {t tx ty:TypeId} {s x:AV} {us ux:Value} (hs:s.rep R γ L us) (hx:x.rep R γ L ux) {v:AV} {L':List Ob} {φ:Prop} (h:Bw ti L t tx s x=some (v,L',φ)) (hφ:φ) :
  ∃ u w' R' γ',(Builtin.append_ #[t,tx] ty #[us,ux]).run P w = .ok u w'/\Inv B R' γ' L' w'/\Ext B R R' w w'/\Mv R R' γ γ' L L'/\v.rep R' γ' L' u:=by
 unfold Bw at h
 split at h
 ·rename_i xs E hxs hE
  have hpx:=ny hx hxs
  have hE:=hti.elem _ _ hE
  have ht:P.underlying t=some (.slice E):=by
   unfold ui at hE
   split at hE
   ·rename_i e he;injection hE with hE;subst hE;exact he
   ·cases hE
  have htx:(ti.elem tx).isSome -> ∃ E',P.underlying tx=some (.slice E'):=by
   intro h
   obtain ⟨e,he⟩:=ahA.1 h
   have h:=hti.elem _ _ he
   unfold ui at h
   split at h
   ·rename_i e he;exact ⟨e,he⟩
   ·cases h
  split at h
  ·rename_i k by_ hk hb
   have hk:=hti.size _ _ hk
   have hb:=hti.bytes _ _ hb
   split at h
   ·injection h with h;injection h with e1 e2;injection e2 with e2 e3;subst e1 e2 e3
    obtain ⟨h1,h2,h3,h4,h5,h6⟩:=hφ
    obtain ⟨E',hE'⟩:=htx h1
    obtain ⟨a,rfl⟩:=hs
    have hi1:=hi.tok k
    have hm1:Mv R R γ (γ++[.none]) L (L++[.spare 0 k]):=Mv.push _ _ hi.len
    have hL1:(L++[Ob.spare 0 k])[L.length]?=some (.spare 0 k):=by simp
    have hv1:(SV.own [] L.length).rep R (γ++[.none]) (L++[.spare 0 k]) (.slice a 0 0) :=
     ⟨gp _ _ _,by simp,fun n2 k2 _=>⟨by simp,by simp,fun _=>⟨.none,by rw [<- hi.len];simp,a,by simp⟩⟩⟩
    obtain ⟨u,w',R',γ',a1,a2,a3,a4,a5⟩:=U5 (P:=P) (ty:=ty) hi1 ht hE' h2 (hti.zok _ h3 _ hk) hb hL1 hv1 rfl hpx h4 (by simpa using h5) (by simpa using h6)
    have hset:(L++[Ob.spare 0 k]).set L.length (.spare (0+xs.length) k)=L++[.spare xs.length k]:=by simp
    rw [hset] at a2 a4 a5
    exact ⟨u,w',R',γ',a1,a2,a3,hm1.trans a4,by rw [ag0] at a5;exact a5⟩
   ·rename_i es i
    split at h
    ·rename_i n k' hL
     injection h with h;injection h with e1 e2;injection e2 with e2 e3;subst e1 e2 e3
     obtain ⟨h1,h2,h3,h4,h5,h6,h7⟩:=hφ
     obtain ⟨E',hE'⟩:=htx h1
     subst h2
     obtain ⟨u,w',R',γ',a1,a2,a3,a4,a5⟩:=U5 (P:=P) (ty:=ty) hi ht hE' h4.2 (hti.zok _ h4.1 _ hk) hb hL hs h3 hpx h5 h6 h7
     exact ⟨u,w',R',γ',a1,a2,a3,a4,a5⟩
    ·cases h
   ·cases h
  ·cases h
 ·cases h
theorem Inv.later (hi:Inv B R γ L w) {R':PH} {w':World} (he:Ext (· < w.heap.size) R R' w w') (hv : ∀ b o u,R' b o=some u->w'.cell? ⟨b,o,none⟩=some u):Inv B R' γ L w'/\Ext B R R' w w':=by
 refine ⟨⟨hi.len,hv,fun id x g hx hg=>?_,hi.inj,fun i g b hg hb=>?_,fun b hb=>ahx (hi.bsz b hb) he.below.size⟩,he.below.mono hi.bsz,he.sub,fun b o hb=>he.old b o (hi.bsz b hb)⟩
 ·refine (hi.obj id x g hx hg).mv (Mv.of_sub he.sub) (fun b hb=>he.below.block b (hi.new id g b hg hb).2) (fun b o hb e=>?_)
  rw [he.old b o (hi.new id g b hg hb).2];exact e
 ·have h1:=hi.new i g b hg hb
  have:=he.below.size
  exact ⟨h1.1,by omega⟩
theorem pR {ρ:Operand->Option AV} {a:Act} (hρ : ∀ x v,ρ x=some v->v.rep R γ L (a.eval x)) : ∀ {xs:List Operand} {ps:List PV}, gL ρ xs=some ps ->
  xs.length=ps.length /\ ∀ (j:Nat) x p,xs[j]?=some x->ps[j]?=some p->p.rep R (a.eval x)
 | [],ps,h=>by injection h with h;subst h;exact ⟨rfl,fun j x p hx=>by simp at hx⟩
 | x::xs,ps,h=>by
  unfold gL at h
  split at h
  ·rename_i p ps' hp hps
   injection h with h;subst h
   obtain ⟨g1,g2⟩:=pR hρ hps
   refine ⟨by simp [g1],fun j y q hy hq=>?_⟩
   cases j with
   | zero =>
    simp at hy hq;subst hy hq
    cases hx:ρ x with
    | none=>simp [hx] at hp
    | some vx=>simp only [hx,agU] at hp;exact AV.norm_rep (hρ _ _ hx) hp
   | succ j=>exact g2 j y q (by simpa using hy) (by simpa using hq)
  ·cases h
theorem P_ (hti:TIok P ti) (hi:Inv B R γ L w) {a:Act} {ρ:Operand->Option AV} (hρ : ∀ x v,ρ x=some v->v.rep R γ L (a.eval x)) {o:Oper} {v:AV} {φ:Prop} (h:AQ ti ρ o.op=some (v,φ)) (hφ:φ):zm P B R γ L w (execOp a.eval o) v:=by
 obtain ⟨dst,op,type,pos,after,guard⟩:=o
 simp only at h
 unfold AQ at h
 split at h
 ·rename_i t len parts
  obtain ⟨u,w',R',h1,h2,h3,h4⟩:=Oc hti hi hρ h hφ
  refine ⟨u,w',R',?_,h2,h3,h4⟩
  simp only [execOp,Sem.run_bind]
  rw [h1];rfl
 ·cases h
theorem WA (hti:TIok P ti) (hi:Inv B R γ L w) {a:Act} {ρ:Operand->Option AV} (hρ : ∀ x v,ρ x=some v->v.rep R γ L (a.eval x)) {o:Oper} {v:AV} {L':List Ob} {φ:Prop} (h:He ti ρ L o.op=some (v,L',φ)) (hφ:φ):aaX P B R γ L L' w (execOp a.eval o) v:=by
 have viaBox : ∀ {xs:List SV} {vs:Array Value} (E:TypeId),LQ R γ L xs vs->(execOp a.eval o).run P w = .ok (.value (.pointer (some ⟨w.heap.size,0,none⟩))) (w.alloc (.cells vs E))->aaX P B R γ L (L++[.box xs]) w (execOp a.eval o) (.one (.ptr L.length 0)):=by
  intro xs vs E hc hr
  obtain ⟨h1,h2⟩:=Xm hi E hc
  exact ⟨_,R,_, .inl ⟨_,hr,h2⟩,h1,⟨Kept.alloc hi.bsz _,PH.sub_refl _,fun _ _ _=>rfl⟩,Mv.push _ _ hi.len⟩
 obtain ⟨dst,op,type,pos,after,guard⟩:=o
 simp only at h viaBox
 unfold He at h
 split at h
 ·rename_i E
  split at h
  ·rename_i zs hz
   injection h with h;injection h with e1 e2;injection e2 with e2 e3;subst e1 e2
   cases hz0:ti.zero E with
   | none=>simp [hz0] at hz
   | some za0 =>
    simp only [hz0,agU] at hz
    have hzz0:=hti.zero _ _ hz0
    unfold zeroOf at hzz0
    cases hinf:P.info? E with
    | none=>simp [hinf] at hzz0
    | some inf =>
     simp only [hinf,agU] at hzz0
     cases hzz:inf.zero with
     | none=>simp [hzz] at hzz0
     | some z =>
      simp only [hzz,agU] at hzz0
      refine viaBox E (cells_rep (AV.ofVal_rep hzz0) hz) ?_
      simp [execOp,Instr.alloc,zeroValue,typeInfo,program,Sem.run,hinf,hzz,newVar,newRow]
  ·cases h
 ·rename_i E x
  split at h
  ·rename_i xs hx
   injection h with h;injection h with e1 e2;injection e2 with e2 e3;subst e1 e2
   cases hrx:ρ x with
   | none=>simp [hrx] at hx
   | some vx =>
    simp only [hrx,agU] at hx
    refine viaBox E (cells_rep (hρ _ _ hrx) hx) ?_
    simp [execOp,Instr.box,newVar,newRow]
  ·cases h
 ·rename_i t p x
  split at h
  ·rename_i id off xs hrp hx
   split at h
   ·rename_i cs hL
    injection h with h;injection h with e1 e2;injection e2 with e2 e3;subst e1 e2 e3
    obtain ⟨b,hpv,hg⟩:=hρ _ _ hrp
    cases hrx:ρ x with
    | none=>simp [hrx] at hx
    | some vx =>
     simp only [hrx,agU] at hx
     have hc:=cells_rep (hρ _ _ hrx) hx
     have h1 : ∀ c∈(a.eval x).cells,c.oneCell'=true:=by
      intro c hc'
      obtain ⟨j,hj⟩:=Array.mem_iff_getElem?.1 hc'
      have hlt:j<xs.length:=by rw [<- hc.1];exact (ahD.1 hj).1
      exact (SV.rep_one (hc.2 j c _ hj (ag4 hlt))).2
     obtain ⟨w',g1,g2,g3,g4⟩:=QO (P:=P) (t:=t) hi hL hg hc h1 hφ.1 (hti.size _ _ hφ.2)
     have hr:(execOp a.eval { dst,op := .store t p x,type,pos,after,guard }).run P w = .ok .skip w':=by
      simp only [execOp,Sem.run_bind,hpv]
      rw [g1];rfl
     exact ⟨w',R,γ, .inr ⟨hr,rfl⟩,g2,g3,g4⟩
   ·cases h
  ·rename_i id ver i o xs hrp hx
   split at h
   ·rename_i ver' es k hL
    split at h
    case h_2=>cases h
    rename_i e he
    injection h with h;injection h with e1 e2;injection e2 with e2 e3;subst e1 e2 e3
    obtain ⟨hve,hle,hts⟩:=hφ
    subst hve
    have hpv:=hρ _ _ hrp
    cases hrx:ρ x with
    | none=>simp [hrx] at hx
    | some vx =>
     simp only [hrx,agU] at hx
     have hc:=cells_rep (hρ _ _ hrx) hx
     have h1 : ∀ c∈(a.eval x).cells,c.oneCell'=true:=by
      intro c hc'
      obtain ⟨j,hj⟩:=Array.mem_iff_getElem?.1 hc'
      have hlt:j<xs.length:=by rw [<- hc.1];exact (ahD.1 hj).1
      exact (SV.rep_one (hc.2 j c _ hj (ag4 hlt))).2
     obtain ⟨w',g1,g2,g3,g4⟩:=JX (P:=P) (t:=t) hi hL hpv he hc h1 hle (hti.size _ _ hts)
     have hr:(execOp a.eval { dst,op := .store t p x,type,pos,after,guard }).run P w = .ok .skip w':=by
      simp only [execOp,Sem.run_bind]
      rw [g1];rfl
     exact ⟨w',R,γ, .inr ⟨hr,rfl⟩,g2,g3,g4⟩
   ·cases h
  ·cases h
 ·rename_i args argTypes
  split at h
  ·rename_i s x t tx ha ht
   split at h
   ·rename_i vs vx hs hx
    obtain ⟨u,w',R',γ',g1,g2,g3,g4,g5⟩:=NY (P:=P) (ty:=type) hti hi (hρ _ _ hs) (hρ _ _ hx) h hφ
    have e1:args = #[s,x]:=by cases args;simp_all
    have e2:argTypes = #[t,tx]:=by cases argTypes;simp_all
    subst e1 e2
    refine ⟨w',R',γ', .inl ⟨u,?_,g5⟩,g2,g3,g4⟩
    simp [execOp,resolve,invoke,builtin,g1]
   ·cases h
  ·cases h
 ·cases h
theorem LM {ρ:Operand->Option AV} {op:Op} {f:FuncId} {es:List (List AC)} {t:Nat} {ps:List PV} (h:iQ ti ρ op=some (f,es,some t,ps)) :
  ∃ args ts x xs,op = .call { callee := .value (.func f),args,argTypes:=ts } /\ args.toList=x::xs/\ρ x=some (.one (.own es t))/\gL ρ xs=some ps:=by
 unfold iQ at h
 split at h
 ·rename_i f' args ts
  split at h
  ·rename_i x xs ho hxs
   split at h
   ·rename_i es' t' ps' hx hps
    injection h with h;injection h with e1 e2;injection e2 with e2 e3;injection e3 with e3 e4;injection e3 with e3
    subst e1 e2 e3 e4
    exact ⟨args,ts,x,xs,rfl,hxs,hx,hps⟩
   ·rename_i ps' hx hps
    injection h with h;injection h with e1 e2;injection e2 with e2 e3;injection e3 with e3 e4;cases e3
   ·cases h
  ·cases h
 ·cases h
theorem KN {ρ:Operand->Option AV} {op:Op} {f:FuncId} {ps:List PV} (h:iQ ti ρ op=some (f,[],none,ps)) :
  ∃ args ts x xs,op = .call { callee := .value (.func f),args,argTypes:=ts } /\ args.toList=x::xs/\ρ x=some (.one .emp)/\gL ρ xs=some ps:=by
 unfold iQ at h
 split at h
 ·rename_i f' args ts
  split at h
  ·rename_i x xs ho hxs
   split at h
   ·rename_i es' t' ps' hx hps
    injection h with h;injection h with e1 e2;injection e2 with e2 e3;injection e3 with e3 e4;cases e3
   ·rename_i ps' hx hps
    injection h with h;injection h with e1 e2;injection e2 with e2 e3;injection e3 with e3 e4
    subst e1 e4
    exact ⟨args,ts,x,xs,rfl,hxs,hx,hps⟩
   ·cases h
  ·cases h
 ·cases h
theorem NI {f : FuncId} {fn : Func} {a : Act} {dst : Option Tmp} {type : TypeId} {pos : String} {after : Array Edge} {guard : Option (Nat × Bool)} {args : Array Operand} {argTypes : Array TypeId} (hfn : P.funcs[f]? = some fn) (hbody : fn.body.isSome = true) (hname : (fn.name == "runtime.NumGoroutine") = false) :
  (execOp a.eval { dst,op := .call { callee := .value (.func f),args,argTypes }, type,pos,after,guard }).run P w = .ok (.enter f (args.map a.eval)) w:=by
 have hb:fn.body.isNone=false:=by cases hbb:fn.body<;>simp_all
 simp only [execOp,resolve,Act.eval,Deferred.ofValue,Sem.run_bind,Sem.run_pure,Result.andThen_ok,invoke,callFunc,program,Sem.run]
 simp [hfn,hname,hb]
theorem give (hi:Inv B R γ L w) {k n' s:Nat} {g':Gh} {es':List (List AC)} {v':Value} (hB : ∀ b,B b->b<s) (hold : ∀ (i:Nat) h b,γ[i]?=some h->h.block=some b->b<s) (hp:bP R v' (.lst es')) (hw' : ∀ e∈es',e.length=k) (ho:Ul R w es' k v' g') (hgb : ∀ b,g'.block=some b->s<=b) (hn:es'.length=n') :
  ∃ γ',Inv B R γ' (L++[.spare n' k]) w/\Mv R R γ γ' L (L++[.spare n' k])/\(SV.own es' L.length).rep R γ' (L++[.spare n' k]) v':=by
 subst hn
 have gcase : ∀ j h,(γ++[g'])[j]?=some h->(j<γ.length/\γ[j]?=some h)\/(j=γ.length/\h=g'):=by
  intro j h hh
  by_cases hj:j<γ.length
  ·rw [ag9 hj] at hh;exact .inl ⟨hj,hh⟩
  ·have:j=γ.length:=by have:=(agV.1 hh).1;simp at this;omega
   subst this
   rw [ag2 (by omega)] at hh
   simp at hh
   exact .inr ⟨rfl,hh.symm⟩
 have hm:Mv R R γ (γ++[g']) L (L++[.spare es'.length k]):=Mv.push _ _ hi.len
 refine ⟨γ++[g'],⟨by simp [hi.len],hi.val,fun id x h hx hh=>?_,fun j1 j2 g1 g2 h1 h2 hne b hb=>?_,fun j h b hh hb=>?_,hi.bsz⟩,hm,hp,by simp,fun n2 k2 e2=>?_⟩
 ·rcases gcase id h hh with ⟨hj,hh'⟩|⟨rfl,rfl⟩
  ·rw [ag9 (by rw [<- hi.len];exact hj)] at hx
   exact (hi.obj id x h hx hh').mv hm (fun _ _=>rfl) (fun _ _ _ h=>h)
  ·rw [ag2 (by rw [hi.len];omega)] at hx
   simp [hi.len] at hx;subst hx
   match h,ho with
   | .none,⟨h0,_⟩=>rw [h0];rfl
   | .arr b c,⟨_,⟨vs,E,a1,a2⟩,a3,a4,a5⟩=>exact ⟨⟨vs,E,a1,a2⟩,a3,a4,a5⟩
 ·rcases gcase j1 g1 h1 with ⟨a1,a3⟩|⟨a1,rfl⟩<;>rcases gcase j2 g2 h2 with ⟨b1,b3⟩|⟨b1,rfl⟩
  ·exact hi.inj j1 j2 g1 g2 a3 b3 hne b hb
  ·intro e;have h1:=hgb b e;have h2:=hold j1 g1 b a3 hb;omega
  ·intro e;have h1:=hgb b hb;have h2:=hold j2 g2 b b3 e;omega
  ·omega
 ·rcases gcase j h hh with ⟨a1,a3⟩|⟨a1,rfl⟩
  ·exact hi.new j h b a3 hb
  ·have hsz:b<w.heap.size:=by
    match h,ho,hb with
    | .arr b' c,⟨_,⟨vs,E,a1,_⟩,_⟩,hb=>injection hb with hb;subst hb;exact (ahD.1 a1).1
   exact ⟨fun hBb=>by have h1:=hB b hBb;have h2:=hgb b hb;omega,hsz⟩
 ·rw [ag2 (by omega)] at e2
  simp at e2
  obtain ⟨rfl,rfl⟩:=e2
  refine ⟨ag' _,hw',fun _=>⟨g',?_,?_⟩⟩
  ·rw [ag2 (by rw [hi.len];omega)];simp [hi.len]
  ·match g',ho with
   | .none,⟨h0,ha⟩=>exact ha
   | .arr b c,⟨h0,_⟩=>exact h0
theorem ZM (hi:Inv B R γ L w) {t n k n':Nat} {g g':Gh} {R':PH} {w':World} {es':List (List AC)} {v':Value} (hL:L[t]?=some (.spare n k)) (hg:γ[t]?=some g) (he:Ext (fun b=>b<w.heap.size/\g.block≠some b) R R' w w')
  (hv : ∀ b o u,R' b o=some u->w'.cell? ⟨b,o,none⟩=some u) (hp:bP R' v' (.lst es')) (hw' : ∀ e∈es',e.length=k) (ho:Ul R' w' es' k v' g') (hgb : ∀ b,g'.block=some b->w.heap.size<=b\/g.block=some b) (hn:es'.length=n') :
  ∃ γ',Inv B R' γ' (L.set t .dead++[.spare n' k]) w'/\Ext B R R' w w'/\Mv R R' γ γ' L (L.set t .dead++[.spare n' k])/\(SV.own es' L.length).rep R' γ' (L.set t .dead++[.spare n' k]) v':=by
 subst hn
 have hlt:t<L.length:=(agV.1 hL).1
 have hltg:t<γ.length:=by rw [hi.len];exact hlt
 have hgnb:g ≠ .none -> ∀ b,g.block=some b->b<w.heap.size /\ ¬ B b:=fun _ b hb=>⟨(hi.new t g b hg hb).2,(hi.new t g b hg hb).1⟩
 have gcase : ∀ j h,(γ.set t Gh.none++[g'])[j]?=some h->(j=t/\h = .none)\/(j<γ.length/\j≠t/\γ[j]?=some h)\/(j=γ.length/\h=g'):=by
  intro j h hh
  by_cases hj:j<γ.length
  ·rw [ag9 (by simpa using hj)] at hh
   by_cases hjt:j=t
   ·subst hjt;rw [ahc hltg] at hh;injection hh with hh;exact .inl ⟨rfl,hh.symm⟩
   ·rw [ahd (Ne.symm hjt)] at hh;exact .inr (.inl ⟨hj,hjt,hh⟩)
  ·have:j=γ.length:=by have:=(agV.1 hh).1;simp at this;omega
   subst this
   rw [ag2 (by simp)] at hh
   simp at hh
   exact .inr (.inr ⟨rfl,hh.symm⟩)
 have hm:Mv R R' γ (γ.set t .none++[g']) L (L.set t .dead++[.spare es'.length k]):=by
  refine ⟨he.sub,by simp,fun t' n' k' hlt' h=>?_,fun t' ver es0 k' hlt' h=>?_,fun id b h=>?_⟩
  ·rw [ag9 (by simpa using hlt')] at h
   by_cases htt:t'=t
   ·subst htt;rw [ahc hlt] at h;cases h
   ·rw [ahd (Ne.symm htt)] at h
    exact ⟨n',h,ag' _,fun _=>by rw [ag9 (by simp;rw [hi.len];exact hlt'),ahd (Ne.symm htt)]⟩
  ·rw [ag9 (by simpa using hlt')] at h
   by_cases htt:t'=t
   ·subst htt;rw [ahc hlt] at h;cases h
   ·rw [ahd (Ne.symm htt)] at h
    exact ⟨ver,es0,h,ag' _,fun _=>⟨rfl,by rw [ag9 (by simp;rw [hi.len];exact hlt'),ahd (Ne.symm htt)]⟩⟩
  ·have hne:id≠t:=by
    rintro rfl
    exact hi.obj id _ _ hL h
   rw [ag9 (by simp;exact (agV.1 h).1),ahd (Ne.symm hne)];exact h
 have keep : ∀ j h b,j≠t->γ[j]?=some h->h.block=some b->b<w.heap.size/\g.block≠some b:=fun j h b hne hh hb=>⟨(hi.new j h b hh hb).2,hi.inj j t h g hh hg hne b hb⟩
 refine ⟨γ.set t .none++[g'],⟨by simp [hi.len],hv,fun id x h hx hh=>?_,fun j1 j2 g1 g2 h1 h2 hne b hb=>?_,fun j h b hh hb=>?_,fun b hb=>ahx (hi.bsz b hb) he.below.size⟩,?_,hm,hp,by simp,fun n2 k2 e2=>?_⟩
 ·rcases gcase id h hh with ⟨rfl,rfl⟩|⟨hj,hne,hh'⟩|⟨rfl,rfl⟩
  ·rw [ag9 (by simpa using hlt),ahc hlt] at hx
   injection hx with hx;subst hx;trivial
  ·rw [ag9 (by simp;rw [<- hi.len];exact hj),ahd (Ne.symm hne)] at hx
   exact (hi.obj id x h hx hh').mv hm (fun b hb=>he.below.block b (keep id h b hne hh' hb)) (fun b o hb e=>by rw [he.old b o (keep id h b hne hh' hb)];exact e)
  ·rw [ag2 (by simp [hi.len])] at hx
   simp [hi.len] at hx;subst hx
   match h,ho with
   | .none,⟨h0,_⟩=>rw [h0];rfl
   | .arr b c,⟨_,⟨vs,E,a1,a2⟩,a3,a4,a5⟩=>exact ⟨⟨vs,E,a1,a2⟩,a3,a4,a5⟩
 ·rcases gcase j1 g1 h1 with ⟨_,rfl⟩|⟨a1,a2,a3⟩|⟨a1,rfl⟩
  ·cases hb
  ·rcases gcase j2 g2 h2 with ⟨_,rfl⟩|⟨b1,b2,b3⟩|⟨b1,rfl⟩
   ·intro e;cases e
   ·exact hi.inj j1 j2 g1 g2 a3 b3 hne b hb
   ·intro e
    rcases hgb b e with h|h
    ·have:=(hi.new j1 g1 b a3 hb).2;omega
    ·exact (keep j1 g1 b a2 a3 hb).2 h
  ·rcases gcase j2 g2 h2 with ⟨_,rfl⟩|⟨b1,b2,b3⟩|⟨b1,rfl⟩
   ·intro e;cases e
   ·intro e
    rcases hgb b hb with h|h
    ·have:=(hi.new j2 g2 b b3 e).2;omega
    ·exact (keep j2 g2 b b2 b3 e).2 h
   ·omega
 ·rcases gcase j h hh with ⟨_,rfl⟩|⟨a1,a2,a3⟩|⟨a1,rfl⟩
  ·cases hb
  ·have:=hi.new j h b a3 hb
   exact ⟨this.1,ahx this.2 he.below.size⟩
  ·have hsz:b<w'.heap.size:=by
    match h,ho,hb with
    | .arr b' c,⟨_,⟨vs,E,a1,_⟩,_⟩,hb=>injection hb with hb;subst hb;exact (ahD.1 a1).1
   refine ⟨fun hB=>?_,hsz⟩
   rcases hgb b hb with h'|h'
   ·have:=hi.bsz b hB;omega
   ·exact (hi.new t g b hg h').1 hB
 ·exact ⟨he.below.mono fun b hB=>⟨hi.bsz b hB,fun e=>(hi.new t g b hg e).1 hB⟩,he.sub,fun b o hB=>he.old b o ⟨hi.bsz b hB,fun e=>(hi.new t g b hg e).1 hB⟩⟩
 ·rw [ag2 (by simp)] at e2
  simp at e2
  obtain ⟨rfl,rfl⟩:=e2
  refine ⟨ag' _,hw',fun _=>⟨g',?_,?_⟩⟩
  ·rw [ag2 (by simp [hi.len])];simp [hi.len]
  ·match g',ho with
   | .none,⟨h0,ha⟩=>exact ha
   | .arr b c,⟨h0,_⟩=>exact h0
theorem VI {ρ:Operand->Option AV} {a:Act} (hρ : ∀ x v,ρ x=some v->v.rep R γ L (a.eval x)) : ∀ {xs:List Operand} {vs:List AV}, YK ρ xs=some vs->xs.length=vs.length /\ ∀ (j:Nat) y v,xs[j]?=some y->vs[j]?=some v->v.rep R γ L (a.eval y)
 | [],vs,h=>by injection h with h;subst h;exact ⟨rfl,fun j y v hy=>by simp at hy⟩
 | x::xs,vs,h=>by
  unfold YK at h
  split at h
  ·rename_i v0 vs0 h1 h2
   injection h with h;subst h
   obtain ⟨g1,g2⟩:=VI hρ h2
   refine ⟨by simp [g1],fun j y v hy hv=>?_⟩
   cases j with
   | zero=>simp at hy hv;subst hy hv;exact hρ _ _ h1
   | succ j=>exact g2 j y v (by simpa using hy) (by simpa using hv)
  ·cases h
theorem Ld {ρ:Operand->Option AV} {a:Act} (hρ : ∀ x v,ρ x=some v->v.rep R γ L (a.eval x)) {op:Op} {g:FuncId} {asx:List AV} (h:fJ ti ρ op=some (g,asx)) :
  ∃ f args ts caps,op = .call { callee := .value f,args,argTypes:=ts } /\ a.eval f = .func (.func g) #[] caps/\(args.map a.eval++caps).size=asx.length /\ ∀ (j:Nat) v p,(args.map a.eval++caps)[j]?=some v->asx[j]?=some p->p.rep R γ L v:=by
 have fin : ∀ (args:Array Operand) (vs:List AV) (caps:Array Value) (cs:List AV),YK ρ args.toList=some vs->caps.size=cs.length->(∀ (j:Nat) v p,caps[j]?=some v->cs[j]?=some p->p.rep R γ L v) ->
   (args.map a.eval++caps).size=(vs++cs).length /\ ∀ (j:Nat) v p,(args.map a.eval++caps)[j]?=some v->(vs++cs)[j]?=some p->p.rep R γ L v:=by
  intro args vs caps cs hv hc hr
  obtain ⟨g1,g2⟩:=VI hρ hv
  have g1':args.size=vs.length:=by simpa using g1
  refine ⟨by simp;omega,fun j v p hv hp=>?_⟩
  by_cases hj:j<vs.length
  ·rw [ag9 hj] at hp
   rw [Array.getElem?_append_left (by simp;omega),Array.getElem?_map] at hv
   cases hq:args[j]? with
   | none=>simp [hq] at hv
   | some y=>rw [hq] at hv;simp only [Option.map_some,Option.some.injEq] at hv;subst hv;exact g2 j y p (by simpa using hq) hp
  ·rw [ag2 (by omega)] at hp
   rw [Array.getElem?_append_right (by simp;omega)] at hv
   simp only [Array.size_map] at hv
   rw [g1'] at hv
   exact hr _ v p hv hp
 unfold fJ at h
 split at h
 case h_2=>cases h
 rename_i f args ts
 split at h
 ·rename_i g0 cs vs _ hf hv
  injection h with h;injection h with e1 e2;subst e1 e2
  have hfv:=hρ _ _ hf
  generalize hev:a.eval f=fv at hfv
  cases hfv with
  | fn _ caps _ hs he =>
   refine ⟨f,args,ts,caps,rfl,hev,fin args vs caps _ hv (by simpa using hs) fun j v p h1 h2=>?_⟩
   rw [ahg] at h2
   cases hq:cs[j]? with
   | none=>simp [hq] at h2
   | some y=>simp [hq] at h2;subst h2;exact he j v y h1 hq
 ·rename_i g0 caps vs _ hf hv
  injection h with h;injection h with e1 e2;subst e1 e2
  obtain ⟨us,h1,h2,h3⟩:=hρ _ _ hf
  refine ⟨f,args,ts,us,rfl,h1,fin args vs us _ hv (by simpa using h2) fun j v p q1 q2=>?_⟩
  rw [ahg] at q2
  cases hq:caps[j]? with
  | none=>simp [hq] at q2
  | some y =>
   simp [hq] at q2;subst q2
   have:=h3 j v y q1 hq
   cases y with
   | c y=>exact this
   | ptr id off=>exact this
 ·cases h
theorem qN (hti:TIok P ti) (hi:Inv B R γ L w) {a:Act} {ρ:Operand->Option AV} (hρ : ∀ x v,ρ x=some v->v.rep R γ L (a.eval x)) {o:Oper} {K:AV->List Ob->Prop} {next:Act->World->Prop} {Q:Exit->Act->World->Prop}
  (h:nM P ti ρ L K o.op)
  (hK : ∀ v L' R' γ' w' u,K v L'->Inv B R' γ' L' w'->Ext B R R' w w'->Mv R R' γ γ' L L'->v.rep R' γ' L' u->next (a.put o.dst u) w'):o.wp P a w next Q:=by
 rcases h with ⟨v,φ,hp,hφ,hk⟩|⟨v,φ,hp,hφ,hk⟩|⟨v,L',φ,hp,hφ,hk⟩|⟨g,ps,r,hc,hP,hk⟩|⟨g,es,t,k,ps,es',hc,hLt,hP,hk⟩|⟨g,k,ps,es',hc,hP,hk⟩|⟨σ,g,L0,asx,L1,r,hc,hF,hP,hk⟩|⟨v,L',_,hs,hk⟩
 ·obtain ⟨u,w',R',h1,h2,h3,h4⟩:=WE hti hi hρ hp hφ
  unfold Oper.wp
  rw [h1]
  exact hK v L R' γ w' u hk h2 h3 (Mv.of_sub h3.sub) h4
 ·obtain ⟨u,w',R',h1,h2,h3,h4⟩:=P_ hti hi hρ hp hφ
  unfold Oper.wp
  rw [h1]
  exact hK v L R' γ w' u hk h2 h3 (Mv.of_sub h3.sub) h4
 ·obtain ⟨w',R',γ',h1,h2,h3,h4⟩:=WA hti hi hρ hp hφ
  unfold Oper.wp
  rcases h1 with ⟨u,h1,h5⟩|⟨h1,rfl⟩
  ·rw [h1]
   exact hK v L' R' γ' w' u hk h2 h3 h4 h5
  ·rw [h1]
   exact hK .undef L' R' γ' w' Go.undef hk h2 h3 h4 rfl
 ·obtain ⟨dst,op,type,pos,after,guard⟩:=o
  simp only at hc hK
  unfold xA at hc
  split at hc
  ·rename_i f args argTypes
   split at hc
   ·rename_i g0 cs hf
    cases hps:gL ρ args.toList with
    | none=>simp [hps] at hc
    | some ps0 =>
     rw [hps] at hc
     injection hc with hc;injection hc with e1 e2;subst e1 e2
     obtain ⟨⟨fn,hfn,hbody,hname⟩,hcall⟩:=hP
     have hfv:=hρ _ _ hf
     generalize hev:a.eval f=fv at hfv
     cases hfv with
     | fn _ caps _ hs he =>
      obtain ⟨g1,g2⟩:=pR hρ hps
      have hr:(execOp a.eval { dst,op := .call { callee := .value f,args,argTypes }, type,pos,after,guard }).run P w = .ok (.enter g0 (args.map a.eval++caps)) w:=by
       have hb:fn.body.isNone=false:=by cases hbb:fn.body<;>simp_all
       simp only [execOp,resolve,hev,Deferred.ofValue,Sem.run_bind,Sem.run_pure,Result.andThen_ok,invoke,callFunc,program,Sem.run]
       simp [hfn,hname,hb]
      unfold Oper.wp
      rw [hr]
      refine (hcall R w (args.map a.eval++caps) hi.val (by simp [hs];simpa using g1) (fun j v p hv hp=>?_)).mono (fun e w' hh=>?_)
      ·by_cases hj:j<ps0.length
       ·rw [ag9 hj] at hp
        rw [Array.getElem?_append_left (by simp;have:=g1;simp at this;omega),Array.getElem?_map] at hv
        cases hq:args[j]? with
        | none=>simp [hq] at hv
        | some y =>
         rw [hq] at hv;simp only [Option.map_some,Option.some.injEq] at hv;subst hv
         exact g2 j y p (by simpa using hq) hp
       ·have hg1:args.size=ps0.length:=by simpa using g1
        rw [ag2 (by omega),ahg] at hp
        rw [Array.getElem?_append_right (by simp;omega)] at hv
        simp only [Array.size_map] at hv
        rw [hg1] at hv
        cases hq:cs[j-ps0.length]? with
        | none=>simp [hq] at hp
        | some y =>
         rw [hq] at hp;simp only [Option.map_some,Option.some.injEq] at hp;subst hp
         exact he _ v y hv hq
      ·obtain ⟨v,R',rfl,h1,h2,h3⟩:=hh
       obtain ⟨i1,i2⟩:=hi.later h1 h2
       exact hK r.av L R' γ w' v hk i1 i2 (Mv.of_sub h1.sub) (CV.av_rep h3)
   ·cases hc
  ·cases hc
 ·obtain ⟨dst,op,type,pos,after,guard⟩:=o
  simp only at hc hK
  obtain ⟨args,argTypes,x,xs,rfl,hxs,hx,hps⟩:=LM hc
  obtain ⟨⟨fn,hfn,hbody,hname⟩,hcall⟩:=hP
  obtain ⟨g1,g2⟩:=pR hρ hps
  have hxv:=hρ _ _ hx
  obtain ⟨hpv,hlt,hall⟩:=hxv
  obtain ⟨_,hwide,hlink⟩:=hall _ _ hLt
  obtain ⟨gh,hgh,hlk⟩:=hlink rfl
  have hob:=hi.obj t _ _ hLt hgh
  have hown:Ul R w es k (a.eval x) gh:=by
   match gh,hlk,hob with
   | .none,hlk,hob=>exact ⟨ahj hob,hlk⟩
   | .arr b c,hlk,⟨a1,a2,a3,a4⟩=>exact ⟨hlk,a1,a2,a3,a4⟩
  have hr:=NI (P:=P) (w:=w) (a:=a) (dst:=dst) (type:=type) (pos:=pos) (after:=after) (guard:=guard) (args:=args) (argTypes:=argTypes) hfn hbody hname
  unfold Oper.wp
  rw [hr]
  have hargs:args.map a.eval = #[a.eval x]++(xs.map a.eval).toArray:=by
   cases args;simp at hxs;subst hxs;simp
  rw [hargs]
  refine (hcall R w (a.eval x) (xs.map a.eval).toArray gh hi.val hpv hwide hown (by simpa using g1) (fun j v p hv hp=>?_)).mono (fun e w' hh=>?_)
  ·simp only [List.getElem?_toArray,ahg] at hv
   cases hq:xs[j]? with
   | none=>simp [hq] at hv
   | some y=>rw [hq] at hv;simp only [Option.map_some,Option.some.injEq] at hv;subst hv;exact g2 j y p hq hp
  ·obtain ⟨v',R',g',rfl,h1,h2,h3,h4,h5,h6⟩:=hh
   obtain ⟨γ',i1,i2,i3,i4⟩:=ZM hi hLt hgh h1 h2 h3 h4 h5 h6 rfl
   exact hK _ _ R' γ' w' v' hk i1 i2 i3 i4
 ·obtain ⟨dst,op,type,pos,after,guard⟩:=o
  simp only at hc hK
  obtain ⟨args,argTypes,x,xs,rfl,hxs,hx,hps⟩:=KN hc
  obtain ⟨⟨fn,hfn,hbody,hname⟩,hcall⟩:=hP

  have hi1:=hi.tok k
  have hm1:Mv R R γ (γ++[.none]) L (L++[.spare 0 k]):=Mv.push _ _ hi.len
  obtain ⟨g1,g2⟩:=pR hρ hps
  obtain ⟨ad,hxv⟩:=hρ _ _ hx
  have hr:=NI (P:=P) (w:=w) (a:=a) (dst:=dst) (type:=type) (pos:=pos) (after:=after) (guard:=guard) (args:=args) (argTypes:=argTypes) hfn hbody hname
  unfold Oper.wp
  rw [hr]
  have hargs:args.map a.eval = #[a.eval x]++(xs.map a.eval).toArray:=by
   cases args;simp at hxs;subst hxs;simp
  rw [hargs]
  refine (hcall R w (a.eval x) (xs.map a.eval).toArray .none hi.val (by rw [hxv];exact gp _ _ _) (by simp) ⟨rfl,ad,hxv⟩ (by simpa using g1) (fun j v p hv hp=>?_)).mono (fun e w' hh=>?_)
  ·simp only [List.getElem?_toArray,ahg] at hv
   cases hq:xs[j]? with
   | none=>simp [hq] at hv
   | some y=>rw [hq] at hv;simp only [Option.map_some,Option.some.injEq] at hv;subst hv;exact g2 j y p hq hp
  ·obtain ⟨v',R',g',rfl,h1,h2,h3,h4,h5,h6⟩:=hh
   have hE:Ext (· < w.heap.size) R R' w w':=⟨h1.below.mono fun b hb=>⟨hb,by intro e;cases e⟩,h1.sub,fun b o hb=>h1.old b o ⟨hb,by intro e;cases e⟩⟩
   obtain ⟨j1,j2⟩:=hi.later hE h2
   obtain ⟨γ',i1,i2,i3⟩:=give (n':=es'.length) j1 (hB:=fun b hb=>ahx (hi.bsz b hb) (ag' _)) (s:=w.heap.size) (fun i h b hh hb=>(hi.new i h b hh hb).2) h3 h4 h5 (fun b hb=>(h6 b hb).resolve_right (by intro e;cases e)) rfl
   exact hK _ _ R' γ' w' v' hk i1 j2 ((Mv.of_sub h1.sub).trans i2) i3
 ·obtain ⟨dst,op,type,pos,after,guard⟩:=o
  simp only at hc hK
  obtain ⟨f,args,ts,caps,rfl,hev,hsz,hrep⟩:=Ld hρ hc
  obtain ⟨⟨fn,hfn,hbody,hname⟩,hcall⟩:=hP
  have hr:(execOp a.eval { dst,op := .call { callee := .value f,args,argTypes:=ts }, type,pos,after,guard }).run P w = .ok (.enter g (args.map a.eval++caps)) w:=by
   have hb:fn.body.isNone=false:=by cases hbb:fn.body<;>simp_all
   simp only [execOp,resolve,hev,Deferred.ofValue,Sem.run_bind,Sem.run_pure,Result.andThen_ok,invoke,callFunc,program,Sem.run]
   simp [hfn,hname,hb]
  unfold Oper.wp
  rw [hr]
  have hemb:=aaM hi hF.len hF.ob
  have hinj : ∀ i j,i<L0.length->j<L0.length->nC σ i=nC σ j->i=j:=by
   intro i j hi1 hj1 e
   have h1:=pI (σ:=σ) (i:=i) (by rw [hF.len];exact hi1)
   have h2:=pI (σ:=σ) (i:=j) (by rw [hF.len];exact hj1)
   rw [<- e] at h2
   exact EL hF.nd h1 h2
  refine (hcall _ R (UQ σ γ) w (args.map a.eval++caps) (Zj hi hemb hinj hF.obb) (by simpa using hsz) (fun j v p hv hp=>?_)).mono (fun e w' hh=>?_)
  ·exact AV.down hemb (hrep j v _ hv (by rw [ahg,hp];rfl)) (hF.argb p (ag1 hp))
  ·obtain ⟨v,R',γ1,rfl,h1,h2,h3,h4⟩:=hh
   obtain ⟨i1,i2,i3,i4⟩:=Ud hi hF.len hF.nd hF.ob h1 h2 h3
   exact hK _ _ R' _ w' v hk i1 i2 i3 (AV.up i4 h4)
 ·obtain ⟨w',R',γ',h1,h2,h3,h4⟩:=hs B R γ w a.eval o rfl hi (fun x _=>hρ x) ⟨fun _=>rfl,fun _=>rfl⟩
  unfold Oper.wp
  rcases h1 with ⟨u,h1,h5⟩|⟨h1,rfl⟩
  ·rw [h1]
   exact hK v L' R' γ' w' u hk h2 h3 h4 h5
  ·rw [h1]
   exact hK .undef L' R' γ' w' Go.undef hk h2 h3 h4 rfl
theorem D8 {T:Tm} {a:Act} (hT:lW N R γ L T a) {d:Option Tmp} {v:AV} {u:Value} (hd:dOK N d) (hv:v.rep R γ L u):lW N R γ L (Et T d v) (a.put d u):=by
 cases d with
 | none=>exact hT
 | some d =>
  have hd':d<N:=hd
  refine ⟨by simp [Act.put,hT.size],hT.defers,fun t x h=>?_⟩
  simp only [Et,List.lookup_cons] at h
  by_cases htd:t=d
  ·subst htd
   simp at h;subst h
   exact ⟨u,by simp only [Act.put];exact ahM (by rw [hT.size];exact hd'),hv⟩
  ·have:(t==d)=false:=by simpa using htd
   rw [this] at h
   obtain ⟨u',h1,h2⟩:=hT.slot t x h
   exact ⟨u',by simp only [Act.put];rw [ahC (Ne.symm htd)];exact h1,h2⟩
theorem QH {ops:Array Oper} {ds:List (Option Tmp)} (hds : ∀ j:Nat,(ops[j]?).map (·.dst)=ds[j]?) {T:Tm} {a:Act} (hT:lW N R γ L T a) {o:Oper} {A B':Prop} (h:gd ds T A B' o.guard) :
  (Region.wanted o (yielded ops a.tmps)=true/\A)\/(Region.wanted o (yielded ops a.tmps)=false/\B'):=by
 cases hg:o.guard with
 | none =>
  rw [hg] at h
  exact .inl ⟨by simp [Region.wanted,hg],h⟩
 | some p =>
  obtain ⟨j,want⟩:=p
  rw [hg] at h
  simp only [gd] at h
  split at h
  ·rename_i d hd
   have hd':(ops[j]?).bind (·.dst)=some d:=by
    have:=hds j
    rw [hd] at this
    cases ho:ops[j]? with
    | none=>simp [ho] at this
    | some o'=>simpa [ho] using this
   split at h
   ·rename_i b hb
    obtain ⟨u,h1,h2⟩:=hT.slot d _ hb
    cases h2
    have hy:yielded ops a.tmps j=some b:=by simp [yielded,hd',h1]
    by_cases hbw:b=want
    ·exact .inl ⟨by simp [Region.wanted,hg,hy,hbw],h.1 hbw⟩
    ·exact .inr ⟨by simp [Region.wanted,hg,hy,hbw],h.2 (by cases b<;>cases want<;>simp_all)⟩
   ·rename_i hb
    obtain ⟨u,h1,h2⟩:=hT.slot d _ hb
    have h2':u=Go.undef:=h2
    subst h2'
    have hy:yielded ops a.tmps j=none:=by simp [yielded,hd',h1,Go.undef]
    exact .inr ⟨by simp [Region.wanted,hg,hy],h⟩
   ·exact h.elim
  ·exact h.elim
theorem zb (hti:TIok P ti) {ops:Array Oper} {ds:List (Option Tmp)} (hds : ∀ j:Nat,(ops[j]?).map (·.dst)=ds[j]?) {K:Tm->List Ob->Prop} {Q:Exit->Act->World->Prop} : ∀ (l:List Oper) (R:PH) (γ:List Gh) (L:List Ob) (T:Tm) (a:Act) (w:World),aQ P ti N ds K l T L->Inv B R γ L w->lW N R γ L T a ->
  (∀ T' L' R' γ' w' a',K T' L'->Inv B R' γ' L' w'->lW N R' γ' L' T' a'->Ext B R R' w w'->Mv R R' γ γ' L L'->Q .normal a' w')->wpList P ops Q l a w
 | [],R,γ,L,T,a,w,h,hi,hT,hQ=>hQ T L R γ w a h hi hT (Ext.refl _ _ _) Mv.refl
 | o::rest,R,γ,L,T,a,w,h,hi,hT,hQ=>by
  obtain ⟨hd,hg⟩:=h
  unfold wpList
  rcases QH hds hT hg with ⟨hw,hA⟩|⟨hw,hB⟩
  ·rw [if_pos hw]
   refine .inl (qN hti hi (fun x v hx=>Ib hT hx) hA fun v L' R' γ' w' u hk h1 h2 h3 h4=>?_)
   exact zb hti hds rest R' γ' L' _ _ w' hk h1 (D8 (hT.mv h3) hd h4) fun T2 L2 R2 γ2 w2 a2 k1 k2 k3 k4 k5=>hQ T2 L2 R2 γ2 w2 a2 k1 k2 k3 (h2.trans k4) (h3.trans k5)
  ·rw [if_neg (by rw [hw];decide)]
   exact zb hti hds rest R γ L _ _ w hB hi (D8 hT hd rfl) hQ
end
inductive AX where
 | normal
 | exit (id:Nat)
 | ret
 deriving DecidableEq
def AX.ex:AX->Exit
 | .normal => .normal
 | .exit id => .exit id
 | .ret => .ret
structure Er (n0:Nat) (R R':PH) (γ γ':List Gh) (L L':List Ob):Prop where
 lo:n0<=L.length
 lo':n0<=L'.length
 mv:Mv R R' (γ.take n0) γ' (L.take n0) L'
theorem Mv.cutL {n0:Nat} {R R':PH} {γ γ':List Gh} {L L':List Ob} (h:Mv R R' γ γ' L L'):Mv R R' (γ.take n0) γ' (L.take n0) L':=by
 refine ⟨h.sub,by simp;have:=h.len;omega,fun t n k hlt e=>?_,fun t ver es k hlt e=>?_,fun id b e=>?_⟩
 ·have hlt':t<n0/\t<L.length:=by rw [ahK] at hlt;omega
  obtain ⟨m,a,b,c⟩:=h.tok t n k hlt'.2 e
  exact ⟨m,by rw [ahn,if_pos hlt'.1];exact a,b,fun q=>by rw [ahn,if_pos hlt'.1];exact c q⟩
 ·have hlt':t<n0/\t<L.length:=by rw [ahK] at hlt;omega
  obtain ⟨v0,m,a,b,c⟩:=h.row t ver es k hlt'.2 e
  exact ⟨v0,m,by rw [ahn,if_pos hlt'.1];exact a,b,fun q=>⟨(c q).1,by rw [ahn,if_pos hlt'.1];exact (c q).2⟩⟩
 ·rw [ahn] at e
  split at e
  ·exact h.ptr id b e
  ·cases e
theorem Mv.cutR {n:Nat} {R R':PH} {γ γ':List Gh} {L L':List Ob} (h:Mv R R' γ γ' L L') (hg:γ.length=L.length) (hn:L.length<=n):Mv R R' γ (γ'.take n) L (L'.take n):=by
 refine ⟨h.sub,by simp;have:=h.len;omega,fun t m k hlt e=>?_,fun t ver es k hlt e=>?_,fun id b e=>?_⟩
 ·rw [ahn,if_pos (by omega)] at e
  rw [ahn,if_pos (by omega)]
  exact h.tok t m k hlt e
 ·rw [ahn,if_pos (by omega)] at e
  rw [ahn,if_pos (by omega)]
  exact h.row t ver es k hlt e
 ·have:=(agV.1 e).1
  rw [ahn,if_pos (by omega)]
  exact h.ptr id b e
theorem Er.of {n0:Nat} {R R':PH} {γ γ':List Gh} {L L':List Ob} (hn:n0<=L.length) (h:Mv R R' γ γ' L L'):Er n0 R R' γ γ' L L':=⟨hn,Nat.le_trans hn h.len,h.cutL⟩
theorem Er.trans {n0:Nat} {R R' R'':PH} {γ γ' γ'':List Gh} {L L' L'':List Ob} (hg:γ.length=L.length) (h:Er n0 R R' γ γ' L L') (g:Er n0 R' R'' γ' γ'' L' L''):Er n0 R R'' γ γ'' L L'':=by
 refine ⟨h.lo,g.lo',Mv.trans (h.mv.cutR (n:=n0) (by simp [hg]) (by simp;omega)) g.mv⟩
theorem Er.cut {n0:Nat} {R:PH} {γ:List Gh} {L G:List Ob} (hg:γ.length=(L++G).length) (hn:n0<=L.length):Er n0 R R γ (γ.take L.length) (L++G) L:=by
 refine ⟨by simp;omega,hn,?_⟩
 have:=(Mv.refl (R:=R) (γ:=γ) (L:=L++G)).cutL (n0:=n0)
 have:=this.cutR (n:=L.length) (by simp at hg ⊢;omega) (by simp;omega)
 simpa using this
def Fh (N n0:Nat) (B:Nat->Prop) (Q:AX->Tm->List Ob->Prop) (R:PH) (w:World) (γ:List Gh) (L:List Ob) (e:Exit) (a':Act) (w':World):Prop :=
 ∃ x T' L' R' γ',e=x.ex/\Q x T' L'/\Inv B R' γ' L' w'/\lW N R' γ' L' T' a'/\Ext B R R' w w'/\Er n0 R R' γ γ' L L'
def Aw (P:Program) (N n0:Nat) (c:Code) (Q:AX->Tm->List Ob->Prop) (T:Tm) (L:List Ob):Prop :=
 n0<=L.length -> ∀ B R γ w a,Inv B R γ L w->lW N R γ L T a->c.wp P (Fh N n0 B Q R w γ L) a w
@[reducible] def AX.then (A:Tm->List Ob->Prop) (Q:AX->Tm->List Ob->Prop):AX->Tm->List Ob->Prop
 | .normal,T,L=>A T L
 | e,T,L=>Q e T L
@[reducible] def AX.inBlock (id:Nat) (Q:AX->Tm->List Ob->Prop):AX->Tm->List Ob->Prop
 | .exit j,T,L=>if j=id then Q .normal T L else Q (.exit j) T L
 | e,T,L=>Q e T L
section
variable {P:Program} {ti:TI} {N n0:Nat} {Q:AX->Tm->List Ob->Prop} {T:Tm} {L:List Ob}
theorem Aw.mono {c:Code} {Q':AX->Tm->List Ob->Prop} (h:Aw P N n0 c Q T L) (hq : ∀ x T L,Q x T L->Q' x T L):Aw P N n0 c Q' T L :=
 fun hn B R γ w a hi hT=>wp_mono (h hn B R γ w a hi hT) fun _ _ _ ⟨x,T',L',R',γ',e,q,r⟩=>⟨x,T',L',R',γ',e,hq _ _ _ q,r⟩
theorem Fh.ext {B:Nat->Prop} {R R1:PH} {w w1:World} {γ γ1:List Gh} {L1:List Ob} {e:Exit} {a':Act} {w':World} (h:Fh N n0 B Q R1 w1 γ1 L1 e a' w') (he:Ext B R R1 w w1) (hg:γ.length=L.length) (hm:Er n0 R R1 γ γ1 L L1):Fh N n0 B Q R w γ L e a' w' :=
 let ⟨x,T',L',R',γ',h1,h2,h3,h4,h5,h6⟩:=h;⟨x,T',L',R',γ',h1,h2,h3,h4,he.trans h5,hm.trans hg h6⟩
theorem aw_skip (h:Q .normal T L):Aw P N n0 .skip Q T L:=fun hn _ R γ w a hi hT=>wp_skip ⟨.normal,T,L,R,γ,rfl,h,hi,hT,Ext.refl _ _ _,Er.of hn Mv.refl⟩
theorem Zt {l:Nat} (h:Q .normal T L):Aw P N n0 (.label l) Q T L:=fun hn _ R γ w a hi hT=>wp_label ⟨.normal,T,L,R,γ,rfl,h,hi,hT,Ext.refl _ _ _,Er.of hn Mv.refl⟩
theorem aw_ret (h:Q .ret T L):Aw P N n0 .ret Q T L:=fun hn _ R γ w a hi hT=>wp_ret ⟨.ret,T,L,R,γ,rfl,h,hi,hT,Ext.refl _ _ _,Er.of hn Mv.refl⟩
theorem aw_exit {id:Nat} (h:Q (.exit id) T L):Aw P N n0 (.exit id) Q T L:=fun hn _ R γ w a hi hT=>wp_exit ⟨.exit id,T,L,R,γ,rfl,h,hi,hT,Ext.refl _ _ _,Er.of hn Mv.refl⟩
theorem aw_seq {x y:Code} (h:Aw P N n0 x (AX.then (Aw P N n0 y Q) Q) T L):Aw P N n0 (.seq x y) Q T L:=by
 intro hn B R γ w a hi hT
 refine wp_seq (wp_mono (h hn B R γ w a hi hT) ?_)
 rintro e a1 w1 ⟨x,T1,L1,R1,γ1,rfl,q,i1,t1,e1,m1⟩
 cases x with
 | normal=>exact wp_mono (q m1.lo' B R1 γ1 w1 a1 i1 t1) fun _ _ _ hh=>hh.ext e1 hi.len m1
 | exit id=>exact ⟨.exit id,T1,L1,R1,γ1,rfl,q,i1,t1,e1,m1⟩
 | ret=>exact ⟨.ret,T1,L1,R1,γ1,rfl,q,i1,t1,e1,m1⟩
theorem aU {c:Operand} {x y:Code} {b:Bool} (hc:look T c=some (.one (.c (.bool b)))) (h1:b=true->Aw P N n0 x Q T L) (h2:b=false->Aw P N n0 y Q T L):Aw P N n0 (.cond c x y) Q T L:=by
 intro hn B R γ w a hi hT
 have hv:=Ib hT hc
 have he:a.eval c = .bool b:=by
  generalize a.eval c=v at hv
  cases hv;rfl
 exact wp_cond_split he (fun e=>h1 e hn B R γ w a hi hT) (fun e=>h2 e hn B R γ w a hi hT)
theorem aw_block {id:Nat} {c:Code} (h:Aw P N n0 c (AX.inBlock id Q) T L):Aw P N n0 (.block id c) Q T L:=by
 intro hn B R γ w a hi hT
 refine wp_block (wp_mono (h hn B R γ w a hi hT) ?_)
 rintro e a1 w1 ⟨x,T1,L1,R1,γ1,rfl,q,i1,t1,e1,m1⟩
 cases x with
 | normal=>exact ⟨.normal,T1,L1,R1,γ1,rfl,q,i1,t1,e1,m1⟩
 | ret=>exact ⟨.ret,T1,L1,R1,γ1,rfl,q,i1,t1,e1,m1⟩
 | exit j =>
  simp only [AX.inBlock] at q
  by_cases hj:j=id
  ·subst hj
   rw [if_pos rfl] at q
   show Exit.inBlock j _ (.exit j) a1 w1
   simp only [Exit.inBlock,if_true]
   exact ⟨.normal,T1,L1,R1,γ1,rfl,q,i1,t1,e1,m1⟩
  ·rw [if_neg hj] at q
   show Exit.inBlock id _ (.exit j) a1 w1
   simp only [Exit.inBlock,if_neg hj]
   exact ⟨.exit j,T1,L1,R1,γ1,rfl,q,i1,t1,e1,m1⟩
theorem Wo {l:List Oper} {ds:List (Option Tmp)} (hds:l.map (·.dst)=ds) (j:Nat):(l.toArray[j]?).map (·.dst)=ds[j]?:=by rw [<- hds];simp
theorem aw_region (hti:TIok P ti) {id:Nat} {l:List Oper} (ds:List (Option Tmp)) (hds:l.map (·.dst)=ds) (h:aQ P ti N ds (Q .normal) l T L):Aw P N n0 (.region id l.toArray false) Q T L:=by
 intro hn B R γ w a hi hT
 refine wp_region_lit (zb hti (Wo hds) l R γ L T a w h hi hT ?_)
 intro T' L' R' γ' w' a' hk h1 h2 h3 h4
 exact ⟨.normal,T',L',R',γ',rfl,hk,h1,h2,h3,Er.of hn h4⟩
structure Fits (T':Tm) (L':List Ob) (T:Tm) (L:List Ob):Prop where
 slots : ∀ p∈T,T'.lookup p.1=some p.2
 pre : ∃ G,L'=L++G
 below : ∀ p∈T,p.2.below L.length
 objs : ∀ x∈L,x.below L.length
theorem SV.cut {R:PH} {γ:List Gh} {L G:List Ob} (hl:γ.length=(L++G).length) {x:SV} {v:Value} (h:x.rep R γ (L++G) v) (hb:x.below L.length):x.rep R (γ.take L.length) L v:=by
 cases x with
 | c y=>exact h
 | emp=>exact h
 | own es t =>
  obtain ⟨h1,_,h2⟩:=h
  have ht:t<L.length:=hb
  refine ⟨h1,ht,fun n k e0=>?_⟩
  obtain ⟨h3,h4,h5⟩:=h2 n k (by rw [ag9 ht];exact e0)
  refine ⟨h3,h4,fun e=>?_⟩
  obtain ⟨g,g1,g2⟩:=h5 e
  exact ⟨g,by rw [ahn,if_pos ht];exact g1,g2⟩
 | ptr id off =>
  obtain ⟨b,h1,h2⟩:=h
  have ht:id<L.length:=hb
  exact ⟨b,h1,by rw [ahn,if_pos ht];exact h2⟩
 | sl id ver lo n =>
  obtain ⟨h0,_,h2⟩:=h
  have ht:id<L.length:=hb
  refine ⟨h0,ht,fun ver' es k e0=>?_⟩
  rw [ahn,if_pos ht]
  exact h2 ver' es k (by rw [ag9 ht];exact e0)
 | ep id ver i o =>
  obtain ⟨h0,_,h2⟩:=h
  have ht:id<L.length:=hb
  refine ⟨h0,ht,fun ver' es k e0=>?_⟩
  rw [ahn,if_pos ht]
  exact h2 ver' es k (by rw [ag9 ht];exact e0)
 | mp id =>
  obtain ⟨b,h1,h2⟩:=h
  have ht:id<L.length:=hb
  exact ⟨b,h1,by rw [ahn,if_pos ht];exact h2⟩
 | clo f caps =>
  obtain ⟨vs,h1,h2,h3⟩:=h
  refine ⟨vs,h1,h2,fun j u x hu hx=>?_⟩
  have hr:=h3 j u x hu hx
  have hbx:x.below L.length:=hb x (ag1 hx)
  cases x with
  | c y=>exact hr
  | ptr id off =>
   obtain ⟨b,g1,g2⟩:=hr
   have ht:id<L.length:=hbx
   exact ⟨b,g1,by rw [ahn,if_pos ht];exact g2⟩
theorem AV.cut {R:PH} {γ:List Gh} {L G:List Ob} (hl:γ.length=(L++G).length) {x:AV} {v:Value} (h:x.rep R γ (L++G) v) (hb:x.below L.length):x.rep R (γ.take L.length) L v:=by
 cases x with
 | one x=>exact SV.cut hl h hb
 | agg xs =>
  obtain ⟨vs,h1,h2,h3⟩:=h
  exact ⟨vs,h1,h2,fun j u x hu hx=>SV.cut hl (h3 j u x hu hx) (hb x (ag1 hx))⟩
 | tup ps=>exact h
 | tupS xs =>
  obtain ⟨vs,h1,h2,h3⟩:=h
  exact ⟨vs,h1,h2,fun j u x hu hx=>SV.cut hl (h3 j u x hu hx) (hb x (ag1 hx))⟩
 | undef=>exact h
theorem Bp : ∀ {T:Tm} {t:Nat} {x:AV}, T.lookup t=some x->(t,x)∈T
 | (k,y)::T,t,x,h=>by
  rw [List.lookup_cons] at h
  by_cases e:t=k
  ·subst e;simp at h;subst h;exact ahG ..
  ·have:(t==k)=false:=by simpa using e
   rw [this] at h
   exact ahh _ (Bp h)
theorem Fits.sound {T':Tm} {L':List Ob} (hf:Fits T' L' T L) {B:Nat->Prop} {R:PH} {γ:List Gh} {w:World} {a:Act} (hi:Inv B R γ L' w) (hT:lW N R γ L' T' a):Inv B R (γ.take L.length) L w/\lW N R (γ.take L.length) L T a:=by
 obtain ⟨G,rfl⟩:=hf.pre
 have hl:γ.length=(L++G).length:=hi.len
 have hlen:(γ.take L.length).length=L.length:=by rw [ahK,hl];simp
 have get : ∀ (i:Nat) g,(γ.take L.length)[i]?=some g->i<L.length/\γ[i]?=some g:=by
  intro i g hg
  rw [ahn] at hg
  split at hg
  ·rename_i h;exact ⟨h,hg⟩
  ·cases hg
 refine ⟨⟨hlen,hi.val,fun id x g hx hg=>?_,fun i j gi gj h1 h2=>hi.inj i j gi gj (get i gi h1).2 (get j gj h2).2,fun i g b hg=>hi.new i g b (get i g hg).2,hi.bsz⟩,⟨hT.size,hT.defers,fun t x h=>?_⟩⟩
 ·obtain ⟨hlt,hg'⟩:=get id g hg
  have hobj:=hi.obj id x g (by rw [ag9 hlt];exact hx) hg'
  have hb:=hf.objs x (ag1 hx)
  match x,g,hobj,hb with
  | .box cs, .box b,⟨⟨vs,E,h1,h2,h3⟩,h4⟩,hb=>exact ⟨⟨vs,E,h1,h2,fun j u x hu hx=>SV.cut hl (h3 j u x hu hx) (hb x (ag1 hx))⟩,h4⟩
  | .spare n k, .arr b c,hobj,_=>exact hobj
  | .spare n k, .none,hobj,_=>exact hobj
  | .row ver es k, .arr b c,⟨⟨vs,E,h1,h2,h3⟩,h4⟩,hb=>exact ⟨⟨vs,E,h1,h2,fun i e j u x he hu hx=>SV.cut hl (h3 i e j u x he hu hx) (hb e (ag1 he) x (ag1 hx))⟩,h4⟩
  | .row ver es k, .none,hobj,_=>exact hobj
  | .map kvs, .box b,⟨⟨es,h1,h2,h3⟩,h4⟩,hb=>exact ⟨⟨es,h1,h2,fun j e p he hp=>⟨(h3 j e p he hp).1,(h3 j e p he hp).2.1,AV.cut hl (h3 j e p he hp).2.2 (hb p (ag1 hp))⟩⟩,h4⟩
  | .dead, .none,hobj,_=>exact hobj
  | .dead, .box _,hobj,_=>exact hobj
 ·have hm:=Bp h
  obtain ⟨u,h1,h2⟩:=hT.slot t x (hf.slots (t,x) hm)
  exact ⟨u,h1,AV.cut hl h2 (hf.below (t,x) hm)⟩
theorem Fits.mvn {T':Tm} {L':List Ob} (hf:Fits T' L' T L) {B:Nat->Prop} {R:PH} {γ:List Gh} {w:World} (hi:Inv B R γ L' w) (hn:n0<=L.length):Er n0 R R γ (γ.take L.length) L' L:=by
 obtain ⟨G,rfl⟩:=hf.pre
 exact Er.cut hi.len hn
theorem bX {c:Code} (t k:Nat) (ht:T.lookup t=some (.one .emp)) (h:Aw P N n0 c Q ((t, .one (.own [] L.length))::T) (L++[.spare 0 k])):Aw P N n0 c Q T L:=by
 intro hn B R γ w a hi hT
 have hm:Mv R R γ (γ++[.none]) L (L++[.spare 0 k]):=Mv.push _ _ hi.len
 refine wp_mono (h (by simp;omega) B R (γ++[.none]) w a (hi.tok k) ?_) fun _ _ _ hh=>hh.ext (Ext.refl _ _ _) hi.len (Er.of hn hm)
 refine ⟨hT.size,hT.defers,fun t' x hx=>?_⟩
 rw [List.lookup_cons] at hx
 by_cases e:t'=t
 ·subst e
  simp at hx;subst hx
  obtain ⟨u,h1,b,rfl⟩:=hT.slot t' _ ht
  exact ⟨_,h1,gp _ _ _,by simp,fun n2 k2 _=>⟨by simp,by simp,fun _=>⟨.none,by rw [<- hi.len];simp,b,by simp⟩⟩⟩
 ·have:(t'==t)=false:=by simpa using e
  rw [this] at hx
  exact (hT.mv hm).slot t' x hx
theorem sN {σ:Type} {c:Code} (TT:σ->Tm) (LL:σ->List Ob) (ok:σ->Prop) (μ:σ->Nat) (s0:σ) (h0:ok s0) (hn1 : ∀ s,ok s->n0<=(LL s).length) (hf:Fits T L (TT s0) (LL s0))
  (round : ∀ s,ok s->Aw P N n0 c (AX.then (fun T' L' => ∃ s',ok s'/\μ s'<μ s/\Fits T' L' (TT s') (LL s')) Q) (TT s) (LL s)):Aw P N n0 (.loop c) Q T L:=by
 intro hn B R0 γ0 w0 a0 hi hT
 obtain ⟨i1,t1⟩:=hf.sound hi hT
 have key : ∀ n s R γ a w,μ s<n->ok s->Inv B R γ (LL s) w->lW N R γ (LL s) (TT s) a->Ext B R0 R w0 w->Er n0 R0 R γ0 γ L (LL s)->Code.rounds P c (Fh N n0 B Q R0 w0 γ0 L) n a w:=by
  intro n
  induction n with
  | zero=>intro s R γ a w h;omega
  | succ n ih =>
   intro s R γ a w hlt hok hI ht he hmv
   rw [rounds_succ]
   refine wp_mono (round s hok (hn1 s hok) B R γ w a hI ht) ?_
   rintro e a1 w1 ⟨x,T1,L1,R1,γ2,rfl,q,j1,k1,e1,m1⟩
   cases x with
   | normal =>
    obtain ⟨s',ok',hlt',hfit⟩:=q
    obtain ⟨j2,k2⟩:=hfit.sound j1 k1
    exact ih s' R1 _ a1 w1 (by omega) ok' j2 k2 (he.trans e1) ((hmv.trans hi.len m1).trans hi.len (hfit.mvn j1 (hn1 s' ok')))
   | exit id=>exact ⟨.exit id,T1,L1,R1,γ2,rfl,q,j1,k1,he.trans e1,hmv.trans hi.len m1⟩
   | ret=>exact ⟨.ret,T1,L1,R1,γ2,rfl,q,j1,k1,he.trans e1,hmv.trans hi.len m1⟩
 exact wp_loop_rounds (μ s0+1) (key _ s0 R0 _ a0 w0 (by omega) h0 i1 t1 (Ext.refl _ _ _) (hf.mvn hi (hn1 s0 h0)))
def FL (ti:TI) (T:Tm) (L:List Ob):ResultVar->Option (PV × Prop)
 | .tmp t=>((T.lookup t).bind AV.norm).map fun p=>(p,True)
 | .cell a t=>match T.lookup a with
  | some (.one (.ptr id off))=>match lq ti L t (.one (.ptr id off)) with
   | some (v,φ)=>v.norm.map fun p=>(p,φ)
   | none=>none
  | _=>none
def yb (ti:TI) (T:Tm) (L:List Ob):List ResultVar->Option (List PV × Prop)
 | []=>some ([],True)
 | r::rs=>match FL ti T L r,yb ti T L rs with
  | some (p,φ),some (ps,ψ)=>some (p::ps,φ/\ψ)
  | _,_=>none
def Y7:List PV->CV
 | [p] => .val p
 | ps => .tup ps
def Res (ti:TI) (rs:List ResultVar) (T:Tm) (L:List Ob) (r:CV):Prop :=
 match yb ti T L rs with
 | some (ps,φ)=>φ/\Y7 ps=r
 | none=>False
def xc (tmps:Array Value):ResultVar->Sem Value
 | .tmp t=>pure (tmps.getD t Go.undef)
 | .cell ad t=>do loadVar t (<- asAddr (tmps.getD ad Go.undef))
theorem xm (fn:Func) (tmps:Array Value):results fn tmps=(do let vs <- fn.results.mapM (xc tmps);pure (if h:vs.size=1 then vs[0] else .tuple vs)):=by
 unfold results
 congr
theorem NQ (hti:TIok P ti) {B:Nat->Prop} {R:PH} {γ:List Gh} {w:World} {a:Act} (hi:Inv B R γ L w) (hT:lW N R γ L T a) {rv:ResultVar} {p:PV} {φ:Prop} (h:FL ti T L rv=some (p,φ)) (hφ:φ) :
  ∃ u,(xc a.tmps rv).run P w = .ok u w/\p.rep R u:=by
 cases rv with
 | tmp t =>
  simp only [FL] at h
  cases hl:T.lookup t with
  | none=>simp [hl] at h
  | some x =>
   simp only [hl,agU] at h
   cases hn:x.norm with
   | none=>simp [hn] at h
   | some q =>
    simp only [hn,Option.map_some,Option.some.injEq,Prod.mk.injEq] at h
    obtain ⟨rfl,_⟩:=h
    obtain ⟨u,h1,h2⟩:=hT.slot t x hl
    exact ⟨u,by simp [xc,Array.getD_eq_getD_getElem?,h1],AV.norm_rep h2 hn⟩
 | cell ad t =>
  simp only [FL] at h
  split at h
  ·rename_i id off hl
   split at h
   ·rename_i v ψ hp
    cases hn:v.norm with
    | none=>simp [hn] at h
    | some q =>
     simp only [hn,Option.map_some,Option.some.injEq,Prod.mk.injEq] at h
     obtain ⟨rfl,h2⟩:=h
     subst h2
     obtain ⟨u,h1,hu⟩:=hT.slot ad _ hl
     obtain ⟨b,rfl,hg⟩:=hu
     obtain ⟨u',r1,r2⟩:=AP hti hi (va := .one (.ptr id off)) (u1 := .pointer (some ⟨b,off,none⟩)) ⟨b,rfl,hg⟩ hp hφ
     refine ⟨u',?_,AV.norm_rep r2 hn⟩
     simp only [Instr.loadAt,Instr.sureAddr] at r1
     simpa [xc,Array.getD_eq_getD_getElem?,h1,asAddr] using r1
   ·cases h
  ·cases h
theorem DF (hti:TIok P ti) {B:Nat->Prop} {R:PH} {γ:List Gh} {w:World} {a:Act} (hi:Inv B R γ L w) (hT:lW N R γ L T a) : ∀ {rs:List ResultVar} {ps:List PV} {φ:Prop}, yb ti T L rs=some (ps,φ)->φ ->
  ∃ us:List Value,(rs.mapM (xc a.tmps)).run P w = .ok us w/\us.length=ps.length /\ ∀ (j:Nat) u p,us[j]?=some u->ps[j]?=some p->p.rep R u
 | [],ps,φ,h,_=>by
  simp only [yb,Option.some.injEq,Prod.mk.injEq] at h
  obtain ⟨rfl,_⟩:=h
  exact ⟨[],rfl,rfl,fun j u p hu=>by simp at hu⟩
 | r::rs,ps,φ,h,hφ=>by
  unfold yb at h
  split at h
  ·rename_i p ψ ps' χ h1 h2
   simp only [Option.some.injEq,Prod.mk.injEq] at h
   obtain ⟨rfl,rfl⟩:=h
   obtain ⟨u,r1,r2⟩:=NQ hti hi hT h1 hφ.1
   obtain ⟨us,s1,s2,s3⟩:=DF hti hi hT h2 hφ.2
   refine ⟨u::us,?_,by simp [s2],fun j v q hv hq=>?_⟩
   ·rw [List.mapM_cons]
    simp only [Sem.run_bind,r1,Result.andThen_ok,s1,Sem.run_pure]
   ·cases j with
    | zero=>simp at hv hq;subst hv hq;exact r2
    | succ j=>exact s3 j v q (by simpa using hv) (by simpa using hq)
  ·cases h
theorem Res.sound (hti:TIok P ti) {B:Nat->Prop} {R:PH} {γ:List Gh} {w:World} {a:Act} (hi:Inv B R γ L w) (hT:lW N R γ L T a) {fn:Func} {r:CV} (h:Res ti fn.results.toList T L r) :
  ∃ v,(results fn a.tmps).run P w = .ok v w/\r.rep R v:=by
 unfold Res at h
 split at h
 ·rename_i ps φ hp
  obtain ⟨hφ,rfl⟩:=h
  obtain ⟨us,s1,s2,s3⟩:=DF hti hi hT hp hφ
  have hm:(fn.results.mapM (xc a.tmps)).run P w = .ok us.toArray w:=by
   rw [Array.mapM_eq_mapM_toList]
   simp only [Sem.run_map,s1,Result.andThen_ok]
  refine ⟨if h:us.toArray.size=1 then us.toArray[0] else .tuple us.toArray,?_,?_⟩
  ·rw [xm]
   simp only [Sem.run_bind]
   rw [hm]
   rfl
  ·match us,ps,s2,s3 with
   | [u],[p],_,s3=>exact s3 0 u p rfl rfl
   | [],[],_,_=>exact ⟨#[],rfl,rfl,fun j u p hu=>by simp at hu⟩
   | u1::u2::us,p1::p2::ps,s2,s3 =>
    rw [dif_neg (by simp)]
    exact ⟨_,rfl,by simpa using s2,fun j u p hu hp=>s3 j u p (by simpa using hu) hp⟩
 ·exact h.elim
def argT:Nat->List PV->Tm
 | _,[]=>[]
 | i,p::ps=>(i,p.av)::argT (i+1) ps
theorem x8 : ∀ (ps:List PV) (i t:Nat) (x:AV),(argT i ps).lookup t=some x -> ∃ p,ps[t-i]?=some p/\x=p.av/\i<=t
 | [],i,t,x,h=>by simp [argT] at h
 | p::ps,i,t,x,h=>by
  rw [argT,List.lookup_cons] at h
  by_cases e:t=i
  ·subst e
   simp at h;subst h
   exact ⟨p,by simp,rfl,ag' _⟩
  ·have:(t==i)=false:=by simpa using e
   rw [this] at h
   obtain ⟨q,h1,h2,h3⟩:=x8 ps (i+1) t x h
   refine ⟨q,?_,h2,by omega⟩
   have:t-i=(t-(i+1))+1:=by omega
   rw [this,List.getElem?_cons_succ];exact h1
theorem pa_ (hti : TIok P ti) {f : FuncId} {fn : Func} {c : Code} {args : List PV} {r : CV} (hf : P.funcs[f]? = some fn) (hb : fn.body = some c) (hname : (fn.name == "runtime.NumGoroutine") = false) (hN : fn.ntmps = N) (hlen : args.length <= N)
  (h:Aw P N 0 c (fun x T L=>(x = .normal\/x = .ret)/\Res ti fn.results.toList T L r) (argT 0 args) []):Pure P f args r:=by
 refine ⟨⟨fn,hf,by rw [hb];rfl,hname⟩,fun R w vs hR hs hv=>?_⟩
 refine calls_of_wp hf hb ?_
 have hi:Inv (· < w.heap.size) R [] [] w:=⟨rfl,hR,fun id x g hx=>by simp at hx,fun i j gi gj h=>by simp at h,fun i g b h=>by simp at h,fun _ h=>h⟩
 have hT:lW N R [] [] (argT 0 args) { tmps:=vs++Array.replicate (fn.ntmps-vs.size) Go.undef,defers:=[] } := by
  refine ⟨by simp;omega,rfl,fun t x ht=>?_⟩
  obtain ⟨p,h1,rfl,_⟩:=x8 args 0 t x ht
  rw [Nat.sub_zero] at h1
  have hlt:t<vs.size:=by rw [hs];exact (agV.1 h1).1
  have hu:vs[t]?=some vs[t]:=ahi hlt
  exact ⟨vs[t],by rw [Array.getElem?_append_left hlt];exact hu,PV.av_rep (hv t _ p hu h1)⟩
 refine wp_mono (h (ahe _) (· < w.heap.size) R [] w _ hi hT) ?_
 rintro e a' w' ⟨x,T',L',R',γ',rfl,⟨hx,hres⟩,i1,t1,e1,_⟩
 obtain ⟨v,h1,h2⟩:=Res.sound hti i1 t1 hres
 rcases hx with rfl|rfl
 ·exact ⟨t1.defers,v,h1,v,R',rfl,e1,i1.val,h2⟩
 ·exact ⟨t1.defers,v,h1,v,R',rfl,e1,i1.val,h2⟩
end
section
variable {P:Program} {ti:TI} {N n0:Nat} {T:Tm} {L:List Ob}
def Fx (ti:TI) (rs:List ResultVar) (T:Tm) (L:List Ob) (r:AV):Prop :=
 (∃ t,rs=[.tmp t]/\T.lookup t=some r)\/(∃ q,Res ti rs T L q/\r=q.av)
structure adH (ti:TI) (rs:List ResultVar) (n0:Nat) (L1:List Ob) (r:AV) (T:Tm) (L:List Ob):Prop where
 val:Fx ti rs T L r
 pre : ∃ G,L=L1++G
 lo:n0<=L1.length
 obb : ∀ x∈L1,x.below L1.length
 vb:r.below L1.length
theorem Fx.sound (hti:TIok P ti) {B:Nat->Prop} {R:PH} {γ:List Gh} {w:World} {a:Act} (hi:Inv B R γ L w) (hT:lW N R γ L T a) {fn:Func} {r:AV} (h:Fx ti fn.results.toList T L r) :
  ∃ v,(results fn a.tmps).run P w = .ok v w/\r.rep R γ L v:=by
 rcases h with ⟨t,hr,ht⟩|⟨q,hr,rfl⟩
 ·obtain ⟨u,h1,h2⟩:=hT.slot t r ht
  refine ⟨u,?_,h2⟩
  have e:fn.results = #[.tmp t]:=by cases h:fn.results;rw [h] at hr;simp at hr;rw [hr]
  rw [xm,e]
  simp [xc,h1]
 ·obtain ⟨v,h1,h2⟩:=Res.sound hti hi hT hr
  exact ⟨v,h1,CV.av_rep h2⟩
def kP:Nat->List AV->Tm
 | _,[]=>[]
 | i,p::ps=>(i,p)::kP (i+1) ps
theorem zn : ∀ (ps:List AV) (i t:Nat) (x:AV),(kP i ps).lookup t=some x->ps[t-i]?=some x/\i<=t
 | [],i,t,x,h=>by simp [kP] at h
 | p::ps,i,t,x,h=>by
  rw [kP,List.lookup_cons] at h
  by_cases e:t=i
  ·subst e
   simp at h;subst h
   exact ⟨by simp,ag' _⟩
  ·have:(t==i)=false:=by simpa using e
   rw [this] at h
   obtain ⟨h1,h3⟩:=zn ps (i+1) t x h
   refine ⟨?_,by omega⟩
   have:t-i=(t-(i+1))+1:=by omega
   rw [this,List.getElem?_cons_succ];exact h1
theorem bN (hti : TIok P ti) {f : FuncId} {fn : Func} {c : Code} {args : List AV} {L0 L1 : List Ob} {r : AV} (hf : P.funcs[f]? = some fn) (hb : fn.body = some c) (hname : (fn.name == "runtime.NumGoroutine") = false) (hN : fn.ntmps = N) (hlen : args.length <= N)
  (h:Aw P N L0.length c (fun x T L=>(x = .normal\/x = .ret)/\adH ti fn.results.toList L0.length L1 r T L) (kP 0 args) L0):Run P f L0 args L1 r:=by
 refine ⟨⟨fn,hf,by rw [hb];rfl,hname⟩,fun B R γ w vs hi hs hv=>?_⟩
 refine calls_of_wp hf hb ?_
 have hT:lW N R γ L0 (kP 0 args) { tmps:=vs++Array.replicate (fn.ntmps-vs.size) Go.undef,defers:=[] } := by
  refine ⟨by simp;omega,rfl,fun t x ht=>?_⟩
  obtain ⟨h1,_⟩:=zn args 0 t x ht
  rw [Nat.sub_zero] at h1
  have hlt:t<vs.size:=by rw [hs];exact (agV.1 h1).1
  have hu:vs[t]?=some vs[t]:=ahi hlt
  exact ⟨vs[t],by rw [Array.getElem?_append_left hlt];exact hu,hv t _ x hu h1⟩
 refine wp_mono (h (ag' _) B R γ w _ hi hT) ?_
 rintro e a' w' ⟨x,T',L',R',γ',rfl,⟨hx,hres⟩,i1,t1,e1,m1⟩
 obtain ⟨v,h1,h2⟩:=Fx.sound hti i1 t1 hres.val
 obtain ⟨G,rfl⟩:=hres.pre
 have hfit:Fits ([]:Tm) (L1++G) [] L1:=⟨fun p hp=>(by cases hp),⟨G,rfl⟩,fun p hp=>(by cases hp),hres.obb⟩
 have hnil:lW N R' γ' (L1++G) ([]:Tm) a':=⟨t1.size,t1.defers,fun t x hx=>by simp at hx⟩
 obtain ⟨j1,_⟩:=hfit.sound i1 hnil
 have hmv:=m1.trans hi.len (hfit.mvn i1 hres.lo)
 have hmv':Mv R R' γ (γ'.take L1.length) L0 L1:=by
  have:=hmv.mv
  rw [ahy (ag' _),ahy (by rw [hi.len];exact ag' _)] at this
  exact this
 have hrep:=AV.cut i1.len h2 hres.vb
 rcases hx with rfl|rfl
 ·exact ⟨t1.defers,v,h1,v,R',_,rfl,j1,e1,hmv',hrep⟩
 ·exact ⟨t1.defers,v,h1,v,R',_,rfl,j1,e1,hmv',hrep⟩
def zY (rs:List ResultVar) (T:Tm) (r:AV):Prop :=
 ∃ s t x y,rs=[.tmp s, .tmp t]/\T.lookup s=some (.one x)/\T.lookup t=some (.one y)/\r = .tupS [x,y]
structure abN (rs:List ResultVar) (n0:Nat) (L1:List Ob) (r:AV) (T:Tm) (L:List Ob):Prop where
 val:zY rs T r
 pre : ∃ G,L=L1++G
 lo:n0<=L1.length
 obb : ∀ x∈L1,x.below L1.length
 vb:r.below L1.length
theorem zY.sound {R:PH} {γ:List Gh} {w:World} {a:Act} (hT:lW N R γ L T a) {fn:Func} {r:AV} (h:zY fn.results.toList T r) :
  ∃ v,(results fn a.tmps).run P w = .ok v w/\r.rep R γ L v:=by
 obtain ⟨s,t,x,y,hr,hs,ht,rfl⟩:=h
 obtain ⟨u,h1,h2⟩:=hT.slot s _ hs
 obtain ⟨v,h3,h4⟩:=hT.slot t _ ht
 refine ⟨.tuple #[u,v],?_, #[u,v],rfl,rfl,fun j z p hz hp=>?_⟩
 ·have e:fn.results = #[.tmp s, .tmp t]:=by cases h:fn.results;rw [h] at hr;simp at hr;rw [hr]
  rw [xm,e]
  simp [xc,h1,h3]
 ·match j,hz,hp with
  | 0,hz,hp=>simp at hz hp;subst hz hp;exact h2
  | 1,hz,hp=>simp at hz hp;subst hz hp;exact h4
  | j+2,hz,hp=>simp at hp
theorem Ik (hti : TIok P ti) {f : FuncId} {fn : Func} {c : Code} {args : List AV} {L0 L1 : List Ob} {r : AV} (hf : P.funcs[f]? = some fn) (hb : fn.body = some c) (hname : (fn.name == "runtime.NumGoroutine") = false) (hN : fn.ntmps = N) (hlen : args.length <= N)
  (h:Aw P N L0.length c (fun x T L=>(x = .normal\/x = .ret)/\abN fn.results.toList L0.length L1 r T L) (kP 0 args) L0):Run P f L0 args L1 r:=by
 refine ⟨⟨fn,hf,by rw [hb];rfl,hname⟩,fun B R γ w vs hi hs hv=>?_⟩
 refine calls_of_wp hf hb ?_
 have hT:lW N R γ L0 (kP 0 args) { tmps:=vs++Array.replicate (fn.ntmps-vs.size) Go.undef,defers:=[] } := by
  refine ⟨by simp;omega,rfl,fun t x ht=>?_⟩
  obtain ⟨h1,_⟩:=zn args 0 t x ht
  rw [Nat.sub_zero] at h1
  have hlt:t<vs.size:=by rw [hs];exact (agV.1 h1).1
  have hu:vs[t]?=some vs[t]:=ahi hlt
  exact ⟨vs[t],by rw [Array.getElem?_append_left hlt];exact hu,hv t _ x hu h1⟩
 refine wp_mono (h (ag' _) B R γ w _ hi hT) ?_
 rintro e a' w' ⟨x,T',L',R',γ',rfl,⟨hx,hres⟩,i1,t1,e1,m1⟩
 obtain ⟨v,h1,h2⟩:=zY.sound t1 hres.val
 obtain ⟨G,rfl⟩:=hres.pre
 have hfit:Fits ([]:Tm) (L1++G) [] L1:=⟨fun p hp=>(by cases hp),⟨G,rfl⟩,fun p hp=>(by cases hp),hres.obb⟩
 have hnil:lW N R' γ' (L1++G) ([]:Tm) a':=⟨t1.size,t1.defers,fun t x hx=>by simp at hx⟩
 obtain ⟨j1,_⟩:=hfit.sound i1 hnil
 have hmv:=m1.trans hi.len (hfit.mvn i1 hres.lo)
 have hmv':Mv R R' γ (γ'.take L1.length) L0 L1:=by
  have:=hmv.mv
  rw [ahy (ag' _),ahy (by rw [hi.len];exact ag' _)] at this
  exact this
 have hrep:=AV.cut i1.len h2 hres.vb
 rcases hx with rfl|rfl
 ·exact ⟨t1.defers,v,h1,v,R',_,rfl,j1,e1,hmv',hrep⟩
 ·exact ⟨t1.defers,v,h1,v,R',_,rfl,j1,e1,hmv',hrep⟩
end
section
variable {P:Program} {ti:TI} {L:List Ob}
theorem A8 {ρ ρ':Operand->Option AV} : ∀ (ps:List (Nat × Operand)) (j:Nat),(∀ p∈ps,ρ p.2=ρ' p.2)->tC ρ ps j=tC ρ' ps j
 | [],_,_=>rfl
 | (i,x)::ps,j,h=>by
  have h1:ρ x=ρ' x:=h (i,x) (by simp)
  have h2:=A8 ps (j+1) fun p hp=>h p (ahh _ hp)
  simp only [tC,h1,h2]
theorem rP {ρ ρ':Operand->Option AV} : ∀ (xs:List Operand),(∀ x∈xs,ρ x=ρ' x)->gL ρ xs=gL ρ' xs
 | [],_=>rfl
 | x::xs,h=>by
  have h1:ρ x=ρ' x:=h x (by simp)
  have h2:=rP xs fun y hy=>h y (ahh _ hy)
  simp only [gL,h1,h2]
theorem Nk {ρ ρ':Operand->Option AV} {op:Op} (h : ∀ x,x∈op.operands->ρ x=ρ' x):pop ti ρ L op=pop ti ρ' L op:=by
 unfold pop
 split
 ·rename_i x;rw [h x (by simp [Op.operands])]
 ·rename_i x;rw [h x (by simp [Op.operands])]
 ·rename_i c x y;rw [h c (by simp [Op.operands]),h x (by simp [Op.operands]),h y (by simp [Op.operands])]
 ·rename_i o t x y yt;rw [h x (by simp [Op.operands]),h y (by simp [Op.operands])]
 ·rename_i o t x;rw [h x (by simp [Op.operands])]
 ·rename_i s d x;rw [h x (by simp [Op.operands])]
 ·rename_i t x;rw [h x (by simp [Op.operands])]
 ·rename_i s x i;rw [h x (by simp [Op.operands])]
 ·rename_i s x i;rw [h x (by simp [Op.operands])]
 ·rename_i t x y;rw [h x (by simp [Op.operands]),h y (by simp [Op.operands])]
 ·rename_i t x y;rw [h x (by simp [Op.operands]),h y (by simp [Op.operands])]
 ·rename_i x i;rw [h x (by simp [Op.operands])]
 ·rename_i x;rw [h x (by simp [Op.operands])]
 ·rename_i t x lo hi
  have h1:lo.map ρ=lo.map ρ':=by cases lo with|none=>rfl|some y=>simp [h y (by simp [Op.operands])]
  have h2:hi.map ρ=hi.map ρ':=by cases hi with|none=>rfl|some y=>simp [h y (by simp [Op.operands])]
  rw [h x (by simp [Op.operands]),h1,h2]
 ·rename_i args ts
  split
  ·rename_i x t hx ht
   rw [h x (by simp [Op.operands,Call.operands];rw [<- Array.mem_toList_iff,hx];simp)]
  ·rfl
 ·rename_i args ts
  have:args.toList.map ρ=args.toList.map ρ':=List.map_congr_left fun x hx=>h x (by simp [Op.operands,Call.operands];simpa using hx)
  rw [this]
 ·rename_i args ts
  have:args.toList.map ρ=args.toList.map ρ':=List.map_congr_left fun x hx=>h x (by simp [Op.operands,Call.operands];simpa using hx)
  rw [this]
 ·rename_i t parts
  have:(parts.toList.map fun p=>(p.1,ρ p.2))=parts.toList.map fun p=>(p.1,ρ' p.2):=List.map_congr_left fun p hp=>by
   rw [h p.2 (by simp only [Op.operands,List.mem_toArray];exact List.mem_map_of_mem hp)]
  rw [this]
 ·rename_i f first captured
  have:captured.toList.map ρ=captured.toList.map ρ':=List.map_congr_left fun x hx=>h x (by simp [Op.operands];exact .inr (by simpa using hx))
  rw [this]
 ·rfl
theorem JO {ρ:Operand->Option AV} {op:Op} {r:AV × List Ob × Prop} (h:He ti ρ L op=some r):cK ti op=true:=by
 unfold He at h
 split at h
 ·rfl
 ·rfl
 ·rfl
 ·rfl
 ·cases h
theorem kC {ρ:Operand->Option AV} {op:Op} {r:FuncId × List (List AC) × Option Nat × List PV} (h:iQ ti ρ op=some r):cK ti op=true:=by
 unfold iQ at h
 split at h
 ·rename_i f args ts
  split at h
  ·rename_i x xs ho hxs;exact ho
  ·cases h
 ·cases h
theorem F5 {ρ ρ':Operand->Option AV} {op:Op} (h : ∀ x,x∈op.operands->ρ x=ρ' x):AQ ti ρ op=AQ ti ρ' op:=by
 unfold AQ
 split
 ·rename_i t len parts
  unfold Fj
  rw [A8 parts.toList 0 fun p hp=>h p.2 (by simp only [Op.operands,List.mem_toArray];exact List.mem_map_of_mem hp)]
 ·rfl
theorem DD {ρ ρ':Operand->Option AV} {op:Op} (h : ∀ x,x∈op.operands->ρ x=ρ' x):xA ρ op=xA ρ' op:=by
 unfold xA
 split
 ·rename_i f args ts
  have h1:ρ f=ρ' f:=h f (by simp [Op.operands,Call.operands])
  have h2:gL ρ args.toList=gL ρ' args.toList:=rP _ fun x hx=>h x (by simp [Op.operands,Call.operands];exact .inr (by simpa using hx))
  rw [h1,h2]
 ·rfl
theorem xu {ρ:Operand->Option AV} {op:Op} {r:FuncId × List AV} (h:fJ ti ρ op=some r):cK ti op=true:=by
 unfold fJ at h
 split at h
 case h_2=>cases h
 split at h
 ·rename_i hc _ _;exact hc
 ·rename_i hc _ _;exact hc
 ·cases h
theorem Rk {ρ:Operand->Option AV} {op:Op} {K:AV->List Ob->Prop} (hl:cK ti op=false) (ha:nM P ti ρ L K op) : ∃ v,nM P ti ρ L (fun v' L'=>v'=v/\L'=L) op/\K v L:=by
 rcases ha with ⟨v,φ,hp,hφ,hk⟩|⟨v,φ,hp,hφ,hk⟩|⟨v,L',φ,hp,_⟩|⟨g,ps,r,hc,hP,hk⟩|⟨g,es,t,k,ps,es',hc,_⟩|⟨g,k,ps,es',hc,_⟩|⟨σ,g,L0,asx,L1,r,hc,_⟩|⟨v,L',hk,_⟩
 ·exact ⟨v, .inl ⟨v,φ,hp,hφ,rfl,rfl⟩,hk⟩
 ·exact ⟨v, .inr (.inl ⟨v,φ,hp,hφ,rfl,rfl⟩),hk⟩
 ·rw [JO hp] at hl;cases hl
 ·exact ⟨r.av, .inr (.inr (.inr (.inl ⟨g,ps,r,hc,hP,rfl,rfl⟩))),hk⟩
 ·rw [kC hc] at hl;cases hl
 ·rw [kC hc] at hl;cases hl
 ·rw [xu hc] at hl;cases hl
 ·rw [hk.1] at hl;cases hl
end
def aa0 (acc:List Nat) (o:Oper):Nat:=o.after.toList.foldl (fun s e=>if Region.binds .any e then s ||| 2 ^ e.on ||| acc.getD e.on 0 else s) 0
def masks:List Oper->List Nat->List Nat
 | [],acc=>acc
 | o::rest,acc=>masks rest (acc++[aa0 acc o])
def lm (ops:Array Oper) (o:Oper):List Tmp:=o.looksAt ops++o.dst.toList
inductive Sy (l:List Oper):Nat->Nat->Prop
 | edge {i:Nat} {o:Oper} {e:Edge} (h:l[i]?=some o) (he:e∈o.after.toList) (hb:Region.binds .any e=true):Sy l i e.on
 | step {i j:Nat} {o:Oper} {e:Edge} (h:l[i]?=some o) (he:e∈o.after.toList) (hb:Region.binds .any e=true) (h2:Sy l e.on j):Sy l i j
theorem Mm (acc:List Nat) (j:Nat) : ∀ (es:List Edge) (s:Nat),(es.foldl (fun s e=>if Region.binds .any e then s ||| 2 ^ e.on ||| acc.getD e.on 0 else s) s).testBit j=true ->
  s.testBit j=true \/ ∃ e∈es,Region.binds .any e=true/\(e.on=j\/(acc.getD e.on 0).testBit j=true)
 | [],s,h => .inl h
 | e::es,s,h=>by
  rw [ahJ] at h
  rcases Mm acc j es _ h with h1|⟨e',h1,h2⟩
  ·by_cases hb:Region.binds .any e=true
   ·rw [if_pos hb,Nat.testBit_or,Nat.testBit_or] at h1
    simp only [Bool.or_eq_true,Nat.testBit_two_pow,decide_eq_true_eq] at h1
    rcases h1 with (h1|h1)|h1
    ·exact .inl h1
    ·exact .inr ⟨e,by simp,hb, .inl h1⟩
    ·exact .inr ⟨e,by simp,hb, .inr h1⟩
   ·rw [if_neg hb] at h1;exact .inl h1
  ·exact .inr ⟨e',ahh _ h1,h2⟩
theorem Cc (l:List Oper) : ∀ (rest:List Oper) (acc:List Nat),(∀ q,l[acc.length+q]?=rest[q]?)->(∀ i j,i<acc.length->(acc.getD i 0).testBit j=true->Sy l i j) ->
  ∀ i j,((masks rest acc).getD i 0).testBit j=true->Sy l i j
 | [],acc,_,h,i,j,hb=>by
  by_cases hi:i<acc.length
  ·exact h i j hi hb
  ·have hb':(acc.getD i 0).testBit j=true:=hb
   rw [ahL,ahH (by omega)] at hb'
   simp at hb'
 | o::rest,acc,hl,h,i,j,hb=>by
  refine Cc l rest (acc++[aa0 acc o]) (fun q=>?_) (fun i j hi hb=>?_) i j hb
  ·have:=hl (q+1)
   simp only [List.getElem?_cons_succ] at this
   rw [<- this];congr 1;simp;omega
  ·by_cases hi2:i<acc.length
   ·rw [ahL,ag9 hi2, <- ahL] at hb
    exact h i j hi2 hb
   ·have:i=acc.length:=by simp at hi;omega
    subst this
    rw [ahL,ag2 (by omega)] at hb
    simp only [Nat.sub_self,List.getElem?_cons_zero,Option.getD_some] at hb
    have ho:l[acc.length]?=some o:=by simpa using hl 0
    rcases Mm acc j _ _ hb with h0|⟨e,he,hbd,h1|h1⟩
    ·simp at h0
    ·subst h1;exact .edge ho he hbd
    ·by_cases hlt:e.on<acc.length
     ·exact .step ho he hbd (h e.on j hlt h1)
     ·rw [ahL,ahH (by omega)] at h1
      simp at h1
structure Done (l:List Oper) (listed:Array Bool):Prop where
 size:listed.size=l.length
 down : ∀ (i:Nat) o,l[i]?=some o->listed[i]?=some true -> ∀ e∈o.after.toList,Region.binds .any e=true->listed[e.on]?=some true
theorem Done.anc {l:List Oper} {listed:Array Bool} (h:Done l listed) {i j:Nat} (ha:Sy l i j) (hd : ∀ o,l[i]?=some o -> ∀ e∈o.after.toList,Region.binds .any e=true->listed[e.on]?=some true):listed[j]?=some true:=by
 induction ha with
 | edge ho he hb=>exact hd _ ho _ he hb
 | step ho he hb _ ih=>exact ih fun o ho'=>h.down _ o ho' (hd _ ho _ he hb)
theorem Done.put {l:List Oper} {listed:Array Bool} (h:Done l listed) {i:Nat} (hi : ∀ o,l[i]?=some o -> ∀ e∈o.after.toList,Region.binds .any e=true->listed[e.on]?=some true):Done l (listed.setIfInBounds i true):=by
 refine ⟨by simp [h.size],fun j o ho hj e he hb=>?_⟩
 have key:listed[e.on]?=some true:=by
  by_cases hij:j=i
  ·subst hij;exact hi o ho e he hb
  ·rw [ahC (Ne.symm hij)] at hj
   exact h.down j o ho hj e he hb
 by_cases hx:e.on=i
 ·rw [hx,ahM (by rw [hx] at key;exact (ahD.1 key).1)]
 ·rw [ahC (Ne.symm hx)];exact key
def kJ (ds:List (Option Tmp)) (T:Tm):Option (Nat × Bool)->Option Bool
 | none=>some true
 | some (j,want)=>match ds[j]? with
  | some (some d)=>match T.lookup d with
   | some (.one (.c (.bool b)))=>some (b==want)
   | some .undef=>some false
   | _=>none
  | _=>none
theorem aaP {ds:List (Option Tmp)} {T:Tm} {A B:Prop} {g:Option (Nat × Bool)} (h:gd ds T A B g):(kJ ds T g=some true/\A)\/(kJ ds T g=some false/\B):=by
 cases g with
 | none=>exact .inl ⟨rfl,h⟩
 | some p =>
  obtain ⟨j,want⟩:=p
  simp only [gd] at h
  simp only [kJ]
  split at h
  ·rename_i d hd
   try simp only [hd]
   split at h
   ·rename_i b hb
    try simp only [hb]
    by_cases hbw:b=want
    ·exact .inl ⟨by simp [hbw],h.1 hbw⟩
    ·exact .inr ⟨by simp [hbw],h.2 (by cases b<;>cases want<;>simp_all)⟩
   ·rename_i hb
    try simp only [hb]
    exact .inr ⟨by simp,h⟩
   ·exact h.elim
  ·exact h.elim
def l5:List Oper->List AV->Tm->Nat->Tm
 | o::l,v::vs,T,i+1=>l5 l vs (Et T o.dst v) i
 | _,_,T,_=>T
theorem JK {T:Tm} {d:Option Tmp} {v:AV} {t:Nat} (h:d≠some t):(Et T d v).lookup t=T.lookup t:=by
 cases d with
 | none=>rfl
 | some d =>
  have:(t==d)=false:=by simp;intro e;exact h (by rw [e])
  simp [Et,List.lookup_cons,this]
theorem rW {t:Nat} : ∀ (l:List Oper) (vs:List AV) (T:Tm) (i:Nat),(∀ j o,j<i->l[j]?=some o->o.dst≠some t)->(l5 l vs T i).lookup t=T.lookup t
 | o::l,v::vs,T,i+1,h=>by
  rw [l5,rW l vs _ i fun j o' hj ho=>h (j+1) o' (by omega) (by simpa using ho),JK (h 0 o (by omega) rfl)]
 | [],_,_,_,_=>by simp [l5]
 | _::_,[],_,_,_=>by simp [l5]
 | _::_,_::_,_,0,_=>by simp [l5]
theorem zX {t:Nat} : ∀ (l:List Oper) (vs:List AV) (T:Tm) (i j:Nat) (o:Oper) (v:AV),j<i->l[j]?=some o->o.dst=some t->vs[j]?=some v->(∀ k o',j<k->k<i->l[k]?=some o'->o'.dst≠some t)->(∀ k,k<i->k<=j->k<vs.length)->(l5 l vs T i).lookup t=some v
 | [],_,_,_,_,_,_,_,h,_,_,_,_=>by simp at h
 | _::_,[],_,_,_,_,_,_,_,_,h,_,_=>by simp at h
 | _::_,_::_,_,0,_,_,_,h,_,_,_,_,_=>by omega
 | o0::l,v0::vs,T,i+1,0,o,v,_,ho,hd,hv,hk,_=>by
  simp at ho hv;subst ho hv
  rw [l5,rW l vs _ i fun j o' hj ho'=>hk (j+1) o' (by omega) (by omega) (by simpa using ho'),hd]
  simp [Et,List.lookup_cons]
 | o0::l,v0::vs,T,i+1,j+1,o,v,hj,ho,hd,hv,hk,hl=>by
  rw [l5]
  exact zX l vs _ i j o v (by omega) (by simpa using ho) hd (by simpa using hv) (fun k o' h1 h2 h3=>hk (k+1) o' (by omega) (by omega) (by simpa using h3)) (fun k h1 h2=>by have:=hl (k+1) (by omega) (by omega);simpa using this)
section
variable {P:Program} {ti:TI} {B:Nat->Prop} {N n0:Nat} {γ:List Gh} {L:List Ob}
theorem zV {ops:Array Oper} {ds:List (Option Tmp)} (hds : ∀ j:Nat,(ops[j]?).map (·.dst)=ds[j]?) {T:Tm} {R:PH} {a:Act} {o:Oper} {b:Bool} (hs : ∀ d x,d∈o.looksAt ops->T.lookup d=some x -> ∃ u,a.tmps[d]?=some u/\x.rep R γ L u) (h:kJ ds T o.guard=some b):Region.wanted o (yielded ops a.tmps)=b:=by
 cases hg:o.guard with
 | none=>rw [hg] at h;injection h with h;subst h;simp [Region.wanted,hg]
 | some p =>
  obtain ⟨j,want⟩:=p
  rw [hg] at h
  simp only [kJ] at h
  split at h
  ·rename_i d hd0
   have hd:(ops[j]?).bind (·.dst)=some d:=by
    have:=hds j
    rw [hd0] at this
    cases ho:ops[j]? with
    | none=>simp [ho] at this
    | some o'=>simpa [ho] using this
   have hmem:d∈o.looksAt ops:=by
    unfold Oper.looksAt
    rw [hg]
    simp [hd]
   split at h
   ·rename_i b' hb
    injection h with h;subst h
    obtain ⟨u,h1,h2⟩:=hs d _ hmem hb
    cases h2
    have hy:yielded ops a.tmps j=some b':=by simp [yielded,hd,h1]
    simp [Region.wanted,hg,hy]
   ·rename_i hb
    injection h with h;subst h
    obtain ⟨u,h1,h2⟩:=hs d _ hmem hb
    have h2':u=Go.undef:=h2
    subst h2'
    have hy:yielded ops a.tmps j=none:=by simp [yielded,hd,h1,Go.undef]
    simp [Region.wanted,hg,hy]
   ·cases h
  ·cases h
theorem EP {α:Type} {p q:α->Bool} : ∀ (l:List α),(∀ x∈l,q x=true->p x=true)->(∃ x∈l,p x=true/\q x=false)->l.countP q<l.countP p
 | [],_,⟨x,hx,_⟩=>by cases hx
 | y::l,h,⟨x,hx,h1,h2⟩=>by
  have hle:l.countP q<=l.countP p:=List.countP_mono_left fun z hz=>h z (ahh _ hz)
  rw [List.countP_cons,List.countP_cons]
  rcases aha.1 hx with rfl|hx
  ·rw [h1,h2];simp;omega
  ·have:=EP l (fun z hz=>h z (ahh _ hz)) ⟨x,hx,h1,h2⟩
   have hy:=h y (by simp)
   cases hq:q y<;>cases hp:p y<;>simp_all<;>omega
def yI (n:Nat) (listed:Array Bool):Nat:=(List.range n).countP fun i=>listed[i]?==some false
end
end Go.Proofs.YtcehmafobkhdbaaGreatDoor
