/- Parts of the proof, joined. No condition. -/
import Derived.Test.YtlcceppoloaecaaGreatDoorKAA
import Derived.Test.YtlcceppoloaecaaGreatDoorKAE
import Derived.Laws.MakeOwn
import Derived.Lib.UnsafeStr
import Derived.Lib.Builder
import Derived.Laws.OwnMore
set_option linter.unusedSimpArgs false
set_option linter.unusedVariables false
namespace Go.Proofs.YtlcceppoloaecaaGreatDoor
open Go.RowKit Go.MapKept
structure jH (R:PH) (γ:List Gh) (L:List Ob) (k:Nat) (xs:List (List SV)) (news:List Value):Prop where
 len:news.length=xs.length*k
 wide : ∀ e∈xs,e.length=k
 rep : ∀ (i:Nat) e (j:Nat) u x,xs[i]?=some e->news[i*k+j]?=some u->e[j]?=some x->x.rep R γ L u
 one : ∀ u∈news,u.oneCell'=true
def bQ (s:ByteArray):List (List SV):=s.data.toList.map fun b=>[.c (.int .u8 b.toNat)]
section
variable {P:Program} {ti:TI} {B:Nat->Prop} {N:Nat} {R:PH} {γ:List Gh} {L:List Ob} {w:World} {ρ:Operand->Option AV}
theorem Mv.setOb {id:Nat} {x x':Ob} {g':Gh} {R':PH} (hs:PH.sub R R') (hl:γ.length=L.length) (hx:L[id]?=some x) (hnb : ∀ b,γ[id]?≠some (.box b)) (htok : ∀ n k,x' ≠ .spare n k) (hrow : ∀ ver' es' k,x' = .row ver' es' k -> ∃ ver es,x = .row ver es k/\ver<ver') :
  Mv R R' γ (γ.set id g') L (L.set id x'):=by
 have hlt:id<L.length:=(ap0.1 hx).1
 refine ⟨hs,by simp,fun t n k _ h=>?_,fun t ver es k _ h=>?_,fun j b h=>?_⟩
 ·by_cases e:t=id
  ·subst e;rw [aqh hlt] at h;injection h with h;exact absurd h (htok n k)
  ·rw [aqi (Ne.symm e)] at h;exact ⟨n,h,aqe _,fun _=>by rw [aqi (Ne.symm e)]⟩
 ·by_cases e:t=id
  ·subst e;rw [aqh hlt] at h;injection h with h
   obtain ⟨v0,e0,h1,h2⟩:=hrow ver es k h
   exact ⟨v0,e0,by rw [hx,h1],by omega,fun q=>by omega⟩
  ·rw [aqi (Ne.symm e)] at h;exact ⟨ver,es,h,aqe _,fun _=>⟨rfl,by rw [aqi (Ne.symm e)]⟩⟩
 ·have:j≠id:=by rintro rfl;exact hnb b h
  rw [aqi (Ne.symm this)];exact h
theorem Inv.rehome (hi:Inv B R γ L w) {id:Nat} {x x':Ob} {g':Gh} (hx:L[id]?=some x) (hg':g'.block=some w.heap.size) (o:Obj) (hm:Mv R R γ (γ.set id g') L (L.set id x'))
  (hobj:tu R (γ.set id g') (L.set id x') (w.drew.alloc o) x' g'):Inv B R (γ.set id g') (L.set id x') (w.drew.alloc o):=by
 have hlt:id<L.length:=(ap0.1 hx).1
 have gcase : ∀ j h,(γ.set id g')[j]?=some h->(j=id/\h=g')\/(j≠id/\γ[j]?=some h):=by
  intro j h hh
  by_cases hj:j=id
  ·subst hj
   rw [aqh (by rw [hi.len];exact hlt)] at hh
   injection hh with hh
   exact .inl ⟨rfl,hh.symm⟩
  ·rw [aqi (Ne.symm hj)] at hh
   exact .inr ⟨hj,hh⟩
 have hold : ∀ b,b<w.heap.size->(w.drew.alloc o).heap[b]?=w.heap[b]?:=fun b hb=>jm w.drew _ hb
 have esz:(w.drew.alloc o).heap.size=w.heap.size+1:=by show (w.heap.push _).size=_;simp
 refine ⟨by simp [hi.len],fun b o' u h=>?_,fun j y h hy hh=>?_,fun j1 j2 g1 g2 h1 h2 hne b hb=>?_,fun j h b hh hb=>?_,fun b hb=>by have:=hi.bsz b hb;omega⟩
 ·have:=hi.lt h
  rw [<- hi.val _ _ _ h]
  exact World.cell?_of_block (w:=w) (hold b this)
 ·rcases gcase j h hh with ⟨rfl,rfl⟩|⟨hne,hh'⟩
  ·rw [aqh hlt] at hy
   injection hy with hy;subst hy
   exact hobj
  ·rw [aqi (Ne.symm hne)] at hy
   exact (hi.obj j y h hy hh').mv hm (fun b hb=>hold b (hi.new j h b hh' hb).2) (fun _ _ _ e=>e)
 ·rcases gcase j1 g1 h1 with ⟨a1,rfl⟩|⟨a1,a2⟩<;>rcases gcase j2 g2 h2 with ⟨b1,rfl⟩|⟨b1,b2⟩
  ·omega
  ·rw [hg'] at hb;injection hb with hb;subst hb
   intro e;have:=(hi.new j2 g2 _ b2 e).2;omega
  ·have:=(hi.new j1 g1 b a2 hb).2
   rw [hg'];simp;omega
  ·exact hi.inj j1 j2 g1 g2 a2 b2 hne b hb
 ·rcases gcase j h hh with ⟨_,rfl⟩|⟨_,b2⟩
  ·rw [hg'] at hb;injection hb with hb;subst hb
   exact ⟨fun hB=>by have:=hi.bsz _ hB;omega,by omega⟩
  ·have:=hi.new j h b b2 hb
   exact ⟨this.1,by omega⟩
theorem Inv.kill (hi:Inv B R γ L w) {id:Nat} {x:Ob} {g:Gh} {b:Nat} (hx:L[id]?=some x) (hg:γ[id]?=some g) (hb:g.block=some b) (hnb : ∀ b,g ≠ .box b) {R':PH} {w':World} (hs:PH.sub R R')
  (hw : ∀ b',b'≠b->w'.heap[b']?=w.heap[b']?) (hsz:w'.heap.size=w.heap.size) (hR : ∀ b' o,b'≠b->R' b' o=R b' o) (hv : ∀ o u,R' b o=some u->w'.cell? ⟨b,o,none⟩=some u) :
  Inv B R' (γ.set id .none) (L.set id .dead) w'/\Mv R R' γ (γ.set id .none) L (L.set id .dead):=by
 have hlt:id<L.length:=(ap0.1 hx).1
 have hm:Mv R R' γ (γ.set id .none) L (L.set id .dead):=Mv.setOb hs hi.len hx (fun b e=>by rw [hg] at e;injection e with e;exact hnb b e) (fun _ _ e=>by cases e) (fun _ _ _ e=>by cases e)
 have gcase : ∀ j h,(γ.set id Gh.none)[j]?=some h->(j=id/\h = .none)\/(j≠id/\γ[j]?=some h):=by
  intro j h hh
  by_cases hj:j=id
  ·subst hj
   rw [aqh (by rw [hi.len];exact hlt)] at hh
   injection hh with hh
   exact .inl ⟨rfl,hh.symm⟩
  ·rw [aqi (Ne.symm hj)] at hh
   exact .inr ⟨hj,hh⟩
 refine ⟨⟨by simp [hi.len],fun b' o u h=>?_,fun j y h hy hh=>?_,fun j1 j2 g1 g2 h1 h2 hne b' hb'=>?_,fun j h b' hh hb'=>?_,fun b' hb'=>by rw [hsz];exact hi.bsz b' hb'⟩,hm⟩
 ·by_cases hbb:b'=b
  ·subst hbb;exact hv o u h
  ·rw [hR b' o hbb] at h
   rw [<- hi.val _ _ _ h]
   exact World.cell?_of_block (w:=w) (hw b' hbb)
 ·rcases gcase j h hh with ⟨rfl,rfl⟩|⟨hne,hh'⟩
  ·rw [aqh hlt] at hy
   injection hy with hy;subst hy
   trivial
  ·rw [aqi (Ne.symm hne)] at hy
   have hne' : ∀ b',h.block=some b'->b'≠b:=fun b' hb' e=>hi.inj j id h g hh' hg hne b' hb' (by rw [hb,e])
   exact (hi.obj j y h hy hh').mv hm (fun b' hb'=>hw b' (hne' b' hb')) (fun b' o hb' e=>by rw [hR b' o (hne' b' hb')];exact e)
 ·rcases gcase j1 g1 h1 with ⟨a1,rfl⟩|⟨a1,a2⟩<;>rcases gcase j2 g2 h2 with ⟨b1,rfl⟩|⟨b1,b2⟩
  ·omega
  ·cases hb'
  ·exact fun e=>by cases e
  ·exact hi.inj j1 j2 g1 g2 a2 b2 hne b' hb'
 ·rcases gcase j h hh with ⟨_,rfl⟩|⟨_,b2⟩
  ·cases hb'
  ·rw [hsz];exact hi.new j h b' b2 hb'
theorem jH.ofC {k:Nat} {xs:List (List AC)} {news:List Value} (h:Cells R k xs news):jH R γ L k (xs.map (List.map SV.c)) news:=by
 refine ⟨by rw [h.len];simp,fun e he=>?_,fun i e j u x he hu hx=>?_,h.one⟩
 ·obtain ⟨y,hy,rfl⟩:=aqz.1 he;simpa using h.wide y hy
 ·rw [aql] at he
  cases hq:xs[i]? with
  | none=>simp [hq] at he
  | some y =>
   simp [hq] at he;subst he
   rw [aql] at hx
   cases hq2:y[j]? with
   | none=>simp [hq2] at hx
   | some z =>
    simp [hq2] at hx;subst hx
    obtain ⟨u',g1,g2⟩:=h.get i y j z hq hq2
    rw [hu] at g1;injection g1 with g1;subst g1
    exact g2
theorem jH.ofStr (s:ByteArray):jH R γ L 1 (bQ s) (byteCells s):=by
 refine ⟨by rw [byteCells_length];simp [bQ],fun e he=>?_,fun i e j u x he hu hx=>?_,fun u hu=>?_⟩
 ·obtain ⟨y,hy,rfl⟩:=aqz.1 he;rfl
 ·unfold bQ at he;unfold byteCells at hu
  rw [aql] at he
  cases hq:s.data.toList[i]? with
  | none=>rw [hq] at he;simp at he
  | some y =>
   rw [hq] at he;simp at he;subst he
   have hj:j=0:=by have:=(ap0.1 hx).1;simpa using this
   subst hj
   simp at hx;subst hx
   rw [Nat.mul_one,Nat.add_zero,aql,hq] at hu
   simp at hu;subst hu
   exact .int _ _
 ·unfold byteCells at hu
  obtain ⟨y,hy,rfl⟩:=aqz.1 hu;rfl
theorem jH.mv {R':PH} {γ':List Gh} {L':List Ob} (h:Mv R R' γ γ' L L') {k:Nat} {xs:List (List SV)} {news:List Value} (hc:jH R γ L k xs news):jH R' γ' L' k xs news :=
 ⟨hc.len,hc.wide,fun i e j u x he hu hx=>SV.mv h (hc.rep i e j u x he hu hx),hc.one⟩
theorem jH.app {es xs:List (List SV)} {k:Nat} {olds news:List Value} (h:jH R γ L k es olds) (g:jH R γ L k xs news):jH R γ L k (es++xs) (olds++news):=by
 refine ⟨by rw [ap8,h.len,g.len,ap8,Nat.add_mul],fun e he=>?_,fun i e j u x he hu hx=>?_,fun u hu=>?_⟩
 ·rcases aqr.1 he with he|he
  ·exact h.wide e he
  ·exact g.wide e he
 ·by_cases hi:i<es.length
  ·rw [aqc hi] at he
   have hjk:j<k:=by rw [<- h.wide e (ap6 he)];exact (ap0.1 hx).1
   rw [aqc (by rw [h.len];exact zk hi hjk)] at hu
   exact h.rep i e j u x he hu hx
  ·rw [ap7 (by omega)] at he
   have hle:es.length*k<=i*k:=aqB _ (by omega)
   rw [ap7 (by rw [h.len];omega),h.len] at hu
   refine g.rep (i-es.length) e j u x he ?_ hx
   rw [Nat.mul_sub_right_distrib]
   have:i*k-es.length*k+j=i*k+j-es.length*k:=by omega
   rw [this];exact hu
 ·rcases aqr.1 hu with hu|hu
  ·exact h.one u hu
  ·exact g.one u hu
theorem SV.one_cell {x:SV} {u:Value} (h:x.rep R γ L u):u.oneCell'=true:=(SV.rep_one h).2
theorem kZ (hi:Inv B R γ L w) {id ver k b c:Nat} {es:List (List SV)} (hL:L[id]?=some (.row ver es k)) (hg:γ[id]?=some (.arr b c)) :
  ∃ vs E,w.heap[b]?=some (.cells vs E (0,0))/\(E=ver%65536/\65536<=ver)/\vs.size=c*k/\es.length<=c/\0<k/\jH R γ L k es (vs.toList.take (es.length*k)) /\ ∀ o,R b o=none:=by
 obtain ⟨⟨vs,E,h1,h2,h3⟩,h4,h5,h6,h7⟩:=hi.obj id _ _ hL hg
 have hle:es.length*k<=c*k:=aqB _ h4
 have get : ∀ (i:Nat) e (j:Nat) u,es[i]?=some e->j<k->(vs.toList.take (es.length*k))[i*k+j]?=some u->vs[i*k+j]?=some u:=by
  intro i e j u he hj hu
  rw [aqt,if_pos (zk (ap0.1 he).1 hj)] at hu
  simpa using hu
 refine ⟨vs,E,h1.1,h1.2,h2,h4,h5,⟨by simp;omega,h6,fun i e j u x he hu hx=>?_,fun u hu=>?_⟩,h7⟩
 ·have hjk:j<k:=by rw [<- h6 e (ap6 he)];exact (ap0.1 hx).1
  exact h3 i e j u x he (get i e j u he hjk hu) hx
 ·obtain ⟨q,hq⟩:=List.mem_iff_getElem?.1 hu
  have hlt:=(ap0.1 hq).1
  have hq1:q<es.length*k:=by rw [aqQ] at hlt;omega
  have hi1:q/k<es.length:=by rw [Nat.div_lt_iff_lt_mul h5];exact hq1
  have hj1:q%k<k:=Nat.mod_lt _ h5
  have he:=ap9 hi1
  have hx:=ap9 (l:=es[q/k]) (i:=q%k) (by rw [h6 _ (ap6 he)];exact hj1)
  have hqe:q/k*k+q%k=q:=by rw [Nat.mul_comm];exact Nat.div_add_mod q k
  exact SV.one_cell (h3 (q/k) _ (q%k) u _ he (by
   rw [hqe];rw [aqt,if_pos hq1] at hq;simpa using hq) hx)
theorem akD (hi:Inv B R γ L w) {t tx ty E:TypeId} {k by_:Nat} {es xs:List (List SV)} {id ver n:Nat} {v x:Value} (ht:P.underlying t=some (.slice E)) (hk0:0<k) (hz:abN P E k) (hby:qg P E=some by_) (hE:ver%65536=E)
  (hL:L[id]?=some (.row ver es k)) (hv:(SV.sl id ver 0 n).rep R γ L v) (hn:es.length=n) {news:List Value} (hsrc:Src P k tx x xs.length news w) (hnews:jH R γ L k xs news)
  (hb1:(n+xs.length)*by_<=140737488355328) (hb2:n+xs.length<=140737488355328) :
  ∃ u w' γ',(Builtin.append_ #[t,tx] ty #[v,x]).run P w = .ok u w'/\Inv B R γ' (L.set id (.row (ver+65536) (es++xs) k)) w'/\Ext B R R w w'/\Mv R R γ γ' L (L.set id (.row (ver+65536) (es++xs) k)) /\
   (SV.sl id (ver+65536) 0 (n+xs.length)).rep R γ' (L.set id (.row (ver+65536) (es++xs) k)) u:=by
 obtain ⟨inf,z,hinf,hzz,hisz,hzc⟩:=hz
 have hbytes:inf.bytes=by_:=by unfold qg at hby;rw [hinf] at hby;simpa using hby
 obtain ⟨hvc,hlt,hall⟩:=hv
 obtain ⟨hle,g,hg,hat⟩:=(hall _ es k hL).2 rfl
 have hsrc':Src P inf.size tx x xs.length news w:=by rw [hisz];exact hsrc
 have hnl:news.length=xs.length*k:=hnews.len
 have hglt:id<γ.length:=by rw [hi.len];exact hlt
 have hmv : ∀ g',(∀ b,g ≠ .box b)->Mv R R γ (γ.set id g') L (L.set id (.row (ver+65536) (es++xs) k)):=fun g' hnb =>
  Mv.setOb (PH.sub_refl _) hi.len hL (fun b e=>by rw [hg] at e;injection e with e;exact hnb b e) (fun _ _ e=>by cases e) (fun ver' es' k' e=>by injection e with e1 e2 e3;subst e1 e2 e3;exact ⟨ver,es,rfl,by omega⟩)

 have grow : ∀ (a:Option Addr) (c:Nat) (olds:List Value),v = .slice a n c->c<n+xs.length->(∀ b,g ≠ .box b)->jH R γ L k es olds->(Builtin.firstCells inf.size n (.slice a n c)).run P w.drew = .ok olds.toArray w.drew ->
   ∃ u w' γ',(Builtin.append_ #[t,tx] ty #[v,x]).run P w = .ok u w'/\Inv B R γ' (L.set id (.row (ver+65536) (es++xs) k)) w'/\Ext B R R w w'/\Mv R R γ γ' L (L.set id (.row (ver+65536) (es++xs) k)) /\
   (SV.sl id (ver+65536) 0 (n+xs.length)).rep R γ' (L.set id (.row (ver+65536) (es++xs) k)) u:=by
  intro a c olds hva hc hnb holds hfc
  have hrun:=run_append_grow_src (P:=P) (w:=w) t tx ty E inf z ht hinf hzz a n c olds hfc x xs.length news hsrc' hc (by omega) (by
   have h2:=nextslicecap_le hc
   have h3:Builtin.nextslicecap (n+xs.length) c*inf.bytes<=2*(n+xs.length)*inf.bytes:=aqB _ h2
   rw [hbytes] at h3 ⊢
   rw [Nat.mul_assoc] at h3
   omega)
  have hcap:=grownCap_ge w (n+xs.length) c E
  generalize grownCap w (n+xs.length) c E=cap at hrun hcap
  have hm:=hmv (.arr w.heap.size cap) hnb
  have happ:=(holds.app hnews).mv hm
  have hal:(olds++news).length=(n+xs.length)*k:=by rw [happ.len,ap8,hn]
  have hI:=hi.rehome hL (g' := .arr w.heap.size cap) rfl (.cells ((olds++news).toArray++Builtin.zeroCells z.cells (cap-(n+xs.length))) E) hm (by
   refine ⟨⟨_,E,⟨gD w.drew _,by rw [<- hE];show ver%65536=(ver+65536)%65536;omega,by omega⟩,?_,fun i e j u x he hu hx=>?_⟩,by rw [ap8,hn];exact hcap,hk0,happ.wide,fun o=>hi.none_at o⟩
   ·rw [Array.size_append,size_zeroCells,hzc];simp only [List.size_toArray];rw [hal, <- Nat.add_mul];congr 1;omega
   ·have hjk:j<k:=by rw [<- happ.wide e (ap6 he)];exact (ap0.1 hx).1
    have hil:i<n+xs.length:=by have:=(ap0.1 he).1;simpa [hn] using this
    rw [Array.getElem?_append_left (by simp only [List.size_toArray];rw [hal];exact zk hil hjk)] at hu
    exact happ.rep i e j u x he (by simpa using hu) hx)
  refine ⟨_,_,_,by rw [hva];exact hrun,hI,?_,hm,⟨rfl,rfl⟩,by simpa using hlt,fun ver2 es2 k2 e2=>?_⟩
  ·exact ⟨⟨rfl,rfl,rfl,by show w.heap.size<=(w.heap.push _).size;simp,fun b hb=>jm w.drew _ (hi.bsz b hb)⟩,PH.sub_refl _,fun _ _ _=>rfl⟩
  ·rw [aqh hlt] at e2;injection e2 with e2;injection e2 with q1 q2 q3;subst q1 q2 q3
   refine ⟨aqe _,fun _=>⟨by simp [hn], .arr w.heap.size cap,aqh hglt, .inl ?_⟩⟩
   simp
 match g,hg,hat with
 | .none,hg,⟨⟨a0,hva,_⟩,hn0,_⟩ =>
  have he0:es=[]:=hi.obj id _ _ hL hg
  subst he0 hn0
  by_cases hm:xs.length=0
  ·have hx0:xs=[]:=aqo hm
   subst hx0
   have hnn:news=[]:=aqo (by rw [hnl];simp)
   rw [hnn] at hsrc'
   have hrun:=run_append_nothing (P:=P) w t tx ty E inf ht hinf a0 0 0 (aqe _) x hsrc'
   have hm0:=hmv .none (fun b e=>by cases e)
   have hgs:γ.set id .none=γ:=by
    apply List.ext_getElem?
    intro j
    by_cases hj:j=id
    ·subst hj;rw [aqh hglt,hg]
    ·rw [aqi (Ne.symm hj)]
   rw [hgs] at hm0
   refine ⟨v,w,γ,by rw [hva];exact hrun,?_,Ext.refl _ _ _,hm0,hvc,by simpa using hlt,fun ver2 es2 k2 e2=>?_⟩
   ·refine ⟨by simp [hi.len],hi.val,fun j y h hy hh=>?_,hi.inj,hi.new,hi.bsz⟩
    by_cases hj:j=id
    ·subst hj
     rw [aqh hlt] at hy;injection hy with hy;subst hy
     rw [hg] at hh;injection hh with hh;subst hh
     rfl
    ·rw [aqi (Ne.symm hj)] at hy
     exact (hi.obj j y h hy hh).mv hm0 (fun _ _=>rfl) (fun _ _ _ e=>e)
   ·rw [aqh hlt] at e2;injection e2 with e2;injection e2 with q1 q2 q3;subst q1 q2 q3
    exact ⟨aqe _,fun _=>⟨by simp, .none,hg,⟨a0,hva,fun h=>by omega⟩,rfl,rfl⟩⟩
  ·refine grow a0 0 [] hva (by omega) (fun b e=>by cases e) ⟨by simp,by simp,fun i e j u x he=>by simp at he,by simp⟩ ?_
   cases a0 with
   | none=>exact run_firstCells_none w.drew inf.size 0 0 0
   | some ad=>exact run_firstCells_some w.drew inf.size 0 ad 0 0 [] (by simp) (fun j u hu=>by simp at hu)
 | .arr b c,hg,hat =>
  obtain ⟨vs,E2,hb,hE2,hsz,hnc,hk,hcells,hRn⟩:=kZ hi hL hg
  have hc0:v = .slice (some ⟨b,0,none⟩) n c\/(c=0/\n=0 /\ ∃ a,v = .slice a 0 0):=by
   rcases hat with hat|⟨q1,q2,q3⟩
   ·left;rw [hat];simp
   ·exact .inr ⟨q1,q2,q3⟩
  by_cases hroom:n+xs.length<=c
  ·have hle2:(n+xs.length)*k<=c*k:=aqB _ hroom
   have hadd:n*k+news.length=(n+xs.length)*k:=by rw [hnl,Nat.add_mul]
   obtain ⟨cs',g1,g2,g3⟩:=lH b E2 (0,0) news (n*k) w vs hb (by omega)
   have hgs:γ.set id (.arr b c)=γ:=by
    apply List.ext_getElem?
    intro j
    by_cases hj:j=id
    ·subst hj;rw [aqh hglt,hg]
    ·rw [aqi (Ne.symm hj)]
   have hm0:=hmv (.arr b c) (fun b e=>by cases e)
   rw [hgs] at hm0
   have hcs:vs.toList.take (es.length*k)=vs.toList.take (n*k):=by rw [hn]
   rw [hcs] at hcells
   have happ:=(hcells.app hnews).mv hm0
   have hI:Inv B R γ (L.set id (.row (ver+65536) (es++xs) k)) (w.setCells b (n*k) news):=by
    refine hi.turn hL hg rfl hm0 (fun b' hne=>iJ b hne _ _ _) (jW _ _ _ _) (fun _ _ _=>rfl) (fun o u h=>by rw [hRn o] at h;cases h) ?_
    refine ⟨⟨cs',E2,⟨g1,by rw [hE2.1];show ver%65536=(ver+65536)%65536;omega,by omega⟩,by rw [g2];exact hsz,fun i e j u x he hu hx=>?_⟩,by rw [ap8,hn];exact hroom,hk,happ.wide,hRn⟩
    have hjk:j<k:=by rw [<- happ.wide e (ap6 he)];exact (ap0.1 hx).1
    have hil:i<n+xs.length:=by have:=(ap0.1 he).1;simpa [hn] using this
    have hlt2:=zk hil hjk
    refine happ.rep i e j u x he ?_ hx
    rw [g3] at hu
    have htl:(vs.toList.take (n*k)).length=n*k:=by simp;omega
    by_cases hc2:n*k<=i*k+j
    ·rw [if_pos (by omega)] at hu
     rw [ap7 (by omega),htl];exact hu
    ·rw [if_neg (by omega)] at hu
     rw [aqc (by omega),aqt,if_pos (by omega)];simpa using hu
   have hE:Ext B R R w (w.setCells b (n*k) news):=⟨jq (hi.new id _ b hg rfl).1 _ _ _,PH.sub_refl _,fun _ _ _=>rfl⟩
   rcases hc0 with hv2|⟨q1,q2,a,q3⟩
   ·have hrun:=run_append_room_src (P:=P) (w:=w) t tx ty E inf ht hinf b 0 n c x xs.length news hsrc' hroom
     (fun j hj=>by
      rw [hisz,cob_ hb]
      have:0+n*k+j<vs.size:=by omega
      rw [aqn this];rfl)
     (fun j hj=>by simp [World.frozen?,hb])
    rw [hisz,aqH] at hrun
    refine ⟨_,_,γ,by rw [hv2];exact hrun,hI,hE,hm0,⟨rfl,rfl⟩,by simpa using hlt,fun ver2 es2 k2 e2=>?_⟩
    rw [aqh hlt] at e2;injection e2 with e2;injection e2 with p1 p2 p3;subst p1 p2 p3
    refine ⟨aqe _,fun _=>⟨by simp [hn], .arr b c,hg, .inl ?_⟩⟩
    simp
   ·have hxl:xs.length=0:=by omega
    have hnn:news=[]:=aqo (by rw [hnl,hxl];simp)
    rw [hnn,hxl] at hsrc'
    have hrun:=run_append_nothing (P:=P) w t tx ty E inf ht hinf a 0 0 (aqe _) x hsrc'
    rw [hnn] at hI hE
    refine ⟨v,_,γ,by rw [q3];exact hrun,hI,hE,hm0,hvc,by simpa using hlt,fun ver2 es2 k2 e2=>?_⟩
    rw [aqh hlt] at e2;injection e2 with e2;injection e2 with p1 p2 p3;subst p1 p2 p3
    exact ⟨aqe _,fun _=>⟨by simp [hn], .arr b c,hg, .inr ⟨q1,by omega,a,q3⟩⟩⟩
  ·rcases hc0 with hv2|⟨q1,q2,a,q3⟩
   ·refine grow _ c _ hv2 (by omega) (fun b e=>by cases e) hcells ?_
    rw [hisz]
    refine run_firstCells_some w.drew k n ⟨b,0,none⟩ n c _ (by rw [hcells.len,hn]) (fun j u hu=>?_)
    rw [Addr.add_mid,aqH]
    have hc1:w.cell? ⟨b,j,none⟩=some u:=by
     rw [cob_ hb]
     have hj:=(ap0.1 hu).1
     rw [aqt] at hu
     split at hu
     ·simpa using hu
     ·cases hu
    exact hc1
   ·have he0:es=[]:=aqo (by omega)
    subst he0 q2
    refine grow a 0 [] q3 (by omega) (fun b e=>by cases e) ⟨by simp,by simp,fun i e j u x he=>by simp at he,by simp⟩ ?_
    cases a with
    | none=>exact run_firstCells_none w.drew inf.size 0 0 0
    | some ad=>exact run_firstCells_some w.drew inf.size 0 ad 0 0 [] (by simp) (fun j u hu=>by simp at hu)
end
def V_ (L:List Ob):AV->Option (List (List SV))
 | .one (.c (.str s))=>some (bQ s)
 | .one (.sl id _ lo n)=>match L[id]? with
  | some (.row _ es _)=>some ((es.drop lo).take n)
  | _=>none
 | x=>(gH x).map fun es=>es.map (List.map SV.c)
def O1 (ti:TI) (L:List Ob) (k:Nat) (tx:TypeId):AV->Prop
 | .one (.c (.str _))=>k=1/\ti.kind tx=some .string
 | .one (.sl id ver lo n)=>(ti.elem tx).isSome /\ ∃ es,L[id]?=some (.row ver es k)/\lo+n<=es.length
 | x=>(ti.elem tx).isSome /\ ∃ es,gH x=some es /\ ∀ e∈es,e.length=k
section
variable {P:Program} {ti:TI} {B:Nat->Prop} {N:Nat} {R:PH} {γ:List Gh} {L:List Ob} {w:World} {ρ:Operand->Option AV}
theorem ad9 {k:Nat} {tx:TypeId} (hti:TIok P ti) (hi:Inv B R γ L w) {x:AV} {u:Value} (hx:x.rep R γ L u) {es:List (List AC)} (he:gH x=some es) (hw : ∀ e∈es,e.length=k) (ht:(ti.elem tx).isSome) :
  ∃ news,Src P k tx u (es.map (List.map SV.c)).length news w/\jH R γ L k (es.map (List.map SV.c)) news:=by
 obtain ⟨E,hE⟩:=aqG.1 ht
 have hte:=hti.elem _ _ hE
 have:P.underlying tx=some (.slice E):=by
  unfold wF at hte
  split at hte
  ·rename_i e h;injection hte with hte;rw [h,hte]
  ·cases hte
 obtain ⟨news,h1,h2⟩:=ahN (P:=P) this hi (nT hx he) hw
 exact ⟨news,by simpa using h1,jH.ofC h2⟩
theorem acS {k:Nat} {tx:TypeId} (hti:TIok P ti) (hi:Inv B R γ L w) {x:AV} {u:Value} (hx:x.rep R γ L u) {xs:List (List SV)} (h:V_ L x=some xs) (hok:O1 ti L k tx x) :
  ∃ news,Src P k tx u xs.length news w/\jH R γ L k xs news:=by
 unfold V_ at h
 split at h
 ·rename_i s
  injection h with h;subst h
  obtain ⟨rfl,hk⟩:=hok
  cases hx
  have hl:(bQ s).length=s.size:=by unfold bQ;rw [aqa];simp
  exact ⟨byteCells s,by rw [hl];exact Src.ofString w (hti.kind _ _ hk) s,jH.ofStr s⟩
 ·rename_i id ver lo n
  obtain ⟨ht,es,hL,hle⟩:=hok
  rw [hL] at h
  injection h with h;subst h
  obtain ⟨E,hE⟩:=aqG.1 ht
  have hte:=hti.elem _ _ hE
  have hund:P.underlying tx=some (.slice E):=by
   unfold wF at hte
   split at hte
   ·rename_i e h;injection hte with hte;rw [h,hte]
   ·cases hte
  obtain ⟨_,hlt,hall⟩:=hx
  obtain ⟨_,g,hg,hat⟩:=(hall _ es k hL).2 rfl
  have hlen:((es.drop lo).take n).length=n:=by simp;omega
  match g,hg,hat with
  | .none,hg,⟨⟨a,hu,_⟩,hn,hlo⟩ =>
   subst hu hn hlo
   refine ⟨[],?_,⟨by simp,by simp,fun i e j u x he=>by simp at he,by simp⟩⟩
   cases a with
   | none=>simpa using Src.ofNil w hund 0
   | some ad=>simpa using Src.ofSlice w hund ad 0 0 [] (by simp) (fun j u hu=>by simp at hu) (by simp)
  | .arr b c,hg,hat =>
   obtain ⟨vs,E2,hb,hE2,hsz,hnc,hk,hcells,hRn⟩:=kZ hi hL hg
   by_cases hn0:n=0
   ·subst hn0
    refine ⟨[],?_,⟨by simp,by simp,fun i e j u x he=>by simp at he,by simp⟩⟩
    have : ∃ a c',u = .slice a 0 c':=by
     rcases hat with hat|⟨_,_,a,hat⟩
     ·exact ⟨_,_,hat⟩
     ·exact ⟨_,_,hat⟩
    obtain ⟨a,c',rfl⟩:=this
    cases a with
    | none=>simpa using Src.ofNil w hund c'
    | some ad=>simpa using Src.ofSlice w hund ad 0 c' [] (by simp) (fun j u hu=>by simp at hu) (by simp)
   ·have hat:u = .slice (some ⟨b,lo*k,none⟩) n (c-lo):=by
     rcases hat with hat|⟨_,h0,_⟩
     ·exact hat
     ·exact absurd h0 hn0
    subst hat
    have h1:lo*k+n*k<=es.length*k:=by rw [<- Nat.add_mul];exact aqB _ hle
    have h2:es.length*k<=c*k:=aqB _ hnc
    have hget : ∀ (j:Nat) u,(((vs.toList.take (es.length*k)).drop (lo*k)).take (n*k))[j]?=some u->j<n*k/\(vs.toList.take (es.length*k))[lo*k+j]?=some u:=by
     intro j u hu
     rw [aqt] at hu
     split at hu
     ·rename_i hj;rw [aqL] at hu;exact ⟨hj,hu⟩
     ·cases hu
    have hnl:(((vs.toList.take (es.length*k)).drop (lo*k)).take (n*k)).length=n*k:=by simp;omega
    refine ⟨((vs.toList.take (es.length*k)).drop (lo*k)).take (n*k),?_,⟨by rw [hlen];exact hnl,fun e he=>hcells.wide e (List.mem_of_mem_drop (aqW he)),fun i e j u x he hu hx=>?_,fun u hu=>hcells.one u (List.mem_of_mem_drop (aqW hu))⟩⟩
    ·rw [hlen]
     refine Src.ofSlice w hund ⟨b,lo*k,none⟩ n (c-lo) _ hnl (fun j u hu=>?_) (fun u hu=>hcells.one u (List.mem_of_mem_drop (aqW hu)))
     obtain ⟨hj,hu⟩:=hget j u hu
     rw [Addr.add_mid,cob_ hb]
     rw [aqt] at hu
     split at hu
     ·simpa using hu
     ·cases hu
    ·obtain ⟨hj,hu⟩:=hget _ u hu
     rw [aqt] at he
     split at he
     ·rw [aqL] at he
      refine hcells.rep (lo+i) e j u x he ?_ hx
      rw [Nat.add_mul,Nat.add_assoc];exact hu
     ·cases he
 ·cases he:gH x with
  | none=>simp [he] at h
  | some es =>
   rw [he] at h;injection h with h;subst h
   unfold O1 at hok
   split at hok
   ·rename_i x1 _;exact absurd rfl (x1 _)
   ·rename_i h2;exact absurd rfl (h2 _ _ _ _)
   ·obtain ⟨ht,es',h1,h2⟩:=hok
    rw [he] at h1;injection h1 with h1;subst h1
    exact ad9 hti hi hx he h2 ht
theorem pW (hti:TIok P ti) {t E:TypeId} (h:ti.elem t=some E):P.underlying t=some (.slice E):=by
 have hte:=hti.elem _ _ h
 unfold wF at hte
 split at hte
 ·rename_i e h';injection hte with hte;rw [h',hte]
 ·cases hte
theorem iD (hti:TIok P ti) {s x:Operand} {t tx E:TypeId} {k by_ id ver n:Nat} {vx:AV} {es xs:List (List SV)} (hs:ρ s=some (.one (.sl id ver 0 n))) (hx:ρ x=some vx) (hL:L[id]?=some (.row ver es k)) (hsrc:V_ L vx=some xs) (hok:O1 ti L k tx vx)
  (ht:ti.elem t=some E) (hE:ver%65536=E) (hsz:ti.size E=some k) (hzo:ti.zok E=true) (hby:ti.bytes E=some by_) (hk:0<k) (hn:es.length=n) (hb1:(n+xs.length)*by_<=140737488355328) (hb2:n+xs.length<=140737488355328) :
  yU P ρ L (.call { callee := .builtin .append,args := #[s,x],argTypes := #[t,tx] }) (.one (.sl id (ver+65536) 0 (n+xs.length))) (L.set id (.row (ver+65536) (es++xs) k)):=by
 intro B R γ w ev o ho hi hρ hfv
 obtain ⟨dst,op,type,pos,after,guard⟩:=o
 simp only at ho;subst ho
 obtain ⟨news,h1,h2⟩:=acS (P:=P) (w:=w) (B:=B) hti hi (hρ _ (by simp [Op.operands,Call.operands]) _ hx) hsrc hok
 obtain ⟨u,w',γ',g1,g2,g3,g4,g5⟩:=akD (P:=P) (ty:=type) hi (pW hti ht) hk (hti.zok _ hzo _ (hti.size _ _ hsz)) (hti.bytes _ _ hby) hE hL (hρ _ (by simp [Op.operands,Call.operands]) _ hs) hn h1 h2 hb1 hb2
 refine ⟨w',R,γ', .inl ⟨u,?_,g5⟩,g2,g3,g4⟩
 simp [execOp,resolve,invoke,builtin,g1]
theorem Inv.rowTok (hi:Inv B R γ L w) (ver k:Nat):Inv B R (γ++[.none]) (L++[.row ver [] k]) w:=by
 have it:=hi.tok k
 refine ⟨by simp [hi.len],hi.val,fun i y g hy hg=>?_,it.inj,it.new,hi.bsz⟩
 by_cases hid:i<L.length
 ·rw [aqc hid] at hy
  rw [aqc (by rw [hi.len];exact hid)] at hg
  exact (hi.obj i y g hy hg).mv (Mv.push _ _ hi.len) (fun _ _=>rfl) (fun _ _ _ h=>h)
 ·have:i=L.length:=by have:=(ap0.1 hy).1;simp at this;omega
  subst this
  rw [ap7 (by omega)] at hy
  rw [ap7 (by rw [hi.len];omega),hi.len] at hg
  simp at hy hg;subst hy hg
  rfl
theorem Yt (hti:TIok P ti) {s x:Operand} {t tx:TypeId} {E:Nat} {k by_:Nat} {vx:AV} {xs:List (List SV)} (hs:ρ s=some (.one .emp)) (hx:ρ x=some vx) (hsrc:V_ L vx=some xs) (hok:O1 ti L k tx vx)
  (ht:ti.elem t=some E) (hE:E<65536) (hsz:ti.size E=some k) (hzo:ti.zok E=true) (hby:ti.bytes E=some by_) (hk:0<k) (h0:0<xs.length) (hb1:xs.length*by_<=140737488355328) (hb2:xs.length<=140737488355328) :
  yU P ρ L (.call { callee := .builtin .append,args := #[s,x],argTypes := #[t,tx] }) (.one (.sl L.length (E+65536) 0 xs.length)) (L++[.row (E+65536) xs k]):=by
 intro B R γ w ev o ho hi hρ hfv
 obtain ⟨dst,op,type,pos,after,guard⟩:=o
 simp only at ho;subst ho
 obtain ⟨news,h1,h2⟩:=acS (P:=P) (w:=w) (B:=B) hti hi (hρ _ (by simp [Op.operands,Call.operands]) _ hx) hsrc hok
 obtain ⟨a,hva⟩:=(hρ _ (by simp [Op.operands,Call.operands]) _ hs)
 obtain ⟨inf,z,hinf,hzz,hisz,hzc⟩:=hti.zok _ hzo _ (hti.size _ _ hsz)
 have hbytes:inf.bytes=by_:=by have hby':=hti.bytes _ _ hby;unfold qg at hby';rw [hinf] at hby';simpa using hby'
 have hfc:(Builtin.firstCells inf.size 0 (.slice a 0 0)).run P w.drew = .ok ([]:List Value).toArray w.drew:=by
  cases a with
  | none=>exact run_firstCells_none w.drew inf.size 0 0 0
  | some ad=>exact run_firstCells_some w.drew inf.size 0 ad 0 0 [] (by simp) (fun j u hu=>by simp at hu)
 have hrun:=run_append_grow_src (P:=P) (w:=w) t tx type E inf z (pW hti ht) hinf hzz a 0 0 [] hfc (ev x) xs.length news (by rw [hisz];exact h1) (by omega) (by omega) (by
   have h2:=nextslicecap_le (need:=0+xs.length) (old:=0) (by omega)
   have h3:Builtin.nextslicecap (0+xs.length) 0*inf.bytes<=2*(0+xs.length)*inf.bytes:=aqB _ h2
   rw [hbytes] at h3 ⊢
   rw [Nat.mul_assoc,aqH] at h3
   rw [aqH]
   omega)
 have hcap:=grownCap_ge w (0+xs.length) 0 E
 generalize grownCap w (0+xs.length) 0 E=cap at hrun hcap
 rw [aqH] at hrun hcap
 have hm:Mv R R γ (γ++[.arr w.heap.size cap]) L (L++[.row (E+65536) xs k]):=Mv.push _ _ hi.len
 have happ:=h2.mv hm
 have hIp:Inv B R (γ++[.arr w.heap.size cap]) (L++[.row (E+65536) xs k]) (w.alloc (.cells (([]++news).toArray++Builtin.zeroCells z.cells (cap-xs.length)) E)):=by
  refine hi.push _ _ _ rfl ⟨⟨_,E,⟨gD w _,by show (E:Nat)=(E+65536)%65536;omega,by show 65536<=(E:Nat)+65536;omega⟩,?_,fun i e j u x he hu hx=>?_⟩,hcap,hk,happ.wide,fun o=>hi.none_at o⟩
  ·rw [Array.size_append,size_zeroCells,hzc];simp only [List.size_toArray,ap5];rw [happ.len, <- Nat.add_mul];congr 1;omega
  ·have hjk:j<k:=by rw [<- happ.wide e (ap6 he)];exact (ap0.1 hx).1
   have hil:=(ap0.1 he).1
   rw [Array.getElem?_append_left (by simp only [List.size_toArray,ap5];rw [happ.len];exact zk hil hjk)] at hu
   exact happ.rep i e j u x he (by simpa using hu) hx
 refine ⟨w.drew.alloc (.cells (([]++news).toArray++Builtin.zeroCells z.cells (cap-xs.length)) E),R,_, .inl ⟨.slice (some ⟨w.heap.size,0,none⟩) xs.length cap,by simp [execOp,resolve,invoke,builtin,hva,hrun],⟨rfl,rfl⟩,by simp,fun ver2 es2 k2 e2=>?_⟩,?_,⟨⟨rfl,rfl,rfl,by show w.heap.size<=(w.heap.push _).size;simp,fun b hb=>jm w.drew _ (hi.bsz b hb)⟩,PH.sub_refl _,fun _ _ _=>rfl⟩,hm⟩
 ·rw [ap7 (by omega)] at e2
  simp at e2
  obtain ⟨q1,q2,q3⟩:=e2
  subst q1 q2 q3
  refine ⟨aqe _,fun _=>⟨by simp, .arr w.heap.size cap,by rw [<- hi.len];simp, .inl ?_⟩⟩
  simp
 ·exact ⟨hIp.len,fun b o u h=>hIp.val b o u h,fun i x g h1 h2=>(hIp.obj i x g h1 h2).mv Mv.refl (fun _ _=>rfl) (fun _ _ _ h=>h),hIp.inj,hIp.new,hIp.bsz⟩
theorem X5 (hti:TIok P ti) {l c:Operand} {t:TypeId} {E k by_:Nat} {m:Int} {kl kc:IntKind} (hl:ρ l=some (.one (.c (.int kl 0)))) (hc:ρ c=some (.one (.c (.int kc m)))) (ht:ti.elem t=some E) (hE:E<65536) (hsz:ti.size E=some k) (hzo:ti.zok E=true) (hby:ti.bytes E=some by_)
  (hk:0<k) (h0:0<=m) (hb1:(by_:Int)*m<=281474976710656) (hb2:m<=9223372036854775807) :
  yU P ρ L (.makeSlice t l c) (.one (.sl L.length (E+65536) 0 0)) (L++[.row (E+65536) [] k]):=by
 intro B R γ w ev o ho hi hρ hfv
 obtain ⟨dst,op,type,pos,after,guard⟩:=o
 simp only at ho;subst ho
 obtain ⟨inf,z,hinf,hzz,hisz,hzc⟩:=hti.zok _ hzo _ (hti.size _ _ hsz)
 have hbytes:inf.bytes=by_:=by have hby':=hti.bytes _ _ hby;unfold qg at hby';rw [hinf] at hby';simpa using hby'
 have hlv:=(hρ _ (by simp [Op.operands,Call.operands]) _ hl)
 have hcv:=(hρ _ (by simp [Op.operands,Call.operands]) _ hc)
 generalize hle:ev l=lv at hlv
 generalize hce:ev c=cv at hcv
 cases hlv;cases hcv
 have hrun:=run_make (P:=P) w t E inf z (pW hti ht) hinf hzz kl kc 0 m (Int.le_refl _) h0 (by rw [hbytes];exact hb1) hb2
 have hm:Mv R R γ (γ++[.arr w.heap.size m.toNat]) L (L++[.row (E+65536) [] k]):=Mv.push _ _ hi.len
 refine ⟨w.alloc (.cells (madeCells z.cells (m.toNat*inf.size)) E),R,_, .inl ⟨.slice (some ⟨w.heap.size,0,none⟩) 0 m.toNat,by simp [execOp,hle,hce,hrun],⟨rfl,rfl⟩,by simp,fun ver2 es2 k2 e2=>?_⟩,?_,⟨Kept.alloc hi.bsz _,PH.sub_refl _,fun _ _ _=>rfl⟩,hm⟩
 ·rw [ap7 (by omega)] at e2
  simp at e2
  obtain ⟨q1,q2,q3⟩:=e2
  subst q1 q2 q3
  refine ⟨aqe _,fun _=>⟨by simp, .arr w.heap.size m.toNat,by rw [<- hi.len];simp, .inl ?_⟩⟩
  simp
 ·exact hi.push _ _ _ rfl ⟨⟨_,E,⟨gD w _,by show (E:Nat)=(E+65536)%65536;omega,by show 65536<=(E:Nat)+65536;omega⟩,by rw [size_madeCells,hisz],fun i e j u x he=>by simp at he⟩,by simp,hk,by simp,fun o=>hi.none_at o⟩
theorem Bd (hti:TIok P ti) {l c:Operand} {t:TypeId} {E k by_:Nat} {m:Int} {kl kc:IntKind} (hl:ρ l=some (.one (.c (.int kl 0)))) (hc:ρ c=some (.one (.c (.int kc m)))) (ht:ti.elem t=some E) (hsz:ti.size E=some k) (hzo:ti.zok E=true) (hby:ti.bytes E=some by_)
  (hk:0<k) (h0:0<=m) (hb1:(by_:Int)*m<=281474976710656) (hb2:m<=9223372036854775807) :
  yU P ρ L (.makeSlice t l c) (.one (.own [] L.length)) (L++[.spare 0 k]):=by
 intro B R γ w ev o ho hi hρ hfv
 obtain ⟨dst,op,type,pos,after,guard⟩:=o
 simp only at ho;subst ho
 obtain ⟨inf,z,hinf,hzz,hisz,hzc⟩:=hti.zok _ hzo _ (hti.size _ _ hsz)
 have hbytes:inf.bytes=by_:=by have hby':=hti.bytes _ _ hby;unfold qg at hby';rw [hinf] at hby';simpa using hby'
 have hlv:=(hρ _ (by simp [Op.operands,Call.operands]) _ hl)
 have hcv:=(hρ _ (by simp [Op.operands,Call.operands]) _ hc)
 generalize hle:ev l=lv at hlv
 generalize hce:ev c=cv at hcv
 cases hlv;cases hcv
 have hrun:=run_make (P:=P) w t E inf z (pW hti ht) hinf hzz kl kc 0 m (Int.le_refl _) h0 (by rw [hbytes];exact hb1) hb2
 have hm:Mv R R γ (γ++[.arr w.heap.size m.toNat]) L (L++[.spare 0 k]):=Mv.push _ _ hi.len
 refine ⟨w.alloc (.cells (madeCells z.cells (m.toNat*inf.size)) E),R,_, .inl ⟨.slice (some ⟨w.heap.size,0,none⟩) 0 m.toNat,by simp [execOp,hle,hce,hrun],gq _ _ _,by simp,fun n2 k2 e2=>?_⟩,?_,⟨Kept.alloc hi.bsz _,PH.sub_refl _,fun _ _ _=>rfl⟩,hm⟩
 ·rw [ap7 (by omega)] at e2
  simp at e2
  obtain ⟨q1,q2⟩:=e2
  subst q1 q2
  exact ⟨by simp,by simp,fun _=>⟨.arr w.heap.size m.toNat,by rw [<- hi.len];simp,rfl⟩⟩
 ·exact hi.push _ _ _ rfl ⟨⟨_,E,gD w _,by rw [size_madeCells,hisz]⟩,by simp,hk,fun o _=>hi.none_at o⟩
end
section
variable {P:Program} {ti:TI} {B:Nat->Prop} {N:Nat} {R:PH} {γ:List Gh} {L:List Ob} {w:World} {ρ:Operand->Option AV}
theorem xu {E Eb k:Nat} {inf:TypeInfo} (hinf:P.info? E=some inf) (hz:inf.zero=some (.agg #[.pointer none, .slice none 0 0])) (hE:E<65536) (hEb:Eb<65536) (hk:0<k) :
  yU P ρ L (.alloc E) (.one (.ep L.length (E+65536) 0 0)) (L++[.row (E+65536) [[.c (.nul .ptr), .sl (L.length+1) Eb 0 0]] 2, .row Eb [] k]):=by
 intro B R γ w ev o ho hi hρ hfv
 obtain ⟨dst,op,type,pos,after,guard⟩:=o
 simp only at ho;subst ho
 have hi0:=hi.rowTok Eb k
 have hrun:(execOp ev { dst,op := .alloc E,type,pos,after,guard }).run P w = .ok (.value (.pointer (some ⟨w.heap.size,0,none⟩))) (w.alloc (.cells #[.pointer none, .slice none 0 0] E)):=by
  simp [execOp,Instr.alloc,zeroValue,typeInfo,program,Sem.run,hinf,hz,newVar,newRow,Value.cells]
 have hm0:Mv R R γ (γ++[.arr w.heap.size 1, .none]) L (L++[.row (E+65536) [[.c (.nul .ptr), .sl (L.length+1) Eb 0 0]] 2, .row Eb [] k]):=by
  have h1:Mv R R γ (γ++[.arr w.heap.size 1]) L (L++[.row (E+65536) [[.c (.nul .ptr), .sl (L.length+1) Eb 0 0]] 2]):=Mv.push _ _ hi.len
  have h2:Mv R R (γ++[.arr w.heap.size 1]) ((γ++[.arr w.heap.size 1])++[.none]) (L++[.row (E+65536) [[.c (.nul .ptr), .sl (L.length+1) Eb 0 0]] 2]) ((L++[.row (E+65536) [[.c (.nul .ptr), .sl (L.length+1) Eb 0 0]] 2])++[.row Eb [] k]):=Mv.push _ _ (by simp [hi.len])
  have:=h1.trans h2
  simpa using this
 have gcase : ∀ j h,(γ++[Gh.arr w.heap.size 1,Gh.none])[j]?=some h->(j<L.length/\γ[j]?=some h)\/(j=L.length/\h = .arr w.heap.size 1)\/(j=L.length+1/\h = .none):=by
  intro j h hh
  by_cases hj:j<γ.length
  ·rw [aqc hj] at hh;exact .inl ⟨by rw [<- hi.len];exact hj,hh⟩
  ·rw [ap7 (by omega)] at hh
   have hlt:=(ap0.1 hh).1
   simp at hlt
   have:j-γ.length=0\/j-γ.length=1:=by omega
   rcases this with e|e<;>rw [e] at hh<;>simp at hh
   ·exact .inr (.inl ⟨by rw [<- hi.len];omega,hh.symm⟩)
   ·exact .inr (.inr ⟨by rw [<- hi.len];omega,hh.symm⟩)
 have hold : ∀ b,b<w.heap.size->(w.alloc (.cells #[.pointer none, .slice none 0 0] E)).heap[b]?=w.heap[b]?:=fun b hb=>jm w _ hb
 have esz:(w.alloc (.cells #[.pointer none, .slice none 0 0] E)).heap.size=w.heap.size+1:=by show (w.heap.push _).size=_;simp
 have hsl:(SV.sl (L.length+1) Eb 0 0).rep R (γ++[Gh.arr w.heap.size 1,Gh.none]) (L++[.row (E+65536) [[.c (.nul .ptr), .sl (L.length+1) Eb 0 0]] 2, .row Eb [] k]) (.slice none 0 0):=by
  refine ⟨⟨rfl,rfl⟩,by simp,fun ver2 es2 k2 e2=>?_⟩
  rw [ap7 (by omega)] at e2
  simp at e2
  obtain ⟨q1,q2,q3⟩:=e2
  subst q1 q2 q3
  exact ⟨aqe _,fun _=>⟨by simp, .none,by rw [ap7 (by rw [hi.len];omega),hi.len];simp,⟨none,rfl,fun _=>rfl⟩,rfl,rfl⟩⟩
 refine ⟨_,R,γ++[.arr w.heap.size 1, .none], .inl ⟨_,hrun,⟨rfl,rfl⟩,by simp,fun ver2 es2 k2 e2=>?_⟩,?_,⟨Kept.alloc hi.bsz _,PH.sub_refl _,fun _ _ _=>rfl⟩,hm0⟩
 ·rw [ap7 (by omega)] at e2
  simp at e2
  obtain ⟨q1,q2,q3⟩:=e2
  subst q1 q2 q3
  exact ⟨aqe _,fun _=>⟨by simp, .arr w.heap.size 1,by rw [ap7 (by rw [hi.len];omega),hi.len];simp,rfl⟩⟩
 ·refine ⟨by simp [hi.len],fun b o' u h=>?_,fun j y h hy hh=>?_,fun j1 j2 g1 g2 h1 h2 hne b hb=>?_,fun j h b hh hb=>?_,fun b hb=>by have:=hi.bsz b hb;omega⟩
  ·have:=hi.lt h
   rw [<- hi.val _ _ _ h]
   exact World.cell?_of_block (w:=w) (hold b this)
  ·rcases gcase j h hh with ⟨hj,hh'⟩|⟨rfl,rfl⟩|⟨rfl,rfl⟩
   ·rw [aqc hj] at hy
    exact (hi.obj j y h hy hh').mv hm0 (fun b hb=>hold b (hi.new j h b hh' hb).2) (fun _ _ _ e=>e)
   ·rw [ap7 (by omega)] at hy
    simp at hy;subst hy
    refine ⟨⟨_,E,⟨gD w _,by show (E:Nat)=(E+65536)%65536;omega,by omega⟩,rfl,fun i e j' u x he hu hx=>?_⟩,by simp,by omega,by simp,fun o=>hi.none_at o⟩
    have:i=0:=by have:=(ap0.1 he).1;simpa using this
    subst this
    simp at he;subst he
    match j',hx with
    | 0,hx=>simp at hx hu;subst hx hu;exact .nul .ptr _ rfl
    | 1,hx=>simp at hx hu;subst hx hu;exact hsl
    | j'+2,hx=>simp at hx
   ·rw [ap7 (by omega)] at hy
    simp at hy;subst hy
    rfl
  ·rcases gcase j1 g1 h1 with ⟨a1,a2⟩|⟨a1,rfl⟩|⟨a1,rfl⟩<;>rcases gcase j2 g2 h2 with ⟨b1,b2⟩|⟨b1,rfl⟩|⟨b1,rfl⟩
   ·exact hi.inj j1 j2 g1 g2 a2 b2 hne b hb
   ·have:=(hi.new j1 g1 b a2 hb).2
    simp only [Gh.block,ne_eq,Option.some.injEq];omega
   ·exact fun e=>by cases e
   ·simp only [Gh.block,Option.some.injEq] at hb
    intro e;have:=(hi.new j2 g2 _ b2 e).2;omega
   ·omega
   ·exact fun e=>by cases e
   ·cases hb
   ·cases hb
   ·cases hb
  ·rcases gcase j h hh with ⟨_,b2⟩|⟨_,rfl⟩|⟨_,rfl⟩
   ·have:=hi.new j h b b2 hb
    exact ⟨this.1,by omega⟩
   ·simp only [Gh.block,Option.some.injEq] at hb;subst hb
    exact ⟨fun hB=>by have:=hi.bsz _ hB;omega,by omega⟩
   ·cases hb
theorem TL {id ver i off k:Nat} {es:List (List SV)} {u:Value} (hL:L[id]?=some (.row ver es k)) (h:(SV.ep id ver i off).rep R γ L u):i<es.length /\ ∃ b c,γ[id]?=some (.arr b c)/\u = .pointer (some ⟨b,i*k+off,none⟩):=by
 obtain ⟨_,_,hall⟩:=h
 obtain ⟨h1,g,hg,hat⟩:=(hall _ es k hL).2 rfl
 match g,hg,hat with
 | .arr b c,hg,hat=>exact ⟨h1,b,c,hg,hat⟩
theorem V9 {e:TypeId} {s:Nat} (hs:P.cellsOf e=s) (h0:0<s) (count:Nat) (hn:1<=count):liesAt P P.depth e count 0 e 1=true:=by
 have hd:P.depth=(2*(P.types.size+Made.depth)+1)+1:=rfl
 rw [hd]
 simp only [liesAt,Bool.or_eq_true]
 left
 rw [hd]
 have:s≠0:=by omega
 simp [rowAt,hs,hn,sameLayout,this]
theorem rR {s d t:TypeId} {x:Operand} {id ver k:Nat} {es:List (List SV)} {j:TypeInfo} (hx:ρ x=some (.one (.ep id ver 0 0))) (hL:L[id]?=some (.row ver es k)) (hs:P.underlying s=some (.pointer t)) (hd:P.underlying d=some .unsafePointer) (ht:P.info? t=some j) (hj:j.size≠0) :
  yU P ρ L (.convert s d x) (.one (.ep id ver 0 0)) L:=by
 intro B R γ w ev o ho hi hρ hfv
 obtain ⟨dst,op,type,pos,after,guard⟩:=o
 simp only at ho;subst ho
 have hx':=(hρ _ (by simp [Op.operands,Call.operands]) _ hx)
 obtain ⟨hlt,b,c,hg,hu⟩:=TL (R:=R) hL hx'
 obtain ⟨vs,E,hb,hE,hsz,hle,hk,_,_⟩:=kZ hi hL hg
 have hsh:w.shape? b=some (E,c*k):=by simp [World.shape?,hb,hsz]
 have h1:1*k<=c*k:=aqB _ (by omega)
 rw [hu] at hx'
 refine ⟨w,R,γ, .inl ⟨_,?_,hx'⟩,hi,Ext.refl _ _ _,Mv.refl⟩
 have:=Lib.run_to_unsafe (P:=P) w (⟨b,0*k+0,none⟩:Addr) hs hd ht hj hsh (by show 0*k+0<c*k;omega)
 simp only [Nat.zero_mul,aqH,Nat.add_zero] at this hu ⊢
 simp [execOp,hu,this]
theorem yx {s d:TypeId} {t:Nat} {x:Operand} {id ver k:Nat} {es:List (List SV)} {j:TypeInfo} (hx:ρ x=some (.one (.ep id ver 0 0))) (hL:L[id]?=some (.row ver es k)) (hs:P.underlying s=some .unsafePointer) (hd:P.underlying d=some (.pointer t)) (ht:P.info? t=some j) (hc:P.cellsOf t=k) (hE:ver%65536=t) :
  yU P ρ L (.convert s d x) (.one (.ep id ver 0 0)) L:=by
 intro B R γ w ev o ho hi hρ hfv
 obtain ⟨dst,op,type,pos,after,guard⟩:=o
 simp only at ho;subst ho
 have hx':=(hρ _ (by simp [Op.operands,Call.operands]) _ hx)
 obtain ⟨hlt,b,c,hg,hu⟩:=TL (R:=R) hL hx'
 obtain ⟨vs,E,hb,hE2,hsz,hle,hk,_,_⟩:=kZ hi hL hg
 have hEt:E=t:=by rw [hE2.1];exact hE
 subst hEt
 have hsh:w.shape? b=some (E,c*k):=by simp [World.shape?,hb,hsz]
 rw [hu] at hx'
 refine ⟨w,R,γ, .inl ⟨_,?_,hx'⟩,hi,Ext.refl _ _ _,Mv.refl⟩
 have hlies:liesAt P P.depth E (c*k/P.cellsOf E) 0 E 1=true:=by
  rw [hc,Nat.mul_div_cancel _ hk]
  exact V9 hc hk c (by omega)
 have:=Lib.run_from_unsafe (P:=P) w (⟨b,0*k+0,none⟩:Addr) hs hd ht hsh (by simpa using hlies)
 simp only [Nat.zero_mul,aqH,Nat.add_zero] at this hu ⊢
 simp [execOp,hu,this]
theorem yO {f : FuncId} {fn : Func} {x : Operand} {ts : Array TypeId} {v : AV} (hx : ρ x = some v) (hf : P.funcs[f]? = some fn) (hname : (fn.name == "runtime.NumGoroutine") = false)
  (hb:fn.body.isNone=true) (hn:Extern.findNext fn=none) (he:Extern.find fn=some Extern.AbiNoEscape.same) :
  yU P ρ L (.call { callee := .value (.func f),args := #[x],argTypes:=ts }) v L:=by
 intro B R γ w ev o ho hi hρ hfv
 obtain ⟨dst,op,type,pos,after,guard⟩:=o
 simp only at ho;subst ho
 refine ⟨w,R,γ, .inl ⟨ev x,?_,(hρ _ (by simp [Op.operands,Call.operands]) _ hx)⟩,hi,Ext.refl _ _ _,Mv.refl⟩
 have:=run_callFunc_extern hf hname hb hn he #[ev x] w
 rw [Lib.run_noEscape] at this
 simp [execOp,resolve,Deferred.ofValue,hfv.1,invoke,this,Result.andThen]
theorem KE {t te:TypeId} (b:Option Addr) (ht:P.underlying t=some (.pointer te)):(binOp .eql t (.pointer b) (.pointer none)).run P w = .ok (.bool b.isNone) w:=by
 have h : ∀ d:Nat,(Op.equalIn (d+1) t (.pointer b) (.pointer none)).run P w = .ok b.isNone w:=fun d=>by
  cases b<;>simp [Op.equalIn,run_underlying ht]
 simp only [binOp]
 rw [Sem.run_bind,show Op.equal t (.pointer b) (.pointer none)=Op.equalIn (9999+1) t (.pointer b) (.pointer none) from rfl,h]
 simp
theorem IK {t t' te:TypeId} {x y:Operand} (hx:ρ x=some (.one (.c (.nul .ptr)))) (hy:ρ y=some (.one (.c (.nul .ptr)))) (ht:P.underlying t=some (.pointer te)) :
  yU P ρ L (.binOp .eql t x y t') (.one (.c (.bool true))) L:=by
 intro B R γ w ev o ho hi hρ hfv
 obtain ⟨dst,op',type,pos,after,guard⟩:=o
 simp only at ho;subst ho
 have h1:=(hρ _ (by simp [Op.operands,Call.operands]) _ hx)
 have h2:=(hρ _ (by simp [Op.operands,Call.operands]) _ hy)
 generalize hex:ev x=ux at h1
 generalize hey:ev y=uy at h2
 cases h1 with|nul _ _ e1=>cases h2 with|nul _ _ e2 =>
 subst e1 e2
 have:=KE (P:=P) (w:=w) none ht
 exact ⟨w,R,γ, .inl ⟨.bool true,by simp [execOp,hex,hey,eqGuard,Nul.val,this], .bool true⟩,hi,Ext.refl _ _ _,Mv.refl⟩
theorem AP {t t' te:TypeId} {x y:Operand} {id ver i off k:Nat} {es:List (List SV)} (hx:ρ x=some (.one (.ep id ver i off))) (hL:L[id]?=some (.row ver es k)) (hy:ρ y=some (.one (.c (.nul .ptr)))) (ht:P.underlying t=some (.pointer te)) :
  yU P ρ L (.binOp .eql t x y t') (.one (.c (.bool false))) L:=by
 intro B R γ w ev o ho hi hρ hfv
 obtain ⟨dst,op',type,pos,after,guard⟩:=o
 simp only at ho;subst ho
 obtain ⟨_,b,c,_,hu⟩:=TL (R:=R) hL (hρ _ (by simp [Op.operands,Call.operands]) _ hx)
 have h2:=(hρ _ (by simp [Op.operands,Call.operands]) _ hy)
 generalize hey:ev y=uy at h2
 cases h2 with|nul _ _ e2 =>
 subst e2
 have:=KE (P:=P) (w:=w) (some ⟨b,i*k+off,none⟩) ht
 exact ⟨w,R,γ, .inl ⟨.bool false,by simp [execOp,hu,hey,eqGuard,Nul.val,this], .bool false⟩,hi,Ext.refl _ _ _,Mv.refl⟩
theorem A8 {t t' te:TypeId} {x y:Operand} {id ver i off k:Nat} {es:List (List SV)} {j:TypeInfo} (hx:ρ x=some (.one (.ep id ver i off))) (hL:L[id]?=some (.row ver es k)) (hy:ρ y=some (.one (.ep id ver i off))) (ht:P.underlying t=some (.pointer te)) (hte:P.info? te=some j) :
  yU P ρ L (.binOp .neq t x y t') (.one (.c (.bool false))) L:=by
 intro B R γ w ev o ho hi hρ hfv
 obtain ⟨dst,op',type,pos,after,guard⟩:=o
 simp only at ho;subst ho
 obtain ⟨_,b,c,hg,hu⟩:=TL (R:=R) hL (hρ _ (by simp [Op.operands,Call.operands]) _ hx)
 obtain ⟨_,b',c',hg',hu'⟩:=TL (R:=R) hL (hρ _ (by simp [Op.operands,Call.operands]) _ hy)
 rw [hg] at hg';injection hg' with hg';injection hg' with e1 e2;subst e1 e2
 refine ⟨w,R,γ, .inl ⟨.bool false,?_, .bool false⟩,hi,Ext.refl _ _ _,Mv.refl⟩
 have:=Lib.run_neq_ptr_same (P:=P) w (⟨b,i*k+off,none⟩:Addr) ht hte
 simp [execOp,hu,hu',eqGuard,this]
theorem Oi {t t' te:TypeId} {x:Operand} {vx:AV} {e:List AC} {es:List (List AC)} (hx:ρ x=some vx) (hl:gH vx=some (e::es)) (ht:P.underlying t=some (.slice te)) :
  yU P ρ L (.binOp .eql t x (.const (.slice none 0 0)) t') (.one (.c (.bool false))) L:=by
 intro B R γ w ev o ho hi hρ hfv
 obtain ⟨dst,op',type,pos,after,guard⟩:=o
 simp only at ho;subst ho
 have h1:=nT (hρ x (by simp [Op.operands]) _ hx) hl
 generalize hex:ev x=ux at h1
 cases h1 with
 | lst a n c _ k cv b o hn hc hk ha hr he =>
  have h0:0<n:=by rw [<- hn];simp
  have ha':=ha h0
  subst ha'
  refine ⟨w,R,γ, .inl ⟨.bool false,?_, .bool false⟩,hi,Ext.refl _ _ _,Mv.refl⟩
  have h : ∀ d:Nat,(Op.equalIn (d+1) t (.slice (some ⟨b,o,none⟩) n c) (.slice none 0 0)).run P w = .ok false w:=fun d=>by
   simp [Op.equalIn,run_underlying ht]
  have h2:(binOp .eql t (.slice (some ⟨b,o,none⟩) n c) (.slice none 0 0)).run P w = .ok (.bool false) w:=by
   simp only [binOp]
   rw [Sem.run_bind,show Op.equal t (.slice (some ⟨b,o,none⟩) n c) (.slice none 0 0)=Op.equalIn (9999+1) t (.slice (some ⟨b,o,none⟩) n c) (.slice none 0 0) from rfl,h]
   simp
  simp [execOp,hex,hfv.2,eqGuard,h2]
theorem DK {x:Operand} {ts:Array TypeId} {id ver n k:Nat} {es:List (List SV)} (hx:ρ x=some (.one (.sl id ver 0 n))) (hL:L[id]?=some (.row ver es k)) (hn:0<n) :
  yU P ρ L (.call { callee := .builtin .unsafeSliceData,args := #[x],argTypes:=ts }) (.one (.ep id ver 0 0)) L:=by
 intro B R γ w ev o ho hi hρ hfv
 obtain ⟨dst,op',type,pos,after,guard⟩:=o
 simp only at ho;subst ho
 obtain ⟨hvc,hlt,hall⟩:=(hρ _ (by simp [Op.operands,Call.operands]) _ hx)
 obtain ⟨hle,g,hg,hat⟩:=(hall _ es k hL).2 rfl
 match g,hg,hat with
 | .none,hg,⟨_,h0,_⟩=>omega
 | .arr b c,hg,hat =>
  have hat:ev x = .slice (some ⟨b,0*k,none⟩) n (c-0):=by
   rcases hat with hat|⟨_,h0,_⟩
   ·exact hat
   ·omega
  obtain ⟨vs,E,hb,hE2,hsz,hle2,hk,_,_⟩:=kZ hi hL hg
  have hc:c≠0:=by omega
  refine ⟨w,R,γ, .inl ⟨.pointer (some ⟨b,0,none⟩),?_,⟨rfl,rfl⟩,hlt,fun ver2 es2 k2 e2=>?_⟩,hi,Ext.refl _ _ _,Mv.refl⟩
  ·have:=Lib.run_unsafeSliceData_row (P:=P) w ts type (⟨b,0,none⟩:Addr) n c hc
   simp only [Nat.zero_mul,Nat.sub_zero] at hat
   simp [execOp,resolve,invoke,builtin,hat,this]
  ·rw [hL] at e2;injection e2 with e2;injection e2 with q1 q2 q3;subst q1 q2 q3
   refine ⟨aqe _,fun _=>⟨by omega, .arr b c,hg,?_⟩⟩
   simp [aor]
theorem BQ {x:Operand} {ts:Array TypeId} {id ver k:Nat} (hx:ρ x=some (.one (.sl id ver 0 0))) (hL:L[id]?=some (.row ver [] k)) (hv:ver<65536) :
  yU P ρ L (.call { callee := .builtin .unsafeSliceData,args := #[x],argTypes:=ts }) (.one (.c (.nul .ptr))) L:=by
 intro B R γ w ev o ho hi hρ hfv
 obtain ⟨dst,op',type,pos,after,guard⟩:=o
 simp only at ho;subst ho
 obtain ⟨hvc,hlt,hall⟩:=(hρ _ (by simp [Op.operands,Call.operands]) _ hx)
 obtain ⟨hle,g,hg,hat⟩:=(hall _ [] k hL).2 rfl
 match g,hg,hat with
 | .none,hg,⟨⟨a,hu,ha⟩,h0,_⟩ =>
  have ha':=ha hv
  subst ha'
  exact ⟨w,R,γ, .inl ⟨.pointer none,by have:=Lib.run_unsafeSliceData_nil (P:=P) w ts type 0 0;simp [execOp,resolve,invoke,builtin,hu,this], .nul .ptr _ rfl⟩,hi,Ext.refl _ _ _,Mv.refl⟩
 | .arr b c,hg,hat =>
  obtain ⟨vs,E,hb,hE2,hsz,hle2,hk,_,_⟩:=kZ hi hL hg
  omega
theorem uu {x y:Operand} {pt it:TypeId} (hx:ρ x=some (.one (.c (.nul .ptr)))) (hy:ρ y=some (.one (.c (.int .i64 0)))) :
  yU P ρ L (.call { callee := .builtin .unsafeString,args := #[x,y],argTypes := #[pt,it] }) (.one (.c (.str .empty))) L:=by
 intro B R γ w ev o ho hi hρ hfv
 obtain ⟨dst,op',type,pos,after,guard⟩:=o
 simp only at ho;subst ho
 have h1:=(hρ _ (by simp [Op.operands,Call.operands]) _ hx)
 have h2:=(hρ _ (by simp [Op.operands,Call.operands]) _ hy)
 generalize hex:ev x=ux at h1
 generalize hey:ev y=uy at h2
 cases h1 with|nul _ _ e1 =>
 cases h2
 subst e1
 have:=Lib.run_unsafeString_none (P:=P) w pt it type none
 exact ⟨w,R,γ, .inl ⟨.string .empty,by simp [execOp,resolve,invoke,builtin,hex,hey,Nul.val,this], .str _⟩,hi,Ext.refl _ _ _,Mv.refl⟩
theorem xC {x y:Operand} {pt it:TypeId} {E id ver:Nat} {s:ByteArray} (hx:ρ x=some (.one (.ep id ver 0 0))) (hy:ρ y=some (.one (.c (.int .i64 s.size)))) (hL:L[id]?=some (.row ver (bQ s) 1)) (hE:ver%65536=E) (hp:P.underlying pt=some (.pointer E)) (hc:P.cellsOf E=1)
  (h0:0<s.size) (h63:s.size<=9223372036854775807) :
  yU P ρ L (.call { callee := .builtin .unsafeString,args := #[x,y],argTypes := #[pt,it] }) (.one (.c (.str s))) (L.set id .dead):=by
 intro B R γ w ev o ho hi hρ hfv
 obtain ⟨dst,op',type,pos,after,guard⟩:=o
 simp only at ho;subst ho
 obtain ⟨_,b,c,hg,hu⟩:=TL (R:=R) hL (hρ _ (by simp [Op.operands,Call.operands]) _ hx)
 have h2:=(hρ _ (by simp [Op.operands,Call.operands]) _ hy)
 generalize hey:ev y=uy at h2
 cases h2
 obtain ⟨vs,E2,hb,hE2,hsz,hle,hk,hcells,hRn⟩:=kZ hi hL hg
 have hEt:E2=E:=by rw [hE2.1];exact hE
 subst hEt
 have hlen:(bQ s).length=s.size:=by unfold bQ;rw [aqa];simp
 have hdl:s.data.toList.length=s.size:=by simp
 have hsh:w.shape? b=some (E2,c*1):=by simp [World.shape?,hb,hsz]
 have hrun:=Lib.run_unsafeString_row (P:=P) w pt it type E2 hp hc b (c*1) hsh s.data.toList (by intro e;rw [e] at hdl;simp at hdl;omega) (by rw [hdl];omega) (by rw [hdl];omega) (fun j x hj=>by
  have hjl:=(ap0.1 hj).1
  rw [Addr.add_mid,aqH,cob_ hb]
  have hjv:j<vs.size:=by rw [hsz];omega
  have hbr:(bQ s)[j]?=some [.c (.int .u8 x.toNat)]:=by unfold bQ;rw [aql,hj];rfl
  have:=hcells.rep j _ 0 vs[j] _ hbr (by
   rw [Nat.mul_one,Nat.add_zero,aqt,if_pos (by omega)]
   simp [hjv]) rfl
  rw [aqn hjv]
  generalize vs[j]=vj at this
  cases this
  rfl)
 rw [hdl] at hrun
 have hfr : ∀ m,0<m->((∀ b',b'≠b->(w.freeze ⟨b,0,none⟩ m).heap[b']?=w.heap[b']?)/\(w.freeze ⟨b,0,none⟩ m).heap.size=w.heap.size)/\(w.freeze ⟨b,0,none⟩ m).os=w.os/\(w.freeze ⟨b,0,none⟩ m).tape=w.tape/\(w.freeze ⟨b,0,none⟩ m).output=w.output:=by
  intro m hm
  have:m≠0:=by omega
  refine ⟨⟨fun b' hne=>?_,?_⟩,?_,?_,?_⟩<;>simp only [World.freeze,hb]<;>simp [this]
  rw [Array.getElem?_modify]
  simp [Ne.symm hne]
 obtain ⟨⟨hfz,hfs⟩,f1,f2,f3⟩:=hfr s.size h0
 obtain ⟨i1,i2⟩:=hi.kill hL hg rfl (fun b e=>by cases e) (R':=R) (w':=w.freeze ⟨b,0,none⟩ s.size) (PH.sub_refl _) hfz hfs (fun _ _ _=>rfl) (fun o u e=>by rw [hRn o] at e;cases e)
 have hnb:=(hi.new id _ b hg rfl).1
 refine ⟨_,R,_, .inl ⟨.string s,?_, .str s⟩,i1,⟨⟨?_,?_,?_,by omega,fun b' hb'=>hfz b' (fun e=>hnb (by rw [<- e];exact hb'))⟩,PH.sub_refl _,fun _ _ _=>rfl⟩,i2⟩
 ·have hs:(⟨s.data.toList.toArray⟩:ByteArray)=s:=by cases s;simp
  rw [hs] at hrun
  simp only [Nat.zero_mul,aqH,Nat.add_zero] at hu
  simp [execOp,resolve,invoke,builtin,hu,hey,hrun]
 ·exact f1
 ·exact f2
 ·exact f3
end
open Go.RowKit
def iC:List (List SV)->Option (List (List AC))
 | []=>some []
 | e::es=>match mV e,iC es with
  | some x,some xs=>some (x::xs)
  | _,_=>none
theorem wV : ∀ {es:List (List SV)} {cs:List (List AC)}, iC es=some cs->es.length=cs.length
 | [],cs,h=>by injection h with h;subst h;rfl
 | e::es,cs,h=>by
  unfold iC at h
  split at h
  ·rename_i x xs hx hxs;injection h with h;subst h;simp [wV hxs]
  ·cases h
theorem n_ : ∀ {es:List (List SV)} {cs:List (List AC)}, iC es=some cs -> ∀ (i:Nat) c,cs[i]?=some c -> ∃ e,es[i]?=some e/\mV e=some c
 | [],cs,h=>by injection h with h;subst h;intro i c hc;simp at hc
 | e::es,cs,h=>by
  unfold iC at h
  split at h
  ·rename_i x xs hx hxs
   injection h with h;subst h
   intro i c hc
   cases i with
   | zero=>simp at hc;subst hc;exact ⟨e,rfl,hx⟩
   | succ i=>simp at hc;obtain ⟨e',h1,h2⟩:=n_ hxs i c hc;exact ⟨e',by simpa using h1,h2⟩
  ·cases h
theorem nA : ∀ (cs:List (List AC)),iC (cs.map (List.map SV.c))=some cs
 | []=>rfl
 | c::cs=>by
  have h1 : ∀ l:List AC,mV (l.map SV.c)=some l:=by
   intro l
   induction l with
   | nil=>rfl
   | cons x l ih=>simp [mV,SV.norm,ih]
  simp [iC,h1,nA cs]
section
variable {P:Program} {ti:TI} {B:Nat->Prop} {N n0:Nat} {R:PH} {γ:List Gh} {L:List Ob} {T:Tm} {w:World} {Q:AX->Tm->List Ob->Prop}
end
section
variable {P:Program} {ti:TI} {N n0:Nat} {L:List Ob} {T:Tm} {Q:AX->Tm->List Ob->Prop}
theorem uE {B:Nat->Prop} {R:PH} {γ:List Gh} {w:World} (hi:Inv B R γ L w) {id ver k:Nat} {es:List (List SV)} {cs:List (List AC)} (hL:L[id]?=some (.row ver es k)) (hn:iC es=some cs) :
  ∃ R' γ',Inv B R' γ' (L.set id .dead) w/\Ext B R R' w w/\Mv R R' γ γ' L (L.set id .dead) /\ ∀ lo n u,(SV.sl id ver lo n).rep R γ L u->bX R' u (.lst ((cs.drop lo).take n)):=by
 have hlt:id<L.length:=(ap0.1 hL).1
 obtain ⟨g,hg⟩ : ∃ g,γ[id]?=some g:=⟨_,ap9 (by rw [hi.len];exact hlt)⟩
 have hob:=hi.obj id _ _ hL hg
 have hlc:=wV hn
 match g,hg,hob with
 | .none,hg,hob =>
  have he:es=[]:=hob
  subst he
  injection hn with hn;subst hn
  have hm:Mv R R γ (γ.set id .none) L (L.set id .dead):=Mv.setOb (PH.sub_refl _) hi.len hL (fun b e=>by rw [hg] at e;cases e) (fun _ _ e=>by cases e) (fun _ _ _ e=>by cases e)
  have hgs:γ.set id .none=γ:=by
   apply List.ext_getElem?
   intro j
   by_cases hj:j=id
   ·subst hj;rw [aqh (by rw [hi.len];exact hlt),hg]
   ·rw [aqi (Ne.symm hj)]
  rw [hgs] at hm
  refine ⟨R,γ,⟨by simp [hi.len],hi.val,fun j y h hy hh=>?_,hi.inj,hi.new,hi.bsz⟩,Ext.refl _ _ _,hm,fun lo n u hu=>?_⟩
  ·by_cases hj:j=id
   ·subst hj
    rw [aqh hlt] at hy;injection hy with hy;subst hy
    rw [hg] at hh;injection hh with hh;subst hh
    trivial
   ·rw [aqi (Ne.symm hj)] at hy
    exact (hi.obj j y h hy hh).mv hm (fun _ _=>rfl) (fun _ _ _ e=>e)
  ·obtain ⟨_,_,hall⟩:=hu
   obtain ⟨_,g',hg',hat⟩:=(hall _ [] k hL).2 rfl
   rw [hg] at hg';injection hg' with hg';subst hg'
   obtain ⟨⟨a0,rfl,_⟩,rfl,rfl⟩:=hat
   exact gq _ _ _
 | .arr b c,hg,hob =>
  obtain ⟨vs,E,hb,hE,hsz,hle,hk,hcells,hRn⟩:=kZ hi hL hg
  have hle2:es.length*k<=c*k:=aqB _ hle
  have hsub0 : ∀ b' o u,R b' o=some u->(if b'=b/\o<es.length*k then vs[o]? else R b' o)=some u:=by
   intro b' o u h
   by_cases hc:b'=b/\o<es.length*k
   ·exfalso;rw [hc.1,hRn] at h;cases h
   ·rw [if_neg hc];exact h
  let R':PH:=R.put (fun b' o=>if b'=b/\o<es.length*k then vs[o]? else R b' o) hsub0
  have hsub:PH.sub R R':=hsub0
  obtain ⟨i1,i2⟩:=hi.kill hL hg rfl (fun b e=>by cases e) (R':=R') (w':=w) hsub (fun _ _=>rfl) rfl (fun b' o hne=>by show (if b'=b/\o<es.length*k then vs[o]? else R b' o)=R b' o;rw [if_neg (fun h=>hne h.1)])
   (fun o u h=>by
    have h:(if b=b/\o<es.length*k then vs[o]? else R b o)=some u:=h
    rw [cob_ hb]
    by_cases hc:b=b/\o<es.length*k
    ·rw [if_pos hc] at h;exact h
    ·rw [if_neg hc,hRn] at h;cases h)
  have hnb:=(hi.new id _ b hg rfl).1
  refine ⟨R',γ.set id .none,i1,⟨Kept.refl _ _,hsub,fun b' o hb'=>?_⟩,i2,fun lo n u hu=>?_⟩
  ·show (if b'=b/\o<es.length*k then vs[o]? else R b' o)=R b' o
   rw [if_neg (fun h=>hnb (by rw [<- h.1];exact hb'))]
  ·obtain ⟨_,_,hall⟩:=hu
   obtain ⟨hln,g',hg',hat⟩:=(hall _ es k hL).2 rfl
   rw [hg] at hg';injection hg' with hg';subst hg'
   have hlen:((cs.drop lo).take n).length=n:=by simp;omega
   have hcv : ∃ a c',u = .slice a n c'/\n<=c'/\(0<n->a=some ⟨b,lo*k,none⟩):=by
    rcases hat with hat|⟨q1,q2,a,q3⟩
    ·exact ⟨_,_,hat,by omega,fun _=>rfl⟩
    ·exact ⟨a,0,by rw [q3,q2],by omega,fun h=>by omega⟩
   obtain ⟨a,c',rfl,hnc,ha⟩:=hcv
   have h1:lo*k+n*k<=es.length*k:=by rw [<- Nat.add_mul];exact aqB _ hln
   have getc : ∀ (i:Nat) e,((cs.drop lo).take n)[i]?=some e->i<n /\ ∃ y,es[lo+i]?=some y/\mV y=some e:=by
    intro i e he
    rw [aqt] at he
    split at he
    ·rename_i hin
     rw [aqL] at he
     obtain ⟨y,g1,g2⟩:=n_ hn (lo+i) e he
     exact ⟨hin,y,g1,g2⟩
    ·cases he
   refine .lst a n c' _ k (fun j=>(vs[lo*k+j]?).getD Go.undef) b (lo*k) hlen hnc (fun e he=>?_) ha (fun j hj=>?_) (fun i e j x he hx=>?_)
   ·obtain ⟨i,hi'⟩:=List.mem_iff_getElem?.1 he
    obtain ⟨_,y,g1,g2⟩:=getc i e hi'
    rw [iO g2];exact hcells.wide y (ap6 g1)
   ·have hlt2:lo*k+j<vs.size:=by omega
    show (if b=b/\lo*k+j<es.length*k then vs[lo*k+j]? else R b (lo*k+j))=_
    rw [if_pos ⟨rfl,by omega⟩,aqn hlt2];rfl
   ·obtain ⟨hin,y,g1,g2⟩:=getc i e he
    have hjk:j<k:=by rw [<- hcells.wide y (ap6 g1), <- iO g2];exact (ap0.1 hx).1
    have hlt3:=zk hin hjk
    have hlt2:lo*k+(i*k+j)<vs.size:=by omega
    have hyj:j<y.length:=by rw [hcells.wide y (ap6 g1)];exact hjk
    have hr:=hcells.rep (lo+i) y j vs[lo*k+(i*k+j)] _ g1 (by
     rw [aqt,if_pos (by rw [Nat.add_mul];omega),Nat.add_mul,Nat.add_assoc]
     simp [hlt2]) (ap9 hyj)
    have:=SV.norm_rep hr (oK g2 j _ _ (ap9 hyj) hx)
    show bX R' ((vs[lo*k+(i*k+j)]?).getD Go.undef) x
    rw [aqn hlt2]
    exact bX.mono hsub this
theorem nZ {c:Code} (id t:Nat) {ver k n:Nat} {es:List (List SV)} {cs:List (List AC)} (hL:L[id]?=some (.row ver es k)) (hn:iC es=some cs) (ht:T.lookup t=some (.one (.sl id ver 0 n))) (hlen:cs.length=n) (h:Aw P N n0 c Q ((t, .one (.c (.lst cs)))::T) (L.set id .dead)):Aw P N n0 c Q T L:=by
 intro hn0 B R γ w a hi hT
 obtain ⟨R',γ',hI,hE,hM,hS⟩:=uE hi hL hn
 refine wp_mono (h (by simpa using hn0) B R' γ' w a hI ?_) fun _ _ _ hh=>hh.ext hE hi.len (vR.of hn0 hM)
 refine ⟨hT.size,hT.defers,fun t' x hx=>?_⟩
 rw [List.lookup_cons] at hx
 by_cases e:t'=t
 ·subst e
  simp at hx;subst hx
  obtain ⟨u,h1,h2⟩:=hT.slot t' _ ht
  refine ⟨u,h1,?_⟩
  have:=hS 0 n u h2
  rw [List.drop_zero, <- hlen,List.take_length] at this
  exact this
 ·have:(t'==t)=false:=by simpa using e
  rw [this] at hx
  obtain ⟨u,h1,h2⟩:=hT.slot t' x hx
  exact ⟨u,h1,AV.mv hM h2⟩
end
section
variable {P:Program} {ti:TI} {B:Nat->Prop} {N n0:Nat} {R:PH} {γ:List Gh} {L:List Ob} {w:World} {ρ:Operand->Option AV} {T:Tm} {Q:AX->Tm->List Ob->Prop}
theorem Vn (hti:TIok P ti) {l c:Operand} {t:TypeId} {E by_ n:Nat} {kl kc:IntKind} (hl:ρ l=some (.one (.c (.int kl (n:Int))))) (hc:ρ c=some (.one (.c (.int kc (n:Int))))) (ht:ti.elem t=some E) (hE:E<65536) (hsz:ti.size E=some 1) (hz:ti.zero E=some (.one .emp)) (hzo:ti.zok E=true) (hby:ti.bytes E=some by_)
  (hb1:(by_:Int)*(n:Int)<=281474976710656) (hb2:(n:Int)<=9223372036854775807) :
  yU P ρ L (.makeSlice t l c) (.one (.sl L.length (E+65536) 0 n)) (L++[.row (E+65536) (List.replicate n [.emp]) 1]):=by
 intro B R γ w ev o ho hi hρ hfv
 obtain ⟨dst,op,type,pos,after,guard⟩:=o
 simp only at ho;subst ho
 obtain ⟨inf,z,hinf,hzz,hisz,hzc⟩:=hti.zok _ hzo _ (hti.size _ _ hsz)
 have hz2:=hti.zero _ _ hz
 have hzv : ∃ a,z = .slice a 0 0:=by
  unfold zeroOf at hz2
  rw [hinf,apZ,hzz,apZ] at hz2
  exact AV.ofVal_rep (R:=R) (γ:=γ) (L:=L) hz2
 obtain ⟨za,rfl⟩:=hzv
 have hbytes:inf.bytes=by_:=by have hby':=hti.bytes _ _ hby;unfold qg at hby';rw [hinf] at hby';simpa using hby'
 have hlv:=(hρ _ (by simp [Op.operands,Call.operands]) _ hl)
 have hcv:=(hρ _ (by simp [Op.operands,Call.operands]) _ hc)
 generalize hle:ev l=lv at hlv
 generalize hce:ev c=cv at hcv
 cases hlv;cases hcv
 have hrun:=run_make (P:=P) w t E inf _ (pW hti ht) hinf hzz kl kc (n:Int) (n:Int) (by omega) (Int.le_refl _) (by rw [hbytes];exact hb1) hb2
 have hm:Mv R R γ (γ++[.arr w.heap.size n]) L (L++[.row (E+65536) (List.replicate n [.emp]) 1]):=Mv.push _ _ hi.len
 rw [Int.toNat_natCast,hisz,Nat.mul_one] at hrun
 refine ⟨w.alloc (.cells (madeCells (Value.slice za 0 0).cells n) E),R,_, .inl ⟨.slice (some ⟨w.heap.size,0,none⟩) n n,by simp [execOp,hle,hce,hrun],⟨rfl,rfl⟩,by simp,fun ver2 es2 k2 e2=>?_⟩,?_,⟨Kept.alloc hi.bsz _,PH.sub_refl _,fun _ _ _=>rfl⟩,hm⟩
 ·rw [ap7 (by omega)] at e2
  simp at e2
  obtain ⟨q1,q2,q3⟩:=e2
  subst q1 q2 q3
  refine ⟨aqe _,fun _=>⟨by simp, .arr w.heap.size n,by rw [<- hi.len];simp, .inl ?_⟩⟩
  simp
 ·refine hi.push _ _ _ rfl ⟨⟨_,E,⟨gD w _,by show (E:Nat)=(E+65536)%65536;omega,by show 65536<=(E:Nat)+65536;omega⟩,by rw [size_madeCells,Nat.mul_one],fun i e j u x he hu hx=>?_⟩,by simp,by omega,by intro e he;rw [List.eq_of_mem_replicate he];rfl,fun o=>hi.none_at o⟩
  have he2:=List.eq_of_mem_replicate (ap6 he)
  subst he2
  have hj:j=0:=by have:=(ap0.1 hx).1;simp at this;omega
  subst hj
  simp at hx;subst hx
  have hu2:u∈(madeCells (Value.slice za 0 0).cells n).toList:=by
   rw [aqJ] at hu
   obtain ⟨h1,h2⟩:=hu
   rw [<- h2];simp
  rw [show (Value.slice za 0 0).cells = #[Value.slice za 0 0] from rfl,toList_madeCells_one] at hu2
  rw [List.eq_of_mem_replicate hu2]
  exact ⟨za,rfl⟩
theorem afT {c:Code} (id i k:Nat) {ver:Nat} {es:List (List SV)} (hid:L[id]?=some (.row ver es 1)) (he:es[i]?=some [.emp]) (h:Aw P N n0 c Q T (L.set id (.row ver (es.set i [.own [] L.length]) 1)++[.spare 0 k])):Aw P N n0 c Q T L:=by
 intro hn B R γ w a hi hT
 have hlt:=(ap0.1 hid).1
 have hm:Mv R R γ (γ++[.none]) L (L.set id (.row ver (es.set i [.own [] L.length]) 1)++[.spare 0 k]):=by
  refine ⟨PH.sub_refl _,by simp,fun t n k' hlt' e=>⟨n,?_,aqe _,fun _=>?_⟩,fun t ver' es0 k' hlt' e=>?_,fun i b e=>?_⟩
  ·rw [aqc (by simpa using hlt')] at e
   have hne:t≠id:=by rintro rfl;rw [aqh hlt'] at e;cases e
   rw [aqi (Ne.symm hne)] at e;exact e
  ·rw [aqc (by rw [hi.len];exact hlt')]
  ·rw [aqc (by simpa using hlt')] at e
   by_cases hne:t=id
   ·subst hne
    rw [aqh hlt'] at e
    injection e with e
    injection e with e1 e2 e3
    subst e1 e2 e3
    exact ⟨ver,es,hid,aqe _,fun _=>⟨by simp,aqc (by rw [hi.len];exact hlt')⟩⟩
   ·rw [aqi (Ne.symm hne)] at e
    exact ⟨ver',es0,e,aqe _,fun _=>⟨rfl,aqc (by rw [hi.len];exact hlt')⟩⟩
  ·rw [aqc (ap0.1 e).1];exact e
 refine wp_mono (h (by simp;omega) B R (γ++[.none]) w a ?_ (hT.mv hm)) fun _ _ _ hh=>hh.ext (Ext.refl _ _ _) hi.len (vR.of hn hm)
 have gcase : ∀ j h,(γ++[Gh.none])[j]?=some h->(j=γ.length/\h = .none)\/(j<γ.length/\γ[j]?=some h):=by
  intro j h hh
  by_cases hid:j<γ.length
  ·rw [aqc hid] at hh;exact .inr ⟨hid,hh⟩
  ·have:j=γ.length:=by have:=(ap0.1 hh).1;simp at this;omega
   subst this
   rw [ap7 (by omega)] at hh
   simp at hh
   exact .inl ⟨rfl,hh.symm⟩
 have it:=hi.tok k
 refine ⟨by simp [hi.len],hi.val,fun q y g hy hg=>?_,it.inj,it.new,hi.bsz⟩
 rcases gcase q g hg with ⟨rfl,rfl⟩|⟨hl2,hg'⟩
 ·rw [ap7 (by simp [hi.len])] at hy
  simp [hi.len] at hy;subst hy;rfl
 ·rw [aqc (by simp;rw [<- hi.len];exact hl2)] at hy
  by_cases hii:q=id
  ·subst hii
   rw [aqh hlt] at hy
   injection hy with hy;subst hy
   have hob:=hi.obj q _ _ hid hg'
   match g,hob with
   | .arr b cp,⟨⟨vs,E,h1,h2,h3⟩,h4,h5,h6,h7⟩ =>
    refine ⟨⟨vs,E,h1,h2,fun i' e j u x he' hu hx=>?_⟩,by simpa using h4,h5,?_,h7⟩
    ·by_cases hq:i'=i
     ·subst hq
      rw [aqh (ap0.1 he).1] at he'
      injection he' with he';subst he'
      have hj:j=0:=by have:=(ap0.1 hx).1;simp at this;omega
      subst hj
      simp at hx;subst hx
      obtain ⟨ad,rfl⟩:=h3 i' _ 0 u .emp he hu rfl
      exact ⟨gq _ _ _,by simp,fun n2 k2 _=>⟨by simp,by simp,fun _=>⟨.none,by rw [<- hi.len];simp,ad,by simp⟩⟩⟩
     ·rw [aqi (Ne.symm hq)] at he'
      exact SV.mv hm (h3 i' e j u x he' hu hx)
    ·intro e he'
     rcases List.mem_or_eq_of_mem_set he' with h8|h8
     ·exact h6 e h8
     ·subst h8;rfl
   | .none,hob =>
    have hes:es=[]:=hob
    subst hes;simp at he
  ·rw [aqi (Ne.symm hii)] at hy
   exact (hi.obj q y g hy hg').mv hm (fun _ _=>rfl) (fun _ _ _ h=>h)
def qK:Nat->List (List (List AC))->List (List SV)
 | _,[]=>[]
 | t,es::ps=>[.own es t]::qK (t+1) ps
def I9 (k:Nat) (ps:List (List (List AC))):List Ob:=ps.map fun es => .spare es.length k
theorem Ym : ∀ (ps:List (List (List AC))) (t i:Nat) (es:List (List AC)),ps[i]?=some es->(qK t ps)[i]?=some [.own es (t+i)]
 | [],t,i,es,h=>by simp at h
 | p::ps,t,0,es,h=>by simp at h;subst h;rfl
 | p::ps,t,i+1,es,h=>by
  have:=Ym ps (t+1) i es (by simpa using h)
  show (qK (t+1) ps)[i]?=_
  rw [this,show t+1+i=t+(i+1) by omega]
theorem WR : ∀ (ps:List (List (List AC))) (t i:Nat) (es:List (List AC)),(qK t ps).set i [.own es (t+i)]=qK t (ps.set i es)
 | [],t,i,es=>by simp [qK]
 | p::ps,t,0,es=>rfl
 | p::ps,t,i+1,es=>by
  have:=WR ps (t+1) i es
  show [.own p t]::(qK (t+1) ps).set i _=[.own p t]::qK (t+1) (ps.set i es)
  rw [<- this,show t+(i+1)=t+1+i by omega]
theorem XV : ∀ (ps:List (List (List AC))) (t:Nat) (e:List SV),e∈qK t ps -> ∃ es i,i<ps.length/\e=[.own es (t+i)]
 | [],t,e,h=>by cases h
 | p::ps,t,e,h=>by
  rcases aqf.1 h with h|h
  ·exact ⟨p,0,by simp,h⟩
  ·obtain ⟨es,i,hi,h2⟩:=XV ps (t+1) e h
   exact ⟨es,i+1,by simp;omega,by rw [h2,show t+1+i=t+(i+1) by omega]⟩
theorem Sb : ∀ (ps:List (List (List AC))) (t:Nat),iC (qK t ps)=some (ps.map fun es=>[.lst es])
 | [],t=>rfl
 | p::ps,t=>by
  have:=Sb ps (t+1)
  show iC ([.own p t]::qK (t+1) ps)=_
  simp only [iC,this,mV,SV.norm,ap']
theorem aaq (v:Nat) (ps:List (List (List AC))) (t n:Nat) (h:t+ps.length<=n):(Ob.row v (qK t ps) 1).below n:=by
 intro e he x hx
 obtain ⟨es,i,hi,rfl⟩:=XV ps t e he
 simp at hx;subst hx
 show t+i<n
 omega
theorem acU {c:Code} (id k ver:Nat) : ∀ (n:Nat) (pre:List (List SV)) (L:List Ob),L[id]?=some (.row ver (pre++List.replicate n [.emp]) 1) ->
  Aw P N n0 c Q T (L.set id (.row ver (pre++qK L.length (List.replicate n [])) 1)++I9 k (List.replicate n []))->Aw P N n0 c Q T L
 | 0,pre,L,hL,h=>by
  have e:L.set id (.row ver (pre++qK L.length (List.replicate 0 [])) 1)++I9 k (List.replicate 0 [])=L:=by
   obtain ⟨h1,h2⟩:=ap0.1 hL
   have:pre++qK L.length (List.replicate 0 [])=pre++List.replicate 0 [SV.emp]:=rfl
   rw [this,show I9 k (List.replicate 0 [])=[] from rfl,aqy, <- h2,List.set_getElem_self]
  rw [e] at h;exact h
 | n+1,pre,L,hL,h=>by
  have hlt:=(ap0.1 hL).1
  refine afT id pre.length k hL (by simp [List.replicate_succ]) ?_
  refine acU id k ver n (pre++[[.own [] L.length]]) _ (by
   rw [aqc (by simpa using hlt),aqh hlt,List.replicate_succ,List.set_append_right _ _ (aqe _),Nat.sub_self,List.set_cons_zero,aqp];rfl) ?_
  have e1:(L.set id (.row ver ((pre++List.replicate (n+1) [SV.emp]).set pre.length [.own [] L.length]) 1)++[Ob.spare 0 k]).length=L.length+1:=by simp
  rw [e1,List.set_append_left _ _ (by simpa using hlt),List.set_set,aqp,aqp]
  exact h
end
section
variable {P:Program} {ti:TI} {N:Nat} {ds:List (Option Tmp)} {K:Tm->List Ob->Prop} {rest:List Oper} {o:Oper} {T:Tm} {L:List Ob}
theorem akz {t tx:TypeId} {s x:Operand} {es xs:List (List AC)} {i n k E by_ d:Nat} {vx:AV} {L':List Ob} (hd:o.dst=some d) (hN:Nat.blt d N=true) (hg:kH ds T o.guard=some true) (ho:o.op = .call { callee := .builtin .append,args := #[s,x],argTypes := #[t,tx] })
  (hs:look T s=some (.one (.own es i))) (hx:look T x=some vx) (hl:gH vx=some xs) (ht:ti.elem t=some E) (hk:ti.size E=some k) (hb:ti.bytes E=some by_) (hL:L[i]?=some (.spare n k))
  (hφ:(ti.elem tx).isSome/\k=k/\es.length=n/\(ti.zok E=true/\0<k)/\(∀ e∈xs,e.length=k)/\(n+xs.length)*by_<=140737488355328/\n+xs.length<=140737488355328) (hL':L.set i (.spare (n+xs.length) k)=L')
  (h:aX P ti N ds K rest ((d, .one (.own (es++xs) i))::T) L'):aX P ti N ds K (o::rest) T L:=by
 refine aN (v := .one (.own (es++xs) i)) hd hN hg ?_ hφ h
 rw [ho]
 simp only [K9,hs,hx,AZ,hl,ht,hk,hb,hL,hL']
end
end Go.Proofs.YtlcceppoloaecaaGreatDoor
