/- Parts. No condition. -/
import Derived.Test.YtdkmoemdipgikaaGreatDoorKAE
import Derived.Laws.MakeOwn
import Derived.Lib.UnsafeStr
import Derived.Lib.Builder
import Derived.Laws.StructEq
set_option linter.unusedSimpArgs false
set_option linter.unusedVariables false
namespace Go.Proofs.YtdkmoemdipgikaaGreatDoor
open Go.RowKit Go.MapKept
structure eH (R:PH)(γ:List Gh)(L:List Ob)(k:Nat)(xs:List (List SV))(news:List Value):Prop where
 len:news.length=xs.length*k
 wide:∀ e∈xs,e.length=k
 rep:∀ (i:Nat) e (j:Nat) u x,xs[i]?=some e->news[i*k+j]?=some u->e[j]?=some x->x.rep R γ L u
 one:∀ u∈news,u.oneCell'=true
def bf (s:ByteArray):List (List SV):=s.data.toList.map fun b=>[.c (.int .u8 b.toNat)]
section
variable {P:Program} {ti:TI} {B:Nat->Prop} {N:Nat} {R:PH} {γ:List Gh} {L:List Ob} {w:World} {ρ:Operand->Option AV}
theorem Mv.setOb {id:Nat}{x x':Ob}{g':Gh}{R':PH}(hs:PH.sub R R')(hl:γ.length=L.length)(hx:L[id]?=some x)(hnb:∀ b,γ[id]?≠some (.box b))(htok:∀ n k,x' ≠ .spare n k)(hrow:∀ ver' es' k,x' = .row ver' es' k ->∃ ver es,x = .row ver es k/\ver<ver') :
  Mv R R' γ (γ.set id g') L (L.set id x'):=by
 have hlt:id<L.length:=(amw.1 hx).1;refine⟨hs,m5,fun t n k _ h=>?_,fun t ver es k _ h=>?_,fun j b h=>?_⟩
 ·by_cases e:t=id
  ·subst e;rw[amP hlt]at h;injection h with h;exact absurd h (htok n k)
  ·rw[amQ (Ne.symm e)]at h;exact⟨n,h,amM _,fun _=>by rw[amQ (Ne.symm e)]⟩
 ·by_cases e:t=id
  ·subst e;rw[amP hlt]at h;injection h with h
   obtain⟨v0,e0,h1,h2⟩:=hrow ver es k h;exact⟨v0,e0,by rw[hx,h1],m0,fun q=>by omega⟩
  ·rw[amQ (Ne.symm e)]at h;exact⟨ver,es,h,amM _,fun _=>⟨rfl,by rw[amQ (Ne.symm e)]⟩⟩
 ·have:j≠id:=by rintro rfl;exact hnb b h
  rw[amQ (Ne.symm this)];exact h
theorem Inv.rehome (hi:Inv B R γ L w){id:Nat}{x x':Ob}{g':Gh}(hx:L[id]?=some x)(hg':g'.block=some w.heap.size)(o:Obj)(hm:Mv R R γ (γ.set id g') L (L.set id x'))
  (hobj:jM R (γ.set id g') (L.set id x') (w.drew.alloc o) x' g'):Inv B R (γ.set id g') (L.set id x') (w.drew.alloc o):=by
 have hlt:id<L.length:=(amw.1 hx).1;have gcase:∀ j h,(γ.set id g')[j]?=some h->(j=id/\h=g')\/(j≠id/\γ[j]?=some h):=by
  intro j h hh;by_cases hj:j=id
  ·subst hj
   rw[amP (by rw[hi.len];exact hlt)]at hh;injection hh with hh
   exact .inl ⟨rfl,hh.symm⟩
  ·rw[amQ (Ne.symm hj)]at hh
   exact .inr ⟨hj,hh⟩
 have hold:∀ b,b<w.heap.size->(w.drew.alloc o).heap[b]?=w.heap[b]?:=fun b hb=>eh w.drew _ hb
 have esz:(w.drew.alloc o).heap.size=w.heap.size+1:=by show(w.heap.push _).size=_;simp
 refine⟨by simp[hi.len],fun b o' u h=>?_,fun j y h hy hh=>?_,fun j1 j2 g1 g2 h1 h2 hne b hb=>?_,fun j h b hh hb=>?_,fun b hb=>by have:=hi.bsz b hb;omega⟩
 ·have:=hi.lt h
  rw[<- hi.val _ _ _ h];exact World.cell?_of_block (w:=w) (hold b this)
 ·rcases gcase j h hh with⟨rfl,rfl⟩|⟨hne,hh'⟩
  ·rw[amP hlt]at hy
   injection hy with hy;subst hy
   exact hobj
  ·rw[amQ (Ne.symm hne)]at hy
   exact(hi.obj j y h hy hh').mv hm (fun b hb=>hold b (hi.new j h b hh' hb).2) (fun _ _ _ e=>e)
 ·rcases gcase j1 g1 h1 with⟨a1,rfl⟩|⟨a1,a2⟩<;>rcases gcase j2 g2 h2 with⟨b1,rfl⟩|⟨b1,b2⟩
  ·omega
  ·rw[hg']at hb;injection hb with hb;subst hb
   intro e;have:=(hi.new j2 g2 _ b2 e).2;omega
  ·have:=(hi.new j1 g1 b a2 hb).2
   rw[hg'];simp;omega
  ·exact hi.inj j1 j2 g1 g2 a2 b2 hne b hb
 ·rcases gcase j h hh with⟨_,rfl⟩|⟨_,b2⟩
  ·rw[hg']at hb;injection hb with hb;subst hb
   exact⟨fun hB=>by have:=hi.bsz _ hB;omega,m0⟩
  ·have:=hi.new j h b b2 hb
   exact⟨this.1,m0⟩
theorem Inv.kill (hi:Inv B R γ L w){id:Nat}{x:Ob}{g:Gh}{b:Nat}(hx:L[id]?=some x)(hg:γ[id]?=some g)(hb:g.block=some b)(hnb:∀ b,g ≠ .box b){R':PH}{w':World}(hs:PH.sub R R')
  (hw:∀ b',b'≠b->w'.heap[b']?=w.heap[b']?) (hsz:w'.heap.size=w.heap.size) (hR:∀ b' o,b'≠b->R' b' o=R b' o) (hv:∀ o u,R' b o=some u->w'.cell? ⟨b,o,none⟩=some u) :
  Inv B R' (γ.set id .none) (L.set id .dead) w'/\Mv R R' γ (γ.set id .none) L (L.set id .dead):=by
 have hlt:id<L.length:=(amw.1 hx).1;have hm:Mv R R' γ (γ.set id .none) L (L.set id .dead):=Mv.setOb hs hi.len hx (fun b e=>by rw[hg]at e;injection e with e;exact hnb b e) (fun _ _ e=>by cases e) (fun _ _ _ e=>by cases e);have gcase:∀ j h,(γ.set id Gh.none)[j]?=some h->(j=id/\h = .none)\/(j≠id/\γ[j]?=some h):=by
  intro j h hh;by_cases hj:j=id
  ·subst hj
   rw[amP (by rw[hi.len];exact hlt)]at hh;injection hh with hh
   exact .inl ⟨rfl,hh.symm⟩
  ·rw[amQ (Ne.symm hj)]at hh
   exact .inr ⟨hj,hh⟩
 refine⟨⟨by simp[hi.len],fun b' o u h=>?_,fun j y h hy hh=>?_,fun j1 j2 g1 g2 h1 h2 hne b' hb'=>?_,fun j h b' hh hb'=>?_,fun b' hb'=>by rw[hsz];exact hi.bsz b' hb'⟩,hm⟩
 ·by_cases hbb:b'=b
  ·subst hbb;exact hv o u h
  ·rw[hR b' o hbb]at h
   rw[<- hi.val _ _ _ h];exact World.cell?_of_block (w:=w) (hw b' hbb)
 ·rcases gcase j h hh with⟨rfl,rfl⟩|⟨hne,hh'⟩
  ·rw[amP hlt]at hy
   injection hy with hy;subst hy
   trivial
  ·rw[amQ (Ne.symm hne)]at hy
   have hne':∀ b',h.block=some b'->b'≠b:=fun b' hb' e=>hi.inj j id h g hh' hg hne b' hb' (by rw[hb,e])
   exact(hi.obj j y h hy hh').mv hm (fun b' hb'=>hw b' (hne' b' hb')) (fun b' o hb' e=>by rw[hR b' o (hne' b' hb')];exact e)
 ·rcases gcase j1 g1 h1 with⟨a1,rfl⟩|⟨a1,a2⟩<;>rcases gcase j2 g2 h2 with⟨b1,rfl⟩|⟨b1,b2⟩
  ·omega
  ·cases hb'
  ·exact fun e=>by cases e
  ·exact hi.inj j1 j2 g1 g2 a2 b2 hne b' hb'
 ·rcases gcase j h hh with⟨_,rfl⟩|⟨_,b2⟩
  ·cases hb'
  ·rw[hsz];exact hi.new j h b' b2 hb'
theorem eH.ofC {k:Nat}{xs:List (List AC)}{news:List Value}(h:Cells R k xs news):eH R γ L k (xs.map (List.map SV.c)) news:=by
 refine⟨by rw[h.len];simp,fun e he=>?_,fun i e j u x he hu hx=>?_,h.one⟩
 ·obtain⟨y,hy,rfl⟩:=am6.1 he;simpa using h.wide y hy
 ·rw[amT]at he
  cases hq:xs[i]? with
  |none=>simp[hq]at he
  |some y =>
   simp[hq]at he;subst he;rw[amT]at hx
   cases hq2:y[j]? with
   |none=>simp[hq2]at hx
   |some z =>
    simp[hq2]at hx;subst hx;obtain⟨u',g1,g2⟩:=h.get i y j z hq hq2;rw[hu]at g1;injection g1 with g1;subst g1
    exact g2
theorem eH.ofStr (s:ByteArray):eH R γ L 1 (bf s) (byteCells s):=by
 refine⟨by rw[byteCells_length];simp[bf],fun e he=>?_,fun i e j u x he hu hx=>?_,fun u hu=>?_⟩
 ·obtain⟨y,hy,rfl⟩:=am6.1 he;rfl
 ·unfold bf at he;unfold byteCells at hu
  rw[amT]at he
  cases hq:s.data.toList[i]? with
  |none=>rw[hq]at he;simp at he
  |some y =>
   rw[hq]at he;simp at he;subst he;have hj:j=0:=by have:=(amw.1 hx).1;simpa using this
   subst hj;simp at hx;subst hx;rw[Nat.mul_one,Nat.add_zero,amT,hq]at hu;simp at hu;subst hu;exact .int _ _
 ·unfold byteCells at hu
  obtain⟨y,hy,rfl⟩:=am6.1 hu;rfl
theorem eH.mv {R':PH}{γ':List Gh}{L':List Ob}(h:Mv R R' γ γ' L L'){k:Nat}{xs:List (List SV)}{news:List Value}(hc:eH R γ L k xs news):eH R' γ' L' k xs news :=
 ⟨hc.len,hc.wide,fun i e j u x he hu hx=>SV.mv h (hc.rep i e j u x he hu hx),hc.one⟩
theorem eH.app {es xs:List (List SV)}{k:Nat}{olds news:List Value}(h:eH R γ L k es olds)(g:eH R γ L k xs news):eH R γ L k (es++xs) (olds++news):=by
 refine⟨by rw[amE,h.len,g.len,amE,Nat.add_mul],fun e he=>?_,fun i e j u x he hu hx=>?_,fun u hu=>?_⟩
 ·rcases amY.1 he with he|he
  ·exact h.wide e he
  ·exact g.wide e he
 ·by_cases hi:i<es.length
  ·rw[amK hi]at he
   have hjk:j<k:=by rw[<- h.wide e (amC he)];exact(amw.1 hx).1
   rw[amK (by rw[h.len];exact oQ hi hjk)]at hu;exact h.rep i e j u x he hu hx
  ·rw[amD m0]at he
   have hle:es.length*k<=i*k:=am7 _ m0;rw[amD (by rw[h.len];omega),h.len]at hu;refine g.rep (i-es.length) e j u x he ?_ hx;rw[Nat.mul_sub_right_distrib];have:i*k-es.length*k+j=i*k+j-es.length*k:=m0
   rw[this];exact hu
 ·rcases amY.1 hu with hu|hu
  ·exact h.one u hu
  ·exact g.one u hu
theorem SV.one_cell {x:SV}{u:Value}(h:x.rep R γ L u):u.oneCell'=true:=(SV.rep_one h).2
theorem fx (hi:Inv B R γ L w){id ver k b c:Nat}{es:List (List SV)}(hL:L[id]?=some (.row ver es k))(hg:γ[id]?=some (.arr b c)) :
  ∃ vs E,w.heap[b]?=some (.cells vs E (0,0))/\(E=ver%65536/\65536<=ver)/\vs.size=c*k/\es.length<=c/\0<k/\eH R γ L k es (vs.toList.take (es.length*k)) /\ ∀ o,R b o=none:=by
 obtain⟨⟨vs,E,h1,h2,h3⟩,h4,h5,h6,h7⟩:=hi.obj id _ _ hL hg;have hle:es.length*k<=c*k:=am7 _ h4;have get:∀ (i:Nat) e (j:Nat) u,es[i]?=some e->j<k->(vs.toList.take (es.length*k))[i*k+j]?=some u->vs[i*k+j]?=some u:=by
  intro i e j u he hj hu;rw[am0,if_pos (oQ (amw.1 he).1 hj)]at hu;simpa using hu
 refine⟨vs,E,h1.1,h1.2,h2,h4,h5,⟨by simp;omega,h6,fun i e j u x he hu hx=>?_,fun u hu=>?_⟩,h7⟩
 ·have hjk:j<k:=by rw[<- h6 e (amC he)];exact(amw.1 hx).1
  exact h3 i e j u x he (get i e j u he hjk hu) hx
 ·obtain⟨q,hq⟩:=List.mem_iff_getElem?.1 hu
  have hlt:=(amw.1 hq).1;have hq1:q<es.length*k:=by rw[anm]at hlt;omega
  have hi1:q/k<es.length:=by rw[Nat.div_lt_iff_lt_mul h5];exact hq1
  have hj1:q%k<k:=Nat.mod_lt _ h5;have he:=amF hi1;have hx:=amF (l:=es[q/k]) (i:=q%k) (by rw[h6 _ (amC he)];exact hj1);have hqe:q/k*k+q%k=q:=by rw[Nat.mul_comm];exact Nat.div_add_mod q k
  exact SV.one_cell (h3 (q/k) _ (q%k) u _ he (by
   rw[hqe];rw[am0,if_pos hq1]at hq;simpa using hq) hx)
theorem agU (hi:Inv B R γ L w){t tx ty E:TypeId}{k by_:Nat}{es xs:List (List SV)}{id ver n:Nat}{v x:Value}(ht:P.underlying t=some (.slice E))(hk0:0<k)(hz:aab P E k)(hby:ko P E=some by_)(hE:ver%65536=E)
  (hL:L[id]?=some (.row ver es k)) (hv:(SV.sl id ver 0 n).rep R γ L v) (hn:es.length=n) {news:List Value} (hsrc:Src P k tx x xs.length news w) (hnews:eH R γ L k xs news)
  (hb1:(n+xs.length)*by_<=140737488355328) (hb2:n+xs.length<=140737488355328) :
  ∃ u w' γ',(Builtin.append_ #[t,tx] ty #[v,x]).run P w = .ok u w'/\Inv B R γ' (L.set id (.row (ver+65536) (es++xs) k)) w'/\Ext B R R w w'/\Mv R R γ γ' L (L.set id (.row (ver+65536) (es++xs) k)) /\
   (SV.sl id (ver+65536) 0 (n+xs.length)).rep R γ' (L.set id (.row (ver+65536) (es++xs) k)) u:=by
 obtain⟨inf,z,hinf,hzz,hisz,hzc⟩:=hz;have hbytes:inf.bytes=by_:=by unfold ko at hby;rw[hinf]at hby;simpa using hby
 obtain⟨hvc,hlt,hall⟩:=hv;obtain⟨hle,g,hg,hat⟩:=(hall _ es k hL).2 rfl;have hsrc':Src P inf.size tx x xs.length news w:=by rw[hisz];exact hsrc
 have hnl:news.length=xs.length*k:=hnews.len;have hglt:id<γ.length:=by rw[hi.len];exact hlt
 have hmv:∀ g',(∀ b,g ≠ .box b)->Mv R R γ (γ.set id g') L (L.set id (.row (ver+65536) (es++xs) k)):=fun g' hnb =>
  Mv.setOb (PH.sub_refl _) hi.len hL (fun b e=>by rw[hg]at e;injection e with e;exact hnb b e) (fun _ _ e=>by cases e) (fun ver' es' k' e=>by injection e with e1 e2 e3;subst e1 e2 e3;exact⟨ver,es,rfl,m0⟩)

 have grow:∀ (a:Option Addr) (c:Nat) (olds:List Value),v = .slice a n c->c<n+xs.length->(∀ b,g ≠ .box b)->eH R γ L k es olds->(Builtin.firstCells inf.size n (.slice a n c)).run P w.drew = .ok olds.toArray w.drew ->
   ∃ u w' γ',(Builtin.append_ #[t,tx] ty #[v,x]).run P w = .ok u w'/\Inv B R γ' (L.set id (.row (ver+65536) (es++xs) k)) w'/\Ext B R R w w'/\Mv R R γ γ' L (L.set id (.row (ver+65536) (es++xs) k)) /\
   (SV.sl id (ver+65536) 0 (n+xs.length)).rep R γ' (L.set id (.row (ver+65536) (es++xs) k)) u:=by
  intro a c olds hva hc hnb holds hfc;have hrun:=run_append_grow_src (P:=P) (w:=w) t tx ty E inf z ht hinf hzz a n c olds hfc x xs.length news hsrc' hc m0 (by
   have h2:=nextslicecap_le hc;have h3:Builtin.nextslicecap (n+xs.length) c*inf.bytes<=2*(n+xs.length)*inf.bytes:=am7 _ h2;rw[hbytes]at h3 ⊢;rw[Nat.mul_assoc]at h3;omega)
  have hcap:=grownCap_ge w (n+xs.length) c E;generalize grownCap w (n+xs.length) c E=cap at hrun hcap;have hm:=hmv (.arr w.heap.size cap) hnb;have happ:=(holds.app hnews).mv hm;have hal:(olds++news).length=(n+xs.length)*k:=by rw[happ.len,amE,hn]
  have hI:=hi.rehome hL (g' := .arr w.heap.size cap) rfl (.cells ((olds++news).toArray++Builtin.zeroCells z.cells (cap-(n+xs.length))) E) hm (by
   refine⟨⟨_,E,⟨dt w.drew _,by rw[<- hE];show ver%65536=(ver+65536)%65536;omega,m0⟩,?_,fun i e j u x he hu hx=>?_⟩,by rw[amE,hn];exact hcap,hk0,happ.wide,fun o=>hi.none_at o⟩
   ·rw[Array.size_append,size_zeroCells,hzc];simp only[List.size_toArray];rw[hal,<- Nat.add_mul];congr 1;omega
   ·have hjk:j<k:=by rw[<- happ.wide e (amC he)];exact(amw.1 hx).1
    have hil:i<n+xs.length:=by have:=(amw.1 he).1;simpa[hn]using this
    rw[Array.getElem?_append_left (by simp only[List.size_toArray];rw[hal];exact oQ hil hjk)]at hu;exact happ.rep i e j u x he (by simpa using hu) hx)
  refine⟨_,_,_,by rw[hva];exact hrun,hI,?_,hm,⟨rfl,rfl⟩,by simpa using hlt,fun ver2 es2 k2 e2=>?_⟩
  ·exact⟨⟨rfl,rfl,rfl,by show w.heap.size<=(w.heap.push _).size;simp,fun b hb=>eh w.drew _ (hi.bsz b hb)⟩,PH.sub_refl _,fun _ _ _=>rfl⟩
  ·rw[amP hlt]at e2;injection e2 with e2;injection e2 with q1 q2 q3;subst q1 q2 q3
   refine⟨amM _,fun _=>⟨by simp[hn],.arr w.heap.size cap,amP hglt,.inl ?_⟩⟩;simp
 match g,hg,hat with
 |.none,hg,⟨⟨a0,hva,_⟩,hn0,_⟩ =>
  have he0:es=[]:=hi.obj id _ _ hL hg;subst he0 hn0;by_cases hm:xs.length=0
  ·have hx0:xs=[]:=amW hm
   subst hx0;have hnn:news=[]:=amW (by rw[hnl];simp);rw[hnn]at hsrc';have hrun:=run_append_nothing (P:=P) w t tx ty E inf ht hinf a0 0 0 (amM _) x hsrc';have hm0:=hmv .none (fun b e=>by cases e);have hgs:γ.set id .none=γ:=by
    apply List.ext_getElem?;intro j;by_cases hj:j=id
    ·subst hj;rw[amP hglt,hg]
    ·rw[amQ (Ne.symm hj)]
   rw[hgs]at hm0;refine⟨v,w,γ,by rw[hva];exact hrun,?_,Ext.refl _ _ _,hm0,hvc,by simpa using hlt,fun ver2 es2 k2 e2=>?_⟩
   ·refine⟨by simp[hi.len],hi.val,fun j y h hy hh=>?_,hi.inj,hi.new,hi.bsz⟩
    by_cases hj:j=id
    ·subst hj
     rw[amP hlt]at hy;injection hy with hy;subst hy
     rw[hg]at hh;injection hh with hh;subst hh
     rfl
    ·rw[amQ (Ne.symm hj)]at hy
     exact(hi.obj j y h hy hh).mv hm0 (fun _ _=>rfl) (fun _ _ _ e=>e)
   ·rw[amP hlt]at e2;injection e2 with e2;injection e2 with q1 q2 q3;subst q1 q2 q3
    exact⟨amM _,fun _=>⟨m5,.none,hg,⟨a0,hva,fun h=>by omega⟩,rfl,rfl⟩⟩
  ·refine grow a0 0 [] hva m0 (fun b e=>by cases e) ⟨m5,m5,fun i e j u x he=>by simp at he,m5⟩ ?_
   cases a0 with
   |none=>exact run_firstCells_none w.drew inf.size 0 0 0
   |some ad=>exact run_firstCells_some w.drew inf.size 0 ad 0 0 [] m5 (fun j u hu=>by simp at hu)
 |.arr b c,hg,hat =>
  obtain⟨vs,E2,hb,hE2,hsz,hnc,hk,hcells,hRn⟩:=fx hi hL hg;have hc0:v = .slice (some ⟨b,0,none⟩) n c\/(c=0/\n=0 /\ ∃ a,v = .slice a 0 0):=by
   rcases hat with hat|⟨q1,q2,q3⟩
   ·left;rw[hat];simp
   ·exact .inr ⟨q1,q2,q3⟩
  by_cases hroom:n+xs.length<=c
  ·have hle2:(n+xs.length)*k<=c*k:=am7 _ hroom
   have hadd:n*k+news.length=(n+xs.length)*k:=by rw[hnl,Nat.add_mul]
   obtain⟨cs',g1,g2,g3⟩:=fF b E2 (0,0) news (n*k) w vs hb m0;have hgs:γ.set id (.arr b c)=γ:=by
    apply List.ext_getElem?;intro j;by_cases hj:j=id
    ·subst hj;rw[amP hglt,hg]
    ·rw[amQ (Ne.symm hj)]
   have hm0:=hmv (.arr b c) (fun b e=>by cases e);rw[hgs]at hm0;have hcs:vs.toList.take (es.length*k)=vs.toList.take (n*k):=by rw[hn]
   rw[hcs]at hcells;have happ:=(hcells.app hnews).mv hm0;have hI:Inv B R γ (L.set id (.row (ver+65536) (es++xs) k)) (w.setCells b (n*k) news):=by
    refine hi.turn hL hg rfl hm0 (fun b' hne=>dG b hne _ _ _) (eZ _ _ _ _) (fun _ _ _=>rfl) (fun o u h=>by rw[hRn o]at h;cases h) ?_;refine⟨⟨cs',E2,⟨g1,by rw[hE2.1];show ver%65536=(ver+65536)%65536;omega,m0⟩,by rw[g2];exact hsz,fun i e j u x he hu hx=>?_⟩,by rw[amE,hn];exact hroom,hk,happ.wide,hRn⟩;have hjk:j<k:=by rw[<- happ.wide e (amC he)];exact(amw.1 hx).1
    have hil:i<n+xs.length:=by have:=(amw.1 he).1;simpa[hn]using this
    have hlt2:=oQ hil hjk;refine happ.rep i e j u x he ?_ hx;rw[g3]at hu;have htl:(vs.toList.take (n*k)).length=n*k:=by simp;omega
    by_cases hc2:n*k<=i*k+j
    ·rw[if_pos m0]at hu
     rw[amD m0,htl];exact hu
    ·rw[if_neg m0]at hu
     rw[amK m0,am0,if_pos m0];simpa using hu
   have hE:Ext B R R w (w.setCells b (n*k) news):=⟨er (hi.new id _ b hg rfl).1 _ _ _,PH.sub_refl _,fun _ _ _=>rfl⟩;rcases hc0 with hv2|⟨q1,q2,a,q3⟩
   ·have hrun:=run_append_room_src (P:=P) (w:=w) t tx ty E inf ht hinf b 0 n c x xs.length news hsrc' hroom
     (fun j hj=>by
      rw[hisz,cob_ hb];have:0+n*k+j<vs.size:=m0
      rw[amV this];rfl)
     (fun j hj=>by simp[World.frozen?,hb])
    rw[hisz,anb]at hrun;refine⟨_,_,γ,by rw[hv2];exact hrun,hI,hE,hm0,⟨rfl,rfl⟩,by simpa using hlt,fun ver2 es2 k2 e2=>?_⟩;rw[amP hlt]at e2;injection e2 with e2;injection e2 with p1 p2 p3;subst p1 p2 p3
    refine⟨amM _,fun _=>⟨by simp[hn],.arr b c,hg,.inl ?_⟩⟩;simp
   ·have hxl:xs.length=0:=m0
    have hnn:news=[]:=amW (by rw[hnl,hxl];simp);rw[hnn,hxl]at hsrc';have hrun:=run_append_nothing (P:=P) w t tx ty E inf ht hinf a 0 0 (amM _) x hsrc';rw[hnn]at hI hE;refine⟨v,_,γ,by rw[q3];exact hrun,hI,hE,hm0,hvc,by simpa using hlt,fun ver2 es2 k2 e2=>?_⟩;rw[amP hlt]at e2;injection e2 with e2;injection e2 with p1 p2 p3;subst p1 p2 p3
    exact⟨amM _,fun _=>⟨by simp[hn],.arr b c,hg,.inr ⟨q1,m0,a,q3⟩⟩⟩
  ·rcases hc0 with hv2|⟨q1,q2,a,q3⟩
   ·refine grow _ c _ hv2 m0 (fun b e=>by cases e) hcells ?_
    rw[hisz];refine run_firstCells_some w.drew k n ⟨b,0,none⟩ n c _ (by rw[hcells.len,hn]) (fun j u hu=>?_);rw[Addr.add_mid,anb];have hc1:w.cell? ⟨b,j,none⟩=some u:=by
     rw[cob_ hb];have hj:=(amw.1 hu).1;rw[am0]at hu;split at hu
     ·simpa using hu
     ·cases hu
    exact hc1
   ·have he0:es=[]:=amW m0
    subst he0 q2;refine grow a 0 [] q3 m0 (fun b e=>by cases e) ⟨m5,m5,fun i e j u x he=>by simp at he,m5⟩ ?_
    cases a with
    |none=>exact run_firstCells_none w.drew inf.size 0 0 0
    |some ad=>exact run_firstCells_some w.drew inf.size 0 ad 0 0 [] m5 (fun j u hu=>by simp at hu)
end
def Kt (L:List Ob):AV->Option (List (List SV))
 |.one (.c (.str s))=>some (bf s)
 |.one (.sl id _ lo n)=>match L[id]? with
  |some (.row _ es _)=>some ((es.drop lo).take n)
  |_=>none
 |x=>(df x).map fun es=>es.map (List.map SV.c)
def AW (ti:TI)(L:List Ob)(k:Nat)(tx:TypeId):AV->Prop
 |.one (.c (.str _))=>k=1/\ti.kind tx=some .string
 |.one (.sl id ver lo n)=>(ti.elem tx).isSome /\ ∃ es,L[id]?=some (.row ver es k)/\lo+n<=es.length
 |x=>(ti.elem tx).isSome /\ ∃ es,df x=some es /\ ∀ e∈es,e.length=k
section
variable {P:Program} {ti:TI} {B:Nat->Prop} {N:Nat} {R:PH} {γ:List Gh} {L:List Ob} {w:World} {ρ:Operand->Option AV}
theorem ab8 {k:Nat}{tx:TypeId}(hti:TIok P ti)(hi:Inv B R γ L w){x:AV}{u:Value}(hx:x.rep R γ L u){es:List (List AC)}(he:df x=some es)(hw:∀ e∈es,e.length=k)(ht:(ti.elem tx).isSome) :
  ∃ news,Src P k tx u (es.map (List.map SV.c)).length news w/\eH R γ L k (es.map (List.map SV.c)) news:=by
 obtain⟨E,hE⟩:=ana.1 ht;have hte:=hti.elem _ _ hE;have:P.underlying tx=some (.slice E):=by
  unfold nu at hte;split at hte
  ·rename_i e h;injection hte with hte;rw[h,hte]
  ·cases hte
 obtain⟨news,h1,h2⟩:=adk (P:=P) this hi (ia hx he) hw;exact⟨news,by simpa using h1,eH.ofC h2⟩
theorem NW {k:Nat}{tx:TypeId}(hti:TIok P ti)(hi:Inv B R γ L w){x:AV}{u:Value}(hx:x.rep R γ L u){xs:List (List SV)}(h:Kt L x=some xs)(hok:AW ti L k tx x) :
  ∃ news,Src P k tx u xs.length news w/\eH R γ L k xs news:=by
 unfold Kt at h;split at h
 ·rename_i s
  injection h with h;subst h
  obtain⟨rfl,hk⟩:=hok
  cases hx;have hl:(bf s).length=s.size:=by unfold bf;rw[amI];simp
  exact⟨byteCells s,by rw[hl];exact Src.ofString w (hti.kind _ _ hk) s,eH.ofStr s⟩
 ·rename_i id ver lo n
  obtain⟨ht,es,hL,hle⟩:=hok;rw[hL]at h;injection h with h;subst h
  obtain⟨E,hE⟩:=ana.1 ht;have hte:=hti.elem _ _ hE;have hund:P.underlying tx=some (.slice E):=by
   unfold nu at hte;split at hte
   ·rename_i e h;injection hte with hte;rw[h,hte]
   ·cases hte
  obtain⟨_,hlt,hall⟩:=hx;obtain⟨_,g,hg,hat⟩:=(hall _ es k hL).2 rfl;have hlen:((es.drop lo).take n).length=n:=by simp;omega
  match g,hg,hat with
  |.none,hg,⟨⟨a,hu,_⟩,hn,hlo⟩ =>
   subst hu hn hlo;refine⟨[],?_,⟨m5,m5,fun i e j u x he=>by simp at he,m5⟩⟩
   cases a with
   |none=>simpa using Src.ofNil w hund 0
   |some ad=>simpa using Src.ofSlice w hund ad 0 0 [] m5 (fun j u hu=>by simp at hu) m5
  |.arr b c,hg,hat =>
   obtain⟨vs,E2,hb,hE2,hsz,hnc,hk,hcells,hRn⟩:=fx hi hL hg;by_cases hn0:n=0
   ·subst hn0
    refine⟨[],?_,⟨m5,m5,fun i e j u x he=>by simp at he,m5⟩⟩;have:∃ a c',u = .slice a 0 c':=by
     rcases hat with hat|⟨_,_,a,hat⟩
     ·exact⟨_,_,hat⟩
     ·exact⟨_,_,hat⟩
    obtain⟨a,c',rfl⟩:=this
    cases a with
    |none=>simpa using Src.ofNil w hund c'
    |some ad=>simpa using Src.ofSlice w hund ad 0 c' [] m5 (fun j u hu=>by simp at hu) m5
   ·have hat:u = .slice (some ⟨b,lo*k,none⟩) n (c-lo):=by
     rcases hat with hat|⟨_,h0,_⟩
     ·exact hat
     ·exact absurd h0 hn0
    subst hat;have h1:lo*k+n*k<=es.length*k:=by rw[<- Nat.add_mul];exact am7 _ hle
    have h2:es.length*k<=c*k:=am7 _ hnc;have hget:∀ (j:Nat) u,(((vs.toList.take (es.length*k)).drop (lo*k)).take (n*k))[j]?=some u->j<n*k/\(vs.toList.take (es.length*k))[lo*k+j]?=some u:=by
     intro j u hu;rw[am0]at hu;split at hu
     ·rename_i hj;rw[anh]at hu;exact⟨hj,hu⟩
     ·cases hu
    have hnl:(((vs.toList.take (es.length*k)).drop (lo*k)).take (n*k)).length=n*k:=by simp;omega
    refine⟨((vs.toList.take (es.length*k)).drop (lo*k)).take (n*k),?_,⟨by rw[hlen];exact hnl,fun e he=>hcells.wide e (List.mem_of_mem_drop (ant he)),fun i e j u x he hu hx=>?_,fun u hu=>hcells.one u (List.mem_of_mem_drop (ant hu))⟩⟩
    ·rw[hlen]
     refine Src.ofSlice w hund ⟨b,lo*k,none⟩ n (c-lo) _ hnl (fun j u hu=>?_) (fun u hu=>hcells.one u (List.mem_of_mem_drop (ant hu)));obtain⟨hj,hu⟩:=hget j u hu;rw[Addr.add_mid,cob_ hb];rw[am0]at hu;split at hu
     ·simpa using hu
     ·cases hu
    ·obtain⟨hj,hu⟩:=hget _ u hu
     rw[am0]at he;split at he
     ·rw[anh]at he
      refine hcells.rep (lo+i) e j u x he ?_ hx;rw[Nat.add_mul,Nat.add_assoc];exact hu
     ·cases he
 ·cases he:df x with
  |none=>simp[he]at h
  |some es =>
   rw[he]at h;injection h with h;subst h
   unfold AW at hok;split at hok
   ·rename_i x1 _;exact absurd rfl (x1 _)
   ·rename_i h2;exact absurd rfl (h2 _ _ _ _)
   ·obtain⟨ht,es',h1,h2⟩:=hok
    rw[he]at h1;injection h1 with h1;subst h1
    exact ab8 hti hi hx he h2 ht
theorem iG (hti:TIok P ti){t E:TypeId}(h:ti.elem t=some E):P.underlying t=some (.slice E):=by
 have hte:=hti.elem _ _ h;unfold nu at hte;split at hte
 ·rename_i e h';injection hte with hte;rw[h',hte]
 ·cases hte
theorem dD (hti:TIok P ti){s x:Operand}{t tx E:TypeId}{k by_ id ver n:Nat}{vx:AV}{es xs:List (List SV)}(hs:ρ s=some (.one (.sl id ver 0 n)))(hx:ρ x=some vx)(hL:L[id]?=some (.row ver es k))(hsrc:Kt L vx=some xs)(hok:AW ti L k tx vx)
  (ht:ti.elem t=some E) (hE:ver%65536=E) (hsz:ti.size E=some k) (hzo:ti.zok E=true) (hby:ti.bytes E=some by_) (hk:0<k) (hn:es.length=n) (hb1:(n+xs.length)*by_<=140737488355328) (hb2:n+xs.length<=140737488355328) :
  kZ P ρ L (.call { callee := .builtin .append,args :=#[s,x],argTypes :=#[t,tx] }) (.one (.sl id (ver+65536) 0 (n+xs.length))) (L.set id (.row (ver+65536) (es++xs) k)):=by
 intro B R γ w ev o ho hi hρ hfv;obtain⟨dst,op,type,pos,after,guard⟩:=o;simp only at ho;subst ho;obtain⟨news,h1,h2⟩:=NW (P:=P) (w:=w) (B:=B) hti hi (hρ _ (by simp[Op.operands,Call.operands]) _ hx) hsrc hok;obtain⟨u,w',γ',g1,g2,g3,g4,g5⟩:=agU (P:=P) (ty:=type) hi (iG hti ht) hk (hti.zok _ hzo _ (hti.size _ _ hsz)) (hti.bytes _ _ hby) hE hL (hρ _ (by simp[Op.operands,Call.operands]) _ hs) hn h1 h2 hb1 hb2;refine⟨w',R,γ',.inl ⟨u,?_,g5⟩,g2,g3,g4⟩;simp[execOp,resolve,invoke,builtin,g1]
theorem Inv.rowTok (hi:Inv B R γ L w)(ver k:Nat):Inv B R (γ++[.none]) (L++[.row ver [] k]) w:=by
 have it:=hi.tok k;refine⟨by simp[hi.len],hi.val,fun i y g hy hg=>?_,it.inj,it.new,hi.bsz⟩;by_cases hid:i<L.length
 ·rw[amK hid]at hy
  rw[amK (by rw[hi.len];exact hid)]at hg;exact(hi.obj i y g hy hg).mv (Mv.push _ _ hi.len) (fun _ _=>rfl) (fun _ _ _ h=>h)
 ·have:i=L.length:=by have:=(amw.1 hy).1;simp at this;omega
  subst this;rw[amD m0]at hy;rw[amD (by rw[hi.len];omega),hi.len]at hg;simp at hy hg;subst hy hg;rfl
theorem IH (hti:TIok P ti){s x:Operand}{t tx:TypeId}{E:Nat}{k by_:Nat}{vx:AV}{xs:List (List SV)}(hs:ρ s=some (.one .emp))(hx:ρ x=some vx)(hsrc:Kt L vx=some xs)(hok:AW ti L k tx vx)
  (ht:ti.elem t=some E) (hE:E<65536) (hsz:ti.size E=some k) (hzo:ti.zok E=true) (hby:ti.bytes E=some by_) (hk:0<k) (h0:0<xs.length) (hb1:xs.length*by_<=140737488355328) (hb2:xs.length<=140737488355328) :
  kZ P ρ L (.call { callee := .builtin .append,args :=#[s,x],argTypes :=#[t,tx] }) (.one (.sl L.length (E+65536) 0 xs.length)) (L++[.row (E+65536) xs k]):=by
 intro B R γ w ev o ho hi hρ hfv;obtain⟨dst,op,type,pos,after,guard⟩:=o;simp only at ho;subst ho;obtain⟨news,h1,h2⟩:=NW (P:=P) (w:=w) (B:=B) hti hi (hρ _ (by simp[Op.operands,Call.operands]) _ hx) hsrc hok;obtain⟨a,hva⟩:=(hρ _ (by simp[Op.operands,Call.operands]) _ hs);obtain⟨inf,z,hinf,hzz,hisz,hzc⟩:=hti.zok _ hzo _ (hti.size _ _ hsz);have hbytes:inf.bytes=by_:=by have hby':=hti.bytes _ _ hby;unfold ko at hby';rw[hinf]at hby';simpa using hby'
 have hfc:(Builtin.firstCells inf.size 0 (.slice a 0 0)).run P w.drew = .ok ([]:List Value).toArray w.drew:=by
  cases a with
  |none=>exact run_firstCells_none w.drew inf.size 0 0 0
  |some ad=>exact run_firstCells_some w.drew inf.size 0 ad 0 0 [] m5 (fun j u hu=>by simp at hu)
 have hrun:=run_append_grow_src (P:=P) (w:=w) t tx type E inf z (iG hti ht) hinf hzz a 0 0 [] hfc (ev x) xs.length news (by rw[hisz];exact h1) m0 m0 (by
   have h2:=nextslicecap_le (need:=0+xs.length) (old:=0) m0;have h3:Builtin.nextslicecap (0+xs.length) 0*inf.bytes<=2*(0+xs.length)*inf.bytes:=am7 _ h2;rw[hbytes]at h3 ⊢;rw[Nat.mul_assoc,anb]at h3;rw[anb];omega)
 have hcap:=grownCap_ge w (0+xs.length) 0 E;generalize grownCap w (0+xs.length) 0 E=cap at hrun hcap;rw[anb]at hrun hcap;have hm:Mv R R γ (γ++[.arr w.heap.size cap]) L (L++[.row (E+65536) xs k]):=Mv.push _ _ hi.len;have happ:=h2.mv hm;have hIp:Inv B R (γ++[.arr w.heap.size cap]) (L++[.row (E+65536) xs k]) (w.alloc (.cells (([]++news).toArray++Builtin.zeroCells z.cells (cap-xs.length)) E)):=by
  refine hi.push _ _ _ rfl ⟨⟨_,E,⟨dt w _,by show(E:Nat)=(E+65536)%65536;omega,by show 65536<=(E:Nat)+65536;omega⟩,?_,fun i e j u x he hu hx=>?_⟩,hcap,hk,happ.wide,fun o=>hi.none_at o⟩
  ·rw[Array.size_append,size_zeroCells,hzc];simp only[List.size_toArray,amB];rw[happ.len,<- Nat.add_mul];congr 1;omega
  ·have hjk:j<k:=by rw[<- happ.wide e (amC he)];exact(amw.1 hx).1
   have hil:=(amw.1 he).1;rw[Array.getElem?_append_left (by simp only[List.size_toArray,amB];rw[happ.len];exact oQ hil hjk)]at hu;exact happ.rep i e j u x he (by simpa using hu) hx
 refine⟨w.drew.alloc (.cells (([]++news).toArray++Builtin.zeroCells z.cells (cap-xs.length)) E),R,_,.inl ⟨.slice (some ⟨w.heap.size,0,none⟩) xs.length cap,by simp[execOp,resolve,invoke,builtin,hva,hrun],⟨rfl,rfl⟩,m5,fun ver2 es2 k2 e2=>?_⟩,?_,⟨⟨rfl,rfl,rfl,by show w.heap.size<=(w.heap.push _).size;simp,fun b hb=>eh w.drew _ (hi.bsz b hb)⟩,PH.sub_refl _,fun _ _ _=>rfl⟩,hm⟩
 ·rw[amD m0]at e2
  simp at e2;obtain⟨q1,q2,q3⟩:=e2;subst q1 q2 q3;refine⟨amM _,fun _=>⟨m5,.arr w.heap.size cap,by rw[<- hi.len];simp,.inl ?_⟩⟩;simp
 ·exact⟨hIp.len,fun b o u h=>hIp.val b o u h,fun i x g h1 h2=>(hIp.obj i x g h1 h2).mv Mv.refl (fun _ _=>rfl) (fun _ _ _ h=>h),hIp.inj,hIp.new,hIp.bsz⟩
theorem Ju (hti:TIok P ti){l c:Operand}{t:TypeId}{E k by_:Nat}{m:Int}{kl kc:IntKind}(hl:ρ l=some (.one (.c (.int kl 0))))(hc:ρ c=some (.one (.c (.int kc m))))(ht:ti.elem t=some E)(hE:E<65536)(hsz:ti.size E=some k)(hzo:ti.zok E=true)(hby:ti.bytes E=some by_)
  (hk:0<k) (h0:0<=m) (hb1:(by_:Int)*m<=281474976710656) (hb2:m<=9223372036854775807) :
  kZ P ρ L (.makeSlice t l c) (.one (.sl L.length (E+65536) 0 0)) (L++[.row (E+65536) [] k]):=by
 intro B R γ w ev o ho hi hρ hfv;obtain⟨dst,op,type,pos,after,guard⟩:=o;simp only at ho;subst ho;obtain⟨inf,z,hinf,hzz,hisz,hzc⟩:=hti.zok _ hzo _ (hti.size _ _ hsz);have hbytes:inf.bytes=by_:=by have hby':=hti.bytes _ _ hby;unfold ko at hby';rw[hinf]at hby';simpa using hby'
 have hlv:=(hρ _ (by simp[Op.operands,Call.operands]) _ hl);have hcv:=(hρ _ (by simp[Op.operands,Call.operands]) _ hc);generalize hle:ev l=lv at hlv;generalize hce:ev c=cv at hcv
 cases hlv;cases hcv;have hrun:=run_make (P:=P) w t E inf z (iG hti ht) hinf hzz kl kc 0 m (Int.le_refl _) h0 (by rw[hbytes];exact hb1) hb2;have hm:Mv R R γ (γ++[.arr w.heap.size m.toNat]) L (L++[.row (E+65536) [] k]):=Mv.push _ _ hi.len;refine⟨w.alloc (.cells (madeCells z.cells (m.toNat*inf.size)) E),R,_,.inl ⟨.slice (some ⟨w.heap.size,0,none⟩) 0 m.toNat,by simp[execOp,hle,hce,hrun],⟨rfl,rfl⟩,m5,fun ver2 es2 k2 e2=>?_⟩,?_,⟨Kept.alloc hi.bsz _,PH.sub_refl _,fun _ _ _=>rfl⟩,hm⟩
 ·rw[amD m0]at e2
  simp at e2;obtain⟨q1,q2,q3⟩:=e2;subst q1 q2 q3;refine⟨amM _,fun _=>⟨m5,.arr w.heap.size m.toNat,by rw[<- hi.len];simp,.inl ?_⟩⟩;simp
 ·exact hi.push _ _ _ rfl ⟨⟨_,E,⟨dt w _,by show(E:Nat)=(E+65536)%65536;omega,by show 65536<=(E:Nat)+65536;omega⟩,by rw[size_madeCells,hisz],fun i e j u x he=>by simp at he⟩,m5,hk,m5,fun o=>hi.none_at o⟩
theorem iC (hti:TIok P ti){l c:Operand}{t:TypeId}{E k by_:Nat}{m:Int}{kl kc:IntKind}(hl:ρ l=some (.one (.c (.int kl 0))))(hc:ρ c=some (.one (.c (.int kc m))))(ht:ti.elem t=some E)(hsz:ti.size E=some k)(hzo:ti.zok E=true)(hby:ti.bytes E=some by_)
  (hk:0<k) (h0:0<=m) (hb1:(by_:Int)*m<=281474976710656) (hb2:m<=9223372036854775807) :
  kZ P ρ L (.makeSlice t l c) (.one (.own [] L.length)) (L++[.spare 0 k]):=by
 intro B R γ w ev o ho hi hρ hfv;obtain⟨dst,op,type,pos,after,guard⟩:=o;simp only at ho;subst ho;obtain⟨inf,z,hinf,hzz,hisz,hzc⟩:=hti.zok _ hzo _ (hti.size _ _ hsz);have hbytes:inf.bytes=by_:=by have hby':=hti.bytes _ _ hby;unfold ko at hby';rw[hinf]at hby';simpa using hby'
 have hlv:=(hρ _ (by simp[Op.operands,Call.operands]) _ hl);have hcv:=(hρ _ (by simp[Op.operands,Call.operands]) _ hc);generalize hle:ev l=lv at hlv;generalize hce:ev c=cv at hcv
 cases hlv;cases hcv;have hrun:=run_make (P:=P) w t E inf z (iG hti ht) hinf hzz kl kc 0 m (Int.le_refl _) h0 (by rw[hbytes];exact hb1) hb2;have hm:Mv R R γ (γ++[.arr w.heap.size m.toNat]) L (L++[.spare 0 k]):=Mv.push _ _ hi.len;refine⟨w.alloc (.cells (madeCells z.cells (m.toNat*inf.size)) E),R,_,.inl ⟨.slice (some ⟨w.heap.size,0,none⟩) 0 m.toNat,by simp[execOp,hle,hce,hrun],cO _ _ _,m5,fun n2 k2 e2=>?_⟩,?_,⟨Kept.alloc hi.bsz _,PH.sub_refl _,fun _ _ _=>rfl⟩,hm⟩
 ·rw[amD m0]at e2
  simp at e2;obtain⟨q1,q2⟩:=e2;subst q1 q2;exact⟨m5,m5,fun _=>⟨.arr w.heap.size m.toNat,by rw[<- hi.len];simp,rfl⟩⟩
 ·exact hi.push _ _ _ rfl ⟨⟨_,E,dt w _,by rw[size_madeCells,hisz]⟩,m5,hk,fun o _=>hi.none_at o⟩
end
section
variable {P:Program} {ti:TI} {B:Nat->Prop} {N:Nat} {R:PH} {γ:List Gh} {L:List Ob} {w:World} {ρ:Operand->Option AV}
theorem hZ {E Eb k:Nat}{inf:TypeInfo}(hinf:P.info? E=some inf)(hz:inf.zero=some (.agg #[.pointer none,.slice none 0 0]))(hE:E<65536)(hEb:Eb<65536)(hk:0<k) :
  kZ P ρ L (.alloc E) (.one (.ep L.length (E+65536) 0 0)) (L++[.row (E+65536) [[.c (.nul .ptr),.sl (L.length+1) Eb 0 0]] 2,.row Eb [] k]):=by
 intro B R γ w ev o ho hi hρ hfv;obtain⟨dst,op,type,pos,after,guard⟩:=o;simp only at ho;subst ho;have hi0:=hi.rowTok Eb k;have hrun:(execOp ev { dst,op := .alloc E,type,pos,after,guard }).run P w = .ok (.value (.pointer (some ⟨w.heap.size,0,none⟩))) (w.alloc (.cells #[.pointer none,.slice none 0 0] E)):=by
  simp[execOp,Instr.alloc,zeroValue,typeInfo,program,Sem.run,hinf,hz,newVar,newRow,Value.cells]
 have hm0:Mv R R γ (γ++[.arr w.heap.size 1,.none]) L (L++[.row (E+65536) [[.c (.nul .ptr),.sl (L.length+1) Eb 0 0]] 2,.row Eb [] k]):=by
  have h1:Mv R R γ (γ++[.arr w.heap.size 1]) L (L++[.row (E+65536) [[.c (.nul .ptr),.sl (L.length+1) Eb 0 0]] 2]):=Mv.push _ _ hi.len;have h2:Mv R R (γ++[.arr w.heap.size 1]) ((γ++[.arr w.heap.size 1])++[.none]) (L++[.row (E+65536) [[.c (.nul .ptr),.sl (L.length+1) Eb 0 0]] 2]) ((L++[.row (E+65536) [[.c (.nul .ptr),.sl (L.length+1) Eb 0 0]] 2])++[.row Eb [] k]):=Mv.push _ _ (by simp[hi.len]);have:=h1.trans h2;simpa using this
 have gcase:∀ j h,(γ++[Gh.arr w.heap.size 1,Gh.none])[j]?=some h->(j<L.length/\γ[j]?=some h)\/(j=L.length/\h = .arr w.heap.size 1)\/(j=L.length+1/\h = .none):=by
  intro j h hh;by_cases hj:j<γ.length
  ·rw[amK hj]at hh;exact .inl ⟨by rw[<- hi.len];exact hj,hh⟩
  ·rw[amD m0]at hh
   have hlt:=(amw.1 hh).1;simp at hlt;have:j-γ.length=0\/j-γ.length=1:=m0
   rcases this with e|e<;>rw[e]at hh<;>simp at hh
   ·exact .inr (.inl ⟨by rw[<- hi.len];omega,hh.symm⟩)
   ·exact .inr (.inr ⟨by rw[<- hi.len];omega,hh.symm⟩)
 have hold:∀ b,b<w.heap.size->(w.alloc (.cells #[.pointer none,.slice none 0 0] E)).heap[b]?=w.heap[b]?:=fun b hb=>eh w _ hb
 have esz:(w.alloc (.cells #[.pointer none,.slice none 0 0] E)).heap.size=w.heap.size+1:=by show(w.heap.push _).size=_;simp
 have hsl:(SV.sl (L.length+1) Eb 0 0).rep R (γ++[Gh.arr w.heap.size 1,Gh.none]) (L++[.row (E+65536) [[.c (.nul .ptr),.sl (L.length+1) Eb 0 0]] 2,.row Eb [] k]) (.slice none 0 0):=by
  refine⟨⟨rfl,rfl⟩,m5,fun ver2 es2 k2 e2=>?_⟩;rw[amD m0]at e2;simp at e2;obtain⟨q1,q2,q3⟩:=e2;subst q1 q2 q3;exact⟨amM _,fun _=>⟨m5,.none,by rw[amD (by rw[hi.len];omega),hi.len];simp,⟨none,rfl,fun _=>rfl⟩,rfl,rfl⟩⟩
 refine⟨_,R,γ++[.arr w.heap.size 1,.none],.inl ⟨_,hrun,⟨rfl,rfl⟩,m5,fun ver2 es2 k2 e2=>?_⟩,?_,⟨Kept.alloc hi.bsz _,PH.sub_refl _,fun _ _ _=>rfl⟩,hm0⟩
 ·rw[amD m0]at e2
  simp at e2;obtain⟨q1,q2,q3⟩:=e2;subst q1 q2 q3;exact⟨amM _,fun _=>⟨m5,.arr w.heap.size 1,by rw[amD (by rw[hi.len];omega),hi.len];simp,rfl⟩⟩
 ·refine⟨by simp[hi.len],fun b o' u h=>?_,fun j y h hy hh=>?_,fun j1 j2 g1 g2 h1 h2 hne b hb=>?_,fun j h b hh hb=>?_,fun b hb=>by have:=hi.bsz b hb;omega⟩
  ·have:=hi.lt h
   rw[<- hi.val _ _ _ h];exact World.cell?_of_block (w:=w) (hold b this)
  ·rcases gcase j h hh with⟨hj,hh'⟩|⟨rfl,rfl⟩|⟨rfl,rfl⟩
   ·rw[amK hj]at hy
    exact(hi.obj j y h hy hh').mv hm0 (fun b hb=>hold b (hi.new j h b hh' hb).2) (fun _ _ _ e=>e)
   ·rw[amD m0]at hy
    simp at hy;subst hy;refine⟨⟨_,E,⟨dt w _,by show(E:Nat)=(E+65536)%65536;omega,m0⟩,rfl,fun i e j' u x he hu hx=>?_⟩,m5,m0,m5,fun o=>hi.none_at o⟩;have:i=0:=by have:=(amw.1 he).1;simpa using this
    subst this;simp at he;subst he
    match j',hx with
    |0,hx=>simp at hx hu;subst hx hu;exact .nul .ptr _ rfl
    |1,hx=>simp at hx hu;subst hx hu;exact hsl
    |j'+2,hx=>simp at hx
   ·rw[amD m0]at hy
    simp at hy;subst hy;rfl
  ·rcases gcase j1 g1 h1 with⟨a1,a2⟩|⟨a1,rfl⟩|⟨a1,rfl⟩<;>rcases gcase j2 g2 h2 with⟨b1,b2⟩|⟨b1,rfl⟩|⟨b1,rfl⟩
   ·exact hi.inj j1 j2 g1 g2 a2 b2 hne b hb
   ·have:=(hi.new j1 g1 b a2 hb).2
    simp only[Gh.block,ne_eq,Option.some.injEq];omega
   ·exact fun e=>by cases e
   ·simp only[Gh.block,Option.some.injEq]at hb
    intro e;have:=(hi.new j2 g2 _ b2 e).2;omega
   ·omega
   ·exact fun e=>by cases e
   ·cases hb
   ·cases hb
   ·cases hb
  ·rcases gcase j h hh with⟨_,b2⟩|⟨_,rfl⟩|⟨_,rfl⟩
   ·have:=hi.new j h b b2 hb
    exact⟨this.1,m0⟩
   ·simp only[Gh.block,Option.some.injEq]at hb;subst hb
    exact⟨fun hB=>by have:=hi.bsz _ hB;omega,m0⟩
   ·cases hb
theorem DX {id ver i off k:Nat}{es:List (List SV)}{u:Value}(hL:L[id]?=some (.row ver es k))(h:(SV.ep id ver i off).rep R γ L u):i<es.length /\ ∃ b c,γ[id]?=some (.arr b c)/\u = .pointer (some ⟨b,i*k+off,none⟩):=by
 obtain⟨_,_,hall⟩:=h;obtain⟨h1,g,hg,hat⟩:=(hall _ es k hL).2 rfl
 match g,hg,hat with
 |.arr b c,hg,hat=>exact⟨h1,b,c,hg,hat⟩
theorem Ko {e:TypeId}{s:Nat}(hs:P.cellsOf e=s)(h0:0<s)(count:Nat)(hn:1<=count):liesAt P P.depth e count 0 e 1=true:=by
 have hd:P.depth=(2*(P.types.size+Made.depth)+1)+1:=rfl;rw[hd];simp only[liesAt,Bool.or_eq_true];left;rw[hd];have:s≠0:=m0
 simp[rowAt,hs,hn,sameLayout,this]
theorem ke {s d t:TypeId}{x:Operand}{id ver k:Nat}{es:List (List SV)}{j:TypeInfo}(hx:ρ x=some (.one (.ep id ver 0 0)))(hL:L[id]?=some (.row ver es k))(hs:P.underlying s=some (.pointer t))(hd:P.underlying d=some .unsafePointer)(ht:P.info? t=some j)(hj:j.size≠0) :
  kZ P ρ L (.convert s d x) (.one (.ep id ver 0 0)) L:=by
 intro B R γ w ev o ho hi hρ hfv;obtain⟨dst,op,type,pos,after,guard⟩:=o;simp only at ho;subst ho;have hx':=(hρ _ (by simp[Op.operands,Call.operands]) _ hx);obtain⟨hlt,b,c,hg,hu⟩:=DX (R:=R) hL hx';obtain⟨vs,E,hb,hE,hsz,hle,hk,_,_⟩:=fx hi hL hg;have hsh:w.shape? b=some (E,c*k):=by simp[World.shape?,hb,hsz]
 have h1:1*k<=c*k:=am7 _ m0;rw[hu]at hx';refine⟨w,R,γ,.inl ⟨_,?_,hx'⟩,hi,Ext.refl _ _ _,Mv.refl⟩;have:=Lib.run_to_unsafe (P:=P) w (⟨b,0*k+0,none⟩:Addr) hs hd ht hj hsh (by show 0*k+0<c*k;omega);simp only[Nat.zero_mul,anb,Nat.add_zero]at this hu ⊢;simp[execOp,hu,this]
theorem nS {s d:TypeId}{t:Nat}{x:Operand}{id ver k:Nat}{es:List (List SV)}{j:TypeInfo}(hx:ρ x=some (.one (.ep id ver 0 0)))(hL:L[id]?=some (.row ver es k))(hs:P.underlying s=some .unsafePointer)(hd:P.underlying d=some (.pointer t))(ht:P.info? t=some j)(hc:P.cellsOf t=k)(hE:ver%65536=t) :
  kZ P ρ L (.convert s d x) (.one (.ep id ver 0 0)) L:=by
 intro B R γ w ev o ho hi hρ hfv;obtain⟨dst,op,type,pos,after,guard⟩:=o;simp only at ho;subst ho;have hx':=(hρ _ (by simp[Op.operands,Call.operands]) _ hx);obtain⟨hlt,b,c,hg,hu⟩:=DX (R:=R) hL hx';obtain⟨vs,E,hb,hE2,hsz,hle,hk,_,_⟩:=fx hi hL hg;have hEt:E=t:=by rw[hE2.1];exact hE
 subst hEt;have hsh:w.shape? b=some (E,c*k):=by simp[World.shape?,hb,hsz]
 rw[hu]at hx';refine⟨w,R,γ,.inl ⟨_,?_,hx'⟩,hi,Ext.refl _ _ _,Mv.refl⟩;have hlies:liesAt P P.depth E (c*k/P.cellsOf E) 0 E 1=true:=by
  rw[hc,Nat.mul_div_cancel _ hk];exact Ko hc hk c m0
 have:=Lib.run_from_unsafe (P:=P) w (⟨b,0*k+0,none⟩:Addr) hs hd ht hsh (by simpa using hlies);simp only[Nat.zero_mul,anb,Nat.add_zero]at this hu ⊢;simp[execOp,hu,this]
theorem oP {f : FuncId} {fn : Func} {x : Operand} {ts : Array TypeId} {v : AV} (hx : ρ x = some v) (hf : P.funcs[f]? = some fn) (hname : (fn.name == "runtime.NumGoroutine") = false)
  (hb:fn.body.isNone=true) (hn:Extern.findNext fn=none) (he:Extern.find fn=some Extern.AbiNoEscape.same) :
  kZ P ρ L (.call { callee := .value (.func f),args :=#[x],argTypes:=ts }) v L:=by
 intro B R γ w ev o ho hi hρ hfv;obtain⟨dst,op,type,pos,after,guard⟩:=o;simp only at ho;subst ho;refine⟨w,R,γ,.inl ⟨ev x,?_,(hρ _ (by simp[Op.operands,Call.operands]) _ hx)⟩,hi,Ext.refl _ _ _,Mv.refl⟩;have:=run_callFunc_extern hf hname hb hn he #[ev x] w;rw[Lib.run_noEscape]at this;simp[execOp,resolve,Deferred.ofValue,hfv.1,invoke,this,Result.andThen]
theorem w_ {t te:TypeId}(b:Option Addr)(ht:P.underlying t=some (.pointer te)):(binOp .eql t (.pointer b) (.pointer none)).run P w = .ok (.bool b.isNone) w:=by
 have h:∀ d:Nat,(Op.equalIn (d+1) t (.pointer b) (.pointer none)).run P w = .ok b.isNone w:=fun d=>by
  cases b<;>simp[Op.equalIn,run_underlying ht]
 simp only[binOp];rw[Sem.run_bind,show Op.equal t (.pointer b) (.pointer none)=Op.equalIn (9999+1) t (.pointer b) (.pointer none)from rfl,h];simp
theorem vG {t t' te:TypeId}{x y:Operand}(hx:ρ x=some (.one (.c (.nul .ptr))))(hy:ρ y=some (.one (.c (.nul .ptr))))(ht:P.underlying t=some (.pointer te)) :
  kZ P ρ L (.binOp .eql t x y t') (.one (.c (.bool true))) L:=by
 intro B R γ w ev o ho hi hρ hfv;obtain⟨dst,op',type,pos,after,guard⟩:=o;simp only at ho;subst ho;have h1:=(hρ _ (by simp[Op.operands,Call.operands]) _ hx);have h2:=(hρ _ (by simp[Op.operands,Call.operands]) _ hy);generalize hex:ev x=ux at h1;generalize hey:ev y=uy at h2
 cases h1 with|nul _ _ e1=>cases h2 with|nul _ _ e2 =>
 subst e1 e2;have:=w_ (P:=P) (w:=w) none ht;exact⟨w,R,γ,.inl ⟨.bool true,by simp[execOp,hex,hey,eqGuard,Nul.val,this],.bool true⟩,hi,Ext.refl _ _ _,Mv.refl⟩
theorem pO {t t' te:TypeId}{x y:Operand}{id ver i off k:Nat}{es:List (List SV)}(hx:ρ x=some (.one (.ep id ver i off)))(hL:L[id]?=some (.row ver es k))(hy:ρ y=some (.one (.c (.nul .ptr))))(ht:P.underlying t=some (.pointer te)) :
  kZ P ρ L (.binOp .eql t x y t') (.one (.c (.bool false))) L:=by
 intro B R γ w ev o ho hi hρ hfv;obtain⟨dst,op',type,pos,after,guard⟩:=o;simp only at ho;subst ho;obtain⟨_,b,c,_,hu⟩:=DX (R:=R) hL (hρ _ (by simp[Op.operands,Call.operands]) _ hx);have h2:=(hρ _ (by simp[Op.operands,Call.operands]) _ hy);generalize hey:ev y=uy at h2
 cases h2 with|nul _ _ e2 =>
 subst e2;have:=w_ (P:=P) (w:=w) (some ⟨b,i*k+off,none⟩) ht;exact⟨w,R,γ,.inl ⟨.bool false,by simp[execOp,hu,hey,eqGuard,Nul.val,this],.bool false⟩,hi,Ext.refl _ _ _,Mv.refl⟩
theorem qi {t t' te:TypeId}{x y:Operand}{id ver i off k:Nat}{es:List (List SV)}{j:TypeInfo}(hx:ρ x=some (.one (.ep id ver i off)))(hL:L[id]?=some (.row ver es k))(hy:ρ y=some (.one (.ep id ver i off)))(ht:P.underlying t=some (.pointer te))(hte:P.info? te=some j) :
  kZ P ρ L (.binOp .neq t x y t') (.one (.c (.bool false))) L:=by
 intro B R γ w ev o ho hi hρ hfv;obtain⟨dst,op',type,pos,after,guard⟩:=o;simp only at ho;subst ho;obtain⟨_,b,c,hg,hu⟩:=DX (R:=R) hL (hρ _ (by simp[Op.operands,Call.operands]) _ hx);obtain⟨_,b',c',hg',hu'⟩:=DX (R:=R) hL (hρ _ (by simp[Op.operands,Call.operands]) _ hy);rw[hg]at hg';injection hg' with hg';injection hg' with e1 e2;subst e1 e2
 refine⟨w,R,γ,.inl ⟨.bool false,?_,.bool false⟩,hi,Ext.refl _ _ _,Mv.refl⟩;have:=Lib.run_neq_ptr_same (P:=P) w (⟨b,i*k+off,none⟩:Addr) ht hte;simp[execOp,hu,hu',eqGuard,this]
theorem KN {t t' te:TypeId}{x:Operand}{vx:AV}{e:List AC}{es:List (List AC)}(hx:ρ x=some vx)(hl:df vx=some (e::es))(ht:P.underlying t=some (.slice te)) :
  kZ P ρ L (.binOp .eql t x (.const (.slice none 0 0)) t') (.one (.c (.bool false))) L:=by
 intro B R γ w ev o ho hi hρ hfv;obtain⟨dst,op',type,pos,after,guard⟩:=o;simp only at ho;subst ho;have h1:=ia (hρ x (by simp[Op.operands]) _ hx) hl;generalize hex:ev x=ux at h1
 cases h1 with
 |lst a n c _ k cv b o hn hc hk ha hr he =>
  have h0:0<n:=by rw[<- hn];simp
  have ha':=ha h0;subst ha';refine⟨w,R,γ,.inl ⟨.bool false,?_,.bool false⟩,hi,Ext.refl _ _ _,Mv.refl⟩;have h:∀ d:Nat,(Op.equalIn (d+1) t (.slice (some ⟨b,o,none⟩) n c) (.slice none 0 0)).run P w = .ok false w:=fun d=>by
   simp[Op.equalIn,run_underlying ht]
  have h2:(binOp .eql t (.slice (some ⟨b,o,none⟩) n c) (.slice none 0 0)).run P w = .ok (.bool false) w:=by
   simp only[binOp];rw[Sem.run_bind,show Op.equal t (.slice (some ⟨b,o,none⟩) n c) (.slice none 0 0)=Op.equalIn (9999+1) t (.slice (some ⟨b,o,none⟩) n c) (.slice none 0 0)from rfl,h];simp
  simp[execOp,hex,hfv.2,eqGuard,h2]
theorem rT {x:Operand}{ts:Array TypeId}{id ver n k:Nat}{es:List (List SV)}(hx:ρ x=some (.one (.sl id ver 0 n)))(hL:L[id]?=some (.row ver es k))(hn:0<n) :
  kZ P ρ L (.call { callee := .builtin .unsafeSliceData,args :=#[x],argTypes:=ts }) (.one (.ep id ver 0 0)) L:=by
 intro B R γ w ev o ho hi hρ hfv;obtain⟨dst,op',type,pos,after,guard⟩:=o;simp only at ho;subst ho;obtain⟨hvc,hlt,hall⟩:=(hρ _ (by simp[Op.operands,Call.operands]) _ hx);obtain⟨hle,g,hg,hat⟩:=(hall _ es k hL).2 rfl
 match g,hg,hat with
 |.none,hg,⟨_,h0,_⟩=>omega
 |.arr b c,hg,hat =>
  have hat:ev x = .slice (some ⟨b,0*k,none⟩) n (c-0):=by
   rcases hat with hat|⟨_,h0,_⟩
   ·exact hat
   ·omega
  obtain⟨vs,E,hb,hE2,hsz,hle2,hk,_,_⟩:=fx hi hL hg;have hc:c≠0:=m0
  refine⟨w,R,γ,.inl ⟨.pointer (some ⟨b,0,none⟩),?_,⟨rfl,rfl⟩,hlt,fun ver2 es2 k2 e2=>?_⟩,hi,Ext.refl _ _ _,Mv.refl⟩
  ·have:=Lib.run_unsafeSliceData_row (P:=P) w ts type (⟨b,0,none⟩:Addr) n c hc
   simp only[Nat.zero_mul,Nat.sub_zero]at hat;simp[execOp,resolve,invoke,builtin,hat,this]
  ·rw[hL]at e2;injection e2 with e2;injection e2 with q1 q2 q3;subst q1 q2 q3
   refine⟨amM _,fun _=>⟨m0,.arr b c,hg,?_⟩⟩;simp[aj2]
theorem qt {x:Operand}{ts:Array TypeId}{id ver k:Nat}(hx:ρ x=some (.one (.sl id ver 0 0)))(hL:L[id]?=some (.row ver [] k))(hv:ver<65536) :
  kZ P ρ L (.call { callee := .builtin .unsafeSliceData,args :=#[x],argTypes:=ts }) (.one (.c (.nul .ptr))) L:=by
 intro B R γ w ev o ho hi hρ hfv;obtain⟨dst,op',type,pos,after,guard⟩:=o;simp only at ho;subst ho;obtain⟨hvc,hlt,hall⟩:=(hρ _ (by simp[Op.operands,Call.operands]) _ hx);obtain⟨hle,g,hg,hat⟩:=(hall _ [] k hL).2 rfl
 match g,hg,hat with
 |.none,hg,⟨⟨a,hu,ha⟩,h0,_⟩ =>
  have ha':=ha hv;subst ha';exact⟨w,R,γ,.inl ⟨.pointer none,by have:=Lib.run_unsafeSliceData_nil (P:=P) w ts type 0 0;simp[execOp,resolve,invoke,builtin,hu,this],.nul .ptr _ rfl⟩,hi,Ext.refl _ _ _,Mv.refl⟩
 |.arr b c,hg,hat =>
  obtain⟨vs,E,hb,hE2,hsz,hle2,hk,_,_⟩:=fx hi hL hg;omega
theorem lc {x y:Operand}{pt it:TypeId}(hx:ρ x=some (.one (.c (.nul .ptr))))(hy:ρ y=some (.one (.c (.int .i64 0)))) :
  kZ P ρ L (.call { callee := .builtin .unsafeString,args :=#[x,y],argTypes :=#[pt,it] }) (.one (.c (.str .empty))) L:=by
 intro B R γ w ev o ho hi hρ hfv;obtain⟨dst,op',type,pos,after,guard⟩:=o;simp only at ho;subst ho;have h1:=(hρ _ (by simp[Op.operands,Call.operands]) _ hx);have h2:=(hρ _ (by simp[Op.operands,Call.operands]) _ hy);generalize hex:ev x=ux at h1;generalize hey:ev y=uy at h2
 cases h1 with|nul _ _ e1 =>
 cases h2;subst e1;have:=Lib.run_unsafeString_none (P:=P) w pt it type none;exact⟨w,R,γ,.inl ⟨.string .empty,by simp[execOp,resolve,invoke,builtin,hex,hey,Nul.val,this],.str _⟩,hi,Ext.refl _ _ _,Mv.refl⟩
theorem mN {x y:Operand}{pt it:TypeId}{E id ver:Nat}{s:ByteArray}(hx:ρ x=some (.one (.ep id ver 0 0)))(hy:ρ y=some (.one (.c (.int .i64 s.size))))(hL:L[id]?=some (.row ver (bf s) 1))(hE:ver%65536=E)(hp:P.underlying pt=some (.pointer E))(hc:P.cellsOf E=1)
  (h0:0<s.size) (h63:s.size<=9223372036854775807) :
  kZ P ρ L (.call { callee := .builtin .unsafeString,args :=#[x,y],argTypes :=#[pt,it] }) (.one (.c (.str s))) (L.set id .dead):=by
 intro B R γ w ev o ho hi hρ hfv;obtain⟨dst,op',type,pos,after,guard⟩:=o;simp only at ho;subst ho;obtain⟨_,b,c,hg,hu⟩:=DX (R:=R) hL (hρ _ (by simp[Op.operands,Call.operands]) _ hx);have h2:=(hρ _ (by simp[Op.operands,Call.operands]) _ hy);generalize hey:ev y=uy at h2
 cases h2;obtain⟨vs,E2,hb,hE2,hsz,hle,hk,hcells,hRn⟩:=fx hi hL hg;have hEt:E2=E:=by rw[hE2.1];exact hE
 subst hEt;have hlen:(bf s).length=s.size:=by unfold bf;rw[amI];simp
 have hdl:s.data.toList.length=s.size:=by simp
 have hsh:w.shape? b=some (E2,c*1):=by simp[World.shape?,hb,hsz]
 have hrun:=Lib.run_unsafeString_row (P:=P) w pt it type E2 hp hc b (c*1) hsh s.data.toList (by intro e;rw[e]at hdl;simp at hdl;omega) (by rw[hdl];omega) (by rw[hdl];omega) (fun j x hj=>by
  have hjl:=(amw.1 hj).1;rw[Addr.add_mid,anb,cob_ hb];have hjv:j<vs.size:=by rw[hsz];omega
  have hbr:(bf s)[j]?=some [.c (.int .u8 x.toNat)]:=by unfold bf;rw[amT,hj];rfl
  have:=hcells.rep j _ 0 vs[j] _ hbr (by
   rw[Nat.mul_one,Nat.add_zero,am0,if_pos m0];simp[hjv]) rfl
  rw[amV hjv];generalize vs[j]=vj at this
  cases this;rfl)
 rw[hdl]at hrun;have hfr:∀ m,0<m->((∀ b',b'≠b->(w.freeze ⟨b,0,none⟩ m).heap[b']?=w.heap[b']?)/\(w.freeze ⟨b,0,none⟩ m).heap.size=w.heap.size)/\(w.freeze ⟨b,0,none⟩ m).os=w.os/\(w.freeze ⟨b,0,none⟩ m).tape=w.tape/\(w.freeze ⟨b,0,none⟩ m).output=w.output:=by
  intro m hm;have:m≠0:=m0
  refine⟨⟨fun b' hne=>?_,?_⟩,?_,?_,?_⟩<;>simp only[World.freeze,hb]<;>simp[this];rw[Array.getElem?_modify];simp[Ne.symm hne]
 obtain⟨⟨hfz,hfs⟩,f1,f2,f3⟩:=hfr s.size h0;obtain⟨i1,i2⟩:=hi.kill hL hg rfl (fun b e=>by cases e) (R':=R) (w':=w.freeze ⟨b,0,none⟩ s.size) (PH.sub_refl _) hfz hfs (fun _ _ _=>rfl) (fun o u e=>by rw[hRn o]at e;cases e);have hnb:=(hi.new id _ b hg rfl).1;refine⟨_,R,_,.inl ⟨.string s,?_,.str s⟩,i1,⟨⟨?_,?_,?_,m0,fun b' hb'=>hfz b' (fun e=>hnb (by rw[<- e];exact hb'))⟩,PH.sub_refl _,fun _ _ _=>rfl⟩,i2⟩
 ·have hs:(⟨s.data.toList.toArray⟩:ByteArray)=s:=by cases s;simp
  rw[hs]at hrun;simp only[Nat.zero_mul,anb,Nat.add_zero]at hu;simp[execOp,resolve,invoke,builtin,hu,hey,hrun]
 ·exact f1
 ·exact f2
 ·exact f3
end
open Go.RowKit
def eA:List (List SV)->Option (List (List AC))
 |[]=>some []
 |e::es=>match fE e,eA es with
  |some x,some xs=>some (x::xs)
  |_,_=>none
theorem qG:∀ {es:List (List SV)} {cs:List (List AC)},eA es=some cs->es.length=cs.length
 |[],cs,h=>by injection h with h;subst h;rfl
 |e::es,cs,h=>by
  unfold eA at h;split at h
  ·rename_i x xs hx hxs;injection h with h;subst h;simp[qG hxs]
  ·cases h
theorem np:∀ {es:List (List SV)} {cs:List (List AC)},eA es=some cs ->∀ (i:Nat) c,cs[i]?=some c ->∃ e,es[i]?=some e/\fE e=some c
 |[],cs,h=>by injection h with h;subst h;intro i c hc;simp at hc
 |e::es,cs,h=>by
  unfold eA at h;split at h
  ·rename_i x xs hx hxs
   injection h with h;subst h
   intro i c hc
   cases i with
   |zero=>simp at hc;subst hc;exact⟨e,rfl,hx⟩
   |succ i=>simp at hc;obtain⟨e',h1,h2⟩:=np hxs i c hc;exact⟨e',by simpa using h1,h2⟩
  ·cases h
theorem qF:∀ (cs:List (List AC)),eA (cs.map (List.map SV.c))=some cs
 |[]=>rfl
 |c::cs=>by
  have h1:∀ l:List AC,fE (l.map SV.c)=some l:=by
   intro l
   induction l with
   |nil=>rfl
   |cons x l ih=>simp[fE,SV.norm,ih]
  simp[eA,h1,qF cs]
section
variable {P:Program} {ti:TI} {B:Nat->Prop} {N n0:Nat} {R:PH} {γ:List Gh} {L:List Ob} {T:Tm} {w:World} {Q:AX->Tm->List Ob->Prop}
end
section
variable {P:Program} {ti:TI} {N n0:Nat} {L:List Ob} {T:Tm} {Q:AX->Tm->List Ob->Prop}
theorem lB {B:Nat->Prop}{R:PH}{γ:List Gh}{w:World}(hi:Inv B R γ L w){id ver k:Nat}{es:List (List SV)}{cs:List (List AC)}(hL:L[id]?=some (.row ver es k))(hn:eA es=some cs) :
  ∃ R' γ',Inv B R' γ' (L.set id .dead) w/\Ext B R R' w w/\Mv R R' γ γ' L (L.set id .dead) /\ ∀ lo n u,(SV.sl id ver lo n).rep R γ L u->bg R' u (.lst ((cs.drop lo).take n)):=by
 have hlt:id<L.length:=(amw.1 hL).1;obtain⟨g,hg⟩:∃ g,γ[id]?=some g:=⟨_,amF (by rw[hi.len];exact hlt)⟩;have hob:=hi.obj id _ _ hL hg;have hlc:=qG hn
 match g,hg,hob with
 |.none,hg,hob =>
  have he:es=[]:=hob;subst he;injection hn with hn;subst hn
  have hm:Mv R R γ (γ.set id .none) L (L.set id .dead):=Mv.setOb (PH.sub_refl _) hi.len hL (fun b e=>by rw[hg]at e;cases e) (fun _ _ e=>by cases e) (fun _ _ _ e=>by cases e);have hgs:γ.set id .none=γ:=by
   apply List.ext_getElem?;intro j;by_cases hj:j=id
   ·subst hj;rw[amP (by rw[hi.len];exact hlt),hg]
   ·rw[amQ (Ne.symm hj)]
  rw[hgs]at hm;refine⟨R,γ,⟨by simp[hi.len],hi.val,fun j y h hy hh=>?_,hi.inj,hi.new,hi.bsz⟩,Ext.refl _ _ _,hm,fun lo n u hu=>?_⟩
  ·by_cases hj:j=id
   ·subst hj
    rw[amP hlt]at hy;injection hy with hy;subst hy
    rw[hg]at hh;injection hh with hh;subst hh
    trivial
   ·rw[amQ (Ne.symm hj)]at hy
    exact(hi.obj j y h hy hh).mv hm (fun _ _=>rfl) (fun _ _ _ e=>e)
  ·obtain⟨_,_,hall⟩:=hu
   obtain⟨_,g',hg',hat⟩:=(hall _ [] k hL).2 rfl;rw[hg]at hg';injection hg' with hg';subst hg'
   obtain⟨⟨a0,rfl,_⟩,rfl,rfl⟩:=hat;exact cO _ _ _
 |.arr b c,hg,hob =>
  obtain⟨vs,E,hb,hE,hsz,hle,hk,hcells,hRn⟩:=fx hi hL hg;have hle2:es.length*k<=c*k:=am7 _ hle;have hsub0:∀ b' o u,R b' o=some u->(if b'=b/\o<es.length*k then vs[o]? else R b' o)=some u:=by
   intro b' o u h;by_cases hc:b'=b/\o<es.length*k
   ·exfalso;rw[hc.1,hRn]at h;cases h
   ·rw[if_neg hc];exact h
  let R':PH:=R.put (fun b' o=>if b'=b/\o<es.length*k then vs[o]? else R b' o) hsub0
  have hsub:PH.sub R R':=hsub0;obtain⟨i1,i2⟩:=hi.kill hL hg rfl (fun b e=>by cases e) (R':=R') (w':=w) hsub (fun _ _=>rfl) rfl (fun b' o hne=>by show(if b'=b/\o<es.length*k then vs[o]? else R b' o)=R b' o;rw[if_neg (fun h=>hne h.1)])
   (fun o u h=>by
    have h:(if b=b/\o<es.length*k then vs[o]? else R b o)=some u:=h;rw[cob_ hb];by_cases hc:b=b/\o<es.length*k
    ·rw[if_pos hc]at h;exact h
    ·rw[if_neg hc,hRn]at h;cases h)
  have hnb:=(hi.new id _ b hg rfl).1;refine⟨R',γ.set id .none,i1,⟨Kept.refl _ _,hsub,fun b' o hb'=>?_⟩,i2,fun lo n u hu=>?_⟩
  ·show(if b'=b/\o<es.length*k then vs[o]? else R b' o)=R b' o
   rw[if_neg (fun h=>hnb (by rw[<- h.1];exact hb'))]
  ·obtain⟨_,_,hall⟩:=hu
   obtain⟨hln,g',hg',hat⟩:=(hall _ es k hL).2 rfl;rw[hg]at hg';injection hg' with hg';subst hg'
   have hlen:((cs.drop lo).take n).length=n:=by simp;omega
   have hcv:∃ a c',u = .slice a n c'/\n<=c'/\(0<n->a=some ⟨b,lo*k,none⟩):=by
    rcases hat with hat|⟨q1,q2,a,q3⟩
    ·exact⟨_,_,hat,m0,fun _=>rfl⟩
    ·exact⟨a,0,by rw[q3,q2],m0,fun h=>by omega⟩
   obtain⟨a,c',rfl,hnc,ha⟩:=hcv;have h1:lo*k+n*k<=es.length*k:=by rw[<- Nat.add_mul];exact am7 _ hln
   have getc:∀ (i:Nat) e,((cs.drop lo).take n)[i]?=some e->i<n /\ ∃ y,es[lo+i]?=some y/\fE y=some e:=by
    intro i e he;rw[am0]at he;split at he
    ·rename_i hin
     rw[anh]at he;obtain⟨y,g1,g2⟩:=np hn (lo+i) e he;exact⟨hin,y,g1,g2⟩
    ·cases he
   refine .lst a n c' _ k (fun j=>(vs[lo*k+j]?).getD Go.undef) b (lo*k) hlen hnc (fun e he=>?_) ha (fun j hj=>?_) (fun i e j x he hx=>?_)
   ·obtain⟨i,hi'⟩:=List.mem_iff_getElem?.1 he
    obtain⟨_,y,g1,g2⟩:=getc i e hi';rw[dF g2];exact hcells.wide y (amC g1)
   ·have hlt2:lo*k+j<vs.size:=m0
    show(if b=b/\lo*k+j<es.length*k then vs[lo*k+j]? else R b (lo*k+j))=_;rw[if_pos ⟨rfl,m0⟩,amV hlt2];rfl
   ·obtain⟨hin,y,g1,g2⟩:=getc i e he
    have hjk:j<k:=by rw[<- hcells.wide y (amC g1),<- dF g2];exact(amw.1 hx).1
    have hlt3:=oQ hin hjk;have hlt2:lo*k+(i*k+j)<vs.size:=m0
    have hyj:j<y.length:=by rw[hcells.wide y (amC g1)];exact hjk
    have hr:=hcells.rep (lo+i) y j vs[lo*k+(i*k+j)] _ g1 (by
     rw[am0,if_pos (by rw[Nat.add_mul];omega),Nat.add_mul,Nat.add_assoc];simp[hlt2]) (amF hyj)
    have:=SV.norm_rep hr (hY g2 j _ _ (amF hyj) hx);show bg R' ((vs[lo*k+(i*k+j)]?).getD Go.undef) x;rw[amV hlt2];exact bg.mono hsub this
theorem sI {c:Code}(id t:Nat){ver k n:Nat}{es:List (List SV)}{cs:List (List AC)}(hL:L[id]?=some (.row ver es k))(hn:eA es=some cs)(ht:T.lookup t=some (.one (.sl id ver 0 n)))(hlen:cs.length=n)(h:Aw P N n0 c Q ((t,.one (.c (.lst cs)))::T) (L.set id .dead)):Aw P N n0 c Q T L:=by
 intro hn0 B R γ w a hi hT;obtain⟨R',γ',hI,hE,hM,hS⟩:=lB hi hL hn;refine wp_mono (h (by simpa using hn0) B R' γ' w a hI ?_) fun _ _ _ hh=>hh.ext hE hi.len (fP.of hn0 hM)
 refine⟨hT.size,hT.defers,fun t' x hx=>?_⟩;rw[List.lookup_cons]at hx;by_cases e:t'=t
 ·subst e
  simp at hx;subst hx;obtain⟨u,h1,h2⟩:=hT.slot t' _ ht;refine⟨u,h1,?_⟩;have:=hS 0 n u h2;rw[List.drop_zero,<- hlen,List.take_length]at this;exact this
 ·have:(t'==t)=false:=by simpa using e
  rw[this]at hx;obtain⟨u,h1,h2⟩:=hT.slot t' x hx;exact⟨u,h1,AV.mv hM h2⟩
end
def unC (id:Nat)(ts:List AC):Cap->Cap
 |.ptr i off=>if i=id then .c (.ref (ts.drop off))else .ptr i off
 |.c x => .c x
def unS (id:Nat)(ts:List AC):SV->SV
 |.ptr i off=>if i=id then .c (.ref (ts.drop off))else .ptr i off
 |.clo f caps=>match l8 (caps.map (unC id ts))with
  |some cs => .c (.fn f cs)
  |none => .clo f (caps.map (unC id ts))
 |x=>x
def unA (id:Nat)(ts:List AC):AV->AV
 |.one x => .one (unS id ts x)
 |.agg xs => .agg (xs.map (unS id ts))
 |v=>v
section
variable {P:Program} {ti:TI} {B:Nat->Prop} {N n0:Nat} {R:PH} {γ:List Gh} {L:List Ob} {T:Tm} {w:World} {Q:AX->Tm->List Ob->Prop}
theorem pu (hi:Inv B R γ L w){id:Nat}{cs:List SV}{ts:List AC}(hL:L[id]?=some (.box cs))(hn:fE cs=some ts) :
  ∃ R',Inv B R' γ (L.set id .dead) w/\Ext B R R' w w/\Mv R R' γ γ L (L.set id .dead) /\ ∀ off u,(SV.ptr id off).rep R γ L u->bg R' u (.ref (ts.drop off)):=by
 have hlt:id<L.length:=(amw.1 hL).1;obtain⟨g,hg⟩:∃ g,γ[id]?=some g:=⟨_,amF (by rw[hi.len];exact hlt)⟩;have hob:=hi.obj id _ _ hL hg
 match g,hg,hob with
 |.box b,hg,hob =>
  obtain⟨⟨vs,E,hb,hsz,hrep⟩,hRn⟩:=hob;have hsub0:∀ b' o u,R b' o=some u->(if b'=b then vs[o]? else R b' o)=some u:=by
   intro b' o u h;by_cases hc:b'=b
   ·exfalso;rw[hc,hRn]at h;cases h
   ·rw[if_neg hc];exact h
  let R':PH:=R.put (fun b' o=>if b'=b then vs[o]? else R b' o) hsub0
  have hsub:PH.sub R R':=hsub0;have hR':∀ o,R' b o=vs[o]?:=fun o=>by show(if b=b then vs[o]? else R b o)=_;rw[if_pos rfl]
  have hRo:∀ b' o,b'≠b->R' b' o=R b' o:=fun b' o h=>by show(if b'=b then vs[o]? else R b' o)=_;rw[if_neg h]
  have hkeep:∀ (t:Nat) x,(L.set id .dead)[t]?=some x->x ≠ .dead->L[t]?=some x:=by
   intro t x hx hne;by_cases ht:t=id
   ·subst ht;rw[amP hlt]at hx;injection hx with hx;exact absurd hx.symm hne
   ·rwa[amQ (Ne.symm ht)]at hx
  have hm:Mv R R' γ γ L (L.set id .dead):=⟨hsub0,m5,fun t n' k _ h=>⟨n',hkeep t _ h (fun e=>by cases e),amM _,fun _=>rfl⟩,fun t ver es k _ h=>⟨ver,es,hkeep t _ h (fun e=>by cases e),amM _,fun _=>⟨rfl,rfl⟩⟩,fun _ _ h=>h⟩;have hnb:=(hi.new id _ b hg rfl).1;refine⟨R',⟨by simp[hi.len],fun b' o u h=>?_,fun j y h hy hh=>?_,hi.inj,hi.new,hi.bsz⟩,⟨Kept.refl _ _,hsub0,fun b' o hb'=>hRo b' o (fun e=>hnb (e▸hb'))⟩,hm,fun off u hu=>?_⟩
  ·by_cases hc:b'=b
   ·subst hc;rw[hR']at h;rw[cob_ hb];exact h
   ·rw[hRo _ _ hc]at h;exact hi.val _ _ _ h
  ·by_cases hj:j=id
   ·subst hj
    rw[amP hlt]at hy;injection hy with hy;subst hy
    rw[hg]at hh;injection hh with hh;subst hh
    trivial
   ·rw[amQ (Ne.symm hj)]at hy
    exact(hi.obj j y h hy hh).mv hm (fun _ _=>rfl) (fun b' o hb' e=>by rw[hRo b' o (fun e'=>hi.inj j id h _ hh hg hj b' hb' (by rw[e'];rfl))];exact e)
  ·obtain⟨b2,rfl,hb2⟩:=hu
   rw[hg]at hb2;injection hb2 with hb2;injection hb2 with hb2;subst hb2
   have hlen:=dF hn;refine .ref b off (ts.drop off) (fun j=>(vs[off+j]?).getD Go.undef) (fun j hj=>?_) (fun j x hx=>?_)
   ·have hlt2:off+j<vs.size:=by rw[List.length_drop]at hj;omega
    rw[hR',amV hlt2];rfl
   ·rw[anh]at hx
    have hlt3:off+j<ts.length:=(amw.1 hx).1;have hlt2:off+j<vs.size:=m0
    have hcj:off+j<cs.length:=m0
    show bg R' ((vs[off+j]?).getD Go.undef) x;rw[amV hlt2];exact bg.mono hsub (SV.norm_rep (hrep (off+j) _ _ (amV hlt2) (amF hcj)) (hY hn (off+j) _ _ (amF hcj) hx))
theorem ahP {R':PH}{L':List Ob}{id:Nat}{ts:List AC}(hS:∀ off u,(SV.ptr id off).rep R γ L u->bg R' u (.ref (ts.drop off)))(hM:Mv R R' γ γ L L'){x:Cap}{u:Value}(h:x.rep R γ u):(unC id ts x).rep R' γ u:=by
 cases x with
 |c x=>exact Cap.mv hM.sub hM.ptr h
 |ptr i off =>
  unfold unC;dsimp only;split
  ·rename_i e;subst e;exact hS off u h
  ·exact Cap.mv hM.sub hM.ptr h
theorem NQ {R':PH}{L':List Ob}{id:Nat}{ts:List AC}(hS:∀ off u,(SV.ptr id off).rep R γ L u->bg R' u (.ref (ts.drop off)))(hM:Mv R R' γ γ L L'){x:SV}{u:Value}(h:x.rep R γ L u):(unS id ts x).rep R' γ L' u:=by
 cases x with
 |ptr i off =>
  unfold unS;dsimp only;split
  ·rename_i e;subst e;exact hS off u h
  ·exact SV.mv hM h
 |clo f caps =>
  obtain⟨vs,rfl,hsz,hc⟩:=h;have hc':∀ (j:Nat) u x,vs[j]?=some u->(caps.map (unC id ts))[j]?=some x->x.rep R' γ u:=by
   intro j u x hu hx;rw[amT]at hx
   cases hy:caps[j]? with
   |none=>rw[hy]at hx;cases hx
   |some y=>rw[hy]at hx;cases hx;exact ahP hS hM (hc j u y hu hy)
  unfold unS;dsimp only;split
  ·rename_i cs hcs
   have hl:=uY hcs;rw[amI]at hl;exact .fn f vs cs (by rw[hsz,hl]) (fun j v x hv hx=>hc' j v (.c x) hv (vI hcs j x hx))
  ·exact⟨vs,rfl,by rw[hsz,amI],hc'⟩
 |c x=>exact SV.mv hM h
 |emp=>exact SV.mv (x := .emp) hM h
 |own es t=>exact SV.mv (x := .own es t) hM h
 |sl i v l n=>exact SV.mv (x := .sl i v l n) hM h
 |ep i v j o=>exact SV.mv (x := .ep i v j o) hM h
 |mp i=>exact SV.mv (x := .mp i) hM h
theorem NB {R':PH}{L':List Ob}{id:Nat}{ts:List AC}(hS:∀ off u,(SV.ptr id off).rep R γ L u->bg R' u (.ref (ts.drop off)))(hM:Mv R R' γ γ L L'){x:AV}{u:Value}(h:x.rep R γ L u):(unA id ts x).rep R' γ L' u:=by
 cases x with
 |one x=>exact NQ hS hM h
 |agg xs =>
  obtain⟨vs,rfl,hsz,hc⟩:=h;refine⟨vs,rfl,by rw[hsz,amI],fun j u x hu hx=>?_⟩;rw[amT]at hx
  cases hy:xs[j]? with
  |none=>rw[hy]at hx;cases hx
  |some y=>rw[hy]at hx;cases hx;exact NQ hS hM (hc j u y hu hy)
 |tup ps=>exact AV.mv (x := .tup ps) hM h
 |tupS xs=>exact AV.mv (x := .tupS xs) hM h
 |undef=>exact AV.mv (x := .undef) hM h
theorem gm {f:AV->AV}:∀ {T:Tm} {t:Nat} {x:AV},(T.map fun p=>(p.1,f p.2)).lookup t=some x ->∃ y,T.lookup t=some y/\x=f y
 |[],t,x,h=>by cases h
 |p::T,t,x,h=>by
  rw[amH,List.lookup_cons]at h;rw[List.lookup_cons];by_cases e:t=p.1
  ·subst e;simp at h;exact⟨p.2,m5,h.symm⟩
  ·have e':(t==p.1)=false:=by simpa using e
   rw[e']at h ⊢;exact gm h
theorem cY {c:Code}(id:Nat){cs:List SV}{ts:List AC}(hL:L[id]?=some (.box cs))(hn:fE cs=some ts)(h:Aw P N n0 c Q (T.map fun p=>(p.1,unA id ts p.2)) (L.set id .dead)):Aw P N n0 c Q T L:=by
 intro hn0 B R γ w a hi hT;obtain⟨R',hI,hE,hM,hS⟩:=pu hi hL hn;refine wp_mono (h (by simpa using hn0) B R' γ w a hI ?_) fun _ _ _ hh=>hh.ext hE hi.len (fP.of hn0 hM)
 refine⟨hT.size,hT.defers,fun t x hx=>?_⟩;obtain⟨y,hy,rfl⟩:=gm hx;obtain⟨u,h1,h2⟩:=hT.slot t y hy;exact⟨u,h1,NB hS hM h2⟩
def thS (id ver:Nat)(cs:List (List AC)):SV->SV
 |.sl id' ver' lo n=>if id'=id/\ver'=ver then .c (.lst ((cs.drop lo).take n))else .sl id' ver' lo n
 |x=>x
def thA (id ver:Nat)(cs:List (List AC)):AV->AV
 |.one x => .one (thS id ver cs x)
 |.agg xs => .agg (xs.map (thS id ver cs))
 |v=>v
theorem oy {R':PH}{γ':List Gh}{L':List Ob}{id ver:Nat}{cs:List (List AC)}(hS:∀ lo n u,(SV.sl id ver lo n).rep R γ L u->bg R' u (.lst ((cs.drop lo).take n)))(hM:Mv R R' γ γ' L L'){x:SV}{u:Value}(h:x.rep R γ L u):(thS id ver cs x).rep R' γ' L' u:=by
 cases x with
 |sl i v l n =>
  unfold thS;dsimp only;split
  ·rename_i e;obtain⟨rfl,rfl⟩:=e;exact hS l n u h
  ·exact SV.mv hM h
 |c x=>exact SV.mv hM h
 |emp=>exact SV.mv (x := .emp) hM h
 |own es t=>exact SV.mv (x := .own es t) hM h
 |ptr i o=>exact SV.mv (x := .ptr i o) hM h
 |ep i v j o=>exact SV.mv (x := .ep i v j o) hM h
 |mp i=>exact SV.mv (x := .mp i) hM h
 |clo f caps=>exact SV.mv (x := .clo f caps) hM h
theorem nP {c:Code}(id:Nat){ver k:Nat}{es:List (List SV)}{cs:List (List AC)}(hL:L[id]?=some (.row ver es k))(hn:eA es=some cs)(h:Aw P N n0 c Q (T.map fun p=>(p.1,thA id ver cs p.2)) (L.set id .dead)):Aw P N n0 c Q T L:=by
 intro hn0 B R γ w a hi hT;obtain⟨R',γ',hI,hE,hM,hS⟩:=lB hi hL hn;refine wp_mono (h (by simpa using hn0) B R' γ' w a hI ?_) fun _ _ _ hh=>hh.ext hE hi.len (fP.of hn0 hM)
 refine⟨hT.size,hT.defers,fun t x hx=>?_⟩;obtain⟨y,hy,rfl⟩:=gm hx;obtain⟨u,h1,h2⟩:=hT.slot t y hy;refine⟨u,h1,?_⟩
 cases y with
 |one x=>exact oy hS hM h2
 |agg xs =>
  obtain⟨vs,rfl,hsz,hc⟩:=h2;refine⟨vs,rfl,by rw[hsz,amI],fun j u x hu hx=>?_⟩;rw[amT]at hx
  cases hy:xs[j]? with
  |none=>rw[hy]at hx;cases hx
  |some y=>rw[hy]at hx;cases hx;exact oy hS hM (hc j u y hu hy)
 |tup ps=>exact AV.mv (x := .tup ps) hM h2
 |tupS xs=>exact AV.mv (x := .tupS xs) hM h2
 |undef=>exact AV.mv (x := .undef) hM h2
end
theorem jF {P:Program}{w:World}{t:TypeId}{d:TypeDesc}(ht:P.underlying t=some d)(hd:(match d with |.struct _=>true |.array _ _=>true|_=>false)=false){xs:Array Value}{i:Nat}{v:Value}(hx:xs[i]?=some v):(part t xs i).run P w = .ok v w:=by
 cases d<;>first|(cases hd;done)|simp[part,isAgg,run_underlying ht,hx]
def aju:TypeDesc->Option Sc
 |.int k=>some (.int k)
 |.bool=>some .bool
 |.string=>some .str
 |_=>none
def ajk (s:Sc):Option TypeDesc->Bool
 |some d=>match aju d with
  |some s'=>decide (s'=s)
  |none=>false
 |none=>false
def af' (d:Option TypeDesc):Sc->Prop
 |.int k=>d=some (.int k)
 |.bool=>d=some .bool
 |.str=>d=some .string
theorem agz {s:Sc}{d:Option TypeDesc}(h:ajk s d=true):af' d s:=by
 unfold ajk at h
 cases d with
 |none=>cases h
 |some d =>
  dsimp only at h
  cases hs:aju d with
  |none=>rw[hs]at h;cases h
  |some s' =>
   rw[hs]at h;obtain rfl:s'=s:=amZ h;unfold aju at hs;split at hs<;>first|(cases hs;rfl)|(cases hs;done)
def N5 (P:Program):List Field->List Sc->Nat->Bool
 |[],[],_=>true
 | f :: fs, s :: sh, i => (!(f.name == "_")) && (Nat.beq f.offset i && (ajk s (P.underlying f.type) && N5 P fs sh (i + 1)))
 |_,_,_=>false
theorem A_ {x:SV}{xs:List SV}{vs:List Value}(h:eY (x::xs)=some vs):∃ c v r,x = .c c/\Ci c=some v/\eY xs=some r/\vs=v::r:=by
 unfold eY at h;split at h
 ·rename_i e;cases e
 ·rename_i y ys e
  cases e;split at h
  ·rename_i v r h1 h2;cases h;exact⟨_,v,r,rfl,h1,h2,rfl⟩
  ·cases h
 ·cases h
theorem B8 {P:Program}{w:World}(d:Nat){A B:Array Value}:∀ (fs:List Field) (sh:List Sc) (i:Nat) (xs ys:List SV) (vs us:List Value),N5 P fs sh i=true->dS sh xs=true->dS sh ys=true->eY xs=some vs->eY ys=some us ->
  (∀ (j:Nat) v,vs[j]?=some v->A[i+j]?=some v)->(∀ (j:Nat) v,us[j]?=some v->B[i+j]?=some v)->(Op.eqFields (d+1) A B fs).run P w = .ok (bT xs ys) w:=by
 intro fs
 induction fs with
 |nil =>
  intro sh i xs ys vs us hf hx hy _ _ _ _
  cases sh with
  |nil =>
   cases xs with
   |nil=>cases ys with
    |nil=>rfl
    |cons _ _=>cases hy
   |cons _ _=>cases hx
  |cons _ _=>cases hf
 |cons f fs ih =>
  intro sh i xs ys vs us hf hx hy hv hu hA hB
  cases sh with
  |nil=>cases hf
  |cons s sh =>
   rw[N5,amO,amO,amO]at hf;obtain⟨h1,h2,h3,h4⟩:=hf;have h2:=Nat.eq_of_beq_eq_true h2
   have h1 : f.name ≠ "_" := by simpa using h1
   have h3:=agz h3
   cases xs with
   |nil=>cases s<;>cases hx
   |cons x xs =>
    cases ys with
    |nil=>cases s<;>cases hy
    |cons y ys =>
     obtain⟨cx,v,vr,rfl,hv1,hv2,rfl⟩:=A_ hv;obtain⟨cy,u,ur,rfl,hu1,hu2,rfl⟩:=A_ hu;have a0:=hA 0 v rfl;have b0:=hB 0 u rfl;rw[Nat.add_zero]at a0 b0;have rest:∀ (hx':dS sh xs=true) (hy':dS sh ys=true),(Op.eqFields (d+1) A B fs).run P w = .ok (bT xs ys) w:=fun hx' hy' =>
      ih sh (i+1) xs ys vr ur h4 hx' hy' hv2 hu2 (fun j v hj=>by have:=hA (j+1) v (by simpa using hj);rwa[show i+1+j=i+(j+1)by omega]) (fun j v hj=>by have:=hB (j+1) v (by simpa using hj);rwa[show i+1+j=i+(j+1)by omega])
     cases s with
     |int k =>
      unfold af' at h3
      cases cx<;>first|(cases hx;done)|skip
      cases cy<;>first|(cases hy;done)|skip
      rename_i k1 a k2 b;simp only[dS,amO,decide_eq_true_eq]at hx hy;obtain⟨rfl,hx'⟩:=hx;obtain⟨rfl,hy'⟩:=hy
      cases hv1;cases hu1;have p1:=jF (P:=P) (w:=w) h3 rfl a0;have p2:=jF (P:=P) (w:=w) h3 rfl b0;simp only[Op.eqFields,h1,h2,ne_eq,not_false_eq_true,if_true,Sem.run_bind,p1,p2,Result.andThen_ok,run_equalIn_int (P:=P) w d _ k k a b h3,Sem.run_ite,Sem.run_pure,rest hx' hy']
      cases e:(a==b)
      ·have:a≠b:=by simpa using e
       simp[bT,this]
      ·have:a=b:=by simpa using e
       simp[bT,this]
     |bool =>
      unfold af' at h3
      cases cx<;>first|(cases hx;done)|skip
      cases cy<;>first|(cases hy;done)|skip
      rename_i a b;simp only[dS]at hx hy
      cases hv1;cases hu1;have p1:=jF (P:=P) (w:=w) h3 rfl a0;have p2:=jF (P:=P) (w:=w) h3 rfl b0;simp only[Op.eqFields,h1,h2,ne_eq,not_false_eq_true,if_true,Sem.run_bind,p1,p2,Result.andThen_ok,run_equalIn_bool (P:=P) w d _ a b h3,Sem.run_ite,Sem.run_pure,rest hx hy]
      cases e:(a==b)<;>simp[bT,e]
     |str =>
      unfold af' at h3
      cases cx<;>first|(cases hx;done)|skip
      cases cy<;>first|(cases hy;done)|skip
      rename_i a b;simp only[dS]at hx hy
      cases hv1;cases hu1;have p1:=jF (P:=P) (w:=w) h3 rfl a0;have p2:=jF (P:=P) (w:=w) h3 rfl b0;simp only[Op.eqFields,h1,h2,ne_eq,not_false_eq_true,if_true,Sem.run_bind,p1,p2,Result.andThen_ok,run_equalIn_string (P:=P) w d _ a b h3,Sem.run_ite,Sem.run_pure,rest hx hy]
      cases e:(a.toList==b.toList)<;>simp[bT,e]
def aaq (P:Program)(t:TypeId)(sh:List Sc):Bool :=
 (match P.underlying t with
 |some (.struct fs)=>N5 P fs.toList sh 0
 |_=>false)&&(!P.stoodInHeld t && !P.eqGuardType P.depth t)
theorem ab_ {P:Program}{t:TypeId}{sh:List Sc}(h:aaq P t sh=true):P.eqGuardType P.depth t=false /\ ∀ xs ys,dS sh xs=true->dS sh ys=true->K9 P t xs ys:=by
 rw[aaq,amO,amO]at h;obtain⟨h1,h2,h3⟩:=h;refine⟨by simpa using h3,fun xs ys hx hy vs us hv hu w=>?_⟩;split at h1
 ·rename_i fs ht
  have hfs:P.fieldsOf t=fs:=by unfold Program.fieldsOf;rw[ht]
  have hm:Op.equal t (.agg vs.toArray) (.agg us.toArray)=Op.equalIn (9999+1) t (.agg vs.toArray) (.agg us.toArray):=rfl;rw[hm,run_equalIn_struct w 9999 t _ _ (by rw[hfs];exact ht) (by simpa using h2),hfs];exact B8 9998 _ sh 0 xs ys vs us h1 hx hy hv hu (fun j v hj=>by simpa using hj) (fun j v hj=>by simpa using hj)
 ·cases h1
