/- Parts. No condition. -/
import Derived.Test.YtlcceppoloaecaaGreatDoorXAE
import Derived.Laws.MakeOwn
import Derived.Lib.UnsafeStr
import Derived.Lib.Builder
import Derived.Laws.OwnMore
set_option linter.unusedSimpArgs false
set_option linter.unusedVariables false
namespace Go.Proofs.YtlcceppoloaecaaGreatDoor
open _root_.List (replicate)
open Go.RowKit Go.MapKept
structure fw (R:PH)(γ:List Gh)(L:List Ob)(k:Nat)(xs:List (List SV))(news:List Value):Prop where
 len:news.length=xs.length*k
 wide:∀ e∈xs,e.length=k
 rep:∀ (i:Nat) e (j:Nat) u x,xs[i]?=some e->news[i*k+j]?=some u->e[j]?=some x->x.rep R γ L u
 one:∀ u∈news,u.oneCell'=true
def bq (s:ByteArray):List (List SV):=s.data.toList.map fun b=>[.c (.int .u8 b.toNat)]
section
variable {P:Program} {ti:TI} {B:Nat->Prop} {N:Nat} {R:PH} {γ:List Gh} {L:List Ob} {w:World} {ρ:Operand->Option AV}
theorem Mv.setOb {id:Nat}{x x':Ob}{g':Gh}{R':PH}(hs:PH.sub R R')(hl:γ.length=L.length)(hx:L[id]?=some x)(R9:∀ b,γ[id]?≠some (.box b))(htok:∀ n k,x' ≠ .spare n k)(RB:∀ O9 Pz k,x' = .row O9 Pz k ->∃ OY es,x = .row OY es k/\OY<O9) :
  Mv R R' γ (γ.set id g') L (L.set id x'):=by
 have OZ:id<L.length:=(aq6.1 hx).1;refine⟨hs,m5,fun t n k _ h=>?_,fun t OY es k _ h=>?_,fun j b h=>?_⟩
 ·by_cases e:t=id
  ·subst e;rw[ars OZ]at h;injection h with h;exact absurd h (htok n k)
  ·rw[art (Ne.symm e)]at h;exact⟨n,h,aro _,fun _=>by rw[art (Ne.symm e)]⟩
 ·by_cases e:t=id
  ·subst e;rw[ars OZ]at h;injection h with h
   obtain⟨v0,e0,h1,h2⟩:=RB OY es k h;exact⟨v0,e0,by rw[hx,h1],m0,fun q=>by omega⟩
  ·rw[art (Ne.symm e)]at h;exact⟨OY,es,h,aro _,fun _=>⟨rfl,by rw[art (Ne.symm e)]⟩⟩
 ·have:j≠id:=by rintro rfl;exact R9 b h
  rw[art (Ne.symm this)];exact h
theorem Inv.rehome (hi:Inv B R γ L w){id:Nat}{x x':Ob}{g':Gh}(hx:L[id]?=some x)(Q3:g'.block=some w.heap.size)(o:Obj)(hm:Mv R R γ (γ.set id g') L (L.set id x'))
  (Qs:mi R (γ.set id g') (L.set id x') (w.drew.alloc o) x' g'):Inv B R (γ.set id g') (L.set id x') (w.drew.alloc o):=by
 have OZ:id<L.length:=(aq6.1 hx).1;have Pi:∀ j h,(γ.set id g')[j]?=some h->(j=id/\h=g')\/(j≠id/\γ[j]?=some h):=by
  intro j h hh;by_cases hj:j=id
  ·subst hj
   rw[ars (by rw[hi.len];exact OZ)]at hh;injection hh with hh
   exact .inl ⟨rfl,hh.symm⟩
  ·rw[art (Ne.symm hj)]at hh
   exact .inr ⟨hj,hh⟩
 have hold:∀ b,b<w.heap.size->(w.drew.alloc o).heap[b]?=w.heap[b]?:=fun b hb=>e_ w.drew _ hb
 have esz:(w.drew.alloc o).heap.size=w.heap.size+1:=by show(w.heap.push _).size=_;simp
 refine⟨by simp[hi.len],fun b o' u h=>?_,fun j y h hy hh=>?_,fun j1 j2 g1 g2 h1 h2 Ph b hb=>?_,fun j h b hh hb=>?_,fun b hb=>by have:=hi.bsz b hb;omega⟩
 ·have:=hi.lt h
  rw[<- hi.val _ _ _ h];exact World.cell?_of_block (w:=w) (hold b this)
 ·rcases Pi j h hh with⟨rfl,rfl⟩|⟨Ph,Sv⟩
  ·rw[ars OZ]at hy
   injection hy with hy;subst hy
   exact Qs
  ·rw[art (Ne.symm Ph)]at hy
   exact(hi.obj j y h hy Sv).mv hm (fun b hb=>hold b (hi.new j h b Sv hb).2) (fun _ _ _ e=>e)
 ·rcases Pi j1 g1 h1 with⟨a1,rfl⟩|⟨a1,a2⟩<;>rcases Pi j2 g2 h2 with⟨b1,rfl⟩|⟨b1,b2⟩
  ·omega
  ·rw[Q3]at hb;injection hb with hb;subst hb
   intro e;have:=(hi.new j2 g2 _ b2 e).2;omega
  ·have:=(hi.new j1 g1 b a2 hb).2
   rw[Q3];simp;omega
  ·exact hi.inj j1 j2 g1 g2 a2 b2 Ph b hb
 ·rcases Pi j h hh with⟨_,rfl⟩|⟨_,b2⟩
  ·rw[Q3]at hb;injection hb with hb;subst hb
   exact⟨fun hB=>by have:=hi.bsz _ hB;omega,m0⟩
  ·have:=hi.new j h b b2 hb
   exact⟨this.1,m0⟩
theorem Inv.kill (hi:Inv B R γ L w){id:Nat}{x:Ob}{g:Gh}{b:Nat}(hx:L[id]?=some x)(hg:γ[id]?=some g)(hb:g.block=some b)(R9:∀ b,g ≠ .box b){R':PH}{w':World}(hs:PH.sub R R')
  (hw:∀ b',b'≠b->w'.heap[b']?=w.heap[b']?) (Py:w'.heap.size=w.heap.size) (hR:∀ b' o,b'≠b->R' b' o=R b' o) (hv:∀ o u,R' b o=some u->w'.cell? ⟨b,o,none⟩=some u) :
  Inv B R' (γ.set id .none) (L.set id .dead) w'/\Mv R R' γ (γ.set id .none) L (L.set id .dead):=by
 have OZ:id<L.length:=(aq6.1 hx).1;have hm:Mv R R' γ (γ.set id .none) L (L.set id .dead):=Mv.setOb hs hi.len hx (fun b e=>by rw[hg]at e;injection e with e;exact R9 b e) (fun _ _ e=>by cases e) (fun _ _ _ e=>by cases e);have Pi:∀ j h,(γ.set id Gh.none)[j]?=some h->(j=id/\h = .none)\/(j≠id/\γ[j]?=some h):=by
  intro j h hh;by_cases hj:j=id
  ·subst hj
   rw[ars (by rw[hi.len];exact OZ)]at hh;injection hh with hh
   exact .inl ⟨rfl,hh.symm⟩
  ·rw[art (Ne.symm hj)]at hh
   exact .inr ⟨hj,hh⟩
 refine⟨⟨by simp[hi.len],fun b' o u h=>?_,fun j y h hy hh=>?_,fun j1 j2 g1 g2 h1 h2 Ph b' P3=>?_,fun j h b' hh P3=>?_,fun b' P3=>by rw[Py];exact hi.bsz b' P3⟩,hm⟩
 ·by_cases T8:b'=b
  ·subst T8;exact hv o u h
  ·rw[hR b' o T8]at h
   rw[<- hi.val _ _ _ h];exact World.cell?_of_block (w:=w) (hw b' T8)
 ·rcases Pi j h hh with⟨rfl,rfl⟩|⟨Ph,Sv⟩
  ·rw[ars OZ]at hy
   injection hy with hy;subst hy
   trivial
  ·rw[art (Ne.symm Ph)]at hy
   have YK:∀ b',h.block=some b'->b'≠b:=fun b' P3 e=>hi.inj j id h g Sv hg Ph b' P3 (by rw[hb,e])
   exact(hi.obj j y h hy Sv).mv hm (fun b' P3=>hw b' (YK b' P3)) (fun b' o P3 e=>by rw[hR b' o (YK b' P3)];exact e)
 ·rcases Pi j1 g1 h1 with⟨a1,rfl⟩|⟨a1,a2⟩<;>rcases Pi j2 g2 h2 with⟨b1,rfl⟩|⟨b1,b2⟩
  ·omega
  ·cases P3
  ·exact fun e=>by cases e
  ·exact hi.inj j1 j2 g1 g2 a2 b2 Ph b' P3
 ·rcases Pi j h hh with⟨_,rfl⟩|⟨_,b2⟩
  ·cases P3
  ·rw[Py];exact hi.new j h b' b2 P3
theorem fw.ofC {k:Nat}{xs:List (List AC)}{news:List Value}(h:Cells R k xs news):fw R γ L k (xs.map (List.map SV.c)) news:=by
 refine⟨by rw[h.len];simp,fun e he=>?_,fun i e j u x he hu hx=>?_,h.one⟩
 ·obtain⟨y,hy,rfl⟩:=arK.1 he;simpa using h.wide y hy
 ·rw[arw]at he
  cases hq:xs[i]? with
  |none=>simp[hq]at he
  |some y =>
   simp[hq]at he;subst he;rw[arw]at hx
   cases T9:y[j]? with
   |none=>simp[T9]at hx
   |some z =>
    simp[T9]at hx;subst hx;obtain⟨u',g1,g2⟩:=h.get i y j z hq T9;rw[hu]at g1;injection g1 with g1;subst g1
    exact g2
theorem fw.ofStr (s:ByteArray):fw R γ L 1 (bq s) (byteCells s):=by
 refine⟨by rw[byteCells_length];simp[bq],fun e he=>?_,fun i e j u x he hu hx=>?_,fun u hu=>?_⟩
 ·obtain⟨y,hy,rfl⟩:=arK.1 he;rfl
 ·unfold bq at he;unfold byteCells at hu
  rw[arw]at he
  cases hq:s.data.toList[i]? with
  |none=>rw[hq]at he;simp at he
  |some y =>
   rw[hq]at he;simp at he;subst he;have hj:j=0:=by have:=(aq6.1 hx).1;simpa using this
   subst hj;simp at hx;subst hx;rw[Nat.mul_one,Nat.add_zero,arw,hq]at hu;simp at hu;subst hu;exact .int _ _
 ·unfold byteCells at hu
  obtain⟨y,hy,rfl⟩:=arK.1 hu;rfl
theorem fw.mv {R':PH}{γ':List Gh}{L':List Ob}(h:Mv R R' γ γ' L L'){k:Nat}{xs:List (List SV)}{news:List Value}(hc:fw R γ L k xs news):fw R' γ' L' k xs news :=
 ⟨hc.len,hc.wide,fun i e j u x he hu hx=>SV.mv h (hc.rep i e j u x he hu hx),hc.one⟩
theorem fw.app {es xs:List (List SV)}{k:Nat}{olds news:List Value}(h:fw R γ L k es olds)(g:fw R γ L k xs news):fw R γ L k (es++xs) (olds++news):=by
 refine⟨by rw[ard,h.len,g.len,ard,Nat.add_mul],fun e he=>?_,fun i e j u x he hu hx=>?_,fun u hu=>?_⟩
 ·rcases arB.1 he with he|he
  ·exact h.wide e he
  ·exact g.wide e he
 ·by_cases hi:i<es.length
  ·rw[arl hi]at he
   have Ti:j<k:=by rw[<- h.wide e (arb he)];exact(aq6.1 hx).1
   rw[arl (by rw[h.len];exact qm hi Ti)]at hu;exact h.rep i e j u x he hu hx
  ·rw[arc m0]at he
   have hle:es.length*k<=i*k:=arM _ m0;rw[arc (by rw[h.len];omega),h.len]at hu;refine g.rep (i-es.length) e j u x he ?_ hx;rw[Nat.mul_sub_right_distrib];have:i*k-es.length*k+j=i*k+j-es.length*k:=m0
   rw[this];exact hu
 ·rcases arB.1 hu with hu|hu
  ·exact h.one u hu
  ·exact g.one u hu
theorem SV.one_cell {x:SV}{u:Value}(h:x.rep R γ L u):u.oneCell'=true:=(SV.rep_one h).2
theorem gk (hi:Inv B R γ L w){id OY k b c:Nat}{es:List (List SV)}(hL:L[id]?=some (.row OY es k))(hg:γ[id]?=some (.arr b c)) :
  ∃ vs E,w.heap[b]?=some (.cells vs E (0,0))/\(E=OY%65536/\65536<=OY)/\vs.size=c*k/\es.length<=c/\0<k/\fw R γ L k es (vs.toList.take (es.length*k)) /\ ∀ o,R b o=none:=by
 obtain⟨⟨vs,E,h1,h2,h3⟩,h4,h5,h6,h7⟩:=hi.obj id _ _ hL hg;have hle:es.length*k<=c*k:=arM _ h4;have get:∀ (i:Nat) e (j:Nat) u,es[i]?=some e->j<k->(vs.toList.take (es.length*k))[i*k+j]?=some u->vs[i*k+j]?=some u:=by
  intro i e j u he hj hu;rw[arD,if_pos (qm (aq6.1 he).1 hj)]at hu;simpa using hu
 refine⟨vs,E,h1.1,h1.2,h2,h4,h5,⟨by simp;omega,h6,fun i e j u x he hu hx=>?_,fun u hu=>?_⟩,h7⟩
 ·have Ti:j<k:=by rw[<- h6 e (arb he)];exact(aq6.1 hx).1
  exact h3 i e j u x he (get i e j u he Ti hu) hx
 ·obtain⟨q,hq⟩:=List.mem_iff_getElem?.1 hu
  have OZ:=(aq6.1 hq).1;have SA:q<es.length*k:=by rw[ar3]at OZ;omega
  have Q5:q/k<es.length:=by rw[Nat.div_lt_iff_lt_mul h5];exact SA
  have VO:q%k<k:=Nat.mod_lt _ h5;have he:=arf Q5;have hx:=arf (l:=es[q/k]) (i:=q%k) (by rw[h6 _ (arb he)];exact VO);have hqe:q/k*k+q%k=q:=by rw[Nat.mul_comm];exact Nat.div_add_mod q k
  exact SV.one_cell (h3 (q/k) _ (q%k) u _ he (by
   rw[hqe];rw[arD,if_pos SA]at hq;simpa using hq) hx)
theorem akw (hi:Inv B R γ L w){t tx ty E:TypeId}{k by_:Nat}{es xs:List (List SV)}{id OY n:Nat}{v x:Value}(ht:P.underlying t=some (.slice E))(UQ:0<k)(hz:aeh P E k)(R7:kB P E=some by_)(hE:OY%65536=E)
  (hL:L[id]?=some (.row OY es k)) (hv:(SV.sl id OY 0 n).rep R γ L v) (hn:es.length=n) {news:List Value} (SI:Src P k tx x xs.length news w) (Q7:fw R γ L k xs news)
  (OU:(n+xs.length)*by_<=140737488355328) (Pl:n+xs.length<=140737488355328) :
  ∃ u w' γ',(Builtin.append_ #[t,tx] ty #[v,x]).run P w = .ok u w'/\Inv B R γ' (L.set id (.row (OY+65536) (es++xs) k)) w'/\Ext B R R w w'/\Mv R R γ γ' L (L.set id (.row (OY+65536) (es++xs) k)) /\
   (SV.sl id (OY+65536) 0 (n+xs.length)).rep R γ' (L.set id (.row (OY+65536) (es++xs) k)) u:=by
 obtain⟨inf,z,PE,Rk,Qq,Uj⟩:=hz;have PX:inf.bytes=by_:=by unfold kB at R7;rw[PE]at R7;simpa using R7
 obtain⟨Z5,OZ,PK⟩:=hv;obtain⟨hle,g,hg,Pn⟩:=(PK _ es k hL).2 rfl;have QE:Src P inf.size tx x xs.length news w:=by rw[Qq];exact SI
 have Wy:news.length=xs.length*k:=Q7.len;have Xj:id<γ.length:=by rw[hi.len];exact OZ
 have SY:∀ g',(∀ b,g ≠ .box b)->Mv R R γ (γ.set id g') L (L.set id (.row (OY+65536) (es++xs) k)):=fun g' R9 =>
  Mv.setOb (PH.sub_refl _) hi.len hL (fun b e=>by rw[hg]at e;injection e with e;exact R9 b e) (fun _ _ e=>by cases e) (fun O9 Pz k' e=>by injection e with e1 e2 e3;subst e1 e2 e3;exact⟨OY,es,rfl,m0⟩)

 have grow:∀ (a:Option Addr) (c:Nat) (olds:List Value),v = .slice a n c->c<n+xs.length->(∀ b,g ≠ .box b)->fw R γ L k es olds->(Builtin.firstCells inf.size n (.slice a n c)).run P w.drew = .ok olds.toArray w.drew ->
   ∃ u w' γ',(Builtin.append_ #[t,tx] ty #[v,x]).run P w = .ok u w'/\Inv B R γ' (L.set id (.row (OY+65536) (es++xs) k)) w'/\Ext B R R w w'/\Mv R R γ γ' L (L.set id (.row (OY+65536) (es++xs) k)) /\
   (SV.sl id (OY+65536) 0 (n+xs.length)).rep R γ' (L.set id (.row (OY+65536) (es++xs) k)) u:=by
  intro a c olds S3 hc R9 holds Yt;have O4:=run_append_grow_src (P:=P) (w:=w) t tx ty E inf z ht PE Rk a n c olds Yt x xs.length news QE hc m0 (by
   have h2:=nextslicecap_le hc;have h3:Builtin.nextslicecap (n+xs.length) c*inf.bytes<=2*(n+xs.length)*inf.bytes:=arM _ h2;rw[PX]at h3 ⊢;rw[Nat.mul_assoc]at h3;omega)
  have Ry:=grownCap_ge w (n+xs.length) c E;generalize grownCap w (n+xs.length) c E=cap at O4 Ry;have hm:=SY (.arr w.heap.size cap) R9;have Q9:=(holds.app Q7).mv hm;have Z6:(olds++news).length=(n+xs.length)*k:=by rw[Q9.len,ard,hn]
  have hI:=hi.rehome hL (g' := .arr w.heap.size cap) rfl (.cells ((olds++news).toArray++Builtin.zeroCells z.cells (cap-(n+xs.length))) E) hm (by
   refine⟨⟨_,E,⟨dy w.drew _,by rw[<- hE];show OY%65536=(OY+65536)%65536;omega,m0⟩,?_,fun i e j u x he hu hx=>?_⟩,by rw[ard,hn];exact Ry,UQ,Q9.wide,fun o=>hi.none_at o⟩
   ·rw[Array.size_append,size_zeroCells,Uj];simp only[List.size_toArray];rw[Z6,<- Nat.add_mul];congr 1;omega
   ·have Ti:j<k:=by rw[<- Q9.wide e (arb he)];exact(aq6.1 hx).1
    have Tz:i<n+xs.length:=by have:=(aq6.1 he).1;simpa[hn]using this
    rw[Array.getElem?_append_left (by simp only[List.size_toArray];rw[Z6];exact qm Tz Ti)]at hu;exact Q9.rep i e j u x he (by simpa using hu) hx)
  refine⟨_,_,_,by rw[S3];exact O4,hI,?_,hm,⟨rfl,rfl⟩,by simpa using OZ,fun Qr SG k2 e2=>?_⟩
  ·exact⟨⟨rfl,rfl,rfl,by show w.heap.size<=(w.heap.push _).size;simp,fun b hb=>e_ w.drew _ (hi.bsz b hb)⟩,PH.sub_refl _,fun _ _ _=>rfl⟩
  ·rw[ars OZ]at e2;injection e2 with e2;injection e2 with q1 q2 q3;subst q1 q2 q3
   refine⟨aro _,fun _=>⟨by simp[hn],.arr w.heap.size cap,ars Xj,.inl ?_⟩⟩;simp
 match g,hg,Pn with
 |.none,hg,⟨⟨a0,S3,_⟩,RO,_⟩ =>
  have X4:es=[]:=hi.obj id _ _ hL hg;subst X4 RO;by_cases hm:xs.length=0
  ·have Yu:xs=[]:=arz hm
   subst Yu;have X5:news=[]:=arz (by rw[Wy];simp);rw[X5]at QE;have O4:=run_append_nothing (P:=P) w t tx ty E inf ht PE a0 0 0 (aro _) x QE;have UD:=SY .none (fun b e=>by cases e);have YL:γ.set id .none=γ:=by
    apply List.ext_getElem?;intro j;by_cases hj:j=id
    ·subst hj;rw[ars Xj,hg]
    ·rw[art (Ne.symm hj)]
   rw[YL]at UD;refine⟨v,w,γ,by rw[S3];exact O4,?_,Ext.refl _ _ _,UD,Z5,by simpa using OZ,fun Qr SG k2 e2=>?_⟩
   ·refine⟨by simp[hi.len],hi.val,fun j y h hy hh=>?_,hi.inj,hi.new,hi.bsz⟩
    by_cases hj:j=id
    ·subst hj
     rw[ars OZ]at hy;injection hy with hy;subst hy
     rw[hg]at hh;injection hh with hh;subst hh
     rfl
    ·rw[art (Ne.symm hj)]at hy
     exact(hi.obj j y h hy hh).mv UD (fun _ _=>rfl) (fun _ _ _ e=>e)
   ·rw[ars OZ]at e2;injection e2 with e2;injection e2 with q1 q2 q3;subst q1 q2 q3
    exact⟨aro _,fun _=>⟨m5,.none,hg,⟨a0,S3,fun h=>by omega⟩,rfl,rfl⟩⟩
  ·refine grow a0 0 [] S3 m0 (fun b e=>by cases e) ⟨m5,m5,fun i e j u x he=>by simp at he,m5⟩ ?_
   cases a0 with
   |none=>exact run_firstCells_none w.drew inf.size 0 0 0
   |some ad=>exact run_firstCells_some w.drew inf.size 0 ad 0 0 [] m5 (fun j u hu=>by simp at hu)
 |.arr b c,hg,Pn =>
  obtain⟨vs,E2,hb,WG,Py,Wv,hk,Pv,Uk⟩:=gk hi hL hg;have hc0:v = .slice (some ⟨b,0,none⟩) n c\/(c=0/\n=0 /\ ∃ a,v = .slice a 0 0):=by
   rcases Pn with Pn|⟨q1,q2,q3⟩
   ·left;rw[Pn];simp
   ·exact .inr ⟨q1,q2,q3⟩
  by_cases Rx:n+xs.length<=c
  ·have Xk:(n+xs.length)*k<=c*k:=arM _ Rx
   have RR:n*k+news.length=(n+xs.length)*k:=by rw[Wy,Nat.add_mul]
   obtain⟨T0,g1,g2,g3⟩:=gY b E2 (0,0) news (n*k) w vs hb m0;have YL:γ.set id (.arr b c)=γ:=by
    apply List.ext_getElem?;intro j;by_cases hj:j=id
    ·subst hj;rw[ars Xj,hg]
    ·rw[art (Ne.symm hj)]
   have UD:=SY (.arr b c) (fun b e=>by cases e);rw[YL]at UD;have SH:vs.toList.take (es.length*k)=vs.toList.take (n*k):=by rw[hn]
   rw[SH]at Pv;have Q9:=(Pv.app Q7).mv UD;have hI:Inv B R γ (L.set id (.row (OY+65536) (es++xs) k)) (w.setCells b (n*k) news):=by
    refine hi.turn hL hg rfl UD (fun b' Ph=>em b Ph _ _ _) (fW _ _ _ _) (fun _ _ _=>rfl) (fun o u h=>by rw[Uk o]at h;cases h) ?_;refine⟨⟨T0,E2,⟨g1,by rw[WG.1];show OY%65536=(OY+65536)%65536;omega,m0⟩,by rw[g2];exact Py,fun i e j u x he hu hx=>?_⟩,by rw[ard,hn];exact Rx,hk,Q9.wide,Uk⟩;have Ti:j<k:=by rw[<- Q9.wide e (arb he)];exact(aq6.1 hx).1
    have Tz:i<n+xs.length:=by have:=(aq6.1 he).1;simpa[hn]using this
    have QD:=qm Tz Ti;refine Q9.rep i e j u x he ?_ hx;rw[g3]at hu;have htl:(vs.toList.take (n*k)).length=n*k:=by simp;omega
    by_cases Tj:n*k<=i*k+j
    ·rw[if_pos m0]at hu
     rw[arc m0,htl];exact hu
    ·rw[if_neg m0]at hu
     rw[arl m0,arD,if_pos m0];simpa using hu
   have hE:Ext B R R w (w.setCells b (n*k) news):=⟨fh (hi.new id _ b hg rfl).1 _ _ _,PH.sub_refl _,fun _ _ _=>rfl⟩;rcases hc0 with Tf|⟨q1,q2,a,q3⟩
   ·have O4:=run_append_room_src (P:=P) (w:=w) t tx ty E inf ht PE b 0 n c x xs.length news QE Rx
     (fun j hj=>by
      rw[Qq,cob_ hb];have:0+n*k+j<vs.size:=m0
      rw[ary this];rfl)
     (fun j hj=>by simp[World.frozen?,hb])
    rw[Qq,arS]at O4;refine⟨_,_,γ,by rw[Tf];exact O4,hI,hE,UD,⟨rfl,rfl⟩,by simpa using OZ,fun Qr SG k2 e2=>?_⟩;rw[ars OZ]at e2;injection e2 with e2;injection e2 with p1 p2 p3;subst p1 p2 p3
    refine⟨aro _,fun _=>⟨by simp[hn],.arr b c,hg,.inl ?_⟩⟩;simp
   ·have Xl:xs.length=0:=m0
    have X5:news=[]:=arz (by rw[Wy,Xl];simp);rw[X5,Xl]at QE;have O4:=run_append_nothing (P:=P) w t tx ty E inf ht PE a 0 0 (aro _) x QE;rw[X5]at hI hE;refine⟨v,_,γ,by rw[q3];exact O4,hI,hE,UD,Z5,by simpa using OZ,fun Qr SG k2 e2=>?_⟩;rw[ars OZ]at e2;injection e2 with e2;injection e2 with p1 p2 p3;subst p1 p2 p3
    exact⟨aro _,fun _=>⟨by simp[hn],.arr b c,hg,.inr ⟨q1,m0,a,q3⟩⟩⟩
  ·rcases hc0 with Tf|⟨q1,q2,a,q3⟩
   ·refine grow _ c _ Tf m0 (fun b e=>by cases e) Pv ?_
    rw[Qq];refine run_firstCells_some w.drew k n ⟨b,0,none⟩ n c _ (by rw[Pv.len,hn]) (fun j u hu=>?_);rw[Addr.add_mid,arS];have YM:w.cell? ⟨b,j,none⟩=some u:=by
     rw[cob_ hb];have hj:=(aq6.1 hu).1;rw[arD]at hu;split at hu
     ·simpa using hu
     ·cases hu
    exact YM
   ·have X4:es=[]:=arz m0
    subst X4 q2;refine grow a 0 [] q3 m0 (fun b e=>by cases e) ⟨m5,m5,fun i e j u x he=>by simp at he,m5⟩ ?_
    cases a with
    |none=>exact run_firstCells_none w.drew inf.size 0 0 0
    |some ad=>exact run_firstCells_some w.drew inf.size 0 ad 0 0 [] m5 (fun j u hu=>by simp at hu)
end
def NJ (L:List Ob):AV->Option (List (List SV))
 |.one (.c (.str s))=>some (bq s)
 |.one (.sl id _ lo n)=>match L[id]? with
  |some (.row _ es _)=>some ((es.drop lo).take n)
  |_=>none
 |x=>(dD x).map fun es=>es.map (List.map SV.c)
def BP (ti:TI)(L:List Ob)(k:Nat)(tx:TypeId):AV->Prop
 |.one (.c (.str _))=>k=1/\ti.kind tx=some .string
 |.one (.sl id OY lo n)=>(ti.elem tx).isSome /\ ∃ es,L[id]?=some (.row OY es k)/\lo+n<=es.length
 |x=>(ti.elem tx).isSome /\ ∃ es,dD x=some es /\ ∀ e∈es,e.length=k
section
variable {P:Program} {ti:TI} {B:Nat->Prop} {N:Nat} {R:PH} {γ:List Gh} {L:List Ob} {w:World} {ρ:Operand->Option AV}
theorem af7 {k:Nat}{tx:TypeId}(O2:TIok P ti)(hi:Inv B R γ L w){x:AV}{u:Value}(hx:x.rep R γ L u){es:List (List AC)}(he:dD x=some es)(hw:∀ e∈es,e.length=k)(ht:(ti.elem tx).isSome) :
  ∃ news,Src P k tx u (es.map (List.map SV.c)).length news w/\fw R γ L k (es.map (List.map SV.c)) news:=by
 obtain⟨E,hE⟩:=arR.1 ht;have R6:=O2.elem _ _ hE;have:P.underlying tx=some (.slice E):=by
  unfold pE at R6;split at R6
  ·rename_i e h;injection R6 with R6;rw[h,R6]
  ·cases R6
 obtain⟨news,h1,h2⟩:=ajq (P:=P) this hi (jo hx he) hw;exact⟨news,by simpa using h1,fw.ofC h2⟩
theorem adO {k:Nat}{tx:TypeId}(O2:TIok P ti)(hi:Inv B R γ L w){x:AV}{u:Value}(hx:x.rep R γ L u){xs:List (List SV)}(h:NJ L x=some xs)(Qg:BP ti L k tx x) :
  ∃ news,Src P k tx u xs.length news w/\fw R γ L k xs news:=by
 unfold NJ at h;split at h
 ·rename_i s
  injection h with h;subst h
  obtain⟨rfl,hk⟩:=Qg
  cases hx;have hl:(bq s).length=s.size:=by unfold bq;rw[arj];simp
  exact⟨byteCells s,by rw[hl];exact Src.ofString w (O2.kind _ _ hk) s,fw.ofStr s⟩
 ·rename_i id OY lo n
  obtain⟨ht,es,hL,hle⟩:=Qg;rw[hL]at h;injection h with h;subst h
  obtain⟨E,hE⟩:=arR.1 ht;have R6:=O2.elem _ _ hE;have U7:P.underlying tx=some (.slice E):=by
   unfold pE at R6;split at R6
   ·rename_i e h;injection R6 with R6;rw[h,R6]
   ·cases R6
  obtain⟨_,OZ,PK⟩:=hx;obtain⟨_,g,hg,Pn⟩:=(PK _ es k hL).2 rfl;have hlen:((es.drop lo).take n).length=n:=by simp;omega
  match g,hg,Pn with
  |.none,hg,⟨⟨a,hu,_⟩,hn,Pj⟩ =>
   subst hu hn Pj;refine⟨[],?_,⟨m5,m5,fun i e j u x he=>by simp at he,m5⟩⟩
   cases a with
   |none=>simpa using Src.ofNil w U7 0
   |some ad=>simpa using Src.ofSlice w U7 ad 0 0 [] m5 (fun j u hu=>by simp at hu) m5
  |.arr b c,hg,Pn =>
   obtain⟨vs,E2,hb,WG,Py,Wv,hk,Pv,Uk⟩:=gk hi hL hg;by_cases RO:n=0
   ·subst RO
    refine⟨[],?_,⟨m5,m5,fun i e j u x he=>by simp at he,m5⟩⟩;have:∃ a c',u = .slice a 0 c':=by
     rcases Pn with Pn|⟨_,_,a,Pn⟩
     ·exact⟨_,_,Pn⟩
     ·exact⟨_,_,Pn⟩
    obtain⟨a,c',rfl⟩:=this
    cases a with
    |none=>simpa using Src.ofNil w U7 c'
    |some ad=>simpa using Src.ofSlice w U7 ad 0 c' [] m5 (fun j u hu=>by simp at hu) m5
   ·have Pn:u = .slice (some ⟨b,lo*k,none⟩) n (c-lo):=by
     rcases Pn with Pn|⟨_,h0,_⟩
     ·exact Pn
     ·exact absurd h0 RO
    subst Pn;have h1:lo*k+n*k<=es.length*k:=by rw[<- Nat.add_mul];exact arM _ hle
    have h2:es.length*k<=c*k:=arM _ Wv;have RU:∀ (j:Nat) u,(((vs.toList.take (es.length*k)).drop (lo*k)).take (n*k))[j]?=some u->j<n*k/\(vs.toList.take (es.length*k))[lo*k+j]?=some u:=by
     intro j u hu;rw[arD]at hu;split at hu
     ·rename_i hj;rw[arW]at hu;exact⟨hj,hu⟩
     ·cases hu
    have Wy:(((vs.toList.take (es.length*k)).drop (lo*k)).take (n*k)).length=n*k:=by simp;omega
    refine⟨((vs.toList.take (es.length*k)).drop (lo*k)).take (n*k),?_,⟨by rw[hlen];exact Wy,fun e he=>Pv.wide e (List.mem_of_mem_drop (asf he)),fun i e j u x he hu hx=>?_,fun u hu=>Pv.one u (List.mem_of_mem_drop (asf hu))⟩⟩
    ·rw[hlen]
     refine Src.ofSlice w U7 ⟨b,lo*k,none⟩ n (c-lo) _ Wy (fun j u hu=>?_) (fun u hu=>Pv.one u (List.mem_of_mem_drop (asf hu)));obtain⟨hj,hu⟩:=RU j u hu;rw[Addr.add_mid,cob_ hb];rw[arD]at hu;split at hu
     ·simpa using hu
     ·cases hu
    ·obtain⟨hj,hu⟩:=RU _ u hu
     rw[arD]at he;split at he
     ·rw[arW]at he
      refine Pv.rep (lo+i) e j u x he ?_ hx;rw[Nat.add_mul,Nat.add_assoc];exact hu
     ·cases he
 ·cases he:dD x with
  |none=>simp[he]at h
  |some es =>
   rw[he]at h;injection h with h;subst h
   unfold BP at Qg;split at Qg
   ·rename_i x1 _;exact absurd rfl (x1 _)
   ·rename_i h2;exact absurd rfl (h2 _ _ _ _)
   ·obtain⟨ht,Pz,h1,h2⟩:=Qg
    rw[he]at h1;injection h1 with h1;subst h1
    exact af7 O2 hi hx he h2 ht
theorem jZ (O2:TIok P ti){t E:TypeId}(h:ti.elem t=some E):P.underlying t=some (.slice E):=by
 have R6:=O2.elem _ _ h;unfold pE at R6;split at R6
 ·rename_i e h';injection R6 with R6;rw[h',R6]
 ·cases R6
theorem eh (O2:TIok P ti){s x:Operand}{t tx E:TypeId}{k by_ id OY n:Nat}{vx:AV}{es xs:List (List SV)}(hs:ρ s=some (.one (.sl id OY 0 n)))(hx:ρ x=some vx)(hL:L[id]?=some (.row OY es k))(SI:NJ L vx=some xs)(Qg:BP ti L k tx vx)
  (ht:ti.elem t=some E) (hE:OY%65536=E) (Py:ti.size E=some k) (U8:ti.zok E=true) (R7:ti.bytes E=some by_) (hk:0<k) (hn:es.length=n) (OU:(n+xs.length)*by_<=140737488355328) (Pl:n+xs.length<=140737488355328) :
  qW P ρ L (.call { callee := .builtin .append,args :=#[s,x],argTypes :=#[t,tx] }) (.one (.sl id (OY+65536) 0 (n+xs.length))) (L.set id (.row (OY+65536) (es++xs) k)):=by
 intro B R γ w ev o ho hi hρ QM;obtain⟨dst,op,type,pos,after,guard⟩:=o;simp only at ho;subst ho;obtain⟨news,h1,h2⟩:=adO (P:=P) (w:=w) (B:=B) O2 hi (hρ _ (by simp[Op.operands,Call.operands]) _ hx) SI Qg;obtain⟨u,w',γ',g1,g2,g3,g4,g5⟩:=akw (P:=P) (ty:=type) hi (jZ O2 ht) hk (O2.zok _ U8 _ (O2.size _ _ Py)) (O2.bytes _ _ R7) hE hL (hρ _ (by simp[Op.operands,Call.operands]) _ hs) hn h1 h2 OU Pl;refine⟨w',R,γ',.inl ⟨u,?_,g5⟩,g2,g3,g4⟩;simp[execOp,resolve,invoke,builtin,g1]
theorem Inv.rowTok (hi:Inv B R γ L w)(OY k:Nat):Inv B R (γ++[.none]) (L++[.row OY [] k]) w:=by
 have it:=hi.tok k;refine⟨by simp[hi.len],hi.val,fun i y g hy hg=>?_,it.inj,it.new,hi.bsz⟩;by_cases hid:i<L.length
 ·rw[arl hid]at hy
  rw[arl (by rw[hi.len];exact hid)]at hg;exact(hi.obj i y g hy hg).mv (Mv.push _ _ hi.len) (fun _ _=>rfl) (fun _ _ _ h=>h)
 ·have:i=L.length:=by have:=(aq6.1 hy).1;simp at this;omega
  subst this;rw[arc m0]at hy;rw[arc (by rw[hi.len];omega),hi.len]at hg;simp at hy hg;subst hy hg;rfl
theorem NG (O2:TIok P ti){s x:Operand}{t tx:TypeId}{E:Nat}{k by_:Nat}{vx:AV}{xs:List (List SV)}(hs:ρ s=some (.one .emp))(hx:ρ x=some vx)(SI:NJ L vx=some xs)(Qg:BP ti L k tx vx)
  (ht:ti.elem t=some E) (hE:E<65536) (Py:ti.size E=some k) (U8:ti.zok E=true) (R7:ti.bytes E=some by_) (hk:0<k) (h0:0<xs.length) (OU:xs.length*by_<=140737488355328) (Pl:xs.length<=140737488355328) :
  qW P ρ L (.call { callee := .builtin .append,args :=#[s,x],argTypes :=#[t,tx] }) (.one (.sl L.length (E+65536) 0 xs.length)) (L++[.row (E+65536) xs k]):=by
 intro B R γ w ev o ho hi hρ QM;obtain⟨dst,op,type,pos,after,guard⟩:=o;simp only at ho;subst ho;obtain⟨news,h1,h2⟩:=adO (P:=P) (w:=w) (B:=B) O2 hi (hρ _ (by simp[Op.operands,Call.operands]) _ hx) SI Qg;obtain⟨a,S3⟩:=(hρ _ (by simp[Op.operands,Call.operands]) _ hs);obtain⟨inf,z,PE,Rk,Qq,Uj⟩:=O2.zok _ U8 _ (O2.size _ _ Py);have PX:inf.bytes=by_:=by have QV:=O2.bytes _ _ R7;unfold kB at QV;rw[PE]at QV;simpa using QV
 have Yt:(Builtin.firstCells inf.size 0 (.slice a 0 0)).run P w.drew = .ok ([]:List Value).toArray w.drew:=by
  cases a with
  |none=>exact run_firstCells_none w.drew inf.size 0 0 0
  |some ad=>exact run_firstCells_some w.drew inf.size 0 ad 0 0 [] m5 (fun j u hu=>by simp at hu)
 have O4:=run_append_grow_src (P:=P) (w:=w) t tx type E inf z (jZ O2 ht) PE Rk a 0 0 [] Yt (ev x) xs.length news (by rw[Qq];exact h1) m0 m0 (by
   have h2:=nextslicecap_le (need:=0+xs.length) (old:=0) m0;have h3:Builtin.nextslicecap (0+xs.length) 0*inf.bytes<=2*(0+xs.length)*inf.bytes:=arM _ h2;rw[PX]at h3 ⊢;rw[Nat.mul_assoc,arS]at h3;rw[arS];omega)
 have Ry:=grownCap_ge w (0+xs.length) 0 E;generalize grownCap w (0+xs.length) 0 E=cap at O4 Ry;rw[arS]at O4 Ry;have hm:Mv R R γ (γ++[.arr w.heap.size cap]) L (L++[.row (E+65536) xs k]):=Mv.push _ _ hi.len;have Q9:=h2.mv hm;have Uo:Inv B R (γ++[.arr w.heap.size cap]) (L++[.row (E+65536) xs k]) (w.alloc (.cells (([]++news).toArray++Builtin.zeroCells z.cells (cap-xs.length)) E)):=by
  refine hi.push _ _ _ rfl ⟨⟨_,E,⟨dy w _,by show(E:Nat)=(E+65536)%65536;omega,by show 65536<=(E:Nat)+65536;omega⟩,?_,fun i e j u x he hu hx=>?_⟩,Ry,hk,Q9.wide,fun o=>hi.none_at o⟩
  ·rw[Array.size_append,size_zeroCells,Uj];simp only[List.size_toArray,ara];rw[Q9.len,<- Nat.add_mul];congr 1;omega
  ·have Ti:j<k:=by rw[<- Q9.wide e (arb he)];exact(aq6.1 hx).1
   have Tz:=(aq6.1 he).1;rw[Array.getElem?_append_left (by simp only[List.size_toArray,ara];rw[Q9.len];exact qm Tz Ti)]at hu;exact Q9.rep i e j u x he (by simpa using hu) hx
 refine⟨w.drew.alloc (.cells (([]++news).toArray++Builtin.zeroCells z.cells (cap-xs.length)) E),R,_,.inl ⟨.slice (some ⟨w.heap.size,0,none⟩) xs.length cap,by simp[execOp,resolve,invoke,builtin,S3,O4],⟨rfl,rfl⟩,m5,fun Qr SG k2 e2=>?_⟩,?_,⟨⟨rfl,rfl,rfl,by show w.heap.size<=(w.heap.push _).size;simp,fun b hb=>e_ w.drew _ (hi.bsz b hb)⟩,PH.sub_refl _,fun _ _ _=>rfl⟩,hm⟩
 ·rw[arc m0]at e2
  simp at e2;obtain⟨q1,q2,q3⟩:=e2;subst q1 q2 q3;refine⟨aro _,fun _=>⟨m5,.arr w.heap.size cap,by rw[<- hi.len];simp,.inl ?_⟩⟩;simp
 ·exact⟨Uo.len,fun b o u h=>Uo.val b o u h,fun i x g h1 h2=>(Uo.obj i x g h1 h2).mv Mv.refl (fun _ _=>rfl) (fun _ _ _ h=>h),Uo.inj,Uo.new,Uo.bsz⟩
theorem rI (O2:TIok P ti){l c:Operand}{t:TypeId}{E k by_:Nat}{m:Int}{kl kc:IntKind}(hl:ρ l=some (.one (.c (.int kl 0))))(hc:ρ c=some (.one (.c (.int kc m))))(ht:ti.elem t=some E)(Py:ti.size E=some k)(U8:ti.zok E=true)(R7:ti.bytes E=some by_)
  (hk:0<k) (h0:0<=m) (OU:(by_:Int)*m<=281474976710656) (Pl:m<=9223372036854775807) :
  qW P ρ L (.makeSlice t l c) (.one (.own [] L.length)) (L++[.spare 0 k]):=by
 intro B R γ w ev o ho hi hρ QM;obtain⟨dst,op,type,pos,after,guard⟩:=o;simp only at ho;subst ho;obtain⟨inf,z,PE,Rk,Qq,Uj⟩:=O2.zok _ U8 _ (O2.size _ _ Py);have PX:inf.bytes=by_:=by have QV:=O2.bytes _ _ R7;unfold kB at QV;rw[PE]at QV;simpa using QV
 have WH:=(hρ _ (by simp[Op.operands,Call.operands]) _ hl);have Rw:=(hρ _ (by simp[Op.operands,Call.operands]) _ hc);generalize hle:ev l=lv at WH;generalize Ur:ev c=cv at Rw
 cases WH;cases Rw;have O4:=run_make (P:=P) w t E inf z (jZ O2 ht) PE Rk kl kc 0 m (Int.le_refl _) h0 (by rw[PX];exact OU) Pl;have hm:Mv R R γ (γ++[.arr w.heap.size m.toNat]) L (L++[.spare 0 k]):=Mv.push _ _ hi.len;refine⟨w.alloc (.cells (madeCells z.cells (m.toNat*inf.size)) E),R,_,.inl ⟨.slice (some ⟨w.heap.size,0,none⟩) 0 m.toNat,by simp[execOp,hle,Ur,O4],dE _ _ _,m5,fun n2 k2 e2=>?_⟩,?_,⟨Kept.alloc hi.bsz _,PH.sub_refl _,fun _ _ _=>rfl⟩,hm⟩
 ·rw[arc m0]at e2
  simp at e2;obtain⟨q1,q2⟩:=e2;subst q1 q2;exact⟨m5,m5,fun _=>⟨.arr w.heap.size m.toNat,by rw[<- hi.len];simp,rfl⟩⟩
 ·exact hi.push _ _ _ rfl ⟨⟨_,E,dy w _,by rw[size_madeCells,Qq]⟩,m5,hk,fun o _=>hi.none_at o⟩
end
section
variable {P:Program} {ti:TI} {B:Nat->Prop} {N:Nat} {R:PH} {γ:List Gh} {L:List Ob} {w:World} {ρ:Operand->Option AV}
theorem o8 {E Eb k:Nat}{inf:TypeInfo}(PE:P.info? E=some inf)(hz:inf.zero=some (.agg #[.pointer none,.slice none 0 0]))(hE:E<65536)(hEb:Eb<65536)(hk:0<k) :
  qW P ρ L (.alloc E) (.one (.ep L.length (E+65536) 0 0)) (L++[.row (E+65536) [[.c (.nul .ptr),.sl (L.length+1) Eb 0 0]] 2,.row Eb [] k]):=by
 intro B R γ w ev o ho hi hρ QM;obtain⟨dst,op,type,pos,after,guard⟩:=o;simp only at ho;subst ho;have RI:=hi.rowTok Eb k;have O4:(execOp ev { dst,op := .alloc E,type,pos,after,guard }).run P w = .ok (.value (.pointer (some ⟨w.heap.size,0,none⟩))) (w.alloc (.cells #[.pointer none,.slice none 0 0] E)):=by
  simp[execOp,Instr.alloc,zeroValue,typeInfo,program,Sem.run,PE,hz,newVar,newRow,Value.cells]
 have UD:Mv R R γ (γ++[.arr w.heap.size 1,.none]) L (L++[.row (E+65536) [[.c (.nul .ptr),.sl (L.length+1) Eb 0 0]] 2,.row Eb [] k]):=by
  have h1:Mv R R γ (γ++[.arr w.heap.size 1]) L (L++[.row (E+65536) [[.c (.nul .ptr),.sl (L.length+1) Eb 0 0]] 2]):=Mv.push _ _ hi.len;have h2:Mv R R (γ++[.arr w.heap.size 1]) ((γ++[.arr w.heap.size 1])++[.none]) (L++[.row (E+65536) [[.c (.nul .ptr),.sl (L.length+1) Eb 0 0]] 2]) ((L++[.row (E+65536) [[.c (.nul .ptr),.sl (L.length+1) Eb 0 0]] 2])++[.row Eb [] k]):=Mv.push _ _ (by simp[hi.len]);have:=h1.trans h2;simpa using this
 have Pi:∀ j h,(γ++[Gh.arr w.heap.size 1,Gh.none])[j]?=some h->(j<L.length/\γ[j]?=some h)\/(j=L.length/\h = .arr w.heap.size 1)\/(j=L.length+1/\h = .none):=by
  intro j h hh;by_cases hj:j<γ.length
  ·rw[arl hj]at hh;exact .inl ⟨by rw[<- hi.len];exact hj,hh⟩
  ·rw[arc m0]at hh
   have OZ:=(aq6.1 hh).1;simp at OZ;have:j-γ.length=0\/j-γ.length=1:=m0
   rcases this with e|e<;>rw[e]at hh<;>simp at hh
   ·exact .inr (.inl ⟨by rw[<- hi.len];omega,hh.symm⟩)
   ·exact .inr (.inr ⟨by rw[<- hi.len];omega,hh.symm⟩)
 have hold:∀ b,b<w.heap.size->(w.alloc (.cells #[.pointer none,.slice none 0 0] E)).heap[b]?=w.heap[b]?:=fun b hb=>e_ w _ hb
 have esz:(w.alloc (.cells #[.pointer none,.slice none 0 0] E)).heap.size=w.heap.size+1:=by show(w.heap.push _).size=_;simp
 have VU:(SV.sl (L.length+1) Eb 0 0).rep R (γ++[Gh.arr w.heap.size 1,Gh.none]) (L++[.row (E+65536) [[.c (.nul .ptr),.sl (L.length+1) Eb 0 0]] 2,.row Eb [] k]) (.slice none 0 0):=by
  refine⟨⟨rfl,rfl⟩,m5,fun Qr SG k2 e2=>?_⟩;rw[arc m0]at e2;simp at e2;obtain⟨q1,q2,q3⟩:=e2;subst q1 q2 q3;exact⟨aro _,fun _=>⟨m5,.none,by rw[arc (by rw[hi.len];omega),hi.len];simp,⟨none,rfl,fun _=>rfl⟩,rfl,rfl⟩⟩
 refine⟨_,R,γ++[.arr w.heap.size 1,.none],.inl ⟨_,O4,⟨rfl,rfl⟩,m5,fun Qr SG k2 e2=>?_⟩,?_,⟨Kept.alloc hi.bsz _,PH.sub_refl _,fun _ _ _=>rfl⟩,UD⟩
 ·rw[arc m0]at e2
  simp at e2;obtain⟨q1,q2,q3⟩:=e2;subst q1 q2 q3;exact⟨aro _,fun _=>⟨m5,.arr w.heap.size 1,by rw[arc (by rw[hi.len];omega),hi.len];simp,rfl⟩⟩
 ·refine⟨by simp[hi.len],fun b o' u h=>?_,fun j y h hy hh=>?_,fun j1 j2 g1 g2 h1 h2 Ph b hb=>?_,fun j h b hh hb=>?_,fun b hb=>by have:=hi.bsz b hb;omega⟩
  ·have:=hi.lt h
   rw[<- hi.val _ _ _ h];exact World.cell?_of_block (w:=w) (hold b this)
  ·rcases Pi j h hh with⟨hj,Sv⟩|⟨rfl,rfl⟩|⟨rfl,rfl⟩
   ·rw[arl hj]at hy
    exact(hi.obj j y h hy Sv).mv UD (fun b hb=>hold b (hi.new j h b Sv hb).2) (fun _ _ _ e=>e)
   ·rw[arc m0]at hy
    simp at hy;subst hy;refine⟨⟨_,E,⟨dy w _,by show(E:Nat)=(E+65536)%65536;omega,m0⟩,rfl,fun i e j' u x he hu hx=>?_⟩,m5,m0,m5,fun o=>hi.none_at o⟩;have:i=0:=by have:=(aq6.1 he).1;simpa using this
    subst this;simp at he;subst he
    match j',hx with
    |0,hx=>simp at hx hu;subst hx hu;exact .nul .ptr _ rfl
    |1,hx=>simp at hx hu;subst hx hu;exact VU
    |j'+2,hx=>simp at hx
   ·rw[arc m0]at hy
    simp at hy;subst hy;rfl
  ·rcases Pi j1 g1 h1 with⟨a1,a2⟩|⟨a1,rfl⟩|⟨a1,rfl⟩<;>rcases Pi j2 g2 h2 with⟨b1,b2⟩|⟨b1,rfl⟩|⟨b1,rfl⟩
   ·exact hi.inj j1 j2 g1 g2 a2 b2 Ph b hb
   ·have:=(hi.new j1 g1 b a2 hb).2
    simp only[Gh.block,ne_eq,Option.some.injEq];omega
   ·exact fun e=>by cases e
   ·simp only[Gh.block,Option.some.injEq]at hb
    intro e;have:=(hi.new j2 g2 _ b2 e).2;omega
   ·omega
   ·exact fun e=>by cases e
   ·cases hb
   ·cases hb
   ·cases hb
  ·rcases Pi j h hh with⟨_,b2⟩|⟨_,rfl⟩|⟨_,rfl⟩
   ·have:=hi.new j h b b2 hb
    exact⟨this.1,m0⟩
   ·simp only[Gh.block,Option.some.injEq]at hb;subst hb
    exact⟨fun hB=>by have:=hi.bsz _ hB;omega,m0⟩
   ·cases hb
theorem I8 {id OY i off k:Nat}{es:List (List SV)}{u:Value}(hL:L[id]?=some (.row OY es k))(h:(SV.ep id OY i off).rep R γ L u):i<es.length /\ ∃ b c,γ[id]?=some (.arr b c)/\u = .pointer (some ⟨b,i*k+off,none⟩):=by
 obtain⟨_,_,PK⟩:=h;obtain⟨h1,g,hg,Pn⟩:=(PK _ es k hL).2 rfl
 match g,hg,Pn with
 |.arr b c,hg,Pn=>exact⟨h1,b,c,hg,Pn⟩
theorem Ly {e:TypeId}{s:Nat}(hs:P.cellsOf e=s)(h0:0<s)(count:Nat)(hn:1<=count):liesAt P P.depth e count 0 e 1=true:=by
 have hd:P.depth=(2*(P.types.size+Made.depth)+1)+1:=rfl;rw[hd];simp only[liesAt,Bool.or_eq_true];left;rw[hd];have:s≠0:=m0
 simp[rowAt,hs,hn,sameLayout,this]
theorem lP {s d t:TypeId}{x:Operand}{id OY k:Nat}{es:List (List SV)}{j:TypeInfo}(hx:ρ x=some (.one (.ep id OY 0 0)))(hL:L[id]?=some (.row OY es k))(hs:P.underlying s=some (.pointer t))(hd:P.underlying d=some .unsafePointer)(ht:P.info? t=some j)(hj:j.size≠0) :
  qW P ρ L (.convert s d x) (.one (.ep id OY 0 0)) L:=by
 intro B R γ w ev o ho hi hρ QM;obtain⟨dst,op,type,pos,after,guard⟩:=o;simp only at ho;subst ho;have Q2:=(hρ _ (by simp[Op.operands,Call.operands]) _ hx);obtain⟨OZ,b,c,hg,hu⟩:=I8 (R:=R) hL Q2;obtain⟨vs,E,hb,hE,Py,hle,hk,_,_⟩:=gk hi hL hg;have VH:w.shape? b=some (E,c*k):=by simp[World.shape?,hb,Py]
 have h1:1*k<=c*k:=arM _ m0;rw[hu]at Q2;refine⟨w,R,γ,.inl ⟨_,?_,Q2⟩,hi,Ext.refl _ _ _,Mv.refl⟩;have:=Lib.run_to_unsafe (P:=P) w (⟨b,0*k+0,none⟩:Addr) hs hd ht hj VH (by show 0*k+0<c*k;omega);simp only[Nat.zero_mul,arS,Nat.add_zero]at this hu ⊢;simp[execOp,hu,this]
theorem pM {s d:TypeId}{t:Nat}{x:Operand}{id OY k:Nat}{es:List (List SV)}{j:TypeInfo}(hx:ρ x=some (.one (.ep id OY 0 0)))(hL:L[id]?=some (.row OY es k))(hs:P.underlying s=some .unsafePointer)(hd:P.underlying d=some (.pointer t))(ht:P.info? t=some j)(hc:P.cellsOf t=k)(hE:OY%65536=t) :
  qW P ρ L (.convert s d x) (.one (.ep id OY 0 0)) L:=by
 intro B R γ w ev o ho hi hρ QM;obtain⟨dst,op,type,pos,after,guard⟩:=o;simp only at ho;subst ho;have Q2:=(hρ _ (by simp[Op.operands,Call.operands]) _ hx);obtain⟨OZ,b,c,hg,hu⟩:=I8 (R:=R) hL Q2;obtain⟨vs,E,hb,WG,Py,hle,hk,_,_⟩:=gk hi hL hg;have hEt:E=t:=by rw[WG.1];exact hE
 subst hEt;have VH:w.shape? b=some (E,c*k):=by simp[World.shape?,hb,Py]
 rw[hu]at Q2;refine⟨w,R,γ,.inl ⟨_,?_,Q2⟩,hi,Ext.refl _ _ _,Mv.refl⟩;have YN:liesAt P P.depth E (c*k/P.cellsOf E) 0 E 1=true:=by
  rw[hc,Nat.mul_div_cancel _ hk];exact Ly hc hk c m0
 have:=Lib.run_from_unsafe (P:=P) w (⟨b,0*k+0,none⟩:Addr) hs hd ht VH (by simpa using YN);simp only[Nat.zero_mul,arS,Nat.add_zero]at this hu ⊢;simp[execOp,hu,this]
theorem qU {f : FuncId} {fn : Func} {x : Operand} {ts : Array TypeId} {v : AV} (hx : ρ x = some v) (hf : P.funcs[f]? = some fn) (PP : (fn.name == "runtime.NumGoroutine") = false)
  (hb:fn.body.isNone=true) (hn:Extern.findNext fn=none) (he:Extern.find fn=some Extern.AbiNoEscape.same) :
  qW P ρ L (.call { callee := .value (.func f),args :=#[x],argTypes:=ts }) v L:=by
 intro B R γ w ev o ho hi hρ QM;obtain⟨dst,op,type,pos,after,guard⟩:=o;simp only at ho;subst ho;refine⟨w,R,γ,.inl ⟨ev x,?_,(hρ _ (by simp[Op.operands,Call.operands]) _ hx)⟩,hi,Ext.refl _ _ _,Mv.refl⟩;have:=run_callFunc_extern hf PP hb hn he #[ev x] w;rw[Lib.run_noEscape]at this;simp[execOp,resolve,Deferred.ofValue,QM.1,invoke,this,Result.andThen]
theorem Ah {t te:TypeId}(b:Option Addr)(ht:P.underlying t=some (.pointer te)):(binOp .eql t (.pointer b) (.pointer none)).run P w = .ok (.bool b.isNone) w:=by
 have h:∀ d:Nat,(Op.equalIn (d+1) t (.pointer b) (.pointer none)).run P w = .ok b.isNone w:=fun d=>by
  cases b<;>simp[Op.equalIn,run_underlying ht]
 simp only[binOp];rw[Sem.run_bind,show Op.equal t (.pointer b) (.pointer none)=Op.equalIn (9999+1) t (.pointer b) (.pointer none)from rfl,h];simp
theorem yR {t t' te:TypeId}{x y:Operand}(hx:ρ x=some (.one (.c (.nul .ptr))))(hy:ρ y=some (.one (.c (.nul .ptr))))(ht:P.underlying t=some (.pointer te)) :
  qW P ρ L (.binOp .eql t x y t') (.one (.c (.bool true))) L:=by
 intro B R γ w ev o ho hi hρ QM;obtain⟨dst,VI,type,pos,after,guard⟩:=o;simp only at ho;subst ho;have h1:=(hρ _ (by simp[Op.operands,Call.operands]) _ hx);have h2:=(hρ _ (by simp[Op.operands,Call.operands]) _ hy);generalize hex:ev x=ux at h1;generalize VX:ev y=uy at h2
 cases h1 with|nul _ _ e1=>cases h2 with|nul _ _ e2 =>
 subst e1 e2;have:=Ah (P:=P) (w:=w) none ht;exact⟨w,R,γ,.inl ⟨.bool true,by simp[execOp,hex,VX,eqGuard,Nul.val,this],.bool true⟩,hi,Ext.refl _ _ _,Mv.refl⟩
theorem sN {t t' te:TypeId}{x y:Operand}{id OY i off k:Nat}{es:List (List SV)}(hx:ρ x=some (.one (.ep id OY i off)))(hL:L[id]?=some (.row OY es k))(hy:ρ y=some (.one (.c (.nul .ptr))))(ht:P.underlying t=some (.pointer te)) :
  qW P ρ L (.binOp .eql t x y t') (.one (.c (.bool false))) L:=by
 intro B R γ w ev o ho hi hρ QM;obtain⟨dst,VI,type,pos,after,guard⟩:=o;simp only at ho;subst ho;obtain⟨_,b,c,_,hu⟩:=I8 (R:=R) hL (hρ _ (by simp[Op.operands,Call.operands]) _ hx);have h2:=(hρ _ (by simp[Op.operands,Call.operands]) _ hy);generalize VX:ev y=uy at h2
 cases h2 with|nul _ _ e2 =>
 subst e2;have:=Ah (P:=P) (w:=w) (some ⟨b,i*k+off,none⟩) ht;exact⟨w,R,γ,.inl ⟨.bool false,by simp[execOp,hu,VX,eqGuard,Nul.val,this],.bool false⟩,hi,Ext.refl _ _ _,Mv.refl⟩
theorem rN {t t' te:TypeId}{x y:Operand}{id OY i off k:Nat}{es:List (List SV)}{j:TypeInfo}(hx:ρ x=some (.one (.ep id OY i off)))(hL:L[id]?=some (.row OY es k))(hy:ρ y=some (.one (.ep id OY i off)))(ht:P.underlying t=some (.pointer te))(R6:P.info? te=some j) :
  qW P ρ L (.binOp .neq t x y t') (.one (.c (.bool false))) L:=by
 intro B R γ w ev o ho hi hρ QM;obtain⟨dst,VI,type,pos,after,guard⟩:=o;simp only at ho;subst ho;obtain⟨_,b,c,hg,hu⟩:=I8 (R:=R) hL (hρ _ (by simp[Op.operands,Call.operands]) _ hx);obtain⟨_,b',c',Q3,X3⟩:=I8 (R:=R) hL (hρ _ (by simp[Op.operands,Call.operands]) _ hy);rw[hg]at Q3;injection Q3 with Q3;injection Q3 with e1 e2;subst e1 e2
 refine⟨w,R,γ,.inl ⟨.bool false,?_,.bool false⟩,hi,Ext.refl _ _ _,Mv.refl⟩;have:=Lib.run_neq_ptr_same (P:=P) w (⟨b,i*k+off,none⟩:Addr) ht R6;simp[execOp,hu,X3,eqGuard,this]
theorem Ez {t t' te:TypeId}{x:Operand}{vx:AV}{e:List AC}{es:List (List AC)}(hx:ρ x=some vx)(hl:dD vx=some (e::es))(ht:P.underlying t=some (.slice te)) :
  qW P ρ L (.binOp .eql t x (.const (.slice none 0 0)) t') (.one (.c (.bool false))) L:=by
 intro B R γ w ev o ho hi hρ QM;obtain⟨dst,VI,type,pos,after,guard⟩:=o;simp only at ho;subst ho;have h1:=jo (hρ x (by simp[Op.operands]) _ hx) hl;generalize hex:ev x=ux at h1
 cases h1 with
 |lst a n c _ k cv b o hn hc hk ha hr he =>
  have h0:0<n:=by rw[<- hn];simp
  have ha':=ha h0;subst ha';refine⟨w,R,γ,.inl ⟨.bool false,?_,.bool false⟩,hi,Ext.refl _ _ _,Mv.refl⟩;have h:∀ d:Nat,(Op.equalIn (d+1) t (.slice (some ⟨b,o,none⟩) n c) (.slice none 0 0)).run P w = .ok false w:=fun d=>by
   simp[Op.equalIn,run_underlying ht]
  have h2:(binOp .eql t (.slice (some ⟨b,o,none⟩) n c) (.slice none 0 0)).run P w = .ok (.bool false) w:=by
   simp only[binOp];rw[Sem.run_bind,show Op.equal t (.slice (some ⟨b,o,none⟩) n c) (.slice none 0 0)=Op.equalIn (9999+1) t (.slice (some ⟨b,o,none⟩) n c) (.slice none 0 0)from rfl,h];simp
  simp[execOp,hex,QM.2,eqGuard,h2]
theorem uz {x:Operand}{ts:Array TypeId}{id OY n k:Nat}{es:List (List SV)}(hx:ρ x=some (.one (.sl id OY 0 n)))(hL:L[id]?=some (.row OY es k))(hn:0<n) :
  qW P ρ L (.call { callee := .builtin .unsafeSliceData,args :=#[x],argTypes:=ts }) (.one (.ep id OY 0 0)) L:=by
 intro B R γ w ev o ho hi hρ QM;obtain⟨dst,VI,type,pos,after,guard⟩:=o;simp only at ho;subst ho;obtain⟨Z5,OZ,PK⟩:=(hρ _ (by simp[Op.operands,Call.operands]) _ hx);obtain⟨hle,g,hg,Pn⟩:=(PK _ es k hL).2 rfl
 match g,hg,Pn with
 |.none,hg,⟨_,h0,_⟩=>omega
 |.arr b c,hg,Pn =>
  have Pn:ev x = .slice (some ⟨b,0*k,none⟩) n (c-0):=by
   rcases Pn with Pn|⟨_,h0,_⟩
   ·exact Pn
   ·omega
  obtain⟨vs,E,hb,WG,Py,Xk,hk,_,_⟩:=gk hi hL hg;have hc:c≠0:=m0
  refine⟨w,R,γ,.inl ⟨.pointer (some ⟨b,0,none⟩),?_,⟨rfl,rfl⟩,OZ,fun Qr SG k2 e2=>?_⟩,hi,Ext.refl _ _ _,Mv.refl⟩
  ·have:=Lib.run_unsafeSliceData_row (P:=P) w ts type (⟨b,0,none⟩:Addr) n c hc
   simp only[Nat.zero_mul,Nat.sub_zero]at Pn;simp[execOp,resolve,invoke,builtin,Pn,this]
  ·rw[hL]at e2;injection e2 with e2;injection e2 with q1 q2 q3;subst q1 q2 q3
   refine⟨aro _,fun _=>⟨m0,.arr b c,hg,?_⟩⟩;simp[aol]
theorem sF {x:Operand}{ts:Array TypeId}{id OY k:Nat}(hx:ρ x=some (.one (.sl id OY 0 0)))(hL:L[id]?=some (.row OY [] k))(hv:OY<65536) :
  qW P ρ L (.call { callee := .builtin .unsafeSliceData,args :=#[x],argTypes:=ts }) (.one (.c (.nul .ptr))) L:=by
 intro B R γ w ev o ho hi hρ QM;obtain⟨dst,VI,type,pos,after,guard⟩:=o;simp only at ho;subst ho;obtain⟨Z5,OZ,PK⟩:=(hρ _ (by simp[Op.operands,Call.operands]) _ hx);obtain⟨hle,g,hg,Pn⟩:=(PK _ [] k hL).2 rfl
 match g,hg,Pn with
 |.none,hg,⟨⟨a,hu,ha⟩,h0,_⟩ =>
  have ha':=ha hv;subst ha';exact⟨w,R,γ,.inl ⟨.pointer none,by have:=Lib.run_unsafeSliceData_nil (P:=P) w ts type 0 0;simp[execOp,resolve,invoke,builtin,hu,this],.nul .ptr _ rfl⟩,hi,Ext.refl _ _ _,Mv.refl⟩
 |.arr b c,hg,Pn =>
  obtain⟨vs,E,hb,WG,Py,Xk,hk,_,_⟩:=gk hi hL hg;omega
theorem mZ {x y:Operand}{pt it:TypeId}(hx:ρ x=some (.one (.c (.nul .ptr))))(hy:ρ y=some (.one (.c (.int .i64 0)))) :
  qW P ρ L (.call { callee := .builtin .unsafeString,args :=#[x,y],argTypes :=#[pt,it] }) (.one (.c (.str .empty))) L:=by
 intro B R γ w ev o ho hi hρ QM;obtain⟨dst,VI,type,pos,after,guard⟩:=o;simp only at ho;subst ho;have h1:=(hρ _ (by simp[Op.operands,Call.operands]) _ hx);have h2:=(hρ _ (by simp[Op.operands,Call.operands]) _ hy);generalize hex:ev x=ux at h1;generalize VX:ev y=uy at h2
 cases h1 with|nul _ _ e1 =>
 cases h2;subst e1;have:=Lib.run_unsafeString_none (P:=P) w pt it type none;exact⟨w,R,γ,.inl ⟨.string .empty,by simp[execOp,resolve,invoke,builtin,hex,VX,Nul.val,this],.str _⟩,hi,Ext.refl _ _ _,Mv.refl⟩
theorem oY {x y:Operand}{pt it:TypeId}{E id OY:Nat}{s:ByteArray}(hx:ρ x=some (.one (.ep id OY 0 0)))(hy:ρ y=some (.one (.c (.int .i64 s.size))))(hL:L[id]?=some (.row OY (bq s) 1))(hE:OY%65536=E)(hp:P.underlying pt=some (.pointer E))(hc:P.cellsOf E=1)
  (h0:0<s.size) (h63:s.size<=9223372036854775807) :
  qW P ρ L (.call { callee := .builtin .unsafeString,args :=#[x,y],argTypes :=#[pt,it] }) (.one (.c (.str s))) (L.set id .dead):=by
 intro B R γ w ev o ho hi hρ QM;obtain⟨dst,VI,type,pos,after,guard⟩:=o;simp only at ho;subst ho;obtain⟨_,b,c,hg,hu⟩:=I8 (R:=R) hL (hρ _ (by simp[Op.operands,Call.operands]) _ hx);have h2:=(hρ _ (by simp[Op.operands,Call.operands]) _ hy);generalize VX:ev y=uy at h2
 cases h2;obtain⟨vs,E2,hb,WG,Py,hle,hk,Pv,Uk⟩:=gk hi hL hg;have hEt:E2=E:=by rw[WG.1];exact hE
 subst hEt;have hlen:(bq s).length=s.size:=by unfold bq;rw[arj];simp
 have Vw:s.data.toList.length=s.size:=by simp
 have VH:w.shape? b=some (E2,c*1):=by simp[World.shape?,hb,Py]
 have O4:=Lib.run_unsafeString_row (P:=P) w pt it type E2 hp hc b (c*1) VH s.data.toList (by intro e;rw[e]at Vw;simp at Vw;omega) (by rw[Vw];omega) (by rw[Vw];omega) (fun j x hj=>by
  have WI:=(aq6.1 hj).1;rw[Addr.add_mid,arS,cob_ hb];have UC:j<vs.size:=by rw[Py];omega
  have hbr:(bq s)[j]?=some [.c (.int .u8 x.toNat)]:=by unfold bq;rw[arw,hj];rfl
  have:=Pv.rep j _ 0 vs[j] _ hbr (by
   rw[Nat.mul_one,Nat.add_zero,arD,if_pos m0];simp[UC]) rfl
  rw[ary UC];generalize vs[j]=vj at this
  cases this;rfl)
 rw[Vw]at O4;have hfr:∀ m,0<m->((∀ b',b'≠b->(w.freeze ⟨b,0,none⟩ m).heap[b']?=w.heap[b']?)/\(w.freeze ⟨b,0,none⟩ m).heap.size=w.heap.size)/\(w.freeze ⟨b,0,none⟩ m).os=w.os/\(w.freeze ⟨b,0,none⟩ m).tape=w.tape/\(w.freeze ⟨b,0,none⟩ m).output=w.output:=by
  intro m hm;have:m≠0:=m0
  refine⟨⟨fun b' Ph=>?_,?_⟩,?_,?_,?_⟩<;>simp only[World.freeze,hb]<;>simp[this];rw[Array.getElem?_modify];simp[Ne.symm Ph]
 obtain⟨⟨VK,WJ⟩,f1,f2,f3⟩:=hfr s.size h0;obtain⟨i1,i2⟩:=hi.kill hL hg rfl (fun b e=>by cases e) (R':=R) (w':=w.freeze ⟨b,0,none⟩ s.size) (PH.sub_refl _) VK WJ (fun _ _ _=>rfl) (fun o u e=>by rw[Uk o]at e;cases e);have R9:=(hi.new id _ b hg rfl).1;refine⟨_,R,_,.inl ⟨.string s,?_,.str s⟩,i1,⟨⟨?_,?_,?_,m0,fun b' P3=>VK b' (fun e=>R9 (by rw[<- e];exact P3))⟩,PH.sub_refl _,fun _ _ _=>rfl⟩,i2⟩
 ·have hs:(⟨s.data.toList.toArray⟩:ByteArray)=s:=by cases s;simp
  rw[hs]at O4;simp only[Nat.zero_mul,arS,Nat.add_zero]at hu;simp[execOp,resolve,invoke,builtin,hu,VX,O4]
 ·exact f1
 ·exact f2
 ·exact f3
end
open Go.RowKit
def ee:List (List SV)->Option (List (List AC))
 |[]=>some []
 |e::es=>match iM e,ee es with
  |some x,some xs=>some (x::xs)
  |_,_=>none
theorem pG:∀ {es:List (List SV)} {cs:List (List AC)},ee es=some cs->es.length=cs.length
 |[],cs,h=>by injection h with h;subst h;rfl
 |e::es,cs,h=>by
  unfold ee at h;split at h
  ·rename_i x xs hx SZ;injection h with h;subst h;simp[pG SZ]
  ·cases h
theorem jJ:∀ {es:List (List SV)} {cs:List (List AC)},ee es=some cs ->∀ (i:Nat) c,cs[i]?=some c ->∃ e,es[i]?=some e/\iM e=some c
 |[],cs,h=>by injection h with h;subst h;intro i c hc;simp at hc
 |e::es,cs,h=>by
  unfold ee at h;split at h
  ·rename_i x xs hx SZ
   injection h with h;subst h
   intro i c hc
   cases i with
   |zero=>simp at hc;subst hc;exact⟨e,rfl,hx⟩
   |succ i=>simp at hc;obtain⟨e',h1,h2⟩:=jJ SZ i c hc;exact⟨e',by simpa using h1,h2⟩
  ·cases h
theorem je:∀ (cs:List (List AC)),ee (cs.map (List.map SV.c))=some cs
 |[]=>rfl
 |c::cs=>by
  have h1:∀ l:List AC,iM (l.map SV.c)=some l:=by
   intro l
   induction l with
   |nil=>rfl
   |cons x l ih=>simp[iM,SV.norm,ih]
  simp[ee,h1,je cs]
section
variable {P:Program} {ti:TI} {B:Nat->Prop} {N n0:Nat} {R:PH} {γ:List Gh} {L:List Ob} {T:Tm} {w:World} {Q:AX->Tm->List Ob->Prop}
end
section
variable {P:Program} {ti:TI} {N n0:Nat} {L:List Ob} {T:Tm} {Q:AX->Tm->List Ob->Prop}
theorem nB {B:Nat->Prop}{R:PH}{γ:List Gh}{w:World}(hi:Inv B R γ L w){id OY k:Nat}{es:List (List SV)}{cs:List (List AC)}(hL:L[id]?=some (.row OY es k))(hn:ee es=some cs) :
  ∃ R' γ',Inv B R' γ' (L.set id .dead) w/\Ext B R R' w w/\Mv R R' γ γ' L (L.set id .dead) /\ ∀ lo n u,(SV.sl id OY lo n).rep R γ L u->bF R' u (.lst ((cs.drop lo).take n)):=by
 have OZ:id<L.length:=(aq6.1 hL).1;obtain⟨g,hg⟩:∃ g,γ[id]?=some g:=⟨_,arf (by rw[hi.len];exact OZ)⟩;have QP:=hi.obj id _ _ hL hg;have hlc:=pG hn
 match g,hg,QP with
 |.none,hg,QP =>
  have he:es=[]:=QP;subst he;injection hn with hn;subst hn
  have hm:Mv R R γ (γ.set id .none) L (L.set id .dead):=Mv.setOb (PH.sub_refl _) hi.len hL (fun b e=>by rw[hg]at e;cases e) (fun _ _ e=>by cases e) (fun _ _ _ e=>by cases e);have YL:γ.set id .none=γ:=by
   apply List.ext_getElem?;intro j;by_cases hj:j=id
   ·subst hj;rw[ars (by rw[hi.len];exact OZ),hg]
   ·rw[art (Ne.symm hj)]
  rw[YL]at hm;refine⟨R,γ,⟨by simp[hi.len],hi.val,fun j y h hy hh=>?_,hi.inj,hi.new,hi.bsz⟩,Ext.refl _ _ _,hm,fun lo n u hu=>?_⟩
  ·by_cases hj:j=id
   ·subst hj
    rw[ars OZ]at hy;injection hy with hy;subst hy
    rw[hg]at hh;injection hh with hh;subst hh
    trivial
   ·rw[art (Ne.symm hj)]at hy
    exact(hi.obj j y h hy hh).mv hm (fun _ _=>rfl) (fun _ _ _ e=>e)
  ·obtain⟨_,_,PK⟩:=hu
   obtain⟨_,g',Q3,Pn⟩:=(PK _ [] k hL).2 rfl;rw[hg]at Q3;injection Q3 with Q3;subst Q3
   obtain⟨⟨a0,rfl,_⟩,rfl,rfl⟩:=Pn;exact dE _ _ _
 |.arr b c,hg,QP =>
  obtain⟨vs,E,hb,hE,Py,hle,hk,Pv,Uk⟩:=gk hi hL hg;have Xk:es.length*k<=c*k:=arM _ hle;have QQ:∀ b' o u,R b' o=some u->(if b'=b/\o<es.length*k then vs[o]? else R b' o)=some u:=by
   intro b' o u h;by_cases hc:b'=b/\o<es.length*k
   ·exfalso;rw[hc.1,Uk]at h;cases h
   ·rw[if_neg hc];exact h
  let R':PH:=R.put (fun b' o=>if b'=b/\o<es.length*k then vs[o]? else R b' o) QQ
  have Q6:PH.sub R R':=QQ;obtain⟨i1,i2⟩:=hi.kill hL hg rfl (fun b e=>by cases e) (R':=R') (w':=w) Q6 (fun _ _=>rfl) rfl (fun b' o Ph=>by show(if b'=b/\o<es.length*k then vs[o]? else R b' o)=R b' o;rw[if_neg (fun h=>Ph h.1)])
   (fun o u h=>by
    have h:(if b=b/\o<es.length*k then vs[o]? else R b o)=some u:=h;rw[cob_ hb];by_cases hc:b=b/\o<es.length*k
    ·rw[if_pos hc]at h;exact h
    ·rw[if_neg hc,Uk]at h;cases h)
  have R9:=(hi.new id _ b hg rfl).1;refine⟨R',γ.set id .none,i1,⟨Kept.refl _ _,Q6,fun b' o P3=>?_⟩,i2,fun lo n u hu=>?_⟩
  ·show(if b'=b/\o<es.length*k then vs[o]? else R b' o)=R b' o
   rw[if_neg (fun h=>R9 (by rw[<- h.1];exact P3))]
  ·obtain⟨_,_,PK⟩:=hu
   obtain⟨hln,g',Q3,Pn⟩:=(PK _ es k hL).2 rfl;rw[hg]at Q3;injection Q3 with Q3;subst Q3
   have hlen:((cs.drop lo).take n).length=n:=by simp;omega
   have Rw:∃ a c',u = .slice a n c'/\n<=c'/\(0<n->a=some ⟨b,lo*k,none⟩):=by
    rcases Pn with Pn|⟨q1,q2,a,q3⟩
    ·exact⟨_,_,Pn,m0,fun _=>rfl⟩
    ·exact⟨a,0,by rw[q3,q2],m0,fun h=>by omega⟩
   obtain⟨a,c',rfl,Wv,ha⟩:=Rw;have h1:lo*k+n*k<=es.length*k:=by rw[<- Nat.add_mul];exact arM _ hln
   have YO:∀ (i:Nat) e,((cs.drop lo).take n)[i]?=some e->i<n /\ ∃ y,es[lo+i]?=some y/\iM y=some e:=by
    intro i e he;rw[arD]at he;split at he
    ·rename_i S0
     rw[arW]at he;obtain⟨y,g1,g2⟩:=jJ hn (lo+i) e he;exact⟨S0,y,g1,g2⟩
    ·cases he
   refine .lst a n c' _ k (fun j=>(vs[lo*k+j]?).getD Go.undef) b (lo*k) hlen Wv (fun e he=>?_) ha (fun j hj=>?_) (fun i e j x he hx=>?_)
   ·obtain⟨i,Ri⟩:=List.mem_iff_getElem?.1 he
    obtain⟨_,y,g1,g2⟩:=YO i e Ri;rw[eF g2];exact Pv.wide y (arb g1)
   ·have QD:lo*k+j<vs.size:=m0
    show(if b=b/\lo*k+j<es.length*k then vs[lo*k+j]? else R b (lo*k+j))=_;rw[if_pos ⟨rfl,m0⟩,ary QD];rfl
   ·obtain⟨S0,y,g1,g2⟩:=YO i e he
    have Ti:j<k:=by rw[<- Pv.wide y (arb g1),<- eF g2];exact(aq6.1 hx).1
    have hlt3:=qm S0 Ti;have QD:lo*k+(i*k+j)<vs.size:=m0
    have hyj:j<y.length:=by rw[Pv.wide y (arb g1)];exact Ti
    have hr:=Pv.rep (lo+i) y j vs[lo*k+(i*k+j)] _ g1 (by
     rw[arD,if_pos (by rw[Nat.add_mul];omega),Nat.add_mul,Nat.add_assoc];simp[QD]) (arf hyj)
    have:=SV.norm_rep hr (jp g2 j _ _ (arf hyj) hx);show bF R' ((vs[lo*k+(i*k+j)]?).getD Go.undef) x;rw[ary QD];exact bF.mono Q6 this
theorem jK {c:Code}(id t:Nat){OY k n:Nat}{es:List (List SV)}{cs:List (List AC)}(hL:L[id]?=some (.row OY es k))(hn:ee es=some cs)(ht:T.lookup t=some (.one (.sl id OY 0 n)))(hlen:cs.length=n)(h:Aw P N n0 c Q ((t,.one (.c (.lst cs)))::T) (L.set id .dead)):Aw P N n0 c Q T L:=by
 intro RO B R γ w a hi hT;obtain⟨R',γ',hI,hE,hM,hS⟩:=nB hi hL hn;refine wp_mono (h (by simpa using RO) B R' γ' w a hI ?_) fun _ _ _ hh=>hh.ext hE hi.len (nZ.of RO hM)
 refine⟨hT.size,hT.defers,fun t' x hx=>?_⟩;rw[List.lookup_cons]at hx;by_cases e:t'=t
 ·subst e
  simp at hx;subst hx;obtain⟨u,h1,h2⟩:=hT.slot t' _ ht;refine⟨u,h1,?_⟩;have:=hS 0 n u h2;rw[List.drop_zero,<- hlen,List.take_length]at this;exact this
 ·have:(t'==t)=false:=by simpa using e
  rw[this]at hx;obtain⟨u,h1,h2⟩:=hT.slot t' x hx;exact⟨u,h1,AV.mv hM h2⟩
end
section
variable {P:Program} {ti:TI} {B:Nat->Prop} {N n0:Nat} {R:PH} {γ:List Gh} {L:List Ob} {w:World} {ρ:Operand->Option AV} {T:Tm} {Q:AX->Tm->List Ob->Prop}
theorem Jc (O2:TIok P ti){l c:Operand}{t:TypeId}{E by_ n:Nat}{kl kc:IntKind}(hl:ρ l=some (.one (.c (.int kl (n:Int)))))(hc:ρ c=some (.one (.c (.int kc (n:Int)))))(ht:ti.elem t=some E)(hE:E<65536)(Py:ti.size E=some 1)(hz:ti.zero E=some (.one .emp))(U8:ti.zok E=true)(R7:ti.bytes E=some by_)
  (OU:(by_:Int)*(n:Int)<=281474976710656) (Pl:(n:Int)<=9223372036854775807) :
  qW P ρ L (.makeSlice t l c) (.one (.sl L.length (E+65536) 0 n)) (L++[.row (E+65536) (replicate n [.emp]) 1]):=by
 intro B R γ w ev o ho hi hρ QM;obtain⟨dst,op,type,pos,after,guard⟩:=o;simp only at ho;subst ho;obtain⟨inf,z,PE,Rk,Qq,Uj⟩:=O2.zok _ U8 _ (O2.size _ _ Py);have XW:=O2.zero _ _ hz;have hzv:∃ a,z = .slice a 0 0:=by
  unfold zeroOf at XW;rw[PE,aq5,Rk,aq5]at XW;exact AV.ofVal_rep (R:=R) (γ:=γ) (L:=L) XW
 obtain⟨za,rfl⟩:=hzv;have PX:inf.bytes=by_:=by have QV:=O2.bytes _ _ R7;unfold kB at QV;rw[PE]at QV;simpa using QV
 have WH:=(hρ _ (by simp[Op.operands,Call.operands]) _ hl);have Rw:=(hρ _ (by simp[Op.operands,Call.operands]) _ hc);generalize hle:ev l=lv at WH;generalize Ur:ev c=cv at Rw
 cases WH;cases Rw;have O4:=run_make (P:=P) w t E inf _ (jZ O2 ht) PE Rk kl kc (n:Int) (n:Int) m0 (Int.le_refl _) (by rw[PX];exact OU) Pl;have hm:Mv R R γ (γ++[.arr w.heap.size n]) L (L++[.row (E+65536) (replicate n [.emp]) 1]):=Mv.push _ _ hi.len;rw[Int.toNat_natCast,Qq,Nat.mul_one]at O4;refine⟨w.alloc (.cells (madeCells (Value.slice za 0 0).cells n) E),R,_,.inl ⟨.slice (some ⟨w.heap.size,0,none⟩) n n,by simp[execOp,hle,Ur,O4],⟨rfl,rfl⟩,m5,fun Qr SG k2 e2=>?_⟩,?_,⟨Kept.alloc hi.bsz _,PH.sub_refl _,fun _ _ _=>rfl⟩,hm⟩
 ·rw[arc m0]at e2
  simp at e2;obtain⟨q1,q2,q3⟩:=e2;subst q1 q2 q3;refine⟨aro _,fun _=>⟨m5,.arr w.heap.size n,by rw[<- hi.len];simp,.inl ?_⟩⟩;simp
 ·refine hi.push _ _ _ rfl ⟨⟨_,E,⟨dy w _,by show(E:Nat)=(E+65536)%65536;omega,by show 65536<=(E:Nat)+65536;omega⟩,by rw[size_madeCells,Nat.mul_one],fun i e j u x he hu hx=>?_⟩,m5,m0,by intro e he;rw[List.eq_of_mem_replicate he];rfl,fun o=>hi.none_at o⟩
  have he2:=List.eq_of_mem_replicate (arb he);subst he2;have hj:j=0:=by have:=(aq6.1 hx).1;simp at this;omega
  subst hj;simp at hx;subst hx;have TY:u∈(madeCells (Value.slice za 0 0).cells n).toList:=by
   rw[arU]at hu;obtain⟨h1,h2⟩:=hu;rw[<- h2];simp
  rw[show(Value.slice za 0 0).cells=#[Value.slice za 0 0]from rfl,toList_madeCells_one]at TY;rw[List.eq_of_mem_replicate TY];exact⟨za,rfl⟩
theorem ajD {c:Code}(id i k:Nat){OY:Nat}{es:List (List SV)}(hid:L[id]?=some (.row OY es 1))(he:es[i]?=some [.emp])(h:Aw P N n0 c Q T (L.set id (.row OY (es.set i [.own [] L.length]) 1)++[.spare 0 k])):Aw P N n0 c Q T L:=by
 intro hn B R γ w a hi hT;have OZ:=(aq6.1 hid).1;have hm:Mv R R γ (γ++[.none]) L (L.set id (.row OY (es.set i [.own [] L.length]) 1)++[.spare 0 k]):=by
  refine⟨PH.sub_refl _,m5,fun t n k' PL e=>⟨n,?_,aro _,fun _=>?_⟩,fun t O9 UB k' PL e=>?_,fun i b e=>?_⟩
  ·rw[arl (by simpa using PL)]at e
   have Ph:t≠id:=by rintro rfl;rw[ars PL]at e;cases e
   rw[art (Ne.symm Ph)]at e;exact e
  ·rw[arl (by rw[hi.len];exact PL)]
  ·rw[arl (by simpa using PL)]at e
   by_cases Ph:t=id
   ·subst Ph
    rw[ars PL]at e;injection e with e
    injection e with e1 e2 e3
    subst e1 e2 e3;exact⟨OY,es,hid,aro _,fun _=>⟨m5,arl (by rw[hi.len];exact PL)⟩⟩
   ·rw[art (Ne.symm Ph)]at e
    exact⟨O9,UB,e,aro _,fun _=>⟨rfl,arl (by rw[hi.len];exact PL)⟩⟩
  ·rw[arl (aq6.1 e).1];exact e
 refine wp_mono (h m8 B R (γ++[.none]) w a ?_ (hT.mv hm)) fun _ _ _ hh=>hh.ext (Ext.refl _ _ _) hi.len (nZ.of hn hm)
 have Pi:∀ j h,(γ++[Gh.none])[j]?=some h->(j=γ.length/\h = .none)\/(j<γ.length/\γ[j]?=some h):=by
  intro j h hh;by_cases hid:j<γ.length
  ·rw[arl hid]at hh;exact .inr ⟨hid,hh⟩
  ·have:j=γ.length:=by have:=(aq6.1 hh).1;simp at this;omega
   subst this;rw[arc m0]at hh;simp at hh;exact .inl ⟨rfl,hh.symm⟩
 have it:=hi.tok k;refine⟨by simp[hi.len],hi.val,fun q y g hy hg=>?_,it.inj,it.new,hi.bsz⟩;rcases Pi q g hg with⟨rfl,rfl⟩|⟨Xe,Q3⟩
 ·rw[arc (by simp[hi.len])]at hy
  simp[hi.len]at hy;subst hy;rfl
 ·rw[arl (by simp;rw[<- hi.len];exact Xe)]at hy
  by_cases UA:q=id
  ·subst UA
   rw[ars OZ]at hy;injection hy with hy;subst hy
   have QP:=hi.obj q _ _ hid Q3
   match g,QP with
   |.arr b cp,⟨⟨vs,E,h1,h2,h3⟩,h4,h5,h6,h7⟩ =>
    refine⟨⟨vs,E,h1,h2,fun i' e j u x QB hu hx=>?_⟩,by simpa using h4,h5,?_,h7⟩
    ·by_cases hq:i'=i
     ·subst hq
      rw[ars (aq6.1 he).1]at QB;injection QB with QB;subst QB
      have hj:j=0:=by have:=(aq6.1 hx).1;simp at this;omega
      subst hj;simp at hx;subst hx;obtain⟨ad,rfl⟩:=h3 i' _ 0 u .emp he hu rfl;exact⟨dE _ _ _,m5,fun n2 k2 _=>⟨m5,m5,fun _=>⟨.none,by rw[<- hi.len];simp,ad,m5⟩⟩⟩
     ·rw[art (Ne.symm hq)]at QB
      exact SV.mv hm (h3 i' e j u x QB hu hx)
    ·intro e QB
     rcases List.mem_or_eq_of_mem_set QB with h8|h8
     ·exact h6 e h8
     ·subst h8;rfl
   |.none,QP =>
    have Yq:es=[]:=QP;subst Yq;simp at he
  ·rw[art (Ne.symm UA)]at hy
   exact(hi.obj q y g hy Q3).mv hm (fun _ _=>rfl) (fun _ _ _ h=>h)
def k6:Nat->List (List (List AC))->List (List SV)
 |_,[]=>[]
 |t,es::ps=>[.own es t]::k6 (t+1) ps
def yz (k:Nat)(ps:List (List (List AC))):List Ob:=ps.map fun es => .spare es.length k
theorem NY:∀ (ps:List (List (List AC))) (t i:Nat) (es:List (List AC)),ps[i]?=some es->(k6 t ps)[i]?=some [.own es (t+i)]
 |[],t,i,es,h=>by simp at h
 |p::ps,t,0,es,h=>by simp at h;subst h;rfl
 |p::ps,t,i+1,es,h=>by
  have:=NY ps (t+1) i es (by simpa using h);show(k6 (t+1) ps)[i]?=_;rw[this,show t+1+i=t+(i+1)by omega]
theorem LC:∀ (ps:List (List (List AC))) (t i:Nat) (es:List (List AC)),(k6 t ps).set i [.own es (t+i)]=k6 t (ps.set i es)
 |[],t,i,es=>by simp[k6]
 |p::ps,t,0,es=>rfl
 |p::ps,t,i+1,es=>by
  have:=LC ps (t+1) i es;show [.own p t]::(k6 (t+1) ps).set i _=[.own p t]::k6 (t+1) (ps.set i es);rw[<- this,show t+(i+1)=t+1+i by omega]
theorem MQ:∀ (ps:List (List (List AC))) (t:Nat) (e:List SV),e∈k6 t ps ->∃ es i,i<ps.length/\e=[.own es (t+i)]
 |[],t,e,h=>by cases h
 |p::ps,t,e,h=>by
  rcases arp.1 h with h|h
  ·exact⟨p,0,m5,h⟩
  ·obtain⟨es,i,hi,h2⟩:=MQ ps (t+1) e h
   exact⟨es,i+1,by simp;omega,by rw[h2,show t+1+i=t+(i+1)by omega]⟩
theorem ID:∀ (ps:List (List (List AC))) (t:Nat),ee (k6 t ps)=some (ps.map fun es=>[.lst es])
 |[],t=>rfl
 |p::ps,t=>by
  have:=ID ps (t+1);show ee ([.own p t]::k6 (t+1) ps)=_;simp only[ee,this,iM,SV.norm,ari]
theorem acv (v:Nat)(ps:List (List (List AC)))(t n:Nat)(h:t+ps.length<=n):(Ob.row v (k6 t ps) 1).below n:=by
 intro e he x hx;obtain⟨es,i,hi,rfl⟩:=MQ ps t e he;simp at hx;subst hx;show t+i<n;omega
theorem adk {c:Code}(id k OY:Nat):∀ (n:Nat) (pre:List (List SV)) (L:List Ob),L[id]?=some (.row OY (pre++replicate n [.emp]) 1) ->
  Aw P N n0 c Q T (L.set id (.row OY (pre++k6 L.length (replicate n [])) 1)++yz k (replicate n []))->Aw P N n0 c Q T L
 |0,pre,L,hL,h=>by
  have e:L.set id (.row OY (pre++k6 L.length (replicate 0 [])) 1)++yz k (replicate 0 [])=L:=by
   obtain⟨h1,h2⟩:=aq6.1 hL;have:pre++k6 L.length (replicate 0 [])=pre++replicate 0 [SV.emp]:=rfl;rw[this,show yz k (replicate 0 [])=[]from rfl,arJ,<- h2,List.set_getElem_self]
  rw[e]at h;exact h
 |n+1,pre,L,hL,h=>by
  have OZ:=(aq6.1 hL).1;refine ajD id pre.length k hL (by simp[List.replicate_succ]) ?_;refine adk id k OY n (pre++[[.own [] L.length]]) _ (by
   rw[arl (by simpa using OZ),ars OZ,List.replicate_succ,List.set_append_right _ _ (aro _),Nat.sub_self,List.set_cons_zero,arA];rfl) ?_
  have e1:(L.set id (.row OY ((pre++replicate (n+1) [SV.emp]).set pre.length [.own [] L.length]) 1)++[Ob.spare 0 k]).length=L.length+1:=by simp
  rw[e1,List.set_append_left _ _ (by simpa using OZ),List.set_set,arA,arA];exact h
end
section
variable {P:Program} {ti:TI} {N:Nat} {ds:List (Option Tmp)} {K:Tm->List Ob->Prop} {rest:List Oper} {o:Oper} {T:Tm} {L:List Ob}
theorem aj' {t tx:TypeId}{s x:Operand}{es xs:List (List AC)}{i n k E by_ d:Nat}{vx:AV}{L':List Ob}(hd:o.dst=some d)(hN:Nat.blt d N=true)(hg:ge ds T o.guard=some true)(ho:o.op = .call { callee := .builtin .append,args :=#[s,x],argTypes :=#[t,tx] })
  (hs:look T s=some (.one (.own es i))) (hx:look T x=some vx) (hl:dD vx=some xs) (ht:ti.elem t=some E) (hk:ti.size E=some k) (hb:ti.bytes E=some by_) (hL:L[i]?=some (.spare n k))
  (hφ:(ti.elem tx).isSome/\k=k/\es.length=n/\(ti.zok E=true/\0<k)/\(∀ e∈xs,e.length=k)/\(n+xs.length)*by_<=140737488355328/\n+xs.length<=140737488355328) (VN:L.set i (.spare (n+xs.length) k)=L')
  (h:aI P ti N ds K rest ((d,.one (.own (es++xs) i))::T) L'):aI P ti N ds K (o::rest) T L:=by
 refine st_lop (v := .one (.own (es++xs) i)) hd hN hg ?_ hφ h;rw[ho];simp only[AH,hs,hx,sC,hl,ht,hk,hb,hL,VN]
end
def unC (id:Nat)(ts:List AC):Cap->Cap
 |.ptr i off=>if i=id then .c (.ref (ts.drop off))else .ptr i off
 |.c x => .c x
def unS (id:Nat)(ts:List AC):SV->SV
 |.ptr i off=>if i=id then .c (.ref (ts.drop off))else .ptr i off
 |.clo f caps=>match o_ (caps.map (unC id ts))with
  |some cs => .c (.fn f cs)
  |none => .clo f (caps.map (unC id ts))
 |x=>x
def unA (id:Nat)(ts:List AC):AV->AV
 |.one x => .one (unS id ts x)
 |.agg xs => .agg (xs.map (unS id ts))
 |v=>v
section
variable {P:Program} {ti:TI} {B:Nat->Prop} {N n0:Nat} {R:PH} {γ:List Gh} {L:List Ob} {T:Tm} {w:World} {Q:AX->Tm->List Ob->Prop}
theorem sa (hi:Inv B R γ L w){id:Nat}{cs:List SV}{ts:List AC}(hL:L[id]?=some (.box cs))(hn:iM cs=some ts) :
  ∃ R',Inv B R' γ (L.set id .dead) w/\Ext B R R' w w/\Mv R R' γ γ L (L.set id .dead) /\ ∀ off u,(SV.ptr id off).rep R γ L u->bF R' u (.ref (ts.drop off)):=by
 have OZ:id<L.length:=(aq6.1 hL).1;obtain⟨g,hg⟩:∃ g,γ[id]?=some g:=⟨_,arf (by rw[hi.len];exact OZ)⟩;have QP:=hi.obj id _ _ hL hg
 match g,hg,QP with
 |.box b,hg,QP =>
  obtain⟨⟨vs,E,hb,Py,RS⟩,Uk⟩:=QP;have QQ:∀ b' o u,R b' o=some u->(if b'=b then vs[o]? else R b' o)=some u:=by
   intro b' o u h;by_cases hc:b'=b
   ·exfalso;rw[hc,Uk]at h;cases h
   ·rw[if_neg hc];exact h
  let R':PH:=R.put (fun b' o=>if b'=b then vs[o]? else R b' o) QQ
  have Q6:PH.sub R R':=QQ;have VL:∀ o,R' b o=vs[o]?:=fun o=>by show(if b=b then vs[o]? else R b o)=_;rw[if_pos rfl]
  have Ww:∀ b' o,b'≠b->R' b' o=R b' o:=fun b' o h=>by show(if b'=b then vs[o]? else R b' o)=_;rw[if_neg h]
  have WL:∀ (t:Nat) x,(L.set id .dead)[t]?=some x->x ≠ .dead->L[t]?=some x:=by
   intro t x hx Ph;by_cases ht:t=id
   ·subst ht;rw[ars OZ]at hx;injection hx with hx;exact absurd hx.symm Ph
   ·rwa[art (Ne.symm ht)]at hx
  have hm:Mv R R' γ γ L (L.set id .dead):=⟨QQ,m5,fun t n' k _ h=>⟨n',WL t _ h (fun e=>by cases e),aro _,fun _=>rfl⟩,fun t OY es k _ h=>⟨OY,es,WL t _ h (fun e=>by cases e),aro _,fun _=>⟨rfl,rfl⟩⟩,fun _ _ h=>h⟩;have R9:=(hi.new id _ b hg rfl).1;refine⟨R',⟨by simp[hi.len],fun b' o u h=>?_,fun j y h hy hh=>?_,hi.inj,hi.new,hi.bsz⟩,⟨Kept.refl _ _,QQ,fun b' o P3=>Ww b' o (fun e=>R9 (e▸P3))⟩,hm,fun off u hu=>?_⟩
  ·by_cases hc:b'=b
   ·subst hc;rw[VL]at h;rw[cob_ hb];exact h
   ·rw[Ww _ _ hc]at h;exact hi.val _ _ _ h
  ·by_cases hj:j=id
   ·subst hj
    rw[ars OZ]at hy;injection hy with hy;subst hy
    rw[hg]at hh;injection hh with hh;subst hh
    trivial
   ·rw[art (Ne.symm hj)]at hy
    exact(hi.obj j y h hy hh).mv hm (fun _ _=>rfl) (fun b' o P3 e=>by rw[Ww b' o (fun e'=>hi.inj j id h _ hh hg hj b' P3 (by rw[e'];rfl))];exact e)
  ·obtain⟨b2,rfl,Pl⟩:=hu
   rw[hg]at Pl;injection Pl with Pl;injection Pl with Pl;subst Pl
   have hlen:=eF hn;refine .ref b off (ts.drop off) (fun j=>(vs[off+j]?).getD Go.undef) (fun j hj=>?_) (fun j x hx=>?_)
   ·have QD:off+j<vs.size:=by rw[List.length_drop]at hj;omega
    rw[VL,ary QD];rfl
   ·rw[arW]at hx
    have hlt3:off+j<ts.length:=(aq6.1 hx).1;have QD:off+j<vs.size:=m0
    have hcj:off+j<cs.length:=m0
    show bF R' ((vs[off+j]?).getD Go.undef) x;rw[ary QD];exact bF.mono Q6 (SV.norm_rep (RS (off+j) _ _ (ary QD) (arf hcj)) (jp hn (off+j) _ _ (arf hcj) hx))
theorem alY {R':PH}{L':List Ob}{id:Nat}{ts:List AC}(hS:∀ off u,(SV.ptr id off).rep R γ L u->bF R' u (.ref (ts.drop off)))(hM:Mv R R' γ γ L L'){x:Cap}{u:Value}(h:x.rep R γ u):(unC id ts x).rep R' γ u:=by
 cases x with
 |c x=>exact Cap.mv hM.sub hM.ptr h
 |ptr i off =>
  unfold unC;dsimp only;split
  ·rename_i e;subst e;exact hS off u h
  ·exact Cap.mv hM.sub hM.ptr h
theorem acY {R':PH}{L':List Ob}{id:Nat}{ts:List AC}(hS:∀ off u,(SV.ptr id off).rep R γ L u->bF R' u (.ref (ts.drop off)))(hM:Mv R R' γ γ L L'){x:SV}{u:Value}(h:x.rep R γ L u):(unS id ts x).rep R' γ L' u:=by
 cases x with
 |ptr i off =>
  unfold unS;dsimp only;split
  ·rename_i e;subst e;exact hS off u h
  ·exact SV.mv hM h
 |clo f caps =>
  obtain⟨vs,rfl,Py,hc⟩:=h;have X7:∀ (j:Nat) u x,vs[j]?=some u->(caps.map (unC id ts))[j]?=some x->x.rep R' γ u:=by
   intro j u x hu hx;rw[arw]at hx
   cases hy:caps[j]? with
   |none=>rw[hy]at hx;cases hx
   |some y=>rw[hy]at hx;cases hx;exact alY hS hM (hc j u y hu hy)
  unfold unS;dsimp only;split
  ·rename_i cs SH
   have hl:=zm SH;rw[arj]at hl;exact .fn f vs cs (by rw[Py,hl]) (fun j v x hv hx=>X7 j v (.c x) hv (yf SH j x hx))
  ·exact⟨vs,rfl,by rw[Py,arj],X7⟩
 |c x=>exact SV.mv hM h
 |emp=>exact SV.mv (x := .emp) hM h
 |own es t=>exact SV.mv (x := .own es t) hM h
 |sl i v l n=>exact SV.mv (x := .sl i v l n) hM h
 |ep i v j o=>exact SV.mv (x := .ep i v j o) hM h
 |mp i=>exact SV.mv (x := .mp i) hM h
theorem aeg {R':PH}{L':List Ob}{id:Nat}{ts:List AC}(hS:∀ off u,(SV.ptr id off).rep R γ L u->bF R' u (.ref (ts.drop off)))(hM:Mv R R' γ γ L L'){x:AV}{u:Value}(h:x.rep R γ L u):(unA id ts x).rep R' γ L' u:=by
 cases x with
 |one x=>exact acY hS hM h
 |agg xs =>
  obtain⟨vs,rfl,Py,hc⟩:=h;refine⟨vs,rfl,by rw[Py,arj],fun j u x hu hx=>?_⟩;rw[arw]at hx
  cases hy:xs[j]? with
  |none=>rw[hy]at hx;cases hx
  |some y=>rw[hy]at hx;cases hx;exact acY hS hM (hc j u y hu hy)
 |tup ps=>exact AV.mv (x := .tup ps) hM h
 |tupS xs=>exact AV.mv (x := .tupS xs) hM h
 |undef=>exact AV.mv (x := .undef) hM h
theorem kp {f:AV->AV}:∀ {T:Tm} {t:Nat} {x:AV},(T.map fun p=>(p.1,f p.2)).lookup t=some x ->∃ y,T.lookup t=some y/\x=f y
 |[],t,x,h=>by cases h
 |p::T,t,x,h=>by
  rw[ari,List.lookup_cons]at h;rw[List.lookup_cons];by_cases e:t=p.1
  ·subst e;simp at h;exact⟨p.2,m5,h.symm⟩
  ·have e':(t==p.1)=false:=by simpa using e
   rw[e']at h ⊢;exact kp h
theorem aS {c:Code}(id:Nat){cs:List SV}{ts:List AC}(hL:L[id]?=some (.box cs))(hn:iM cs=some ts)(h:Aw P N n0 c Q (T.map fun p=>(p.1,unA id ts p.2)) (L.set id .dead)):Aw P N n0 c Q T L:=by
 intro RO B R γ w a hi hT;obtain⟨R',hI,hE,hM,hS⟩:=sa hi hL hn;refine wp_mono (h (by simpa using RO) B R' γ w a hI ?_) fun _ _ _ hh=>hh.ext hE hi.len (nZ.of RO hM)
 refine⟨hT.size,hT.defers,fun t x hx=>?_⟩;obtain⟨y,hy,rfl⟩:=kp hx;obtain⟨u,h1,h2⟩:=hT.slot t y hy;exact⟨u,h1,aeg hS hM h2⟩
def thS (id OY:Nat)(cs:List (List AC)):SV->SV
 |.sl Vu O9 lo n=>if Vu=id/\O9=OY then .c (.lst ((cs.drop lo).take n))else .sl Vu O9 lo n
 |x=>x
def thA (id OY:Nat)(cs:List (List AC)):AV->AV
 |.one x => .one (thS id OY cs x)
 |.agg xs => .agg (xs.map (thS id OY cs))
 |v=>v
theorem A_ {R':PH}{γ':List Gh}{L':List Ob}{id OY:Nat}{cs:List (List AC)}(hS:∀ lo n u,(SV.sl id OY lo n).rep R γ L u->bF R' u (.lst ((cs.drop lo).take n)))(hM:Mv R R' γ γ' L L'){x:SV}{u:Value}(h:x.rep R γ L u):(thS id OY cs x).rep R' γ' L' u:=by
 cases x with
 |sl i v l n =>
  unfold thS;dsimp only;split
  ·rename_i e;obtain⟨rfl,rfl⟩:=e;exact hS l n u h
  ·exact SV.mv hM h
 |c x=>exact SV.mv hM h
 |emp=>exact SV.mv (x := .emp) hM h
 |own es t=>exact SV.mv (x := .own es t) hM h
 |ptr i o=>exact SV.mv (x := .ptr i o) hM h
 |ep i v j o=>exact SV.mv (x := .ep i v j o) hM h
 |mp i=>exact SV.mv (x := .mp i) hM h
 |clo f caps=>exact SV.mv (x := .clo f caps) hM h
theorem qp {c:Code}(id:Nat){OY k:Nat}{es:List (List SV)}{cs:List (List AC)}(hL:L[id]?=some (.row OY es k))(hn:ee es=some cs)(h:Aw P N n0 c Q (T.map fun p=>(p.1,thA id OY cs p.2)) (L.set id .dead)):Aw P N n0 c Q T L:=by
 intro RO B R γ w a hi hT;obtain⟨R',γ',hI,hE,hM,hS⟩:=nB hi hL hn;refine wp_mono (h (by simpa using RO) B R' γ' w a hI ?_) fun _ _ _ hh=>hh.ext hE hi.len (nZ.of RO hM)
 refine⟨hT.size,hT.defers,fun t x hx=>?_⟩;obtain⟨y,hy,rfl⟩:=kp hx;obtain⟨u,h1,h2⟩:=hT.slot t y hy;refine⟨u,h1,?_⟩
 cases y with
 |one x=>exact A_ hS hM h2
 |agg xs =>
  obtain⟨vs,rfl,Py,hc⟩:=h2;refine⟨vs,rfl,by rw[Py,arj],fun j u x hu hx=>?_⟩;rw[arw]at hx
  cases hy:xs[j]? with
  |none=>rw[hy]at hx;cases hx
  |some y=>rw[hy]at hx;cases hx;exact A_ hS hM (hc j u y hu hy)
 |tup ps=>exact AV.mv (x := .tup ps) hM h2
 |tupS xs=>exact AV.mv (x := .tupS xs) hM h2
 |undef=>exact AV.mv (x := .undef) hM h2
end
