/- Parts. No condition. -/
import Derived.Test.YtlcceppoloaecaaGreatDoorKAE
import Derived.Laws.MakeOwn
import Derived.Lib.UnsafeStr
import Derived.Lib.Builder
import Derived.Laws.OwnMore
set_option linter.unusedSimpArgs false
set_option linter.unusedVariables false
namespace Go.Proofs.YtlcceppoloaecaaGreatDoor
open _root_.List (replicate)
open Go.RowKit Go.MapKept
structure fk (R:PH)(γ:List Gh)(L:List Ob)(k:Nat)(xs:List (List SV))(news:List Value):Prop where
 len:news.length=xs.length*k
 wide:∀ e∈xs,e.length=k
 rep:∀ (i:Nat) e (j:Nat) u x,xs[i]?=some e->news[i*k+j]?=some u->e[j]?=some x->x.rep R γ L u
 one:∀ u∈news,u.oneCell'=true
def bp (s:ByteArray):List (List SV):=s.data.toList.map fun b=>[.c (.int .u8 b.toNat)]
section
variable {P:Program} {ti:TI} {B:Nat->Prop} {N:Nat} {R:PH} {γ:List Gh} {L:List Ob} {w:World} {ρ:Operand->Option AV}
theorem Mv.setOb {id:Nat}{x x':Ob}{g':Gh}{R':PH}(hs:PH.sub R R')(hl:γ.length=L.length)(hx:L[id]?=some x)(SC:∀ b,γ[id]?≠some (.box b))(htok:∀ n k,x' ≠ .spare n k)(UK:∀ Pl Pv k,x' = .row Pl Pv k ->∃ OY es,x = .row OY es k/\OY<Pl) :
  Mv R R' γ (γ.set id g') L (L.set id x'):=by
 have O0:id<L.length:=(ap_.1 hx).1;refine⟨hs,m5,fun t n k _ h=>?_,fun t OY es k _ h=>?_,fun j b h=>?_⟩
 ·by_cases e:t=id
  ·subst e;rw[aqs O0]at h;injection h with h;exact absurd h (htok n k)
  ·rw[aqt (Ne.symm e)]at h;exact⟨n,h,aqo _,fun _=>by rw[aqt (Ne.symm e)]⟩
 ·by_cases e:t=id
  ·subst e;rw[aqs O0]at h;injection h with h
   obtain⟨v0,e0,h1,h2⟩:=UK OY es k h;exact⟨v0,e0,by rw[hx,h1],m0,fun q=>by omega⟩
  ·rw[aqt (Ne.symm e)]at h;exact⟨OY,es,h,aqo _,fun _=>⟨rfl,by rw[aqt (Ne.symm e)]⟩⟩
 ·have:j≠id:=by rintro rfl;exact SC b h
  rw[aqt (Ne.symm this)];exact h
theorem Inv.rehome (hi:Inv B R γ L w){id:Nat}{x x':Ob}{g':Gh}(hx:L[id]?=some x)(Q0:g'.block=some w.heap.size)(o:Obj)(hm:Mv R R γ (γ.set id g') L (L.set id x'))
  (Qz:lc R (γ.set id g') (L.set id x') (w.drew.alloc o) x' g'):Inv B R (γ.set id g') (L.set id x') (w.drew.alloc o):=by
 have O0:id<L.length:=(ap_.1 hx).1;have Pj:∀ j h,(γ.set id g')[j]?=some h->(j=id/\h=g')\/(j≠id/\γ[j]?=some h):=by
  intro j h hh;by_cases hj:j=id
  ·subst hj
   rw[aqs (by rw[hi.len];exact O0)]at hh;injection hh with hh
   exact .inl ⟨rfl,hh.symm⟩
  ·rw[aqt (Ne.symm hj)]at hh
   exact .inr ⟨hj,hh⟩
 have hold:∀ b,b<w.heap.size->(w.drew.alloc o).heap[b]?=w.heap[b]?:=fun b hb=>eT w.drew _ hb
 have esz:(w.drew.alloc o).heap.size=w.heap.size+1:=by show(w.heap.push _).size=_;simp
 refine⟨by simp[hi.len],fun b o' u h=>?_,fun j y h hy hh=>?_,fun j1 j2 g1 g2 h1 h2 Pn b hb=>?_,fun j h b hh hb=>?_,fun b hb=>by have:=hi.bsz b hb;omega⟩
 ·have:=hi.lt h
  rw[<- hi.val _ _ _ h];exact World.cell?_of_block (w:=w) (hold b this)
 ·rcases Pj j h hh with⟨rfl,rfl⟩|⟨Pn,SR⟩
  ·rw[aqs O0]at hy
   injection hy with hy;subst hy
   exact Qz
  ·rw[aqt (Ne.symm Pn)]at hy
   exact(hi.obj j y h hy SR).mv hm (fun b hb=>hold b (hi.new j h b SR hb).2) (fun _ _ _ e=>e)
 ·rcases Pj j1 g1 h1 with⟨a1,rfl⟩|⟨a1,a2⟩<;>rcases Pj j2 g2 h2 with⟨b1,rfl⟩|⟨b1,b2⟩
  ·omega
  ·rw[Q0]at hb;injection hb with hb;subst hb
   intro e;have:=(hi.new j2 g2 _ b2 e).2;omega
  ·have:=(hi.new j1 g1 b a2 hb).2
   rw[Q0];simp;omega
  ·exact hi.inj j1 j2 g1 g2 a2 b2 Pn b hb
 ·rcases Pj j h hh with⟨_,rfl⟩|⟨_,b2⟩
  ·rw[Q0]at hb;injection hb with hb;subst hb
   exact⟨fun hB=>by have:=hi.bsz _ hB;omega,m0⟩
  ·have:=hi.new j h b b2 hb
   exact⟨this.1,m0⟩
theorem Inv.kill (hi:Inv B R γ L w){id:Nat}{x:Ob}{g:Gh}{b:Nat}(hx:L[id]?=some x)(hg:γ[id]?=some g)(hb:g.block=some b)(SC:∀ b,g ≠ .box b){R':PH}{w':World}(hs:PH.sub R R')
  (hw:∀ b',b'≠b->w'.heap[b']?=w.heap[b']?) (PN:w'.heap.size=w.heap.size) (hR:∀ b' o,b'≠b->R' b' o=R b' o) (hv:∀ o u,R' b o=some u->w'.cell? ⟨b,o,none⟩=some u) :
  Inv B R' (γ.set id .none) (L.set id .dead) w'/\Mv R R' γ (γ.set id .none) L (L.set id .dead):=by
 have O0:id<L.length:=(ap_.1 hx).1;have hm:Mv R R' γ (γ.set id .none) L (L.set id .dead):=Mv.setOb hs hi.len hx (fun b e=>by rw[hg]at e;injection e with e;exact SC b e) (fun _ _ e=>by cases e) (fun _ _ _ e=>by cases e);have Pj:∀ j h,(γ.set id Gh.none)[j]?=some h->(j=id/\h = .none)\/(j≠id/\γ[j]?=some h):=by
  intro j h hh;by_cases hj:j=id
  ·subst hj
   rw[aqs (by rw[hi.len];exact O0)]at hh;injection hh with hh
   exact .inl ⟨rfl,hh.symm⟩
  ·rw[aqt (Ne.symm hj)]at hh
   exact .inr ⟨hj,hh⟩
 refine⟨⟨by simp[hi.len],fun b' o u h=>?_,fun j y h hy hh=>?_,fun j1 j2 g1 g2 h1 h2 Pn b' Qa=>?_,fun j h b' hh Qa=>?_,fun b' Qa=>by rw[PN];exact hi.bsz b' Qa⟩,hm⟩
 ·by_cases Us:b'=b
  ·subst Us;exact hv o u h
  ·rw[hR b' o Us]at h
   rw[<- hi.val _ _ _ h];exact World.cell?_of_block (w:=w) (hw b' Us)
 ·rcases Pj j h hh with⟨rfl,rfl⟩|⟨Pn,SR⟩
  ·rw[aqs O0]at hy
   injection hy with hy;subst hy
   trivial
  ·rw[aqt (Ne.symm Pn)]at hy
   have Y2:∀ b',h.block=some b'->b'≠b:=fun b' Qa e=>hi.inj j id h g SR hg Pn b' Qa (by rw[hb,e])
   exact(hi.obj j y h hy SR).mv hm (fun b' Qa=>hw b' (Y2 b' Qa)) (fun b' o Qa e=>by rw[hR b' o (Y2 b' Qa)];exact e)
 ·rcases Pj j1 g1 h1 with⟨a1,rfl⟩|⟨a1,a2⟩<;>rcases Pj j2 g2 h2 with⟨b1,rfl⟩|⟨b1,b2⟩
  ·omega
  ·cases Qa
  ·exact fun e=>by cases e
  ·exact hi.inj j1 j2 g1 g2 a2 b2 Pn b' Qa
 ·rcases Pj j h hh with⟨_,rfl⟩|⟨_,b2⟩
  ·cases Qa
  ·rw[PN];exact hi.new j h b' b2 Qa
theorem fk.ofC {k:Nat}{xs:List (List AC)}{news:List Value}(h:Cells R k xs news):fk R γ L k (xs.map (List.map SV.c)) news:=by
 refine⟨by rw[h.len];simp,fun e he=>?_,fun i e j u x he hu hx=>?_,h.one⟩
 ·obtain⟨y,hy,rfl⟩:=aqJ.1 he;simpa using h.wide y hy
 ·rw[aqw]at he
  cases hq:xs[i]? with
  |none=>simp[hq]at he
  |some y =>
   simp[hq]at he;subst he;rw[aqw]at hx
   cases Ut:y[j]? with
   |none=>simp[Ut]at hx
   |some z =>
    simp[Ut]at hx;subst hx;obtain⟨u',g1,g2⟩:=h.get i y j z hq Ut;rw[hu]at g1;injection g1 with g1;subst g1
    exact g2
theorem fk.ofStr (s:ByteArray):fk R γ L 1 (bp s) (byteCells s):=by
 refine⟨by rw[byteCells_length];simp[bp],fun e he=>?_,fun i e j u x he hu hx=>?_,fun u hu=>?_⟩
 ·obtain⟨y,hy,rfl⟩:=aqJ.1 he;rfl
 ·unfold bp at he;unfold byteCells at hu
  rw[aqw]at he
  cases hq:s.data.toList[i]? with
  |none=>rw[hq]at he;simp at he
  |some y =>
   rw[hq]at he;simp at he;subst he;have hj:j=0:=by have:=(ap_.1 hx).1;simpa using this
   subst hj;simp at hx;subst hx;rw[Nat.mul_one,Nat.add_zero,aqw,hq]at hu;simp at hu;subst hu;exact .int _ _
 ·unfold byteCells at hu
  obtain⟨y,hy,rfl⟩:=aqJ.1 hu;rfl
theorem fk.mv {R':PH}{γ':List Gh}{L':List Ob}(h:Mv R R' γ γ' L L'){k:Nat}{xs:List (List SV)}{news:List Value}(hc:fk R γ L k xs news):fk R' γ' L' k xs news :=
 ⟨hc.len,hc.wide,fun i e j u x he hu hx=>SV.mv h (hc.rep i e j u x he hu hx),hc.one⟩
theorem fk.app {es xs:List (List SV)}{k:Nat}{olds news:List Value}(h:fk R γ L k es olds)(g:fk R γ L k xs news):fk R γ L k (es++xs) (olds++news):=by
 refine⟨by rw[aqg,h.len,g.len,aqg,Nat.add_mul],fun e he=>?_,fun i e j u x he hu hx=>?_,fun u hu=>?_⟩
 ·rcases aqB.1 he with he|he
  ·exact h.wide e he
  ·exact g.wide e he
 ·by_cases hi:i<es.length
  ·rw[aqm hi]at he
   have TP:j<k:=by rw[<- h.wide e (aqe he)];exact(ap_.1 hx).1
   rw[aqm (by rw[h.len];exact pp hi TP)]at hu;exact h.rep i e j u x he hu hx
  ·rw[aqf m0]at he
   have hle:es.length*k<=i*k:=aqL _ m0;rw[aqf (by rw[h.len];omega),h.len]at hu;refine g.rep (i-es.length) e j u x he ?_ hx;rw[Nat.mul_sub_right_distrib];have:i*k-es.length*k+j=i*k+j-es.length*k:=m0
   rw[this];exact hu
 ·rcases aqB.1 hu with hu|hu
  ·exact h.one u hu
  ·exact g.one u hu
theorem SV.one_cell {x:SV}{u:Value}(h:x.rep R γ L u):u.oneCell'=true:=(SV.rep_one h).2
theorem ge (hi:Inv B R γ L w){id OY k b c:Nat}{es:List (List SV)}(hL:L[id]?=some (.row OY es k))(hg:γ[id]?=some (.arr b c)) :
  ∃ vs E,w.heap[b]?=some (.cells vs E (0,0))/\(E=OY%65536/\65536<=OY)/\vs.size=c*k/\es.length<=c/\0<k/\fk R γ L k es (vs.toList.take (es.length*k)) /\ ∀ o,R b o=none:=by
 obtain⟨⟨vs,E,h1,h2,h3⟩,h4,h5,h6,h7⟩:=hi.obj id _ _ hL hg;have hle:es.length*k<=c*k:=aqL _ h4;have get:∀ (i:Nat) e (j:Nat) u,es[i]?=some e->j<k->(vs.toList.take (es.length*k))[i*k+j]?=some u->vs[i*k+j]?=some u:=by
  intro i e j u he hj hu;rw[aqD,if_pos (pp (ap_.1 he).1 hj)]at hu;simpa using hu
 refine⟨vs,E,h1.1,h1.2,h2,h4,h5,⟨by simp;omega,h6,fun i e j u x he hu hx=>?_,fun u hu=>?_⟩,h7⟩
 ·have TP:j<k:=by rw[<- h6 e (aqe he)];exact(ap_.1 hx).1
  exact h3 i e j u x he (get i e j u he TP hu) hx
 ·obtain⟨q,hq⟩:=List.mem_iff_getElem?.1 hu
  have O0:=(ap_.1 hq).1;have SX:q<es.length*k:=by rw[aq0]at O0;omega
  have QZ:q/k<es.length:=by rw[Nat.div_lt_iff_lt_mul h5];exact SX
  have Vj:q%k<k:=Nat.mod_lt _ h5;have he:=aqh QZ;have hx:=aqh (l:=es[q/k]) (i:=q%k) (by rw[h6 _ (aqe he)];exact Vj);have hqe:q/k*k+q%k=q:=by rw[Nat.mul_comm];exact Nat.div_add_mod q k
  exact SV.one_cell (h3 (q/k) _ (q%k) u _ he (by
   rw[hqe];rw[aqD,if_pos SX]at hq;simpa using hq) hx)
theorem akS (hi:Inv B R γ L w){t tx ty E:TypeId}{k by_:Nat}{es xs:List (List SV)}{id OY n:Nat}{v x:Value}(ht:P.underlying t=some (.slice E))(Vd:0<k)(hz:acL P E k)(SA:kf P E=some by_)(hE:OY%65536=E)
  (hL:L[id]?=some (.row OY es k)) (hv:(SV.sl id OY 0 n).rep R γ L v) (hn:es.length=n) {news:List Value} (S5:Src P k tx x xs.length news w) (Rj:fk R γ L k xs news)
  (OU:(n+xs.length)*by_<=140737488355328) (Pz:n+xs.length<=140737488355328) :
  ∃ u w' γ',(Builtin.append_ #[t,tx] ty #[v,x]).run P w = .ok u w'/\Inv B R γ' (L.set id (.row (OY+65536) (es++xs) k)) w'/\Ext B R R w w'/\Mv R R γ γ' L (L.set id (.row (OY+65536) (es++xs) k)) /\
   (SV.sl id (OY+65536) 0 (n+xs.length)).rep R γ' (L.set id (.row (OY+65536) (es++xs) k)) u:=by
 obtain⟨inf,z,PS,Rz,QF,UB⟩:=hz;have Qb:inf.bytes=by_:=by unfold kf at SA;rw[PS]at SA;simpa using SA
 obtain⟨hvc,O0,PE⟩:=hv;obtain⟨hle,g,hg,Px⟩:=(PE _ es k hL).2 rfl;have QR:Src P inf.size tx x xs.length news w:=by rw[QF];exact S5
 have V8:news.length=xs.length*k:=Rj.len;have XC:id<γ.length:=by rw[hi.len];exact O0
 have Tz:∀ g',(∀ b,g ≠ .box b)->Mv R R γ (γ.set id g') L (L.set id (.row (OY+65536) (es++xs) k)):=fun g' SC =>
  Mv.setOb (PH.sub_refl _) hi.len hL (fun b e=>by rw[hg]at e;injection e with e;exact SC b e) (fun _ _ e=>by cases e) (fun Pl Pv k' e=>by injection e with e1 e2 e3;subst e1 e2 e3;exact⟨OY,es,rfl,m0⟩)

 have grow:∀ (a:Option Addr) (c:Nat) (olds:List Value),v = .slice a n c->c<n+xs.length->(∀ b,g ≠ .box b)->fk R γ L k es olds->(Builtin.firstCells inf.size n (.slice a n c)).run P w.drew = .ok olds.toArray w.drew ->
   ∃ u w' γ',(Builtin.append_ #[t,tx] ty #[v,x]).run P w = .ok u w'/\Inv B R γ' (L.set id (.row (OY+65536) (es++xs) k)) w'/\Ext B R R w w'/\Mv R R γ γ' L (L.set id (.row (OY+65536) (es++xs) k)) /\
   (SV.sl id (OY+65536) 0 (n+xs.length)).rep R γ' (L.set id (.row (OY+65536) (es++xs) k)) u:=by
  intro a c olds TC hc SC holds YN;have O8:=run_append_grow_src (P:=P) (w:=w) t tx ty E inf z ht PS Rz a n c olds YN x xs.length news QR hc m0 (by
   have h2:=nextslicecap_le hc;have h3:Builtin.nextslicecap (n+xs.length) c*inf.bytes<=2*(n+xs.length)*inf.bytes:=aqL _ h2;rw[Qb]at h3 ⊢;rw[Nat.mul_assoc]at h3;omega)
  have RR:=grownCap_ge w (n+xs.length) c E;generalize grownCap w (n+xs.length) c E=cap at O8 RR;have hm:=Tz (.arr w.heap.size cap) SC;have Rl:=(holds.app Rj).mv hm;have Y3:(olds++news).length=(n+xs.length)*k:=by rw[Rl.len,aqg,hn]
  have hI:=hi.rehome hL (g' := .arr w.heap.size cap) rfl (.cells ((olds++news).toArray++Builtin.zeroCells z.cells (cap-(n+xs.length))) E) hm (by
   refine⟨⟨_,E,⟨dt w.drew _,by rw[<- hE];show OY%65536=(OY+65536)%65536;omega,m0⟩,?_,fun i e j u x he hu hx=>?_⟩,by rw[aqg,hn];exact RR,Vd,Rl.wide,fun o=>hi.none_at o⟩
   ·rw[Array.size_append,size_zeroCells,UB];simp only[List.size_toArray];rw[Y3,<- Nat.add_mul];congr 1;omega
   ·have TP:j<k:=by rw[<- Rl.wide e (aqe he)];exact(ap_.1 hx).1
    have Ve:i<n+xs.length:=by have:=(ap_.1 he).1;simpa[hn]using this
    rw[Array.getElem?_append_left (by simp only[List.size_toArray];rw[Y3];exact pp Ve TP)]at hu;exact Rl.rep i e j u x he (by simpa using hu) hx)
  refine⟨_,_,_,by rw[TC];exact O8,hI,?_,hm,⟨rfl,rfl⟩,by simpa using O0,fun QH S1 k2 e2=>?_⟩
  ·exact⟨⟨rfl,rfl,rfl,by show w.heap.size<=(w.heap.push _).size;simp,fun b hb=>eT w.drew _ (hi.bsz b hb)⟩,PH.sub_refl _,fun _ _ _=>rfl⟩
  ·rw[aqs O0]at e2;injection e2 with e2;injection e2 with q1 q2 q3;subst q1 q2 q3
   refine⟨aqo _,fun _=>⟨by simp[hn],.arr w.heap.size cap,aqs XC,.inl ?_⟩⟩;simp
 match g,hg,Px with
 |.none,hg,⟨⟨a0,TC,_⟩,RN,_⟩ =>
  have Yi:es=[]:=hi.obj id _ _ hL hg;subst Yi RN;by_cases hm:xs.length=0
  ·have YO:xs=[]:=aqz hm
   subst YO;have Yj:news=[]:=aqz (by rw[V8];simp);rw[Yj]at QR;have O8:=run_append_nothing (P:=P) w t tx ty E inf ht PS a0 0 0 (aqo _) x QR;have UZ:=Tz .none (fun b e=>by cases e);have Y4:γ.set id .none=γ:=by
    apply List.ext_getElem?;intro j;by_cases hj:j=id
    ·subst hj;rw[aqs XC,hg]
    ·rw[aqt (Ne.symm hj)]
   rw[Y4]at UZ;refine⟨v,w,γ,by rw[TC];exact O8,?_,Ext.refl _ _ _,UZ,hvc,by simpa using O0,fun QH S1 k2 e2=>?_⟩
   ·refine⟨by simp[hi.len],hi.val,fun j y h hy hh=>?_,hi.inj,hi.new,hi.bsz⟩
    by_cases hj:j=id
    ·subst hj
     rw[aqs O0]at hy;injection hy with hy;subst hy
     rw[hg]at hh;injection hh with hh;subst hh
     rfl
    ·rw[aqt (Ne.symm hj)]at hy
     exact(hi.obj j y h hy hh).mv UZ (fun _ _=>rfl) (fun _ _ _ e=>e)
   ·rw[aqs O0]at e2;injection e2 with e2;injection e2 with q1 q2 q3;subst q1 q2 q3
    exact⟨aqo _,fun _=>⟨m5,.none,hg,⟨a0,TC,fun h=>by omega⟩,rfl,rfl⟩⟩
  ·refine grow a0 0 [] TC m0 (fun b e=>by cases e) ⟨m5,m5,fun i e j u x he=>by simp at he,m5⟩ ?_
   cases a0 with
   |none=>exact run_firstCells_none w.drew inf.size 0 0 0
   |some ad=>exact run_firstCells_some w.drew inf.size 0 ad 0 0 [] m5 (fun j u hu=>by simp at hu)
 |.arr b c,hg,Px =>
  obtain⟨vs,E2,hb,W3,PN,WU,hk,PI,UC⟩:=ge hi hL hg;have hc0:v = .slice (some ⟨b,0,none⟩) n c\/(c=0/\n=0 /\ ∃ a,v = .slice a 0 0):=by
   rcases Px with Px|⟨q1,q2,q3⟩
   ·left;rw[Px];simp
   ·exact .inr ⟨q1,q2,q3⟩
  by_cases RP:n+xs.length<=c
  ·have XD:(n+xs.length)*k<=c*k:=aqL _ RP
   have R6:n*k+news.length=(n+xs.length)*k:=by rw[V8,Nat.add_mul]
   obtain⟨Ur,g1,g2,g3⟩:=gu b E2 (0,0) news (n*k) w vs hb m0;have Y4:γ.set id (.arr b c)=γ:=by
    apply List.ext_getElem?;intro j;by_cases hj:j=id
    ·subst hj;rw[aqs XC,hg]
    ·rw[aqt (Ne.symm hj)]
   have UZ:=Tz (.arr b c) (fun b e=>by cases e);rw[Y4]at UZ;have S4:vs.toList.take (es.length*k)=vs.toList.take (n*k):=by rw[hn]
   rw[S4]at PI;have Rl:=(PI.app Rj).mv UZ;have hI:Inv B R γ (L.set id (.row (OY+65536) (es++xs) k)) (w.setCells b (n*k) news):=by
    refine hi.turn hL hg rfl UZ (fun b' Pn=>em b Pn _ _ _) (fQ _ _ _ _) (fun _ _ _=>rfl) (fun o u h=>by rw[UC o]at h;cases h) ?_;refine⟨⟨Ur,E2,⟨g1,by rw[W3.1];show OY%65536=(OY+65536)%65536;omega,m0⟩,by rw[g2];exact PN,fun i e j u x he hu hx=>?_⟩,by rw[aqg,hn];exact RP,hk,Rl.wide,UC⟩;have TP:j<k:=by rw[<- Rl.wide e (aqe he)];exact(ap_.1 hx).1
    have Ve:i<n+xs.length:=by have:=(ap_.1 he).1;simpa[hn]using this
    have QG:=pp Ve TP;refine Rl.rep i e j u x he ?_ hx;rw[g3]at hu;have htl:(vs.toList.take (n*k)).length=n*k:=by simp;omega
    by_cases TQ:n*k<=i*k+j
    ·rw[if_pos m0]at hu
     rw[aqf m0,htl];exact hu
    ·rw[if_neg m0]at hu
     rw[aqm m0,aqD,if_pos m0];simpa using hu
   have hE:Ext B R R w (w.setCells b (n*k) news):=⟨fb (hi.new id _ b hg rfl).1 _ _ _,PH.sub_refl _,fun _ _ _=>rfl⟩;rcases hc0 with TO|⟨q1,q2,a,q3⟩
   ·have O8:=run_append_room_src (P:=P) (w:=w) t tx ty E inf ht PS b 0 n c x xs.length news QR RP
     (fun j hj=>by
      rw[QF,cob_ hb];have:0+n*k+j<vs.size:=m0
      rw[aqy this];rfl)
     (fun j hj=>by simp[World.frozen?,hb])
    rw[QF,aqR]at O8;refine⟨_,_,γ,by rw[TO];exact O8,hI,hE,UZ,⟨rfl,rfl⟩,by simpa using O0,fun QH S1 k2 e2=>?_⟩;rw[aqs O0]at e2;injection e2 with e2;injection e2 with p1 p2 p3;subst p1 p2 p3
    refine⟨aqo _,fun _=>⟨by simp[hn],.arr b c,hg,.inl ?_⟩⟩;simp
   ·have XE:xs.length=0:=m0
    have Yj:news=[]:=aqz (by rw[V8,XE];simp);rw[Yj,XE]at QR;have O8:=run_append_nothing (P:=P) w t tx ty E inf ht PS a 0 0 (aqo _) x QR;rw[Yj]at hI hE;refine⟨v,_,γ,by rw[q3];exact O8,hI,hE,UZ,hvc,by simpa using O0,fun QH S1 k2 e2=>?_⟩;rw[aqs O0]at e2;injection e2 with e2;injection e2 with p1 p2 p3;subst p1 p2 p3
    exact⟨aqo _,fun _=>⟨by simp[hn],.arr b c,hg,.inr ⟨q1,m0,a,q3⟩⟩⟩
  ·rcases hc0 with TO|⟨q1,q2,a,q3⟩
   ·refine grow _ c _ TO m0 (fun b e=>by cases e) PI ?_
    rw[QF];refine run_firstCells_some w.drew k n ⟨b,0,none⟩ n c _ (by rw[PI.len,hn]) (fun j u hu=>?_);rw[Addr.add_mid,aqR];have Y5:w.cell? ⟨b,j,none⟩=some u:=by
     rw[cob_ hb];have hj:=(ap_.1 hu).1;rw[aqD]at hu;split at hu
     ·simpa using hu
     ·cases hu
    exact Y5
   ·have Yi:es=[]:=aqz m0
    subst Yi q2;refine grow a 0 [] q3 m0 (fun b e=>by cases e) ⟨m5,m5,fun i e j u x he=>by simp at he,m5⟩ ?_
    cases a with
    |none=>exact run_firstCells_none w.drew inf.size 0 0 0
    |some ad=>exact run_firstCells_some w.drew inf.size 0 ad 0 0 [] m5 (fun j u hu=>by simp at hu)
end
def KZ (L:List Ob):AV->Option (List (List SV))
 |.one (.c (.str s))=>some (bp s)
 |.one (.sl id _ lo n)=>match L[id]? with
  |some (.row _ es _)=>some ((es.drop lo).take n)
  |_=>none
 |x=>(dx x).map fun es=>es.map (List.map SV.c)
def DC (ti:TI)(L:List Ob)(k:Nat)(tx:TypeId):AV->Prop
 |.one (.c (.str _))=>k=1/\ti.kind tx=some .string
 |.one (.sl id OY lo n)=>(ti.elem tx).isSome /\ ∃ es,L[id]?=some (.row OY es k)/\lo+n<=es.length
 |x=>(ti.elem tx).isSome /\ ∃ es,dx x=some es /\ ∀ e∈es,e.length=k
section
variable {P:Program} {ti:TI} {B:Nat->Prop} {N:Nat} {R:PH} {γ:List Gh} {L:List Ob} {w:World} {ρ:Operand->Option AV}
theorem aes {k:Nat}{tx:TypeId}(O6:TIok P ti)(hi:Inv B R γ L w){x:AV}{u:Value}(hx:x.rep R γ L u){es:List (List AC)}(he:dx x=some es)(hw:∀ e∈es,e.length=k)(ht:(ti.elem tx).isSome) :
  ∃ news,Src P k tx u (es.map (List.map SV.c)).length news w/\fk R γ L k (es.map (List.map SV.c)) news:=by
 obtain⟨E,hE⟩:=aqQ.1 ht;have Sv:=O6.elem _ _ hE;have:P.underlying tx=some (.slice E):=by
  unfold nO at Sv;split at Sv
  ·rename_i e h;injection Sv with Sv;rw[h,Sv]
  ·cases Sv
 obtain⟨news,h1,h2⟩:=aiO (P:=P) this hi (jb hx he) hw;exact⟨news,by simpa using h1,fk.ofC h2⟩
theorem ac6 {k:Nat}{tx:TypeId}(O6:TIok P ti)(hi:Inv B R γ L w){x:AV}{u:Value}(hx:x.rep R γ L u){xs:List (List SV)}(h:KZ L x=some xs)(Qu:DC ti L k tx x) :
  ∃ news,Src P k tx u xs.length news w/\fk R γ L k xs news:=by
 unfold KZ at h;split at h
 ·rename_i s
  injection h with h;subst h
  obtain⟨rfl,hk⟩:=Qu
  cases hx;have hl:(bp s).length=s.size:=by unfold bp;rw[aqk];simp
  exact⟨byteCells s,by rw[hl];exact Src.ofString w (O6.kind _ _ hk) s,fk.ofStr s⟩
 ·rename_i id OY lo n
  obtain⟨ht,es,hL,hle⟩:=Qu;rw[hL]at h;injection h with h;subst h
  obtain⟨E,hE⟩:=aqQ.1 ht;have Sv:=O6.elem _ _ hE;have Vw:P.underlying tx=some (.slice E):=by
   unfold nO at Sv;split at Sv
   ·rename_i e h;injection Sv with Sv;rw[h,Sv]
   ·cases Sv
  obtain⟨_,O0,PE⟩:=hx;obtain⟨_,g,hg,Px⟩:=(PE _ es k hL).2 rfl;have hlen:((es.drop lo).take n).length=n:=by simp;omega
  match g,hg,Px with
  |.none,hg,⟨⟨a,hu,_⟩,hn,Po⟩ =>
   subst hu hn Po;refine⟨[],?_,⟨m5,m5,fun i e j u x he=>by simp at he,m5⟩⟩
   cases a with
   |none=>simpa using Src.ofNil w Vw 0
   |some ad=>simpa using Src.ofSlice w Vw ad 0 0 [] m5 (fun j u hu=>by simp at hu) m5
  |.arr b c,hg,Px =>
   obtain⟨vs,E2,hb,W3,PN,WU,hk,PI,UC⟩:=ge hi hL hg;by_cases RN:n=0
   ·subst RN
    refine⟨[],?_,⟨m5,m5,fun i e j u x he=>by simp at he,m5⟩⟩;have:∃ a c',u = .slice a 0 c':=by
     rcases Px with Px|⟨_,_,a,Px⟩
     ·exact⟨_,_,Px⟩
     ·exact⟨_,_,Px⟩
    obtain⟨a,c',rfl⟩:=this
    cases a with
    |none=>simpa using Src.ofNil w Vw c'
    |some ad=>simpa using Src.ofSlice w Vw ad 0 c' [] m5 (fun j u hu=>by simp at hu) m5
   ·have Px:u = .slice (some ⟨b,lo*k,none⟩) n (c-lo):=by
     rcases Px with Px|⟨_,h0,_⟩
     ·exact Px
     ·exact absurd h0 RN
    subst Px;have h1:lo*k+n*k<=es.length*k:=by rw[<- Nat.add_mul];exact aqL _ hle
    have h2:es.length*k<=c*k:=aqL _ WU;have R8:∀ (j:Nat) u,(((vs.toList.take (es.length*k)).drop (lo*k)).take (n*k))[j]?=some u->j<n*k/\(vs.toList.take (es.length*k))[lo*k+j]?=some u:=by
     intro j u hu;rw[aqD]at hu;split at hu
     ·rename_i hj;rw[aqV]at hu;exact⟨hj,hu⟩
     ·cases hu
    have V8:(((vs.toList.take (es.length*k)).drop (lo*k)).take (n*k)).length=n*k:=by simp;omega
    refine⟨((vs.toList.take (es.length*k)).drop (lo*k)).take (n*k),?_,⟨by rw[hlen];exact V8,fun e he=>PI.wide e (List.mem_of_mem_drop (aq6 he)),fun i e j u x he hu hx=>?_,fun u hu=>PI.one u (List.mem_of_mem_drop (aq6 hu))⟩⟩
    ·rw[hlen]
     refine Src.ofSlice w Vw ⟨b,lo*k,none⟩ n (c-lo) _ V8 (fun j u hu=>?_) (fun u hu=>PI.one u (List.mem_of_mem_drop (aq6 hu)));obtain⟨hj,hu⟩:=R8 j u hu;rw[Addr.add_mid,cob_ hb];rw[aqD]at hu;split at hu
     ·simpa using hu
     ·cases hu
    ·obtain⟨hj,hu⟩:=R8 _ u hu
     rw[aqD]at he;split at he
     ·rw[aqV]at he
      refine PI.rep (lo+i) e j u x he ?_ hx;rw[Nat.add_mul,Nat.add_assoc];exact hu
     ·cases he
 ·cases he:dx x with
  |none=>simp[he]at h
  |some es =>
   rw[he]at h;injection h with h;subst h
   unfold DC at Qu;split at Qu
   ·rename_i x1 _;exact absurd rfl (x1 _)
   ·rename_i h2;exact absurd rfl (h2 _ _ _ _)
   ·obtain⟨ht,Pv,h1,h2⟩:=Qu
    rw[he]at h1;injection h1 with h1;subst h1
    exact aes O6 hi hx he h2 ht
theorem jK (O6:TIok P ti){t E:TypeId}(h:ti.elem t=some E):P.underlying t=some (.slice E):=by
 have Sv:=O6.elem _ _ h;unfold nO at Sv;split at Sv
 ·rename_i e h';injection Sv with Sv;rw[h',Sv]
 ·cases Sv
theorem dX (O6:TIok P ti){s x:Operand}{t tx E:TypeId}{k by_ id OY n:Nat}{vx:AV}{es xs:List (List SV)}(hs:ρ s=some (.one (.sl id OY 0 n)))(hx:ρ x=some vx)(hL:L[id]?=some (.row OY es k))(S5:KZ L vx=some xs)(Qu:DC ti L k tx vx)
  (ht:ti.elem t=some E) (hE:OY%65536=E) (PN:ti.size E=some k) (Vx:ti.zok E=true) (SA:ti.bytes E=some by_) (hk:0<k) (hn:es.length=n) (OU:(n+xs.length)*by_<=140737488355328) (Pz:n+xs.length<=140737488355328) :
  pZ P ρ L (.call { callee := .builtin .append,args :=#[s,x],argTypes :=#[t,tx] }) (.one (.sl id (OY+65536) 0 (n+xs.length))) (L.set id (.row (OY+65536) (es++xs) k)):=by
 intro B R γ w ev o ho hi hρ Q1;obtain⟨dst,op,type,pos,after,guard⟩:=o;simp only at ho;subst ho;obtain⟨news,h1,h2⟩:=ac6 (P:=P) (w:=w) (B:=B) O6 hi (hρ _ (by simp[Op.operands,Call.operands]) _ hx) S5 Qu;obtain⟨u,w',γ',g1,g2,g3,g4,g5⟩:=akS (P:=P) (ty:=type) hi (jK O6 ht) hk (O6.zok _ Vx _ (O6.size _ _ PN)) (O6.bytes _ _ SA) hE hL (hρ _ (by simp[Op.operands,Call.operands]) _ hs) hn h1 h2 OU Pz;refine⟨w',R,γ',.inl ⟨u,?_,g5⟩,g2,g3,g4⟩;simp[execOp,resolve,invoke,builtin,g1]
theorem Inv.rowTok (hi:Inv B R γ L w)(OY k:Nat):Inv B R (γ++[.none]) (L++[.row OY [] k]) w:=by
 have it:=hi.tok k;refine⟨by simp[hi.len],hi.val,fun i y g hy hg=>?_,it.inj,it.new,hi.bsz⟩;by_cases hid:i<L.length
 ·rw[aqm hid]at hy
  rw[aqm (by rw[hi.len];exact hid)]at hg;exact(hi.obj i y g hy hg).mv (Mv.push _ _ hi.len) (fun _ _=>rfl) (fun _ _ _ h=>h)
 ·have:i=L.length:=by have:=(ap_.1 hy).1;simp at this;omega
  subst this;rw[aqf m0]at hy;rw[aqf (by rw[hi.len];omega),hi.len]at hg;simp at hy hg;subst hy hg;rfl
theorem Lq (O6:TIok P ti){s x:Operand}{t tx:TypeId}{E:Nat}{k by_:Nat}{vx:AV}{xs:List (List SV)}(hs:ρ s=some (.one .emp))(hx:ρ x=some vx)(S5:KZ L vx=some xs)(Qu:DC ti L k tx vx)
  (ht:ti.elem t=some E) (hE:E<65536) (PN:ti.size E=some k) (Vx:ti.zok E=true) (SA:ti.bytes E=some by_) (hk:0<k) (h0:0<xs.length) (OU:xs.length*by_<=140737488355328) (Pz:xs.length<=140737488355328) :
  pZ P ρ L (.call { callee := .builtin .append,args :=#[s,x],argTypes :=#[t,tx] }) (.one (.sl L.length (E+65536) 0 xs.length)) (L++[.row (E+65536) xs k]):=by
 intro B R γ w ev o ho hi hρ Q1;obtain⟨dst,op,type,pos,after,guard⟩:=o;simp only at ho;subst ho;obtain⟨news,h1,h2⟩:=ac6 (P:=P) (w:=w) (B:=B) O6 hi (hρ _ (by simp[Op.operands,Call.operands]) _ hx) S5 Qu;obtain⟨a,TC⟩:=(hρ _ (by simp[Op.operands,Call.operands]) _ hs);obtain⟨inf,z,PS,Rz,QF,UB⟩:=O6.zok _ Vx _ (O6.size _ _ PN);have Qb:inf.bytes=by_:=by have Q5:=O6.bytes _ _ SA;unfold kf at Q5;rw[PS]at Q5;simpa using Q5
 have YN:(Builtin.firstCells inf.size 0 (.slice a 0 0)).run P w.drew = .ok ([]:List Value).toArray w.drew:=by
  cases a with
  |none=>exact run_firstCells_none w.drew inf.size 0 0 0
  |some ad=>exact run_firstCells_some w.drew inf.size 0 ad 0 0 [] m5 (fun j u hu=>by simp at hu)
 have O8:=run_append_grow_src (P:=P) (w:=w) t tx type E inf z (jK O6 ht) PS Rz a 0 0 [] YN (ev x) xs.length news (by rw[QF];exact h1) m0 m0 (by
   have h2:=nextslicecap_le (need:=0+xs.length) (old:=0) m0;have h3:Builtin.nextslicecap (0+xs.length) 0*inf.bytes<=2*(0+xs.length)*inf.bytes:=aqL _ h2;rw[Qb]at h3 ⊢;rw[Nat.mul_assoc,aqR]at h3;rw[aqR];omega)
 have RR:=grownCap_ge w (0+xs.length) 0 E;generalize grownCap w (0+xs.length) 0 E=cap at O8 RR;rw[aqR]at O8 RR;have hm:Mv R R γ (γ++[.arr w.heap.size cap]) L (L++[.row (E+65536) xs k]):=Mv.push _ _ hi.len;have Rl:=h2.mv hm;have UL:Inv B R (γ++[.arr w.heap.size cap]) (L++[.row (E+65536) xs k]) (w.alloc (.cells (([]++news).toArray++Builtin.zeroCells z.cells (cap-xs.length)) E)):=by
  refine hi.push _ _ _ rfl ⟨⟨_,E,⟨dt w _,by show(E:Nat)=(E+65536)%65536;omega,by show 65536<=(E:Nat)+65536;omega⟩,?_,fun i e j u x he hu hx=>?_⟩,RR,hk,Rl.wide,fun o=>hi.none_at o⟩
  ·rw[Array.size_append,size_zeroCells,UB];simp only[List.size_toArray,aqd];rw[Rl.len,<- Nat.add_mul];congr 1;omega
  ·have TP:j<k:=by rw[<- Rl.wide e (aqe he)];exact(ap_.1 hx).1
   have Ve:=(ap_.1 he).1;rw[Array.getElem?_append_left (by simp only[List.size_toArray,aqd];rw[Rl.len];exact pp Ve TP)]at hu;exact Rl.rep i e j u x he (by simpa using hu) hx
 refine⟨w.drew.alloc (.cells (([]++news).toArray++Builtin.zeroCells z.cells (cap-xs.length)) E),R,_,.inl ⟨.slice (some ⟨w.heap.size,0,none⟩) xs.length cap,by simp[execOp,resolve,invoke,builtin,TC,O8],⟨rfl,rfl⟩,m5,fun QH S1 k2 e2=>?_⟩,?_,⟨⟨rfl,rfl,rfl,by show w.heap.size<=(w.heap.push _).size;simp,fun b hb=>eT w.drew _ (hi.bsz b hb)⟩,PH.sub_refl _,fun _ _ _=>rfl⟩,hm⟩
 ·rw[aqf m0]at e2
  simp at e2;obtain⟨q1,q2,q3⟩:=e2;subst q1 q2 q3;refine⟨aqo _,fun _=>⟨m5,.arr w.heap.size cap,by rw[<- hi.len];simp,.inl ?_⟩⟩;simp
 ·exact⟨UL.len,fun b o u h=>UL.val b o u h,fun i x g h1 h2=>(UL.obj i x g h1 h2).mv Mv.refl (fun _ _=>rfl) (fun _ _ _ h=>h),UL.inj,UL.new,UL.bsz⟩
theorem ry (O6:TIok P ti){l c:Operand}{t:TypeId}{E k by_:Nat}{m:Int}{kl kc:IntKind}(hl:ρ l=some (.one (.c (.int kl 0))))(hc:ρ c=some (.one (.c (.int kc m))))(ht:ti.elem t=some E)(PN:ti.size E=some k)(Vx:ti.zok E=true)(SA:ti.bytes E=some by_)
  (hk:0<k) (h0:0<=m) (OU:(by_:Int)*m<=281474976710656) (Pz:m<=9223372036854775807) :
  pZ P ρ L (.makeSlice t l c) (.one (.own [] L.length)) (L++[.spare 0 k]):=by
 intro B R γ w ev o ho hi hρ Q1;obtain⟨dst,op,type,pos,after,guard⟩:=o;simp only at ho;subst ho;obtain⟨inf,z,PS,Rz,QF,UB⟩:=O6.zok _ Vx _ (O6.size _ _ PN);have Qb:inf.bytes=by_:=by have Q5:=O6.bytes _ _ SA;unfold kf at Q5;rw[PS]at Q5;simpa using Q5
 have W4:=(hρ _ (by simp[Op.operands,Call.operands]) _ hl);have RO:=(hρ _ (by simp[Op.operands,Call.operands]) _ hc);generalize hle:ev l=lv at W4;generalize UM:ev c=cv at RO
 cases W4;cases RO;have O8:=run_make (P:=P) w t E inf z (jK O6 ht) PS Rz kl kc 0 m (Int.le_refl _) h0 (by rw[Qb];exact OU) Pz;have hm:Mv R R γ (γ++[.arr w.heap.size m.toNat]) L (L++[.spare 0 k]):=Mv.push _ _ hi.len;refine⟨w.alloc (.cells (madeCells z.cells (m.toNat*inf.size)) E),R,_,.inl ⟨.slice (some ⟨w.heap.size,0,none⟩) 0 m.toNat,by simp[execOp,hle,UM,O8],dq _ _ _,m5,fun n2 k2 e2=>?_⟩,?_,⟨Kept.alloc hi.bsz _,PH.sub_refl _,fun _ _ _=>rfl⟩,hm⟩
 ·rw[aqf m0]at e2
  simp at e2;obtain⟨q1,q2⟩:=e2;subst q1 q2;exact⟨m5,m5,fun _=>⟨.arr w.heap.size m.toNat,by rw[<- hi.len];simp,rfl⟩⟩
 ·exact hi.push _ _ _ rfl ⟨⟨_,E,dt w _,by rw[size_madeCells,QF]⟩,m5,hk,fun o _=>hi.none_at o⟩
end
section
variable {P:Program} {ti:TI} {B:Nat->Prop} {N:Nat} {R:PH} {γ:List Gh} {L:List Ob} {w:World} {ρ:Operand->Option AV}
theorem oo {E Eb k:Nat}{inf:TypeInfo}(PS:P.info? E=some inf)(hz:inf.zero=some (.agg #[.pointer none,.slice none 0 0]))(hE:E<65536)(hEb:Eb<65536)(hk:0<k) :
  pZ P ρ L (.alloc E) (.one (.ep L.length (E+65536) 0 0)) (L++[.row (E+65536) [[.c (.nul .ptr),.sl (L.length+1) Eb 0 0]] 2,.row Eb [] k]):=by
 intro B R γ w ev o ho hi hρ Q1;obtain⟨dst,op,type,pos,after,guard⟩:=o;simp only at ho;subst ho;have RQ:=hi.rowTok Eb k;have O8:(execOp ev { dst,op := .alloc E,type,pos,after,guard }).run P w = .ok (.value (.pointer (some ⟨w.heap.size,0,none⟩))) (w.alloc (.cells #[.pointer none,.slice none 0 0] E)):=by
  simp[execOp,Instr.alloc,zeroValue,typeInfo,program,Sem.run,PS,hz,newVar,newRow,Value.cells]
 have UZ:Mv R R γ (γ++[.arr w.heap.size 1,.none]) L (L++[.row (E+65536) [[.c (.nul .ptr),.sl (L.length+1) Eb 0 0]] 2,.row Eb [] k]):=by
  have h1:Mv R R γ (γ++[.arr w.heap.size 1]) L (L++[.row (E+65536) [[.c (.nul .ptr),.sl (L.length+1) Eb 0 0]] 2]):=Mv.push _ _ hi.len;have h2:Mv R R (γ++[.arr w.heap.size 1]) ((γ++[.arr w.heap.size 1])++[.none]) (L++[.row (E+65536) [[.c (.nul .ptr),.sl (L.length+1) Eb 0 0]] 2]) ((L++[.row (E+65536) [[.c (.nul .ptr),.sl (L.length+1) Eb 0 0]] 2])++[.row Eb [] k]):=Mv.push _ _ (by simp[hi.len]);have:=h1.trans h2;simpa using this
 have Pj:∀ j h,(γ++[Gh.arr w.heap.size 1,Gh.none])[j]?=some h->(j<L.length/\γ[j]?=some h)\/(j=L.length/\h = .arr w.heap.size 1)\/(j=L.length+1/\h = .none):=by
  intro j h hh;by_cases hj:j<γ.length
  ·rw[aqm hj]at hh;exact .inl ⟨by rw[<- hi.len];exact hj,hh⟩
  ·rw[aqf m0]at hh
   have O0:=(ap_.1 hh).1;simp at O0;have:j-γ.length=0\/j-γ.length=1:=m0
   rcases this with e|e<;>rw[e]at hh<;>simp at hh
   ·exact .inr (.inl ⟨by rw[<- hi.len];omega,hh.symm⟩)
   ·exact .inr (.inr ⟨by rw[<- hi.len];omega,hh.symm⟩)
 have hold:∀ b,b<w.heap.size->(w.alloc (.cells #[.pointer none,.slice none 0 0] E)).heap[b]?=w.heap[b]?:=fun b hb=>eT w _ hb
 have esz:(w.alloc (.cells #[.pointer none,.slice none 0 0] E)).heap.size=w.heap.size+1:=by show(w.heap.push _).size=_;simp
 have VT:(SV.sl (L.length+1) Eb 0 0).rep R (γ++[Gh.arr w.heap.size 1,Gh.none]) (L++[.row (E+65536) [[.c (.nul .ptr),.sl (L.length+1) Eb 0 0]] 2,.row Eb [] k]) (.slice none 0 0):=by
  refine⟨⟨rfl,rfl⟩,m5,fun QH S1 k2 e2=>?_⟩;rw[aqf m0]at e2;simp at e2;obtain⟨q1,q2,q3⟩:=e2;subst q1 q2 q3;exact⟨aqo _,fun _=>⟨m5,.none,by rw[aqf (by rw[hi.len];omega),hi.len];simp,⟨none,rfl,fun _=>rfl⟩,rfl,rfl⟩⟩
 refine⟨_,R,γ++[.arr w.heap.size 1,.none],.inl ⟨_,O8,⟨rfl,rfl⟩,m5,fun QH S1 k2 e2=>?_⟩,?_,⟨Kept.alloc hi.bsz _,PH.sub_refl _,fun _ _ _=>rfl⟩,UZ⟩
 ·rw[aqf m0]at e2
  simp at e2;obtain⟨q1,q2,q3⟩:=e2;subst q1 q2 q3;exact⟨aqo _,fun _=>⟨m5,.arr w.heap.size 1,by rw[aqf (by rw[hi.len];omega),hi.len];simp,rfl⟩⟩
 ·refine⟨by simp[hi.len],fun b o' u h=>?_,fun j y h hy hh=>?_,fun j1 j2 g1 g2 h1 h2 Pn b hb=>?_,fun j h b hh hb=>?_,fun b hb=>by have:=hi.bsz b hb;omega⟩
  ·have:=hi.lt h
   rw[<- hi.val _ _ _ h];exact World.cell?_of_block (w:=w) (hold b this)
  ·rcases Pj j h hh with⟨hj,SR⟩|⟨rfl,rfl⟩|⟨rfl,rfl⟩
   ·rw[aqm hj]at hy
    exact(hi.obj j y h hy SR).mv UZ (fun b hb=>hold b (hi.new j h b SR hb).2) (fun _ _ _ e=>e)
   ·rw[aqf m0]at hy
    simp at hy;subst hy;refine⟨⟨_,E,⟨dt w _,by show(E:Nat)=(E+65536)%65536;omega,m0⟩,rfl,fun i e j' u x he hu hx=>?_⟩,m5,m0,m5,fun o=>hi.none_at o⟩;have:i=0:=by have:=(ap_.1 he).1;simpa using this
    subst this;simp at he;subst he
    match j',hx with
    |0,hx=>simp at hx hu;subst hx hu;exact .nul .ptr _ rfl
    |1,hx=>simp at hx hu;subst hx hu;exact VT
    |j'+2,hx=>simp at hx
   ·rw[aqf m0]at hy
    simp at hy;subst hy;rfl
  ·rcases Pj j1 g1 h1 with⟨a1,a2⟩|⟨a1,rfl⟩|⟨a1,rfl⟩<;>rcases Pj j2 g2 h2 with⟨b1,b2⟩|⟨b1,rfl⟩|⟨b1,rfl⟩
   ·exact hi.inj j1 j2 g1 g2 a2 b2 Pn b hb
   ·have:=(hi.new j1 g1 b a2 hb).2
    simp only[Gh.block,ne_eq,Option.some.injEq];omega
   ·exact fun e=>by cases e
   ·simp only[Gh.block,Option.some.injEq]at hb
    intro e;have:=(hi.new j2 g2 _ b2 e).2;omega
   ·omega
   ·exact fun e=>by cases e
   ·cases hb
   ·cases hb
   ·cases hb
  ·rcases Pj j h hh with⟨_,b2⟩|⟨_,rfl⟩|⟨_,rfl⟩
   ·have:=hi.new j h b b2 hb
    exact⟨this.1,m0⟩
   ·simp only[Gh.block,Option.some.injEq]at hb;subst hb
    exact⟨fun hB=>by have:=hi.bsz _ hB;omega,m0⟩
   ·cases hb
theorem Gv {id OY i off k:Nat}{es:List (List SV)}{u:Value}(hL:L[id]?=some (.row OY es k))(h:(SV.ep id OY i off).rep R γ L u):i<es.length /\ ∃ b c,γ[id]?=some (.arr b c)/\u = .pointer (some ⟨b,i*k+off,none⟩):=by
 obtain⟨_,_,PE⟩:=h;obtain⟨h1,g,hg,Px⟩:=(PE _ es k hL).2 rfl
 match g,hg,Px with
 |.arr b c,hg,Px=>exact⟨h1,b,c,hg,Px⟩
theorem Lu {e:TypeId}{s:Nat}(hs:P.cellsOf e=s)(h0:0<s)(count:Nat)(hn:1<=count):liesAt P P.depth e count 0 e 1=true:=by
 have hd:P.depth=(2*(P.types.size+Made.depth)+1)+1:=rfl;rw[hd];simp only[liesAt,Bool.or_eq_true];left;rw[hd];have:s≠0:=m0
 simp[rowAt,hs,hn,sameLayout,this]
theorem kY {s d t:TypeId}{x:Operand}{id OY k:Nat}{es:List (List SV)}{j:TypeInfo}(hx:ρ x=some (.one (.ep id OY 0 0)))(hL:L[id]?=some (.row OY es k))(hs:P.underlying s=some (.pointer t))(hd:P.underlying d=some .unsafePointer)(ht:P.info? t=some j)(hj:j.size≠0) :
  pZ P ρ L (.convert s d x) (.one (.ep id OY 0 0)) L:=by
 intro B R γ w ev o ho hi hρ Q1;obtain⟨dst,op,type,pos,after,guard⟩:=o;simp only at ho;subst ho;have R3:=(hρ _ (by simp[Op.operands,Call.operands]) _ hx);obtain⟨O0,b,c,hg,hu⟩:=Gv (R:=R) hL R3;obtain⟨vs,E,hb,hE,PN,hle,hk,_,_⟩:=ge hi hL hg;have V4:w.shape? b=some (E,c*k):=by simp[World.shape?,hb,PN]
 have h1:1*k<=c*k:=aqL _ m0;rw[hu]at R3;refine⟨w,R,γ,.inl ⟨_,?_,R3⟩,hi,Ext.refl _ _ _,Mv.refl⟩;have:=Lib.run_to_unsafe (P:=P) w (⟨b,0*k+0,none⟩:Addr) hs hd ht hj V4 (by show 0*k+0<c*k;omega);simp only[Nat.zero_mul,aqR,Nat.add_zero]at this hu ⊢;simp[execOp,hu,this]
theorem qk {s d:TypeId}{t:Nat}{x:Operand}{id OY k:Nat}{es:List (List SV)}{j:TypeInfo}(hx:ρ x=some (.one (.ep id OY 0 0)))(hL:L[id]?=some (.row OY es k))(hs:P.underlying s=some .unsafePointer)(hd:P.underlying d=some (.pointer t))(ht:P.info? t=some j)(hc:P.cellsOf t=k)(hE:OY%65536=t) :
  pZ P ρ L (.convert s d x) (.one (.ep id OY 0 0)) L:=by
 intro B R γ w ev o ho hi hρ Q1;obtain⟨dst,op,type,pos,after,guard⟩:=o;simp only at ho;subst ho;have R3:=(hρ _ (by simp[Op.operands,Call.operands]) _ hx);obtain⟨O0,b,c,hg,hu⟩:=Gv (R:=R) hL R3;obtain⟨vs,E,hb,W3,PN,hle,hk,_,_⟩:=ge hi hL hg;have hEt:E=t:=by rw[W3.1];exact hE
 subst hEt;have V4:w.shape? b=some (E,c*k):=by simp[World.shape?,hb,PN]
 rw[hu]at R3;refine⟨w,R,γ,.inl ⟨_,?_,R3⟩,hi,Ext.refl _ _ _,Mv.refl⟩;have Y6:liesAt P P.depth E (c*k/P.cellsOf E) 0 E 1=true:=by
  rw[hc,Nat.mul_div_cancel _ hk];exact Lu hc hk c m0
 have:=Lib.run_from_unsafe (P:=P) w (⟨b,0*k+0,none⟩:Addr) hs hd ht V4 (by simpa using Y6);simp only[Nat.zero_mul,aqR,Nat.add_zero]at this hu ⊢;simp[execOp,hu,this]
theorem oW {f : FuncId} {fn : Func} {x : Operand} {ts : Array TypeId} {v : AV} (hx : ρ x = some v) (hf : P.funcs[f]? = some fn) (PW : (fn.name == "runtime.NumGoroutine") = false)
  (hb:fn.body.isNone=true) (hn:Extern.findNext fn=none) (he:Extern.find fn=some Extern.AbiNoEscape.same) :
  pZ P ρ L (.call { callee := .value (.func f),args :=#[x],argTypes:=ts }) v L:=by
 intro B R γ w ev o ho hi hρ Q1;obtain⟨dst,op,type,pos,after,guard⟩:=o;simp only at ho;subst ho;refine⟨w,R,γ,.inl ⟨ev x,?_,(hρ _ (by simp[Op.operands,Call.operands]) _ hx)⟩,hi,Ext.refl _ _ _,Mv.refl⟩;have:=run_callFunc_extern hf PW hb hn he #[ev x] w;rw[Lib.run_noEscape]at this;simp[execOp,resolve,Deferred.ofValue,Q1.1,invoke,this,Result.andThen]
theorem zK {t te:TypeId}(b:Option Addr)(ht:P.underlying t=some (.pointer te)):(binOp .eql t (.pointer b) (.pointer none)).run P w = .ok (.bool b.isNone) w:=by
 have h:∀ d:Nat,(Op.equalIn (d+1) t (.pointer b) (.pointer none)).run P w = .ok b.isNone w:=fun d=>by
  cases b<;>simp[Op.equalIn,run_underlying ht]
 simp only[binOp];rw[Sem.run_bind,show Op.equal t (.pointer b) (.pointer none)=Op.equalIn (9999+1) t (.pointer b) (.pointer none)from rfl,h];simp
theorem yc {t t' te:TypeId}{x y:Operand}(hx:ρ x=some (.one (.c (.nul .ptr))))(hy:ρ y=some (.one (.c (.nul .ptr))))(ht:P.underlying t=some (.pointer te)) :
  pZ P ρ L (.binOp .eql t x y t') (.one (.c (.bool true))) L:=by
 intro B R γ w ev o ho hi hρ Q1;obtain⟨dst,V5,type,pos,after,guard⟩:=o;simp only at ho;subst ho;have h1:=(hρ _ (by simp[Op.operands,Call.operands]) _ hx);have h2:=(hρ _ (by simp[Op.operands,Call.operands]) _ hy);generalize hex:ev x=ux at h1;generalize Wj:ev y=uy at h2
 cases h1 with|nul _ _ e1=>cases h2 with|nul _ _ e2 =>
 subst e1 e2;have:=zK (P:=P) (w:=w) none ht;exact⟨w,R,γ,.inl ⟨.bool true,by simp[execOp,hex,Wj,eqGuard,Nul.val,this],.bool true⟩,hi,Ext.refl _ _ _,Mv.refl⟩
theorem rl {t t' te:TypeId}{x y:Operand}{id OY i off k:Nat}{es:List (List SV)}(hx:ρ x=some (.one (.ep id OY i off)))(hL:L[id]?=some (.row OY es k))(hy:ρ y=some (.one (.c (.nul .ptr))))(ht:P.underlying t=some (.pointer te)) :
  pZ P ρ L (.binOp .eql t x y t') (.one (.c (.bool false))) L:=by
 intro B R γ w ev o ho hi hρ Q1;obtain⟨dst,V5,type,pos,after,guard⟩:=o;simp only at ho;subst ho;obtain⟨_,b,c,_,hu⟩:=Gv (R:=R) hL (hρ _ (by simp[Op.operands,Call.operands]) _ hx);have h2:=(hρ _ (by simp[Op.operands,Call.operands]) _ hy);generalize Wj:ev y=uy at h2
 cases h2 with|nul _ _ e2 =>
 subst e2;have:=zK (P:=P) (w:=w) (some ⟨b,i*k+off,none⟩) ht;exact⟨w,R,γ,.inl ⟨.bool false,by simp[execOp,hu,Wj,eqGuard,Nul.val,this],.bool false⟩,hi,Ext.refl _ _ _,Mv.refl⟩
theorem rO {t t' te:TypeId}{x y:Operand}{id OY i off k:Nat}{es:List (List SV)}{j:TypeInfo}(hx:ρ x=some (.one (.ep id OY i off)))(hL:L[id]?=some (.row OY es k))(hy:ρ y=some (.one (.ep id OY i off)))(ht:P.underlying t=some (.pointer te))(Sv:P.info? te=some j) :
  pZ P ρ L (.binOp .neq t x y t') (.one (.c (.bool false))) L:=by
 intro B R γ w ev o ho hi hρ Q1;obtain⟨dst,V5,type,pos,after,guard⟩:=o;simp only at ho;subst ho;obtain⟨_,b,c,hg,hu⟩:=Gv (R:=R) hL (hρ _ (by simp[Op.operands,Call.operands]) _ hx);obtain⟨_,b',c',Q0,Yh⟩:=Gv (R:=R) hL (hρ _ (by simp[Op.operands,Call.operands]) _ hy);rw[hg]at Q0;injection Q0 with Q0;injection Q0 with e1 e2;subst e1 e2
 refine⟨w,R,γ,.inl ⟨.bool false,?_,.bool false⟩,hi,Ext.refl _ _ _,Mv.refl⟩;have:=Lib.run_neq_ptr_same (P:=P) w (⟨b,i*k+off,none⟩:Addr) ht Sv;simp[execOp,hu,Yh,eqGuard,this]
theorem EN {t t' te:TypeId}{x:Operand}{vx:AV}{e:List AC}{es:List (List AC)}(hx:ρ x=some vx)(hl:dx vx=some (e::es))(ht:P.underlying t=some (.slice te)) :
  pZ P ρ L (.binOp .eql t x (.const (.slice none 0 0)) t') (.one (.c (.bool false))) L:=by
 intro B R γ w ev o ho hi hρ Q1;obtain⟨dst,V5,type,pos,after,guard⟩:=o;simp only at ho;subst ho;have h1:=jb (hρ x (by simp[Op.operands]) _ hx) hl;generalize hex:ev x=ux at h1
 cases h1 with
 |lst a n c _ k cv b o hn hc hk ha hr he =>
  have h0:0<n:=by rw[<- hn];simp
  have ha':=ha h0;subst ha';refine⟨w,R,γ,.inl ⟨.bool false,?_,.bool false⟩,hi,Ext.refl _ _ _,Mv.refl⟩;have h:∀ d:Nat,(Op.equalIn (d+1) t (.slice (some ⟨b,o,none⟩) n c) (.slice none 0 0)).run P w = .ok false w:=fun d=>by
   simp[Op.equalIn,run_underlying ht]
  have h2:(binOp .eql t (.slice (some ⟨b,o,none⟩) n c) (.slice none 0 0)).run P w = .ok (.bool false) w:=by
   simp only[binOp];rw[Sem.run_bind,show Op.equal t (.slice (some ⟨b,o,none⟩) n c) (.slice none 0 0)=Op.equalIn (9999+1) t (.slice (some ⟨b,o,none⟩) n c) (.slice none 0 0)from rfl,h];simp
  simp[execOp,hex,Q1.2,eqGuard,h2]
theorem uc {x:Operand}{ts:Array TypeId}{id OY n k:Nat}{es:List (List SV)}(hx:ρ x=some (.one (.sl id OY 0 n)))(hL:L[id]?=some (.row OY es k))(hn:0<n) :
  pZ P ρ L (.call { callee := .builtin .unsafeSliceData,args :=#[x],argTypes:=ts }) (.one (.ep id OY 0 0)) L:=by
 intro B R γ w ev o ho hi hρ Q1;obtain⟨dst,V5,type,pos,after,guard⟩:=o;simp only at ho;subst ho;obtain⟨hvc,O0,PE⟩:=(hρ _ (by simp[Op.operands,Call.operands]) _ hx);obtain⟨hle,g,hg,Px⟩:=(PE _ es k hL).2 rfl
 match g,hg,Px with
 |.none,hg,⟨_,h0,_⟩=>omega
 |.arr b c,hg,Px =>
  have Px:ev x = .slice (some ⟨b,0*k,none⟩) n (c-0):=by
   rcases Px with Px|⟨_,h0,_⟩
   ·exact Px
   ·omega
  obtain⟨vs,E,hb,W3,PN,XD,hk,_,_⟩:=ge hi hL hg;have hc:c≠0:=m0
  refine⟨w,R,γ,.inl ⟨.pointer (some ⟨b,0,none⟩),?_,⟨rfl,rfl⟩,O0,fun QH S1 k2 e2=>?_⟩,hi,Ext.refl _ _ _,Mv.refl⟩
  ·have:=Lib.run_unsafeSliceData_row (P:=P) w ts type (⟨b,0,none⟩:Addr) n c hc
   simp only[Nat.zero_mul,Nat.sub_zero]at Px;simp[execOp,resolve,invoke,builtin,Px,this]
  ·rw[hL]at e2;injection e2 with e2;injection e2 with q1 q2 q3;subst q1 q2 q3
   refine⟨aqo _,fun _=>⟨m0,.arr b c,hg,?_⟩⟩;simp[ang]
theorem rq {x:Operand}{ts:Array TypeId}{id OY k:Nat}(hx:ρ x=some (.one (.sl id OY 0 0)))(hL:L[id]?=some (.row OY [] k))(hv:OY<65536) :
  pZ P ρ L (.call { callee := .builtin .unsafeSliceData,args :=#[x],argTypes:=ts }) (.one (.c (.nul .ptr))) L:=by
 intro B R γ w ev o ho hi hρ Q1;obtain⟨dst,V5,type,pos,after,guard⟩:=o;simp only at ho;subst ho;obtain⟨hvc,O0,PE⟩:=(hρ _ (by simp[Op.operands,Call.operands]) _ hx);obtain⟨hle,g,hg,Px⟩:=(PE _ [] k hL).2 rfl
 match g,hg,Px with
 |.none,hg,⟨⟨a,hu,ha⟩,h0,_⟩ =>
  have ha':=ha hv;subst ha';exact⟨w,R,γ,.inl ⟨.pointer none,by have:=Lib.run_unsafeSliceData_nil (P:=P) w ts type 0 0;simp[execOp,resolve,invoke,builtin,hu,this],.nul .ptr _ rfl⟩,hi,Ext.refl _ _ _,Mv.refl⟩
 |.arr b c,hg,Px =>
  obtain⟨vs,E,hb,W3,PN,XD,hk,_,_⟩:=ge hi hL hg;omega
theorem mN {x y:Operand}{pt it:TypeId}(hx:ρ x=some (.one (.c (.nul .ptr))))(hy:ρ y=some (.one (.c (.int .i64 0)))) :
  pZ P ρ L (.call { callee := .builtin .unsafeString,args :=#[x,y],argTypes :=#[pt,it] }) (.one (.c (.str .empty))) L:=by
 intro B R γ w ev o ho hi hρ Q1;obtain⟨dst,V5,type,pos,after,guard⟩:=o;simp only at ho;subst ho;have h1:=(hρ _ (by simp[Op.operands,Call.operands]) _ hx);have h2:=(hρ _ (by simp[Op.operands,Call.operands]) _ hy);generalize hex:ev x=ux at h1;generalize Wj:ev y=uy at h2
 cases h1 with|nul _ _ e1 =>
 cases h2;subst e1;have:=Lib.run_unsafeString_none (P:=P) w pt it type none;exact⟨w,R,γ,.inl ⟨.string .empty,by simp[execOp,resolve,invoke,builtin,hex,Wj,Nul.val,this],.str _⟩,hi,Ext.refl _ _ _,Mv.refl⟩
theorem n_ {x y:Operand}{pt it:TypeId}{E id OY:Nat}{s:ByteArray}(hx:ρ x=some (.one (.ep id OY 0 0)))(hy:ρ y=some (.one (.c (.int .i64 s.size))))(hL:L[id]?=some (.row OY (bp s) 1))(hE:OY%65536=E)(hp:P.underlying pt=some (.pointer E))(hc:P.cellsOf E=1)
  (h0:0<s.size) (h63:s.size<=9223372036854775807) :
  pZ P ρ L (.call { callee := .builtin .unsafeString,args :=#[x,y],argTypes :=#[pt,it] }) (.one (.c (.str s))) (L.set id .dead):=by
 intro B R γ w ev o ho hi hρ Q1;obtain⟨dst,V5,type,pos,after,guard⟩:=o;simp only at ho;subst ho;obtain⟨_,b,c,hg,hu⟩:=Gv (R:=R) hL (hρ _ (by simp[Op.operands,Call.operands]) _ hx);have h2:=(hρ _ (by simp[Op.operands,Call.operands]) _ hy);generalize Wj:ev y=uy at h2
 cases h2;obtain⟨vs,E2,hb,W3,PN,hle,hk,PI,UC⟩:=ge hi hL hg;have hEt:E2=E:=by rw[W3.1];exact hE
 subst hEt;have hlen:(bp s).length=s.size:=by unfold bp;rw[aqk];simp
 have VU:s.data.toList.length=s.size:=by simp
 have V4:w.shape? b=some (E2,c*1):=by simp[World.shape?,hb,PN]
 have O8:=Lib.run_unsafeString_row (P:=P) w pt it type E2 hp hc b (c*1) V4 s.data.toList (by intro e;rw[e]at VU;simp at VU;omega) (by rw[VU];omega) (by rw[VU];omega) (fun j x hj=>by
  have Y7:=(ap_.1 hj).1;rw[Addr.add_mid,aqR,cob_ hb];have UX:j<vs.size:=by rw[PN];omega
  have hbr:(bp s)[j]?=some [.c (.int .u8 x.toNat)]:=by unfold bp;rw[aqw,hj];rfl
  have:=PI.rep j _ 0 vs[j] _ hbr (by
   rw[Nat.mul_one,Nat.add_zero,aqD,if_pos m0];simp[UX]) rfl
  rw[aqy UX];generalize vs[j]=vj at this
  cases this;rfl)
 rw[VU]at O8;have hfr:∀ m,0<m->((∀ b',b'≠b->(w.freeze ⟨b,0,none⟩ m).heap[b']?=w.heap[b']?)/\(w.freeze ⟨b,0,none⟩ m).heap.size=w.heap.size)/\(w.freeze ⟨b,0,none⟩ m).os=w.os/\(w.freeze ⟨b,0,none⟩ m).tape=w.tape/\(w.freeze ⟨b,0,none⟩ m).output=w.output:=by
  intro m hm;have:m≠0:=m0
  refine⟨⟨fun b' Pn=>?_,?_⟩,?_,?_,?_⟩<;>simp only[World.freeze,hb]<;>simp[this];rw[Array.getElem?_modify];simp[Ne.symm Pn]
 obtain⟨⟨V7,W5⟩,f1,f2,f3⟩:=hfr s.size h0;obtain⟨i1,i2⟩:=hi.kill hL hg rfl (fun b e=>by cases e) (R':=R) (w':=w.freeze ⟨b,0,none⟩ s.size) (PH.sub_refl _) V7 W5 (fun _ _ _=>rfl) (fun o u e=>by rw[UC o]at e;cases e);have SC:=(hi.new id _ b hg rfl).1;refine⟨_,R,_,.inl ⟨.string s,?_,.str s⟩,i1,⟨⟨?_,?_,?_,m0,fun b' Qa=>V7 b' (fun e=>SC (by rw[<- e];exact Qa))⟩,PH.sub_refl _,fun _ _ _=>rfl⟩,i2⟩
 ·have hs:(⟨s.data.toList.toArray⟩:ByteArray)=s:=by cases s;simp
  rw[hs]at O8;simp only[Nat.zero_mul,aqR,Nat.add_zero]at hu;simp[execOp,resolve,invoke,builtin,hu,Wj,O8]
 ·exact f1
 ·exact f2
 ·exact f3
end
open Go.RowKit
def dV:List (List SV)->Option (List (List AC))
 |[]=>some []
 |e::es=>match ir e,dV es with
  |some x,some xs=>some (x::xs)
  |_,_=>none
theorem oy:∀ {es:List (List SV)} {cs:List (List AC)},dV es=some cs->es.length=cs.length
 |[],cs,h=>by injection h with h;subst h;rfl
 |e::es,cs,h=>by
  unfold dV at h;split at h
  ·rename_i x xs hx TA;injection h with h;subst h;simp[oy TA]
  ·cases h
theorem jh:∀ {es:List (List SV)} {cs:List (List AC)},dV es=some cs ->∀ (i:Nat) c,cs[i]?=some c ->∃ e,es[i]?=some e/\ir e=some c
 |[],cs,h=>by injection h with h;subst h;intro i c hc;simp at hc
 |e::es,cs,h=>by
  unfold dV at h;split at h
  ·rename_i x xs hx TA
   injection h with h;subst h
   intro i c hc
   cases i with
   |zero=>simp at hc;subst hc;exact⟨e,rfl,hx⟩
   |succ i=>simp at hc;obtain⟨e',h1,h2⟩:=jh TA i c hc;exact⟨e',by simpa using h1,h2⟩
  ·cases h
theorem iC:∀ (cs:List (List AC)),dV (cs.map (List.map SV.c))=some cs
 |[]=>rfl
 |c::cs=>by
  have h1:∀ l:List AC,ir (l.map SV.c)=some l:=by
   intro l
   induction l with
   |nil=>rfl
   |cons x l ih=>simp[ir,SV.norm,ih]
  simp[dV,h1,iC cs]
section
variable {P:Program} {ti:TI} {B:Nat->Prop} {N n0:Nat} {R:PH} {γ:List Gh} {L:List Ob} {T:Tm} {w:World} {Q:AX->Tm->List Ob->Prop}
end
section
variable {P:Program} {ti:TI} {N n0:Nat} {L:List Ob} {T:Tm} {Q:AX->Tm->List Ob->Prop}
theorem mH {B:Nat->Prop}{R:PH}{γ:List Gh}{w:World}(hi:Inv B R γ L w){id OY k:Nat}{es:List (List SV)}{cs:List (List AC)}(hL:L[id]?=some (.row OY es k))(hn:dV es=some cs) :
  ∃ R' γ',Inv B R' γ' (L.set id .dead) w/\Ext B R R' w w/\Mv R R' γ γ' L (L.set id .dead) /\ ∀ lo n u,(SV.sl id OY lo n).rep R γ L u->bD R' u (.lst ((cs.drop lo).take n)):=by
 have O0:id<L.length:=(ap_.1 hL).1;obtain⟨g,hg⟩:∃ g,γ[id]?=some g:=⟨_,aqh (by rw[hi.len];exact O0)⟩;have QN:=hi.obj id _ _ hL hg;have hlc:=oy hn
 match g,hg,QN with
 |.none,hg,QN =>
  have he:es=[]:=QN;subst he;injection hn with hn;subst hn
  have hm:Mv R R γ (γ.set id .none) L (L.set id .dead):=Mv.setOb (PH.sub_refl _) hi.len hL (fun b e=>by rw[hg]at e;cases e) (fun _ _ e=>by cases e) (fun _ _ _ e=>by cases e);have Y4:γ.set id .none=γ:=by
   apply List.ext_getElem?;intro j;by_cases hj:j=id
   ·subst hj;rw[aqs (by rw[hi.len];exact O0),hg]
   ·rw[aqt (Ne.symm hj)]
  rw[Y4]at hm;refine⟨R,γ,⟨by simp[hi.len],hi.val,fun j y h hy hh=>?_,hi.inj,hi.new,hi.bsz⟩,Ext.refl _ _ _,hm,fun lo n u hu=>?_⟩
  ·by_cases hj:j=id
   ·subst hj
    rw[aqs O0]at hy;injection hy with hy;subst hy
    rw[hg]at hh;injection hh with hh;subst hh
    trivial
   ·rw[aqt (Ne.symm hj)]at hy
    exact(hi.obj j y h hy hh).mv hm (fun _ _=>rfl) (fun _ _ _ e=>e)
  ·obtain⟨_,_,PE⟩:=hu
   obtain⟨_,g',Q0,Px⟩:=(PE _ [] k hL).2 rfl;rw[hg]at Q0;injection Q0 with Q0;subst Q0
   obtain⟨⟨a0,rfl,_⟩,rfl,rfl⟩:=Px;exact dq _ _ _
 |.arr b c,hg,QN =>
  obtain⟨vs,E,hb,hE,PN,hle,hk,PI,UC⟩:=ge hi hL hg;have XD:es.length*k<=c*k:=aqL _ hle;have Q2:∀ b' o u,R b' o=some u->(if b'=b/\o<es.length*k then vs[o]? else R b' o)=some u:=by
   intro b' o u h;by_cases hc:b'=b/\o<es.length*k
   ·exfalso;rw[hc.1,UC]at h;cases h
   ·rw[if_neg hc];exact h
  let R':PH:=R.put (fun b' o=>if b'=b/\o<es.length*k then vs[o]? else R b' o) Q2
  have Ri:PH.sub R R':=Q2;obtain⟨i1,i2⟩:=hi.kill hL hg rfl (fun b e=>by cases e) (R':=R') (w':=w) Ri (fun _ _=>rfl) rfl (fun b' o Pn=>by show(if b'=b/\o<es.length*k then vs[o]? else R b' o)=R b' o;rw[if_neg (fun h=>Pn h.1)])
   (fun o u h=>by
    have h:(if b=b/\o<es.length*k then vs[o]? else R b o)=some u:=h;rw[cob_ hb];by_cases hc:b=b/\o<es.length*k
    ·rw[if_pos hc]at h;exact h
    ·rw[if_neg hc,UC]at h;cases h)
  have SC:=(hi.new id _ b hg rfl).1;refine⟨R',γ.set id .none,i1,⟨Kept.refl _ _,Ri,fun b' o Qa=>?_⟩,i2,fun lo n u hu=>?_⟩
  ·show(if b'=b/\o<es.length*k then vs[o]? else R b' o)=R b' o
   rw[if_neg (fun h=>SC (by rw[<- h.1];exact Qa))]
  ·obtain⟨_,_,PE⟩:=hu
   obtain⟨hln,g',Q0,Px⟩:=(PE _ es k hL).2 rfl;rw[hg]at Q0;injection Q0 with Q0;subst Q0
   have hlen:((cs.drop lo).take n).length=n:=by simp;omega
   have RO:∃ a c',u = .slice a n c'/\n<=c'/\(0<n->a=some ⟨b,lo*k,none⟩):=by
    rcases Px with Px|⟨q1,q2,a,q3⟩
    ·exact⟨_,_,Px,m0,fun _=>rfl⟩
    ·exact⟨a,0,by rw[q3,q2],m0,fun h=>by omega⟩
   obtain⟨a,c',rfl,WU,ha⟩:=RO;have h1:lo*k+n*k<=es.length*k:=by rw[<- Nat.add_mul];exact aqL _ hln
   have Y8:∀ (i:Nat) e,((cs.drop lo).take n)[i]?=some e->i<n /\ ∃ y,es[lo+i]?=some y/\ir y=some e:=by
    intro i e he;rw[aqD]at he;split at he
    ·rename_i SD
     rw[aqV]at he;obtain⟨y,g1,g2⟩:=jh hn (lo+i) e he;exact⟨SD,y,g1,g2⟩
    ·cases he
   refine .lst a n c' _ k (fun j=>(vs[lo*k+j]?).getD Go.undef) b (lo*k) hlen WU (fun e he=>?_) ha (fun j hj=>?_) (fun i e j x he hx=>?_)
   ·obtain⟨i,Rw⟩:=List.mem_iff_getElem?.1 he
    obtain⟨_,y,g1,g2⟩:=Y8 i e Rw;rw[en g2];exact PI.wide y (aqe g1)
   ·have QG:lo*k+j<vs.size:=m0
    show(if b=b/\lo*k+j<es.length*k then vs[lo*k+j]? else R b (lo*k+j))=_;rw[if_pos ⟨rfl,m0⟩,aqy QG];rfl
   ·obtain⟨SD,y,g1,g2⟩:=Y8 i e he
    have TP:j<k:=by rw[<- PI.wide y (aqe g1),<- en g2];exact(ap_.1 hx).1
    have hlt3:=pp SD TP;have QG:lo*k+(i*k+j)<vs.size:=m0
    have hyj:j<y.length:=by rw[PI.wide y (aqe g1)];exact TP
    have hr:=PI.rep (lo+i) y j vs[lo*k+(i*k+j)] _ g1 (by
     rw[aqD,if_pos (by rw[Nat.add_mul];omega),Nat.add_mul,Nat.add_assoc];simp[QG]) (aqh hyj)
    have:=SV.norm_rep hr (ji g2 j _ _ (aqh hyj) hx);show bD R' ((vs[lo*k+(i*k+j)]?).getD Go.undef) x;rw[aqy QG];exact bD.mono Ri this
theorem iV {c:Code}(id t:Nat){OY k n:Nat}{es:List (List SV)}{cs:List (List AC)}(hL:L[id]?=some (.row OY es k))(hn:dV es=some cs)(ht:T.lookup t=some (.one (.sl id OY 0 n)))(hlen:cs.length=n)(h:Aw P N n0 c Q ((t,.one (.c (.lst cs)))::T) (L.set id .dead)):Aw P N n0 c Q T L:=by
 intro RN B R γ w a hi hT;obtain⟨R',γ',hI,hE,hM,hS⟩:=mH hi hL hn;refine wp_mono (h (by simpa using RN) B R' γ' w a hI ?_) fun _ _ _ hh=>hh.ext hE hi.len (nl.of RN hM)
 refine⟨hT.size,hT.defers,fun t' x hx=>?_⟩;rw[List.lookup_cons]at hx;by_cases e:t'=t
 ·subst e
  simp at hx;subst hx;obtain⟨u,h1,h2⟩:=hT.slot t' _ ht;refine⟨u,h1,?_⟩;have:=hS 0 n u h2;rw[List.drop_zero,<- hlen,List.take_length]at this;exact this
 ·have:(t'==t)=false:=by simpa using e
  rw[this]at hx;obtain⟨u,h1,h2⟩:=hT.slot t' x hx;exact⟨u,h1,AV.mv hM h2⟩
end
section
variable {P:Program} {ti:TI} {B:Nat->Prop} {N n0:Nat} {R:PH} {γ:List Gh} {L:List Ob} {w:World} {ρ:Operand->Option AV} {T:Tm} {Q:AX->Tm->List Ob->Prop}
theorem IY (O6:TIok P ti){l c:Operand}{t:TypeId}{E by_ n:Nat}{kl kc:IntKind}(hl:ρ l=some (.one (.c (.int kl (n:Int)))))(hc:ρ c=some (.one (.c (.int kc (n:Int)))))(ht:ti.elem t=some E)(hE:E<65536)(PN:ti.size E=some 1)(hz:ti.zero E=some (.one .emp))(Vx:ti.zok E=true)(SA:ti.bytes E=some by_)
  (OU:(by_:Int)*(n:Int)<=281474976710656) (Pz:(n:Int)<=9223372036854775807) :
  pZ P ρ L (.makeSlice t l c) (.one (.sl L.length (E+65536) 0 n)) (L++[.row (E+65536) (replicate n [.emp]) 1]):=by
 intro B R γ w ev o ho hi hρ Q1;obtain⟨dst,op,type,pos,after,guard⟩:=o;simp only at ho;subst ho;obtain⟨inf,z,PS,Rz,QF,UB⟩:=O6.zok _ Vx _ (O6.size _ _ PN);have Yd:=O6.zero _ _ hz;have hzv:∃ a,z = .slice a 0 0:=by
  unfold zeroOf at Yd;rw[PS,ap9,Rz,ap9]at Yd;exact AV.ofVal_rep (R:=R) (γ:=γ) (L:=L) Yd
 obtain⟨za,rfl⟩:=hzv;have Qb:inf.bytes=by_:=by have Q5:=O6.bytes _ _ SA;unfold kf at Q5;rw[PS]at Q5;simpa using Q5
 have W4:=(hρ _ (by simp[Op.operands,Call.operands]) _ hl);have RO:=(hρ _ (by simp[Op.operands,Call.operands]) _ hc);generalize hle:ev l=lv at W4;generalize UM:ev c=cv at RO
 cases W4;cases RO;have O8:=run_make (P:=P) w t E inf _ (jK O6 ht) PS Rz kl kc (n:Int) (n:Int) m0 (Int.le_refl _) (by rw[Qb];exact OU) Pz;have hm:Mv R R γ (γ++[.arr w.heap.size n]) L (L++[.row (E+65536) (replicate n [.emp]) 1]):=Mv.push _ _ hi.len;rw[Int.toNat_natCast,QF,Nat.mul_one]at O8;refine⟨w.alloc (.cells (madeCells (Value.slice za 0 0).cells n) E),R,_,.inl ⟨.slice (some ⟨w.heap.size,0,none⟩) n n,by simp[execOp,hle,UM,O8],⟨rfl,rfl⟩,m5,fun QH S1 k2 e2=>?_⟩,?_,⟨Kept.alloc hi.bsz _,PH.sub_refl _,fun _ _ _=>rfl⟩,hm⟩
 ·rw[aqf m0]at e2
  simp at e2;obtain⟨q1,q2,q3⟩:=e2;subst q1 q2 q3;refine⟨aqo _,fun _=>⟨m5,.arr w.heap.size n,by rw[<- hi.len];simp,.inl ?_⟩⟩;simp
 ·refine hi.push _ _ _ rfl ⟨⟨_,E,⟨dt w _,by show(E:Nat)=(E+65536)%65536;omega,by show 65536<=(E:Nat)+65536;omega⟩,by rw[size_madeCells,Nat.mul_one],fun i e j u x he hu hx=>?_⟩,m5,m0,by intro e he;rw[List.eq_of_mem_replicate he];rfl,fun o=>hi.none_at o⟩
  have he2:=List.eq_of_mem_replicate (aqe he);subst he2;have hj:j=0:=by have:=(ap_.1 hx).1;simp at this;omega
  subst hj;simp at hx;subst hx;have TN:u∈(madeCells (Value.slice za 0 0).cells n).toList:=by
   rw[aqT]at hu;obtain⟨h1,h2⟩:=hu;rw[<- h2];simp
  rw[show(Value.slice za 0 0).cells=#[Value.slice za 0 0]from rfl,toList_madeCells_one]at TN;rw[List.eq_of_mem_replicate TN];exact⟨za,rfl⟩
theorem ahR {c:Code}(id i k:Nat){OY:Nat}{es:List (List SV)}(hid:L[id]?=some (.row OY es 1))(he:es[i]?=some [.emp])(h:Aw P N n0 c Q T (L.set id (.row OY (es.set i [.own [] L.length]) 1)++[.spare 0 k])):Aw P N n0 c Q T L:=by
 intro hn B R γ w a hi hT;have O0:=(ap_.1 hid).1;have hm:Mv R R γ (γ++[.none]) L (L.set id (.row OY (es.set i [.own [] L.length]) 1)++[.spare 0 k]):=by
  refine⟨PH.sub_refl _,m5,fun t n k' PU e=>⟨n,?_,aqo _,fun _=>?_⟩,fun t Pl UD k' PU e=>?_,fun i b e=>?_⟩
  ·rw[aqm (by simpa using PU)]at e
   have Pn:t≠id:=by rintro rfl;rw[aqs PU]at e;cases e
   rw[aqt (Ne.symm Pn)]at e;exact e
  ·rw[aqm (by rw[hi.len];exact PU)]
  ·rw[aqm (by simpa using PU)]at e
   by_cases Pn:t=id
   ·subst Pn
    rw[aqs PU]at e;injection e with e
    injection e with e1 e2 e3
    subst e1 e2 e3;exact⟨OY,es,hid,aqo _,fun _=>⟨m5,aqm (by rw[hi.len];exact PU)⟩⟩
   ·rw[aqt (Ne.symm Pn)]at e
    exact⟨Pl,UD,e,aqo _,fun _=>⟨rfl,aqm (by rw[hi.len];exact PU)⟩⟩
  ·rw[aqm (ap_.1 e).1];exact e
 refine wp_mono (h m8 B R (γ++[.none]) w a ?_ (hT.mv hm)) fun _ _ _ hh=>hh.ext (Ext.refl _ _ _) hi.len (nl.of hn hm)
 have Pj:∀ j h,(γ++[Gh.none])[j]?=some h->(j=γ.length/\h = .none)\/(j<γ.length/\γ[j]?=some h):=by
  intro j h hh;by_cases hid:j<γ.length
  ·rw[aqm hid]at hh;exact .inr ⟨hid,hh⟩
  ·have:j=γ.length:=by have:=(ap_.1 hh).1;simp at this;omega
   subst this;rw[aqf m0]at hh;simp at hh;exact .inl ⟨rfl,hh.symm⟩
 have it:=hi.tok k;refine⟨by simp[hi.len],hi.val,fun q y g hy hg=>?_,it.inj,it.new,hi.bsz⟩;rcases Pj q g hg with⟨rfl,rfl⟩|⟨UG,Q0⟩
 ·rw[aqf (by simp[hi.len])]at hy
  simp[hi.len]at hy;subst hy;rfl
 ·rw[aqm (by simp;rw[<- hi.len];exact UG)]at hy
  by_cases UW:q=id
  ·subst UW
   rw[aqs O0]at hy;injection hy with hy;subst hy
   have QN:=hi.obj q _ _ hid Q0
   match g,QN with
   |.arr b cp,⟨⟨vs,E,h1,h2,h3⟩,h4,h5,h6,h7⟩ =>
    refine⟨⟨vs,E,h1,h2,fun i' e j u x QO hu hx=>?_⟩,by simpa using h4,h5,?_,h7⟩
    ·by_cases hq:i'=i
     ·subst hq
      rw[aqs (ap_.1 he).1]at QO;injection QO with QO;subst QO
      have hj:j=0:=by have:=(ap_.1 hx).1;simp at this;omega
      subst hj;simp at hx;subst hx;obtain⟨ad,rfl⟩:=h3 i' _ 0 u .emp he hu rfl;exact⟨dq _ _ _,m5,fun n2 k2 _=>⟨m5,m5,fun _=>⟨.none,by rw[<- hi.len];simp,ad,m5⟩⟩⟩
     ·rw[aqt (Ne.symm hq)]at QO
      exact SV.mv hm (h3 i' e j u x QO hu hx)
    ·intro e QO
     rcases List.mem_or_eq_of_mem_set QO with h8|h8
     ·exact h6 e h8
     ·subst h8;rfl
   |.none,QN =>
    have YJ:es=[]:=QN;subst YJ;simp at he
  ·rw[aqt (Ne.symm UW)]at hy
   exact(hi.obj q y g hy Q0).mv hm (fun _ _=>rfl) (fun _ _ _ h=>h)
def kI:Nat->List (List (List AC))->List (List SV)
 |_,[]=>[]
 |t,es::ps=>[.own es t]::kI (t+1) ps
def xF (k:Nat)(ps:List (List (List AC))):List Ob:=ps.map fun es => .spare es.length k
theorem LN:∀ (ps:List (List (List AC))) (t i:Nat) (es:List (List AC)),ps[i]?=some es->(kI t ps)[i]?=some [.own es (t+i)]
 |[],t,i,es,h=>by simp at h
 |p::ps,t,0,es,h=>by simp at h;subst h;rfl
 |p::ps,t,i+1,es,h=>by
  have:=LN ps (t+1) i es (by simpa using h);show(kI (t+1) ps)[i]?=_;rw[this,show t+1+i=t+(i+1)by omega]
theorem MD:∀ (ps:List (List (List AC))) (t i:Nat) (es:List (List AC)),(kI t ps).set i [.own es (t+i)]=kI t (ps.set i es)
 |[],t,i,es=>by simp[kI]
 |p::ps,t,0,es=>rfl
 |p::ps,t,i+1,es=>by
  have:=MD ps (t+1) i es;show [.own p t]::(kI (t+1) ps).set i _=[.own p t]::kI (t+1) (ps.set i es);rw[<- this,show t+(i+1)=t+1+i by omega]
theorem N4:∀ (ps:List (List (List AC))) (t:Nat) (e:List SV),e∈kI t ps ->∃ es i,i<ps.length/\e=[.own es (t+i)]
 |[],t,e,h=>by cases h
 |p::ps,t,e,h=>by
  rcases aqp.1 h with h|h
  ·exact⟨p,0,m5,h⟩
  ·obtain⟨es,i,hi,h2⟩:=N4 ps (t+1) e h
   exact⟨es,i+1,by simp;omega,by rw[h2,show t+1+i=t+(i+1)by omega]⟩
theorem H5:∀ (ps:List (List (List AC))) (t:Nat),dV (kI t ps)=some (ps.map fun es=>[.lst es])
 |[],t=>rfl
 |p::ps,t=>by
  have:=H5 ps (t+1);show dV ([.own p t]::kI (t+1) ps)=_;simp only[dV,this,ir,SV.norm,aqj]
theorem aaO (v:Nat)(ps:List (List (List AC)))(t n:Nat)(h:t+ps.length<=n):(Ob.row v (kI t ps) 1).below n:=by
 intro e he x hx;obtain⟨es,i,hi,rfl⟩:=N4 ps t e he;simp at hx;subst hx;show t+i<n;omega
theorem adw {c:Code}(id k OY:Nat):∀ (n:Nat) (pre:List (List SV)) (L:List Ob),L[id]?=some (.row OY (pre++replicate n [.emp]) 1) ->
  Aw P N n0 c Q T (L.set id (.row OY (pre++kI L.length (replicate n [])) 1)++xF k (replicate n []))->Aw P N n0 c Q T L
 |0,pre,L,hL,h=>by
  have e:L.set id (.row OY (pre++kI L.length (replicate 0 [])) 1)++xF k (replicate 0 [])=L:=by
   obtain⟨h1,h2⟩:=ap_.1 hL;have:pre++kI L.length (replicate 0 [])=pre++replicate 0 [SV.emp]:=rfl;rw[this,show xF k (replicate 0 [])=[]from rfl,aqI,<- h2,List.set_getElem_self]
  rw[e]at h;exact h
 |n+1,pre,L,hL,h=>by
  have O0:=(ap_.1 hL).1;refine ahR id pre.length k hL (by simp[List.replicate_succ]) ?_;refine adw id k OY n (pre++[[.own [] L.length]]) _ (by
   rw[aqm (by simpa using O0),aqs O0,List.replicate_succ,List.set_append_right _ _ (aqo _),Nat.sub_self,List.set_cons_zero,aqA];rfl) ?_
  have e1:(L.set id (.row OY ((pre++replicate (n+1) [SV.emp]).set pre.length [.own [] L.length]) 1)++[Ob.spare 0 k]).length=L.length+1:=by simp
  rw[e1,List.set_append_left _ _ (by simpa using O0),List.set_set,aqA,aqA];exact h
end
section
variable {P:Program} {ti:TI} {N:Nat} {ds:List (Option Tmp)} {K:Tm->List Ob->Prop} {rest:List Oper} {o:Oper} {T:Tm} {L:List Ob}
theorem akB {t tx:TypeId}{s x:Operand}{es xs:List (List AC)}{i n k E by_ d:Nat}{vx:AV}{L':List Ob}(hd:o.dst=some d)(hN:Nat.blt d N=true)(hg:fR ds T o.guard=some true)(ho:o.op = .call { callee := .builtin .append,args :=#[s,x],argTypes :=#[t,tx] })
  (hs:look T s=some (.one (.own es i))) (hx:look T x=some vx) (hl:dx vx=some xs) (ht:ti.elem t=some E) (hk:ti.size E=some k) (hb:ti.bytes E=some by_) (hL:L[i]?=some (.spare n k))
  (hφ:(ti.elem tx).isSome/\k=k/\es.length=n/\(ti.zok E=true/\0<k)/\(∀ e∈xs,e.length=k)/\(n+xs.length)*by_<=140737488355328/\n+xs.length<=140737488355328) (Wa:L.set i (.spare (n+xs.length) k)=L')
  (h:aI P ti N ds K rest ((d,.one (.own (es++xs) i))::T) L'):aI P ti N ds K (o::rest) T L:=by
 refine st_lop (v := .one (.own (es++xs) i)) hd hN hg ?_ hφ h;rw[ho];simp only[zM,hs,hx,rF,hl,ht,hk,hb,hL,Wa]
end
def unC (id:Nat)(ts:List AC):Cap->Cap
 |.ptr i off=>if i=id then .c (.ref (ts.drop off))else .ptr i off
 |.c x => .c x
def unS (id:Nat)(ts:List AC):SV->SV
 |.ptr i off=>if i=id then .c (.ref (ts.drop off))else .ptr i off
 |.clo f caps=>match qB (caps.map (unC id ts))with
  |some cs => .c (.fn f cs)
  |none => .clo f (caps.map (unC id ts))
 |x=>x
def unA (id:Nat)(ts:List AC):AV->AV
 |.one x => .one (unS id ts x)
 |.agg xs => .agg (xs.map (unS id ts))
 |v=>v
section
variable {P:Program} {ti:TI} {B:Nat->Prop} {N n0:Nat} {R:PH} {γ:List Gh} {L:List Ob} {T:Tm} {w:World} {Q:AX->Tm->List Ob->Prop}
theorem r7 (hi:Inv B R γ L w){id:Nat}{cs:List SV}{ts:List AC}(hL:L[id]?=some (.box cs))(hn:ir cs=some ts) :
  ∃ R',Inv B R' γ (L.set id .dead) w/\Ext B R R' w w/\Mv R R' γ γ L (L.set id .dead) /\ ∀ off u,(SV.ptr id off).rep R γ L u->bD R' u (.ref (ts.drop off)):=by
 have O0:id<L.length:=(ap_.1 hL).1;obtain⟨g,hg⟩:∃ g,γ[id]?=some g:=⟨_,aqh (by rw[hi.len];exact O0)⟩;have QN:=hi.obj id _ _ hL hg
 match g,hg,QN with
 |.box b,hg,QN =>
  obtain⟨⟨vs,E,hb,PN,R7⟩,UC⟩:=QN;have Q2:∀ b' o u,R b' o=some u->(if b'=b then vs[o]? else R b' o)=some u:=by
   intro b' o u h;by_cases hc:b'=b
   ·exfalso;rw[hc,UC]at h;cases h
   ·rw[if_neg hc];exact h
  let R':PH:=R.put (fun b' o=>if b'=b then vs[o]? else R b' o) Q2
  have Ri:PH.sub R R':=Q2;have V9:∀ o,R' b o=vs[o]?:=fun o=>by show(if b=b then vs[o]? else R b o)=_;rw[if_pos rfl]
  have WV:∀ b' o,b'≠b->R' b' o=R b' o:=fun b' o h=>by show(if b'=b then vs[o]? else R b' o)=_;rw[if_neg h]
  have W6:∀ (t:Nat) x,(L.set id .dead)[t]?=some x->x ≠ .dead->L[t]?=some x:=by
   intro t x hx Pn;by_cases ht:t=id
   ·subst ht;rw[aqs O0]at hx;injection hx with hx;exact absurd hx.symm Pn
   ·rwa[aqt (Ne.symm ht)]at hx
  have hm:Mv R R' γ γ L (L.set id .dead):=⟨Q2,m5,fun t n' k _ h=>⟨n',W6 t _ h (fun e=>by cases e),aqo _,fun _=>rfl⟩,fun t OY es k _ h=>⟨OY,es,W6 t _ h (fun e=>by cases e),aqo _,fun _=>⟨rfl,rfl⟩⟩,fun _ _ h=>h⟩;have SC:=(hi.new id _ b hg rfl).1;refine⟨R',⟨by simp[hi.len],fun b' o u h=>?_,fun j y h hy hh=>?_,hi.inj,hi.new,hi.bsz⟩,⟨Kept.refl _ _,Q2,fun b' o Qa=>WV b' o (fun e=>SC (e▸Qa))⟩,hm,fun off u hu=>?_⟩
  ·by_cases hc:b'=b
   ·subst hc;rw[V9]at h;rw[cob_ hb];exact h
   ·rw[WV _ _ hc]at h;exact hi.val _ _ _ h
  ·by_cases hj:j=id
   ·subst hj
    rw[aqs O0]at hy;injection hy with hy;subst hy
    rw[hg]at hh;injection hh with hh;subst hh
    trivial
   ·rw[aqt (Ne.symm hj)]at hy
    exact(hi.obj j y h hy hh).mv hm (fun _ _=>rfl) (fun b' o Qa e=>by rw[WV b' o (fun e'=>hi.inj j id h _ hh hg hj b' Qa (by rw[e'];rfl))];exact e)
  ·obtain⟨b2,rfl,Pz⟩:=hu
   rw[hg]at Pz;injection Pz with Pz;injection Pz with Pz;subst Pz
   have hlen:=en hn;refine .ref b off (ts.drop off) (fun j=>(vs[off+j]?).getD Go.undef) (fun j hj=>?_) (fun j x hx=>?_)
   ·have QG:off+j<vs.size:=by rw[List.length_drop]at hj;omega
    rw[V9,aqy QG];rfl
   ·rw[aqV]at hx
    have hlt3:off+j<ts.length:=(ap_.1 hx).1;have QG:off+j<vs.size:=m0
    have hcj:off+j<cs.length:=m0
    show bD R' ((vs[off+j]?).getD Go.undef) x;rw[aqy QG];exact bD.mono Ri (SV.norm_rep (R7 (off+j) _ _ (aqy QG) (aqh hcj)) (ji hn (off+j) _ _ (aqh hcj) hx))
theorem akc {R':PH}{L':List Ob}{id:Nat}{ts:List AC}(hS:∀ off u,(SV.ptr id off).rep R γ L u->bD R' u (.ref (ts.drop off)))(hM:Mv R R' γ γ L L'){x:Cap}{u:Value}(h:x.rep R γ u):(unC id ts x).rep R' γ u:=by
 cases x with
 |c x=>exact Cap.mv hM.sub hM.ptr h
 |ptr i off =>
  unfold unC;dsimp only;split
  ·rename_i e;subst e;exact hS off u h
  ·exact Cap.mv hM.sub hM.ptr h
theorem acx {R':PH}{L':List Ob}{id:Nat}{ts:List AC}(hS:∀ off u,(SV.ptr id off).rep R γ L u->bD R' u (.ref (ts.drop off)))(hM:Mv R R' γ γ L L'){x:SV}{u:Value}(h:x.rep R γ L u):(unS id ts x).rep R' γ L' u:=by
 cases x with
 |ptr i off =>
  unfold unS;dsimp only;split
  ·rename_i e;subst e;exact hS off u h
  ·exact SV.mv hM h
 |clo f caps =>
  obtain⟨vs,rfl,PN,hc⟩:=h;have Yl:∀ (j:Nat) u x,vs[j]?=some u->(caps.map (unC id ts))[j]?=some x->x.rep R' γ u:=by
   intro j u x hu hx;rw[aqw]at hx
   cases hy:caps[j]? with
   |none=>rw[hy]at hx;cases hx
   |some y=>rw[hy]at hx;cases hx;exact akc hS hM (hc j u y hu hy)
  unfold unS;dsimp only;split
  ·rename_i cs S4
   have hl:=xI S4;rw[aqk]at hl;exact .fn f vs cs (by rw[PN,hl]) (fun j v x hv hx=>Yl j v (.c x) hv (yi S4 j x hx))
  ·exact⟨vs,rfl,by rw[PN,aqk],Yl⟩
 |c x=>exact SV.mv hM h
 |emp=>exact SV.mv (x := .emp) hM h
 |own es t=>exact SV.mv (x := .own es t) hM h
 |sl i v l n=>exact SV.mv (x := .sl i v l n) hM h
 |ep i v j o=>exact SV.mv (x := .ep i v j o) hM h
 |mp i=>exact SV.mv (x := .mp i) hM h
theorem ace {R':PH}{L':List Ob}{id:Nat}{ts:List AC}(hS:∀ off u,(SV.ptr id off).rep R γ L u->bD R' u (.ref (ts.drop off)))(hM:Mv R R' γ γ L L'){x:AV}{u:Value}(h:x.rep R γ L u):(unA id ts x).rep R' γ L' u:=by
 cases x with
 |one x=>exact acx hS hM h
 |agg xs =>
  obtain⟨vs,rfl,PN,hc⟩:=h;refine⟨vs,rfl,by rw[PN,aqk],fun j u x hu hx=>?_⟩;rw[aqw]at hx
  cases hy:xs[j]? with
  |none=>rw[hy]at hx;cases hx
  |some y=>rw[hy]at hx;cases hx;exact acx hS hM (hc j u y hu hy)
 |tup ps=>exact AV.mv (x := .tup ps) hM h
 |tupS xs=>exact AV.mv (x := .tupS xs) hM h
 |undef=>exact AV.mv (x := .undef) hM h
theorem jY {f:AV->AV}:∀ {T:Tm} {t:Nat} {x:AV},(T.map fun p=>(p.1,f p.2)).lookup t=some x ->∃ y,T.lookup t=some y/\x=f y
 |[],t,x,h=>by cases h
 |p::T,t,x,h=>by
  rw[aqj,List.lookup_cons]at h;rw[List.lookup_cons];by_cases e:t=p.1
  ·subst e;simp at h;exact⟨p.2,m5,h.symm⟩
  ·have e':(t==p.1)=false:=by simpa using e
   rw[e']at h ⊢;exact jY h
theorem aS {c:Code}(id:Nat){cs:List SV}{ts:List AC}(hL:L[id]?=some (.box cs))(hn:ir cs=some ts)(h:Aw P N n0 c Q (T.map fun p=>(p.1,unA id ts p.2)) (L.set id .dead)):Aw P N n0 c Q T L:=by
 intro RN B R γ w a hi hT;obtain⟨R',hI,hE,hM,hS⟩:=r7 hi hL hn;refine wp_mono (h (by simpa using RN) B R' γ w a hI ?_) fun _ _ _ hh=>hh.ext hE hi.len (nl.of RN hM)
 refine⟨hT.size,hT.defers,fun t x hx=>?_⟩;obtain⟨y,hy,rfl⟩:=jY hx;obtain⟨u,h1,h2⟩:=hT.slot t y hy;exact⟨u,h1,ace hS hM h2⟩
def thS (id OY:Nat)(cs:List (List AC)):SV->SV
 |.sl VQ Pl lo n=>if VQ=id/\Pl=OY then .c (.lst ((cs.drop lo).take n))else .sl VQ Pl lo n
 |x=>x
def thA (id OY:Nat)(cs:List (List AC)):AV->AV
 |.one x => .one (thS id OY cs x)
 |.agg xs => .agg (xs.map (thS id OY cs))
 |v=>v
theorem A5 {R':PH}{γ':List Gh}{L':List Ob}{id OY:Nat}{cs:List (List AC)}(hS:∀ lo n u,(SV.sl id OY lo n).rep R γ L u->bD R' u (.lst ((cs.drop lo).take n)))(hM:Mv R R' γ γ' L L'){x:SV}{u:Value}(h:x.rep R γ L u):(thS id OY cs x).rep R' γ' L' u:=by
 cases x with
 |sl i v l n =>
  unfold thS;dsimp only;split
  ·rename_i e;obtain⟨rfl,rfl⟩:=e;exact hS l n u h
  ·exact SV.mv hM h
 |c x=>exact SV.mv hM h
 |emp=>exact SV.mv (x := .emp) hM h
 |own es t=>exact SV.mv (x := .own es t) hM h
 |ptr i o=>exact SV.mv (x := .ptr i o) hM h
 |ep i v j o=>exact SV.mv (x := .ep i v j o) hM h
 |mp i=>exact SV.mv (x := .mp i) hM h
 |clo f caps=>exact SV.mv (x := .clo f caps) hM h
theorem pD {c:Code}(id:Nat){OY k:Nat}{es:List (List SV)}{cs:List (List AC)}(hL:L[id]?=some (.row OY es k))(hn:dV es=some cs)(h:Aw P N n0 c Q (T.map fun p=>(p.1,thA id OY cs p.2)) (L.set id .dead)):Aw P N n0 c Q T L:=by
 intro RN B R γ w a hi hT;obtain⟨R',γ',hI,hE,hM,hS⟩:=mH hi hL hn;refine wp_mono (h (by simpa using RN) B R' γ' w a hI ?_) fun _ _ _ hh=>hh.ext hE hi.len (nl.of RN hM)
 refine⟨hT.size,hT.defers,fun t x hx=>?_⟩;obtain⟨y,hy,rfl⟩:=jY hx;obtain⟨u,h1,h2⟩:=hT.slot t y hy;refine⟨u,h1,?_⟩
 cases y with
 |one x=>exact A5 hS hM h2
 |agg xs =>
  obtain⟨vs,rfl,PN,hc⟩:=h2;refine⟨vs,rfl,by rw[PN,aqk],fun j u x hu hx=>?_⟩;rw[aqw]at hx
  cases hy:xs[j]? with
  |none=>rw[hy]at hx;cases hx
  |some y=>rw[hy]at hx;cases hx;exact A5 hS hM (hc j u y hu hy)
 |tup ps=>exact AV.mv (x := .tup ps) hM h2
 |tupS xs=>exact AV.mv (x := .tupS xs) hM h2
 |undef=>exact AV.mv (x := .undef) hM h2
end
