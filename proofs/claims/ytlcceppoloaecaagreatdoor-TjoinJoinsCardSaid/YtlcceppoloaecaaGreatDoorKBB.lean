/- Parts. No condition. -/
import Derived.Test.YtlcceppoloaecaaGreatDoorKAY
import Derived.Test.YtlcceppoloaecaaGreatDoorKAZ
import Derived.Test.YtlcceppoloaecaaGreatDoorKBA
set_option linter.unusedSimpArgs false
set_option linter.unusedVariables false
namespace Go.Proofs.YtlcceppoloaecaaGreatDoor.St
open Go.RowKit
def ij (l:List (Int×Int))(p:Int×Int):List (Int×Int):=l.takeWhile (λq=>decide (fQ q p≤0))++p::l.dropWhile (λq=>decide (fQ q p≤0))
def tt (l:List (Int×Int)):List (Int×Int):=(gm l).foldl ij []
theorem vR (p q:Int×Int):fQ p q≤0↔dM p q:=by
 obtain⟨a,b⟩:=p;obtain⟨c,d⟩:=q;unfold fQ dM;simp only[Prod.mk.injEq];split
 ·constructor
  ·intro _;omega
  ·intro _;omega
 ·split
  ·constructor
   ·intro _;omega
   ·intro _;omega
  ·constructor
   ·intro _;omega
   ·intro _;omega
theorem dM.total (p q:Int×Int):dM p q∨dM q p:=by unfold dM;omega
theorem dM.trans {p q r:Int×Int}(h:dM p q)(g:dM q r):dM p r:=by unfold dM at *;omega
theorem dM.antisymm {p q:Int×Int}(h:dM p q)(g:dM q p):p=q:=by
 obtain⟨a,b⟩:=p;obtain⟨c,d⟩:=q;unfold dM at *;simp only at h g;rw[Prod.mk.injEq];omega
theorem u9 (l:List (Int×Int))(p:Int×Int):(ij l p).Perm (p::l):=by
 unfold ij;refine List.perm_middle.trans ?_;rw[List.takeWhile_append_dropWhile]
theorem yq {l:List (Int×Int)}(h:l.Pairwise dM)(p:Int×Int):(ij l p).Pairwise dM:=by
 unfold ij
 induction l with
 |nil=>simp
 |cons a l ih =>
  rw[List.pairwise_cons]at h;by_cases hap:fQ a p≤0
  ·rw[List.takeWhile_cons_of_pos (by simpa using hap),List.dropWhile_cons_of_pos (by simpa using hap),List.cons_append,List.pairwise_cons]
   refine⟨λb hb=>?_,ih h.2⟩;have hb2:b∈p::l:=(u9 l p).mem_iff.1 hb;obtain e|e:=List.mem_cons.1 hb2
   ·subst e;exact(vR _ _).1 hap
   ·exact h.1 b e
  ·rw[List.takeWhile_cons_of_neg (by simpa using hap),List.dropWhile_cons_of_neg (by simpa using hap),List.nil_append,List.pairwise_cons]
   have hpa:dM p a:=(dM.total p a).resolve_right λg=>hap ((vR _ _).2 g)
   refine⟨λb hb=>?_,List.pairwise_cons.2 h⟩;obtain e|e:=List.mem_cons.1 hb
   ·subst e;exact hpa
   ·exact hpa.trans (h.1 b e)
theorem kK:∀ (X acc:List (Int×Int)),acc.Pairwise dM→(X.foldl ij acc).Pairwise dM∧(X.foldl ij acc).Perm (acc++X)
 |[],acc,h=>⟨h,m5⟩
 |p::X,acc,h=>by
  obtain⟨h1,h2⟩:=kK X (ij acc p) (yq h p);refine⟨h1,h2.trans ?_⟩;refine((u9 acc p).append_right X).trans ?_;exact(List.perm_middle (l₁:=acc) (l₂:=X) (a:=p)).symm
theorem zl:∀ {a b:List (Int×Int)},a.Pairwise dM→b.Pairwise dM→a.Perm b→a=b
 |[],b,_,_,h=>(List.nil_perm.1 h).symm▸rfl
 |x::a,[],_,_,h=>by simpa using h.length_eq
 |x::a,y::b,ha,hb,h=>by
  rw[List.pairwise_cons]at ha hb;have hxy:x=y:=by
   have h1:x∈y::b:=h.mem_iff.1 m5;have h2:y∈x::a:=h.mem_iff.2 m5;obtain e|e:=List.mem_cons.1 h1
   ·exact e
   ·obtain e2|e2:=List.mem_cons.1 h2
    ·exact e2.symm
    ·exact(ha.1 y e2).antisymm (hb.1 x e)
  subst hxy;rw[zl ha.2 hb.2 (List.Perm.cons_inv h)]
theorem wF (l:List (Int×Int)):(tt l).Pairwise dM∧(tt l).Perm (gm l):=by
 obtain⟨h1,h2⟩:=kK (gm l) [] .nil;exact⟨h1,by have h3:=h2;rw[List.nil_append]at h3;exact h3⟩
theorem abR (w0:World)(B:Nat)(h at_ n:Int)(sv ov:Value)(st out:List (Int×Int))(W:World)(H:Lv w0 W B h sv st ov out)(hpos:∀ p∈st,0<p.2)(hE:((ex st).length:Int)=h)(hn0:0≤n)(hn2:n≤1048576)(hh:h≤1048576)(hout:out.length≤1000000) :
  Calls Tryz.prog 203 #[.int .i64 at_,.int .i64 n,.pointer (some ⟨B+2,0,none⟩),.pointer (some ⟨B+1,0,none⟩),.pointer (some ⟨B,0,none⟩)] W (Im w0 B at_ n st out):=by
 by_cases hlt:h<n
 ·exact ajL w0 B h at_ n sv ov st out W H hpos hE hn2 hlt
 ·exact aem w0 B h at_ n sv ov st out W H hpos hE hn0 hh m0 hout
theorem Lv.start (w:World):Lv w (((w.alloc (.cells #[.slice none 0 0] 83)).alloc (.cells #[.slice none 0 0] 195)).alloc (.cells #[.int .i64 0] 3)) w.heap.size 0 (.slice none 0 0) [] (.slice none 0 0) []:=by
 refine⟨xQ _ _ _ m5,?_,Own.nil _ _,?_,Own.nil _ _,?_,m5⟩
 ·rw[Below.heap_alloc _ _ _ m5];exact xQ _ _ _ m5
 ·rw[Below.heap_alloc _ _ _ m8,Below.heap_alloc _ _ _ m5];exact xQ _ _ _ rfl
 ·exact((wx _ _).alloc m5 _).alloc m8 _
def aiw (w wr:World)(l:List (Int×Int))(k:Nat):Prop :=
 ∃ (h:Int) (sv:Value) (st:List (Int×Int)) (ov:Value) (out:List (Int×Int)),Lv w wr w.heap.size h sv st ov out∧(∀ p∈st,0<p.2)∧ex st=(kO l k).1∧((ex st).length:Int)=h∧out.Perm (kO l k).2
theorem yL {l:List (Int×Int)}(ha:Asc l)(hF:∀ s∈l,s.1<1099511627776)(hM:∀ s∈l,s.2≤600):∀ k,k≤l.length→(kO l k).2.length≤600*k
 |0,_=>by simp[kO]
 |k+1,hk=>by
  have h1:=yL ha hF hM k m0;have h2:=(wq ha hF hM k m0).1;obtain⟨x,y,hx⟩:∃ x y,l[k]?=some (x,y):=⟨l[k].1,l[k].2,by rw[List.getElem?_eq_getElem m0]⟩;rw[nt hx];simp[wS];omega
set_option maxRecDepth 100000 in
set_option maxHeartbeats 4000000 in
theorem adT (A:Option Addr)(n c:Nat)(l:List (Int×Int))(w:World)(ha:Rd e2 2 w w.heap.size A n l)(hn:n≤1000)(hasc:Asc l)(hF:∀ s∈l,s.1<1099511627776)(hM:∀ s∈l,s.2≤600) :
  Calls Tryz.prog 147 #[.slice A n c] w λe w' =>∃ A' m' c',e = .returned (.slice A' m' c')∧Own e2 2 53 w' w.heap.size (.slice A' m' c') (tt l)∧Gr w w':=by
 have hlen:=Lib.hid ha.1;have HA:=Lib.hid hasc;have HF:=Lib.hid hF;have HM:=Lib.hid hM;have hst0:=Lib.hid (show aiw w _ l 0 from⟨0,_,[],_,[],Lv.start w,m5,rfl,rfl,.refl _⟩);clear hasc hF hM
 go_enter Tryz.func147,Tryz.ntmps147
 go_wp2_with fail
 go_loopw [12] (λi wr =>∃ (k:Nat),k≤n∧i = .int .i64 k∧Hid (aiw w wr l k)) (λi _=>n-(intOf i).toNat)
 case atStart=>exact⟨0,Nat.zero_le _,rfl,hst0⟩
 case round =>
  obtain⟨k,hk,rfl,HS⟩:=hrel;obtain⟨h,sv,st,ov,out,H,hp,hex,hE,hperm⟩:=HS.out;have hbd:=yL HA.out HF.out HM.out k (by rw[hlen.out];exact hk);have hob:out.length≤600000:=by rw[hperm.length_eq];omega
  have hl12:=(wq HA.out HF.out HM.out k (by rw[hlen.out];exact hk)).1;have hh12:h≤600:=by rw[← hE,hex];omega
  have hsz:=H.siz;by_cases hlt:k<n
  ·obtain⟨b1,o1,x1,y1,hA1,hb1,hx1,d1,d2⟩:=(ha.below H.bel).at2 hlt
   cases hA1;have hstep:=Lib.hid (nt hx1);have hy12:y1≤600:=HM.out (x1,y1) (List.mem_of_getElem? hx1);clear hx1;have HC:=Lib.hid (H.alloc (.cells #[.int .i64 x1,.int .i64 y1] 201));have hcl:=Lib.hid (show mq y1=(min (max y1 0) 1048576).toNat by unfold mq;split<;>omega);have hcb:0≤min (max y1 0) 1048576∧min (max y1 0) 1048576≤1048576:=m0
   go_wp2_with fail;generalize min (max y1 0) 1048576=z at hcl hcb ⊢;have hcon:=abR w w.heap.size h x1 z sv ov st out _ HC.out hp hE hcb.1 hcb.2 m0 m0;rw[show w.heap.size+2=w.heap.size+1+1 from rfl]at hcon;refine hcon.mono ?_;clear hcon;rintro e w2 ⟨rfl,sv2,st2,ov2,out2,H2,hp2,hex2,hperm2⟩;have hS2:aiw w w2 l (k+1):=by
    refine⟨z,sv2,st2,ov2,out2,H2,hp2,?_,?_,?_⟩
    ·rw[hex2,hstep.out,hex];show _=yT _ _ _;rw[hcl.out]
    ·rw[hex2,nX];omega
    ·refine hperm2.trans ?_
     rw[hstep.out,hex];show List.Perm _ ((kO l k).2++_);rw[hcl.out];exact hperm.append_right _
   clear hperm2 hex2 hp2 hperm hex hp hE H;go_wp2_with fail
   go_roundw
   case rel=>exact⟨k+1,m0,by go_num,hS2⟩
   case measure=>simp[intOf];omega
  ·obtain rfl:k=n:=m0
   rw[← hlen.out]at hex hperm;go_wp2_with fail;have hcon:=abR w w.heap.size h 1099511627776 0 sv ov st out _ H hp hE m0 m0 m0 m0;rw[show w.heap.size+2=w.heap.size+1+1 from rfl]at hcon;refine hcon.mono ?_;clear hcon;rintro e w2 ⟨rfl,sv2,st2,ov2,out2,H2,hp2,hex2,hperm2⟩;have hpD:out2.Perm (tt l):=by
    refine hperm2.trans (List.Perm.trans ?_ ((EO HA.out HF.out HM.out).trans (wF l).2.symm));rw[hex];exact hperm.append_right _
   obtain⟨Ao,co,hov⟩:=H2.oown.form;have hol:out2.length≤700000:=by
    have q1:=hperm2.length_eq;simp at q1;have q2:((ex st).length:Int)≤600:=m0
    omega
   generalize hno:out2.length=no at hov;subst hov;have i5:=cell_of_one H2.ou;have hsz2:=H2.siz;clear hno;go_wp2_with fail;refine(vv (w.heap.size+3) Ao no co out2 _ H2.oown (by have:=H2.oown.len;omega) hsz2).mono ?_;rintro e w3 ⟨rfl,l',hp3,hs3,hown3,hbel3⟩;have i6:=(hbel3.cell (p:=⟨w.heap.size,0,none⟩) (by show w.heap.size<w.heap.size+3;omega)).trans i5;have hll:=Lib.hid (zl hs3 (wF l).1 (hp3.trans hpD));have hG:Gr w w3:=H2.bel.trans (hbel3.mono m0);clear i5;go_wp2_with fail
   go_ret
   exact⟨_,_,_,rfl,by rw[← hll.out];exact hown3.mono m0,hG⟩
