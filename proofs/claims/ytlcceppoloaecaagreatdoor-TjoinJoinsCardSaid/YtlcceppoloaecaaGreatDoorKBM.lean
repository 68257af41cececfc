/- Parts. No condition. -/
import Derived.ProofKit
import Derived.OpenShut
import Derived.ChangeOld
import Derived.Deep.Slices
import Derived.Test.YtlcceppoloaecaaGreatDoorKBL
set_option linter.unusedSimpArgs false
set_option linter.unusedVariables false
namespace Go.Proofs.YtlcceppoloaecaaGreatDoor
open _root_.List (replicate)
open Go.RowKit Go.MapKept
set_option maxRecDepth 100000
theorem yd {α:Type}:∀ {l:List α},l.length=2 ->∃ c0 c1,l=[c0,c1]
 |[c0,c1],_=>⟨c0,c1,rfl⟩
theorem aeA {α:Type}:∀ {l:List α},l.length=3 ->∃ c0 c1 c2,l=[c0,c1,c2]
 |[c0,c1,c2],_=>⟨c0,c1,c2,rfl⟩
theorem amP {α:Type}:∀ {l:List α},l.length=7 ->∃ c0 c1 c2 c3 c4 c5 c6,l=[c0,c1,c2,c3,c4,c5,c6]
 |[c0,c1,c2,c3,c4,c5,c6],_=>⟨c0,c1,c2,c3,c4,c5,c6,rfl⟩
theorem addr_add (b o n:Nat):(⟨b,o,none⟩:Addr).add n=⟨b,o+n,none⟩:=by
 unfold Addr.add;split<;>simp_all
def RW {W:World}(hT:ir (λb o=>W.cell? ⟨b,o,none⟩)):PH:=⟨λb o=>W.cell? ⟨b,o,none⟩,hT⟩
def ji {W:World}(hT:ir (λb o=>W.cell? ⟨b,o,none⟩))(cs:List Value)(es:List AC):Prop:=cs.length=es.length /\ ∀ (j:Nat) u x,cs[j]?=some u->es[j]?=some x->bD (RW hT) u x
theorem ji.app {W:World}{hT:ir (λb o=>W.cell? ⟨b,o,none⟩)}{c1 c2:List Value}{e1 e2:List AC}(h1:ji hT c1 e1)(h2:ji hT c2 e2):ji hT (c1++c2) (e1++e2):=by
 refine⟨by rw[aqy,aqy,h1.1,h2.1],λj u x hu hx=>?_⟩;have hl:=h1.1;by_cases hj:j<c1.length
 ·rw[aqE hj]at hu
  rw[aqE m0]at hx;exact h1.2 j u x hu hx
 ·rw[aqx m0]at hu
  rw[aqx m0,<- hl]at hx;exact h2.2 _ u x hu hx
theorem ji.one {W:World}{hT:ir (λb o=>W.cell? ⟨b,o,none⟩)}{v:Value}{e:AC}(h:bD (RW hT) v e):ji hT [v] [e]:=by
 refine⟨rfl,λj u x hu hx=>?_⟩
 match j,hu,hx with
 |0,hu,hx=>simp at hu hx;subst hu hx;exact h
 |j+1,hu,hx=>simp at hu
def Hr (n:Int):Prop := -9223372036854775808<=n/\n<=9223372036854775807
def SOk (s:ByteArray):Prop:=s.size<=9223372036854775807
def Am {α:Type}(k:Nat)(Q:α->Prop)(l:List α):Prop:=l.length*k<=reachBytes /\ ∀ a∈l,Q a
def nr {H:Type}(t:TypeId)(d:DataW H):Prop :=∀ n∈DataW.weights Tryz.prog t d,n<=reachBytes
theorem acv {H:Type}{e:TypeId}:∀ {l:List (DataW H)} {d:DataW H},d∈l ->∀ n∈DataW.weights Tryz.prog e d,n∈DataW.weightsAll Tryz.prog e l
 |x::l,d,h,n,hn=>by
  rw[DataW.weightsAll,aqS];obtain rfl|h:=aqH.1 h
  ·exact .inl hn
  ·exact .inr (acv h n hn)
theorem ei {H:Type}:∀ {ts:List TypeId} {l:List (DataW H)} {i:Nat} {t:TypeId} {d:DataW H},ts[i]?=some t->l[i]?=some d ->∀ n∈DataW.weights Tryz.prog t d,n∈DataW.weightsEach Tryz.prog ts l
 |t0::ts,d0::l,0,t,d,h1,h2,n,hn=>by
  simp at h1 h2;subst h1 h2;rw[DataW.weightsEach,aqS];exact .inl hn
 |t0::ts,d0::l,i+1,t,d,h1,h2,n,hn=>by
  rw[DataW.weightsEach,aqS];exact .inr (ei (by simpa using h1) (by simpa using h2) n hn)
 |[],_,i,t,d,h1,_,n,hn=>by simp at h1
 |_::_,[],i,t,d,_,h2,n,hn=>by simp at h2
section
variable {H:Type} {enc:TypeId × Value->H} {W:World} {hT:ir (λb o=>W.cell? ⟨b,o,none⟩)} {base:Nat} {spare:Nat->Bool} {held:Bool}
theorem cq {t:TypeId}(ht:Tryz.prog.underlying t=some (.int .i64)){cs:List Value}{fuel:Nat}{x:DataW H×List MemPlace}(h:DataW.trod enc Tryz.prog W base spare held fuel t cs=some x):∃ n:Int,ji hT cs [.int .i64 n]/\Hr n:=by
 obtain⟨n,rfl,_,hw⟩:=DataW.trod_int ht h;rw[Lit.wf,aqI]at hw;exact⟨n,ji.one (.int _ _),aqT hw.1,aqT hw.2⟩
theorem Lt {t:TypeId}(ht:Tryz.prog.underlying t=some .string){cs:List Value}{fuel:Nat}{x:DataW H×List MemPlace}(h:DataW.trod enc Tryz.prog W base spare held fuel t cs=some x):∃ s:ByteArray,ji hT cs [.str s]/\SOk s:=by
 obtain⟨s,rfl,_,hs⟩:=DataW.trod_string ht h;exact⟨s,ji.one (.str _),hs⟩
theorem bU {α:Type}{t e:TypeId}{k:Nat}{f:α->List AC}{Q:α->Prop}(ht:Tryz.prog.underlying t=some (.slice e))(hk:Tryz.prog.cellsOf e=k){by_:Nat}(hby:Tryz.prog.bytesOf e=by_)(hk0:0<k)(hf:∀ x,(f x).length=k){cs:List Value}{fuel:Nat}{x:DataW H×List MemPlace}(h:DataW.trod enc Tryz.prog W base spare held fuel t cs=some x)(hw:nr t x.1)
  (hr:∀ (fuel':Nat) (cs':List Value) (x':DataW H×List MemPlace),fuel'<fuel->DataW.trod enc Tryz.prog W base spare held fuel' e cs'=some x'->nr e x'.1 ->∃ a,ji hT cs' (f a)/\Q a):∃ l:List α,ji hT cs [.lst (l.map f)]/\Am by_ Q l:=by
 obtain⟨rfl,_⟩|⟨a,len,cap,elems,rest,n,hfu,rfl,hxe,_,hlc,hm,hel,hx,_,_⟩:=DataW.trod_slice ht h
 ·exact⟨[],ji.one (dq _ _ _),m5,λa ha=>by cases ha⟩
 ·have hww:(∀ n∈DataW.weightsAll Tryz.prog e (elems.map (·.1)),n<=reachBytes)/\len*by_<=reachBytes:=by
   rw[hxe]at hw;unfold nr at hw;simp only[DataW.weights,ht]at hw;refine⟨λn hn=>hw n (aqO _ (List.mem_append_left _ hn)),?_⟩;have:=hw _ (arc ..);simp only[aqC,hel,hby]at this;exact Nat.le_trans (aq2 _ (Nat.le_add_right _ _)) this
  have hi:∀ i,i<len ->∃ y,(∃ cs',W.cells? base (a.add (i*k)) k=some cs'/\ji hT cs' (f y))/\Q y:=by
   intro i hlt;have h1:=hx i hlt;rw[aqz m0,hk]at h1
   cases hc:W.cells? base (a.add (i*k)) k with
   |none=>rw[hc]at h1;cases h1
   |some cs'=>rw[hc]at h1;obtain⟨y,h2,h3⟩:=hr n cs' _ m0 h1 (λm hm=>hww.1 m (acv (List.mem_map_of_mem (f:=λp:DataW H×List MemPlace=>p.1) (List.getElem_mem m0)) m hm));exact⟨y,⟨cs',rfl,h2⟩,h3⟩
  obtain h0|h0:=Nat.eq_zero_or_pos len
  ·subst h0;exact⟨[],ji.one (dq _ _ _),m5,λa ha=>by cases ha⟩
  ·obtain⟨y0,⟨cs0,hc0,_⟩,_⟩:=hi 0 h0
   let g:Nat->α:=λi=>if h:i<len then Classical.choose (hi i h)else y0
   have hg:∀ i,i<len->(∃ cs',W.cells? base (a.add (i*k)) k=some cs'/\ji hT cs' (f (g i)))/\Q (g i):=by
    intro i hlt;have:g i=Classical.choose (hi i hlt):=by simp[g,hlt]
    rw[this];exact Classical.choose_spec (hi i hlt)
   obtain⟨b,off,spot⟩:=a;have hs0:spot=none:=by
    obtain⟨_,hl,hat⟩:=World.cells?_some hc0;have h1:=hat 0 hk0;rw[aqz m0]at h1;have:=World.cell?_spot h1;simpa[Addr.add]using this
   subst hs0;refine⟨(List.range len).map g,ji.one ?_,(by rw[aqC,List.length_range];exact hww.2),?_⟩
   ·have cell:∀ i,i<len ->∀ j,j<k ->∃ u y,W.cell? ⟨b,off+(i*k+j),none⟩=some u/\(f (g i))[j]?=some y/\bD (RW hT) u y:=by
     intro i hlt j hj;obtain⟨⟨cs',hc,hcr⟩,_⟩:=hg i hlt;obtain⟨_,hl,hat⟩:=World.cells?_some hc;have h1:=hat j hj;rw[aqz m0]at h1;have hfl:=hf (g i);refine⟨_,_,?_,aqz m0,hcr.2 j _ _ (aqz m0) (aqz m0)⟩;rw[addr_add,addr_add,Nat.add_assoc]at h1;exact h1
    refine .lst (some ⟨b,off,none⟩) len cap _ k (λj=>(W.cell? ⟨b,off+j,none⟩).getD (.bool false)) b off m5 hlc ?_ (λ_=>rfl) ?_ ?_
    ·intro e he
     simp only[List.map_map,aq0]at he;obtain⟨i,_,rfl⟩:=he;exact hf _
    ·intro j hj
     have hd:j/k<len:=by rw[Nat.div_lt_iff_lt_mul hk0];exact hj
     obtain⟨u,y,h1,_,_⟩:=cell (j/k) hd (j%k) (Nat.mod_lt _ hk0);have hjj:j/k*k+j%k=j:=by rw[Nat.mul_comm];exact Nat.div_add_mod j k
     rw[hjj]at h1;show W.cell? _=_;rw[h1];rfl
    ·intro i e j x he hxx
     have hlt:i<len:=by have:=(aqp.1 he).1;simpa using this
     have:e=f (g i):=by simp[hlt]at he;exact he.symm
     subst this;have hj:j<k:=by have:=(aqp.1 hxx).1;rw[hf]at this;exact this
     obtain⟨u,y,h1,h2,h3⟩:=cell i hlt j hj;rw[h2]at hxx;obtain rfl:=aqX hxx;rw[h1];exact h3
   ·intro a ha
    simp only[aq0,List.mem_range]at ha;obtain⟨i,hlt,rfl⟩:=ha;exact(hg i hlt).2
theorem uG {s:TypeId}{x:DataW H×List MemPlace}{fs:Array Field}{n:Nat}{cs:List Value}{xs:List (DataW H×List MemPlace)}(hs:Tryz.prog.underlying s=some (.struct fs))(hx:x=(.agg (xs.map (·.1)),xs.flatMap (·.2)))(hw:nr s x.1)(hl:xs.length=fs.size)(hf:∀ (i:Nat) (f:Field),fs[i]?=some f->DataW.trod enc Tryz.prog W base spare held n f.type ((cs.drop f.offset).take (Tryz.prog.cellsOf f.type))=xs[i]?)
  (i:Nat) {f:Field} {t o k:Nat} (hi:fs[i]?=some f) (h1:f.type=t) (h2:f.offset=o) (h3:Tryz.prog.cellsOf t=k):∃ y,DataW.trod enc Tryz.prog W base spare held n t ((cs.drop o).take k)=some y/\nr t y.1:=by
 have hlt:i<fs.size:=(aq_.1 hi).1;have:=hf i f hi;rw[h1,h2,h3,aqz m0]at this;refine⟨_,this,λm hm=>?_⟩;rw[hx]at hw;unfold nr at hw;simp only[DataW.weights,hs]at hw;refine hw m (ei (i:=i) ?_ ?_ m hm)
 ·rw[aqN,Array.getElem?_toList,hi];simp[h1]
 ·rw[aqN,aqz m0];rfl
end
structure vV (x:Val):Prop where
 kind:Hr x.kind
 int:Hr x.int
 text:SOk x.text
section
variable {H:Type} {enc:TypeId × Value->H} {W:World} {hT:ir (λb o=>W.cell? ⟨b,o,none⟩)} {base:Nat} {spare:Nat->Bool} {held:Bool}
theorem agq:∀ (fuel:Nat) {cs:List Value} {x:DataW H×List MemPlace},DataW.trod enc Tryz.prog W base spare held fuel 33 cs=some x->nr 33 x.1 ->∃ a:Val,ji hT cs (cV a)/\vV a:=by
 intro fuel;intro cs x h hw;obtain⟨xs,n,hfu,hxe,hlen,hxs,hf⟩:=DataW.trod_struct Tryz.underlying33 h;rw[show Tryz.prog.cellsOf 33=3 by kernel_rfl]at hlen;obtain⟨c0,c1,c2,rfl⟩:=aeA hlen;obtain⟨y0,h0,w0⟩:=uG Tryz.underlying33 hxe hw hxs hf 0 (t:=3) (o:=0) (k:=1) rfl rfl rfl k7;replace h0:DataW.trod enc Tryz.prog W base spare held n 3 [c0]=some y0:=h0;obtain⟨l0,r0,q0⟩:=cq Tryz.underlying3 h0;obtain⟨y1,h1,w1⟩:=uG Tryz.underlying33 hxe hw hxs hf 1 (t:=3) (o:=1) (k:=1) rfl rfl rfl k7;replace h1:DataW.trod enc Tryz.prog W base spare held n 3 [c1]=some y1:=h1;obtain⟨l1,r1,q1⟩:=cq Tryz.underlying3 h1;obtain⟨y2,h2,w2⟩:=uG Tryz.underlying33 hxe hw hxs hf 2 (t:=9) (o:=2) (k:=1) rfl rfl rfl k7;replace h2:DataW.trod enc Tryz.prog W base spare held n 9 [c2]=some y2:=h2;obtain⟨l2,r2,q2⟩:=Lt Tryz.underlying9 h2;exact⟨⟨l0,l1,l2⟩,((r0.app r1).app r2),⟨q0,q1,q2⟩⟩
end
structure DR (x:ax):Prop where
 lo:Hr x.lo
 hi:Hr x.hi
section
variable {H:Type} {enc:TypeId × Value->H} {W:World} {hT:ir (λb o=>W.cell? ⟨b,o,none⟩)} {base:Nat} {spare:Nat->Bool} {held:Bool}
theorem acj:∀ (fuel:Nat) {cs:List Value} {x:DataW H×List MemPlace},DataW.trod enc Tryz.prog W base spare held fuel 53 cs=some x->nr 53 x.1 ->∃ a:ax,ji hT cs (aP a)/\DR a:=by
 intro fuel;intro cs x h hw;obtain⟨xs,n,hfu,hxe,hlen,hxs,hf⟩:=DataW.trod_struct Tryz.underlying53 h;rw[show Tryz.prog.cellsOf 53=2 by kernel_rfl]at hlen;obtain⟨c0,c1,rfl⟩:=yd hlen;obtain⟨y0,h0,w0⟩:=uG Tryz.underlying53 hxe hw hxs hf 0 (t:=3) (o:=0) (k:=1) rfl rfl rfl k7;replace h0:DataW.trod enc Tryz.prog W base spare held n 3 [c0]=some y0:=h0;obtain⟨l0,r0,q0⟩:=cq Tryz.underlying3 h0;obtain⟨y1,h1,w1⟩:=uG Tryz.underlying53 hxe hw hxs hf 1 (t:=3) (o:=1) (k:=1) rfl rfl rfl k7;replace h1:DataW.trod enc Tryz.prog W base spare held n 3 [c1]=some y1:=h1;obtain⟨l1,r1,q1⟩:=cq Tryz.underlying3 h1;exact⟨⟨l0,l1⟩,(r0.app r1),⟨q0,q1⟩⟩
theorem Jh {cs:List Value}{fuel:Nat}{x:DataW H×List MemPlace}(h:DataW.trod enc Tryz.prog W base spare held fuel 50 cs=some x)(hw:nr 50 x.1):∃ l:List Val,ji hT cs [.lst (l.map cV)]/\Am 32 vV l :=
 bU (k:=3) (f:=cV) (Q:=vV) Tryz.underlying50 k7 k7 m9 (λ_=>rfl) h hw (λf c x _ h hw=>agq f h hw)
end
structure adK (x:ap):Prop where
 row:(Am 32 vV) x.row
 valid:DR x.valid
section
variable {H:Type} {enc:TypeId × Value->H} {W:World} {hT:ir (λb o=>W.cell? ⟨b,o,none⟩)} {base:Nat} {spare:Nat->Bool} {held:Bool}
theorem alj:∀ (fuel:Nat) {cs:List Value} {x:DataW H×List MemPlace},DataW.trod enc Tryz.prog W base spare held fuel 55 cs=some x->nr 55 x.1 ->∃ a:ap,ji hT cs (aH a)/\adK a:=by
 intro fuel;intro cs x h hw;obtain⟨xs,n,hfu,hxe,hlen,hxs,hf⟩:=DataW.trod_struct Tryz.underlying55 h;rw[show Tryz.prog.cellsOf 55=3 by kernel_rfl]at hlen;obtain⟨c0,c1,c2,rfl⟩:=aeA hlen;obtain⟨y0,h0,w0⟩:=uG Tryz.underlying55 hxe hw hxs hf 0 (t:=50) (o:=0) (k:=1) rfl rfl rfl k7;replace h0:DataW.trod enc Tryz.prog W base spare held n 50 [c0]=some y0:=h0;obtain⟨l0,r0,q0⟩:=Jh h0 w0;obtain⟨y1,h1,w1⟩:=uG Tryz.underlying55 hxe hw hxs hf 1 (t:=53) (o:=1) (k:=2) rfl rfl rfl k7;replace h1:DataW.trod enc Tryz.prog W base spare held n 53 [c1,c2]=some y1:=h1;obtain⟨l1,r1,q1⟩:=acj n h1 w1;exact⟨⟨l0,l1⟩,(r0.app r1),⟨q0,q1⟩⟩
theorem agz {cs:List Value}{fuel:Nat}{x:DataW H×List MemPlace}(h:DataW.trod enc Tryz.prog W base spare held fuel 29 cs=some x)(hw:nr 29 x.1):∃ l:List Int,ji hT cs [.lst (l.map (λx=>[AC.int .i64 x]))]/\Am 8 Hr l :=
 bU (k:=1) (f:=(λx=>[AC.int .i64 x])) (Q:=Hr) Tryz.underlying29 k7 k7 m9 (λ_=>rfl) h hw (λf c x _ h hw=>cq Tryz.underlying3 h)
theorem ajC {cs:List Value}{fuel:Nat}{x:DataW H×List MemPlace}(h:DataW.trod enc Tryz.prog W base spare held fuel 22 cs=some x)(hw:nr 22 x.1):∃ l:List ap,ji hT cs [.lst (l.map aH)]/\Am 40 adK l :=
 bU (k:=3) (f:=aH) (Q:=adK) Tryz.underlying22 k7 k7 m9 (λ_=>rfl) h hw (λf c x _ h hw=>alj f h hw)
end
structure mg (x:bj):Prop where
 kinds:(Am 8 Hr) x.kinds
 facts:(Am 40 adK) x.facts
section
variable {H:Type} {enc:TypeId × Value->H} {W:World} {hT:ir (λb o=>W.cell? ⟨b,o,none⟩)} {base:Nat} {spare:Nat->Bool} {held:Bool}
theorem sI:∀ (fuel:Nat) {cs:List Value} {x:DataW H×List MemPlace},DataW.trod enc Tryz.prog W base spare held fuel 31 cs=some x->nr 31 x.1 ->∃ a:bj,ji hT cs (aW a)/\mg a:=by
 intro fuel;intro cs x h hw;obtain⟨xs,n,hfu,hxe,hlen,hxs,hf⟩:=DataW.trod_struct Tryz.underlying31 h;rw[show Tryz.prog.cellsOf 31=2 by kernel_rfl]at hlen;obtain⟨c0,c1,rfl⟩:=yd hlen;obtain⟨y0,h0,w0⟩:=uG Tryz.underlying31 hxe hw hxs hf 0 (t:=29) (o:=0) (k:=1) rfl rfl rfl k7;replace h0:DataW.trod enc Tryz.prog W base spare held n 29 [c0]=some y0:=h0;obtain⟨l0,r0,q0⟩:=agz h0 w0;obtain⟨y1,h1,w1⟩:=uG Tryz.underlying31 hxe hw hxs hf 1 (t:=22) (o:=1) (k:=1) rfl rfl rfl k7;replace h1:DataW.trod enc Tryz.prog W base spare held n 22 [c1]=some y1:=h1;obtain⟨l1,r1,q1⟩:=ajC h1 w1;exact⟨⟨l0,l1⟩,(r0.app r1),⟨q0,q1⟩⟩
end
inductive Az:Ex->Prop
 |mk {op:Int} {int:Int} {v:Val} {nm:ByteArray} {args:(List Ex)} (h0:Hr op) (h1:Hr int) (h2:vV v) (h3:SOk nm) (h4:args.length*88<=reachBytes) (g4:∀ a∈args,Az a):Az (.mk op int v nm args)
section
variable {H:Type} {enc:TypeId × Value->H} {W:World} {hT:ir (λb o=>W.cell? ⟨b,o,none⟩)} {base:Nat} {spare:Nat->Bool} {held:Bool}
theorem aaR:∀ (fuel:Nat) {cs:List Value} {x:DataW H×List MemPlace},DataW.trod enc Tryz.prog W base spare held fuel 36 cs=some x->nr 36 x.1 ->∃ a:Ex,ji hT cs (tE a)/\Az a:=by
 intro fuel
 induction fuel using Nat.strongRecOn with
 |ind fuel ih =>
 intro cs x h hw;obtain⟨xs,n,hfu,hxe,hlen,hxs,hf⟩:=DataW.trod_struct Tryz.underlying36 h;rw[show Tryz.prog.cellsOf 36=7 by kernel_rfl]at hlen;obtain⟨c0,c1,c2,c3,c4,c5,c6,rfl⟩:=amP hlen;obtain⟨y0,h0,w0⟩:=uG Tryz.underlying36 hxe hw hxs hf 0 (t:=3) (o:=0) (k:=1) rfl rfl rfl k7;replace h0:DataW.trod enc Tryz.prog W base spare held n 3 [c0]=some y0:=h0;obtain⟨l0,r0,q0⟩:=cq Tryz.underlying3 h0;obtain⟨y1,h1,w1⟩:=uG Tryz.underlying36 hxe hw hxs hf 1 (t:=3) (o:=1) (k:=1) rfl rfl rfl k7;replace h1:DataW.trod enc Tryz.prog W base spare held n 3 [c1]=some y1:=h1;obtain⟨l1,r1,q1⟩:=cq Tryz.underlying3 h1;obtain⟨y2,h2,w2⟩:=uG Tryz.underlying36 hxe hw hxs hf 2 (t:=33) (o:=2) (k:=3) rfl rfl rfl k7;replace h2:DataW.trod enc Tryz.prog W base spare held n 33 [c2,c3,c4]=some y2:=h2;obtain⟨l2,r2,q2⟩:=agq n h2 w2;obtain⟨y3,h3,w3⟩:=uG Tryz.underlying36 hxe hw hxs hf 3 (t:=9) (o:=5) (k:=1) rfl rfl rfl k7;replace h3:DataW.trod enc Tryz.prog W base spare held n 9 [c5]=some y3:=h3;obtain⟨l3,r3,q3⟩:=Lt Tryz.underlying9 h3;obtain⟨y4,h4,w4⟩:=uG Tryz.underlying36 hxe hw hxs hf 4 (t:=34) (o:=6) (k:=1) rfl rfl rfl k7;replace h4:DataW.trod enc Tryz.prog W base spare held n 34 [c6]=some y4:=h4;obtain⟨l4,r4,q4⟩:=bU (k:=7) (f:=tE) (Q:=Az) Tryz.underlying34 k7 k7 m9 IE h4 w4 (λf c x hlt h hw=>ih f m0 h hw)
 exact⟨.mk l0 l1 l2 l3 l4,(by rw[aC];exact((((r0.app r1).app r2).app r3).app r4)),.mk q0 q1 q2 q3 q4.1 q4.2⟩
end
theorem Cf:∀ (a b x y:List UInt8),(32:UInt8)∉a->(32:UInt8)∉b->a++32::x=b++32::y->a=b/\x=y
 |[],[],x,y,_,_,h=>by simpa using h
 |[],c::b,x,y,_,hb,h=>by
  simp at h;exact absurd h.1.symm (λe=>hb (by rw[e];simp))
 |c::a,[],x,y,ha,_,h=>by
  simp at h;exact absurd h.1 (λe=>ha (by rw[e];simp))
 |c::a,d::b,x,y,ha,hb,h=>by
  simp at h;obtain⟨h1,h2⟩:=Cf a b x y (λq=>ha (aqO _ q)) (λq=>hb (aqO _ q)) h.2;exact⟨by rw[h.1,h1],h2⟩
def aiH (b:UInt8):Prop:=48<=b.toNat/\b.toNat<=57
theorem Kt {d:Nat}(h:d<10):(UInt8.ofNat (48+d)).toNat=48+d:=by
 rw[UInt8.toNat_ofNat'];omega
theorem kX (u:Nat):∀ b∈Lib.decDigits u,aiH b:=by
 induction u using Nat.strongRecOn with
 |_ u ih =>
  intro b hb;rw[Lib.decDigits]at hb;split at hb
  ·rename_i h
   rw[aq6.1 hb];unfold aiH;rw[Kt h];omega
  ·rename_i h
   obtain hb|hb:=aqS.1 hb
   ·exact ih (u/10) m0 b hb
   ·rw[aq6.1 hb];unfold aiH;rw[Kt m0];omega
def Kq (l:List UInt8):Nat:=l.foldl (λa b=>a*10+(b.toNat-48)) 0
theorem GN (l:List UInt8)(b:UInt8):Kq (l++[b])=Kq l*10+(b.toNat-48):=by unfold Kq;rw[List.foldl_append];rfl
theorem qk (u:Nat):Kq (Lib.decDigits u)=u:=by
 induction u using Nat.strongRecOn with
 |_ u ih =>
  rw[Lib.decDigits];split
  ·rename_i h
   show 0*10+((UInt8.ofNat (48+u)).toNat-48)=u;rw[Kt h];omega
  ·rename_i h
   rw[GN,ih (u/10) m0,Kt m0];omega
theorem qB {u v:Nat}(h:Lib.decDigits u=Lib.decDigits v):u=v:=by rw[<- qk u,h,qk]
theorem kj (n:Int):(32:UInt8)∉Lib.itoa n:=by
 intro h;unfold Lib.itoa at h;split at h
 ·obtain h|h:=aqH.1 h
  ·exact absurd h m9
  ·have:=(kX _ _ h).1;exact absurd this m9
 ·have:=(kX _ _ h).1;exact absurd this m9
theorem Bt {n m:Int}(h:Lib.itoa n=Lib.itoa m):n=m:=by
 have key:∀ (a b:Nat),Lib.decDigits a≠45::Lib.decDigits b:=by
  intro a b e;have:=(kX a 45 (by rw[e];simp)).1;exact absurd this m9
 unfold Lib.itoa at h;split at h<;>split at h
 ·have:=qB (List.cons.inj h).2;omega
 ·exact absurd h.symm (key _ _)
 ·exact absurd h (key _ _)
 ·have:=qB h;omega
def yx (v:Val):List UInt8:=Lib.itoa v.kind++32::(Lib.itoa v.int++32::(Lib.itoa v.text.size++32::v.text.data.toList))
def K9 (l:List Val):List UInt8:=l.flatMap yx
theorem aj3 (a b:ByteArray):(a++b).data.toList=a.data.toList++b.data.toList:=by simp
theorem Eg (l:List Val):(cL l).data.toList=K9 l:=by
 have:∀ (l:List Val) (a:ByteArray),(l.foldl (λa v=>j0 a (xZ v)++v.text) a).data.toList=a.data.toList++K9 l:=by
  intro l
  induction l with
  |nil=>intro a;simp[K9]
  |cons v l ih =>
   intro a;rw[arh,ih];have e:j0 a (xZ v)=a++jM v.kind++c32++jM v.int++c32++jM v.text.size++c32:=rfl;have e1:∀ n,(jM n).data.toList=Lib.itoa n:=λn=>rfl
   have e2:c32.data.toList=[32]:=rfl;rw[e];simp only[aj3,e1,e2,K9,aq3,yx,aqR,List.cons_append,aqv]
 have:=this l ⟨#[]⟩;simpa[cL]using this
theorem aa4 {v w:Val}{x y:List UInt8}(h:yx v++x=yx w++y):v=w/\x=y:=by
 unfold yx at h;simp only[aqR,List.cons_append]at h;obtain⟨h1,h⟩:=Cf _ _ _ _ (kj _) (kj _) h;obtain⟨h2,h⟩:=Cf _ _ _ _ (kj _) (kj _) h;obtain⟨h3,h⟩:=Cf _ _ _ _ (kj _) (kj _) h;have h3:=Bt h3;have hs:v.text.data.toList.length=w.text.data.toList.length:=by
  have e:∀ s:ByteArray,s.data.toList.length=s.size:=λs=>rfl
  rw[e,e];omega
 obtain⟨h4,h5⟩:=List.append_inj h hs;refine⟨?_,h5⟩;obtain⟨a,b,⟨⟨c⟩⟩⟩:=v;obtain⟨a',b',⟨⟨c'⟩⟩⟩:=w;simp only at h1 h2 h4;rw[Bt h1,Bt h2,h4]
theorem I8:∀ (a b:List Val),K9 a=K9 b->a=b
 |[],[],_=>rfl
 |[],w::b,h=>by
  have:=congrArg List.length h;simp[K9,yx]at this
 |v::a,[],h=>by
  have:=congrArg List.length h;simp[K9,yx]at this
 |v::a,w::b,h=>by
  have h':yx v++K9 a=yx w++K9 b:=h;obtain⟨h1,h2⟩:=aa4 h';rw[h1,I8 a b h2]
theorem key_inj {a b:List Val}(h:cL a=cL b):a=b:=I8 a b (by rw[<- Eg,<- Eg,h])
end Go.Proofs.YtlcceppoloaecaaGreatDoor
namespace Go.Proofs.YtlcceppoloaecaaGreatDoor.St
open _root_.List (replicate)
open Go.RowKit
theorem aef {A B:List ((Int×Int)×Int)}(h:(zA A).Perm (zA B)):ofL A=ofL B:=by
 have h1:jZ A=jZ B:=by
  funext p;rw[pW,pW,<- uS A p,<- uS B p,DY h]
 have h2:eU A=eU B:=by
  refine(fr A).1.ext (fr B).1 λx=>?_
  rw[(fr A).2,(fr B).2];constructor
  ·rintro⟨h3|⟨y,hy⟩,h4⟩
   ·exact⟨.inl h3,h4⟩
   ·exact⟨.inr ⟨y,h.mem_iff.1 hy⟩,h4⟩
  ·rintro⟨h3|⟨y,hy⟩,h4⟩
   ·exact⟨.inl h3,h4⟩
   ·exact⟨.inr ⟨y,h.mem_iff.2 hy⟩,h4⟩
 unfold ofL;rw[h1,h2]
theorem yo {P:List Int}(h:dd P):P.Pairwise (· < ·):=List.pairwise_iff_getElem.2 λi j hi hj hij=>h i j _ _ hij (aqz hi) (aqz hj)
theorem uo {l:List (Int×Int)}(h:l.Pairwise λx y=>x.1<y.1):Asc l:=by
 intro i j x y hij hx hy;obtain⟨hi,rfl⟩:=aqp.1 hx;obtain⟨hj,rfl⟩:=aqp.1 hy;exact List.pairwise_iff_getElem.1 h i j hi hj hij
theorem FN (f:Int->Int):∀ (P:List Int) (acc:List (Int×Int)),P.Pairwise (· < ·)->(acc.Pairwise λx y=>x.1<y.1)->(∀ s∈acc,∀ x∈P,s.1<x)->(∀ s∈acc,s.2=f s.1) ->
  ((P.foldl (λacc p=>dy acc (p,f p)) acc).Pairwise λx y=>x.1<y.1) /\ ∀ s∈P.foldl (λacc p=>dy acc (p,f p)) acc,(s∈acc\/s.1∈P)/\s.2=f s.1
 |[],acc,_,h2,_,h4=>⟨h2,λs hs=>⟨.inl hs,h4 s hs⟩⟩
 |x::P,acc,h1,h2,h3,h4=>by
  rw[arh];have hp:=aro.1 h1;have hput:∀ s∈dy acc (x,f x),s∈acc\/s=(x,f x):=by
   intro s hs;unfold dy at hs;split at hs
   ·exact .inl hs
   ·obtain hs|hs:=aqS.1 hs
    ·exact .inl hs
    ·exact .inr (aq6.1 hs)
  have hpw:(dy acc (x,f x)).Pairwise λx y=>x.1<y.1:=by
   unfold dy;split
   ·exact h2
   ·refine List.pairwise_append.2 ⟨h2,List.pairwise_singleton _ _,λa ha b hb=>?_⟩
    rw[aq6.1 hb];exact h3 a ha x m5
  obtain⟨q1,q2⟩:=FN f P (dy acc (x,f x)) hp.2 hpw (λs hs y hy=>by
   obtain h|rfl:=hput s hs
   ·exact h3 s h y (aqO _ hy)
   ·exact hp.1 y hy) (λs hs=>by
   obtain h|rfl:=hput s hs
   ·exact h4 s h
   ·rfl)
  refine⟨q1,λs hs=>?_⟩;obtain⟨h5,h6⟩:=q2 s hs;refine⟨?_,h6⟩;obtain h5|h5:=h5
  ·obtain h|rfl:=hput s h5
   ·exact .inl h
   ·exact .inr m5
  ·exact .inr (aqO _ h5)
theorem B6 (l:List ((Int×Int)×Int)):Asc (ofL l) /\ ∀ s∈ofL l,s.1<1099511627776/\s.2=jZ l s.1:=by
 obtain⟨h1,h2⟩:=FN (jZ l) (eU l) [] (yo (fr l).1) List.Pairwise.nil (λs hs=>by cases hs) (λs hs=>by cases hs);refine⟨uo h1,λs hs=>?_⟩;obtain⟨h3,h4⟩:=h2 s hs;obtain h3|h3:=h3
 ·cases h3
 ·exact⟨((fr l).2 s.1).1 h3 |>.2,h4⟩
theorem acu (l:List ((Int×Int)×Int)):(ofL l).length<=1+2*l.length:=by
 have h1:=nD (jZ l) (eU l);have h2:(eU l).length<=1+2*l.length:=by
  have ha:∀ (l:List ((Int×Int)×Int)) (p:List Int),(l.foldl (λp c=>if aK c.1 then ins c.1.2 (ins c.1.1 p)else p) p).length<=p.length+2*l.length:=by
   intro l
   induction l with
   |nil=>intro p;simp
   |cons c l ih =>
    intro p;rw[arh,aqM];have:=ih (if aK c.1 then ins c.1.2 (ins c.1.1 p)else p);have h3:(if aK c.1 then ins c.1.2 (ins c.1.1 p)else p).length<=p.length+2:=by
     split
     ·have q1:=tq c.1.2 (ins c.1.1 p);have q2:=tq c.1.1 p;omega
     ·omega
    omega
  have h4:=ha l [0];have h5:(eU l).length<=(G2 l).length:=by unfold eU;exact qx _ _
  have h6:G2 l=l.foldl (λp c=>if aK c.1 then ins c.1.2 (ins c.1.1 p)else p) [0]:=rfl;rw[h6]at h5;simp at h4;omega
 show(dc (jZ l) (eU l)).length<=_;omega
theorem xN (p:Int):∀ l:List ((Int×Int)×Int),(∀ c∈l,c.2=1)->0<=o9 l p/\o9 l p<=l.length
 |[],_=>by simp[o9]
 |c::l,h=>by
  have ih:=xN p l λx hx=>h x (aqO _ hx)
  have hi:o9 (c::l) p=(if aS c.1 p then c.2 else 0)+o9 l p:=by simp[o9]
  have hc:=h c m5;rw[hi,aqM];split<;>omega
theorem nc {l:List ((Int×Int)×Int)}(p:Int)(h:∀ c∈l,c.2=1)(hn:l.length<=1000000):jZ l p=o9 l p:=by
 have:=xN p l h;rw[pW];unfold wrap64;omega
end Go.Proofs.YtlcceppoloaecaaGreatDoor.St
namespace Go.Proofs.YtlcceppoloaecaaGreatDoor
open _root_.List (replicate)
open Go.RowKit
def ones (ps:List ax):List tm:=ps.map λp=>⟨p,1⟩
def bI (ps:List ax):List ax:=A8 (xW (ones ps))
theorem rx (ps:List ax):∀ c∈(ones ps).map toC,c.2=1:=by
 intro c hc;obtain⟨x,hx,rfl⟩:=aq0.1 hc;obtain⟨p,_,rfl⟩:=aq0.1 hx;rfl
theorem LW (ps:List ax)(hn:ps.length<=300):OB (xW (ones ps)):=by
 have hl:((ones ps).map toC).length=ps.length:=by simp[ones]
 obtain⟨h1,h2⟩:=St.B6 ((ones ps).map toC);have h3:=St.acu ((ones ps).map toC);rw[hl]at h3;have e:(xW (ones ps)).map toS=St.ofL ((ones ps).map toC):=by
  unfold xW;rw[List.map_map];have:(toS∘ofS)=id:=by funext x;rfl
  rw[this,List.map_id]
 refine⟨by unfold xW;rw[aqC];omega,by rw[e];exact h1,λs hs=>?_,λs hs=>?_⟩
 ·have:toS s∈St.ofL ((ones ps).map toC):=by rw[<- e];exact List.mem_map_of_mem hs
  exact(h2 _ this).1
 ·have:toS s∈St.ofL ((ones ps).map toC):=by rw[<- e];exact List.mem_map_of_mem hs
  have h4:=(h2 _ this).2;rw[St.nc _ (rx ps) m0]at h4;have h5:=(St.xN (toS s).1 _ (rx ps)).2;rw[hl]at h5;show(toS s).2<=600;omega
theorem LJ (ps:List ax):St.zA ((ones ps).map toC)=ps.flatMap λp=>St.lQ (toP p,1):=by
 unfold St.zA ones;rw[List.map_map,List.flatMap_map];rfl
theorem J4 {ps qs:List ax}(h:(ps.filter λp=>St.aK (toP p)).Perm (qs.filter λp=>St.aK (toP p))):bI ps=bI qs:=by
 have key:∀ l:List ax,(l.flatMap λp=>St.lQ (toP p,1))=(l.filter λp=>St.aK (toP p)).flatMap λp=>St.lQ (toP p,1):=by
  intro l
  induction l with
  |nil=>rfl
  |cons p l ih =>
   rw[aq3,ih,List.filter_cons];by_cases hp:St.aK (toP p)=true
   ·rw[if_pos hp,aq3]
   ·have e:St.lQ (toP p,1)=[]:=by unfold St.lQ;rw[if_neg hp]
    rw[if_neg hp,e,aqv]
 have:xW (ones ps)=xW (ones qs):=by
  unfold xW;rw[St.aef (A:=(ones ps).map toC) (B:=(ones qs).map toC)];rw[LJ,LJ,key ps,key qs];exact h.flatMap_right _
 unfold bI;rw[this]
theorem ad4 {x:Int×Int}{l:List (Int×Int)}(h1:St.Is l 1=[x])(h2:∀ j:Nat,St.Is l ((j:Int)+2)=[]):St.tt l=[x]:=by
 have:St.gm l=[x]:=by
  unfold St.gm;rw[show(600:Nat)=599+1 from rfl,List.range_succ_eq_map,aq3];rw[show St.Is l (((0:Nat):Int)+1)=[x]from h1];have:(List.map Nat.succ (List.range 599)).flatMap (λj:Nat=>St.Is l ((j:Int)+1))=[]:=by
   rw[List.flatMap_eq_nil_iff];intro j hj;obtain⟨k,_,rfl⟩:=aq0.1 hj;have:=h2 k;rw[show((k:Int)+2)=((Nat.succ k:Nat):Int)+1 by push_cast;omega]at this;exact this
  rw[this,aqZ]
 unfold St.tt;rw[this];simp[St.ij]
theorem qd (p:Int×Int)(t:Int):St.jZ [(p,1)] t=if St.aS p t then 1 else 0:=by
 rw[St.nc t m5 m5];simp[St.o9]
theorem NM (p:ax)(hp:St.aK (toP p)=true):bI [p]=[p]:=by
 obtain⟨a,b⟩:=p;have hv:0<=a/\a<b/\b<=1099511627776:=by
  have h:St.aK (a,b)=true:=hp;simp[St.aK]at h;omega
 have hpts:St.eU [(((a,b):Int×Int),1)]=(if a=0 then [0]else [0,a])++(if b<1099511627776 then [b]else []):=by
  have e:St.G2 [(((a,b):Int×Int),1)]=St.ins b (St.ins a [0]):=by
   unfold St.G2;simp only[arh,List.foldl_nil];rw[if_pos (show St.aK (a,b)=true from hp)]
  unfold St.eU;rw[e];have hF:(0:Int)<1099511627776:=by decide
  by_cases h0:a=0
  ·subst h0
   rw[show St.ins 0 [0]=[0]by simp[St.ins],show St.ins b [0]=[0,b]by simp only[St.ins];rw[if_pos m0]];by_cases hb:b<1099511627776
   ·simp[List.takeWhile,hb]
   ·simp[List.takeWhile,hb]
  ·rw[show St.ins a [0]=[0,a]by simp only[St.ins];rw[if_pos m0],show St.ins b [0,a]=[0,a,b]by simp only[St.ins];rw[if_pos m0,if_pos m0]]
   have ha:a<1099511627776:=m0
   by_cases hb:b<1099511627776
   ·simp[List.takeWhile,hb,ha,h0]
   ·simp[List.takeWhile,hb,ha,h0]
 have hof:St.ofL [(((a,b):Int×Int),1)]=(if a=0 then [(0,1)]else [(0,0),(a,1)])++(if b<1099511627776 then [(b,0)]else []):=by
  unfold St.ofL;rw[hpts];have r0:St.jZ [(((a,b):Int×Int),1)] 0=if a=0 then 1 else 0:=by
   rw[qd];unfold St.aS;have:St.aK (a,b)=true:=hp;rw[this];by_cases h0:a=0
   ·subst h0;simp;omega
   ·have:¬ a<=0:=m0
    simp[h0,this]
  have ra:St.jZ [(((a,b):Int×Int),1)] a=1:=by
   rw[qd];unfold St.aS;have:St.aK (a,b)=true:=hp;rw[this];simp;omega
  have rb:St.jZ [(((a,b):Int×Int),1)] b=0:=by
   rw[qd];unfold St.aS;have:St.aK (a,b)=true:=hp;rw[this];simp
  by_cases h0:a=0
  ·rw[if_pos h0,if_pos h0]
   rw[if_pos h0]at r0;by_cases hb:b<1099511627776
   ·rw[if_pos hb,if_pos hb]
    simp[St.dc,St.dy,r0,rb]
   ·rw[if_neg hb,if_neg hb]
    simp[St.dc,St.dy,r0]
  ·rw[if_neg h0,if_neg h0]
   rw[if_neg h0]at r0;by_cases hb:b<1099511627776
   ·rw[if_pos hb,if_pos hb]
    simp[St.dc,St.dy,r0,ra,rb]
   ·rw[if_neg hb,if_neg hb]
    simp[St.dc,St.dy,r0,ra]
 have hl:St.tt (St.ofL [(((a,b):Int×Int),1)])=[(a,b)]:=by
  rw[hof];refine ad4 ?_ λj=>?_
  ·by_cases h0:a=0
   ·subst h0
    by_cases hb:b<1099511627776
    ·simp[hb,St.Is,St.mc,St.cF,St.fh]
    ·have:b=1099511627776:=m0
     simp[this,St.Is,St.mc,St.cF,St.fh]
   ·by_cases hb:b<1099511627776
    ·simp[hb,h0,St.Is,St.mc,St.cF,St.fh]
    ·have:b=1099511627776:=m0
     simp[this,h0,St.Is,St.mc,St.cF,St.fh]
  ·refine St.C6.2 λs hs=>?_
   have:s.2=0\/s.2=1:=by
    obtain hs|hs:=aqS.1 hs
    ·split at hs
     ·rw[aq6.1 hs];exact .inr rfl
     ·obtain rfl|hs:=aqH.1 hs
      ·exact .inl rfl
      ·rw[aq6.1 hs];exact .inr rfl
    ·split at hs
     ·rw[aq6.1 hs];exact .inl rfl
     ·cases hs
   omega
 unfold bI A8 xW ones;rw[List.map_map,show(toS∘ofS)=id from rfl,List.map_id];show((St.tt (St.ofL [(((a,b):Int×Int),1)])).map ofP)=_;rw[hl];rfl
open Go.RowKit Go.MapKept
theorem cn {α β ρ:Type}{l:List α}{body:(List β×Int)->Option (Step (List β×Int) ρ)}(g:α->List β)(N:Nat)(h1:∀ (s:List β) (i:Nat) x,l[i]?=some x->s.length+(g x).length<=N->body (s,(i:Int))=some (.next (s++g x,((i+1:Nat):Int))))(h2:∀ s:List β,body (s,(l.length:Int))=some (.exit (s,(l.length:Int))))(hl:l.length<fuel)(s:List β)(hN:s.length+(l.flatMap g).length<=N) :
  ao body fuel (s,(0:Int))=some (.inl (s++l.flatMap g,(l.length:Int))):=by
 have key:∀ (n i:Nat) (s:List β),i<=l.length->l.length-i<n->s.length+((l.drop i).flatMap g).length<=N->ao body n (s,(i:Int))=some (.inl (s++(l.drop i).flatMap g,(l.length:Int))):=by
  intro n
  induction n with
  |zero=>intro i s _ h _;omega
  |succ n ih =>
   intro i s hi hn hs;rw[ao];by_cases hlt:i<l.length
   ·obtain⟨x,hx⟩:=gol_ hlt
    have e1:=(aqp.1 hx).2;rw[aqW hlt,e1,aq3]at hs ⊢;rw[aqy]at hs;rw[h1 s i x hx m0];show ao body n _=_;rw[ih (i+1) (s++g x) m0 m0 (by rw[aqy];omega),aqR]
   ·have:i=l.length:=m0
    subst this;rw[h2,arn];simp
 have:=key fuel 0 s (aqL _) m0 (by simpa using hN);simpa using this
def ut (l:List (List Val)):Prop:=l.Pairwise λa b=>bL a b<0
theorem xG:∀ {a b:List (List Val)},ut a->ut b->(∀ x,x∈a↔x∈b)->a=b
 |[],[],_,_,_=>rfl
 |[],y::b,_,_,h=>by have:=(h y).2 m5;cases this
 |x::a,[],_,_,h=>by have:=(h x).1 m5;cases this
 |x::a,y::b,ha,hb,h=>by
  have ha:=aro.1 ha;have hb:=aro.1 hb;have irr:∀ z,¬ bL z z<0:=λz=>by rw[tCr_.refl];omega
  have hxy:x=y:=by
   rcases aqH.1 ((h x).1 m5)with e|e
   ·exact e
   ·rcases aqH.1 ((h y).2 m5)with e2|e2
    ·exact e2.symm
    ·exact absurd (tCr_.trans _ _ _ (ha.1 y e2) (hb.1 x e)) (irr x)
  subst hxy;rw[xG ha.2 hb.2 λz=>?_];constructor
  ·intro hz
   rcases aqH.1 ((h z).1 (aqO _ hz))with rfl|e
   ·exact absurd (ha.1 z hz) (irr z)
   ·exact e
  ·intro hz
   rcases aqH.1 ((h z).2 (aqO _ hz))with rfl|e
   ·exact absurd (hb.1 z hz) (irr z)
   ·exact e
instance decRow (a b : List Val) : Decidable (a = b) := if h : bL a b = 0 then .isTrue (tCr_.zero _ _ h) else .isFalse λe => h (by rw [e]; exact tCr_.refl _)
def bo (l:List ap)(r:List Val):List ax:=(l.filter λf=>aw f.valid&&decide (f.row=r)).map (·.valid)
def dP (l:List ap)(R:List (List Val)):Prop:=ut R /\ ∀ x,x∈R ↔ ∃ f∈l,aw f.valid=true/\f.row=x
def dH (l:List ap)(R:List (List Val)):List ap:=R.flatMap λr=>(bI (bo l r)).map λp=>⟨r,p⟩
theorem dP.ext {l:List ap}{R S:List (List Val)}(h:dP l R)(k:dP l S):R=S:=xG h.1 k.1 λx=>(h.2 x).trans (k.2 x).symm
theorem ku (l:List ap)(f:ap)(r:List Val):bo (l++[f]) r=bo l r++(if aw f.valid&&decide (f.row=r)then [f.valid]else []):=by
 unfold bo;rw[List.filter_append,aqD];congr 1;by_cases h:(aw f.valid&&decide (f.row=r))=true
 ·simp[h]
 ·simp[h]
theorem y9 {s:ByteArray}:∀ {G:List bC} {i:Nat},eQ s G=some i ->∃ g,G[i]?=some g/\cL g.f.row=s
 |[],_,h=>by simp[eQ]at h
 |g::r,i,h=>by
  unfold eQ at h;split at h
  ·rename_i e;injection h with h;subst h;exact⟨g,rfl,e.symm⟩
  ·cases hr:eQ s r with
   |none=>rw[hr]at h;cases h
   |some j =>
    rw[hr]at h;injection h with h;subst h
    obtain⟨g',h1,h2⟩:=y9 hr;exact⟨g',by simpa using h1,h2⟩
theorem yB {s:ByteArray}:∀ {G:List bC},eQ s G=none ->∀ g∈G,cL g.f.row≠s
 |[],_,g,hg=>by cases hg
 |x::r,h,g,hg=>by
  unfold eQ at h;split at h
  ·cases h
  ·rename_i e
   cases hr:eQ s r with
   |none =>
    obtain rfl|hg:=aqH.1 hg
    ·exact λq=>e q.symm
    ·exact yB hr g hg
   |some j=>rw[hr]at h;cases h
structure GInv (l:List ap)(G:List bC):Prop where
 nd:G.Pairwise λg h=>g.f.row≠h.f.row
 ps:∀ g∈G,g.ps=bo l g.f.row
 mem:∀ g∈G,∃ f∈l,aw f.valid=true/\f.row=g.f.row
 all:∀ f∈l,aw f.valid=true ->∃ g∈G,g.f.row=f.row
theorem GInv.step {l:List ap}{G:List bC}(h:GInv l G)(f:ap):GInv (l++[f]) (fm G f):=by
 unfold fm
 cases hv:aw f.valid with
 |false =>
  rw[aqr];refine⟨h.nd,λg hg=>?_,λg hg=>?_,λf' hf' hv'=>?_⟩
  ·rw[ku,hv];simpa using h.ps g hg
  ·obtain⟨f',h1,h2⟩:=h.mem g hg;exact⟨f',List.mem_append_left _ h1,h2⟩
  ·obtain hf'|hf':=aqS.1 hf'
   ·exact h.all f' hf' hv'
   ·rw[aq6.1 hf']at hv';rw[hv]at hv';cases hv'
 |true =>
  rw[aqs]
  cases hf:eQ (cL f.row) G with
  |none =>
   have hne:∀ g∈G,g.f.row≠f.row:=λg hg e=>yB hf g hg (by rw[e])
   have hemp:bo l f.row=[]:=by
    unfold bo;rw[List.map_eq_nil_iff,List.filter_eq_nil_iff];intro f' hf' hc;rw[aqI]at hc;obtain⟨g,hg,e⟩:=h.all f' hf' hc.1;exact hne g hg (e.trans (aqT hc.2))
   refine⟨List.pairwise_append.2 ⟨h.nd,List.pairwise_singleton _ _,λg hg g' hg'=>by rw[aq6.1 hg'];exact hne g hg⟩,λg hg=>?_,λg hg=>?_,λf' hf' hv'=>?_⟩
   ·obtain hg|hg:=aqS.1 hg
    ·rw[ku,hv,show decide (f.row=g.f.row)=false from aqt λe=>hne g hg e.symm]
     simpa using h.ps g hg
    ·rw[aq6.1 hg,ku,hv,hemp];simp
   ·obtain hg|hg:=aqS.1 hg
    ·obtain⟨f',h1,h2⟩:=h.mem g hg;exact⟨f',List.mem_append_left _ h1,h2⟩
    ·rw[aq6.1 hg];exact⟨f,m5,hv,rfl⟩
   ·obtain hf'|hf':=aqS.1 hf'
    ·obtain⟨g,hg,e⟩:=h.all f' hf' hv';exact⟨g,List.mem_append_left _ hg,e⟩
    ·rw[aq6.1 hf'];exact⟨⟨f,[f.valid]⟩,m5,rfl⟩
  |some i =>
   obtain⟨g0,hg0,hk⟩:=y9 hf;have hrow:g0.f.row=f.row:=key_inj hk;dsimp only;rw[hg0];dsimp only;have hil:=(aqp.1 hg0).1;have hmap:(G.set i ⟨g0.f,g0.ps++[f.valid]⟩).map (·.f.row)=G.map (·.f.row):=by
    rw[List.map_set];refine List.ext_getElem? λj=>?_
    rw[List.getElem?_set];split
    ·rename_i e;subst e
     rw[aqC,if_pos hil,aqN,hg0];rfl
    ·rfl
   have hnd:(G.set i ⟨g0.f,g0.ps++[f.valid]⟩).Pairwise λg h=>g.f.row≠h.f.row:=by
    have h1:(G.map (·.f.row)).Pairwise (· ≠ ·):=List.pairwise_map.2 h.nd;rw[<- hmap]at h1;exact List.pairwise_map.1 h1
   have hmemG:∀ g∈G.set i ⟨g0.f,g0.ps++[f.valid]⟩,(g∈G/\g.f.row≠f.row)\/g=⟨g0.f,g0.ps++[f.valid]⟩:=by
    intro g hg;obtain⟨j,hj⟩:=List.getElem?_of_mem hg;rw[List.getElem?_set]at hj;split at hj
    ·rename_i e
     injection hj with hj
     exact .inr hj.symm
    ·rename_i e
     refine .inl ⟨aqw hj,λq=>?_⟩;have hjl:=(aqp.1 hj).1;have e1:=(aqp.1 hj).2;have e2:=(aqp.1 hg0).2;obtain hlt|hlt:=Nat.lt_or_gt_of_ne e
     ·have:=List.pairwise_iff_getElem.1 h.nd i j hil hjl hlt
      rw[e1,e2]at this;exact this (hrow.trans q.symm)
     ·have:=List.pairwise_iff_getElem.1 h.nd j i hjl hil hlt
      rw[e1,e2]at this;exact this (q.trans hrow.symm)
   have hg0m:=aqw hg0;refine⟨hnd,λg hg=>?_,λg hg=>?_,λf' hf' hv'=>?_⟩
   ·obtain⟨hg,hne⟩|rfl:=hmemG g hg
    ·rw[ku,hv,show decide (f.row=g.f.row)=false from aqt λe=>hne e.symm]
     simpa using h.ps g hg
    ·show g0.ps++[f.valid]=bo (l++[f]) g0.f.row
     rw[ku,hv,show decide (f.row=g0.f.row)=true from aqu hrow.symm,<- h.ps g0 hg0m];rfl
   ·obtain⟨hg,_⟩|rfl:=hmemG g hg
    ·obtain⟨f',h1,h2⟩:=h.mem g hg;exact⟨f',List.mem_append_left _ h1,h2⟩
    ·exact⟨f,m5,hv,hrow.symm⟩
   ·have hex:∃ g∈G,g.f.row=f'.row:=by
     obtain hf'|hf':=aqS.1 hf'
     ·exact h.all f' hf' hv'
     ·rw[aq6.1 hf'];exact⟨g0,hg0m,hrow⟩
    obtain⟨g,hg,e⟩:=hex;have:g.f.row∈(G.set i ⟨g0.f,g0.ps++[f.valid]⟩).map (·.f.row):=by rw[hmap];exact List.mem_map_of_mem hg
    obtain⟨g',hg',e'⟩:=aq0.1 this;exact⟨g',hg',e'.trans e⟩
theorem IQ (l:List ap):GInv l (dn l):=by
 have:∀ (l l0:List ap) (G:List bC),GInv l0 G->GInv (l0++l) (l.foldl fm G):=by
  intro l
  induction l with
  |nil=>intro l0 G h;simpa using h
  |cons f l ih =>
   intro l0 G h;have:=ih (l0++[f]) _ (h.step f);rw[aqR]at this;exact this
 have:=this l [] [] ⟨List.Pairwise.nil,λg hg=>(by cases hg),λg hg=>(by cases hg),λf hf=>(by cases hf)⟩;simpa[dn]using this
theorem qq (a b d:List Val)(h1:bL a b<=0)(h2:bL b d<=0):bL a d<=0:=by
 obtain h1|h1:=Int.lt_or_eq_of_le h1
 ·obtain h2|h2:=Int.lt_or_eq_of_le h2
  ·exact Int.le_of_lt (tCr_.trans _ _ _ h1 h2)
  ·rw[<- tCr_.zero _ _ h2];exact Int.le_of_lt h1
 ·rw[tCr_.zero _ _ h1];exact h2
theorem ae' (a b:List Val)(h:¬ bL a b<0):bL b a<=0:=by
 have:=(tCr_.anti a b);omega
theorem Do (l:List ap):∃ R,dP l R/\mm l=R.map λr=>⟨r,bo l r⟩:=by
 have hi:=IQ l;have hp:=nO fM ((dn l).map λg=>(⟨g.f.row,g.ps⟩:ac));have ha:=FT (c:=fM) (λa b d=>qq a.row b.row d.row) (λa b=>ae' a.row b.row) ((dn l).map λg=>(⟨g.f.row,g.ps⟩:ac));have hn:(mm l).Pairwise λa b=>a.row≠b.row:=by
  have h1:((dn l).map λg=>(⟨g.f.row,g.ps⟩:ac)).Pairwise λa b=>a.row≠b.row:=List.pairwise_map.2 hi.nd
  exact(List.Perm.pairwise_iff (λ{a b} h=>Ne.symm h) hp).2 h1
 have hmem:∀ s∈mm l,s.periods=bo l s.row /\ ∃ f∈l,aw f.valid=true/\f.row=s.row:=by
  intro s hs;obtain⟨g,hg,rfl⟩:=aq0.1 (hp.mem_iff.1 hs);exact⟨hi.ps g hg,hi.mem g hg⟩
 refine⟨(mm l).map (·.row),⟨?_,λx=>?_⟩,?_⟩
 ·refine List.pairwise_map.2 ?_
  refine(List.Pairwise.and ha hn).imp ?_;rintro a b ⟨h1,h2⟩;obtain h|h:=Int.lt_or_eq_of_le h1
  ·exact h
  ·exact absurd (tCr_.zero _ _ h) h2
 ·constructor
  ·intro hx
   obtain⟨s,hs,rfl⟩:=aq0.1 hx;exact(hmem s hs).2
  ·rintro⟨f,hf,hv,rfl⟩
   obtain⟨g,hg,e⟩:=hi.all f hf hv;exact aq0.2 ⟨⟨g.f.row,g.ps⟩,hp.mem_iff.2 (aq0.2 ⟨g,hg,rfl⟩),e⟩
 ·rw[List.map_map]
  refine(List.map_id (mm l)).symm.trans (List.map_congr_left λs hs=>?_);have:=(hmem s hs).1;obtain⟨r,ps⟩:=s;show(⟨r,ps⟩:ac)=⟨r,bo l r⟩;rw[<- this]
theorem fo_ {α β:Type}(f:α->β):∀ l:List α,(l.flatMap λx=>[f x])=l.map f
 |[]=>rfl
 |x::l=>by rw[aq3,fo_ f l];rfl
theorem G4 (ps:List ax)(hn:ps.length<=100000):sd ps=some (xW (ones ps)):=by
 unfold sd;rw[cn (l:=ps) (λp=>[(⟨p,1⟩:tm)]) 5864062014805 ?_ ?_ (by unfold fuel;omega) [] (by rw[fo_];simp;omega)]
 ·rw[aqo,fo_,aqv]
  show(ajl (ones ps)).bind _=_;unfold ajl;rw[show decide ((ones ps).length<=100000)=true from aqu (by simpa[ones]using hn)];rfl
 ·intro s i x hx hs
  have hi:=(aqp.1 hx).1;unfold lr;dsimp only;rw[aO hx,aqs,gn_ hx];simp only[aqo];rw[show decide (s.length+1<=5864062014805)=true from aqu (by simpa using hs),aqs,wrapN m0]
 ·intro s
  unfold lr;dsimp only;rw[lF_,aqr]
theorem FD (ps:List ax):(bI ps).length<=600*(1+2*ps.length):=by
 unfold bI A8;rw[aqC,(St.wF _).2.length_eq];have h1:=St.D3 ((xW (ones ps)).map toS) 600;have h2:St.gm ((xW (ones ps)).map toS)=St.pQ ((xW (ones ps)).map toS) 600:=rfl;rw[h2];have h3:((xW (ones ps)).map toS).length<=1+2*ps.length:=by
  rw[aqC];unfold xW;rw[aqC];have:=St.acu ((ones ps).map toC);simpa[ones]using this
 exact Nat.le_trans h1 (Nat.mul_le_mul_left _ h3)
theorem adB (ps:List ax)(hn:ps.length<=300)(hv:∀ p∈ps,aw p=true):OM ps=some (bI ps):=by
 unfold OM;by_cases h1:ps.length=1
 ·rw[show decide ((ps.length:Int)=1)=true from aqu m0,aqs]
  match ps,h1 with
  |[p],_=>rw[NM p (hv p m5)]
 ·rw[show decide ((ps.length:Int)=1)=false from aqt m0,aqr,G4 ps m0,aqo]
  unfold aeB;rw[if_pos (LW ps hn)];rfl
theorem EJ (l:List ap)(r:List Val):(bo l r).length<=l.length:=by unfold bo;rw[aqC];exact List.length_filter_le _ _
theorem vA (l:List ap)(r:List Val):∀ p∈bo l r,aw p=true:=by
 intro p hp;obtain⟨f,hf,rfl⟩:=aq0.1 hp;have:=(List.mem_filter.1 hf).2;rw[aqI]at this;exact this.1
def KY (s:ac):List ap:=(bI s.periods).map λp=>⟨s.row,p⟩
theorem ac3 (l:List ap)(h:bz l):∃ R,dP l R/\q9 l=some (dH l R):=by
 obtain⟨R,hR,hr⟩:=Do l;refine⟨R,hR,?_⟩;have hmem:∀ s∈mm l,s.periods.length<=300/\(∀ p∈s.periods,aw p=true)/\s.row.length<=1000:=by
  intro s hs;rw[hr]at hs;obtain⟨r,hrR,rfl⟩:=aq0.1 hs;obtain⟨f,hf,_,e⟩:=(hR.2 r).1 hrR;refine⟨Nat.le_trans (EJ l r) h.1,vA l r,?_⟩;show r.length<=1000;rw[<- e];exact(h.2 f hf).1
 have hlen:(mm l).length<=300:=by
  have h1:=(nO fM ((dn l).map λg=>(⟨g.f.row,g.ps⟩:ac))).length_eq;have h2:=tj l;have h3:=h.1;show(mo fM _).length<=300;rw[h1,aqC];omega
 have hg:∀ s∈mm l,(KY s).length<=360600:=by
  intro s hs;unfold KY;rw[aqC];have h1:=FD s.periods;have h2:=(hmem s hs).1;omega
 have htot:((mm l).flatMap KY).length<=300*360600:=by
  have:∀ (L:List ac),(∀ s∈L,(KY s).length<=360600)->(L.flatMap KY).length<=L.length*360600:=by
   intro L
   induction L with
   |nil=>intro _;simp
   |cons s L ih =>
    intro hL;have h1:=ih λx hx=>hL x (aqO _ hx)
    have h2:=hL s m5;rw[aq3,aqy,aqM];omega
  exact Nat.le_trans (this _ hg) (aq2 _ hlen)
 have hb:dH l R=(mm l).flatMap KY:=by
  rw[hr,List.flatMap_map];rfl
 unfold q9 yI;have e1:wQ l=some (mm l):=by unfold wQ;rw[if_pos h]
 rw[e1,aqo];generalize mm l=X at hmem hlen hg htot hb ⊢;rw[cn (l:=X) KY 3518437208883 ?_ ?_ (by unfold fuel;omega) [] (by simp only[aqV];omega)]
 ·simp only[aqo,kH,aqv,hb]
 ·intro s i x hx hs
  have hi:=(aqp.1 hx).1;obtain⟨m1,m2,m3⟩:=hmem x (aqw hx);unfold nq;dsimp only;rw[aO hx,aqs,gn_ hx];simp only[aqo];rw[adB x.periods m0 m2,aqo];have hgl:(KY x).length=(bI x.periods).length:=by unfold KY;rw[aqC]
  have hgx:=hg x (aqw hx);rw[cn (l:=bI x.periods) (λp=>[(⟨x.row,p⟩:ap)]) 3518437208883 ?_ ?_ (by unfold fuel;omega) s (by rw[fo_,aqC];omega)]
  ·rw[aqo,fo_]
   show some (Step.next (s++KY x,_))=_;rw[wrapN m0]
  ·intro s' j y hy hs'
   have hj:=(aqp.1 hy).1;unfold nA;dsimp only;rw[aO hy,aqs,gn_ hy];simp only[aqo];rw[show decide (x.row.length<=4398046511104)=true from aqu m0,aqs,show decide (s'.length+1<=3518437208883)=true from aqu (by simpa using hs'),aqs,wrapN m0]
  ·intro s'
   unfold nA;dsimp only;rw[lF_,aqr]
 ·intro s
  unfold nq;dsimp only;rw[lF_,aqr]
set_option maxRecDepth 100000
def aet (l:List ap):Prop:=l.Pairwise λa b=>bL a.row b.row<=0
def leF (x y:ap):Bool:=leV x.row y.row
theorem mT (x y:ap):leF x y=true↔bL x.row y.row<=0:=kR x.row y.row
theorem jS {a b:List ap}(ha:a.length<=1000000)(hb:b.length<=1000000)(hra:∀ r∈a,r.row.length<=1000000)(hrb:∀ r∈b,r.row.length<=1000000):∀ (n i k:Nat) (out:List ap),i<=a.length->k<=b.length->out.length=i+k->(a.length-i)+(b.length-k)<n->(ao (cK a b) n (out,(i:Int),(k:Int))).bind tG=some (out++List.merge (a.drop i) (b.drop k) leF)
 |0,_,_,_,_,_,_,h=>by omega
 |n+1,i,k,out,h1,h2,ho,hn=>by
  have hg:decide (out.length+1<=3518437208883)=true:=aqu m0;rw[ao];by_cases hlt:i<a.length
  ·obtain⟨x,hx⟩:=gol_ hlt
   have ex:=(aqp.1 hx).2;have hne:decide ((i:Int)=(a.length:Int))=false:=aqt m0;have ihA:=jS ha hb hra hrb n (i+1) k (out++[x]) m0 m0 m8 m0;by_cases hlb:k<b.length
   ·obtain⟨y,hy⟩:=gol_ hlb
    have ey:=(aqp.1 hy).2;have ihB:=jS ha hb hra hrb n i (k+1) (out++[y]) m0 m0 m8 m0;have eb:cK a b (out,(i:Int),(k:Int))=bif decide (bL y.row x.row<0)then some (.next (out++[y],(i:Int),((k+1:Nat):Int)))else some (.next (out++[x],((i+1:Nat):Int),(k:Int))):=by
     unfold cK;dsimp only;rw[aO hx,aqs,hne,aqr,aO hy,aqs,gn_ hy,gn_ hx];simp only[aqo];rw[jx y.row x.row (by have:=hrb y (aqw hy);omega) (by have:=hra x (aqw hx);omega),wrapN m0,wrapN m0,hg];rfl
    rw[eb,aqW hlt,aqW hlb,ex,ey,List.cons_merge_cons];rw[aqW hlb,ey]at ihA;rw[aqW hlt,ex]at ihB;by_cases hc:bL y.row x.row<0
    ·rw[show decide (bL y.row x.row<0)=true from aqu hc,aqs,if_neg (by unfold leF leV;simp[hc])]
     dsimp only;rw[ihB];simp
    ·rw[show decide (bL y.row x.row<0)=false from aqt hc,aqr,if_pos (by unfold leF leV;simp[hc])]
     dsimp only;rw[ihA];simp
   ·have hk:k=b.length:=m0
    have eb:cK a b (out,(i:Int),(k:Int))=some (.next (out++[x],((i+1:Nat):Int),(k:Int))):=by
     unfold cK;dsimp only;rw[aO hx,aqs,hne,aqr,hk,lF_,aqr,gn_ hx];simp only[aqo];rw[wrapN m0,hg];rfl
    rw[eb];dsimp only;rw[ihA,aqW hlt,ex,hk,arn,List.merge_right,List.merge_right];simp
  ·have hi:i=a.length:=m0
   subst hi;by_cases hlb:k<b.length
   ·obtain⟨y,hy⟩:=gol_ hlb
    have ey:=(aqp.1 hy).2;have ihB:=jS ha hb hra hrb n a.length (k+1) (out++[y]) m0 m0 m8 m0;have eb:cK a b (out,(a.length:Int),(k:Int))=some (.next (out++[y],(a.length:Int),((k+1:Nat):Int))):=by
     unfold cK;dsimp only;rw[lF_,aqr,aO hy,aqs,show decide ((a.length:Int)=(a.length:Int))=true from aqu rfl,aqs,gn_ hy];simp only[aqo];rw[wrapN m0,hg];rfl
    rw[eb];dsimp only;rw[ihB,aqW hlb,ey,arn,List.nil_merge,List.nil_merge];simp
   ·have hk:k=b.length:=m0
    subst hk;have eb:cK a b (out,(a.length:Int),(b.length:Int))=some (.exit (out,(a.length:Int),(b.length:Int))):=by
     unfold cK;dsimp only;rw[lF_,aqr,lF_,aqr]
    rw[eb,arn,arn,List.nil_merge,aqZ];rfl
theorem CB {a b:List ap}(ha:a.length<=1000000)(hb:b.length<=1000000)(hra:∀ r∈a,r.row.length<=1000000)(hrb:∀ r∈b,r.row.length<=1000000):ng a b=some (List.merge a b leF):=by
 unfold ng;have:=jS ha hb hra hrb fuel 0 0 [] (aqL _) (aqL _) rfl (by unfold fuel;omega);rw[show(((0:Nat):Int))=0 from rfl]at this;rw[this];simp
theorem KE {a b:List ap}(ha:aet a)(hb:aet b):aet (List.merge a b leF):=by
 have:=List.pairwise_merge (le:=leF) (λx y z h1 h2=>(mT x z).2 (qq _ _ _ ((mT x y).1 h1) ((mT y z).1 h2))) (λx y=>by
  rw[Bool.or_eq_true,mT,mT];exact tCr_.total x.row y.row) a b (ha.imp λh=>(mT _ _).2 h) (hb.imp λh=>(mT _ _).2 h)
 exact this.imp λh=>(mT _ _).1 h
theorem Gk:∀ (n:Nat) (l:List ap),l.length<=n->l.length<=1000000->(∀ r∈l,r.row.length<=1000000) ->∃ r,rM (n+1) l=some r/\aet r/\r.Perm l:=by
 intro n
 induction n with
 |zero =>
  intro l h _ _;have:l=[]:=by cases l with|nil=>rfl|cons _ _=>simp at h
  subst this;exact⟨[],rfl,List.Pairwise.nil,List.Perm.refl _⟩
 |succ n ih =>
  intro l h hl hr
  match l,h,hl,hr with
  |[],_,_,_=>exact⟨[],rfl,List.Pairwise.nil,List.Perm.refl _⟩
  |[x],_,_,hr=>exact⟨[x],rfl,by simp[aet],List.Perm.refl _⟩
  |x::y::t,h,hl,hr =>
   generalize hL:x::y::t=l at h hl hr;have h2:2<=l.length:=by rw[<- hL];simp
   have hm:IntKind.i64.wrap ((l.length:Int).tdiv (2:Int))=((l.length/2:Nat):Int):=by
    rw[show(l.length:Int).tdiv 2=((l.length/2:Nat):Int)from rfl];exact aZ m0 m0
   have s1:gU l 0 ((l.length/2:Nat):Int)=some (l.take (l.length/2)):=by
    unfold gU;rw[if_pos m0,Int.toNat_natCast];rfl
   have s2:gU l ((l.length/2:Nat):Int) (l.length:Int)=some (l.drop (l.length/2)):=by
    unfold gU;rw[if_pos m0,Int.toNat_natCast,Int.toNat_natCast,List.take_length]
   obtain⟨r1,e1,a1,p1⟩:=ih (l.take (l.length/2)) m8 m8 λr hr'=>hr r (arp hr')
   obtain⟨r2,e2,a2,p2⟩:=ih (l.drop (l.length/2)) m8 m8 λr hr'=>hr r (List.mem_of_mem_drop hr')
   refine⟨List.merge r1 r2 leF,?_,KE a1 a2,?_⟩
   ·show m_ (rM (n+1)) l=_
    unfold m_;rw[show decide ((l.length:Int)<2)=false from aqt m0,aqr,show decide ((2:Int)≠0)=true from rfl,aqs,hm,s1];simp only[aqo];rw[e1,aqo,s2,aqo,e2,aqo];rw[CB (by rw[p1.length_eq];simp;omega) (by rw[p2.length_eq];simp;omega) (λr hr'=>hr r (arp (p1.mem_iff.1 hr'))) (λr hr'=>hr r (List.mem_of_mem_drop (p2.mem_iff.1 hr')))];rfl
   ·refine(List.merge_perm_append leF).trans ((p1.append p2).trans ?_)
    rw[ara]
theorem ko (p:ax):cG p=some (aw p):=by
 unfold cG aw
 cases h1:decide (0<=p.lo)<;>cases h2:decide (p.lo<p.hi)<;>cases h3:decide (p.hi<=1099511627776)<;>simp_all
theorem AQ (x:List Val)(h:x.length<=1000000):iJ x x=some true:=by
 unfold iJ;rw[jx x x m0 m0,aqo,tCr_.refl];rfl
theorem wu (r:List Val)(hr:r.length<=1000000)(k:Nat)(hk:k<=300):iY (replicate k r)=some (if k=0 then []else [r]):=by
 unfold iY;have hp:=cO (replicate k r);have hs:gL (replicate k r)=replicate k r:=by
  refine List.eq_replicate_iff.2 ⟨by rw[hp.length_eq];simp,λb hb=>?_⟩;exact(List.mem_replicate.1 (hp.mem_iff.1 hb)).2
 rw[xB _ (by simpa using hk) (λx hx=>by rw[(List.mem_replicate.1 hx).2];exact hr),aqo,hs];have hlen:(replicate k r).length=k:=by simp
 have get:∀ i,i<k->(replicate k r)[i]?=some r:=λi hi=>by rw[List.getElem?_replicate];simp[hi]
 have loop:∀ (n i:Nat),1<=i->i<=k->k-i<n->ao (bO (replicate k r)) n ([r],(i:Int))=some (.inl ([r],(k:Int))):=by
  intro n
  induction n with
  |zero=>intro i _ _ h;omega
  |succ n ih =>
   intro i h1 h2 hn;rw[ao];by_cases hlt:i<k
   ·have hx:=get i hlt
    have e:bO (replicate k r) ([r],(i:Int))=some (.next ([r],((i+1:Nat):Int))):=by
     unfold bO;dsimp only;rw[aO hx,aqs,show decide ((i:Int)=0)=false from aqt m0,aqr,show IntKind.i64.wrap ((i:Int)-1)=((i-1:Nat):Int)from aZ m0 m0,gn_ (get (i-1) m0),gn_ hx];simp only[aqo];rw[AQ r hr];simp only[aqo,Bool.not_true,aqr];rw[wrapN m0]
    rw[e];exact ih (i+1) m0 m0 m0
   ·have:i=k:=m0
    subst this;have e:bO (replicate i r) ([r],(i:Int))=some (.exit ([r],(i:Int))):=by
     unfold bO;dsimp only;rw[show decide ((i:Int)<(((replicate i r).length:Nat):Int))=false from aqt m5,aqr]
    rw[e]
 by_cases h0:k=0
 ·subst h0
  rw[if_pos rfl];have e:bO (replicate 0 r) ([],0)=some (.exit ([],0)):=by
   unfold bO;rfl
  show(ao (bO (replicate 0 r)) (4611686018427387903+1) ([],0)).bind k6=_;rw[ao,e];rfl
 ·rw[if_neg h0]
  have hx:=get 0 m0;have e:bO (replicate k r) ([],0)=some (.next ([r],((1:Nat):Int))):=by
   have hg:=gn_ hx;unfold bO;dsimp only;rw[show decide ((0:Int)<(((replicate k r).length:Nat):Int))=true from aqu m8,aqs,show decide ((0:Int)=0)=true from rfl,aqs];rw[show aF (replicate k r) 0=some r from hg];rfl
  show(ao (bO (replicate k r)) (4611686018427387903+1) ([],0)).bind k6=_;rw[ao,e];dsimp only;rw[loop 4611686018427387903 1 m0 m0 m0];rfl
theorem GV (s:List ap)(r:List Val)(hr:r.length<=1000000)(hs:∀ f∈s,f.row=r)(hn:s.length<=300):xk s=some (if s.any λf=>aw f.valid then [r]else []):=by
 unfold xk;have hfm:∀ l:List ap,(∀ f∈l,f.row=r)->(l.flatMap λf=>if aw f.valid then [f.row]else [])=replicate (l.countP λf=>aw f.valid) r:=by
  intro l
  induction l with
  |nil=>intro _;rfl
  |cons f l ih =>
   intro h;rw[aq3,ih λx hx=>h x (aqO _ hx),List.countP_cons,h f m5];by_cases hv:aw f.valid=true
   ·rw[if_pos hv,if_pos hv,List.replicate_succ];rfl
   ·rw[if_neg hv,if_neg hv];rfl
 have hc:s.countP (λf=>aw f.valid)<=s.length:=List.countP_le_length;rw[cn (l:=s) (λf=>if aw f.valid then [f.row]else []) 5864062014805 ?_ ?_ (by unfold fuel;omega) [] (by rw[hfm s hs];simp;omega)]
 ·rw[aqo,hfm s hs,aqv]
  show(iY _).bind _=_;rw[wu r hr _ m0,aqo];by_cases ha:(s.any λf=>aw f.valid)=true
  ·rw[if_pos ha,if_neg]
   intro e;obtain⟨f,hf,hv⟩:=List.any_eq_true.1 ha;have:=(List.countP_pos_iff (p:=λf:ap=>aw f.valid)).2 ⟨f,hf,hv⟩;omega
  ·rw[if_neg ha,if_pos]
   rw[List.countP_eq_zero];intro f hf hv;exact ha (List.any_eq_true.2 ⟨f,hf,hv⟩)
 ·intro o i x hx ho
  have hi:=(aqp.1 hx).1;unfold tp;dsimp only;rw[aO hx,aqs,gn_ hx];simp only[aqo];rw[ko,aqo];by_cases hv:aw x.valid=true
  ·rw[if_pos hv]at ho ⊢
   rw[hv,aqs,show decide (o.length+1<=5864062014805)=true from aqu (by simpa using ho),aqs,wrapN m0]
  ·rw[if_neg hv]
   rw[Bool.not_eq_true]at hv;rw[hv,aqr,wrapN m0,aqZ]
 ·intro o
  unfold tp;dsimp only;rw[lF_,aqr]
def dl (l:List ap)(r:List Val):List ax:=(l.filter λf=>decide (f.row=r)).map (·.valid)
theorem AW (s:List ap)(r:List Val)(hr:r.length<=1000000)(hs:∀ f∈s,f.row.length<=1000000)(hn:s.length<=1000):nv s r=some (xW (ones (dl s r))):=by
 unfold nv;have hfm:∀ l:List ap,(l.flatMap λf=>if f.row=r then [(⟨f.valid,1⟩:tm)]else [])=ones (dl l r):=by
  intro l
  induction l with
  |nil=>rfl
  |cons f l ih =>
   rw[aq3,ih];unfold dl ones;by_cases e:f.row=r
   ·rw[if_pos e,List.filter_cons_of_pos (by simpa using e)];rfl
   ·rw[if_neg e,List.filter_cons_of_neg (by simpa using e)];rfl
 have hl:(dl s r).length<=s.length:=by unfold dl;rw[aqC];exact List.length_filter_le _ _
 have hl2:(ones (dl s r)).length=(dl s r).length:=by unfold ones;simp
 rw[cn (l:=s) (λf=>if f.row=r then [(⟨f.valid,1⟩:tm)]else []) 5864062014805 ?_ ?_ (by unfold fuel;omega) [] (by rw[hfm];simp;omega)]
 ·rw[aqo,hfm,aqv]
  show(ai9 _).bind _=_;unfold ai9;rw[show decide ((ones (dl s r)).length<=100000)=true from aqu m0];rfl
 ·intro o i x hx ho
  have hi:=(aqp.1 hx).1;unfold jW;dsimp only;rw[aO hx,aqs,gn_ hx];simp only[aqo];rw[jx x.row r (by have:=hs x (aqw hx);omega) m0,aqo];by_cases e:x.row=r
  ·rw[if_pos e]at ho ⊢
   rw[show decide (bL x.row r=0)=true from aqu (by rw[e];exact tCr_.refl r),aqs,show decide (o.length+1<=5864062014805)=true from aqu (by simpa using ho),aqs,wrapN m0]
  ·rw[if_neg e,show decide (bL x.row r=0)=false from aqt λq=>e (tCr_.zero _ _ q),aqr,wrapN m0,aqZ]
 ·intro o
  unfold jW;dsimp only;rw[lF_,aqr]
theorem sn (r:List Val)(ps:List ax)(hn:ps.length<=1000000):kP r ps=some (ps.map λp=>⟨r,p⟩):=by
 unfold kP;rw[cn (l:=ps) (λp=>[(⟨r,p⟩:ap)]) 3518437208883 ?_ ?_ (by unfold fuel;omega) [] (by rw[fo_];simp;omega)]
 ·rw[aqo,fo_,aqv];rfl
 ·intro o i x hx ho
  have hi:=(aqp.1 hx).1;unfold tS;dsimp only;rw[aO hx,aqs,gn_ hx];simp only[aqo];rw[show decide (o.length+1<=3518437208883)=true from aqu (by simpa using ho),aqs,wrapN m0]
 ·intro o
  unfold tS;dsimp only;rw[lF_,aqr]
theorem ET (r:List Val):∀ l:List ap,∃ s t,l=s++t/\(∀ f∈s,f.row=r)/\(∀ f u,t=f::u->f.row≠r)
 |[]=>⟨[],[],rfl,(λ_ h=>by cases h),(λ_ _ h=>by cases h)⟩
 |f::l=>by
  by_cases e:f.row=r
  ·obtain⟨s,t,h1,h2,h3⟩:=ET r l
   refine⟨f::s,t,by rw[h1];rfl,λg hg=>?_,h3⟩;obtain rfl|hg:=aqH.1 hg
   ·exact e
   ·exact h2 g hg
  ·exact⟨[],f::l,rfl,(λ_ h=>by cases h),(λg u h=>by injection h with h1 h2;subst h1;exact e)⟩
theorem aes {α:Type}(P s t:List α):gU (P++s++t) (P.length:Int) (((P.length+s.length:Nat):Nat):Int)=some s:=by
 unfold gU;rw[if_pos m8,Int.toNat_natCast,Int.toNat_natCast];congr 1;have e:(P++s++t).take (P.length+s.length)=P++s:=by
  rw[List.take_append_of_le_length m5];rw[aq5 m5]
 rw[e,List.drop_left]
theorem JO (s t:List ap)(r:List Val):dl (s++t) r=dl s r++dl t r:=by unfold dl;rw[List.filter_append,aqD]
theorem vn {l:List ap}{r:List Val}(h:∀ f∈l,f.row≠r):dl l r=[]:=by
 unfold dl;rw[List.map_eq_nil_iff,List.filter_eq_nil_iff];intro f hf e;exact h f hf (aqT e)
def akG (l:List ap)(G:List bR):Prop:=dP l (G.map (·.row)) /\ ∀ g∈G,g.steps=xW (ones (dl l g.row))
theorem run_end (P s t:List ap)(r:List Val)(f0:ap)(hf0:f0.row=r)(hrl:∀ f∈P++s++t,f.row.length<=1000000)(hn:(P++s++t).length<=300)(hs:∀ f∈s,f.row=r)(hs0:s[0]?=some f0)(ht:∀ f u,t=f::u->f.row≠r) :
  ∀ (n j:Nat),j<=s.length->s.length-j<n->ao (dZ (P++s++t) (P.length:Int)) n (((P.length+j:Nat):Nat):Int)=some (.inl (((P.length+s.length:Nat):Nat):Int)):=by
 have hi:(P++s++t)[P.length]?=some f0:=by
  rw[aqR,aqx (aqG _),Nat.sub_self,aqE (by have:=(aqp.1 hs0).1;omega)];exact hs0
 have hnl:P.length+s.length<=300:=by simp only[aqy]at hn;omega
 intro n
 induction n with
 |zero=>intro j _ h;omega
 |succ n ih =>
  intro j hj hn2;rw[ao];by_cases hlt:j<s.length
  ·obtain⟨x,hx⟩:=gol_ hlt
   have hx2:(P++s++t)[P.length+j]?=some x:=by
    rw[aqR,aqx m0,show P.length+j-P.length=j by omega,aqE hlt];exact hx
   have hxm:=aqw hx2;have him:=aqw hi;have e:dZ (P++s++t) (P.length:Int) (((P.length+j:Nat):Nat):Int)=some (.next (((P.length+(j+1):Nat):Nat):Int)):=by
    unfold dZ;dsimp only;rw[aO hx2,aqs,gn_ hx2,gn_ hi];simp only[aqo];rw[jx x.row f0.row (by have:=hrl x hxm;omega) (by have:=hrl f0 him;omega),aqo];rw[hs x (aqw hx),hf0,tCr_.refl];rw[show decide ((0:Int)=0)=true from rfl,aqs,wrapN m0];rfl
   rw[e];exact ih (j+1) m0 m0
  ·have hje:j=s.length:=m0
   subst hje;have e:dZ (P++s++t) (P.length:Int) (((P.length+s.length:Nat):Nat):Int)=some (.exit (((P.length+s.length:Nat):Nat):Int)):=by
    unfold dZ;dsimp only
    cases t with
    |nil =>
     rw[show decide ((((P.length+s.length:Nat):Nat):Int)<(((P++s++([]:List ap)).length:Nat):Int))=false from aqt m5,aqr]
    |cons y u =>
     have hy:(P++s++y::u)[P.length+s.length]?=some y:=by
      rw[aqx m5,aqy,Nat.sub_self];rfl
     rw[aO hy,aqs,gn_ hy,gn_ hi];simp only[aqo];rw[jx y.row f0.row (by have:=hrl y (aqw hy);omega) (by have:=hrl f0 (aqw hi);omega),aqo];rw[show decide (bL y.row f0.row=0)=false from aqt λq=>ht y u rfl ((tCr_.zero _ _ q).trans hf0),aqr]
   rw[e]
theorem aag (all:List ap)(hrl:∀ f∈all,f.row.length<=1000000)(hn:all.length<=300)(ha:aet all) :
  ∀ (n:Nat) (P t:List ap) (out:List bR),all=P++t->t.length<n->out.length<=P.length ->∃ G,akG t G/\ao (du all) n (out,(P.length:Int))=some (.inl (out++G,(all.length:Int))):=by
 intro n
 induction n with
 |zero=>intro P t out _ h;omega
 |succ n ih =>
  intro P t out hall htn hout;rw[ao]
  match t,hall,htn with
  |[],hall,_ =>
   refine⟨[],⟨⟨List.Pairwise.nil,λx=>?_⟩,λg hg=>by cases hg⟩,?_⟩
   ·constructor
    ·intro h;cases h
    ·rintro⟨f,hf,_⟩;cases hf
   ·have e:du all (out,(P.length:Int))=some (.exit (out,(P.length:Int))):=by
     unfold du;dsimp only;rw[show decide ((P.length:Int)<(all.length:Int))=false from aqt (by rw[hall];simp),aqr]
    rw[e,hall];simp
  |f0::t0,hall,htn =>
   obtain⟨s,u,hsu,hs,hu⟩:=ET f0.row (f0::t0);have hs0:s[0]?=some f0:=by
    cases s with
    |nil=>exact absurd rfl (hu f0 t0 (by rw[hsu];rfl))
    |cons y s'=>rw[List.cons_append]at hsu;injection hsu with h1 _;rw[h1];rfl
   have hsl:0<s.length:=(aqp.1 hs0).1;have hall2:all=P++s++u:=by rw[hall,hsu,aqR]
   have hlen:=congrArg List.length hall2;simp only[aqy]at hlen;have hu2:u.length+s.length=(f0::t0).length:=by rw[hsu];simp;omega
   have hrun:=run_end P s u f0.row f0 rfl (by rw[<- hall2];exact hrl) (by rw[<- hall2];exact hn) hs hs0 hu fuel 0 (aqL _) (by unfold fuel;omega);rw[<- hall2,Nat.add_zero]at hrun;have hr0:f0.row.length<=1000000:=hrl f0 (by rw[hall];simp);have hrs:∀ f∈s,f.row.length<=1000000:=λf hf=>hrl f (by rw[hall2];simp[hf])
   have hrows:=GV s f0.row hr0 hs m0;have hcnt:=AW s f0.row hr0 hrs m0

   have hgt:∀ f∈u,bL f0.row f.row<0:=by
    intro f hf;have h1:aet u:=by rw[hall2]at ha;exact(List.pairwise_append.1 ha).2.1
    have h2:∀ a∈P++s,∀ b∈u,bL a.row b.row<=0:=by rw[hall2]at ha;exact(List.pairwise_append.1 ha).2.2
    have hf0s:f0∈P++s:=List.mem_append_right _ (aqw hs0)
    cases u with
    |nil=>cases hf
    |cons y v =>
     have hy0:=h2 f0 hf0s y m5;have hyn:bL f0.row y.row≠0:=λq=>hu y v rfl (tCr_.zero _ _ q).symm
     have hlt:bL f0.row y.row<0:=m0
     obtain rfl|hf:=aqH.1 hf
     ·exact hlt
     ·have hyf:=(aro.1 h1).1 f hf
      obtain h|h:=Int.lt_or_eq_of_le hyf
      ·exact tCr_.trans _ _ _ hlt h
      ·rw[<- tCr_.zero _ _ h];exact hlt
   have hne:∀ f∈u,f.row≠f0.row:=λf hf e=>by have:=hgt f hf;rw[e,tCr_.refl]at this;omega
   obtain⟨o1,ho1⟩:∃ o1:List bR,o1=if s.any (λf=>aw f.valid)then [⟨f0.row,xW (ones (dl s f0.row))⟩]else []:=⟨_,rfl⟩
   have ho1l:o1.length<=1:=by rw[ho1];split<;>simp
   obtain⟨G,hG,hL⟩:=ih (P++s) u (out++o1) hall2 (by simp at htn;simp at hu2;omega) m8;have hi0:all[P.length]?=some f0:=by
    rw[hall,aqx (aqG _),Nat.sub_self];rfl
   have e:du all (out,(P.length:Int))=some (.next (out++o1,(((P++s).length:Nat):Int))):=by
    unfold du;dsimp only;rw[aO hi0,aqs,hrun,aqo];show(gU all (P.length:Int) (((P.length+s.length:Nat):Nat):Int)).bind _=_;rw[show gU all (P.length:Int) (((P.length+s.length:Nat):Nat):Int)=some s by rw[hall2];exact aes P s u,aqo,hrows,aqo];by_cases hv:(s.any λf=>aw f.valid)=true
    ·rw[if_pos hv]at ho1 ⊢
     rw[cn (l:=[f0.row]) (λr=>[(⟨r,xW (ones (dl s f0.row))⟩:bR)]) 2932031007402 ?_ ?_ (by unfold fuel;simp) out m8]
     ·rw[aqo,ho1,aqy];rfl
     ·intro o i x hx ho
      have hi:=(aqp.1 hx).1;have hi1:i=0:=by simpa using hi
      subst hi1;simp at hx;subst hx;unfold fk;dsimp only;rw[show decide (((0:Nat):Int)<((([f0.row]:List (List Val)).length:Nat):Int))=true from rfl,aqs,show aF [f0.row] ((0:Nat):Int)=some f0.row from rfl,aqo,hcnt,aqo];rw[show decide (o.length+1<=2932031007402)=true from aqu (by simpa using ho),aqs,wrapN m0]
     ·intro o
      unfold fk;dsimp only;rw[lF_,aqr]
    ·rw[if_neg hv]at ho1 ⊢
     rw[cn (l:=([]:List (List Val))) (λr=>([]:List bR)) 2932031007402 ?_ ?_ (by unfold fuel;simp) out m8]
     ·rw[aqo,ho1,aqy];simp[fw]
     ·intro o i x hx;simp at hx
     ·intro o
      unfold fk;dsimp only;rw[lF_,aqr]
   refine⟨o1++G,⟨⟨?_,λx=>?_⟩,λg hg=>?_⟩,?_⟩
   ·rw[aqD]
    refine List.pairwise_append.2 ⟨by rw[ho1];split<;>simp,hG.1.1,λa ha2 b hb=>?_⟩;obtain⟨f,hf,_,e⟩:=(hG.1.2 b).1 hb;have:a=f0.row:=by rw[ho1]at ha2;split at ha2<;>simp at ha2;exact ha2
    rw[this,<- e];exact hgt f hf
   ·rw[aqD,aqS,hG.1.2 x,hsu]
    constructor
    ·rintro(h|⟨f,hf,h⟩)
     ·rw[ho1]at h
      split at h
      ·rename_i hv
       simp at h;obtain⟨f,hf,hv⟩:=List.any_eq_true.1 hv;exact⟨f,List.mem_append_left _ hf,hv,by rw[h];exact hs f hf⟩
      ·simp at h
     ·exact⟨f,List.mem_append_right _ hf,h⟩
    ·rintro⟨f,hf,hv,e⟩
     obtain hf|hf:=aqS.1 hf
     ·left
      rw[ho1,if_pos (List.any_eq_true.2 ⟨f,hf,hv⟩)];simp[<- e,hs f hf]
     ·exact .inr ⟨f,hf,hv,e⟩
   ·rw[hsu,JO]
    obtain hg|hg:=aqS.1 hg
    ·have hgr:g=⟨f0.row,xW (ones (dl s f0.row))⟩:=by rw[ho1]at hg;split at hg<;>simp at hg;exact hg
     rw[hgr];rw[vn hne,aqZ]
    ·have hgm:g.row∈G.map (·.row):=List.mem_map_of_mem hg
     obtain⟨f,hf,_,e⟩:=(hG.1.2 g.row).1 hgm;rw[vn (l:=s) (λf' hf' q=>hne f hf (by rw[e,<- q];exact(hs f' hf'))),aqv];exact hG.2 g hg
   ·rw[e]
    dsimp only;rw[hL,aqR]
theorem NW (l all:List ap)(h:all.Perm l)(r:List Val):bI (dl all r)=bI (bo l r):=by
 refine J4 ?_;have e1:(dl all r).filter (λp=>St.aK (toP p))=bo all r:=by
  unfold dl bo;rw[List.filter_map,List.filter_filter];congr 1
 have e2:(bo l r).filter (λp=>St.aK (toP p))=bo l r:=List.filter_eq_self.2 λp hp=>vA l r p hp
 rw[e1,e2];unfold bo;exact(h.filter _).map _
theorem KT (l:List ap)(hn:l.length<=300)(hr:∀ f∈l,f.row.length<=1000000):∃ R,dP l R/\mj l=some (dH l R)/\(dH l R).length<=108180000:=by
 obtain⟨all,e1,a1,p1⟩:=Gk 639 l m0 m0 hr;have hal:all.length=l.length:=p1.length_eq;obtain⟨G,hG,hL⟩:=aag all (λf hf=>hr f (p1.mem_iff.1 hf)) m0 a1 fuel [] all [] rfl (by unfold fuel;omega) (aqG _);have hgr:nG l=some G:=by
  unfold nG;rw[e1,aqo];have:ao (du all) fuel ([],(0:Int))=some (.inl ([]++G,(all.length:Int))):=hL;rw[this,aqo,aqv];rfl
 have hR:dP l (G.map (·.row)):=by
  refine⟨hG.1.1,λx=>(hG.1.2 x).trans ?_⟩;constructor
  ·rintro⟨f,hf,h⟩;exact⟨f,p1.mem_iff.1 hf,h⟩
  ·rintro⟨f,hf,h⟩;exact⟨f,p1.mem_iff.2 hf,h⟩
 refine⟨G.map (·.row),hR,?_⟩;have hpl:∀ r,(dl all r).length<=300:=λr=>by
  have:(dl all r).length<=all.length:=by unfold dl;rw[aqC];exact List.length_filter_le _ _
  omega
 have hlev:∀ g∈G,aad g.steps=some (bI (bo l g.row)):=by
  intro g hg;rw[hG.2 g hg,<- NW l all p1];unfold aad;rw[if_pos (LW _ (by have:=hpl g.row;omega))];rfl
 have hll:∀ g∈G,(bI (bo l g.row)).length<=360600:=λg hg=>by
  have h1:=FD (bo l g.row);have h2:=EJ l g.row;omega
 have hGl:G.length<=300:=by

  have h1:∀ (R:List (List Val)) (L:List (List Val)),R.Nodup->(∀ x∈R,x∈L)->R.length<=L.length:=by
   intro R
   induction R with
   |nil=>intro L _ _;simp
   |cons x R ih =>
    intro L hnd hm;have hx:=hm x m5;have hnd2:=List.nodup_cons.1 hnd;have h2:=ih (L.erase x) hnd2.2 λy hy=>by
     have hne:y≠x:=λe=>hnd2.1 (e▸hy)
     exact(List.mem_erase_of_ne hne).2 (hm y (aqO _ hy))
    have h3:=List.length_erase_of_mem hx;have h4:0<L.length:=List.length_pos_of_mem hx;rw[aqM];omega
  have h2:(G.map (·.row)).Nodup:=by
   refine List.Pairwise.imp ?_ hR.1;intro a b h e;rw[e,tCr_.refl]at h;omega
  have h3:=h1 (G.map (·.row)) (l.map (·.row)) h2 λx hx=>by
   obtain⟨f,hf,_,e⟩:=(hR.2 x).1 hx;exact aq0.2 ⟨f,hf,e⟩
  simp at h3;omega
 have hfl:∀ L:List bR,(∀ g∈L,(bI (bo l g.row)).length<=360600)->(L.flatMap λg=>(bI (bo l g.row)).map λp=>(⟨g.row,p⟩:ap)).length<=L.length*360600:=by
  intro L
  induction L with
  |nil=>intro _;simp
  |cons g L ih =>
   intro hL;have h1:=ih λx hx=>hL x (aqO _ hx)
   have h2:=hL g m5;rw[aq3,aqy,aqC,aqM];omega
 have htot:=Nat.le_trans (hfl G hll) (aq2 360600 hGl);refine⟨?_,by unfold dH;rw[List.flatMap_map];exact htot⟩;unfold mj;rw[hgr,aqo];rw[cn (l:=G) (λg=>(bI (bo l g.row)).map λp=>(⟨g.row,p⟩:ap)) 3518437208883 ?_ ?_ (by unfold fuel;omega) [] (by simp only[aqV];omega)]
 ·rw[aqo,aqv]
  show some _=some _;unfold dH;rw[List.flatMap_map]
 ·intro s i x hx hs
  have hi:=(aqp.1 hx).1;have hxm:=aqw hx;have h2:=hll x hxm;unfold uR;dsimp only;rw[aO hx,aqs,gn_ hx];simp only[aqo];rw[hlev x hxm,aqo,sn x.row _ m0,aqo];rw[show decide (s.length+((bI (bo l x.row)).map λp=>(⟨x.row,p⟩:ap)).length<=3518437208883)=true from aqu hs,aqs,wrapN m0]
 ·intro s
  unfold uR;dsimp only;rw[lF_,aqr]
theorem qz (p:ax)(t:Int):dO p t=some (aw p&&(decide (p.lo<=t)&&decide (t<p.hi))):=by
 unfold dO;rw[ko,aqo]
 cases aw p<;>cases decide (p.lo<=t)<;>rfl
theorem Gw (l:List ap)(hn:l.length<=1000000000)(hr:∀ f∈l,f.row.length<=1000000):gX l l=some true:=by
 unfold gX;rw[show decide ((l.length:Int)≠(l.length:Int))=false from aqt λh=>h rfl,aqr];have loop:∀ (n i:Nat),i<=l.length->l.length-i<n->ao (ie l l) n (i:Int)=some (.inl (l.length:Int)):=by
  intro n
  induction n with
  |zero=>intro i _ h;omega
  |succ n ih =>
   intro i hi h;rw[ao];by_cases hlt:i<l.length
   ·obtain⟨x,hx⟩:=gol_ hlt
    have hxr:=hr x (aqw hx);have e:ie l l (i:Int)=some (.next (((i+1:Nat):Nat):Int)):=by
     unfold ie;dsimp only;rw[aO hx,aqs,gn_ hx];simp only[aqo];rw[show cl [.c (.int .i64 x.valid.lo),.c (.int .i64 x.valid.hi)] [.c (.int .i64 x.valid.lo),.c (.int .i64 x.valid.hi)]=true by simp[cl],jx x.row x.row m0 m0];simp only[Bool.not_true,aqr,aqo];rw[tCr_.refl,show decide ((0:Int)≠0)=false from rfl,aqr,wrapN m0]
    rw[e];exact ih (i+1) m0 m0
   ·have:i=l.length:=m0
    subst this;have e:ie l l (l.length:Int)=some (.exit (l.length:Int)):=by
     unfold ie;dsimp only;rw[lF_,aqr]
    rw[e]
 have:=loop fuel 0 (aqL _) (by unfold fuel;omega);rw[show ao (ie l l) fuel (0:Int)=_ from this];rfl
def bK:Val:=⟨0,0,ByteArray.empty⟩
theorem jB:j9=some bK:=rfl
theorem bT:dt=some bK:=rfl
def vF (v:Val):Bool:=(dh v).getD false
theorem gu (v:Val):dh v=some (vF v):=by
 obtain⟨r,hr⟩:=Au v;unfold vF;rw[hr];rfl
theorem tP (v:Val):pF v=some (vF v):=(show pF v=dh v from rfl).trans (gu v)
def orN (v:Val):Val:=bif vF v then v else bK
theorem zt (v:Val):tC v=some (orN v):=by
 unfold tC orN;rw[tP,aqo,jB]
 cases vF v<;>rfl
theorem zT (v:Val):pp v=some (orN v):=by
 unfold pp orN;rw[gu,aqo,bT]
 cases vF v<;>rfl
theorem kr:vF bK=true:=by
 have e:(ByteArray.empty.toList==(⟨#[]⟩:ByteArray).toList)=true:=by rw[ByteArray.toList_eq,ByteArray.toList_eq];rfl
 unfold vF dh bK;dsimp only;rw[e];rfl
theorem ol (v:Val):vF (orN v)=true:=by
 unfold orN
 cases h:vF v with
 |true=>exact h
 |false=>exact kr
def lu (b:Bool):Val:=bif b then⟨3,1,ByteArray.empty⟩else⟨3,0,ByteArray.empty⟩
theorem E7 (b:Bool):sW b=some (lu b):=by cases b<;>rfl
theorem r7 (b:Bool):qD b=some (lu b):=by cases b<;>rfl
theorem Bh (b:Bool):vF (lu b)=true:=by
 have e:(ByteArray.empty.toList==(⟨#[]⟩:ByteArray).toList)=true:=by rw[ByteArray.toList_eq,ByteArray.toList_eq];rfl
 unfold vF dh lu
 cases b<;>(dsimp only[cond_true,cond_false];rw[e];rfl)
theorem jV (n:Int):nU n=some (orN ⟨1,n,ByteArray.empty⟩):=by unfold nU;rw[zt];rfl
theorem iE (n:Int):o6 n=some (orN ⟨1,n,ByteArray.empty⟩):=by unfold o6;rw[zT];rfl
theorem N6 (s:ByteArray):yG s=some (orN ⟨2,0,s⟩):=by unfold yG;rw[zt];rfl
theorem Oe (s:ByteArray):D6 s=some (orN ⟨2,0,s⟩):=by unfold D6;rw[zT];rfl
def T3 (t:Int):Prop:=t=0\/t=1\/t=2
theorem tk (v:Val):∃ t,jL v=some t/\ft v=some t/\T3 t:=by
 have e:jL v=ft v:=rfl;have h:∃ t,ft v=some t/\T3 t:=by
  unfold ft;rw[r7,r7];simp only[aqo]
  cases cl [.c (.int .i64 v.kind),.c (.int .i64 v.int),.c (.str v.text)] [.c (.int .i64 (lu true).kind),.c (.int .i64 (lu true).int),.c (.str (lu true).text)]with
  |true=>exact⟨2,rfl,.inr (.inr rfl)⟩
  |false =>
   rw[aqr]
   cases cl [.c (.int .i64 v.kind),.c (.int .i64 v.int),.c (.str v.text)] [.c (.int .i64 (lu false).kind),.c (.int .i64 (lu false).int),.c (.str (lu false).text)]with
   |true=>exact⟨0,rfl,.inl rfl⟩
   |false=>exact⟨1,rfl,.inr (.inl rfl)⟩
 obtain⟨t,h1,h2⟩:=h;exact⟨t,e.trans h1,h1,h2⟩
def tF_ (v:Val):Int:=(ft v).getD 1
theorem gM (v:Val):jL v=some (tF_ v):=by obtain⟨t,h1,h2,_⟩:=tk v;unfold tF_;rw[h1,h2];rfl
theorem kF (v:Val):ft v=some (tF_ v):=by obtain⟨t,h1,h2,_⟩:=tk v;unfold tF_;rw[h2];rfl
theorem fU (v:Val):T3 (tF_ v):=by obtain⟨t,h1,h2,h3⟩:=tk v;unfold tF_;rw[h2];exact h3
def Ho (a:Int):Int:=if a=2 then 0 else if a=0 then 2 else 1
def KW (a b:Int):Int:=if a=0\/b=0 then 0 else if a=2/\b=2 then 2 else 1
def or3 (a b:Int):Int:=if a=2\/b=2 then 2 else if a=0/\b=0 then 0 else 1
theorem qb (a:Int):T3 (Ho a):=by unfold Ho;split;exact .inl rfl;split;exact .inr (.inr rfl);exact .inr (.inl rfl)
theorem Il (a b:Int):T3 (KW a b):=by unfold KW;split;exact .inl rfl;split;exact .inr (.inr rfl);exact .inr (.inl rfl)
theorem abM (a b:Int):T3 (or3 a b):=by unfold or3;split;exact .inr (.inr rfl);split;exact .inl rfl;exact .inr (.inl rfl)
theorem sS {a:Int}(h:T3 a):JD a=some (Ho a):=by rcases h with rfl|rfl|rfl<;>rfl
theorem wi {a:Int}(h:T3 a):Hf a=some (Ho a):=by rcases h with rfl|rfl|rfl<;>rfl
theorem y8 {a:Int}(h:T3 a):mE a=some a:=by rcases h with rfl|rfl|rfl<;>rfl
theorem Ei {a b:Int}(ha:T3 a)(hb:T3 b):Ap [a,b]=some (mnI (mnI 2 a) b):=by
 unfold Ap;rw[bX (l:=[a,b]) (mk:=λt i=>(t,i)) (f:=λt x=>(mE x).bind λr=>some (.inl (mnI t r))) ?_ ?_ (by unfold fuel;simp) 2]
 ·simp only[cA,y8 ha,y8 hb,aqo]
  rfl
 ·intro s i x hx
  have hi:=(aqp.1 hx).1;unfold rL;dsimp only;rw[aO hx,aqs,gn_ hx,wrapN (by simp at hi;omega)];simp only[aqo]
  cases mE x<;>rfl
 ·intro s
  unfold rL;dsimp only;rw[lF_,aqr]
theorem aiI {a b:Int}(ha:T3 a)(hb:T3 b):aei a b=some (KW a b):=by
 unfold aei;rw[Ei ha hb];rcases ha with rfl|rfl|rfl<;>rcases hb with rfl|rfl|rfl<;>rfl
theorem ado {a b:Int}(ha:T3 a)(hb:T3 b):G7 a b=some (KW a b):=by
 rcases ha with rfl|rfl|rfl<;>rcases hb with rfl|rfl|rfl<;>rfl
theorem ald {a b:Int}(ha:T3 a)(hb:T3 b):FX a b=some (or3 a b):=by
 unfold FX;rw[sS ha,sS hb];simp only[aqo];rw[Ei (qb a) (qb b)];rcases ha with rfl|rfl|rfl<;>rcases hb with rfl|rfl|rfl<;>rfl
theorem ah4 {a b:Int}(ha:T3 a)(hb:T3 b):afw a b=some (or3 a b):=by
 rcases ha with rfl|rfl|rfl<;>rcases hb with rfl|rfl|rfl<;>rfl
def AD (t:Int):Val:=if t=2 then lu true else if t=0 then lu false else bK
theorem iG {t:Int}(h:T3 t):x7 t=some (AD t):=by rcases h with rfl|rfl|rfl<;>rfl
theorem mX {t:Int}(h:T3 t):Ee t=some (AD t):=by rcases h with rfl|rfl|rfl<;>rfl
theorem qm (t:Int):vF (AD t)=true:=by
 unfold AD;split
 ·exact Bh _
 ·split
  ·exact Bh _
  ·exact kr
def aen (a b:Val)(is:Bool):Int:=if a.kind=0\/a.kind≠b.kind then 1 else bif is then 2 else 0
theorem ac6 (a b:Val)(is:Bool):T3 (aen a b is):=by
 unfold aen;split
 ·exact .inr (.inl rfl)
 ·cases is
  ·exact .inl rfl
  ·exact .inr (.inr rfl)
theorem sX (a b:Val)(is:Bool):pH a b is=some (aen a b is):=by
 unfold pH aen;by_cases h1:a.kind=0
 ·simp[h1]
 ·by_cases h2:a.kind=b.kind
  ·have hb:¬ b.kind=0:=by rw[<- h2];exact h1
   simp only[h2,aqt hb,aqr,ne_eq,not_true_eq_false,decide_false,or_false];rw[if_neg hb]
   cases is<;>rfl
  ·simp only[aqt h1,aqr,ne_eq,h2,not_false_eq_true,decide_true,aqs,or_true,if_true]
theorem zx (a b:Val)(is:Bool):sT a b is=some (aen a b is):=(show sT a b is=pH a b is from rfl).trans (sX a b is)
def eqF (a b:Val):Int:=aen a b (decide (uD a b=0))
def ltF (a b:Val):Int:=aen a b (decide (uD a b<0))
theorem aid (a b:Val):agB a b=some (eqF a b):=by unfold agB;rw[uQ,aqo,sX];rfl
theorem ahY (a b:Val):agk a b=some (eqF a b):=by unfold agk;rw[CE,aqo,zx];rfl
theorem OO (a b:Val):sJ a b=some (ltF a b):=by unfold sJ;rw[uQ,aqo,sX];rfl
theorem Oo (a b:Val):td a b=some (ltF a b):=by unfold td;rw[CE,aqo,zx];rfl
def qN (op:Int)(a b:Val):Int:=if op=7 then eqF a b else if op=8 then Ho (eqF a b)else if op=9 then ltF a b else if op=11 then ltF b a else if op=10 then Ho (ltF b a)else Ho (ltF a b)
theorem acw (a b:Val):T3 (eqF a b):=ac6 _ _ _
theorem yQ (a b:Val):T3 (ltF a b):=ac6 _ _ _
theorem gZ (op:Int)(a b:Val):T3 (qN op a b):=by
 unfold qN;split
 ·exact acw _ _
 split
 ·exact qb _
 split
 ·exact yQ _ _
 split
 ·exact yQ _ _
 split
 ·exact qb _
 ·exact qb _
theorem dK (op:Int)(a b:Val):jc op a b=some (qN op a b):=by
 unfold jc qN;simp only[aid,OO,aqo,sS (acw a b),sS (yQ a b),sS (yQ b a)];by_cases h1:op=7
 ·simp[h1]
 by_cases h2:op=8
 ·simp[h2]
 by_cases h3:op=9
 ·simp[h3]
 by_cases h4:op=11
 ·simp[h4]
 by_cases h5:op=10
 ·simp[h5]
 simp[h1,h2,h3,h4,h5]
theorem fC (op:Int)(a b:Val):eX op a b=some (qN op a b):=by
 unfold eX qN;simp only[ahY,Oo,aqo,wi (acw a b),wi (yQ a b),wi (yQ b a)];by_cases h1:op=7
 ·simp[h1]
 by_cases h2:op=8
 ·simp[h2]
 by_cases h3:op=9
 ·simp[h3]
 by_cases h4:op=11
 ·simp[h4]
 by_cases h5:op=10
 ·simp[h5]
 simp[h1,h2,h3,h4,h5]
def cU (p q:ax):Int :=
 if p.hi<q.lo then 0 else if p.hi=q.lo then 1 else if q.hi<p.lo then 12 else if q.hi=p.lo then 11 else if p.lo=q.lo/\p.hi=q.hi then 6
 else if p.lo=q.lo then(if p.hi<q.hi then 3 else 9)else if p.hi=q.hi then(if q.lo<p.lo then 5 else 7)
 else if p.lo<q.lo/\q.hi<p.hi then 8 else if q.lo<p.lo/\p.hi<q.hi then 4 else if p.lo<q.lo then 2 else 10
theorem cM (p q:ax):cl [.c (.int .i64 p.lo),.c (.int .i64 p.hi)] [.c (.int .i64 q.lo),.c (.int .i64 q.hi)]=decide (p.lo=q.lo/\p.hi=q.hi):=by
 simp[cl]
theorem acf (p q:ax):ag6 p q=some (if aw p=true/\aw q=true then(cU p q,true)else(0,false)):=by
 unfold ag6;rw[iN,iN];simp only[aqo]
 cases hp:aw p with
 |false=>simp
 |true =>
  cases hq:aw q with
  |false=>simp
  |true =>
   simp only[Bool.not_true,aqr,and_self,if_true,cM];unfold cU;by_cases h1:p.hi<q.lo
   ·simp only[Bool.cond_decide,eq_true h1,if_true,if_false,and_true,true_and,and_false,false_and,and_self]
   by_cases h2:p.hi=q.lo
   ·simp only[Bool.cond_decide,eq_true h2,eq_false h1,if_true,if_false,and_true,true_and,and_false,false_and,and_self]
   by_cases h3:q.hi<p.lo
   ·simp only[Bool.cond_decide,eq_true h3,eq_false h1,eq_false h2,if_true,if_false,and_true,true_and,and_false,false_and,and_self]
   by_cases h4:q.hi=p.lo
   ·simp only[Bool.cond_decide,eq_true h4,eq_false h1,eq_false h2,eq_false h3,if_true,if_false,and_true,true_and,and_false,false_and,and_self]
   by_cases h5:p.lo=q.lo
   ·by_cases h6:p.hi=q.hi
    ·simp only[Bool.cond_decide,eq_true h5,eq_true h6,eq_false h1,eq_false h2,eq_false h3,eq_false h4,if_true,if_false,and_true,true_and,and_false,false_and,and_self]
    ·by_cases h7:p.hi<q.hi
     ·simp only[Bool.cond_decide,eq_true h5,eq_true h7,eq_false h1,eq_false h2,eq_false h3,eq_false h4,eq_false h6,if_true,if_false,and_true,true_and,and_false,false_and,and_self]
     ·simp only[Bool.cond_decide,eq_true h5,eq_false h1,eq_false h2,eq_false h3,eq_false h4,eq_false h6,eq_false h7,if_true,if_false,and_true,true_and,and_false,false_and,and_self]
   ·by_cases h6:p.hi=q.hi
    ·by_cases h7:q.lo<p.lo
     ·simp only[Bool.cond_decide,eq_true h6,eq_true h7,eq_false h1,eq_false h2,eq_false h3,eq_false h4,eq_false h5,if_true,if_false,and_true,true_and,and_false,false_and,and_self]
     ·simp only[Bool.cond_decide,eq_true h6,eq_false h1,eq_false h2,eq_false h3,eq_false h4,eq_false h5,eq_false h7,if_true,if_false,and_true,true_and,and_false,false_and,and_self]
    ·by_cases h7:p.lo<q.lo
     ·by_cases h8:q.hi<p.hi
      ·simp only[Bool.cond_decide,eq_true h7,eq_true h8,eq_false h1,eq_false h2,eq_false h3,eq_false h4,eq_false h5,eq_false h6,if_true,if_false,and_true,true_and,and_false,false_and,and_self]
      ·by_cases h9:q.lo<p.lo
       ·omega
       ·simp only[Bool.cond_decide,eq_true h7,eq_false h1,eq_false h2,eq_false h3,eq_false h4,eq_false h5,eq_false h6,eq_false h8,eq_false h9,if_true,if_false,and_true,true_and,and_false,false_and,and_self]
     ·by_cases h8:q.lo<p.lo
      ·by_cases h9:p.hi<q.hi
       ·simp only[Bool.cond_decide,eq_true h8,eq_true h9,eq_false h1,eq_false h2,eq_false h3,eq_false h4,eq_false h5,eq_false h6,eq_false h7,if_true,if_false,and_true,true_and,and_false,false_and,and_self]
       ·simp only[Bool.cond_decide,eq_true h8,eq_false h1,eq_false h2,eq_false h3,eq_false h4,eq_false h5,eq_false h6,eq_false h7,eq_false h9,if_true,if_false,and_true,true_and,and_false,false_and,and_self]
      ·omega
theorem gP {p:ax}(h:aw p=true):0<=p.lo/\p.lo<p.hi/\p.hi<=1099511627776:=by
 unfold aw at h;simp only[aqI,decide_eq_true_eq]at h;omega
theorem adw {p q:ax}(hp:0<=p.lo/\p.lo<p.hi)(hq:0<=q.lo/\q.lo<q.hi):cU p q=0↔p.hi<q.lo:=by
 unfold cU
 repeat' split
 all_goals (constructor<;>intro h<;>omega)
theorem ajN (p q:ax):ip 0 p q=some (decide (p.hi<q.lo)):=by
 unfold ip;simp only[Int.reduceEq,sl9,cM]<;>rfl
theorem afL {p q:ax}(hp:0<=p.lo/\p.lo<p.hi)(hq:0<=q.lo/\q.lo<q.hi):cU p q=1↔p.hi=q.lo:=by
 unfold cU
 repeat' split
 all_goals (constructor<;>intro h<;>omega)
theorem akS (p q:ax):ip 1 p q=some (decide (p.hi=q.lo)):=by
 unfold ip;simp only[Int.reduceEq,sl9,cM]<;>rfl
theorem afq {p q:ax}(hp:0<=p.lo/\p.lo<p.hi)(hq:0<=q.lo/\q.lo<q.hi):cU p q=2↔p.lo<q.lo/\q.lo<p.hi/\p.hi<q.hi:=by
 unfold cU
 repeat' split
 all_goals (constructor<;>intro h<;>omega)
theorem akL (p q:ax):ip 2 p q=some (decide (p.lo<q.lo/\q.lo<p.hi/\p.hi<q.hi)):=by
 unfold ip;simp only[Int.reduceEq,sl9,cM];by_cases h0:p.lo<q.lo<;>by_cases h1:q.lo<p.hi<;>simp[h0,h1]
theorem adW {p q:ax}(hp:0<=p.lo/\p.lo<p.hi)(hq:0<=q.lo/\q.lo<q.hi):cU p q=3↔p.lo=q.lo/\p.hi<q.hi:=by
 unfold cU
 repeat' split
 all_goals (constructor<;>intro h<;>omega)
theorem ajD (p q:ax):ip 3 p q=some (decide (p.lo=q.lo/\p.hi<q.hi)):=by
 unfold ip;simp only[Int.reduceEq,sl9,cM];by_cases h0:p.lo=q.lo<;>simp[h0]
theorem aeS {p q:ax}(hp:0<=p.lo/\p.lo<p.hi)(hq:0<=q.lo/\q.lo<q.hi):cU p q=4↔q.lo<p.lo/\p.hi<q.hi:=by
 unfold cU
 repeat' split
 all_goals (constructor<;>intro h<;>omega)
theorem akO (p q:ax):ip 4 p q=some (decide (q.lo<p.lo/\p.hi<q.hi)):=by
 unfold ip;simp only[Int.reduceEq,sl9,cM];by_cases h0:q.lo<p.lo<;>simp[h0]
theorem afm {p q:ax}(hp:0<=p.lo/\p.lo<p.hi)(hq:0<=q.lo/\q.lo<q.hi):cU p q=5↔p.hi=q.hi/\q.lo<p.lo:=by
 unfold cU
 repeat' split
 all_goals (constructor<;>intro h<;>omega)
theorem ake (p q:ax):ip 5 p q=some (decide (p.hi=q.hi/\q.lo<p.lo)):=by
 unfold ip;simp only[Int.reduceEq,sl9,cM];by_cases h0:p.hi=q.hi<;>simp[h0]
theorem adv {p q:ax}(hp:0<=p.lo/\p.lo<p.hi)(hq:0<=q.lo/\q.lo<q.hi):cU p q=6↔p.lo=q.lo/\p.hi=q.hi:=by
 unfold cU
 repeat' split
 all_goals (constructor<;>intro h<;>omega)
theorem akK (p q:ax):ip 6 p q=some (decide (p.lo=q.lo/\p.hi=q.hi)):=by
 unfold ip;simp only[Int.reduceEq,sl9,cM]<;>rfl
theorem afK {p q:ax}(hp:0<=p.lo/\p.lo<p.hi)(hq:0<=q.lo/\q.lo<q.hi):cU p q=7↔p.hi=q.hi/\p.lo<q.lo:=by
 unfold cU
 repeat' split
 all_goals (constructor<;>intro h<;>omega)
theorem ajW (p q:ax):ip 7 p q=some (decide (p.hi=q.hi/\p.lo<q.lo)):=by
 unfold ip;simp only[Int.reduceEq,sl9,cM];by_cases h0:p.hi=q.hi<;>simp[h0]
theorem afv {p q:ax}(hp:0<=p.lo/\p.lo<p.hi)(hq:0<=q.lo/\q.lo<q.hi):cU p q=8↔p.lo<q.lo/\q.hi<p.hi:=by
 unfold cU
 repeat' split
 all_goals (constructor<;>intro h<;>omega)
theorem akh (p q:ax):ip 8 p q=some (decide (p.lo<q.lo/\q.hi<p.hi)):=by
 unfold ip;simp only[Int.reduceEq,sl9,cM];by_cases h0:p.lo<q.lo<;>simp[h0]
theorem aeV {p q:ax}(hp:0<=p.lo/\p.lo<p.hi)(hq:0<=q.lo/\q.lo<q.hi):cU p q=9↔p.lo=q.lo/\q.hi<p.hi:=by
 unfold cU
 repeat' split
 all_goals (constructor<;>intro h<;>omega)
theorem akX (p q:ax):ip 9 p q=some (decide (p.lo=q.lo/\q.hi<p.hi)):=by
 unfold ip;simp only[Int.reduceEq,sl9,cM];by_cases h0:p.lo=q.lo<;>simp[h0]
theorem aaM {p q:ax}(hp:0<=p.lo/\p.lo<p.hi)(hq:0<=q.lo/\q.lo<q.hi):cU p q=10↔q.lo<p.lo/\p.lo<q.hi/\q.hi<p.hi:=by
 unfold cU
 repeat' split
 all_goals (constructor<;>intro h<;>omega)
theorem aib (p q:ax):ip 10 p q=some (decide (q.lo<p.lo/\p.lo<q.hi/\q.hi<p.hi)):=by
 unfold ip;simp only[Int.reduceEq,sl9,cM];by_cases h0:q.lo<p.lo<;>by_cases h1:p.lo<q.hi<;>simp[h0,h1]
theorem aal {p q:ax}(hp:0<=p.lo/\p.lo<p.hi)(hq:0<=q.lo/\q.lo<q.hi):cU p q=11↔q.hi=p.lo:=by
 unfold cU
 repeat' split
 all_goals (constructor<;>intro h<;>omega)
theorem ah2 (p q:ax):ip 11 p q=some (decide (q.hi=p.lo)):=by
 unfold ip;simp only[Int.reduceEq,sl9,cM]<;>rfl
theorem aax {p q:ax}(hp:0<=p.lo/\p.lo<p.hi)(hq:0<=q.lo/\q.lo<q.hi):cU p q=12↔q.hi<p.lo:=by
 unfold cU
 repeat' split
 all_goals (constructor<;>intro h<;>omega)
theorem ahz (p q:ax):ip 12 p q=some (decide (q.hi<p.lo)):=by
 unfold ip;simp only[Int.reduceEq,sl9,cM]<;>rfl
theorem sP (p q:ax):0<=cU p q/\cU p q<13:=by
 unfold cU
 repeat' split
 all_goals omega
theorem aeo {rel:Int}(h:¬ (0<=rel/\rel<13))(p q:ax):ip rel p q=some false:=by
 unfold ip;rw[aqt (show ¬ rel=0 by omega),aqr];rw[aqt (show ¬ rel=1 by omega),aqr];rw[aqt (show ¬ rel=2 by omega),aqr];rw[aqt (show ¬ rel=3 by omega),aqr];rw[aqt (show ¬ rel=4 by omega),aqr];rw[aqt (show ¬ rel=5 by omega),aqr];rw[aqt (show ¬ rel=6 by omega),aqr];rw[aqt (show ¬ rel=7 by omega),aqr];rw[aqt (show ¬ rel=8 by omega),aqr];rw[aqt (show ¬ rel=9 by omega),aqr];rw[aqt (show ¬ rel=10 by omega),aqr];rw[aqt (show ¬ rel=11 by omega),aqr];rw[aqt (show ¬ rel=12 by omega),aqr]
theorem adV {p q:ax}(hp:aw p=true)(hq:aw q=true)(rel:Int):ip rel p q=some (decide (cU p q=rel)):=by
 obtain⟨p1,p2,p3⟩:=gP hp;obtain⟨q1,q2,q3⟩:=gP hq;by_cases hr:0<=rel/\rel<13
 ·have:rel=0\/rel=1\/rel=2\/rel=3\/rel=4\/rel=5\/rel=6\/rel=7\/rel=8\/rel=9\/rel=10\/rel=11\/rel=12:=m0
  obtain rfl|rfl|rfl|rfl|rfl|rfl|rfl|rfl|rfl|rfl|rfl|rfl|rfl:=this
  ·rw[ajN];congr 1;rw[decide_eq_decide,adw ⟨p1,p2⟩ ⟨q1,q2⟩]
  ·rw[akS];congr 1;rw[decide_eq_decide,afL ⟨p1,p2⟩ ⟨q1,q2⟩]
  ·rw[akL];congr 1;rw[decide_eq_decide,afq ⟨p1,p2⟩ ⟨q1,q2⟩]
  ·rw[ajD];congr 1;rw[decide_eq_decide,adW ⟨p1,p2⟩ ⟨q1,q2⟩]
  ·rw[akO];congr 1;rw[decide_eq_decide,aeS ⟨p1,p2⟩ ⟨q1,q2⟩]
  ·rw[ake];congr 1;rw[decide_eq_decide,afm ⟨p1,p2⟩ ⟨q1,q2⟩]
  ·rw[akK];congr 1;rw[decide_eq_decide,adv ⟨p1,p2⟩ ⟨q1,q2⟩]
  ·rw[ajW];congr 1;rw[decide_eq_decide,afK ⟨p1,p2⟩ ⟨q1,q2⟩]
  ·rw[akh];congr 1;rw[decide_eq_decide,afv ⟨p1,p2⟩ ⟨q1,q2⟩]
  ·rw[akX];congr 1;rw[decide_eq_decide,aeV ⟨p1,p2⟩ ⟨q1,q2⟩]
  ·rw[aib];congr 1;rw[decide_eq_decide,aaM ⟨p1,p2⟩ ⟨q1,q2⟩]
  ·rw[ah2];congr 1;rw[decide_eq_decide,aal ⟨p1,p2⟩ ⟨q1,q2⟩]
  ·rw[ahz];congr 1;rw[decide_eq_decide,aax ⟨p1,p2⟩ ⟨q1,q2⟩]
 ·rw[aeo hr,aqt]
  have:=sP p q;omega
theorem tz (rel:Int)(p q:ax):pJ rel p q=some (aw p&&(aw q&&decide (cU p q=rel))):=by
 unfold pJ;rw[ko,ko];simp only[aqo]
 cases hp:aw p with
 |false=>rfl
 |true =>
  cases hq:aw q with
  |false=>rfl
  |true=>rw[adV hp hq];rfl
theorem Ll (p q:ax)(h:aw p=true/\aw q=true):∀ (n i:Nat),(i:Int)<=cU p q->13-i<n->ao (nZ p q) n (i:Int)=some (.inr (cU p q,true))
 |0,i,_,h2=>by omega
 |n+1,i,h1,h2=>by
  have hr:=sP p q;rw[ao];unfold nZ;dsimp only;rw[aqu (show(i:Int)<13 by omega),aqs,tz,aqo,h.1,h.2,wrapN m0];by_cases e:cU p q=i
  ·rw[e];simp
  ·simp only[aqY,aqt e,aqr]
   exact Ll p q h n (i+1) m0 m0
theorem Je (p q:ax)(h:¬ (aw p=true/\aw q=true)):∀ (n i:Nat),i<=13->13-i<n->ao (nZ p q) n (i:Int)=some (.inl ((13:Nat):Int))
 |0,i,_,h2=>by omega
 |n+1,i,h1,h2=>by
  rw[ao];unfold nZ;dsimp only;by_cases hi:i=13
  ·subst hi;rfl
  ·rw[aqu (show(i:Int)<13 by omega),aqs,tz,aqo,wrapN m0]
   have:(aw p&&(aw q&&decide (cU p q=i)))=false:=by
    cases hp:aw p<;>cases hq:aw q<;>simp_all
   rw[this,aqr];exact Je p q h n (i+1) m0 m0
theorem ad1 (p q:ax):NO p q=some (if aw p=true/\aw q=true then(cU p q,true)else(0,false)):=by
 unfold NO;by_cases h:aw p=true/\aw q=true
 ·have:=Ll p q h fuel 0 (sP p q).1 (by unfold fuel;omega)
  rw[show((0:Nat):Int)=0 from rfl]at this;rw[this,if_pos h];rfl
 ·have:=Je p q h fuel 0 m0 (by unfold fuel;omega)
  rw[show((0:Nat):Int)=0 from rfl]at this;rw[this,if_neg h];rfl
