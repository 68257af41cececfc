/- Parts. No condition. -/
import Derived.Test.YtnbnpnmkgemdeaaGreatDoorKAF
import Derived.ProofKit
import Derived.OpenShut
import Derived.ChangeOld
import Derived.Deep.Slices
set_option maxHeartbeats 8000000
set_option maxRecDepth 100000
set_option linter.unusedSimpArgs false
set_option linter.unusedVariables false
namespace Go.Proofs.YtnbnpnmkgemdeaaGreatDoor
open Go.RowKit Go.MapKept Tryz
theorem pS {α:Type}:∀ {l:List α},l.length=2 ->∃ c0 c1,l=[c0,c1]
 |[c0,c1],_=>⟨c0,c1,rfl⟩
theorem MK {α:Type}:∀ {l:List α},l.length=3 ->∃ c0 c1 c2,l=[c0,c1,c2]
 |[c0,c1,c2],_=>⟨c0,c1,c2,rfl⟩
theorem af3 {α:Type}:∀ {l:List α},l.length=7 ->∃ c0 c1 c2 c3 c4 c5 c6,l=[c0,c1,c2,c3,c4,c5,c6]
 |[c0,c1,c2,c3,c4,c5,c6],_=>⟨c0,c1,c2,c3,c4,c5,c6,rfl⟩
theorem afP {α:Type}:∀ {l:List α},l.length=9 ->∃ c0 c1 c2 c3 c4 c5 c6 c7 c8,l=[c0,c1,c2,c3,c4,c5,c6,c7,c8]
 |[c0,c1,c2,c3,c4,c5,c6,c7,c8],_=>⟨c0,c1,c2,c3,c4,c5,c6,c7,c8,rfl⟩
theorem afb {α:Type}:∀ {l:List α},l.length=15 ->∃ c0 c1 c2 c3 c4 c5 c6 c7 c8 c9 Ug SC SJ R4 S7,l=[c0,c1,c2,c3,c4,c5,c6,c7,c8,c9,Ug,SC,SJ,R4,S7]
 |[c0,c1,c2,c3,c4,c5,c6,c7,c8,c9,Ug,SC,SJ,R4,S7],_=>⟨c0,c1,c2,c3,c4,c5,c6,c7,c8,c9,Ug,SC,SJ,R4,S7,rfl⟩
theorem addr_add (b o n:Nat):(⟨b,o,none⟩:Addr).add n=⟨b,o+n,none⟩:=by
 unfold Addr.add;split<;>simp_all
def RW {W:World}(hT:g_ (λb o=>W.cell? ⟨b,o,none⟩)):PH:=⟨λb o=>W.cell? ⟨b,o,none⟩,hT⟩
def gZ {W:World}(hT:g_ (λb o=>W.cell? ⟨b,o,none⟩))(cs:List Value)(es:List AC):Prop:=cs.length=es.length /\ ∀ (j:Nat) u x,cs[j]?=some u->es[j]?=some x->bK (RW hT) u x
theorem gZ.app {W:World}{hT:g_ (λb o=>W.cell? ⟨b,o,none⟩)}{c1 c2:List Value}{e1 e2:List AC}(h1:gZ hT c1 e1)(h2:gZ hT c2 e2):gZ hT (c1++c2) (e1++e2):=by
 refine⟨by rw[ahZ,ahZ,h1.1,h2.1],λj u x hu hx=>?_⟩;have hl:=h1.1;by_cases hj:j<c1.length
 .rw[ah5 hj]at hu
  rw[ah5 m0]at hx;exact h1.2 j u x hu hx
 .rw[ahY m0]at hu
  rw[ahY m0,<- hl]at hx;exact h2.2 _ u x hu hx
theorem gZ.one {W:World}{hT:g_ (λb o=>W.cell? ⟨b,o,none⟩)}{v:Value}{e:AC}(h:bK (RW hT) v e):gZ hT [v] [e]:=by
 refine⟨rfl,λj u x hu hx=>?_⟩
 match j,hu,hx with
 |0,hu,hx=>simp at hu hx;subst hu hx;exact h
 |j+1,hu,hx=>simp at hu
def qW (n:Int):Prop := -9223372036854775808<=n/\n<=9223372036854775807
def SOk (s:ByteArray):Prop:=s.size<=9223372036854775807
def jC {α:Type}(k:Nat)(Q:α->Prop)(l:List α):Prop:=l.length*k<=reachBytes /\ ∀ a∈l,Q a
def kG {H:Type}(t:TypeId)(d:DataW H):Prop :=∀ n∈DataW.weights prog t d,n<=reachBytes
theorem LN {H:Type}{e:TypeId}:∀ {l:List (DataW H)} {d:DataW H},d∈l ->∀ n∈DataW.weights prog e d,n∈DataW.weightsAll prog e l
 |x::l,d,h,n,hn=>by
  rw[DataW.weightsAll,aih];obtain rfl|h:=ah8.1 h
  .exact .inl hn
  .exact .inr (LN h n hn)
theorem vv {H:Type}:∀ {ts:List TypeId} {l:List (DataW H)} {i:Nat} {t:TypeId} {d:DataW H},ts[i]?=some t->l[i]?=some d ->∀ n∈DataW.weights prog t d,n∈DataW.weightsEach prog ts l
 |t0::ts,d0::l,0,t,d,h1,h2,n,hn=>by
  simp at h1 h2;subst h1 h2;rw[DataW.weightsEach,aih];exact .inl hn
 |t0::ts,d0::l,i+1,t,d,h1,h2,n,hn=>by
  rw[DataW.weightsEach,aih];exact .inr (vv (by simpa using h1) (by simpa using h2) n hn)
 |[],_,i,t,d,h1,_,n,hn=>by simp at h1
 |_::_,[],i,t,d,_,h2,n,hn=>by simp at h2
section
variable {H:Type} {PX:TypeId × Value->H} {W:World} {hT:g_ (λb o=>W.cell? ⟨b,o,none⟩)} {base:Nat} {spare:Nat->Bool} {held:Bool}
theorem bF {t:TypeId}(ht:prog.underlying t=some (.int .i64)){cs:List Value}{fuel:Nat}{x:DataW H×List MemPlace}(h:DataW.trod PX prog W base spare held fuel t cs=some x):∃ n:Int,gZ hT cs [.int .i64 n]/\qW n:=by
 obtain⟨n,rfl,_,hw⟩:=DataW.trod_int ht h;rw[Lit.wf,ah9]at hw;exact⟨n,gZ.one (.int _ _),aii hw.1,aii hw.2⟩
theorem GK {t:TypeId}(ht:prog.underlying t=some .string){cs:List Value}{fuel:Nat}{x:DataW H×List MemPlace}(h:DataW.trod PX prog W base spare held fuel t cs=some x):∃ s:ByteArray,gZ hT cs [.str s]/\SOk s:=by
 obtain⟨s,rfl,_,hs⟩:=DataW.trod_string ht h;exact⟨s,gZ.one (.str _),hs⟩
theorem bh {α:Type}{t e:TypeId}{k:Nat}{f:α->List AC}{Q:α->Prop}(ht:prog.underlying t=some (.slice e))(hk:prog.cellsOf e=k){by_:Nat}(Su:prog.bytesOf e=by_)(UD:0<k)(hf:∀ x,(f x).length=k){cs:List Value}{fuel:Nat}{x:DataW H×List MemPlace}(h:DataW.trod PX prog W base spare held fuel t cs=some x)(hw:kG t x.1)
  (hr:∀ (Yf:Nat) (S4:List Value) (x':DataW H×List MemPlace),Yf<fuel->DataW.trod PX prog W base spare held Yf e S4=some x'->kG e x'.1 ->∃ a,gZ hT S4 (f a)/\Q a):∃ l:List α,gZ hT cs [.lst (l.map f)]/\jC by_ Q l:=by
 obtain⟨rfl,_⟩|⟨a,len,cap,elems,rest,n,YP,rfl,RP,_,hlc,hm,Ze,hx,_,_⟩:=DataW.trod_slice ht h
 .exact⟨[],gZ.one (dS _ _ _),m5,λa ha=>by cases ha⟩
 .have hww:(∀ n∈DataW.weightsAll prog e (elems.map (·.1)),n<=reachBytes)/\len*by_<=reachBytes:=by
   rw[RP]at hw;unfold kG at hw;simp only[DataW.weights,ht]at hw;refine⟨λn hn=>hw n (aid _ (List.mem_append_left _ hn)),?_⟩;have:=hw _ (List.mem_cons_self ..);simp only[ah3,Ze,Su]at this;exact Nat.le_trans (air _ (Nat.le_add_right _ _)) this
  have hi:∀ i,i<len ->∃ y,(∃ S4,W.cells? base (a.add (i*k)) k=some S4/\gZ hT S4 (f y))/\Q y:=by
   intro i O8;have h1:=hx i O8;rw[ah0 m0,hk]at h1
   cases hc:W.cells? base (a.add (i*k)) k with
   |none=>rw[hc]at h1;cases h1
   |some S4=>rw[hc]at h1;obtain⟨y,h2,h3⟩:=hr n S4 _ m0 h1 (λm hm=>hww.1 m (LN (List.mem_map_of_mem (f:=λp:DataW H×List MemPlace=>p.1) (List.getElem_mem m0)) m hm));exact⟨y,⟨S4,rfl,h2⟩,h3⟩
  obtain h0|h0:=Nat.eq_zero_or_pos len
  .subst h0;exact⟨[],gZ.one (dS _ _ _),m5,λa ha=>by cases ha⟩
  .obtain⟨y0,⟨cs0,Zi,_⟩,_⟩:=hi 0 h0
   let g:Nat->α:=λi=>if h:i<len then Classical.choose (hi i h)else y0
   have hg:∀ i,i<len->(∃ S4,W.cells? base (a.add (i*k)) k=some S4/\gZ hT S4 (f (g i)))/\Q (g i):=by
    intro i O8;have:g i=Classical.choose (hi i O8):=by simp[g,O8]
    rw[this];exact Classical.choose_spec (hi i O8)
   obtain⟨b,off,spot⟩:=a;have hs0:spot=none:=by
    obtain⟨_,hl,P5⟩:=World.cells?_some Zi;have h1:=P5 0 UD;rw[ah0 m0]at h1;have:=World.cell?_spot h1;simpa[Addr.add]using this
   subst hs0;refine⟨(List.range len).map g,gZ.one ?_,(by rw[ah3,List.length_range];exact hww.2),?_⟩
   .have cell:∀ i,i<len ->∀ j,j<k ->∃ u y,W.cell? ⟨b,off+(i*k+j),none⟩=some u/\(f (g i))[j]?=some y/\bK (RW hT) u y:=by
     intro i O8 j hj;obtain⟨⟨S4,hc,T9⟩,_⟩:=hg i O8;obtain⟨_,hl,P5⟩:=World.cells?_some hc;have h1:=P5 j hj;rw[ah0 m0]at h1;have hfl:=hf (g i);refine⟨_,_,?_,ah0 m0,T9.2 j _ _ (ah0 m0) (ah0 m0)⟩;rw[addr_add,addr_add,Nat.add_assoc]at h1;exact h1
    refine .lst (some ⟨b,off,none⟩) len cap _ k (λj=>(W.cell? ⟨b,off+j,none⟩).getD (.bool false)) b off m5 hlc ?_ (λ_=>rfl) ?_ ?_
    .intro e he
     simp only[List.map_map,aip]at he;obtain⟨i,_,rfl⟩:=he;exact hf _
    .intro j hj
     have hd:j/k<len:=by rw[Nat.div_lt_iff_lt_mul UD];exact hj
     obtain⟨u,y,h1,_,_⟩:=cell (j/k) hd (j%k) (Nat.mod_lt _ UD);have hjj:j/k*k+j%k=j:=by rw[Nat.mul_comm];exact Nat.div_add_mod j k
     rw[hjj]at h1;show W.cell? _=_;rw[h1];rfl
    .intro i e j x he Z6
     have O8:i<len:=by have:=(ahR.1 he).1;simpa using this
     have:e=f (g i):=by simp[O8]at he;exact he.symm
     subst this;have hj:j<k:=by have:=(ahR.1 Z6).1;rw[hf]at this;exact this
     obtain⟨u,y,h1,h2,h3⟩:=cell i O8 j hj;rw[h2]at Z6;obtain rfl:=aim Z6;rw[h1];exact h3
   .intro a ha
    simp only[aip,List.mem_range]at ha;obtain⟨i,O8,rfl⟩:=ha;exact(hg i O8).2
theorem jt {s:TypeId}{x:DataW H×List MemPlace}{fs:Array Field}{n:Nat}{cs:List Value}{xs:List (DataW H×List MemPlace)}(hs:prog.underlying s=some (.struct fs))(hx:x=(.agg (xs.map (·.1)),xs.flatMap (·.2)))(hw:kG s x.1)(hl:xs.length=fs.size)(hf:∀ (i:Nat) (f:Field),fs[i]?=some f->DataW.trod PX prog W base spare held n f.type ((cs.drop f.offset).take (prog.cellsOf f.type))=xs[i]?)
  (i:Nat) {f:Field} {t o k:Nat} (hi:fs[i]?=some f) (h1:f.type=t) (h2:f.offset=o) (h3:prog.cellsOf t=k):∃ y,DataW.trod PX prog W base spare held n t ((cs.drop o).take k)=some y/\kG t y.1:=by
 have O8:i<fs.size:=(aiy.1 hi).1;have:=hf i f hi;rw[h1,h2,h3,ah0 m0]at this;refine⟨_,this,λm hm=>?_⟩;rw[hx]at hw;unfold kG at hw;simp only[DataW.weights,hs]at hw;refine hw m (vv (i:=i) ?_ ?_ m hm)
 .rw[aic,Array.getElem?_toList,hi];simp[h1]
 .rw[aic,ah0 m0];rfl
end
structure jK (x:Val):Prop where
 kind:qW x.kind
 int:qW x.int
 text:SOk x.text
section
variable {H:Type} {PX:TypeId × Value->H} {W:World} {hT:g_ (λb o=>W.cell? ⟨b,o,none⟩)} {base:Nat} {spare:Nat->Bool} {held:Bool}
theorem aaa:∀ (fuel:Nat) {cs:List Value} {x:DataW H×List MemPlace},DataW.trod PX prog W base spare held fuel 57 cs=some x->kG 57 x.1 ->∃ a:Val,gZ hT cs (cV a)/\jK a:=by
 intro fuel;intro cs x h hw;obtain⟨xs,n,YP,RP,hlen,QP,hf⟩:=DataW.trod_struct underlying57 h;rw[show prog.cellsOf 57=3 by kernel_rfl]at hlen;obtain⟨c0,c1,c2,rfl⟩:=MK hlen;obtain⟨y0,h0,w0⟩:=jt underlying57 RP hw QP hf 0 (t:=3) (o:=0) (k:=1) rfl rfl rfl k7;replace h0:DataW.trod PX prog W base spare held n 3 [c0]=some y0:=h0;obtain⟨l0,r0,q0⟩:=bF underlying3 h0;obtain⟨y1,h1,w1⟩:=jt underlying57 RP hw QP hf 1 (t:=3) (o:=1) (k:=1) rfl rfl rfl k7;replace h1:DataW.trod PX prog W base spare held n 3 [c1]=some y1:=h1;obtain⟨l1,r1,q1⟩:=bF underlying3 h1;obtain⟨y2,h2,w2⟩:=jt underlying57 RP hw QP hf 2 (t:=9) (o:=2) (k:=1) rfl rfl rfl k7;replace h2:DataW.trod PX prog W base spare held n 9 [c2]=some y2:=h2;obtain⟨l2,r2,q2⟩:=GK underlying9 h2;exact⟨⟨l0,l1,l2⟩,((r0.app r1).app r2),⟨q0,q1,q2⟩⟩
theorem yO {cs:List Value}{fuel:Nat}{x:DataW H×List MemPlace}(h:DataW.trod PX prog W base spare held fuel 34 cs=some x)(hw:kG 34 x.1):∃ l:List Int,gZ hT cs [.lst (l.map (λx=>[AC.int .i64 x]))]/\jC 8 qW l :=
 bh (k:=1) (f:=(λx=>[AC.int .i64 x])) (Q:=qW) underlying34 k7 k7 m9 (λ_=>rfl) h hw (λf c x _ h hw=>bF underlying3 h)
theorem tc {cs:List Value}{fuel:Nat}{x:DataW H×List MemPlace}(h:DataW.trod PX prog W base spare held fuel 43 cs=some x)(hw:kG 43 x.1):∃ l:List Val,gZ hT cs [.lst (l.map cV)]/\jC 32 jK l :=
 bh (k:=3) (f:=cV) (Q:=jK) underlying43 k7 k7 m9 (λ_=>rfl) h hw (λf c x _ h hw=>aaa f h hw)
theorem JM {cs:List Value}{fuel:Nat}{x:DataW H×List MemPlace}(h:DataW.trod PX prog W base spare held fuel 37 cs=some x)(hw:kG 37 x.1):∃ l:List (List Val),gZ hT cs [.lst (l.map (λx=>[AC.lst (x.map cV)]))]/\jC 24 (jC 32 jK) l :=
 bh (k:=1) (f:=(λx=>[AC.lst (x.map cV)])) (Q:=(jC 32 jK)) underlying37 k7 k7 m9 (λ_=>rfl) h hw (λf c x _ h hw=>tc h hw)
end
structure xi (x:dV):Prop where
 lo:qW x.lo
 hi:qW x.hi
section
variable {H:Type} {PX:TypeId × Value->H} {W:World} {hT:g_ (λb o=>W.cell? ⟨b,o,none⟩)} {base:Nat} {spare:Nat->Bool} {held:Bool}
theorem zw:∀ (fuel:Nat) {cs:List Value} {x:DataW H×List MemPlace},DataW.trod PX prog W base spare held fuel 45 cs=some x->kG 45 x.1 ->∃ a:dV,gZ hT cs (mb a)/\xi a:=by
 intro fuel;intro cs x h hw;obtain⟨xs,n,YP,RP,hlen,QP,hf⟩:=DataW.trod_struct underlying45 h;rw[show prog.cellsOf 45=2 by kernel_rfl]at hlen;obtain⟨c0,c1,rfl⟩:=pS hlen;obtain⟨y0,h0,w0⟩:=jt underlying45 RP hw QP hf 0 (t:=3) (o:=0) (k:=1) rfl rfl rfl k7;replace h0:DataW.trod PX prog W base spare held n 3 [c0]=some y0:=h0;obtain⟨l0,r0,q0⟩:=bF underlying3 h0;obtain⟨y1,h1,w1⟩:=jt underlying45 RP hw QP hf 1 (t:=3) (o:=1) (k:=1) rfl rfl rfl k7;replace h1:DataW.trod PX prog W base spare held n 3 [c1]=some y1:=h1;obtain⟨l1,r1,q1⟩:=bF underlying3 h1;exact⟨⟨l0,l1⟩,(r0.app r1),⟨q0,q1⟩⟩
end
structure MJ (x:pY):Prop where
 id:qW x.id
 schema:qW x.schema
 row:(jC 32 jK) x.row
 valid:xi x.valid
 system:xi x.system
 by_:qW x.by_
 til:qW x.til
section
variable {H:Type} {PX:TypeId × Value->H} {W:World} {hT:g_ (λb o=>W.cell? ⟨b,o,none⟩)} {base:Nat} {spare:Nat->Bool} {held:Bool}
theorem aeS:∀ (fuel:Nat) {cs:List Value} {x:DataW H×List MemPlace},DataW.trod PX prog W base spare held fuel 47 cs=some x->kG 47 x.1 ->∃ a:pY,gZ hT cs (lu a)/\MJ a:=by
 intro fuel;intro cs x h hw;obtain⟨xs,n,YP,RP,hlen,QP,hf⟩:=DataW.trod_struct underlying47 h;rw[show prog.cellsOf 47=9 by kernel_rfl]at hlen;obtain⟨c0,c1,c2,c3,c4,c5,c6,c7,c8,rfl⟩:=afP hlen;obtain⟨y0,h0,w0⟩:=jt underlying47 RP hw QP hf 0 (t:=3) (o:=0) (k:=1) rfl rfl rfl k7;replace h0:DataW.trod PX prog W base spare held n 3 [c0]=some y0:=h0;obtain⟨l0,r0,q0⟩:=bF underlying3 h0;obtain⟨y1,h1,w1⟩:=jt underlying47 RP hw QP hf 1 (t:=3) (o:=1) (k:=1) rfl rfl rfl k7;replace h1:DataW.trod PX prog W base spare held n 3 [c1]=some y1:=h1;obtain⟨l1,r1,q1⟩:=bF underlying3 h1;obtain⟨y2,h2,w2⟩:=jt underlying47 RP hw QP hf 2 (t:=43) (o:=2) (k:=1) rfl rfl rfl k7;replace h2:DataW.trod PX prog W base spare held n 43 [c2]=some y2:=h2;obtain⟨l2,r2,q2⟩:=tc h2 w2;obtain⟨y3,h3,w3⟩:=jt underlying47 RP hw QP hf 3 (t:=45) (o:=3) (k:=2) rfl rfl rfl k7;replace h3:DataW.trod PX prog W base spare held n 45 [c3,c4]=some y3:=h3;obtain⟨l3,r3,q3⟩:=zw n h3 w3;obtain⟨y4,h4,w4⟩:=jt underlying47 RP hw QP hf 4 (t:=45) (o:=5) (k:=2) rfl rfl rfl k7;replace h4:DataW.trod PX prog W base spare held n 45 [c5,c6]=some y4:=h4;obtain⟨l4,r4,q4⟩:=zw n h4 w4;obtain⟨y5,h5,w5⟩:=jt underlying47 RP hw QP hf 5 (t:=3) (o:=7) (k:=1) rfl rfl rfl k7;replace h5:DataW.trod PX prog W base spare held n 3 [c7]=some y5:=h5;obtain⟨l5,r5,q5⟩:=bF underlying3 h5
 obtain⟨y6,h6,w6⟩:=jt underlying47 RP hw QP hf 6 (t:=3) (o:=8) (k:=1) rfl rfl rfl k7;replace h6:DataW.trod PX prog W base spare held n 3 [c8]=some y6:=h6;obtain⟨l6,r6,q6⟩:=bF underlying3 h6;exact⟨⟨l0,l1,l2,l3,l4,l5,l6⟩,((((((r0.app r1).app r2).app r3).app r4).app r5).app r6),⟨q0,q1,q2,q3,q4,q5,q6⟩⟩
end
inductive GY:Ex->Prop
 |mk {op:Int} {int:Int} {v:Val} {nm:ByteArray} {args:(List Ex)} (h0:qW op) (h1:qW int) (h2:jK v) (h3:SOk nm) (h4:args.length*88<=reachBytes) (g4:∀ a∈args,GY a):GY (.mk op int v nm args)
section
variable {H:Type} {PX:TypeId × Value->H} {W:World} {hT:g_ (λb o=>W.cell? ⟨b,o,none⟩)} {base:Nat} {spare:Nat->Bool} {held:Bool}
theorem adY:∀ (fuel:Nat) {cs:List Value} {x:DataW H×List MemPlace},DataW.trod PX prog W base spare held fuel 60 cs=some x->kG 60 x.1 ->∃ a:Ex,gZ hT cs (tE a)/\GY a:=by
 intro fuel
 induction fuel using Nat.strongRecOn with
 |ind fuel ih =>
 intro cs x h hw;obtain⟨xs,n,YP,RP,hlen,QP,hf⟩:=DataW.trod_struct underlying60 h;rw[show prog.cellsOf 60=7 by kernel_rfl]at hlen;obtain⟨c0,c1,c2,c3,c4,c5,c6,rfl⟩:=af3 hlen;obtain⟨y0,h0,w0⟩:=jt underlying60 RP hw QP hf 0 (t:=3) (o:=0) (k:=1) rfl rfl rfl k7;replace h0:DataW.trod PX prog W base spare held n 3 [c0]=some y0:=h0;obtain⟨l0,r0,q0⟩:=bF underlying3 h0;obtain⟨y1,h1,w1⟩:=jt underlying60 RP hw QP hf 1 (t:=3) (o:=1) (k:=1) rfl rfl rfl k7;replace h1:DataW.trod PX prog W base spare held n 3 [c1]=some y1:=h1;obtain⟨l1,r1,q1⟩:=bF underlying3 h1;obtain⟨y2,h2,w2⟩:=jt underlying60 RP hw QP hf 2 (t:=57) (o:=2) (k:=3) rfl rfl rfl k7;replace h2:DataW.trod PX prog W base spare held n 57 [c2,c3,c4]=some y2:=h2;obtain⟨l2,r2,q2⟩:=aaa n h2 w2;obtain⟨y3,h3,w3⟩:=jt underlying60 RP hw QP hf 3 (t:=9) (o:=5) (k:=1) rfl rfl rfl k7;replace h3:DataW.trod PX prog W base spare held n 9 [c5]=some y3:=h3;obtain⟨l3,r3,q3⟩:=GK underlying9 h3;obtain⟨y4,h4,w4⟩:=jt underlying60 RP hw QP hf 4 (t:=58) (o:=6) (k:=1) rfl rfl rfl k7;replace h4:DataW.trod PX prog W base spare held n 58 [c6]=some y4:=h4;obtain⟨l4,r4,q4⟩:=bh (k:=7) (f:=tE) (Q:=GY) underlying58 k7 k7 m9 Ab h4 w4 (λf c x O8 h hw=>ih f m0 h hw)
 exact⟨.mk l0 l1 l2 l3 l4,(by rw[ay];exact((((r0.app r1).app r2).app r3).app r4)),.mk q0 q1 q2 q3 q4.1 q4.2⟩
end
structure ado (x:Ag):Prop where
 op:qW x.op
 arg:qW x.arg
section
variable {H:Type} {PX:TypeId × Value->H} {W:World} {hT:g_ (λb o=>W.cell? ⟨b,o,none⟩)} {base:Nat} {spare:Nat->Bool} {held:Bool}
theorem afD:∀ (fuel:Nat) {cs:List Value} {x:DataW H×List MemPlace},DataW.trod PX prog W base spare held fuel 198 cs=some x->kG 198 x.1 ->∃ a:Ag,gZ hT cs (ol a)/\ado a:=by
 intro fuel;intro cs x h hw;obtain⟨xs,n,YP,RP,hlen,QP,hf⟩:=DataW.trod_struct underlying198 h;rw[show prog.cellsOf 198=2 by kernel_rfl]at hlen;obtain⟨c0,c1,rfl⟩:=pS hlen;obtain⟨y0,h0,w0⟩:=jt underlying198 RP hw QP hf 0 (t:=3) (o:=0) (k:=1) rfl rfl rfl k7;replace h0:DataW.trod PX prog W base spare held n 3 [c0]=some y0:=h0;obtain⟨l0,r0,q0⟩:=bF underlying3 h0;obtain⟨y1,h1,w1⟩:=jt underlying198 RP hw QP hf 1 (t:=3) (o:=1) (k:=1) rfl rfl rfl k7;replace h1:DataW.trod PX prog W base spare held n 3 [c1]=some y1:=h1;obtain⟨l1,r1,q1⟩:=bF underlying3 h1;exact⟨⟨l0,l1⟩,(r0.app r1),⟨q0,q1⟩⟩
theorem aeT {cs:List Value}{fuel:Nat}{x:DataW H×List MemPlace}(h:DataW.trod PX prog W base spare held fuel 58 cs=some x)(hw:kG 58 x.1):∃ l:List Ex,gZ hT cs [.lst (l.map tE)]/\jC 88 GY l :=
 bh (k:=7) (f:=tE) (Q:=GY) underlying58 k7 k7 m9 Ab h hw (λf c x _ h hw=>adY f h hw)
theorem ad_ {cs:List Value}{fuel:Nat}{x:DataW H×List MemPlace}(h:DataW.trod PX prog W base spare held fuel 63 cs=some x)(hw:kG 63 x.1):∃ l:List Ag,gZ hT cs [.lst (l.map ol)]/\jC 16 ado l :=
 bh (k:=2) (f:=ol) (Q:=ado) underlying63 k7 k7 m9 (λ_=>rfl) h hw (λf c x _ h hw=>afD f h hw)
end
inductive Hk:Pl->Prop
 |mk {op:Int} {int:Int} {kinds:(List Int)} {rows:(List (List Val))} {pred:Ex} {exprs:(List Ex)} {keys:(List Int)} {aggs:(List Ag)} {inputs:(List Pl)} (h0:qW op) (h1:qW int) (h2:(jC 8 qW) kinds) (h3:(jC 24 (jC 32 jK)) rows) (h4:GY pred) (h5:(jC 88 GY) exprs) (h6:(jC 8 qW) keys) (h7:(jC 16 ado) aggs) (h8:inputs.length*248<=reachBytes) (g8:∀ a∈inputs,Hk a):Hk (.mk op int kinds rows pred exprs keys aggs inputs)
section
variable {H:Type} {PX:TypeId × Value->H} {W:World} {hT:g_ (λb o=>W.cell? ⟨b,o,none⟩)} {base:Nat} {spare:Nat->Bool} {held:Bool}
theorem adX:∀ (fuel:Nat) {cs:List Value} {x:DataW H×List MemPlace},DataW.trod PX prog W base spare held fuel 66 cs=some x->kG 66 x.1 ->∃ a:Pl,gZ hT cs (tP a)/\Hk a:=by
 intro fuel
 induction fuel using Nat.strongRecOn with
 |ind fuel ih =>
 intro cs x h hw;obtain⟨xs,n,YP,RP,hlen,QP,hf⟩:=DataW.trod_struct underlying66 h;rw[show prog.cellsOf 66=15 by kernel_rfl]at hlen;obtain⟨c0,c1,c2,c3,c4,c5,c6,c7,c8,c9,Ug,SC,SJ,R4,S7,rfl⟩:=afb hlen;obtain⟨y0,h0,w0⟩:=jt underlying66 RP hw QP hf 0 (t:=3) (o:=0) (k:=1) rfl rfl rfl k7;replace h0:DataW.trod PX prog W base spare held n 3 [c0]=some y0:=h0;obtain⟨l0,r0,q0⟩:=bF underlying3 h0;obtain⟨y1,h1,w1⟩:=jt underlying66 RP hw QP hf 1 (t:=3) (o:=1) (k:=1) rfl rfl rfl k7;replace h1:DataW.trod PX prog W base spare held n 3 [c1]=some y1:=h1;obtain⟨l1,r1,q1⟩:=bF underlying3 h1;obtain⟨y2,h2,w2⟩:=jt underlying66 RP hw QP hf 2 (t:=34) (o:=2) (k:=1) rfl rfl rfl k7;replace h2:DataW.trod PX prog W base spare held n 34 [c2]=some y2:=h2;obtain⟨l2,r2,q2⟩:=yO h2 w2;obtain⟨y3,h3,w3⟩:=jt underlying66 RP hw QP hf 3 (t:=37) (o:=3) (k:=1) rfl rfl rfl k7;replace h3:DataW.trod PX prog W base spare held n 37 [c3]=some y3:=h3;obtain⟨l3,r3,q3⟩:=JM h3 w3;obtain⟨y4,h4,w4⟩:=jt underlying66 RP hw QP hf 4 (t:=60) (o:=4) (k:=7) rfl rfl rfl k7;replace h4:DataW.trod PX prog W base spare held n 60 [c4,c5,c6,c7,c8,c9,Ug]=some y4:=h4;obtain⟨l4,r4,q4⟩:=adY n h4 w4;obtain⟨y5,h5,w5⟩:=jt underlying66 RP hw QP hf 5 (t:=58) (o:=11) (k:=1) rfl rfl rfl k7;replace h5:DataW.trod PX prog W base spare held n 58 [SC]=some y5:=h5
 obtain⟨l5,r5,q5⟩:=aeT h5 w5;obtain⟨y6,h6,w6⟩:=jt underlying66 RP hw QP hf 6 (t:=34) (o:=12) (k:=1) rfl rfl rfl k7;replace h6:DataW.trod PX prog W base spare held n 34 [SJ]=some y6:=h6;obtain⟨l6,r6,q6⟩:=yO h6 w6;obtain⟨y7,h7,w7⟩:=jt underlying66 RP hw QP hf 7 (t:=63) (o:=13) (k:=1) rfl rfl rfl k7;replace h7:DataW.trod PX prog W base spare held n 63 [R4]=some y7:=h7;obtain⟨l7,r7,q7⟩:=ad_ h7 w7;obtain⟨y8,h8,w8⟩:=jt underlying66 RP hw QP hf 8 (t:=64) (o:=14) (k:=1) rfl rfl rfl k7;replace h8:DataW.trod PX prog W base spare held n 64 [S7]=some y8:=h8;obtain⟨l8,r8,q8⟩:=bh (k:=15) (f:=tP) (Q:=Hk) underlying64 k7 k7 m9 zU h8 w8 (λf c x O8 h hw=>ih f m0 h hw);exact⟨.mk l0 l1 l2 l3 l4 l5 l6 l7 l8,(by rw[aD];rw[ay]at r4;exact((((((((r0.app r1).app r2).app r3).app r4).app r5).app r6).app r7).app r8)),.mk q0 q1 q2 q3 q4 q5 q6 q7 q8.1 q8.2⟩
theorem afd {cs:List Value}{fuel:Nat}{x:DataW H×List MemPlace}(h:DataW.trod PX prog W base spare held fuel 22 cs=some x)(hw:kG 22 x.1):∃ l:List pY,gZ hT cs [.lst (l.map lu)]/\jC 88 MJ l :=
 bh (k:=9) (f:=lu) (Q:=MJ) underlying22 k7 k7 m9 (λ_=>rfl) h hw (λf c x _ h hw=>aeS f h hw)
end
structure Gi (x:xP):Prop where
 kinds:(jC 8 qW) x.kinds
 versions:(jC 88 MJ) x.versions
section
variable {H:Type} {PX:TypeId × Value->H} {W:World} {hT:g_ (λb o=>W.cell? ⟨b,o,none⟩)} {base:Nat} {spare:Nat->Bool} {held:Bool}
theorem ad7:∀ (fuel:Nat) {cs:List Value} {x:DataW H×List MemPlace},DataW.trod PX prog W base spare held fuel 73 cs=some x->kG 73 x.1 ->∃ a:xP,gZ hT cs (sW a)/\Gi a:=by
 intro fuel;intro cs x h hw;obtain⟨xs,n,YP,RP,hlen,QP,hf⟩:=DataW.trod_struct underlying73 h;rw[show prog.cellsOf 73=2 by kernel_rfl]at hlen;obtain⟨c0,c1,rfl⟩:=pS hlen;obtain⟨y0,h0,w0⟩:=jt underlying73 RP hw QP hf 0 (t:=34) (o:=0) (k:=1) rfl rfl rfl k7;replace h0:DataW.trod PX prog W base spare held n 34 [c0]=some y0:=h0;obtain⟨l0,r0,q0⟩:=yO h0 w0;obtain⟨y1,h1,w1⟩:=jt underlying73 RP hw QP hf 1 (t:=22) (o:=1) (k:=1) rfl rfl rfl k7;replace h1:DataW.trod PX prog W base spare held n 22 [c1]=some y1:=h1;obtain⟨l1,r1,q1⟩:=afd h1 w1;exact⟨⟨l0,l1⟩,(r0.app r1),⟨q0,q1⟩⟩
end
section
variable {H:Type} {PX:TypeId × Value->H} {W:World} {hT:g_ (λb o=>W.cell? ⟨b,o,none⟩)} {base:Nat} {spare:Nat->Bool} {held:Bool}
theorem aeI {cs:List Value}{fuel:Nat}{x:DataW H×List MemPlace}(h:DataW.trod PX prog W base spare held fuel 67 cs=some x)(hw:kG 67 x.1):∃ l:List xP,gZ hT cs [.lst (l.map sW)]/\jC 48 Gi l :=
 bh (k:=2) (f:=sW) (Q:=Gi) underlying67 k7 k7 m9 (λ_=>rfl) h hw (λf c x _ h hw=>ad7 f h hw)
end
