/- Parts of the proof, joined. No condition. -/
import Derived.Test.YtfpbmfalamappaaGreatDoorKAA
import Derived.Test.YtfpbmfalamappaaGreatDoorKAJ
import Derived.ProofKit
import Derived.OpenShut
import Derived.ChangeOld
import Derived.Deep.Slices
import Derived.Test.YtfpbmfalamappaaGreatDoorKBD
set_option linter.unusedSimpArgs false
set_option linter.unusedVariables false
namespace Go.Proofs.YtfpbmfalamappaaGreatDoor
open Go.RowKit Go.MapKept
set_option maxRecDepth 100000
theorem M7 {α:Type} : ∀ {l:List α}, l.length=2 -> ∃ c0 c1,l=[c0,c1]
 | [c0,c1],_=>⟨c0,c1,rfl⟩
theorem ZO {α:Type} : ∀ {l:List α}, l.length=3 -> ∃ c0 c1 c2,l=[c0,c1,c2]
 | [c0,c1,c2],_=>⟨c0,c1,c2,rfl⟩
theorem YZ {α:Type} : ∀ {l:List α}, l.length=7 -> ∃ c0 c1 c2 c3 c4 c5 c6,l=[c0,c1,c2,c3,c4,c5,c6]
 | [c0,c1,c2,c3,c4,c5,c6],_=>⟨c0,c1,c2,c3,c4,c5,c6,rfl⟩
theorem addr_add (b o n:Nat):(⟨b,o,none⟩:Addr).add n=⟨b,o+n,none⟩:=by
 unfold Addr.add
 split<;>simp_all
def RW {W:World} (hT:TabR (fun b o=>W.cell? ⟨b,o,none⟩)):PH:=⟨fun b o=>W.cell? ⟨b,o,none⟩,hT⟩
def CRd {W:World} (hT:TabR (fun b o=>W.cell? ⟨b,o,none⟩)) (cs:List Value) (es:List AC):Prop:=cs.length=es.length /\ ∀ (j:Nat) u x,cs[j]?=some u->es[j]?=some x->bU (RW hT) u x
theorem CRd.app {W:World} {hT:TabR (fun b o=>W.cell? ⟨b,o,none⟩)} {c1 c2:List Value} {e1 e2:List AC} (h1:CRd hT c1 e1) (h2:CRd hT c2 e2):CRd hT (c1++c2) (e1++e2):=by
 refine ⟨by rw [abg,abg,h1.1,h2.1],fun j u x hu hx=>?_⟩
 have hl:=h1.1
 by_cases hj:j<c1.length
 ·rw [abn hj] at hu
  rw [abn (by omega)] at hx
  exact h1.2 j u x hu hx
 ·rw [abf (by omega)] at hu
  rw [abf (by omega), <- hl] at hx
  exact h2.2 _ u x hu hx
theorem CRd.one {W:World} {hT:TabR (fun b o=>W.cell? ⟨b,o,none⟩)} {v:Value} {e:AC} (h:bU (RW hT) v e):CRd hT [v] [e]:=by
 refine ⟨rfl,fun j u x hu hx=>?_⟩
 match j,hu,hx with
 | 0,hu,hx=>simp at hu hx;subst hu hx;exact h
 | j+1,hu,hx=>simp at hu
def KH (n:Int):Prop := -9223372036854775808<=n/\n<=9223372036854775807
def SOk (s:ByteArray):Prop:=s.size<=9223372036854775807
def LOk {α:Type} (k:Nat) (Q:α->Prop) (l:List α):Prop:=l.length*k<=reachBytes /\ ∀ a∈l,Q a
def WOk {H:Type} (t:TypeId) (d:DataW H):Prop := ∀ n∈DataW.weights Tryz.prog t d,n<=reachBytes
theorem QH {H:Type} {e:TypeId} : ∀ {l:List (DataW H)} {d:DataW H}, d∈l -> ∀ n∈DataW.weights Tryz.prog e d,n∈DataW.weightsAll Tryz.prog e l
 | x::l,d,h,n,hn=>by
  rw [DataW.weightsAll,abC]
  rcases abq.1 h with rfl|h
  ·exact .inl hn
  ·exact .inr (QH h n hn)
theorem wok_each {H:Type} : ∀ {ts:List TypeId} {l:List (DataW H)} {i:Nat} {t:TypeId} {d:DataW H}, ts[i]?=some t->l[i]?=some d -> ∀ n∈DataW.weights Tryz.prog t d,n∈DataW.weightsEach Tryz.prog ts l
 | t0::ts,d0::l,0,t,d,h1,h2,n,hn=>by
  simp at h1 h2;subst h1 h2
  rw [DataW.weightsEach,abC];exact .inl hn
 | t0::ts,d0::l,i+1,t,d,h1,h2,n,hn=>by
  rw [DataW.weightsEach,abC];exact .inr (wok_each (by simpa using h1) (by simpa using h2) n hn)
 | [],_,i,t,d,h1,_,n,hn=>by simp at h1
 | _::_,[],i,t,d,_,h2,n,hn=>by simp at h2
section
variable {H:Type} {enc:TypeId × Value->H} {W:World} {hT:TabR (fun b o=>W.cell? ⟨b,o,none⟩)} {base:Nat} {spare:Nat->Bool} {held:Bool}
theorem gW {t:TypeId} (ht:Tryz.prog.underlying t=some (.int .i64)) {cs:List Value} {fuel:Nat} {x:DataW H × List MemPlace} (h:DataW.trod enc Tryz.prog W base spare held fuel t cs=some x) : ∃ n:Int,CRd hT cs [.int .i64 n]/\KH n:=by
 obtain ⟨n,rfl,_,hw⟩:=DataW.trod_int ht h
 rw [Lit.wf,abr] at hw
 exact ⟨n,CRd.one (.int _ _),abD hw.1,abD hw.2⟩
theorem LJ {t:TypeId} (ht:Tryz.prog.underlying t=some .string) {cs:List Value} {fuel:Nat} {x:DataW H × List MemPlace} (h:DataW.trod enc Tryz.prog W base spare held fuel t cs=some x) : ∃ s:ByteArray,CRd hT cs [.str s]/\SOk s:=by
 obtain ⟨s,rfl,_,hs⟩:=DataW.trod_string ht h
 exact ⟨s,CRd.one (.str _),hs⟩
theorem dR {α:Type} {t e:TypeId} {k:Nat} {f:α->List AC} {Q:α->Prop} (ht:Tryz.prog.underlying t=some (.slice e)) (hk:Tryz.prog.cellsOf e=k) {by_:Nat} (hby:Tryz.prog.bytesOf e=by_) (hk0:0<k) (hf : ∀ x,(f x).length=k) {cs:List Value} {fuel:Nat} {x:DataW H × List MemPlace} (h:DataW.trod enc Tryz.prog W base spare held fuel t cs=some x) (hw:WOk t x.1)
  (hr : ∀ (fuel':Nat) (cs':List Value) (x':DataW H × List MemPlace),fuel'<fuel->DataW.trod enc Tryz.prog W base spare held fuel' e cs'=some x'->WOk e x'.1 -> ∃ a,CRd hT cs' (f a)/\Q a) : ∃ l:List α,CRd hT cs [.lst (l.map f)]/\LOk by_ Q l:=by
 rcases DataW.trod_slice ht h with ⟨rfl,_⟩|⟨a,len,cap,elems,rest,n,hfu,rfl,hxe,_,hlc,hm,hel,hx,_,_⟩
 ·exact ⟨[],CRd.one (fQ _ _ _),by simp,fun a ha=>by cases ha⟩
 ·have hww:(∀ n∈DataW.weightsAll Tryz.prog e (elems.map (·.1)),n<=reachBytes)/\len*by_<=reachBytes:=by
   rw [hxe] at hw
   unfold WOk at hw
   simp only [DataW.weights,ht] at hw
   refine ⟨fun n hn=>hw n (aby _ (List.mem_append_left _ hn)),?_⟩
   have:=hw _ (List.mem_cons_self ..)
   simp only [abl,hel,hby] at this
   exact Nat.le_trans (abM _ (Nat.le_add_right _ _)) this
  have hi : ∀ i,i<len -> ∃ y,(∃ cs',W.cells? base (a.add (i*k)) k=some cs'/\CRd hT cs' (f y))/\Q y:=by
   intro i hlt
   have h1:=hx i hlt
   rw [abh (by omega),hk] at h1
   cases hc:W.cells? base (a.add (i*k)) k with
   | none=>rw [hc] at h1;cases h1
   | some cs'=>rw [hc] at h1;obtain ⟨y,h2,h3⟩:=hr n cs' _ (by omega) h1 (fun m hm=>hww.1 m (QH (List.mem_map_of_mem (f:=fun p:DataW H × List MemPlace=>p.1) (List.getElem_mem (by omega))) m hm));exact ⟨y,⟨cs',rfl,h2⟩,h3⟩
  rcases Nat.eq_zero_or_pos len with h0|h0
  ·subst h0;exact ⟨[],CRd.one (fQ _ _ _),by simp,fun a ha=>by cases ha⟩
  ·obtain ⟨y0,⟨cs0,hc0,_⟩,_⟩:=hi 0 h0
   let g:Nat->α:=fun i=>if h:i<len then Classical.choose (hi i h) else y0
   have hg : ∀ i,i<len->(∃ cs',W.cells? base (a.add (i*k)) k=some cs'/\CRd hT cs' (f (g i)))/\Q (g i):=by
    intro i hlt
    have:g i=Classical.choose (hi i hlt):=by simp [g,hlt]
    rw [this]
    exact Classical.choose_spec (hi i hlt)
   obtain ⟨b,off,spot⟩:=a
   have hs0:spot=none:=by
    obtain ⟨_,hl,hat⟩:=World.cells?_some hc0
    have h1:=hat 0 hk0
    rw [abh (by omega)] at h1
    have:=World.cell?_spot h1
    simpa [Addr.add] using this
   subst hs0
   refine ⟨(List.range len).map g,CRd.one ?_,(by rw [abl,List.length_range];exact hww.2),?_⟩
   ·have cell : ∀ i,i<len -> ∀ j,j<k -> ∃ u y,W.cell? ⟨b,off+(i*k+j),none⟩=some u/\(f (g i))[j]?=some y/\bU (RW hT) u y:=by
     intro i hlt j hj
     obtain ⟨⟨cs',hc,hcr⟩,_⟩:=hg i hlt
     obtain ⟨_,hl,hat⟩:=World.cells?_some hc
     have h1:=hat j hj
     rw [abh (by omega)] at h1
     have hfl:=hf (g i)
     refine ⟨_,_,?_,abh (by omega),hcr.2 j _ _ (abh (by omega)) (abh (by omega))⟩
     rw [addr_add,addr_add,Nat.add_assoc] at h1
     exact h1
    refine .lst (some ⟨b,off,none⟩) len cap _ k (fun j=>(W.cell? ⟨b,off+j,none⟩).getD (.bool false)) b off (by simp) hlc ?_ (fun _=>rfl) ?_ ?_
    ·intro e he
     simp only [List.map_map,abK] at he
     obtain ⟨i,_,rfl⟩:=he
     exact hf _
    ·intro j hj
     have hd:j/k<len:=by rw [Nat.div_lt_iff_lt_mul hk0];exact hj
     obtain ⟨u,y,h1,_,_⟩:=cell (j/k) hd (j%k) (Nat.mod_lt _ hk0)
     have hjj:j/k*k+j%k=j:=by rw [Nat.mul_comm];exact Nat.div_add_mod j k
     rw [hjj] at h1
     show W.cell? _=_
     rw [h1];rfl
    ·intro i e j x he hxx
     have hlt:i<len:=by have:=(aa9.1 he).1;simpa using this
     have:e=f (g i):=by simp [hlt] at he;exact he.symm
     subst this
     have hj:j<k:=by have:=(aa9.1 hxx).1;rw [hf] at this;exact this
     obtain ⟨u,y,h1,h2,h3⟩:=cell i hlt j hj
     rw [h2] at hxx
     obtain rfl:=abH hxx
     rw [h1];exact h3
   ·intro a ha
    simp only [abK,List.mem_range] at ha
    obtain ⟨i,hlt,rfl⟩:=ha
    exact (hg i hlt).2
theorem Bc {s:TypeId} {x:DataW H × List MemPlace} {fs:Array Field} {n:Nat} {cs:List Value} {xs:List (DataW H × List MemPlace)} (hs:Tryz.prog.underlying s=some (.struct fs)) (hx:x=(.agg (xs.map (·.1)),xs.flatMap (·.2))) (hw:WOk s x.1) (hl:xs.length=fs.size) (hf : ∀ (i:Nat) (f:Field),fs[i]?=some f->DataW.trod enc Tryz.prog W base spare held n f.type ((cs.drop f.offset).take (Tryz.prog.cellsOf f.type))=xs[i]?)
  (i:Nat) {f:Field} {t o k:Nat} (hi:fs[i]?=some f) (h1:f.type=t) (h2:f.offset=o) (h3:Tryz.prog.cellsOf t=k) : ∃ y,DataW.trod enc Tryz.prog W base spare held n t ((cs.drop o).take k)=some y/\WOk t y.1:=by
 have hlt:i<fs.size:=(abT.1 hi).1
 have:=hf i f hi
 rw [h1,h2,h3,abh (by omega)] at this
 refine ⟨_,this,fun m hm=>?_⟩
 rw [hx] at hw
 unfold WOk at hw
 simp only [DataW.weights,hs] at hw
 refine hw m (wok_each (i:=i) ?_ ?_ m hm)
 ·rw [abx,Array.getElem?_toList,hi];simp [h1]
 ·rw [abx,abh (by omega)];rfl
end
structure uw (x:Val):Prop where
 kind:KH x.kind
 int:KH x.int
 text:SOk x.text
section
variable {H:Type} {enc:TypeId × Value->H} {W:World} {hT:TabR (fun b o=>W.cell? ⟨b,o,none⟩)} {base:Nat} {spare:Nat->Bool} {held:Bool}
theorem U3 : ∀ (fuel:Nat) {cs:List Value} {x:DataW H × List MemPlace}, DataW.trod enc Tryz.prog W base spare held fuel 25 cs=some x->WOk 25 x.1 -> ∃ a:Val,CRd hT cs (cV a)/\uw a:=by
 intro fuel
 intro cs x h hw
 obtain ⟨xs,n,hfu,hxe,hlen,hxs,hf⟩:=DataW.trod_struct Tryz.underlying25 h
 rw [show Tryz.prog.cellsOf 25=3 by kernel_rfl] at hlen
 obtain ⟨c0,c1,c2,rfl⟩:=ZO hlen
 obtain ⟨y0,h0,w0⟩:=Bc Tryz.underlying25 hxe hw hxs hf 0 (t:=3) (o:=0) (k:=1) rfl rfl rfl (by kernel_rfl)
 replace h0:DataW.trod enc Tryz.prog W base spare held n 3 [c0]=some y0:=h0
 obtain ⟨l0,r0,q0⟩:=gW Tryz.underlying3 h0
 obtain ⟨y1,h1,w1⟩:=Bc Tryz.underlying25 hxe hw hxs hf 1 (t:=3) (o:=1) (k:=1) rfl rfl rfl (by kernel_rfl)
 replace h1:DataW.trod enc Tryz.prog W base spare held n 3 [c1]=some y1:=h1
 obtain ⟨l1,r1,q1⟩:=gW Tryz.underlying3 h1
 obtain ⟨y2,h2,w2⟩:=Bc Tryz.underlying25 hxe hw hxs hf 2 (t:=9) (o:=2) (k:=1) rfl rfl rfl (by kernel_rfl)
 replace h2:DataW.trod enc Tryz.prog W base spare held n 9 [c2]=some y2:=h2
 obtain ⟨l2,r2,q2⟩:=LJ Tryz.underlying9 h2
 exact ⟨⟨l0,l1,l2⟩,((r0.app r1).app r2),⟨q0,q1,q2⟩⟩
end
inductive okEx:Ex->Prop
 | mk {op:Int} {int:Int} {v:Val} {nm:ByteArray} {args:(List Ex)} (h0:KH op) (h1:KH int) (h2:uw v) (h3:SOk nm) (h4:args.length*88<=reachBytes) (g4 : ∀ a∈args,okEx a):okEx (.mk op int v nm args)
section
variable {H:Type} {enc:TypeId × Value->H} {W:World} {hT:TabR (fun b o=>W.cell? ⟨b,o,none⟩)} {base:Nat} {spare:Nat->Bool} {held:Bool}
theorem rd_Ex : ∀ (fuel:Nat) {cs:List Value} {x:DataW H × List MemPlace}, DataW.trod enc Tryz.prog W base spare held fuel 28 cs=some x->WOk 28 x.1 -> ∃ a:Ex,CRd hT cs (tE a)/\okEx a:=by
 intro fuel
 induction fuel using Nat.strongRecOn with
 | ind fuel ih =>
 intro cs x h hw
 obtain ⟨xs,n,hfu,hxe,hlen,hxs,hf⟩:=DataW.trod_struct Tryz.underlying28 h
 rw [show Tryz.prog.cellsOf 28=7 by kernel_rfl] at hlen
 obtain ⟨c0,c1,c2,c3,c4,c5,c6,rfl⟩:=YZ hlen
 obtain ⟨y0,h0,w0⟩:=Bc Tryz.underlying28 hxe hw hxs hf 0 (t:=3) (o:=0) (k:=1) rfl rfl rfl (by kernel_rfl)
 replace h0:DataW.trod enc Tryz.prog W base spare held n 3 [c0]=some y0:=h0
 obtain ⟨l0,r0,q0⟩:=gW Tryz.underlying3 h0
 obtain ⟨y1,h1,w1⟩:=Bc Tryz.underlying28 hxe hw hxs hf 1 (t:=3) (o:=1) (k:=1) rfl rfl rfl (by kernel_rfl)
 replace h1:DataW.trod enc Tryz.prog W base spare held n 3 [c1]=some y1:=h1
 obtain ⟨l1,r1,q1⟩:=gW Tryz.underlying3 h1
 obtain ⟨y2,h2,w2⟩:=Bc Tryz.underlying28 hxe hw hxs hf 2 (t:=25) (o:=2) (k:=3) rfl rfl rfl (by kernel_rfl)
 replace h2:DataW.trod enc Tryz.prog W base spare held n 25 [c2,c3,c4]=some y2:=h2
 obtain ⟨l2,r2,q2⟩:=U3 n h2 w2
 obtain ⟨y3,h3,w3⟩:=Bc Tryz.underlying28 hxe hw hxs hf 3 (t:=9) (o:=5) (k:=1) rfl rfl rfl (by kernel_rfl)
 replace h3:DataW.trod enc Tryz.prog W base spare held n 9 [c5]=some y3:=h3
 obtain ⟨l3,r3,q3⟩:=LJ Tryz.underlying9 h3
 obtain ⟨y4,h4,w4⟩:=Bc Tryz.underlying28 hxe hw hxs hf 4 (t:=26) (o:=6) (k:=1) rfl rfl rfl (by kernel_rfl)
 replace h4:DataW.trod enc Tryz.prog W base spare held n 26 [c6]=some y4:=h4
 obtain ⟨l4,r4,q4⟩:=dR (k:=7) (f:=tE) (Q:=okEx) Tryz.underlying26 (by kernel_rfl) (by kernel_rfl) (by decide) EQ h4 w4 (fun f c x hlt h hw=>ih f (by omega) h hw)
 exact ⟨.mk l0 l1 l2 l3 l4,(by rw [tE_eq];exact ((((r0.app r1).app r2).app r3).app r4)), .mk q0 q1 q2 q3 q4.1 q4.2⟩
end
section
variable {H:Type} {enc:TypeId × Value->H} {W:World} {hT:TabR (fun b o=>W.cell? ⟨b,o,none⟩)} {base:Nat} {spare:Nat->Bool} {held:Bool}
theorem J5 {cs:List Value} {fuel:Nat} {x:DataW H × List MemPlace} (h:DataW.trod enc Tryz.prog W base spare held fuel 22 cs=some x) (hw:WOk 22 x.1) : ∃ l:List Int,CRd hT cs [.lst (l.map (fun x=>[AC.int .i64 x]))]/\LOk 8 KH l :=
 dR (k:=1) (f:=(fun x=>[AC.int .i64 x])) (Q:=KH) Tryz.underlying22 (by kernel_rfl) (by kernel_rfl) (by decide) (fun _=>rfl) h hw (fun f c x _ h hw=>gW Tryz.underlying3 h)
theorem Oe {cs:List Value} {fuel:Nat} {x:DataW H × List MemPlace} (h:DataW.trod enc Tryz.prog W base spare held fuel 49 cs=some x) (hw:WOk 49 x.1) : ∃ l:List Val,CRd hT cs [.lst (l.map cV)]/\LOk 32 uw l :=
 dR (k:=3) (f:=cV) (Q:=uw) Tryz.underlying49 (by kernel_rfl) (by kernel_rfl) (by decide) (fun _=>rfl) h hw (fun f c x _ h hw=>U3 f h hw)
theorem O0 {cs:List Value} {fuel:Nat} {x:DataW H × List MemPlace} (h:DataW.trod enc Tryz.prog W base spare held fuel 23 cs=some x) (hw:WOk 23 x.1) : ∃ l:List (List Val),CRd hT cs [.lst (l.map (fun x=>[AC.lst (x.map cV)]))]/\LOk 24 (LOk 32 uw) l :=
 dR (k:=1) (f:=(fun x=>[AC.lst (x.map cV)])) (Q:=(LOk 32 uw)) Tryz.underlying23 (by kernel_rfl) (by kernel_rfl) (by decide) (fun _=>rfl) h hw (fun f c x _ h hw=>Oe h hw)
theorem rd_l26 {cs:List Value} {fuel:Nat} {x:DataW H × List MemPlace} (h:DataW.trod enc Tryz.prog W base spare held fuel 26 cs=some x) (hw:WOk 26 x.1) : ∃ l:List Ex,CRd hT cs [.lst (l.map tE)]/\LOk 88 okEx l :=
 dR (k:=7) (f:=tE) (Q:=okEx) Tryz.underlying26 (by kernel_rfl) (by kernel_rfl) (by decide) EQ h hw (fun f c x _ h hw=>rd_Ex f h hw)
end
structure okBag (x:Bag):Prop where
 kinds:(LOk 8 KH) x.kinds
 rows:(LOk 24 (LOk 32 uw)) x.rows
section
variable {H:Type} {enc:TypeId × Value->H} {W:World} {hT:TabR (fun b o=>W.cell? ⟨b,o,none⟩)} {base:Nat} {spare:Nat->Bool} {held:Bool}
theorem rd_Bag : ∀ (fuel:Nat) {cs:List Value} {x:DataW H × List MemPlace}, DataW.trod enc Tryz.prog W base spare held fuel 42 cs=some x->WOk 42 x.1 -> ∃ a:Bag,CRd hT cs (cBag a)/\okBag a:=by
 intro fuel
 intro cs x h hw
 obtain ⟨xs,n,hfu,hxe,hlen,hxs,hf⟩:=DataW.trod_struct Tryz.underlying42 h
 rw [show Tryz.prog.cellsOf 42=2 by kernel_rfl] at hlen
 obtain ⟨c0,c1,rfl⟩:=M7 hlen
 obtain ⟨y0,h0,w0⟩:=Bc Tryz.underlying42 hxe hw hxs hf 0 (t:=22) (o:=0) (k:=1) rfl rfl rfl (by kernel_rfl)
 replace h0:DataW.trod enc Tryz.prog W base spare held n 22 [c0]=some y0:=h0
 obtain ⟨l0,r0,q0⟩:=J5 h0 w0
 obtain ⟨y1,h1,w1⟩:=Bc Tryz.underlying42 hxe hw hxs hf 1 (t:=23) (o:=1) (k:=1) rfl rfl rfl (by kernel_rfl)
 replace h1:DataW.trod enc Tryz.prog W base spare held n 23 [c1]=some y1:=h1
 obtain ⟨l1,r1,q1⟩:=O0 h1 w1
 exact ⟨⟨l0,l1⟩,(r0.app r1),⟨q0,q1⟩⟩
end
theorem snapshotRows_pure {b:Bag} {e:Ex} {l:List Ex} (q0:okBag b) (q1:okEx e) (q2:LOk 88 okEx l):Pure Tryz.prog 7 [.agg (cBag b), .agg (tE e), .one (.lst (l.map tE))] (.val (.one (.bool true))):=gLawRows_ok (gLawRows_true b e l)
end Go.Proofs.YtfpbmfalamappaaGreatDoor
