/- Parts of the proof, joined. No condition. -/
import Derived.Test.YtlcceppoloaecaaGreatDoorKAA
import Derived.Test.YtlcceppoloaecaaGreatDoorKAI
import Derived.ProofKit
import Derived.OpenShut
import Derived.ChangeOld
import Derived.Deep.Slices
set_option linter.unusedSimpArgs false
set_option linter.unusedVariables false
namespace Go.Proofs.YtlcceppoloaecaaGreatDoor
open Go.RowKit Go.MapKept
set_option maxRecDepth 100000
theorem qQ {α:Type} : ∀ {l:List α}, l.length=2 -> ∃ c0 c1,l=[c0,c1]
 | [c0,c1],_=>⟨c0,c1,rfl⟩
theorem F9 {α:Type} : ∀ {l:List α}, l.length=3 -> ∃ c0 c1 c2,l=[c0,c1,c2]
 | [c0,c1,c2],_=>⟨c0,c1,c2,rfl⟩
theorem addr_add (b o n:Nat):(⟨b,o,none⟩:Addr).add n=⟨b,o+n,none⟩:=by
 unfold Addr.add
 split<;>simp_all
def RW {W:World} (hT:gp (fun b o=>W.cell? ⟨b,o,none⟩)):PH:=⟨fun b o=>W.cell? ⟨b,o,none⟩,hT⟩
def gU {W:World} (hT:gp (fun b o=>W.cell? ⟨b,o,none⟩)) (cs:List Value) (es:List AC):Prop:=cs.length=es.length /\ ∀ (j:Nat) u x,cs[j]?=some u->es[j]?=some x->aJ (RW hT) u x
theorem gU.app {W:World} {hT:gp (fun b o=>W.cell? ⟨b,o,none⟩)} {c1 c2:List Value} {e1 e2:List AC} (h1:gU hT c1 e1) (h2:gU hT c2 e2):gU hT (c1++c2) (e1++e2):=by
 refine ⟨by rw [Vk,Vk,h1.1,h2.1],fun j u x hu hx=>?_⟩
 have hl:=h1.1
 by_cases hj:j<c1.length
 ·rw [Vq hj] at hu
  rw [Vq (by omega)] at hx
  exact h1.2 j u x hu hx
 ·rw [Vj (by omega)] at hu
  rw [Vj (by omega), <- hl] at hx
  exact h2.2 _ u x hu hx
theorem gU.one {W:World} {hT:gp (fun b o=>W.cell? ⟨b,o,none⟩)} {v:Value} {e:AC} (h:aJ (RW hT) v e):gU hT [v] [e]:=by
 refine ⟨rfl,fun j u x hu hx=>?_⟩
 match j,hu,hx with
 | 0,hu,hx=>simp at hu hx;subst hu hx;exact h
 | j+1,hu,hx=>simp at hu
def vE (n:Int):Prop := -9223372036854775808<=n/\n<=9223372036854775807
def UA (s:ByteArray):Prop:=s.size<=9223372036854775807
def mE {α:Type} (k:Nat) (Q:α->Prop) (l:List α):Prop:=l.length*k<=reachBytes /\ ∀ a∈l,Q a
def kZ {H:Type} (t:TypeId) (d:DataW H):Prop := ∀ n∈DataW.weights Tryz.prog t d,n<=reachBytes
theorem F_ {H:Type} {e:TypeId} : ∀ {l:List (DataW H)} {d:DataW H}, d∈l -> ∀ n∈DataW.weights Tryz.prog e d,n∈DataW.weightsAll Tryz.prog e l
 | x::l,d,h,n,hn=>by
  rw [DataW.weightsAll,VE]
  rcases Vt.1 h with rfl|h
  ·exact .inl hn
  ·exact .inr (F_ h n hn)
theorem kT {H:Type} : ∀ {ts:List TypeId} {l:List (DataW H)} {i:Nat} {t:TypeId} {d:DataW H}, ts[i]?=some t->l[i]?=some d -> ∀ n∈DataW.weights Tryz.prog t d,n∈DataW.weightsEach Tryz.prog ts l
 | t0::ts,d0::l,0,t,d,h1,h2,n,hn=>by
  simp at h1 h2;subst h1 h2
  rw [DataW.weightsEach,VE];exact .inl hn
 | t0::ts,d0::l,i+1,t,d,h1,h2,n,hn=>by
  rw [DataW.weightsEach,VE];exact .inr (kT (by simpa using h1) (by simpa using h2) n hn)
 | [],_,i,t,d,h1,_,n,hn=>by simp at h1
 | _::_,[],i,t,d,_,h2,n,hn=>by simp at h2
section
variable {H:Type} {enc:TypeId × Value->H} {W:World} {hT:gp (fun b o=>W.cell? ⟨b,o,none⟩)} {base:Nat} {spare:Nat->Bool} {held:Bool}
theorem bq {t:TypeId} (ht:Tryz.prog.underlying t=some (.int .i64)) {cs:List Value} {fuel:Nat} {x:DataW H × List MemPlace} (h:DataW.trod enc Tryz.prog W base spare held fuel t cs=some x) : ∃ n:Int,gU hT cs [.int .i64 n]/\vE n:=by
 obtain ⟨n,rfl,_,hw⟩:=DataW.trod_int ht h
 rw [Lit.wf,Vu] at hw
 exact ⟨n,gU.one (.int _ _),VF hw.1,VF hw.2⟩
theorem C8 {t:TypeId} (ht:Tryz.prog.underlying t=some .string) {cs:List Value} {fuel:Nat} {x:DataW H × List MemPlace} (h:DataW.trod enc Tryz.prog W base spare held fuel t cs=some x) : ∃ s:ByteArray,gU hT cs [.str s]/\UA s:=by
 obtain ⟨s,rfl,_,hs⟩:=DataW.trod_string ht h
 exact ⟨s,gU.one (.str _),hs⟩
theorem aU {α:Type} {t e:TypeId} {k:Nat} {f:α->List AC} {Q:α->Prop} (ht:Tryz.prog.underlying t=some (.slice e)) (hk:Tryz.prog.cellsOf e=k) {by_:Nat} (hby:Tryz.prog.bytesOf e=by_) (hk0:0<k) (hf : ∀ x,(f x).length=k) {cs:List Value} {fuel:Nat} {x:DataW H × List MemPlace} (h:DataW.trod enc Tryz.prog W base spare held fuel t cs=some x) (hw:kZ t x.1)
  (hr : ∀ (fuel':Nat) (cs':List Value) (x':DataW H × List MemPlace),fuel'<fuel->DataW.trod enc Tryz.prog W base spare held fuel' e cs'=some x'->kZ e x'.1 -> ∃ a,gU hT cs' (f a)/\Q a) : ∃ l:List α,gU hT cs [.lst (l.map f)]/\mE by_ Q l:=by
 rcases DataW.trod_slice ht h with ⟨rfl,_⟩|⟨a,len,cap,elems,rest,n,hfu,rfl,hxe,_,hlc,hm,hel,hx,_,_⟩
 ·exact ⟨[],gU.one (bS _ _ _),by simp,fun a ha=>by cases ha⟩
 ·have hww:(∀ n∈DataW.weightsAll Tryz.prog e (elems.map (·.1)),n<=reachBytes)/\len*by_<=reachBytes:=by
   rw [hxe] at hw
   unfold kZ at hw
   simp only [DataW.weights,ht] at hw
   refine ⟨fun n hn=>hw n (VA _ (List.mem_append_left _ hn)),?_⟩
   have:=hw _ (VU ..)
   simp only [Vo,hel,hby] at this
   exact Nat.le_trans (VL _ (Nat.le_add_right _ _)) this
  have hi : ∀ i,i<len -> ∃ y,(∃ cs',W.cells? base (a.add (i*k)) k=some cs'/\gU hT cs' (f y))/\Q y:=by
   intro i hlt
   have h1:=hx i hlt
   rw [Vl (by omega),hk] at h1
   cases hc:W.cells? base (a.add (i*k)) k with
   | none=>rw [hc] at h1;cases h1
   | some cs'=>rw [hc] at h1;obtain ⟨y,h2,h3⟩:=hr n cs' _ (by omega) h1 (fun m hm=>hww.1 m (F_ (List.mem_map_of_mem (f:=fun p:DataW H × List MemPlace=>p.1) (List.getElem_mem (by omega))) m hm));exact ⟨y,⟨cs',rfl,h2⟩,h3⟩
  rcases Nat.eq_zero_or_pos len with h0|h0
  ·subst h0;exact ⟨[],gU.one (bS _ _ _),by simp,fun a ha=>by cases ha⟩
  ·obtain ⟨y0,⟨cs0,hc0,_⟩,_⟩:=hi 0 h0
   let g:Nat->α:=fun i=>if h:i<len then Classical.choose (hi i h) else y0
   have hg : ∀ i,i<len->(∃ cs',W.cells? base (a.add (i*k)) k=some cs'/\gU hT cs' (f (g i)))/\Q (g i):=by
    intro i hlt
    have:g i=Classical.choose (hi i hlt):=by simp [g,hlt]
    rw [this]
    exact Classical.choose_spec (hi i hlt)
   obtain ⟨b,off,spot⟩:=a
   have hs0:spot=none:=by
    obtain ⟨_,hl,hat⟩:=World.cells?_some hc0
    have h1:=hat 0 hk0
    rw [Vl (by omega)] at h1
    have:=World.cell?_spot h1
    simpa [Addr.add] using this
   subst hs0
   refine ⟨(List.range len).map g,gU.one ?_,(by rw [Vo,List.length_range];exact hww.2),?_⟩
   ·have cell : ∀ i,i<len -> ∀ j,j<k -> ∃ u y,W.cell? ⟨b,off+(i*k+j),none⟩=some u/\(f (g i))[j]?=some y/\aJ (RW hT) u y:=by
     intro i hlt j hj
     obtain ⟨⟨cs',hc,hcr⟩,_⟩:=hg i hlt
     obtain ⟨_,hl,hat⟩:=World.cells?_some hc
     have h1:=hat j hj
     rw [Vl (by omega)] at h1
     have hfl:=hf (g i)
     refine ⟨_,_,?_,Vl (by omega),hcr.2 j _ _ (Vl (by omega)) (Vl (by omega))⟩
     rw [addr_add,addr_add,Nat.add_assoc] at h1
     exact h1
    refine .lst (some ⟨b,off,none⟩) len cap _ k (fun j=>(W.cell? ⟨b,off+j,none⟩).getD (.bool false)) b off (by simp) hlc ?_ (fun _=>rfl) ?_ ?_
    ·intro e he
     simp only [List.map_map,VK] at he
     obtain ⟨i,_,rfl⟩:=he
     exact hf _
    ·intro j hj
     have hd:j/k<len:=by rw [Nat.div_lt_iff_lt_mul hk0];exact hj
     obtain ⟨u,y,h1,_,_⟩:=cell (j/k) hd (j%k) (Nat.mod_lt _ hk0)
     have hjj:j/k*k+j%k=j:=by rw [Nat.mul_comm];exact Nat.div_add_mod j k
     rw [hjj] at h1
     show W.cell? _=_
     rw [h1];rfl
    ·intro i e j x he hxx
     have hlt:i<len:=by have:=(Vb.1 he).1;simpa using this
     have:e=f (g i):=by simp [hlt] at he;exact he.symm
     subst this
     have hj:j<k:=by have:=(Vb.1 hxx).1;rw [hf] at this;exact this
     obtain ⟨u,y,h1,h2,h3⟩:=cell i hlt j hj
     rw [h2] at hxx
     obtain rfl:=VI hxx
     rw [h1];exact h3
   ·intro a ha
    simp only [VK,List.mem_range] at ha
    obtain ⟨i,hlt,rfl⟩:=ha
    exact (hg i hlt).2
theorem nI {s:TypeId} {x:DataW H × List MemPlace} {fs:Array Field} {n:Nat} {cs:List Value} {xs:List (DataW H × List MemPlace)} (hs:Tryz.prog.underlying s=some (.struct fs)) (hx:x=(.agg (xs.map (·.1)),xs.flatMap (·.2))) (hw:kZ s x.1) (hl:xs.length=fs.size) (hf : ∀ (i:Nat) (f:Field),fs[i]?=some f->DataW.trod enc Tryz.prog W base spare held n f.type ((cs.drop f.offset).take (Tryz.prog.cellsOf f.type))=xs[i]?)
  (i:Nat) {f:Field} {t o k:Nat} (hi:fs[i]?=some f) (h1:f.type=t) (h2:f.offset=o) (h3:Tryz.prog.cellsOf t=k) : ∃ y,DataW.trod enc Tryz.prog W base spare held n t ((cs.drop o).take k)=some y/\kZ t y.1:=by
 have hlt:i<fs.size:=(VS.1 hi).1
 have:=hf i f hi
 rw [h1,h2,h3,Vl (by omega)] at this
 refine ⟨_,this,fun m hm=>?_⟩
 rw [hx] at hw
 unfold kZ at hw
 simp only [DataW.weights,hs] at hw
 refine hw m (kT (i:=i) ?_ ?_ m hm)
 ·rw [Vz,Array.getElem?_toList,hi];simp [h1]
 ·rw [Vz,Vl (by omega)];rfl
end
structure pz (x:Val):Prop where
 kind:vE x.kind
 int:vE x.int
 text:UA x.text
section
variable {H:Type} {enc:TypeId × Value->H} {W:World} {hT:gp (fun b o=>W.cell? ⟨b,o,none⟩)} {base:Nat} {spare:Nat->Bool} {held:Bool}
theorem LU : ∀ (fuel:Nat) {cs:List Value} {x:DataW H × List MemPlace}, DataW.trod enc Tryz.prog W base spare held fuel 33 cs=some x->kZ 33 x.1 -> ∃ a:Val,gU hT cs (cV a)/\pz a:=by
 intro fuel
 intro cs x h hw
 obtain ⟨xs,n,hfu,hxe,hlen,hxs,hf⟩:=DataW.trod_struct Tryz.underlying33 h
 rw [show Tryz.prog.cellsOf 33=3 by kernel_rfl] at hlen
 obtain ⟨c0,c1,c2,rfl⟩:=F9 hlen
 obtain ⟨y0,h0,w0⟩:=nI Tryz.underlying33 hxe hw hxs hf 0 (t:=3) (o:=0) (k:=1) rfl rfl rfl (by kernel_rfl)
 replace h0:DataW.trod enc Tryz.prog W base spare held n 3 [c0]=some y0:=h0
 obtain ⟨l0,r0,q0⟩:=bq Tryz.underlying3 h0
 obtain ⟨y1,h1,w1⟩:=nI Tryz.underlying33 hxe hw hxs hf 1 (t:=3) (o:=1) (k:=1) rfl rfl rfl (by kernel_rfl)
 replace h1:DataW.trod enc Tryz.prog W base spare held n 3 [c1]=some y1:=h1
 obtain ⟨l1,r1,q1⟩:=bq Tryz.underlying3 h1
 obtain ⟨y2,h2,w2⟩:=nI Tryz.underlying33 hxe hw hxs hf 2 (t:=9) (o:=2) (k:=1) rfl rfl rfl (by kernel_rfl)
 replace h2:DataW.trod enc Tryz.prog W base spare held n 9 [c2]=some y2:=h2
 obtain ⟨l2,r2,q2⟩:=C8 Tryz.underlying9 h2
 exact ⟨⟨l0,l1,l2⟩,((r0.app r1).app r2),⟨q0,q1,q2⟩⟩
end
structure uI (x:bD):Prop where
 lo:vE x.lo
 hi:vE x.hi
section
variable {H:Type} {enc:TypeId × Value->H} {W:World} {hT:gp (fun b o=>W.cell? ⟨b,o,none⟩)} {base:Nat} {spare:Nat->Bool} {held:Bool}
theorem Fp : ∀ (fuel:Nat) {cs:List Value} {x:DataW H × List MemPlace}, DataW.trod enc Tryz.prog W base spare held fuel 53 cs=some x->kZ 53 x.1 -> ∃ a:bD,gU hT cs (gm a)/\uI a:=by
 intro fuel
 intro cs x h hw
 obtain ⟨xs,n,hfu,hxe,hlen,hxs,hf⟩:=DataW.trod_struct Tryz.underlying53 h
 rw [show Tryz.prog.cellsOf 53=2 by kernel_rfl] at hlen
 obtain ⟨c0,c1,rfl⟩:=qQ hlen
 obtain ⟨y0,h0,w0⟩:=nI Tryz.underlying53 hxe hw hxs hf 0 (t:=3) (o:=0) (k:=1) rfl rfl rfl (by kernel_rfl)
 replace h0:DataW.trod enc Tryz.prog W base spare held n 3 [c0]=some y0:=h0
 obtain ⟨l0,r0,q0⟩:=bq Tryz.underlying3 h0
 obtain ⟨y1,h1,w1⟩:=nI Tryz.underlying53 hxe hw hxs hf 1 (t:=3) (o:=1) (k:=1) rfl rfl rfl (by kernel_rfl)
 replace h1:DataW.trod enc Tryz.prog W base spare held n 3 [c1]=some y1:=h1
 obtain ⟨l1,r1,q1⟩:=bq Tryz.underlying3 h1
 exact ⟨⟨l0,l1⟩,(r0.app r1),⟨q0,q1⟩⟩
theorem BP {cs:List Value} {fuel:Nat} {x:DataW H × List MemPlace} (h:DataW.trod enc Tryz.prog W base spare held fuel 50 cs=some x) (hw:kZ 50 x.1) : ∃ l:List Val,gU hT cs [.lst (l.map cV)]/\mE 32 pz l :=
 aU (k:=3) (f:=cV) (Q:=pz) Tryz.underlying50 (by kernel_rfl) (by kernel_rfl) (by decide) (fun _=>rfl) h hw (fun f c x _ h hw=>LU f h hw)
end
structure mF (x:aV):Prop where
 row:(mE 32 pz) x.row
 valid:uI x.valid
section
variable {H:Type} {enc:TypeId × Value->H} {W:World} {hT:gp (fun b o=>W.cell? ⟨b,o,none⟩)} {base:Nat} {spare:Nat->Bool} {held:Bool}
theorem PR : ∀ (fuel:Nat) {cs:List Value} {x:DataW H × List MemPlace}, DataW.trod enc Tryz.prog W base spare held fuel 55 cs=some x->kZ 55 x.1 -> ∃ a:aV,gU hT cs (a_ a)/\mF a:=by
 intro fuel
 intro cs x h hw
 obtain ⟨xs,n,hfu,hxe,hlen,hxs,hf⟩:=DataW.trod_struct Tryz.underlying55 h
 rw [show Tryz.prog.cellsOf 55=3 by kernel_rfl] at hlen
 obtain ⟨c0,c1,c2,rfl⟩:=F9 hlen
 obtain ⟨y0,h0,w0⟩:=nI Tryz.underlying55 hxe hw hxs hf 0 (t:=50) (o:=0) (k:=1) rfl rfl rfl (by kernel_rfl)
 replace h0:DataW.trod enc Tryz.prog W base spare held n 50 [c0]=some y0:=h0
 obtain ⟨l0,r0,q0⟩:=BP h0 w0
 obtain ⟨y1,h1,w1⟩:=nI Tryz.underlying55 hxe hw hxs hf 1 (t:=53) (o:=1) (k:=2) rfl rfl rfl (by kernel_rfl)
 replace h1:DataW.trod enc Tryz.prog W base spare held n 53 [c1,c2]=some y1:=h1
 obtain ⟨l1,r1,q1⟩:=Fp n h1 w1
 exact ⟨⟨l0,l1⟩,(r0.app r1),⟨q0,q1⟩⟩
theorem vS {cs:List Value} {fuel:Nat} {x:DataW H × List MemPlace} (h:DataW.trod enc Tryz.prog W base spare held fuel 22 cs=some x) (hw:kZ 22 x.1) : ∃ l:List aV,gU hT cs [.lst (l.map a_)]/\mE 40 mF l :=
 aU (k:=3) (f:=a_) (Q:=mF) Tryz.underlying22 (by kernel_rfl) (by kernel_rfl) (by decide) (fun _=>rfl) h hw (fun f c x _ h hw=>PR f h hw)
end
end Go.Proofs.YtlcceppoloaecaaGreatDoor
