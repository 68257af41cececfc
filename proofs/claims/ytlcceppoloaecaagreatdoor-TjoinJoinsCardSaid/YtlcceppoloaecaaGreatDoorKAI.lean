/- Parts of the proof, joined. No condition. -/
import Derived.Test.YtlcceppoloaecaaGreatDoorKAA
import Derived.Shelf.SlSortCmp.NoneTotal
import Derived.Test.YtlcceppoloaecaaGreatDoorKAH
import Derived.Test.YtlcceppoloaecaaGreatDoorKAG
import Derived.Laws.StructEq
import Derived.Test.YtlcceppoloaecaaGreatDoorProg
import Derived.Shelf.SlGeneric
import Derived.Shelf.SlicesG.Cmp
import Derived.Ground.SlsfProg
import Derived.Ground.SlgcProg
import Derived.WalkSpells
import Derived.WalkLawsBesides
import Derived.Deep.QuietTactic
import Derived.Deep.RegionHeld3
set_option linter.unusedSimpArgs false
set_option linter.unusedVariables false
namespace Go.Proofs.YtlcceppoloaecaaGreatDoor
open Go.RowKit Go.Shelf Go.Lib Go.Sort
set_option linter.unusedSectionVars false
structure Flat (α:Type) where
 k:Nat
 nums:α->List Int
 len : ∀ x,(nums x).length=k
 pos:0<k
namespace Flat
variable {α:Type} (F:Flat α)
def enc (x:α):List Value:=(F.nums x).map (Value.int .i64)
def tr (x:α):List SV:=(F.nums x).map fun n => .c (.int .i64 n)
theorem enc_len (x:α):(F.enc x).length=F.k:=by simp [enc,F.len]
theorem tr_len (x:α):(F.tr x).length=F.k:=by simp [tr,F.len]
theorem rep_iff {R:PH} {γ:List Gh} {L:List Ob} {x:α} {j:Nat} {t:SV} (ht:(F.tr x)[j]?=some t) {u:Value} : t.rep R γ L u↔(F.enc x)[j]?=some u:=by
 unfold tr at ht
 unfold enc
 rw [aql] at ht ⊢
 cases hn:(F.nums x)[j]? with
 | none=>rw [hn] at ht;cases ht
 | some n =>
  rw [hn] at ht
  cases ht
  constructor
  ·intro h;cases h;rfl
  ·intro h;cases h;exact .int _ _
theorem flat_get {l:List α} {i j:Nat} {x:α} (hi:l[i]?=some x) (hj:j<F.k):(l.flatMap F.enc)[i*F.k+j]?=(F.enc x)[j]?:=by
 induction l generalizing i with
 | nil=>cases hi
 | cons y l ih =>
  rw [aqC]
  cases i with
  | zero =>
   cases hi
   rw [Nat.zero_mul,aqH,aqc (by rw [F.enc_len];exact hj)]
  | succ i =>
   rw [ap7 (by rw [F.enc_len,Nat.succ_mul];omega),F.enc_len,show (i+1)*F.k+j-F.k=i*F.k+j by rw [Nat.succ_mul];omega]
   exact ih hi
theorem flat_len (l:List α):(l.flatMap F.enc).length=l.length*F.k:=by
 induction l with
 | nil=>simp
 | cons y l ih=>rw [aqC,ap8,ih,F.enc_len,aqk,Nat.succ_mul];omega
end Flat
section
variable {P:Program} {α:Type} {F:Flat α} {B:Nat->Prop} {R:PH} {γ:List Gh} {w:World}
theorem P7 {k c ver:Nat} {l:List α} {vs:Array Value} (hk:k=F.k) (hc:l.length<=c) (hs:vs.size=c*k)
  (hr : ∀ (i:Nat) e (j:Nat) u x,(l.map F.tr)[i]?=some e->vs[i*k+j]?=some u->e[j]?=some x->x.rep R γ [.row ver (l.map F.tr) k] u) (j:Nat) (hj:j<l.length*k):vs[j]?=(l.flatMap F.enc)[j]?:=by
 subst hk
 have h0:=F.pos
 have hi:j/F.k<l.length:=Nat.div_lt_of_lt_mul (by rw [Nat.mul_comm];exact hj)
 have hm:j%F.k<F.k:=Nat.mod_lt _ h0
 have e:=Nat.div_add_mod' j F.k
 have hjs:j<vs.size:=by rw [hs];exact aqD hj (aqB _ hc)
 have h1:=ap9 hi
 have ht:(F.tr l[j/F.k])[j%F.k]?=some ((F.tr l[j/F.k])[j%F.k]'(by rw [F.tr_len];exact hm)):=ap9 _
 have h2:=hr (j/F.k) (F.tr l[j/F.k]) (j%F.k) vs[j] _ (by rw [aql,h1];rfl) (by rw [e];exact aqn hjs) ht
 rw [F.rep_iff ht] at h2
 have h3:=F.flat_get h1 hm
 rw [e] at h3
 rw [h3,h2,aqn hjs]
theorem agG {ver k b c:Nat} {pre d post d':List α} (hk:k=F.k) (hd:d'.length=d.length) {W:World} (hi:Inv B R γ [.row ver ((pre++d++post).map F.tr) k] w) (hg:γ[0]?=some (.arr b c))
  (ho:W.heap.size=w.heap.size) (hos:W.os=w.os/\W.tape=w.tape/\W.output=w.output) (hne : ∀ b',b'≠b->W.heap[b']?=w.heap[b']?)
  (hb : ∀ vs E,w.heap[b]?=some (.cells vs E (0,0)) -> ∃ vs':Array Value,W.heap[b]?=some (.cells vs' E (0,0))/\vs'.size=vs.size /\ ∀ j,j<vs.size->vs'[j]?=if pre.length*k<=j/\j<(pre.length+d.length)*k then (d'.flatMap F.enc)[j-pre.length*k]? else vs[j]?) :
  Inv B R γ [.row ver ((pre++d'++post).map F.tr) k] W/\Ext B R R w W/\Mv R R γ γ [.row ver ((pre++d++post).map F.tr) k] [.row ver ((pre++d'++post).map F.tr) k]:=by
 subst hk
 have hL:([.row ver ((pre++d++post).map F.tr) F.k]:List Ob)[0]?=some (.row ver ((pre++d++post).map F.tr) F.k):=rfl
 obtain ⟨⟨vs,E,⟨h1,hE⟩,hsz,hr⟩,hc,hk0,hel,hR⟩:=hi.obj 0 _ _ hL hg
 obtain ⟨vs',g1,g2,g3⟩:=hb vs E h1
 have hcell:=P7 (F:=F) rfl (by simpa using hc) hsz hr
 have hm:Mv R R γ γ [.row ver ((pre++d++post).map F.tr) F.k] (([.row ver ((pre++d++post).map F.tr) F.k]:List Ob).set 0 (.row ver ((pre++d'++post).map F.tr) F.k)):=by
  refine ⟨PH.sub_refl _,aqe _,fun t' n k hlt h=>?_,fun t' ver' es k hlt h=>?_,fun _ _ h=>h⟩
  ·obtain rfl:t'=0:=by simpa using hlt
   cases h
  ·obtain rfl:t'=0:=by simpa using hlt
   cases h
   exact ⟨ver,_,rfl,aqe _,fun _=>⟨by simp [hd],rfl⟩⟩
 have hi':=hi.turn (R':=R) (w':=W) hL hg rfl hm hne ho (fun _ _ _=>rfl) (fun o u e=>by rw [hR o] at e;cases e) (by
  refine ⟨⟨vs',E,⟨g1,hE⟩,by rw [g2,hsz],fun i e j u x he hu hx=>?_⟩,by simpa [hd] using hc,hk0,?_,hR⟩
  ·rw [aql] at he
   cases hq:(pre++d'++post)[i]? with
   | none=>rw [hq] at he;cases he
   | some y =>
    rw [hq] at he
    cases he
    rw [F.rep_iff hx]
    have hj:j<F.k:=by rw [<- F.tr_len y];exact (ap0.1 hx).1
    have hlt:i*F.k+j<vs'.size:=(aqJ.1 hu).1
    rw [g3 _ (by omega)] at hu
    have hil:i<(pre++d'++post).length:=(ap0.1 hq).1
    have hbig : ∀ a,i*F.k+j<a*F.k↔i<a:=fun a=>⟨fun h=>by
      rcases Nat.lt_or_ge i a with h'|h'
      ·exact h'
      ·have:=aqB F.k h';omega,fun h=>by
      have:=aqB F.k (show i+1<=a from h)
      rw [Nat.succ_mul] at this;omega⟩
    by_cases hin:pre.length*F.k<=i*F.k+j/\i*F.k+j<(pre.length+d.length)*F.k
    ·rw [if_pos hin] at hu
     have a1 : ¬ i<pre.length:=fun h=>by have:=(hbig _).2 h;omega
     have a2:=(hbig _).1 hin.2
     have hq':d'[i-pre.length]?=some y:=by
      rw [aqp,ap7 (by omega),aqc (by omega)] at hq
      exact hq
     have:=F.flat_get hq' hj
     rw [<- this, <- hu]
     congr 1
     rw [Nat.sub_mul]
     have:=aqB F.k (show pre.length<=i by omega)
     omega
    ·rw [if_neg hin] at hu
     have hq':(pre++d++post)[i]?=some y:=by
      by_cases a1:i<pre.length
      ·rw [aqp,aqc a1] at hq ⊢;exact hq
      ·have a2 : ¬ i<pre.length+d.length:=fun h=>hin ⟨by have:=aqB F.k (show pre.length<=i by omega);omega,(hbig _).2 h⟩
       rw [ap7 (by simp [hd];omega)] at hq
       rw [ap7 (by simp;omega), <- hq]
       simp [hd]
     have hil':i<(pre++d++post).length:=(ap0.1 hq').1
     rw [hcell _ ((hbig _).2 hil'),F.flat_get hq' hj] at hu
     exact hu
  ·intro e he
   obtain ⟨y,_,rfl⟩:=aqz.1 he
   exact F.tr_len y)
 refine ⟨hi',⟨⟨hos.1,hos.2.1,hos.2.2,by omega,fun b' hb'=>hne b' fun e=>(hi.new 0 _ b hg rfl).1 (by rw [<- e];exact hb')⟩,PH.sub_refl _,fun _ _ _=>rfl⟩,hm⟩
end
section
variable {P:Program} {ρ:Ren} {α:Type} [Inhabited α] {F:Flat α}
theorem Om (l:List α) (j:Nat) (hj:j<l.length*F.k):(flatK F.enc F.k l.toArray)[j]?=(l.flatMap F.enc)[j]?:=by
 have hk0:=F.pos
 have hi:j/F.k<l.length:=Nat.div_lt_of_lt_mul (by rw [Nat.mul_comm];exact hj)
 have hr:j%F.k<F.k:=Nat.mod_lt _ hk0
 have h1:=F.flat_get (ap9 hi) hr
 rw [Nat.div_add_mod' j F.k] at h1
 rw [h1]
 have hs:j<(flatK F.enc F.k l.toArray).size:=by simp;exact hj
 rw [aqn hs, <- getElem!_pos _ j hs,get_flatK _ _ _ _ (by simpa using hj)]
 have h2:l.toArray[j/F.k]! = l[j/F.k]:=by simp [hi]
 rw [h2,ap9 (by rw [F.enc_len];exact hr)]
 simp [F.enc_len,hr]
def VX (P:Program) (F:Flat α) (g:Nat) (cs:List AC) (arg:α->Value) (cf:α->α->Int):Prop :=
 ∀ (R:PH) (W:World) (cb:Array Value),(∀ b o u,R b o=some u->W.cell? ⟨b,o,none⟩=some u)->cb.size=cs.length->(∀ (j:Nat) v x,cb[j]?=some v->cs[j]?=some x->bX R v x) ->
  ∀ x y,Calls P g (#[arg x,arg y]++cb) W fun e w'=>e = .returned (.int .i64 (cf x y)) /\ ∃ q os',w'=grow (W.drewN q) os'
def bZ (cf:α->α->Int) (d:List α):List α:=(pdq (ltOf cf) d.toArray 0 d.toArray.size (Lib.bitLen d.toArray.size) true true).toList
theorem qH {cf:α->α->Int} (hO:SWO (ltOf cf)) (d:List α):(bZ cf d).Perm d:=by
 have h:=(pdq_sorts (ltOf cf) hO d.toArray 0 d.toArray.size (Lib.bitLen d.toArray.size) true true (aqj _) (aqe _) (Or.inl rfl)).1
 obtain ⟨p1,_,p2⟩:=h
 unfold bZ
 generalize pdq (ltOf cf) d.toArray 0 d.toArray.size (Lib.bitLen d.toArray.size) true true=d' at p1 p2 ⊢
 have p1':d'.toList.length=d.length:=by simpa using p1
 have a1:(d'.extract 0 d.toArray.size).toList=d'.toList:=by simp [<- p1']
 have a2:(d.toArray.extract 0 d.toArray.size).toList=d:=by simp
 rw [a1,a2] at p2
 exact p2
theorem kE {cf:α->α->Int} (hO:SWO (ltOf cf)) (d:List α):(bZ cf d).length=d.length:=(qH hO d).length_eq
theorem Ak {cf:α->α->Int} (hO:SWO (ltOf cf)) (d:List α):(bZ cf d).Pairwise fun x y => ¬ cf y x<0:=by
 have h:=(pdq_sorts (ltOf cf) hO d.toArray 0 d.toArray.size (Lib.bitLen d.toArray.size) true true (aqj _) (aqe _) (Or.inl rfl))
 have hl:=kE hO d
 obtain ⟨_,hs⟩:=h
 unfold bZ at hl ⊢
 generalize pdq (ltOf cf) d.toArray 0 d.toArray.size (Lib.bitLen d.toArray.size) true true=d' at hs hl ⊢
 rw [List.pairwise_iff_getElem]
 intro i j hi hj hij
 have:=hs i j (aqj _) hij (by rw [hl] at hj;simpa using hj)
 unfold ltOf at this
 have h2:=of_decide_eq_false this
 have hi':i<d'.size:=by simpa using hi
 have hj':j<d'.size:=by simpa using hj
 rw [getElem!_pos d' i hi',getElem!_pos d' j hj'] at h2
 simpa using h2
theorem Zd {B:Nat->Prop} {R:PH} {γ:List Gh} {w:World} {ver b c n0:Nat} {pre d post d':List α} (hd:d'.length=d.length) (hi:Inv B R γ [.row ver ((pre++d++post).map F.tr) F.k] w) (hg:γ[0]?=some (.arr b c)) (cells:Array Value) (hcs:cells.size=d.length*F.k)
  (hce : ∀ j,j<d.length*F.k->cells[j]?=(d'.flatMap F.enc)[j]?) (os:Array Obj) :
  Inv B R γ [.row ver ((pre++d'++post).map F.tr) F.k] (grow (putRow id (Sort.ahead w n0) b (pre.length*F.k) cells) os)/\Ext B R R w (grow (putRow id (Sort.ahead w n0) b (pre.length*F.k) cells) os) /\
   Mv R R γ γ [.row ver ((pre++d++post).map F.tr) F.k] [.row ver ((pre++d'++post).map F.tr) F.k]:=by
 obtain ⟨i1,e1,m1⟩:=agG (F:=F) (d':=d') (W:=putRow id (Sort.ahead w n0) b (pre.length*F.k) cells) rfl hd hi hg (by simp [putRow,mapBlock,Sort.ahead]) ⟨rfl,rfl,rfl⟩
  (fun b' hb'=>by simp [putRow,mapBlock,Sort.ahead,Array.getElem?_modify,Ne.symm hb'])
  (fun vs E hv=>⟨putCells id (pre.length*F.k) cells vs,by simp [putRow,mapBlock,Sort.ahead,Array.getElem?_modify,hv,onCells],by simp [putCells],fun j hj=>by
   have hx:(putCells id (pre.length*F.k) cells vs)[j]?=some (if pre.length*F.k<=j/\j<pre.length*F.k+cells.size then cells[j-pre.length*F.k]! else vs[j]):=by
    simp [putCells,hj]
   rw [hx,hcs,Nat.add_mul]
   by_cases h:pre.length*F.k<=j/\j<pre.length*F.k+d.length*F.k
   ·rw [if_pos h,if_pos h, <- hce _ (by omega)]
    have:j-pre.length*F.k<cells.size:=by omega
    rw [getElem!_pos cells _ this,aqn this]
   ·rw [if_neg h,if_neg h,aqn hj]⟩)
 have e2:Ext (· < (putRow id (Sort.ahead w n0) b (pre.length*F.k) cells).heap.size) R R (putRow id (Sort.ahead w n0) b (pre.length*F.k) cells) (grow (putRow id (Sort.ahead w n0) b (pre.length*F.k) cells) os) :=
  ⟨⟨rfl,rfl,rfl,by simp,fun b' hb'=>heap_grow_old _ _ hb'⟩,PH.sub_refl _,fun _ _ _=>rfl⟩
 obtain ⟨i2,e3⟩:=i1.later e2 (fun b' o u h=>by
  have:=i1.val b' o u h
  rw [cell?_grow _ _ _ (lt_of_cell this)];exact this)
 exact ⟨i2,e1.trans e3,m1⟩
theorem agw {B:Nat->Prop} {R:PH} {γ:List Gh} {w:World} {ver b c:Nat} {pre d post:List α} (hi:Inv B R γ [.row ver ((pre++d++post).map F.tr) F.k] w) (hg:γ[0]?=some (.arr b c)) (cells:Array Value) (hcs:cells.size=d.length*F.k)
  (hce : ∀ j,j<d.length*F.k->cells[j]?=(d.flatMap F.enc)[j]?):Holds id w b (pre.length*F.k) cells/\b<w.heap.size/\(∀ o,R b o=none):=by
 obtain ⟨⟨vs,E,⟨h1,hE⟩,hsz,hr⟩,hc,hk0,hel,hR⟩:=hi.obj 0 _ _ rfl hg
 have hcell:=P7 (F:=F) rfl (by simpa using hc) hsz hr
 refine ⟨fun j hj=>?_,(aqJ.1 h1).1,hR⟩
 have hlt:pre.length*F.k+j<(pre++d++post).length*F.k:=by
  simp only [ap8,Nat.add_mul];omega
 refine ⟨?_,by simp [World.frozen?,h1]⟩
 rw [cob_ h1,hcell _ hlt,aqp,List.flatMap_append,ap7 (by rw [F.flat_len];omega),F.flat_len,List.flatMap_append,aqc (by rw [F.flat_len];omega),show pre.length*F.k+j-pre.length*F.k=j by omega, <- hce j (by omega),aqn hj,getElem!_pos cells j hj]
 rfl
theorem alh {B:Nat->Prop} {R:PH} {γ:List Gh} {w:World} {ver:Nat} {pre d post:List α} {v:Value} (hi:Inv B R γ [.row ver ((pre++d++post).map F.tr) F.k] w)
  (hv:(SV.sl 0 ver pre.length d.length).rep R γ [.row ver ((pre++d++post).map F.tr) F.k] v) :
  (∃ a c,v = .slice a 0 c/\d=[]) \/ ∃ b c c',γ[0]?=some (.arr b c)/\v = .slice (some ⟨b,pre.length*F.k,none⟩) d.length c':=by
 obtain ⟨_,_,h⟩:=hv
 obtain ⟨_,h⟩:=h ver _ _ rfl
 obtain ⟨hle,g,hg,hs⟩:=h rfl
 cases g with
 | none=>obtain ⟨⟨a,rfl,_⟩,hn,_⟩:=hs;exact .inl ⟨a,0,rfl,aqo hn⟩
 | box b=>exact absurd hs id
 | arr b c =>
  rcases hs with rfl|⟨_,hn,a,rfl⟩
  ·exact .inr ⟨b,c,_,hg,rfl⟩
  ·exact .inl ⟨a,0,rfl,aqo hn⟩
theorem Sv (L:SlLaysF0.n6 P ρ) (aE : ∀ w,(isAgg (ρ.t 24)).run P w = .ok true w) (zE : ∀ w,(Go.sizeOf (ρ.t 24)).run P w = .ok F.k w) (cf:α->α->Int) (hO:SWO (ltOf cf)) (g:Nat) (cs:List AC) {pre d post:List α}
  (eg : ∀ args w, (callFunc g args).run P w = .ok (.enter g args) w) (hcmp : d ≠ [] -> VX P F g cs (fun x => .agg (F.enc x).toArray) cf) (hf : ∃ fn, P.funcs[ρ.f 6]? = some fn /\ fn.body.isSome = true /\ (fn.name == "runtime.NumGoroutine") = false)
  (ver lo n:Nat) (hlo:pre.length=lo) (hn:d.length=n) (hsz:n<4611686018427387904) :
  Run P (ρ.f 6) [.row ver ((pre++d++post).map F.tr) F.k] [.one (.sl 0 ver lo n), .one (.c (.fn g cs))] [.row ver ((pre++bZ cf d++post).map F.tr) F.k] (.tup []):=by
 subst hlo hn
 refine ⟨hf,fun B R γ w vs hi hs hv=>?_⟩
 have hs2:vs.size=2:=hs
 have hv0:=hv 0 vs[0] _ (aqn (by omega)) rfl
 have hv1:=hv 1 vs[1] _ (aqn (by omega)) rfl
 have evs:vs = #[vs[0],vs[1]]:=by
  apply Array.ext
  ·simp [hs2]
  ·intro i h1 h2
   have:i=0\/i=1:=by omega
   rcases this with rfl|rfl<;>rfl
 generalize vs[0]=v0 at hv0 evs
 generalize vs[1]=v1 at hv1 evs
 subst evs
 have hend : ∀ (cb:Value) W,Inv B R γ [.row ver ((pre++bZ cf d++post).map F.tr) F.k] W->Ext B R R w W->Mv R R γ γ [.row ver ((pre++d++post).map F.tr) F.k] [.row ver ((pre++bZ cf d++post).map F.tr) F.k] ->
   ∃ v R' γ',Ending.returned (.tuple #[]) = .returned v/\Inv B R' γ' [.row ver ((pre++bZ cf d++post).map F.tr) F.k] W/\Ext B R R' w W/\Mv R R' γ γ' [.row ver ((pre++d++post).map F.tr) F.k] [.row ver ((pre++bZ cf d++post).map F.tr) F.k]/\(AV.tup []).rep R' γ' [.row ver ((pre++bZ cf d++post).map F.tr) F.k] v :=
  fun _ W h1 h2 h3=>⟨_,R,γ,rfl,h1,h2,h3, #[],rfl,rfl,fun j u p hu _=>by simp at hu⟩
 rcases alh hi hv0 with ⟨a,c,rfl,hd⟩|⟨b,c,c',hg,rfl⟩
 ·subst hd
  refine (AnyF.slices_SortFunc_none { L with } a c v1 w).mono fun e w' ⟨he,hw⟩=>?_
  subst he hw
  have hnil:bZ cf ([]:List α)=[]:=aqo (kE hO [])
  exact hend v1 w' (by rw [hnil];exact hi) (Ext.refl _ _ _) (by rw [hnil];exact Mv.refl)
 ·cases hv1 with
  | fn _ cb _ hcs hce =>
   by_cases hne:d=[]
   ·subst hne
    refine (AnyF.slices_SortFunc_none { L with } _ _ _ w).mono fun e w' ⟨he,hw⟩=>?_
    subst he hw
    have hnil:bZ cf ([]:List α)=[]:=aqo (kE hO [])
    exact hend (.int .i64 0) w' (by rw [hnil];exact hi) (Ext.refl _ _ _) (by rw [hnil];exact Mv.refl)
   obtain ⟨hH,hb,hR⟩:=agw (F:=F) hi hg (flatK F.enc F.k d.toArray) (by simp) (fun j hj=>Om d j hj)
   have hcon:=AnyQ.slices_SortFunc_eq L F.k aE zE F.enc F.enc_len (fun x v hv=>by simp only [Flat.enc,aqz] at hv;obtain ⟨_,_,rfl⟩:=hv;rfl) cf hO g cb b (pre.length*F.k) c' d.toArray w eg
    (fun m os dk hds x y=>hcmp hne R _ cb (fun b' o u h=>by
     have h':=hi.val b' o u h
     have hlt:=lt_of_cell h'
     have hne:b'≠b:=fun e=>by rw [e,hR o] at h;cases h
     unfold sortWorldK putRowK
     rw [cell?_grow _ _ _ (by simpa [putRow,mapBlock,Sort.ahead] using hlt)]
     have:=cell?_putRow_other id (Sort.ahead w m) b (pre.length*F.k) (flatK F.enc F.k dk) ⟨b',o,none⟩ (Or.inl hne)
     rw [this];exact h') hcs hce x y) hH hb (by simpa using hsz)
   simp only [List.size_toArray] at hcon
   refine hcon.mono fun e w' ⟨he,n',os,hw⟩=>?_
   subst he
   have hw2:w'=grow (putRow id (Sort.ahead w n') b (pre.length*F.k) (flatK F.enc F.k (bZ cf d).toArray)) os:=by
    rw [hw];unfold sortWorldK putRowK bZ;simp
   subst hw2
   have hl:=kE hO d
   obtain ⟨h1,h2,h3⟩:=Zd (F:=F) (d':=bZ cf d) (n0:=n') hl hi hg (flatK F.enc F.k (bZ cf d).toArray) (by simp [hl]) (fun j hj=>Om _ j (by rw [hl];exact hj)) os
   exact hend (.int .i64 0) _ h1 h2 h3
def Flat.one (F:Flat α) (x:α):Value := .int .i64 ((F.nums x).headD 0)
theorem Flat.one_eq (hk:F.k=1) (x:α):F.enc x=[F.one x]:=by
 have h:=F.len x
 rw [hk] at h
 unfold Flat.enc Flat.one
 match F.nums x,h with
 | [n],_=>rfl
theorem alg (hk:F.k=1) : ∀ d:List α,d.flatMap F.enc=d.map F.one
 | []=>rfl
 | x::d=>by rw [aqC,alg hk d,F.one_eq hk];rfl
theorem akg (W:World) (b off:Nat) (d:Array α):putRow F.one W b off d=putRow id W b off (d.map F.one):=by
 unfold putRow
 refine mapBlock_congr _ _ _ _ fun c _ _ _=>?_
 apply Array.ext_getElem?
 intro k
 simp only [putCells,Array.getElem?_mapIdx,Array.size_map]
 cases c[k]? with
 | none=>rfl
 | some y =>
  simp only [Option.map_some]
  by_cases h:off<=k/\k<off+d.size
  ·rw [if_pos h,if_pos h]
   have h1:k-off<d.size:=by omega
   rw [getElem!_pos d _ h1,getElem!_pos (d.map F.one) _ (by simpa using h1)]
   simp
  ·rw [if_neg h,if_neg h]
theorem ael (hk:F.k=1) (L:SlLaysF.n6 P ρ) (cf:α->α->Int) (hO:SWO (ltOf cf)) (g:Nat) (cs:List AC) {pre d post:List α}
  (eg : ∀ args w, (callFunc g args).run P w = .ok (.enter g args) w) (hcmp : d ≠ [] -> VX P F g cs F.one cf) (hf : ∃ fn, P.funcs[ρ.f 6]? = some fn /\ fn.body.isSome = true /\ (fn.name == "runtime.NumGoroutine") = false)
  (ver lo n:Nat) (hlo:pre.length=lo) (hn:d.length=n) (hsz:n<4611686018427387904) :
  Run P (ρ.f 6) [.row ver ((pre++d++post).map F.tr) F.k] [.one (.sl 0 ver lo n), .one (.c (.fn g cs))] [.row ver ((pre++bZ cf d++post).map F.tr) F.k] (.tup []):=by
 subst hlo hn
 refine ⟨hf,fun B R γ w vs hi hs hv=>?_⟩
 have hs2:vs.size=2:=hs
 have hv0:=hv 0 vs[0] _ (aqn (by omega)) rfl
 have hv1:=hv 1 vs[1] _ (aqn (by omega)) rfl
 have evs:vs = #[vs[0],vs[1]]:=by
  apply Array.ext
  ·simp [hs2]
  ·intro i h1 h2
   have:i=0\/i=1:=by omega
   rcases this with rfl|rfl<;>rfl
 generalize vs[0]=v0 at hv0 evs
 generalize vs[1]=v1 at hv1 evs
 subst evs
 have hend : ∀ W,Inv B R γ [.row ver ((pre++bZ cf d++post).map F.tr) F.k] W->Ext B R R w W->Mv R R γ γ [.row ver ((pre++d++post).map F.tr) F.k] [.row ver ((pre++bZ cf d++post).map F.tr) F.k] ->
   ∃ v R' γ',Ending.returned (.tuple #[]) = .returned v/\Inv B R' γ' [.row ver ((pre++bZ cf d++post).map F.tr) F.k] W/\Ext B R R' w W/\Mv R R' γ γ' [.row ver ((pre++d++post).map F.tr) F.k] [.row ver ((pre++bZ cf d++post).map F.tr) F.k]/\(AV.tup []).rep R' γ' [.row ver ((pre++bZ cf d++post).map F.tr) F.k] v :=
  fun W h1 h2 h3=>⟨_,R,γ,rfl,h1,h2,h3, #[],rfl,rfl,fun j u p hu _=>by simp at hu⟩
 have hi:Inv B R γ [.row ver ((pre++d++post).map F.tr) F.k] w:=hi
 rcases alh (F:=F) hi hv0 with ⟨a,c,rfl,hd⟩|⟨b,c,c',hg,rfl⟩
 ·subst hd
  refine (AnyF.slices_SortFunc_none { L with } a c v1 w).mono fun e w' ⟨he,hw⟩=>?_
  subst he hw
  have hnil:bZ cf ([]:List α)=[]:=aqo (kE hO [])
  exact hend w' (by rw [hnil];exact hi) (Ext.refl _ _ _) (by rw [hnil];exact Mv.refl)
 ·cases hv1 with
  | fn _ cb _ hcs hce =>
   by_cases hne:d=[]
   ·subst hne
    refine (AnyF.slices_SortFunc_none { L with } _ _ _ w).mono fun e w' ⟨he,hw⟩=>?_
    subst he hw
    have hnil:bZ cf ([]:List α)=[]:=aqo (kE hO [])
    exact hend w' (by rw [hnil];exact hi) (Ext.refl _ _ _) (by rw [hnil];exact Mv.refl)
   have hcell : ∀ l:List α, ∀ j,j<l.length*F.k->(l.toArray.map F.one)[j]?=(l.flatMap F.enc)[j]?:=fun l j _=>by rw [alg hk];simp
   obtain ⟨hH,hb,hR⟩:=agw (F:=F) hi hg (d.toArray.map F.one) (by simp [hk]) (hcell d)
   have hH':Holds F.one w b (pre.length*F.k) d.toArray:=fun j hj=>by
    have h:=hH j (by simpa using hj)
    rw [getElem!_pos (d.toArray.map F.one) j (by simpa using hj)] at h
    rw [getElem!_pos d.toArray j hj]
    simpa using h
   have hcon:=Any.slices_SortFunc_eq L F.one (fun _=>rfl) cf hO g cb b (pre.length*F.k) c' d.toArray w eg
    (fun m os dk hds x y=>hcmp hne R _ cb (fun b' o u h=>by
     have h':=hi.val b' o u h
     have hlt:=lt_of_cell h'
     have hne:b'≠b:=fun e=>by rw [e,hR o] at h;cases h
     unfold sortWorld
     rw [cell?_grow _ _ _ (by simpa [putRow,mapBlock,Sort.ahead] using hlt)]
     have:=cell?_putRow_other F.one (Sort.ahead w m) b (pre.length*F.k) dk ⟨b',o,none⟩ (Or.inl hne)
     rw [this];exact h') hcs hce x y) hH' hb (by simpa using hsz)
   simp only [List.size_toArray] at hcon
   refine hcon.mono fun e w' ⟨he,n',os,hw⟩=>?_
   subst he
   have hw2:w'=grow (putRow id (Sort.ahead w n') b (pre.length*F.k) ((bZ cf d).toArray.map F.one)) os:=by
    rw [hw];unfold sortWorld bZ;rw [akg];simp
   subst hw2
   have hl:=kE hO d
   obtain ⟨h1,h2,h3⟩:=Zd (F:=F) (d':=bZ cf d) (n0:=n') hl hi hg ((bZ cf d).toArray.map F.one) (by simp [hl,hk]) (fun j hj=>hcell _ j (by rw [hl];exact hj)) os
   exact hend _ h1 h2 h3
end
open Go.RowKit Go.MapKept
theorem qY {P:Program} {w:World} {t:TypeId} {d:TypeDesc} (ht:P.underlying t=some d) (hd:(match d with | .struct _=>true | .array _ _=>true|_=>false)=false) {xs:Array Value} {i:Nat} {v:Value} (hx:xs[i]?=some v):(part t xs i).run P w = .ok v w:=by
 cases d<;>first|(cases hd;done)|simp [part,isAgg,run_underlying ht,hx]
def amy:TypeDesc->Option Sc
 | .int k=>some (.int k)
 | .bool=>some .bool
 | .string=>some .str
 | _=>none
def ams (s:Sc):Option TypeDesc->Bool
 | some d=>match amy d with
  | some s'=>decide (s'=s)
  | none=>false
 | none=>false
def ajn (d:Option TypeDesc):Sc->Prop
 | .int k=>d=some (.int k)
 | .bool=>d=some .bool
 | .str=>d=some .string
theorem akM {s:Sc} {d:Option TypeDesc} (h:ams s d=true):ajn d s:=by
 unfold ams at h
 cases d with
 | none=>cases h
 | some d =>
  dsimp only at h
  cases hs:amy d with
  | none=>rw [hs] at h;cases h
  | some s' =>
   rw [hs] at h
   obtain rfl:s'=s:=aqs h
   unfold amy at hs
   split at hs<;>first|(cases hs;rfl)|(cases hs;done)
def abT (P:Program):List Field->List Sc->Nat->Bool
 | [],[],_=>true
 | f :: fs, s :: sh, i => (!(f.name == "_")) && (Nat.beq f.offset i && (ams s (P.underlying f.type) && abT P fs sh (i + 1)))
 | _,_,_=>false
theorem M4 {x:SV} {xs:List SV} {vs:List Value} (h:kC (x::xs)=some vs) : ∃ c v r,x = .c c/\Qz c=some v/\kC xs=some r/\vs=v::r:=by
 unfold kC at h
 split at h
 ·rename_i e;cases e
 ·rename_i y ys e
  cases e
  split at h
  ·rename_i v r h1 h2;cases h;exact ⟨_,v,r,rfl,h1,h2,rfl⟩
  ·cases h
 ·cases h
theorem Q3 {P:Program} {w:World} (d:Nat) {A B:Array Value} : ∀ (fs:List Field) (sh:List Sc) (i:Nat) (xs ys:List SV) (vs us:List Value),abT P fs sh i=true->iV sh xs=true->iV sh ys=true->kC xs=some vs->kC ys=some us ->
  (∀ (j:Nat) v,vs[j]?=some v->A[i+j]?=some v)->(∀ (j:Nat) v,us[j]?=some v->B[i+j]?=some v)->(Op.eqFields (d+1) A B fs).run P w = .ok (dU xs ys) w:=by
 intro fs
 induction fs with
 | nil =>
  intro sh i xs ys vs us hf hx hy _ _ _ _
  cases sh with
  | nil =>
   cases xs with
   | nil=>cases ys with
    | nil=>rfl
    | cons _ _=>cases hy
   | cons _ _=>cases hx
  | cons _ _=>cases hf
 | cons f fs ih =>
  intro sh i xs ys vs us hf hx hy hv hu hA hB
  cases sh with
  | nil=>cases hf
  | cons s sh =>
   rw [abT,aqg,aqg,aqg] at hf
   obtain ⟨h1,h2,h3,h4⟩:=hf
   have h2:=Nat.eq_of_beq_eq_true h2
   have h1 : f.name ≠ "_" := by simpa using h1
   have h3:=akM h3
   cases xs with
   | nil=>cases s<;>cases hx
   | cons x xs =>
    cases ys with
    | nil=>cases s<;>cases hy
    | cons y ys =>
     obtain ⟨cx,v,vr,rfl,hv1,hv2,rfl⟩:=M4 hv
     obtain ⟨cy,u,ur,rfl,hu1,hu2,rfl⟩:=M4 hu
     have a0:=hA 0 v rfl
     have b0:=hB 0 u rfl
     rw [Nat.add_zero] at a0 b0
     have rest : ∀ (hx':iV sh xs=true) (hy':iV sh ys=true),(Op.eqFields (d+1) A B fs).run P w = .ok (dU xs ys) w:=fun hx' hy' =>
      ih sh (i+1) xs ys vr ur h4 hx' hy' hv2 hu2 (fun j v hj=>by have:=hA (j+1) v (by simpa using hj);rwa [show i+1+j=i+(j+1) by omega]) (fun j v hj=>by have:=hB (j+1) v (by simpa using hj);rwa [show i+1+j=i+(j+1) by omega])
     cases s with
     | int k =>
      unfold ajn at h3
      cases cx<;>first|(cases hx;done)|skip
      cases cy<;>first|(cases hy;done)|skip
      rename_i k1 a k2 b
      simp only [iV,aqg,decide_eq_true_eq] at hx hy
      obtain ⟨rfl,hx'⟩:=hx
      obtain ⟨rfl,hy'⟩:=hy
      cases hv1;cases hu1
      have p1:=qY (P:=P) (w:=w) h3 rfl a0
      have p2:=qY (P:=P) (w:=w) h3 rfl b0
      simp only [Op.eqFields,h1,h2,ne_eq,not_false_eq_true,if_true,Sem.run_bind,p1,p2,Result.andThen_ok,run_equalIn_int (P:=P) w d _ k k a b h3,Sem.run_ite,Sem.run_pure,rest hx' hy']
      cases e:(a==b)
      ·have:a≠b:=by simpa using e
       simp [dU,this]
      ·have:a=b:=by simpa using e
       simp [dU,this]
     | bool =>
      unfold ajn at h3
      cases cx<;>first|(cases hx;done)|skip
      cases cy<;>first|(cases hy;done)|skip
      rename_i a b
      simp only [iV] at hx hy
      cases hv1;cases hu1
      have p1:=qY (P:=P) (w:=w) h3 rfl a0
      have p2:=qY (P:=P) (w:=w) h3 rfl b0
      simp only [Op.eqFields,h1,h2,ne_eq,not_false_eq_true,if_true,Sem.run_bind,p1,p2,Result.andThen_ok,run_equalIn_bool (P:=P) w d _ a b h3,Sem.run_ite,Sem.run_pure,rest hx hy]
      cases e:(a==b)<;>simp [dU,e]
     | str =>
      unfold ajn at h3
      cases cx<;>first|(cases hx;done)|skip
      cases cy<;>first|(cases hy;done)|skip
      rename_i a b
      simp only [iV] at hx hy
      cases hv1;cases hu1
      have p1:=qY (P:=P) (w:=w) h3 rfl a0
      have p2:=qY (P:=P) (w:=w) h3 rfl b0
      simp only [Op.eqFields,h1,h2,ne_eq,not_false_eq_true,if_true,Sem.run_bind,p1,p2,Result.andThen_ok,run_equalIn_string (P:=P) w d _ a b h3,Sem.run_ite,Sem.run_pure,rest hx hy]
      cases e:(a.toList==b.toList)<;>simp [dU,e]
def acJ (P:Program) (t:TypeId) (sh:List Sc):Bool :=
 (match P.underlying t with
 | some (.struct fs)=>abT P fs.toList sh 0
 | _=>false)&&(!P.stoodInHeld t && !P.eqGuardType P.depth t)
theorem aen {P:Program} {t:TypeId} {sh:List Sc} (h:acJ P t sh=true):P.eqGuardType P.depth t=false /\ ∀ xs ys,iV sh xs=true->iV sh ys=true->aaB P t xs ys:=by
 rw [acJ,aqg,aqg] at h
 obtain ⟨h1,h2,h3⟩:=h
 refine ⟨by simpa using h3,fun xs ys hx hy vs us hv hu w=>?_⟩
 split at h1
 ·rename_i fs ht
  have hfs:P.fieldsOf t=fs:=by unfold Program.fieldsOf;rw [ht]
  have hm:Op.equal t (.agg vs.toArray) (.agg us.toArray)=Op.equalIn (9999+1) t (.agg vs.toArray) (.agg us.toArray):=rfl
  rw [hm,run_equalIn_struct w 9999 t _ _ (by rw [hfs];exact ht) (by simpa using h2),hfs]
  exact Q3 9998 _ sh 0 xs ys vs us h1 hx hy hv hu (fun j v hj=>by simpa using hj) (fun j v hj=>by simpa using hj)
 ·cases h1
open Go.RowKit
def zeL:List (Nat × AV):=[(2, .one (.c (.int .i64 0))),(3, .one (.c (.int .i64 0))),(4, .one (.c (.bool false))),(5, .one (.c (.int .u8 0))),(9, .one (.c (.str ⟨#[]⟩))),(22, .one (.emp)),(25, .one (.emp)),(29, .one (.emp)),(31, .agg [.emp, .emp]),(33, .agg [.c (.int .i64 0), .c (.int .i64 0), .c (.str ⟨#[]⟩)]),(34, .one (.emp)),(36, .agg [.c (.int .i64 0), .c (.int .i64 0), .c (.int .i64 0), .c (.int .i64 0), .c (.str ⟨#[]⟩), .c (.str ⟨#[]⟩), .emp]),(41, .agg [.emp, .emp, .emp, .emp]),(42, .one (.emp)),(44, .agg [.emp, .emp]),(50, .one (.emp)),(53, .agg [.c (.int .i64 0), .c (.int .i64 0)]),(55, .agg [.emp, .c (.int .i64 0), .c (.int .i64 0)]),(63, .agg [.c (.int .i64 0), .c (.int .i64 0)]),(65, .one (.c (.nul .func))),(67, .one (.c (.nul .func))),(72, .one (.c (.int .i64 0))),(77, .one (.c (.nul .func))),(81, .one (.emp)),(83, .one (.emp)),(85, .one (.c (.nul .func))),(99, .one (.c (.nul .func))),(103, .one (.c (.int .u64 0))),(113, .one (.emp)),(115, .one (.emp)),(117, .agg [.emp, .emp]),(121, .one (.c (.nul .func))),(134, .one (.c (.nul .func))),(136, .one (.c (.int .i64 0))),(143, .one (.c (.int .u32 0))),(145, .one (.c (.int .u64 0))),(159, .one (.emp)),(162, .agg [.c (.int .i64 0), .c (.int .i64 0), .c (.int .i64 0)]),(169, .one (.emp)),(179, .one (.c (.int .u64 0))),(183, .one (.c (.nul .ptr))),(191, .one (.emp)),(194, .agg [.emp, .emp]),(195, .one (.emp)),(197, .agg [.c (.int .i64 0), .c (.int .i64 0)]),(201, .agg [.c (.int .i64 0), .c (.int .i64 0)]),(204, .one (.c (.nul .func))),(205, .one (.emp)),(207, .agg [.c (.int .i64 0), .c (.int .i64 0), .c (.int .i64 0)]),(211, .one (.c (.nul .func))),(222, .one (.c (.nul .map))),(225, .one (.c (.nul .func))),(228, .one (.c (.nul .func))),(232, .agg [.c (.int .i64 0), .c (.bool false)]),(235, .one (.c (.nul .ptr))),(236, .one (.emp)),(238, .agg [.c (.nul .ptr), .emp]),(259, .one (.c (.nul .ptr))),(271, .one (.c (.nul .ptr)))]
def kiL:List (Nat × TypeDesc):=[(2, .int .i64),(3, .int .i64),(4, .bool),(5, .int .u8),(9, .string),(22, .slice 55),(25, .slice 63),(29, .slice 3),(34, .slice 36),(42, .slice 50),(50, .slice 33),(72, .int .i64),(81, .slice 83),(83, .slice 53),(103, .int .u64),(113, .slice 117),(115, .slice 201),(136, .int .i64),(143, .int .u32),(145, .int .u64),(159, .slice 162),(169, .slice 232),(179, .int .u64),(183, .pointer 3),(191, .slice 194),(195, .slice 197),(205, .slice 207),(222, .map 9 3),(235, .pointer 238),(236, .slice 5),(259, .pointer 5),(271, .unsafePointer)]
def eqL:List (Nat × List Sc):=[(33,[.int .i64, .int .i64, .str]),(53,[.int .i64, .int .i64]),(63,[.int .i64, .int .i64]),(162,[.int .i64, .int .i64, .int .i64]),(197,[.int .i64, .int .i64]),(201,[.int .i64, .int .i64]),(232,[.int .i64, .bool])]
def tab:TI:=TI.of [(2,1),(3,1),(4,1),(5,1),(9,1),(22,1),(25,1),(29,1),(31,2),(33,3),(34,1),(36,7),(41,4),(42,1),(44,2),(50,1),(53,2),(55,3),(63,2),(65,1),(67,1),(72,1),(77,1),(81,1),(83,1),(85,1),(99,1),(103,1),(113,1),(115,1),(117,2),(121,1),(134,1),(136,1),(143,1),(145,1),(159,1),(162,3),(169,1),(179,1),(183,1),(191,1),(194,2),(195,1),(197,2),(201,2),(204,1),(205,1),(207,3),(211,1),(222,1),(225,1),(228,1),(232,2),(235,1),(236,1),(238,2),(259,1),(271,1)] [(2,false),(3,false),(4,false),(5,false),(9,false),(22,false),(25,false),(29,false),(31,true),(33,true),(34,false),(36,true),(41,true),(42,false),(44,true),(50,false),(53,true),(55,true),(63,true),(65,false),(67,false),(72,false),(77,false),(81,false),(83,false),(85,false),(99,false),(103,false),(113,false),(115,false),(117,true),(121,false),(134,false),(136,false),(143,false),(145,false),(159,false),(162,true),(169,false),(179,false),(183,false),(191,false),(194,true),(195,false),(197,true),(201,true),(204,false),(205,false),(207,true),(211,false),(222,false),(225,false),(228,false),(232,true),(235,false),(236,false),(238,true),(259,false),(271,false)] [(22,55),(25,63),(29,3),(34,36),(42,50),(50,33),(81,83),(83,53),(113,117),(115,201),(159,162),(169,232),(191,194),(195,197),(205,207),(236,5)] [(31,[(0,29),(1,22)]),(33,[(0,3),(1,3),(2,9)]),(36,[(0,3),(1,3),(2,33),(5,9),(6,34)]),(41,[(0,31),(2,31)]),(44,[(0,29),(1,42)]),(53,[(0,3),(1,3)]),(55,[(0,50),(1,53)]),(63,[(0,3),(1,3)]),(117,[(0,50),(1,115)]),(162,[(0,3),(1,3),(2,3)]),(194,[(0,50),(1,83)]),(197,[(0,3),(1,3)]),(201,[(0,3),(1,3)]),(207,[(0,53),(2,3)]),(232,[(0,3),(1,4)]),(238,[(0,235),(1,236)])] zeL [(2,8),(3,8),(4,1),(5,1),(9,16),(22,24),(25,24),(29,24),(31,48),(33,32),(34,24),(36,88),(41,96),(42,24),(44,48),(50,24),(53,16),(55,40),(63,16),(65,8),(67,8),(72,8),(77,8),(81,24),(83,24),(85,8),(99,8),(103,8),(113,24),(115,24),(117,48),(121,8),(134,8),(136,8),(143,4),(145,8),(159,24),(162,24),(169,24),(179,8),(183,8),(191,24),(194,48),(195,24),(197,16),(201,16),(204,8),(205,24),(207,24),(211,8),(222,8),(225,8),(228,8),(232,16),(235,8),(236,24),(238,32),(259,8),(271,8)] kiL [31,33,36,41,44,53,55,63,117,162,194,197,201,207,232,238] [2,3,4,5,9,22,25,29,31,33,34,36,41,42,44,50,53,55,63,65,67,72,77,81,83,85,99,103,113,115,117,121,134,136,143,145,159,162,169,179,183,191,194,195,197,201,204,205,207,211,222,225,228,232,235,236,238,259,271] eqL [0]
set_option maxRecDepth 100000 in
theorem tab_ok:TIok Tryz.prog tab:=by
 refine TI.of_ok (by kernel_rfl) (by kernel_rfl) (by kernel_rfl) (by kernel_rfl) ?_ (by kernel_rfl) ?_ (by kernel_rfl) (by kernel_rfl) ?_
 ·intro p hp
  simp only [zeL,aqf,List.not_mem_nil,or_false] at hp
  rcases hp with rfl|rfl|rfl|rfl|rfl|rfl|rfl|rfl|rfl|rfl|rfl|rfl|rfl|rfl|rfl|rfl|rfl|rfl|rfl|rfl|rfl|rfl|rfl|rfl|rfl|rfl|rfl|rfl|rfl|rfl|rfl|rfl|rfl|rfl|rfl|rfl|rfl|rfl|rfl|rfl|rfl|rfl|rfl|rfl|rfl|rfl|rfl|rfl|rfl|rfl|rfl|rfl|rfl|rfl|rfl|rfl|rfl|rfl|rfl<;>kernel_rfl
 ·intro p hp
  simp only [kiL,aqf,List.not_mem_nil,or_false] at hp
  rcases hp with rfl|rfl|rfl|rfl|rfl|rfl|rfl|rfl|rfl|rfl|rfl|rfl|rfl|rfl|rfl|rfl|rfl|rfl|rfl|rfl|rfl|rfl|rfl|rfl|rfl|rfl|rfl|rfl|rfl|rfl|rfl|rfl<;>kernel_rfl
 ·intro p hp
  simp only [eqL,aqf,List.not_mem_nil,or_false] at hp
  rcases hp with rfl|rfl|rfl|rfl|rfl|rfl|rfl<;>exact aen (by kernel_rfl)
def apz:TI := { tab with soft:=true }
theorem tabS_ok:TIok Tryz.prog apz:=⟨tab_ok.size,tab_ok.agg,tab_ok.elem,tab_ok.field,tab_ok.zero,tab_ok.bytes,tab_ok.kind,tab_ok.struct,tab_ok.zok,tab_ok.eqs⟩
theorem mixed:Tryz.prog.follows .mixedOrders=true:=by kernel_rfl
structure Val where
 kind:Int
 int:Int
 text:ByteArray
def cV (x:Val):List AC:=[.int .i64 x.kind, .int .i64 x.int, .str x.text]
structure aP where
 lo:Int
 hi:Int
def bv (x:aP):List AC:=[.int .i64 x.lo, .int .i64 x.hi]
structure aC where
 row:(List Val)
 valid:aP
def aU (x:aC):List AC:=[.lst (x.row.map cV), .int .i64 x.valid.lo, .int .i64 x.valid.hi]
structure bH where
 kinds:(List Int)
 facts:(List aC)
def bD (x:bH):List AC:=[.lst (x.kinds.map (fun x=>[AC.int .i64 x])), .lst (x.facts.map aU)]
inductive Ex where
 | mk (op:Int) (int:Int) (v:Val) (nm:ByteArray) (args:(List Ex))
mutual
def tE:Ex->List AC
 | .mk op int v nm args=>[.int .i64 op, .int .i64 int, .int .i64 v.kind, .int .i64 v.int, .str v.text, .str nm, .lst (tEs args)]
def tEs:List Ex->List (List AC)
 | []=>[]
 | e::l=>tE e::tEs l
end
theorem acX : ∀ (l:List Ex),tEs l=l.map tE
 | []=>by simp [tEs]
 | e::l=>by simp [tEs,acX l]
def Ex.op:Ex->Int | .mk a _ _ _ _=>a
def Ex.int:Ex->Int | .mk _ a _ _ _=>a
def Ex.v:Ex->Val | .mk _ _ a _ _=>a
def Ex.nm:Ex->ByteArray | .mk _ _ _ a _=>a
def Ex.args:Ex->(List Ex) | .mk _ _ _ _ a=>a
theorem aL (e:Ex):tE e=[.int .i64 e.op, .int .i64 e.int, .int .i64 e.v.kind, .int .i64 e.v.int, .str e.v.text, .str e.nm, .lst (e.args.map tE)]:=by
 obtain ⟨_,_,_,_,_⟩:=e
 rw [tE,acX];rfl
theorem Ui (e:Ex):(tE e).length=7:=by rw [aL];rfl
structure eF where
 a:Int
 b:Int
def m_ (x:eF):List AC:=[.int .i64 x.a, .int .i64 x.b]
structure Stp where
 lo:Int
 n:Int
def Bq (x:Stp):List AC:=[.int .i64 x.lo, .int .i64 x.n]
structure dx where
 row:(List Val)
 steps:(List Stp)
def oN (x:dx):List AC:=[.lst (x.row.map cV), .lst (x.steps.map Bq)]
structure aa where
 row:(List Val)
 periods:(List aP)
def ah (x:aa):List AC:=[.lst (x.row.map cV), .lst (x.periods.map bv)]
structure J3 where
 period:aP
 n:Int
def QB (x:J3):List AC:=[.int .i64 x.period.lo, .int .i64 x.period.hi, .int .i64 x.n]
structure QP where
 column:Int
 desc:Bool
def PX (x:QP):List AC:=[.int .i64 x.column, .bool x.desc]
end Go.Proofs.YtlcceppoloaecaaGreatDoor
namespace Go.Proofs
open Go.Shelf
def Tryz.sortInt_ren:Go.Shelf.Ren:=⟨fun|6=>39|15=>81|14=>80|28=>129|29=>130|20=>121|21=>122|22=>123|23=>124|24=>125|25=>126|26=>127|27=>128|46=>191|47=>192|48=>193|49=>194|50=>195|57=>233|n=>n,fun|22=>29|24=>3|25=>65|3=>3|39=>103|0=>0|53=>143|55=>145|4=>4|46=>137|45=>136|50=>106|5=>5|9=>9|66=>179|70=>183|76=>218|77=>188|n=>n,fun|n=>n⟩
theorem Tryz.sortInt:Go.Proofs.SlLaysF.n6 Tryz.prog Tryz.sortInt_ren := {
 mixed:=by kernel_rfl
 f6:=⟨Tryz.f39.name,by decide,Tryz.func39.trans (congrArg some (by kernel_rfl))⟩
 f14:=⟨Tryz.f80.name,by decide,Tryz.func80.trans (congrArg some (by kernel_rfl))⟩
 f15:=Tryz.func81.trans (congrArg some (by kernel_rfl))
 f20:=⟨Tryz.f121.name,by decide,Tryz.func121.trans (congrArg some (by kernel_rfl))⟩
 f21:=⟨Tryz.f122.name,by decide,Tryz.func122.trans (congrArg some (by kernel_rfl))⟩
 f22:=⟨Tryz.f123.name,by decide,Tryz.func123.trans (congrArg some (by kernel_rfl))⟩
 f23:=⟨Tryz.f124.name,by decide,Tryz.func124.trans (congrArg some (by kernel_rfl))⟩
 f24:=⟨Tryz.f125.name,by decide,Tryz.func125.trans (congrArg some (by kernel_rfl))⟩
 f25:=⟨Tryz.f126.name,by decide,Tryz.func126.trans (congrArg some (by kernel_rfl))⟩
 f26:=⟨Tryz.f127.name,by decide,Tryz.func127.trans (congrArg some (by kernel_rfl))⟩
 f27:=⟨Tryz.f128.name,by decide,Tryz.func128.trans (congrArg some (by kernel_rfl))⟩
 f28:=Tryz.func129.trans (congrArg some (by kernel_rfl))
 f29:=Tryz.func130.trans (congrArg some (by kernel_rfl))
 f46:=⟨Tryz.f191.name,by decide,Tryz.func191.trans (congrArg some (by kernel_rfl))⟩
 f47:=Tryz.func192.trans (congrArg some (by kernel_rfl))
 f48:=Tryz.func193.trans (congrArg some (by kernel_rfl))
 f49:=⟨Tryz.f194.name,by decide,Tryz.func194.trans (congrArg some (by kernel_rfl))⟩
 f50:=⟨Tryz.f195.name,by decide,Tryz.func195.trans (congrArg some (by kernel_rfl))⟩
 f57:=⟨Tryz.f233.name,by decide,Tryz.func233.trans (congrArg some (by kernel_rfl))⟩
 t0:=Tryz.underlying0
 a0:=Tryz.isAgg0
 z0:=Tryz.sizeOf0
 v0:=Tryz.zeroValue0
 t3:=Tryz.underlying3
 a3:=Tryz.isAgg3
 z3:=Tryz.sizeOf3
 v3:=Tryz.zeroValue3
 t4:=Tryz.underlying4
 a4:=Tryz.isAgg4
 z4:=Tryz.sizeOf4
 v4:=Tryz.zeroValue4
 t5:=Tryz.underlying5
 a5:=Tryz.isAgg5
 z5:=Tryz.sizeOf5
 v5:=Tryz.zeroValue5
 t9:=Tryz.underlying9
 a9:=Tryz.isAgg9
 z9:=Tryz.sizeOf9
 v9:=Tryz.zeroValue9
 t22:=Tryz.underlying29
 a22:=Tryz.isAgg29
 z22:=Tryz.sizeOf29
 v22:=Tryz.zeroValue29
 a24:=Tryz.isAgg3
 z24:=Tryz.sizeOf3
 t25:=Tryz.underlying65
 a25:=Tryz.isAgg65
 z25:=Tryz.sizeOf65
 v25:=Tryz.zeroValue65
 t39:=Tryz.underlying103
 a39:=Tryz.isAgg103
 z39:=Tryz.sizeOf103
 v39:=Tryz.zeroValue103
 t45:=Tryz.underlying136
 a45:=Tryz.isAgg136
 z45:=Tryz.sizeOf136
 v45:=Tryz.zeroValue136
 t46:=Tryz.underlying137
 a46:=Tryz.isAgg137
 z46:=Tryz.sizeOf137
 v46:=Tryz.zeroValue137
 t50:=Tryz.underlying106
 a50:=Tryz.isAgg106
 z50:=Tryz.sizeOf106
 v50:=Tryz.zeroValue106
 t53:=Tryz.underlying143
 a53:=Tryz.isAgg143
 z53:=Tryz.sizeOf143
 v53:=Tryz.zeroValue143
 t55:=Tryz.underlying145
 a55:=Tryz.isAgg145
 z55:=Tryz.sizeOf145
 v55:=Tryz.zeroValue145
 t66:=Tryz.underlying179
 a66:=Tryz.isAgg179
 z66:=Tryz.sizeOf179
 v66:=Tryz.zeroValue179
 t70:=Tryz.underlying183
 a70:=Tryz.isAgg183
 z70:=Tryz.sizeOf183
 v70:=Tryz.zeroValue183
 t76:=Tryz.underlying218
 a76:=Tryz.isAgg218
 z76:=Tryz.sizeOf218
 v76:=Tryz.zeroValue218
 t77:=Tryz.underlying188
 a77:=Tryz.isAgg188
 z77:=Tryz.sizeOf188
 v77:=Tryz.zeroValue188 }
def Tryz.sortPair_ren:Go.Shelf.Ren:=⟨fun|6=>42|15=>81|14=>83|28=>129|29=>130|20=>131|21=>132|22=>133|23=>134|24=>135|25=>136|26=>137|27=>138|46=>196|47=>192|48=>193|49=>197|50=>198|57=>234|n=>n,fun|22=>25|24=>63|25=>67|3=>3|39=>103|0=>0|53=>143|55=>145|4=>4|46=>137|45=>136|50=>106|5=>5|9=>9|66=>179|70=>183|76=>218|77=>188|n=>n,fun|n=>n⟩
theorem Tryz.sortPair:Go.Proofs.SlLaysF0.n6 Tryz.prog Tryz.sortPair_ren := {
 mixed:=by kernel_rfl
 f6:=⟨Tryz.f42.name,by decide,Tryz.func42.trans (congrArg some (by kernel_rfl))⟩
 f14:=⟨Tryz.f83.name,by decide,Tryz.func83.trans (congrArg some (by kernel_rfl))⟩
 f15:=Tryz.func81.trans (congrArg some (by kernel_rfl))
 f20:=⟨Tryz.f131.name,by decide,Tryz.func131.trans (congrArg some (by kernel_rfl))⟩
 f21:=⟨Tryz.f132.name,by decide,Tryz.func132.trans (congrArg some (by kernel_rfl))⟩
 f22:=⟨Tryz.f133.name,by decide,Tryz.func133.trans (congrArg some (by kernel_rfl))⟩
 f23:=⟨Tryz.f134.name,by decide,Tryz.func134.trans (congrArg some (by kernel_rfl))⟩
 f24:=⟨Tryz.f135.name,by decide,Tryz.func135.trans (congrArg some (by kernel_rfl))⟩
 f25:=⟨Tryz.f136.name,by decide,Tryz.func136.trans (congrArg some (by kernel_rfl))⟩
 f26:=⟨Tryz.f137.name,by decide,Tryz.func137.trans (congrArg some (by kernel_rfl))⟩
 f27:=⟨Tryz.f138.name,by decide,Tryz.func138.trans (congrArg some (by kernel_rfl))⟩
 f28:=Tryz.func129.trans (congrArg some (by kernel_rfl))
 f29:=Tryz.func130.trans (congrArg some (by kernel_rfl))
 f46:=⟨Tryz.f196.name,by decide,Tryz.func196.trans (congrArg some (by kernel_rfl))⟩
 f47:=Tryz.func192.trans (congrArg some (by kernel_rfl))
 f48:=Tryz.func193.trans (congrArg some (by kernel_rfl))
 f49:=⟨Tryz.f197.name,by decide,Tryz.func197.trans (congrArg some (by kernel_rfl))⟩
 f50:=⟨Tryz.f198.name,by decide,Tryz.func198.trans (congrArg some (by kernel_rfl))⟩
 f57:=⟨Tryz.f234.name,by decide,Tryz.func234.trans (congrArg some (by kernel_rfl))⟩
 t0:=Tryz.underlying0
 a0:=Tryz.isAgg0
 z0:=Tryz.sizeOf0
 v0:=Tryz.zeroValue0
 t3:=Tryz.underlying3
 a3:=Tryz.isAgg3
 z3:=Tryz.sizeOf3
 v3:=Tryz.zeroValue3
 t4:=Tryz.underlying4
 a4:=Tryz.isAgg4
 z4:=Tryz.sizeOf4
 v4:=Tryz.zeroValue4
 t5:=Tryz.underlying5
 a5:=Tryz.isAgg5
 z5:=Tryz.sizeOf5
 v5:=Tryz.zeroValue5
 t9:=Tryz.underlying9
 a9:=Tryz.isAgg9
 z9:=Tryz.sizeOf9
 v9:=Tryz.zeroValue9
 t22:=Tryz.underlying25
 a22:=Tryz.isAgg25
 z22:=Tryz.sizeOf25
 v22:=Tryz.zeroValue25
 t25:=Tryz.underlying67
 a25:=Tryz.isAgg67
 z25:=Tryz.sizeOf67
 v25:=Tryz.zeroValue67
 t39:=Tryz.underlying103
 a39:=Tryz.isAgg103
 z39:=Tryz.sizeOf103
 v39:=Tryz.zeroValue103
 t45:=Tryz.underlying136
 a45:=Tryz.isAgg136
 z45:=Tryz.sizeOf136
 v45:=Tryz.zeroValue136
 t46:=Tryz.underlying137
 a46:=Tryz.isAgg137
 z46:=Tryz.sizeOf137
 v46:=Tryz.zeroValue137
 t50:=Tryz.underlying106
 a50:=Tryz.isAgg106
 z50:=Tryz.sizeOf106
 v50:=Tryz.zeroValue106
 t53:=Tryz.underlying143
 a53:=Tryz.isAgg143
 z53:=Tryz.sizeOf143
 v53:=Tryz.zeroValue143
 t55:=Tryz.underlying145
 a55:=Tryz.isAgg145
 z55:=Tryz.sizeOf145
 v55:=Tryz.zeroValue145
 t66:=Tryz.underlying179
 a66:=Tryz.isAgg179
 z66:=Tryz.sizeOf179
 v66:=Tryz.zeroValue179
 t70:=Tryz.underlying183
 a70:=Tryz.isAgg183
 z70:=Tryz.sizeOf183
 v70:=Tryz.zeroValue183
 t76:=Tryz.underlying218
 a76:=Tryz.isAgg218
 z76:=Tryz.sizeOf218
 v76:=Tryz.zeroValue218
 t77:=Tryz.underlying188
 a77:=Tryz.isAgg188
 z77:=Tryz.sizeOf188
 v77:=Tryz.zeroValue188 }
def Tryz.sortEdge_ren:Go.Shelf.Ren:=⟨fun|6=>212|15=>81|14=>246|28=>129|29=>130|20=>265|21=>266|22=>267|23=>268|24=>269|25=>270|26=>271|27=>272|46=>289|47=>192|48=>193|49=>290|50=>291|57=>300|n=>n,fun|22=>159|24=>162|25=>211|3=>3|39=>103|0=>0|53=>143|55=>145|4=>4|46=>137|45=>136|50=>106|5=>5|9=>9|66=>179|70=>183|76=>218|77=>188|n=>n,fun|n=>n⟩
theorem Tryz.sortEdge:Go.Proofs.SlLaysF0.n6 Tryz.prog Tryz.sortEdge_ren := {
 mixed:=by kernel_rfl
 f6:=⟨Tryz.f212.name,by decide,Tryz.func212.trans (congrArg some (by kernel_rfl))⟩
 f14:=⟨Tryz.f246.name,by decide,Tryz.func246.trans (congrArg some (by kernel_rfl))⟩
 f15:=Tryz.func81.trans (congrArg some (by kernel_rfl))
 f20:=⟨Tryz.f265.name,by decide,Tryz.func265.trans (congrArg some (by kernel_rfl))⟩
 f21:=⟨Tryz.f266.name,by decide,Tryz.func266.trans (congrArg some (by kernel_rfl))⟩
 f22:=⟨Tryz.f267.name,by decide,Tryz.func267.trans (congrArg some (by kernel_rfl))⟩
 f23:=⟨Tryz.f268.name,by decide,Tryz.func268.trans (congrArg some (by kernel_rfl))⟩
 f24:=⟨Tryz.f269.name,by decide,Tryz.func269.trans (congrArg some (by kernel_rfl))⟩
 f25:=⟨Tryz.f270.name,by decide,Tryz.func270.trans (congrArg some (by kernel_rfl))⟩
 f26:=⟨Tryz.f271.name,by decide,Tryz.func271.trans (congrArg some (by kernel_rfl))⟩
 f27:=⟨Tryz.f272.name,by decide,Tryz.func272.trans (congrArg some (by kernel_rfl))⟩
 f28:=Tryz.func129.trans (congrArg some (by kernel_rfl))
 f29:=Tryz.func130.trans (congrArg some (by kernel_rfl))
 f46:=⟨Tryz.f289.name,by decide,Tryz.func289.trans (congrArg some (by kernel_rfl))⟩
 f47:=Tryz.func192.trans (congrArg some (by kernel_rfl))
 f48:=Tryz.func193.trans (congrArg some (by kernel_rfl))
 f49:=⟨Tryz.f290.name,by decide,Tryz.func290.trans (congrArg some (by kernel_rfl))⟩
 f50:=⟨Tryz.f291.name,by decide,Tryz.func291.trans (congrArg some (by kernel_rfl))⟩
 f57:=⟨Tryz.f300.name,by decide,Tryz.func300.trans (congrArg some (by kernel_rfl))⟩
 t0:=Tryz.underlying0
 a0:=Tryz.isAgg0
 z0:=Tryz.sizeOf0
 v0:=Tryz.zeroValue0
 t3:=Tryz.underlying3
 a3:=Tryz.isAgg3
 z3:=Tryz.sizeOf3
 v3:=Tryz.zeroValue3
 t4:=Tryz.underlying4
 a4:=Tryz.isAgg4
 z4:=Tryz.sizeOf4
 v4:=Tryz.zeroValue4
 t5:=Tryz.underlying5
 a5:=Tryz.isAgg5
 z5:=Tryz.sizeOf5
 v5:=Tryz.zeroValue5
 t9:=Tryz.underlying9
 a9:=Tryz.isAgg9
 z9:=Tryz.sizeOf9
 v9:=Tryz.zeroValue9
 t22:=Tryz.underlying159
 a22:=Tryz.isAgg159
 z22:=Tryz.sizeOf159
 v22:=Tryz.zeroValue159
 t25:=Tryz.underlying211
 a25:=Tryz.isAgg211
 z25:=Tryz.sizeOf211
 v25:=Tryz.zeroValue211
 t39:=Tryz.underlying103
 a39:=Tryz.isAgg103
 z39:=Tryz.sizeOf103
 v39:=Tryz.zeroValue103
 t45:=Tryz.underlying136
 a45:=Tryz.isAgg136
 z45:=Tryz.sizeOf136
 v45:=Tryz.zeroValue136
 t46:=Tryz.underlying137
 a46:=Tryz.isAgg137
 z46:=Tryz.sizeOf137
 v46:=Tryz.zeroValue137
 t50:=Tryz.underlying106
 a50:=Tryz.isAgg106
 z50:=Tryz.sizeOf106
 v50:=Tryz.zeroValue106
 t53:=Tryz.underlying143
 a53:=Tryz.isAgg143
 z53:=Tryz.sizeOf143
 v53:=Tryz.zeroValue143
 t55:=Tryz.underlying145
 a55:=Tryz.isAgg145
 z55:=Tryz.sizeOf145
 v55:=Tryz.zeroValue145
 t66:=Tryz.underlying179
 a66:=Tryz.isAgg179
 z66:=Tryz.sizeOf179
 v66:=Tryz.zeroValue179
 t70:=Tryz.underlying183
 a70:=Tryz.isAgg183
 z70:=Tryz.sizeOf183
 v70:=Tryz.zeroValue183
 t76:=Tryz.underlying218
 a76:=Tryz.isAgg218
 z76:=Tryz.sizeOf218
 v76:=Tryz.zeroValue218
 t77:=Tryz.underlying188
 a77:=Tryz.isAgg188
 z77:=Tryz.sizeOf188
 v77:=Tryz.zeroValue188 }
def Tryz.cmpInt_ren:Go.Shelf.Ren:=⟨fun|5=>41|7=>82|n=>n,fun|22=>3|3=>3|4=>4|n=>n,fun|n=>n⟩
theorem Tryz.cmpInt:Go.Proofs.SlLaysC2.n5 Tryz.prog Tryz.cmpInt_ren := {
 mixed:=by kernel_rfl
 f5:=⟨Tryz.f41.name,by decide,Tryz.func41.trans (congrArg some (by kernel_rfl))⟩
 f7:=⟨Tryz.f82.name,by decide,Tryz.func82.trans (congrArg some (by kernel_rfl))⟩
 t3:=Tryz.underlying3
 a3:=Tryz.isAgg3
 z3:=Tryz.sizeOf3
 v3:=Tryz.zeroValue3
 t4:=Tryz.underlying4
 a4:=Tryz.isAgg4
 z4:=Tryz.sizeOf4
 v4:=Tryz.zeroValue4
 t22:=Tryz.underlying3
 a22:=Tryz.isAgg3
 z22:=Tryz.sizeOf3
 v22:=Tryz.zeroValue3 }
end Go.Proofs
namespace Go.Proofs.YtlcceppoloaecaaGreatDoor
open Go.RowKit Go.Shelf Go.Lib Go.Sort
theorem ltC {α:Type} (f:α->Int) (x y:α):ltOf (fun x y=>Lib.compareInt (f x) (f y)) x y=decide (f x<f y):=by
 unfold ltOf Lib.compareInt
 by_cases h1:f x<f y
 ·simp [h1]
 ·by_cases h2:f y<f x<;>simp [h1,h2]
theorem aoe {α:Type} (f:α->Int):SWO (ltOf fun x y=>Lib.compareInt (f x) (f y)) where
 irrefl x:=by rw [ltC];simp
 trans x y z h1 h2:=by rw [ltC] at *;simp at *;omega
 ntrans x y z h1 h2:=by rw [ltC] at *;simp at *;omega
def alu:Flat eF:=⟨2,fun p=>[p.a,p.b],fun _=>rfl,by omega⟩
theorem agt {cb:Array Value} (h:cb.size=([]:List AC).length):cb = #[]:=by
 apply Array.eq_empty_of_size_eq_zero
 simpa using h
theorem ags:VX Tryz.prog alu 43 [] (fun x => .agg (alu.enc x).toArray) (fun x y=>Lib.compareInt x.b y.b):=by
 intro R W cb _ hs _ x y
 obtain rfl:=agt hs
 show Calls Tryz.prog 43 #[.agg #[.int .i64 x.a, .int .i64 x.b], .agg #[.int .i64 y.a, .int .i64 y.b]] W fun e w'=>e = .returned (.int .i64 (Lib.compareInt x.b y.b)) /\ ∃ q os',w'=grow (W.drewN q) os'
 have hcon:=fun W=>AnyG.cmp_Compare_int Tryz.cmpInt x.b y.b W
 change ∀ W,Calls Tryz.prog 41 _ _ _ at hcon
 generalize Lib.compareInt x.b y.b=r at hcon ⊢
 go_enter Tryz.func43,Tryz.ntmps43
 go_wp2_with (go_at_call 41;refine (hcon _).mono ?_;rintro e w' ⟨rfl,rfl⟩)
 go_ret
 exact ⟨rfl,0,_,by rw [alloc_eq_grow,alloc_eq_grow,grow_grow];rfl⟩
def aeR (n:Nat):Type := { x:Int // 0<=x/\(x<(n:Int)\/x=0) }
instance (n : Nat) : Inhabited (aeR n) := ⟨⟨0, Int.le_refl _, .inr rfl⟩⟩
def ak6 (n:Nat):Flat (aeR n):=⟨1,fun x=>[x.1],fun _=>rfl,by omega⟩
def wZ (b:List aC) (k:Int):Int:=match b[k.toNat]? with
 | some y=>y.valid.lo
 | none=>0
theorem alP {cb:Array Value} {x:AC} (h:cb.size=[x].length) : ∃ v,cb = #[v]:=by
 obtain ⟨l⟩:=cb
 match l,h with
 | [v],_=>exact ⟨v,rfl⟩
set_option maxHeartbeats 1000000 in
theorem aad (W:World) (b0 o0 b1 o1 n c i j:Nat) (p q:Int) (hi:i<n) (hj:j<n) (hn:n<=1000) (h0:W.cell? ⟨b0,o0,none⟩=some (.slice (some ⟨b1,o1,none⟩) n c)) (h1:W.cell? ⟨b1,o1+i*3+1,none⟩=some (.int .i64 p)) (h2:W.cell? ⟨b1,o1+j*3+1,none⟩=some (.int .i64 q)) :
  Calls Tryz.prog 40 #[.int .i64 (i:Int), .int .i64 (j:Int), .pointer (some ⟨b0,o0,none⟩)] W fun e w'=>e = .returned (.int .i64 (Lib.compareInt p q)) /\ ∃ q os',w'=grow (W.drewN q) os':=by
 have hcon:=fun W=>AnyG.cmp_Compare_int Tryz.cmpInt p q W
 change ∀ W,Calls Tryz.prog 41 _ _ _ at hcon
 generalize Lib.compareInt p q=r at hcon ⊢
 go_enter Tryz.func40,Tryz.ntmps40
 go_wp2_with fail
 go_region_held3 (fun w'=>w'.cell? ⟨b0,o0,none⟩=some (.slice (some ⟨b1,o1,none⟩) n c)/\w'.cell? ⟨b1,o1+i*3+1,none⟩=some (.int .i64 p)/\w'.cell? ⟨b1,o1+j*3+1,none⟩=some (.int .i64 q))
  (first|go_keep)
  (first|(go_at_call 41;((with_reducible refine (hcon _).mono ?_);rintro e w' ⟨rfl,rfl⟩)))
 go_wp2_with fail
 go_ret
 exact ⟨rfl,1, #[],by rw [grow_empty];rfl⟩
theorem ae' {b:List aC} (h0:0<b.length) (hb:b.length<=1000):VX Tryz.prog (ak6 b.length) 40 [.ref [.lst (b.map aU)]] (ak6 b.length).one (fun x y=>Lib.compareInt (wZ b x.1) (wZ b y.1)):=by
 intro R W cb hR hs hc x y
 obtain ⟨v,rfl⟩:=alP hs
 have hv:=hc 0 v _ rfl rfl
 obtain ⟨x,hx1,hx2⟩:=x
 obtain ⟨y,hy1,hy2⟩:=y
 obtain ⟨i,rfl⟩:=Int.eq_ofNat_of_zero_le hx1
 obtain ⟨j,rfl⟩:=Int.eq_ofNat_of_zero_le hy1
 have hxl:i<b.length:=by omega
 have hyl:j<b.length:=by omega
 cases hv with
 | ref b0 o0 _ cv hr he =>
  have hcell0:=hR _ _ _ (hr 0 (by simp))
  rw [Nat.add_zero] at hcell0
  have hp:=he 0 _ rfl
  generalize cv 0=sv at hcell0 hp
  cases hp with
  | lst a n c _ k cw b1 o1 hn hnc hk ha hr2 he2 =>
   have hk3:k=3:=by
    have:=hk (aU b[i]) (aqz.2 ⟨_,List.getElem_mem hxl,rfl⟩)
    rw [<- this];rfl
   subst hk3
   have hn':b.length=n:=by simpa using hn
   subst hn'
   obtain rfl:=ha h0
   have cell : ∀ (i:Nat) (hi:i<b.length),W.cell? ⟨b1,o1+i*3+1,none⟩=some (.int .i64 b[i].valid.lo):=fun i hi=>by
    have h1:=hR _ _ _ (hr2 (i*3+1) (by omega))
    have h2:=he2 i (aU b[i]) 1 (.int .i64 b[i].valid.lo) (by rw [aql,ap9 hi];rfl) rfl
    cases h3:cw (i*3+1)<;>rw [h3] at h2 h1<;>cases h2
    rw [Nat.add_assoc];exact h1
   have cx:=cell i hxl
   have cy:=cell j hyl
   have lx:wZ b (i:Int)=b[i].valid.lo:=by unfold wZ;rw [Int.toNat_natCast,ap9 hxl]
   have ly:wZ b (j:Int)=b[j].valid.lo:=by unfold wZ;rw [Int.toNat_natCast,ap9 hyl]
   show Calls Tryz.prog 40 #[.int .i64 (i:Int), .int .i64 (j:Int), .pointer (some ⟨b0,o0,none⟩)] W fun e w'=>e = .returned (.int .i64 (Lib.compareInt (wZ b (i:Int)) (wZ b (j:Int)))) /\ ∃ q os',w'=grow (W.drewN q) os'
   rw [lx,ly]
   exact aad W b0 o0 b1 o1 b.length c i j _ _ hxl hyl hb hcell0 cx cy
open Go.RowKit Go.MapKept
def an8 (f:FuncId):Bool:=Nat.beq f 248||Nat.beq f 250||Nat.beq f 252||Nat.beq f 253||Nat.beq f 274||Nat.beq f 293||Nat.beq f 292||Nat.beq f 179||Nat.beq f 244||Nat.beq f 238||Nat.beq f 254||Nat.beq f 204||Nat.beq f 242||Nat.beq f 193||Nat.beq f 276||Nat.beq f 277||Nat.beq f 295||Nat.beq f 305||Nat.beq f 241||Nat.beq f 256||Nat.beq f 257||Nat.beq f 258||Nat.beq f 259||Nat.beq f 260||Nat.beq f 261||Nat.beq f 262||Nat.beq f 263||Nat.beq f 278||Nat.beq f 279||Nat.beq f 280||Nat.beq f 264||Nat.beq f 281||Nat.beq f 282||Nat.beq f 283||Nat.beq f 284||Nat.beq f 285||Nat.beq f 286||Nat.beq f 287||Nat.beq f 288||Nat.beq f 297||Nat.beq f 298||Nat.beq f 299||Nat.beq f 92||Nat.beq f 145||Nat.beq f 54||Nat.beq f 18||Nat.beq f 52||Nat.beq f 53||Nat.beq f 99||Nat.beq f 62||Nat.beq f 58||Nat.beq f 156||Nat.beq f 39||Nat.beq f 42||Nat.beq f 212||Nat.beq f 80||Nat.beq f 121||Nat.beq f 122||Nat.beq f 123||Nat.beq f 124||Nat.beq f 125||Nat.beq f 126||Nat.beq f 127||Nat.beq f 128||Nat.beq f 191||Nat.beq f 194||Nat.beq f 195||Nat.beq f 83||Nat.beq f 131||Nat.beq f 132||Nat.beq f 133||Nat.beq f 134||Nat.beq f 135||Nat.beq f 136||Nat.beq f 137||Nat.beq f 138||Nat.beq f 196||Nat.beq f 197||Nat.beq f 198||Nat.beq f 246||Nat.beq f 265||Nat.beq f 266||Nat.beq f 267||Nat.beq f 268||Nat.beq f 269||Nat.beq f 270||Nat.beq f 271||Nat.beq f 272||Nat.beq f 289||Nat.beq f 290||Nat.beq f 291
def anP (f:FuncId) (d:Nat):Bool:=Nat.beq f 74||Nat.beq f 207||Nat.beq f 237||Nat.beq f 250||Nat.beq f 252||Nat.beq f 100||Nat.beq f 60||Nat.beq f 12||Nat.beq f 156||Nat.beq f 62||(Nat.beq f 202&&Nat.beq d 41)||(Nat.beq f 202&&Nat.beq d 42)
def anN (f:FuncId) (id:Nat):List Nat :=
 if (Nat.beq f 12&&Nat.beq id 8)=true then [3] else
 if (Nat.beq f 35&&Nat.beq id 1)=true then [3] else
 if (Nat.beq f 74&&Nat.beq id 18)=true then [5] else
 if (Nat.beq f 52&&Nat.beq id 4)=true then [4,5,9] else
 []
def an6 (f:FuncId) (id:Nat):Bool × Bool :=
 (false,true)
def fzT (f:FuncId) (id:Nat):List Nat :=
 if (Nat.beq f 52&&Nat.beq id 4)=true then [4,5,9] else
 []
def swT (f:FuncId) (id:Nat):Option (Nat × List Nat) :=
 if (Nat.beq f 52&&Nat.beq id 4)=true then some (12,[10,11]) else
 none
def anA (f:FuncId):Bool:=Nat.beq f 183||Nat.beq f 4||Nat.beq f 6||Nat.beq f 9
def We:TI := { tab with owns:=an8 }
theorem aj:TIok Tryz.prog We:=⟨tab_ok.size,tab_ok.agg,tab_ok.elem,tab_ok.field,tab_ok.zero,tab_ok.bytes,tab_ok.kind,tab_ok.struct,tab_ok.zok,tab_ok.eqs⟩
def aes:FuncId->List PV->Option CV:=fun _ _=>none
noncomputable def cx:Cx := { P:=Tryz.prog,ti:=We,xs:=⟨293,292⟩,row:=anP,frz:=anN,flg:=an6,orc:=aes,bad:=anA,fz:=fzT,sw:=swT }
theorem acN:agl Tryz.prog 293:=⟨_,Tryz.func293,by kernel_rfl,by kernel_rfl,by kernel_rfl,by kernel_rfl⟩
theorem ac3:amt Tryz.prog 292:=⟨_,Tryz.func292,by kernel_rfl,by kernel_rfl,by kernel_rfl,by kernel_rfl⟩
theorem Gu:Ei Tryz.prog.funcs.toList=true:=by kernel_rfl
theorem PQ:BA cx Tryz.prog.funcs.toList 0=true:=by kernel_rfl
theorem Hd:Jo cx:=Jo.of aj ⟨acN,ac3⟩ mixed Gu PQ (fun g ps r h=>by cases h)
open Go.RowKit Go.MapKept
inductive Step (σ ρ:Type) where
 | next (s:σ)
 | exit (s:σ)
 | ret (r:ρ)
def az {σ ρ:Type} (body:σ->Option (Step σ ρ)):Nat->σ->Option (Sum σ ρ)
 | 0,_=>none
 | n+1,s=>match body s with
  | none=>none
  | some (.next s')=>az body n s'
  | some (.exit s')=>some (.inl s')
  | some (.ret r)=>some (.inr r)
def fuel:Nat:=4611686018427387904
def aT {α:Type} (l:List α) (i:Int):Option α:=if 0<=i then l[i.toNat]? else none
def l6 {α:Type} (l:List α) (a b:Int):Option (List α):=if 0<=a/\a<=b/\b<=(l.length:Nat) then some ((l.take b.toNat).drop a.toNat) else none
theorem bd_ {α β:Type} {x:Option α} {f:α->Option β} {r:β} (h:x.bind f=some r) : ∃ a,x=some a/\f a=some r:=by
 cases x with
 | none=>cases h
 | some a=>exact ⟨a,rfl,h⟩
theorem nW {α:Type} {l:List α} {i:Int} {x:α} (h:aT l i=some x):0<=i/\l[i.toNat]?=some x:=by
 unfold aT at h
 by_cases h0:0<=i
 ·rw [if_pos h0] at h;exact ⟨h0,h⟩
 ·rw [if_neg h0] at h;cases h
theorem gT {α:Type} {l r:List α} {a b:Int} (h:l6 l a b=some r):(0<=a/\a<=b/\b<=(l.length:Nat))/\r=(l.take b.toNat).drop a.toNat:=by
 unfold l6 at h
 by_cases h0:0<=a/\a<=b/\b<=(l.length:Nat)
 ·rw [if_pos h0] at h;exact ⟨h0,(aqw h).symm⟩
 ·rw [if_neg h0] at h;cases h
theorem lJ {c:Bool} {β:Type} {x:Option β} {r:β} (h:(bif c then x else none)=some r):c=true/\x=some r:=by
 cases c with
 | true=>exact ⟨rfl,h⟩
 | false=>cases h
theorem ak1 {α:Type} {l:List α} {f:α->List AC} {i:Int} {x:α} (h:l[i.toNat]?=some x):(l.map f)[i.toNat]?=some (f x):=by rw [aql,h];rfl
theorem aF {α:Type} {f:α->List AC} {k:Nat} (hf : ∀ x,(f x).length=k) (l:List α) : ∀ e∈l.map f,e.length=k:=by
 intro e he;simp only [aqz] at he;obtain ⟨x,_,rfl⟩:=he;exact hf x
section
variable {P:Program} {ti:TI} {N n0:Nat} {Q:AX->Tm->List Ob->Prop} {T:Tm} {L:List Ob}
@[reducible] def After {σ ρ γ:Type} (K:Sum σ ρ->Option γ) (r:γ):Step σ ρ->Prop
 | .next _=>True
 | .exit s=>K (.inl s)=some r
 | .ret q=>K (.inr q)=some r
theorem alM_ {σ ρ γ:Type} {c:Code} {body:σ->Option (Step σ ρ)} {K:Sum σ ρ->Option γ} {r:γ} {s0:σ} (TT:σ->Tm) (LL:σ->List Ob) (h:(az body fuel s0).bind K=some r) (hn1 : ∀ s,n0<=(LL s).length) (hf:Fits T L (TT s0) (LL s0))
  (round : ∀ s st,body s=some st->After K r st->Aw P N n0 c (AX.then (fun T' L' => ∃ s',st = .next s'/\Fits T' L' (TT s') (LL s')) Q) (TT s) (LL s)):Aw P N n0 (.loop c) Q T L:=by
 refine eH (fun s:Nat × σ=>TT s.2) (fun s=>LL s.2) (fun s=>(az body s.1 s.2).bind K=some r) (fun s=>s.1) (fuel,s0) h (fun s _=>hn1 s.2) hf ?_
 rintro ⟨n,s⟩ hok
 dsimp only at hok ⊢
 cases n with
 | zero=>cases hok
 | succ n =>
  rw [az] at hok
  cases hb:body s with
  | none=>rw [hb] at hok;cases hok
  | some st =>
   rw [hb] at hok
   refine Aw.mono (round s st hb ?_) ?_
   ·cases st with
    | next s'=>trivial
    | exit s'=>exact hok
    | ret q=>exact hok
   ·intro x T' L' hq
    cases x with
    | normal =>
     obtain ⟨s',rfl,hfit⟩:=hq
     exact ⟨(n,s'),hok,Nat.lt_succ_self n,hfit⟩
    | exit id=>exact hq
    | ret=>exact hq
end
def mnI (a b:Int):Int:=if b<a then b else a
def PW (a b:Int):Int:=if b > a then b else a
theorem mn_norm (a b:Int):(if false=true then (if b > a then b else a) else (if b<a then b else a))=mnI a b:=rfl
theorem mx_norm (a b:Int):(if true=true then (if b > a then b else a) else (if b<a then b else a))=PW a b:=rfl
theorem K4 {α:Type} {f:α->List AC} {l r:List α} {a b:Int} (h:r=(l.take b.toNat).drop a.toNat):((l.map f).take b.toNat).drop a.toNat=r.map f:=by rw [h, <- List.map_take, <- List.map_drop]
def ag2 (n:Nat):SV->Bool
 | .c _=>true
 | .emp=>true
 | .own _ t=>Nat.blt t n
 | .ptr id _=>Nat.blt id n
 | _=>false
def Z6 (n:Nat):List SV->Bool
 | []=>true
 | x::l=>and (ag2 n x) (Z6 n l)
theorem afa {n:Nat} {x:SV} (h:ag2 n x=true):x.below n:=by
 cases x with
 | c _=>trivial
 | emp=>trivial
 | own _ t=>exact ap_ h
 | ptr id _=>exact ap_ h
 | sl=>cases h
 | ep=>cases h
 | mp=>cases h
 | clo=>cases h
theorem lL {n:Nat} : ∀ {cs:List SV}, Z6 n cs=true->(Ob.box cs).below n
 | [],_=>fun x hx=>by cases hx
 | c::cs,h=>fun x hx=>by
  rw [Z6,aqg] at h
  rcases aqf.1 hx with rfl|hx
  ·exact afa h.1
  ·exact lL h.2 x hx
section
variable {P:Program} {ti:TI} {N n0:Nat} {ds:List (Option Tmp)} {K:Tm->List Ob->Prop} {rest:List Oper} {o:Oper} {T:Tm} {L:List Ob}
theorem nX {b:Bool} (h:b=true):(b==true)=true:=by rw [h];rfl
theorem oh {b:Bool} (h:b=false):(b==false)=true:=by rw [h];rfl
theorem aiu {b:Bool} (h:b=false):(b==true)=false:=by rw [h];rfl
theorem agB {b:Bool} (h:b=true):(b==false)=false:=by rw [h];rfl
theorem pz {e:Bool} (h:e=false):(!e)=true:=by rw [h];rfl
theorem o8 {e:Bool} (h:e=true):(!e)=false:=by rw [h];rfl
def ame:Op->Bool
 | .pick _ _ _=>true
 | _=>false
theorem p_ {v:AV} {φ:Prop} {d:Nat} (_:ame o.op=false) (hd:o.dst=some d) (hN:Nat.blt d N=true) {g0:Bool} (hg:kH ds T o.guard=some g0) (hp:pop ti (look T) L o.op=some (v,φ)) (h:aX P ti N ds K rest ((d,v)::T) L)
  (hφ:φ:=by repeat' (first|exact trivial|rfl|exact ap_ rfl|omega|assumption|exact aF (by intro _;rfl) _|exact aF Ui _|(intro e he;simp at he;subst he;rfl)|(simp only [aqa];omega)|apply And.intro)) (hg1:g0=true:=by first|rfl|exact nX (by first|assumption|exact pz (by assumption))|exact oh (by first|assumption|exact o8 (by assumption))):aX P ti N ds K (o::rest) T L:=aM hd hN (hg1▸hg) hp hφ h
theorem l_ {v:AV} {L':List Ob} {φ:Prop} {d:Nat} (hd:o.dst=some d) (hN:Nat.blt d N=true) {g0:Bool} (hg:kH ds T o.guard=some g0) (hp:K9 ti (look T) L o.op=some (v,L',φ)) (h:aX P ti N ds K rest ((d,v)::T) L')
  (hφ:φ:=by repeat' (first|exact trivial|rfl|exact ap_ rfl|omega|exact aF (by intro _;rfl) _|exact aF Ui _|(intro e he;simp at he;subst he;rfl)|exact aqa _|(simp only [aqa,ap8,aqk,aqu,aqH]<;>omega)|apply And.intro)) (hg1:g0=true:=by first|rfl|exact nX (by first|assumption|exact pz (by assumption))|exact oh (by first|assumption|exact o8 (by assumption))):aX P ti N ds K (o::rest) T L:=aN hd hN (hg1▸hg) hp hφ h
theorem s_ {v:AV} {L':List Ob} {φ:Prop} (hd:o.dst=none) {g0:Bool} (hg:kH ds T o.guard=some g0) (hp:K9 ti (look T) L o.op=some (v,L',φ)) (h:aX P ti N ds K rest T L') (hφ:φ:=by repeat' (first|exact trivial|rfl|exact ap_ rfl|omega|apply And.intro)) (hg1:g0=true:=by first|rfl|exact nX (by first|assumption|exact pz (by assumption))|exact oh (by first|assumption|exact o8 (by assumption))):aX P ti N ds K (o::rest) T L:=sS_ hd (hg1▸hg) hp hφ h
theorem t_ {v:AV} {φ:Prop} {d:Nat} (hd:o.dst=some d) (hN:Nat.blt d N=true) {g0:Bool} (hg:kH ds T o.guard=some g0) (hp:DU ti (look T) o.op=some (v,φ)) (h:aX P ti N ds K rest ((d,v)::T) L)
  (hφ:φ:=by repeat' (first|exact trivial|rfl|exact ap_ rfl|omega|(intro e he;simp at he;subst he;rfl)|(intro e he;simp at he;rcases he with rfl|rfl<;>rfl)|(intro e he;simp at he;rcases he with rfl|rfl|rfl<;>rfl)|(intro e he;simp at he;rcases he with rfl|rfl|rfl|rfl<;>rfl)|apply And.intro)) (hg1:g0=true:=by first|rfl|exact nX (by first|assumption|exact pz (by assumption))|exact oh (by first|assumption|exact o8 (by assumption))):aX P ti N ds K (o::rest) T L:=aO hd hN (hg1▸hg) hp hφ h
theorem c_ {g:FuncId} {ps:List PV} {r:CV} {d:Nat} {v:AV} (hd:o.dst=some d) (hN:Nat.blt d N=true) {g0:Bool} (hg:kH ds T o.guard=some g0) (hp:zA (look T) o.op=some (g,ps)) (h:aX P ti N ds K rest ((d,v)::T) L) (hc:Pure P g ps r:=by assumption) (hv:r.av=v:=by rfl) (hg1:g0=true:=by first|rfl|exact nX (by first|assumption|exact pz (by assumption))|exact oh (by first|assumption|exact o8 (by assumption))):aX P ti N ds K (o::rest) T L:=aZ hd hN (hg1▸hg) hp hc hv h
theorem x_ {t:TypeId} {x ix:Operand} {vx:AV} {es:List (List AC)} {k0:IntKind} {i:Int} {k d:Nat} {e:List AC} (hd:o.dst=some d) (hN:Nat.blt d N=true) {g0:Bool} (hg:kH ds T o.guard=some g0) (ho:o.op = .indexAddr t x ix) (hx:look T x=some vx) (hl:gH vx=some es) (hi:look T ix=some (.one (.c (.int k0 i))))
  (hk:(ti.elem t).bind ti.size=some k) (h:aX P ti N ds K rest ((d, .one (.c (.ref e)))::T) L) (he:es[i.toNat]?=some e:=by assumption) (h0:0<=i:=by assumption) (hl2:e.length=k:=by rfl) (hg1:g0=true:=by first|rfl|exact nX (by first|assumption|exact pz (by assumption))|exact oh (by first|assumption|exact o8 (by assumption))):aX P ti N ds K (o::rest) T L:=dm hd hN (hg1▸hg) ho hx hl hi hk he ⟨h0,hl2⟩ h
theorem pick_t {c a b:Operand} {e:Bool} {va vb:AV} {d:Nat} (hd:o.dst=some d) (hN:Nat.blt d N=true) {g0:Bool} (hg:kH ds T o.guard=some g0) (ho:o.op = .pick c a b) (hc:look T c=some (.one (.c (.bool e)))) (ha:look T a=some va) (hb:look T b=some vb) (h:aX P ti N ds K rest ((d,va)::T) L)
  (he:e=true:=by first|rfl|assumption|exact pz (by assumption)) (hg1:g0=true:=by first|rfl|exact nX (by first|assumption|exact pz (by assumption))|exact oh (by first|assumption|exact o8 (by assumption))):aX P ti N ds K (o::rest) T L:=aM hd hN (hg1▸hg) (by rw [ho];simp only [pop,hc,ha,hb];rw [if_pos he]) trivial h
theorem pick_f {c a b:Operand} {e:Bool} {va vb:AV} {d:Nat} (hd:o.dst=some d) (hN:Nat.blt d N=true) {g0:Bool} (hg:kH ds T o.guard=some g0) (ho:o.op = .pick c a b) (hc:look T c=some (.one (.c (.bool e)))) (ha:look T a=some va) (hb:look T b=some vb) (h:aX P ti N ds K rest ((d,vb)::T) L)
  (he:e=false:=by first|rfl|assumption|exact o8 (by assumption)) (hg1:g0=true:=by first|rfl|exact nX (by first|assumption|exact pz (by assumption))|exact oh (by first|assumption|exact o8 (by assumption))):aX P ti N ds K (o::rest) T L:=aM hd hN (hg1▸hg) (by rw [ho];simp only [pop,hc,ha,hb];rw [if_neg (by rw [he];decide)]) trivial h
theorem k_ {d:Nat} {g0:Bool} (hd:o.dst=some d) (hN:Nat.blt d N=true) (hg:kH ds T o.guard=some g0) (h:aX P ti N ds K rest ((d, .undef)::T) L) (hg1:g0=false:=by first|rfl|exact aiu (by first|assumption|exact o8 (by assumption))|exact agB (by first|assumption|exact pz (by assumption))):aX P ti N ds K (o::rest) T L:=aH hd hN (hg1▸hg) h
theorem k0_ {g0:Bool} (hd:o.dst=none) (hg:kH ds T o.guard=some g0) (h:aX P ti N ds K rest T L) (hg1:g0=false:=by first|rfl|exact aiu (by first|assumption|exact o8 (by assumption))|exact agB (by first|assumption|exact pz (by assumption))):aX P ti N ds K (o::rest) T L:=sk0_ hd (hg1▸hg) h
theorem aw_condT {Q:AX->Tm->List Ob->Prop} {c:Operand} {x y:Code} {b:Bool} (hc:look T c=some (.one (.c (.bool b)))) (h:Aw P N n0 x Q T L) (hb:b=true:=by first|rfl|assumption|exact pz (by assumption)):Aw P N n0 (.cond c x y) Q T L:=aG hc (fun _=>h) (fun e=>by rw [hb] at e;cases e)
theorem aw_condF {Q:AX->Tm->List Ob->Prop} {c:Operand} {x y:Code} {b:Bool} (hc:look T c=some (.one (.c (.bool b)))) (h:Aw P N n0 y Q T L) (hb:b=false:=by first|rfl|assumption|exact o8 (by assumption)):Aw P N n0 (.cond c x y) Q T L:=aG hc (fun e=>by rw [hb] at e;cases e) (fun _=>h)
end
theorem aK {p:Prop} (h:p:=by
 repeat' (first
  | refine p_ rfl rfl rfl rfl rfl ?_|refine st_nil ?_|refine x_ rfl rfl rfl rfl rfl rfl rfl rfl ?_|refine l_ rfl rfl rfl rfl ?_|refine s_ rfl rfl rfl ?_|refine t_ rfl rfl rfl rfl ?_|refine k_ rfl rfl rfl ?_|refine k0_ rfl rfl ?_|refine c_ rfl rfl rfl rfl ?_|refine pick_t rfl rfl rfl rfl rfl rfl rfl ?_|refine pick_f rfl rfl rfl rfl rfl rfl rfl ?_|refine aw_seq ?_|refine aw_region tab_ok _ rfl ?_|refine aw_drawn2 tabS_ok _ rfl mixed (by decide +kernel) ?_|refine aw_condT rfl ?_|refine aw_condF rfl ?_|refine aw_block ?_|refine aw_exit ?_|refine aw_ret ?_|refine aw_skip ?_|rw [aqa]|rw [mn_norm]|rw [mx_norm])
 refine bL (bR rfl ?_ ?_)
 ·repeat' (first|exact trivial|rfl|exact ap_ rfl|omega|apply And.intro)
 ·first|rfl|(simp only [aqb,ap',aqd,ap5]<;>rfl)):p:=h
structure Bx (q:Prop):Prop where
 out:q
theorem gs_ {p q:Prop} (k:q) (h:Bx q->p:=by
 intro hq
 first|refine p_ rfl rfl rfl rfl rfl ?_|refine st_nil ?_|refine x_ rfl rfl rfl rfl rfl rfl rfl rfl ?_|refine l_ rfl rfl rfl rfl ?_|refine s_ rfl rfl rfl ?_|refine t_ rfl rfl rfl rfl ?_|refine k_ rfl rfl rfl ?_|refine k0_ rfl rfl ?_|refine c_ rfl rfl rfl rfl ?_|refine pick_t rfl rfl rfl rfl rfl rfl rfl ?_|refine pick_f rfl rfl rfl rfl rfl rfl rfl ?_|refine aw_seq ?_|refine aw_region tab_ok _ rfl ?_|refine aw_drawn2 tabS_ok _ rfl mixed (by decide +kernel) ?_|refine aw_condT rfl ?_|refine aw_condF rfl ?_|refine aw_block ?_|refine aw_exit ?_|refine aw_ret ?_|refine aw_skip ?_|rw [aqa]|rw [mn_norm]|rw [mx_norm]
 exact hq.out):p:=h ⟨k⟩
theorem gs0_ {p q:Prop} (k:q) (h:Bx q->p:=by
 intro hq
 first|refine p_ rfl rfl rfl rfl rfl ?_|refine st_nil ?_|refine x_ rfl rfl rfl rfl rfl rfl rfl rfl ?_|refine l_ rfl rfl rfl rfl ?_|refine s_ rfl rfl rfl ?_|refine t_ rfl rfl rfl rfl ?_|refine k_ rfl rfl rfl ?_|refine k0_ rfl rfl ?_|refine c_ rfl rfl rfl rfl ?_|refine pick_t rfl rfl rfl rfl rfl rfl rfl ?_|refine pick_f rfl rfl rfl rfl rfl rfl rfl ?_|refine aw_seq ?_|refine aw_condT rfl ?_|refine aw_condF rfl ?_|refine aw_block ?_|refine aw_exit ?_|refine aw_ret ?_|refine aw_skip ?_|rw [aqa]|rw [mn_norm]|rw [mx_norm]
 exact hq.out):p:=h ⟨k⟩
theorem bz {p q:Prop} (k:q) (h:Bx q->p:=by
 intro hq
 repeat' (first
  | refine gs_ ?_)
 exact hq.out):p:=h ⟨k⟩
theorem af {β:Type} {c:Bool} {x y:Option β} {r:β} (H:(bif c then x else y)=some r):(c=true/\x=some r)\/(c=false/\y=some r):=by
 cases c with
 | true=>exact .inl ⟨rfl,H⟩
 | false=>exact .inr ⟨rfl,H⟩
theorem aS {p:Prop} [Decidable p] {β:Type} {x:Option β} {r:β} (H:(bif decide p then x else none)=some r):p/\x=some r:=by
 obtain ⟨h,k⟩:=lJ H
 exact ⟨aqs h,k⟩
theorem bn {α β:Type} {l:List α} {f:α->List AC} {i:Int} {k:α->Option β} {r:β} (H:(aT l i).bind k=some r) : ∃ x,0<=i/\l[i.toNat]?=some x/\(l.map f)[i.toNat]?=some (f x)/\k x=some r:=by
 obtain ⟨x,h,K⟩:=bd_ H
 obtain ⟨h0,h1⟩:=nW h
 exact ⟨x,h0,h1,ak1 h1,K⟩
theorem lt_ {a b:Nat} (h:Nat.blt a b=true:=by rfl):a<b:=ap_ h
theorem bY {p:Prop} (h:p:=by repeat' (first|refine ⟨?_,?_⟩|exact trivial|rfl)):p:=h
theorem jD {p:Prop} (h:p:=by repeat' (first|refine ⟨?_,?_⟩|exact trivial|rfl|(simp only [aqb,ap',aqd,ap5]<;>rfl))):p:=h
theorem bA {p:Prop} (h:p:=by repeat' (first|refine ⟨?_,?_⟩|exact trivial|exact lt_|omega)):p:=h
theorem cz {p:Prop} (h:p:=by repeat' (first|refine ⟨?_,?_⟩|exact trivial|exact lL (by rfl)|exact clo_below (ap_ rfl))):p:=h
theorem iR {p:Prop} (h:p:=by simp only [ap8,aqk,aqu,aqH,aqb,ap',aqd]<;>rfl):p:=h
theorem po_ {P : Program} {ti : TI} {N : Nat} {f : FuncId} {fn : Func} {c : Code} {args : List PV} {r : CV} (hf : P.funcs[f]? = some fn) (hN : fn.ntmps = N) {T : Tm} (h : Aw P N 0 c (fun x T L => (x = .normal \/ x = .ret) /\ Res ti fn.results.toList T L r) T []) (hti : TIok P ti := by exact tab_ok) (hb : fn.body = some c := by rfl) (hname : (fn.name == "runtime.NumGoroutine") = false := by rfl) (hlen : args.length <= N := by simp) (hT : argT 0 args = T := by simp only [argT, PV.av, ap', aqd] <;> rfl) : Pure P f args r := pa_ hti hf hb hname hN hlen (hT ▸ h)
open Go.RowKit Go.MapKept
def d_ {α σ ρ:Type} (f:σ->α->Option (Sum σ ρ)):σ->List α->Option (Sum σ ρ)
 | s,[]=>some (.inl s)
 | s,x::l=>match f s x with
  | none=>none
  | some (.inl s')=>d_ f s' l
  | some (.inr r)=>some (.inr r)
section
variable {α σ ρ S:Type} {l:List α} {body:S->Option (Step S ρ)}
def NI (mk:σ->Int->S) (n:Nat):Option (Sum σ ρ)->Option (Sum S ρ)
 | none=>none
 | some (.inl s')=>some (.inl (mk s' n))
 | some (.inr r)=>some (.inr r)
def w_ (mk:σ->Int->S) (i:Nat):Option (Sum σ ρ)->Option (Step S ρ)
 | none=>none
 | some (.inl s')=>some (.next (mk s' (i:Nat)))
 | some (.inr r)=>some (.ret r)
theorem Vs (mk:σ->Int->S) (f:σ->α->Option (Sum σ ρ)) (h1 : ∀ (s:σ) (i:Nat) x,l[i]?=some x->body (mk s i)=w_ mk (i+1) (f s x)) (h2 : ∀ s,body (mk s l.length)=some (.exit (mk s l.length))) :
  ∀ (n i:Nat) (s:σ),i<=l.length->l.length-i<n->az body n (mk s i)=NI mk l.length (d_ f s (l.drop i))
 | 0,i,s,_,h=>by omega
 | n+1,i,s,hi,hn=>by
  rw [az]
  by_cases hlt:i<l.length
  ·obtain ⟨x,hx⟩:=gol_ hlt
   have e1:=(ap0.1 hx).2
   rw [h1 s i x hx,aqv hlt,e1,d_]
   cases hf:f s x with
   | none=>rfl
   | some st=>cases st with
    | inl s'=>exact Vs mk f h1 h2 n (i+1) s' (by omega) (by omega)
    | inr r=>rfl
  ·have:i=l.length:=by omega
   subst this
   rw [h2,aqU]
   rfl
theorem dI (mk:σ->Int->S) (f:σ->α->Option (Sum σ ρ)) (h1 : ∀ (s:σ) (i:Nat) x,l[i]?=some x->body (mk s i)=w_ mk (i+1) (f s x)) (h2 : ∀ s,body (mk s l.length)=some (.exit (mk s l.length))) (hl:l.length<fuel) (s:σ) :
  az body fuel (mk s 0)=NI mk l.length (d_ f s l):=Vs mk f h1 h2 fuel 0 s (aqj _) (by omega)
end
theorem gn_ {α:Type} {l:List α} {i:Nat} {x:α} (h:l[i]?=some x):aT l (i:Int)=some x:=by
 unfold aT;rw [if_pos (by omega)];exact h
theorem bf {α:Type} {l:List α} {i:Nat} {x:α} (h:l[i]?=some x):decide ((i:Int)<(l.length:Nat))=true:=by
 have:=(ap0.1 h).1;simp;exact this
theorem lF_ (n:Nat):decide ((n:Int)<(n:Nat))=false:=by simp
theorem wrapN {i:Nat} (h:i<=4611686018427387904):IntKind.i64.wrap ((i:Int)+1)=((i+1:Nat):Int):=bF (by omega) (by omega)
end Go.Proofs.YtlcceppoloaecaaGreatDoor
