/- Parts. No condition. -/
import Derived.Test.YtdkmoemdipgikaaGreatDoorKBC
import Derived.Test.YtdkmoemdipgikaaGreatDoorKBD
import Derived.ProofKit
import Derived.OpenShut
import Derived.ChangeOld
import Derived.Deep.Slices
set_option linter.unusedSimpArgs false
set_option linter.unusedVariables false
namespace Go.Proofs.YtdkmoemdipgikaaGreatDoor
open Go.RowKit Go.MapKept
theorem Kq (l:List au)(p:au):(kM l p).map toP=St.eL (l.map toP) (toP p):=by
 unfold kM St.eL;rw[List.getLast?_map]
 cases l.getLast? with
 |none=>simp
 |some q =>
  show _=if p.lo<=q.hi then _ else _
  simp only;split
  ·rw[amJ,List.map_dropLast];show _++[(q.lo,Gk q.hi p.hi)]=_++[(q.lo,max q.hi p.hi)];rw[show Gk q.hi p.hi=max q.hi p.hi by unfold Gk;split<;>omega]
  ·simp
theorem NO (n:Int):∀ (l:List Stp) (out:List au),(nM n l out).map toP=(St.mi (l.map toS)).foldl (St.cW n) (out.map toP)
 |[],out=>rfl
 |[x],out=>by
  show(if n<=x.n then kM out ⟨x.lo,1099511627776⟩else out).map toP=if n<=x.n then _ else _
  split
  ·exact Kq _ _
  ·rfl
 |x::y::r,out=>by
  show(nM n (y::r) _).map toP=((St.mi ((y::r).map toS)).foldl (St.cW n) (if n<=x.n then _ else _));rw[NO n (y::r)];congr 1;split
  ·exact Kq _ _
  ·rfl
theorem Fg (n:Int)(l:List Stp):(nM n l []).map toP=St.B_ (l.map toS) n:=NO n l []
theorem zR (n:Int)(l:List Stp):(nM n l []).length<=l.length:=by
 have:=St.N1 (l.map toS) n;rw[<- Fg]at this;simpa using this
set_option maxRecDepth 100000
set_option maxHeartbeats 8000000
def abf (l:List ji):Option (List Stp):=bif decide (l.length<=100000)then some (ip l)else none
theorem aad {l:List ji}{r:List Stp}(H:abf l=some r):PTz 124 [.one (.lst (l.map ol))] (.val (.one (.lst (r.map dM)))):=by
 unfold abf at H;obtain⟨g,H⟩:=iD H;obtain rfl:=am3 H;exact agM l (amZ g)
def IM (l:List ji):Option (List Stp):=bif decide (l.length<=100000)then some (ip l)else none
theorem OC {l:List ji}{r:List Stp}(H:IM l=some r):PTz 135 [.one (.lst (l.map ol))] (.val (.one (.lst (r.map dM)))):=by
 unfold IM at H;obtain⟨g,H⟩:=iD H;obtain rfl:=am3 H;exact afU l (amZ g)
def uS (l:List aw):Prop:=l.length<=300 /\ ∀ f∈l,f.row.length<=1000 /\ ∀ v∈f.row,KD v
open Classical in
noncomputable def n5 (l:List aw):Option (List ar):=if uS l/\(ci l).length<=19 then some (fy l)else none
theorem Ll {l:List aw}{r:List ar}(H:n5 l=some r):PTz 152 [.one (.lst (l.map aA))] (.val (.one (.lst (r.map bp)))):=by
 unfold n5 at H;split at H
 ·rename_i h;obtain rfl:=am3 H;exact ab3 l h.1.1 h.2 h.1.2
 ·cases H
noncomputable section
def jG (x_5:ar)(r_6:(List au)):((List aw)×Int)->Option (Step ((List aw)×Int) ((List aw))):=fun s=>match s with
 |(out_7,v_8)=>bif (decide (v_8<((r_6.length:Nat):Int)))then
  (aq r_6 v_8).bind fun x_10=>bif (decide (x_5.row.length<=4398046511104))then(bif (decide (out_7.length+1<=3518437208883))then(some (.next ((out_7++[(⟨x_5.row,x_10⟩:aw)]),(IntKind.i64.wrap (v_8+(1:Int))))))else none)else none
 else
  some (.exit (out_7,v_8))
def vU (v_3:Int):Sum ((List aw)×Int) ((List aw))->Option (Step ((List aw)×Int) ((List aw)))
 |.inl (out_7,v_8)=>some (.next (out_7,(IntKind.i64.wrap (v_3+(1:Int)))))
 |.inr q=>some (.ret q)
def jC (a_f:(List au)->Option ((List au)))(r_1:(List ar)):((List aw)×Int)->Option (Step ((List aw)×Int) ((List aw))):=fun s=>match s with
 |(out_2,v_3)=>bif (decide (v_3<((r_1.length:Nat):Int)))then
  (aq r_1 v_3).bind fun x_5=>(a_f x_5.periods).bind fun r_6=>(ap (jG x_5 r_6) fuel (out_2,(0:Int))).bind (vU v_3)
 else
  some (.exit (out_2,v_3))
def mV:Sum ((List aw)×Int) ((List aw))->Option (((List aw)))
 |.inl (out_2,v_3)=>some out_2
 |.inr q=>some q
def v8 (a_l:(List aw))(a_f:(List au)->Option ((List au))):Option ((List aw)):=(n5 a_l).bind fun r_1=>(ap (jC a_f r_1) fuel ([],(0:Int))).bind (mV)
theorem ED {a_l:(List aw)}{a_f:(List au)->Option ((List au))}{r:(List aw)}{F_a_f:FuncId}{caps_a_f:List AC}(hf_a_f:∀ (y0:(List au)) (r:(List au)),a_f y0=some r->PTz F_a_f ([.one (.lst (y0.map aH))]++caps_a_f.map .one) (.val (.one (.lst (r.map aH)))))(H:v8 a_l a_f=some r):PTz 96 [.one (.lst (a_l.map aA)),.one (.fn F_a_f caps_a_f)] (.val (.one (.lst (r.map aA)))):=by
 unfold v8 at H;refine po_ Tryz.func96 Tryz.ntmps96 ?_;obtain⟨r_1,c1,H⟩:=bd_ H;replace c1:=Ll c1
 try simp only[amJ,amH,amL,amB,aN]at c1
 repeat' (first|refine gs_ ?_|fail)
 refine bK 5 3 rfl ?_;refine alM_ (fun s:(List aw)×Int=>match s with|(out_2,v_3)=>[(1,.one (.c (.fn F_a_f caps_a_f))),(5,.one (.own (out_2.map aA) 0)),(11,.one (.c (.lst (r_1.map bp)))),(12,.one (.c (.int .i64 ((r_1.length:Nat):Int)))),(13,.one (.c (.int .i64 v_3)))]) (fun s=>match s with|(out_2,v_3)=>[.spare out_2.length 3]) H (fun _=>amR _)
  (fm_ ⟨rfl,rfl,rfl,rfl,rfl,t7⟩ [] rfl ⟨t7,by show 0<1;omega,t7,t7,t7,t7⟩ ⟨t7,t7⟩) ?_
 rintro⟨out_2,v_3⟩ st3 hb3 hk3;unfold jC at hb3;dsimp only at hb3 ⊢;rcases Bool.eq_false_or_eq_true (decide (v_3<((r_1.length:Nat):Int)))with q_4|q_4
 ·rw[q_4,amy]at hb3
  obtain⟨x_5,i2,hb3⟩:=bd_ hb3;obtain⟨i2z,i2⟩:=rB i2;have i2x:=ag8 (f:=bp) i2;obtain⟨r_6,c3,hb3⟩:=bd_ hb3;replace c3:=hf_a_f _ _ c3
  try simp only[amJ,amH,amL,amB,aN]at c3
  repeat' (first|refine gs_ ?_|fail)
  refine alM_ (fun s:(List aw)×Int=>match s with|(out_7,v_8)=>[(1,.one (.c (.fn F_a_f caps_a_f))),(5,.one (.own (out_7.map aA) 0)),(7,.one (.ptr 1 0)),(11,.one (.c (.lst (r_1.map bp)))),(12,.one (.c (.int .i64 ((r_1.length:Nat):Int)))),(13,.one (.c (.int .i64 v_3))),(20,.one (.c (.lst (r_6.map aH)))),(21,.one (.c (.int .i64 ((r_6.length:Nat):Int)))),(22,.one (.c (.int .i64 v_8)))]) (fun s=>match s with|(out_7,v_8)=>[.spare out_7.length 3,.box [.c (.lst (x_5.row.map cV)),.c (.lst (x_5.periods.map aH))]]) hb3 (fun _=>amR _)
   (fm_ ⟨rfl,rfl,rfl,rfl,rfl,rfl,rfl,rfl,rfl,t7⟩ [] rfl ⟨t7,by show 0<2;omega,by show 1<2;omega,t7,t7,t7,t7,t7,t7,t7⟩ ⟨t7,d_ r5,t7⟩) ?_
  rintro⟨out_7,v_8⟩ st4 hb4 hk4;unfold jG at hb4;dsimp only at hb4 ⊢;rcases Bool.eq_false_or_eq_true (decide (v_8<((r_6.length:Nat):Int)))with q_9|q_9
  ·rw[q_9,amy]at hb4
   obtain⟨x_10,i4,hb4⟩:=bd_ hb4;obtain⟨i4z,i4⟩:=rB i4;have i4x:=ag8 (f:=aH) i4;obtain⟨g5,hb4⟩:=iD hb4;replace g5:=amZ g5;obtain⟨g6,hb4⟩:=iD hb4;replace g6:=amZ g6;obtain rfl:=am3 hb4
   repeat' (first|refine gs_ ?_|fail)
   exact⟨_,rfl,fm_ ⟨rfl,(by simp only[amJ,amH,amL,amB]<;>rfl),rfl,rfl,rfl,rfl,rfl,rfl,rfl,t7⟩ [_,_] (by simp only[amE,amS,am1,anb,amJ,amH,amL]<;>rfl) ⟨t7,by show 0<2;omega,by show 1<2;omega,t7,t7,t7,t7,t7,t7,t7⟩ ⟨t7,d_ r5,t7⟩⟩
  ·rw[q_9,amx]at hb4
   obtain rfl:=am3 hb4;have hx4:vU v_3 (.inl (out_7,v_8))=some _:=hk4;unfold vU at hx4;dsimp only at hx4;obtain rfl:=am3 hx4
   repeat' (first|refine gs_ ?_|fail)
   exact⟨_,rfl,fm_ ⟨rfl,(by simp only[amJ,amH,amL,amB]<;>rfl),rfl,rfl,rfl,t7⟩ [_] (by simp only[amE,amS,am1,anb,amJ,amH,amL]<;>rfl) ⟨t7,by show 0<1;omega,t7,t7,t7,t7⟩ ⟨t7,t7⟩⟩
 ·rw[q_4,amx]at hb3
  obtain rfl:=am3 hb3;have hx3:mV (.inl (out_2,v_3))=some _:=hk3;unfold mV at hx3;dsimp only at hx3;obtain rfl:=am3 hx3;exact bV
end
open Go.RowKit Go.Shelf Go.Lib Go.Sort
set_option linter.unusedSectionVars false
structure Flat (α:Type) where
 k:Nat
 nums:α->List Int
 len:∀ x,(nums x).length=k
 pos:0<k
namespace Flat
variable {α:Type} (F:Flat α)
def enc (x:α):List Value:=(F.nums x).map (Value.int .i64)
def tr (x:α):List SV:=(F.nums x).map fun n => .c (.int .i64 n)
theorem enc_len (x:α):(F.enc x).length=F.k:=by simp[enc,F.len]
theorem tr_len (x:α):(F.tr x).length=F.k:=by simp[tr,F.len]
theorem rep_iff {R:PH}{γ:List Gh}{L:List Ob}{x:α}{j:Nat}{t:SV}(ht:(F.tr x)[j]?=some t){u:Value}:t.rep R γ L u↔(F.enc x)[j]?=some u:=by
 unfold tr at ht;unfold enc;rw[amT]at ht ⊢
 cases hn:(F.nums x)[j]? with
 |none=>rw[hn]at ht;cases ht
 |some n =>
  rw[hn]at ht
  cases ht;constructor
  ·intro h;cases h;rfl
  ·intro h;cases h;exact .int _ _
theorem flat_get {l:List α}{i j:Nat}{x:α}(hi:l[i]?=some x)(hj:j<F.k):(l.flatMap F.enc)[i*F.k+j]?=(F.enc x)[j]?:=by
 induction l generalizing i with
 |nil=>cases hi
 |cons y l ih =>
  rw[am8]
  cases i with
  |zero =>
   cases hi;rw[Nat.zero_mul,anb,amK (by rw[F.enc_len];exact hj)]
  |succ i =>
   rw[amD (by rw[F.enc_len,Nat.succ_mul];omega),F.enc_len,show(i+1)*F.k+j-F.k=i*F.k+j by rw[Nat.succ_mul];omega];exact ih hi
theorem flat_len (l:List α):(l.flatMap F.enc).length=l.length*F.k:=by
 induction l with
 |nil=>simp
 |cons y l ih=>rw[am8,amE,ih,F.enc_len,amS,Nat.succ_mul];omega
end Flat
section
variable {P:Program} {α:Type} {F:Flat α} {B:Nat->Prop} {R:PH} {γ:List Gh} {w:World}
theorem yd {k c ver:Nat}{l:List α}{vs:Array Value}(hk:k=F.k)(hc:l.length<=c)(hs:vs.size=c*k)
  (hr:∀ (i:Nat) e (j:Nat) u x,(l.map F.tr)[i]?=some e->vs[i*k+j]?=some u->e[j]?=some x->x.rep R γ [.row ver (l.map F.tr) k] u) (j:Nat) (hj:j<l.length*k):vs[j]?=(l.flatMap F.enc)[j]?:=by
 subst hk;have h0:=F.pos;have hi:j/F.k<l.length:=Nat.div_lt_of_lt_mul (by rw[Nat.mul_comm];exact hj);have hm:j%F.k<F.k:=Nat.mod_lt _ h0;have e:=Nat.div_add_mod' j F.k;have hjs:j<vs.size:=by rw[hs];exact am9 hj (am7 _ hc)
 have h1:=amF hi;have ht:(F.tr l[j/F.k])[j%F.k]?=some ((F.tr l[j/F.k])[j%F.k]'(by rw[F.tr_len];exact hm)):=amF _;have h2:=hr (j/F.k) (F.tr l[j/F.k]) (j%F.k) vs[j] _ (by rw[amT,h1];rfl) (by rw[e];exact amV hjs) ht;rw[F.rep_iff ht]at h2;have h3:=F.flat_get h1 hm;rw[e]at h3;rw[h3,h2,amV hjs]
theorem adl {ver k b c:Nat}{pre d post d':List α}(hk:k=F.k)(hd:d'.length=d.length){W:World}(hi:Inv B R γ [.row ver ((pre++d++post).map F.tr) k] w)(hg:γ[0]?=some (.arr b c))
  (ho:W.heap.size=w.heap.size) (hos:W.os=w.os/\W.tape=w.tape/\W.output=w.output) (hne:∀ b',b'≠b->W.heap[b']?=w.heap[b']?)
  (hb:∀ vs E,w.heap[b]?=some (.cells vs E (0,0)) ->∃ vs':Array Value,W.heap[b]?=some (.cells vs' E (0,0))/\vs'.size=vs.size /\ ∀ j,j<vs.size->vs'[j]?=if pre.length*k<=j/\j<(pre.length+d.length)*k then(d'.flatMap F.enc)[j-pre.length*k]? else vs[j]?) :
  Inv B R γ [.row ver ((pre++d'++post).map F.tr) k] W/\Ext B R R w W/\Mv R R γ γ [.row ver ((pre++d++post).map F.tr) k] [.row ver ((pre++d'++post).map F.tr) k]:=by
 subst hk;have hL:([.row ver ((pre++d++post).map F.tr) F.k]:List Ob)[0]?=some (.row ver ((pre++d++post).map F.tr) F.k):=rfl;obtain⟨⟨vs,E,⟨h1,hE⟩,hsz,hr⟩,hc,hk0,hel,hR⟩:=hi.obj 0 _ _ hL hg;obtain⟨vs',g1,g2,g3⟩:=hb vs E h1;have hcell:=yd (F:=F) rfl (by simpa using hc) hsz hr;have hm:Mv R R γ γ [.row ver ((pre++d++post).map F.tr) F.k] (([.row ver ((pre++d++post).map F.tr) F.k]:List Ob).set 0 (.row ver ((pre++d'++post).map F.tr) F.k)):=by
  refine⟨PH.sub_refl _,amM _,fun t' n k hlt h=>?_,fun t' ver' es k hlt h=>?_,fun _ _ h=>h⟩
  ·obtain rfl:t'=0:=by simpa using hlt
   cases h
  ·obtain rfl:t'=0:=by simpa using hlt
   cases h;exact⟨ver,_,rfl,amM _,fun _=>⟨by simp[hd],rfl⟩⟩
 have hi':=hi.turn (R':=R) (w':=W) hL hg rfl hm hne ho (fun _ _ _=>rfl) (fun o u e=>by rw[hR o]at e;cases e) (by
  refine⟨⟨vs',E,⟨g1,hE⟩,by rw[g2,hsz],fun i e j u x he hu hx=>?_⟩,by simpa[hd]using hc,hk0,?_,hR⟩
  ·rw[amT]at he
   cases hq:(pre++d'++post)[i]? with
   |none=>rw[hq]at he;cases he
   |some y =>
    rw[hq]at he
    cases he;rw[F.rep_iff hx];have hj:j<F.k:=by rw[<- F.tr_len y];exact(amw.1 hx).1
    have hlt:i*F.k+j<vs'.size:=(anf.1 hu).1;rw[g3 _ m0]at hu;have hil:i<(pre++d'++post).length:=(amw.1 hq).1;have hbig:∀ a,i*F.k+j<a*F.k↔i<a:=fun a=>⟨fun h=>by
      rcases Nat.lt_or_ge i a with h'|h'
      ·exact h'
      ·have:=am7 F.k h';omega,fun h=>by
      have:=am7 F.k (show i+1<=a from h);rw[Nat.succ_mul]at this;omega⟩
    by_cases hin:pre.length*F.k<=i*F.k+j/\i*F.k+j<(pre.length+d.length)*F.k
    ·rw[if_pos hin]at hu
     have a1:¬ i<pre.length:=fun h=>by have:=(hbig _).2 h;omega
     have a2:=(hbig _).1 hin.2;have hq':d'[i-pre.length]?=some y:=by
      rw[amX,amD m0,amK m0]at hq;exact hq
     have:=F.flat_get hq' hj;rw[<- this,<- hu];congr 1;rw[Nat.sub_mul];have:=am7 F.k (show pre.length<=i by omega);omega
    ·rw[if_neg hin]at hu
     have hq':(pre++d++post)[i]?=some y:=by
      by_cases a1:i<pre.length
      ·rw[amX,amK a1]at hq ⊢;exact hq
      ·have a2:¬ i<pre.length+d.length:=fun h=>hin ⟨by have:=am7 F.k (show pre.length<=i by omega);omega,(hbig _).2 h⟩
       rw[amD (by simp[hd];omega)]at hq;rw[amD m8,<- hq];simp[hd]
     have hil':i<(pre++d++post).length:=(amw.1 hq').1;rw[hcell _ ((hbig _).2 hil'),F.flat_get hq' hj]at hu;exact hu
  ·intro e he
   obtain⟨y,_,rfl⟩:=am6.1 he;exact F.tr_len y)
 refine⟨hi',⟨⟨hos.1,hos.2.1,hos.2.2,m0,fun b' hb'=>hne b' fun e=>(hi.new 0 _ b hg rfl).1 (by rw[<- e];exact hb')⟩,PH.sub_refl _,fun _ _ _=>rfl⟩,hm⟩
end
section
variable {P:Program} {ρ:Ren} {α:Type} [Inhabited α] {F:Flat α}
theorem A5 (l:List α)(j:Nat)(hj:j<l.length*F.k):(flatK F.enc F.k l.toArray)[j]?=(l.flatMap F.enc)[j]?:=by
 have hk0:=F.pos;have hi:j/F.k<l.length:=Nat.div_lt_of_lt_mul (by rw[Nat.mul_comm];exact hj);have hr:j%F.k<F.k:=Nat.mod_lt _ hk0;have h1:=F.flat_get (amF hi) hr;rw[Nat.div_add_mod' j F.k]at h1;rw[h1];have hs:j<(flatK F.enc F.k l.toArray).size:=by simp;exact hj
 rw[amV hs,<- getElem!_pos _ j hs,get_flatK _ _ _ _ (by simpa using hj)];have h2:l.toArray[j/F.k]! =l[j/F.k]:=by simp[hi]
 rw[h2,amF (by rw[F.enc_len];exact hr)];simp[F.enc_len,hr]
def afG (P:Program)(F:Flat α)(g:Nat)(cs:List AC)(arg:α->Value)(cf:α->α->Int):Prop :=
 ∀ (R:PH) (W:World) (cb:Array Value),(∀ b o u,R b o=some u->W.cell? ⟨b,o,none⟩=some u)->cb.size=cs.length->(∀ (j:Nat) v x,cb[j]?=some v->cs[j]?=some x->bg R v x) ->
  ∀ x y,Calls P g (#[arg x,arg y]++cb) W fun e w'=>e = .returned (.int .i64 (cf x y)) /\ ∃ q os',w'=grow (W.drewN q) os'
def bE (cf:α->α->Int)(d:List α):List α:=(pdq (ltOf cf) d.toArray 0 d.toArray.size (Lib.bitLen d.toArray.size) true true).toList
theorem uC {cf:α->α->Int}(hO:SWO (ltOf cf))(d:List α):(bE cf d).Perm d:=by
 have h:=(pdq_sorts (ltOf cf) hO d.toArray 0 d.toArray.size (Lib.bitLen d.toArray.size) true true (amR _) (amM _) (Or.inl rfl)).1;obtain⟨p1,_,p2⟩:=h;unfold bE;generalize pdq (ltOf cf) d.toArray 0 d.toArray.size (Lib.bitLen d.toArray.size) true true=d' at p1 p2 ⊢;have p1':d'.toList.length=d.length:=by simpa using p1
 have a1:(d'.extract 0 d.toArray.size).toList=d'.toList:=by simp[<- p1']
 have a2:(d.toArray.extract 0 d.toArray.size).toList=d:=by simp
 rw[a1,a2]at p2;exact p2
theorem e_ {cf:α->α->Int}(hO:SWO (ltOf cf))(d:List α):(bE cf d).length=d.length:=(uC hO d).length_eq
theorem JM {cf:α->α->Int}(hO:SWO (ltOf cf))(d:List α):(bE cf d).Pairwise fun x y =>¬ cf y x<0:=by
 have h:=(pdq_sorts (ltOf cf) hO d.toArray 0 d.toArray.size (Lib.bitLen d.toArray.size) true true (amR _) (amM _) (Or.inl rfl));have hl:=e_ hO d;obtain⟨_,hs⟩:=h;unfold bE at hl ⊢;generalize pdq (ltOf cf) d.toArray 0 d.toArray.size (Lib.bitLen d.toArray.size) true true=d' at hs hl ⊢;rw[List.pairwise_iff_getElem];intro i j hi hj hij;have:=hs i j (amR _) hij (by rw[hl]at hj;simpa using hj);unfold ltOf at this;have h2:=of_decide_eq_false this;have hi':i<d'.size:=by simpa using hi
 have hj':j<d'.size:=by simpa using hj
 rw[getElem!_pos d' i hi',getElem!_pos d' j hj']at h2;simpa using h2
theorem II {B:Nat->Prop}{R:PH}{γ:List Gh}{w:World}{ver b c n0:Nat}{pre d post d':List α}(hd:d'.length=d.length)(hi:Inv B R γ [.row ver ((pre++d++post).map F.tr) F.k] w)(hg:γ[0]?=some (.arr b c))(cells:Array Value)(hcs:cells.size=d.length*F.k)
  (hce:∀ j,j<d.length*F.k->cells[j]?=(d'.flatMap F.enc)[j]?) (os:Array Obj) :
  Inv B R γ [.row ver ((pre++d'++post).map F.tr) F.k] (grow (putRow id (Sort.ahead w n0) b (pre.length*F.k) cells) os)/\Ext B R R w (grow (putRow id (Sort.ahead w n0) b (pre.length*F.k) cells) os) /\
   Mv R R γ γ [.row ver ((pre++d++post).map F.tr) F.k] [.row ver ((pre++d'++post).map F.tr) F.k]:=by
 obtain⟨i1,e1,m1⟩:=adl (F:=F) (d':=d') (W:=putRow id (Sort.ahead w n0) b (pre.length*F.k) cells) rfl hd hi hg (by simp[putRow,mapBlock,Sort.ahead]) ⟨rfl,rfl,rfl⟩
  (fun b' hb'=>by simp[putRow,mapBlock,Sort.ahead,Array.getElem?_modify,Ne.symm hb'])
  (fun vs E hv=>⟨putCells id (pre.length*F.k) cells vs,by simp[putRow,mapBlock,Sort.ahead,Array.getElem?_modify,hv,onCells],by simp[putCells],fun j hj=>by
   have hx:(putCells id (pre.length*F.k) cells vs)[j]?=some (if pre.length*F.k<=j/\j<pre.length*F.k+cells.size then cells[j-pre.length*F.k]! else vs[j]):=by
    simp[putCells,hj]
   rw[hx,hcs,Nat.add_mul];by_cases h:pre.length*F.k<=j/\j<pre.length*F.k+d.length*F.k
   ·rw[if_pos h,if_pos h,<- hce _ m0]
    have:j-pre.length*F.k<cells.size:=m0
    rw[getElem!_pos cells _ this,amV this]
   ·rw[if_neg h,if_neg h,amV hj]⟩)
 have e2:Ext (· <(putRow id (Sort.ahead w n0) b (pre.length*F.k) cells).heap.size) R R (putRow id (Sort.ahead w n0) b (pre.length*F.k) cells) (grow (putRow id (Sort.ahead w n0) b (pre.length*F.k) cells) os) :=
  ⟨⟨rfl,rfl,rfl,m5,fun b' hb'=>heap_grow_old _ _ hb'⟩,PH.sub_refl _,fun _ _ _=>rfl⟩
 obtain⟨i2,e3⟩:=i1.later e2 (fun b' o u h=>by
  have:=i1.val b' o u h;rw[cell?_grow _ _ _ (lt_of_cell this)];exact this)
 exact⟨i2,e1.trans e3,m1⟩
theorem ac3 {B:Nat->Prop}{R:PH}{γ:List Gh}{w:World}{ver b c:Nat}{pre d post:List α}(hi:Inv B R γ [.row ver ((pre++d++post).map F.tr) F.k] w)(hg:γ[0]?=some (.arr b c))(cells:Array Value)(hcs:cells.size=d.length*F.k)
  (hce:∀ j,j<d.length*F.k->cells[j]?=(d.flatMap F.enc)[j]?):Holds id w b (pre.length*F.k) cells/\b<w.heap.size/\(∀ o,R b o=none):=by
 obtain⟨⟨vs,E,⟨h1,hE⟩,hsz,hr⟩,hc,hk0,hel,hR⟩:=hi.obj 0 _ _ rfl hg;have hcell:=yd (F:=F) rfl (by simpa using hc) hsz hr;refine⟨fun j hj=>?_,(anf.1 h1).1,hR⟩;have hlt:pre.length*F.k+j<(pre++d++post).length*F.k:=by
  simp only[amE,Nat.add_mul];omega
 refine⟨?_,by simp[World.frozen?,h1]⟩;rw[cob_ h1,hcell _ hlt,amX,List.flatMap_append,amD (by rw[F.flat_len];omega),F.flat_len,List.flatMap_append,amK (by rw[F.flat_len];omega),show pre.length*F.k+j-pre.length*F.k=j by omega,<- hce j m0,amV hj,getElem!_pos cells j hj];rfl
theorem ah1 {B:Nat->Prop}{R:PH}{γ:List Gh}{w:World}{ver:Nat}{pre d post:List α}{v:Value}(hi:Inv B R γ [.row ver ((pre++d++post).map F.tr) F.k] w)
  (hv:(SV.sl 0 ver pre.length d.length).rep R γ [.row ver ((pre++d++post).map F.tr) F.k] v) :
  (∃ a c,v = .slice a 0 c/\d=[]) \/ ∃ b c c',γ[0]?=some (.arr b c)/\v = .slice (some ⟨b,pre.length*F.k,none⟩) d.length c':=by
 obtain⟨_,_,h⟩:=hv;obtain⟨_,h⟩:=h ver _ _ rfl;obtain⟨hle,g,hg,hs⟩:=h rfl
 cases g with
 |none=>obtain⟨⟨a,rfl,_⟩,hn,_⟩:=hs;exact .inl ⟨a,0,rfl,amW hn⟩
 |box b=>exact absurd hs id
 |arr b c =>
  rcases hs with rfl|⟨_,hn,a,rfl⟩
  ·exact .inr ⟨b,c,_,hg,rfl⟩
  ·exact .inl ⟨a,0,rfl,amW hn⟩
theorem aaM (L:SlLaysF0.n6 P ρ)(aE:∀ w,(isAgg (ρ.t 24)).run P w = .ok true w)(zE:∀ w,(Go.sizeOf (ρ.t 24)).run P w = .ok F.k w)(cf:α->α->Int)(hO:SWO (ltOf cf))(g:Nat)(cs:List AC){pre d post:List α}
  (eg : ∀ args w, (callFunc g args).run P w = .ok (.enter g args) w) (hcmp : d ≠ [] -> afG P F g cs (fun x => .agg (F.enc x).toArray) cf) (hf : ∃ fn, P.funcs[ρ.f 6]? = some fn /\ fn.body.isSome = true /\ (fn.name == "runtime.NumGoroutine") = false)
  (ver lo n:Nat) (hlo:pre.length=lo) (hn:d.length=n) (hsz:n<4611686018427387904) :
  Run P (ρ.f 6) [.row ver ((pre++d++post).map F.tr) F.k] [.one (.sl 0 ver lo n),.one (.c (.fn g cs))] [.row ver ((pre++bE cf d++post).map F.tr) F.k] (.tup []):=by
 subst hlo hn;refine⟨hf,fun B R γ w vs hi hs hv=>?_⟩;have hs2:vs.size=2:=hs;have hv0:=hv 0 vs[0] _ (amV m0) rfl;have hv1:=hv 1 vs[1] _ (amV m0) rfl;have evs:vs=#[vs[0],vs[1]]:=by
  apply Array.ext
  ·simp[hs2]
  ·intro i h1 h2
   have:i=0\/i=1:=m0
   rcases this with rfl|rfl<;>rfl
 generalize vs[0]=v0 at hv0 evs;generalize vs[1]=v1 at hv1 evs;subst evs;have hend:∀ (cb:Value) W,Inv B R γ [.row ver ((pre++bE cf d++post).map F.tr) F.k] W->Ext B R R w W->Mv R R γ γ [.row ver ((pre++d++post).map F.tr) F.k] [.row ver ((pre++bE cf d++post).map F.tr) F.k] ->
   ∃ v R' γ',Ending.returned (.tuple #[]) = .returned v/\Inv B R' γ' [.row ver ((pre++bE cf d++post).map F.tr) F.k] W/\Ext B R R' w W/\Mv R R' γ γ' [.row ver ((pre++d++post).map F.tr) F.k] [.row ver ((pre++bE cf d++post).map F.tr) F.k]/\(AV.tup []).rep R' γ' [.row ver ((pre++bE cf d++post).map F.tr) F.k] v :=
  fun _ W h1 h2 h3=>⟨_,R,γ,rfl,h1,h2,h3,#[],rfl,rfl,fun j u p hu _=>by simp at hu⟩
 rcases ah1 hi hv0 with⟨a,c,rfl,hd⟩|⟨b,c,c',hg,rfl⟩
 ·subst hd
  refine(AnyF.slices_SortFunc_none { L with } a c v1 w).mono fun e w' ⟨he,hw⟩=>?_
  subst he hw;have hnil:bE cf ([]:List α)=[]:=amW (e_ hO []);exact hend v1 w' (by rw[hnil];exact hi) (Ext.refl _ _ _) (by rw[hnil];exact Mv.refl)
 ·cases hv1 with
  |fn _ cb _ hcs hce =>
   by_cases hne:d=[]
   ·subst hne
    refine(AnyF.slices_SortFunc_none { L with } _ _ _ w).mono fun e w' ⟨he,hw⟩=>?_
    subst he hw;have hnil:bE cf ([]:List α)=[]:=amW (e_ hO []);exact hend (.int .i64 0) w' (by rw[hnil];exact hi) (Ext.refl _ _ _) (by rw[hnil];exact Mv.refl)
   obtain⟨hH,hb,hR⟩:=ac3 (F:=F) hi hg (flatK F.enc F.k d.toArray) m5 (fun j hj=>A5 d j hj);have hcon:=AnyQ.slices_SortFunc_eq L F.k aE zE F.enc F.enc_len (fun x v hv=>by simp only[Flat.enc,am6]at hv;obtain⟨_,_,rfl⟩:=hv;rfl) cf hO g cb b (pre.length*F.k) c' d.toArray w eg
    (fun m os dk hds x y=>hcmp hne R _ cb (fun b' o u h=>by
     have h':=hi.val b' o u h;have hlt:=lt_of_cell h';have hne:b'≠b:=fun e=>by rw[e,hR o]at h;cases h
     unfold sortWorldK putRowK;rw[cell?_grow _ _ _ (by simpa[putRow,mapBlock,Sort.ahead]using hlt)];have:=cell?_putRow_other id (Sort.ahead w m) b (pre.length*F.k) (flatK F.enc F.k dk) ⟨b',o,none⟩ (Or.inl hne);rw[this];exact h') hcs hce x y) hH hb (by simpa using hsz)
   simp only[List.size_toArray]at hcon;refine hcon.mono fun e w' ⟨he,n',os,hw⟩=>?_
   subst he;have hw2:w'=grow (putRow id (Sort.ahead w n') b (pre.length*F.k) (flatK F.enc F.k (bE cf d).toArray)) os:=by
    rw[hw];unfold sortWorldK putRowK bE;simp
   subst hw2;have hl:=e_ hO d;obtain⟨h1,h2,h3⟩:=II (F:=F) (d':=bE cf d) (n0:=n') hl hi hg (flatK F.enc F.k (bE cf d).toArray) (by simp[hl]) (fun j hj=>A5 _ j (by rw[hl];exact hj)) os;exact hend (.int .i64 0) _ h1 h2 h3
def Flat.one (F:Flat α)(x:α):Value := .int .i64 ((F.nums x).headD 0)
end
end Go.Proofs.YtdkmoemdipgikaaGreatDoor
namespace Go.Proofs
open Go.Shelf
def Tryz.sortEdge_ren:Go.Shelf.Ren:=⟨fun|6=>211|15=>210|14=>239|28=>237|29=>238|20=>255|21=>256|22=>257|23=>258|24=>259|25=>260|26=>261|27=>262|46=>278|47=>251|48=>252|49=>279|50=>280|57=>287|n=>n,fun|22=>186|24=>189|25=>209|3=>3|39=>207|0=>0|53=>234|55=>236|4=>4|46=>228|45=>227|50=>176|5=>5|9=>9|66=>248|70=>252|76=>267|77=>180|n=>n,fun|n=>n⟩
theorem Tryz.sortEdge:Go.Proofs.SlLaysF0.n6 Tryz.prog Tryz.sortEdge_ren :={
 mixed:=k7
 f6:=⟨Tryz.f211.name,by decide,Tryz.func211.trans (congrArg some k7)⟩
 f14:=⟨Tryz.f239.name,by decide,Tryz.func239.trans (congrArg some k7)⟩
 f15:=Tryz.func210.trans (congrArg some k7)
 f20:=⟨Tryz.f255.name,by decide,Tryz.func255.trans (congrArg some k7)⟩
 f21:=⟨Tryz.f256.name,by decide,Tryz.func256.trans (congrArg some k7)⟩
 f22:=⟨Tryz.f257.name,by decide,Tryz.func257.trans (congrArg some k7)⟩
 f23:=⟨Tryz.f258.name,by decide,Tryz.func258.trans (congrArg some k7)⟩
 f24:=⟨Tryz.f259.name,by decide,Tryz.func259.trans (congrArg some k7)⟩
 f25:=⟨Tryz.f260.name,by decide,Tryz.func260.trans (congrArg some k7)⟩
 f26:=⟨Tryz.f261.name,by decide,Tryz.func261.trans (congrArg some k7)⟩
 f27:=⟨Tryz.f262.name,by decide,Tryz.func262.trans (congrArg some k7)⟩
 f28:=Tryz.func237.trans (congrArg some k7)
 f29:=Tryz.func238.trans (congrArg some k7)
 f46:=⟨Tryz.f278.name,by decide,Tryz.func278.trans (congrArg some k7)⟩
 f47:=Tryz.func251.trans (congrArg some k7)
 f48:=Tryz.func252.trans (congrArg some k7)
 f49:=⟨Tryz.f279.name,by decide,Tryz.func279.trans (congrArg some k7)⟩
 f50:=⟨Tryz.f280.name,by decide,Tryz.func280.trans (congrArg some k7)⟩
 f57:=⟨Tryz.f287.name,by decide,Tryz.func287.trans (congrArg some k7)⟩
 t0:=Tryz.underlying0
 a0:=Tryz.isAgg0
 z0:=Tryz.sizeOf0
 v0:=Tryz.zeroValue0
 t3:=Tryz.underlying3
 a3:=Tryz.isAgg3
 z3:=Tryz.sizeOf3
 v3:=Tryz.zeroValue3
 t4:=Tryz.underlying4
 a4:=Tryz.isAgg4
 z4:=Tryz.sizeOf4
 v4:=Tryz.zeroValue4
 t5:=Tryz.underlying5
 a5:=Tryz.isAgg5
 z5:=Tryz.sizeOf5
 v5:=Tryz.zeroValue5
 t9:=Tryz.underlying9
 a9:=Tryz.isAgg9
 z9:=Tryz.sizeOf9
 v9:=Tryz.zeroValue9
 t22:=Tryz.underlying186
 a22:=Tryz.isAgg186
 z22:=Tryz.sizeOf186
 v22:=Tryz.zeroValue186
 t25:=Tryz.underlying209
 a25:=Tryz.isAgg209
 z25:=Tryz.sizeOf209
 v25:=Tryz.zeroValue209
 t39:=Tryz.underlying207
 a39:=Tryz.isAgg207
 z39:=Tryz.sizeOf207
 v39:=Tryz.zeroValue207
 t45:=Tryz.underlying227
 a45:=Tryz.isAgg227
 z45:=Tryz.sizeOf227
 v45:=Tryz.zeroValue227
 t46:=Tryz.underlying228
 a46:=Tryz.isAgg228
 z46:=Tryz.sizeOf228
 v46:=Tryz.zeroValue228
 t50:=Tryz.underlying176
 a50:=Tryz.isAgg176
 z50:=Tryz.sizeOf176
 v50:=Tryz.zeroValue176
 t53:=Tryz.underlying234
 a53:=Tryz.isAgg234
 z53:=Tryz.sizeOf234
 v53:=Tryz.zeroValue234
 t55:=Tryz.underlying236
 a55:=Tryz.isAgg236
 z55:=Tryz.sizeOf236
 v55:=Tryz.zeroValue236
 t66:=Tryz.underlying248
 a66:=Tryz.isAgg248
 z66:=Tryz.sizeOf248
 v66:=Tryz.zeroValue248
 t70:=Tryz.underlying252
 a70:=Tryz.isAgg252
 z70:=Tryz.sizeOf252
 v70:=Tryz.zeroValue252
 t76:=Tryz.underlying267
 a76:=Tryz.isAgg267
 z76:=Tryz.sizeOf267
 v76:=Tryz.zeroValue267
 t77:=Tryz.underlying180
 a77:=Tryz.isAgg180
 z77:=Tryz.sizeOf180
 v77:=Tryz.zeroValue180 }
end Go.Proofs
namespace Go.Proofs.YtdkmoemdipgikaaGreatDoor
open Go.RowKit Go.Shelf Go.Lib Go.Sort
theorem ajb {cb:Array Value}(h:cb.size=([]:List AC).length):cb=#[]:=by
 apply Array.eq_empty_of_size_eq_zero;simpa using h
open Go.RowKit Go.MapKept
set_option maxRecDepth 100000
def zG (B:List (List Val))(x:List Val):Nat->Nat
 |0=>0
 |j+1=>match B[j]? with
  |some y=>if bQ x y<0 then zG B x j else j+1
  |none=>j+1
def Ku (B:List (List Val))(x:List Val):List (List Val):=B.take (zG B x B.length)++x::B.drop (zG B x B.length)
def D_ (l:List (List Val)):List (List Val):=l.foldl Ku []
theorem EJ (B:List (List Val))(x:List Val):∀ j,j<=B.length->zG B x j<=j/\(∀ i y,zG B x j<=i->i<j->B[i]?=some y->bQ x y<0)/\(∀ q,zG B x j=q+1 ->∃ y,B[q]?=some y /\ ¬ bQ x y<0)
 |0,_=>⟨amM _,fun i y _ h=>by omega,fun q h=>by simp[zG]at h⟩
 |j+1,hj=>by
  obtain⟨y,hy⟩:=gol_ (show j<B.length by omega);have e:zG B x (j+1)=if bQ x y<0 then zG B x j else j+1:=by rw[zG,hy]
  rw[e];by_cases h:bQ x y<0
  ·rw[if_pos h]
   obtain⟨h1,h2,h3⟩:=EJ B x j m0;refine⟨m0,fun i z hi hij hz=>?_,h3⟩;by_cases hij':i<j
   ·exact h2 i z hi hij' hz
   ·have:i=j:=m0
    subst this;rw[hy]at hz;obtain rfl:=am3 hz;exact h
  ·rw[if_neg h]
   refine⟨amM _,fun i z hi hij=>by omega,fun q hq=>?_⟩;obtain rfl:j=q:=m0
   exact⟨y,hy,h⟩
theorem aa5 (B:List (List Val))(x:List Val):(Ku B x).Perm (x::B):=by
 unfold Ku;refine List.perm_middle.trans ?_;rw[ang]
theorem ac5 {B:List (List Val)}(x:List Val)(h:Asc bQ B):Asc bQ (Ku B x):=by
 obtain⟨h1,h2,h3⟩:=EJ B x B.length (amM _);unfold Ku;generalize zG B x B.length=p at h1 h2 h3;have hB:Asc bQ (B.take p++B.drop p):=by rw[ang];exact h
 obtain⟨ht,hd,hc⟩:=List.pairwise_append.1 hB;have hx:∀ b∈B.drop p,bQ x b<=0:=by
  intro b hb;obtain⟨i,hi⟩:=List.getElem?_of_mem hb;rw[anh]at hi;have:=h2 (p+i) b m0 (amw.1 hi).1 hi;omega
 have hl:∀ a∈B.take p,bQ a x<=0:=by
  intro a ha
  cases p with
  |zero=>simp at ha
  |succ q =>
   obtain⟨y,hy,hn⟩:=h3 q rfl;have hyx:bQ y x<=0:=by
    have:=tCr_.anti x y;have:=tCr_.anti y x;omega
   have hq:q<B.length:=(amw.1 hy).1;have ey:=(amw.1 hy).2;rw[List.take_succ_eq_append_getElem hq,ey]at ha ht;rcases amY.1 ha with ha|ha
   ·exact tCr_.le_trans ((List.pairwise_append.1 ht).2.2 a ha y m5) hyx
   ·obtain rfl:a=y:=by simpa using ha
    exact hyx
 refine List.pairwise_append.2 ⟨ht,anr.2 ⟨hx,hd⟩,fun a ha b hb=>?_⟩;rcases amN.1 hb with rfl|hb
 ·exact hl a ha
 ·exact hc a ha b hb
theorem vW:∀ (l B:List (List Val)),Asc bQ B->Asc bQ (l.foldl Ku B)/\(l.foldl Ku B).Perm (l++B)
 |[],B,h=>⟨h,List.Perm.refl _⟩
 |x::l,B,h=>by
  obtain⟨h1,h2⟩:=vW l (Ku B x) (ac5 x h);refine⟨h1,h2.trans ?_⟩;refine((aa5 B x).append_left l).trans ?_;exact List.perm_middle
theorem Ek (l:List (List Val)):Asc bQ (D_ l):=(vW l [] List.Pairwise.nil).1
theorem si (l:List (List Val)):(D_ l).Perm l:=by
 have:=(vW l [] List.Pairwise.nil).2;rwa[am5]at this
theorem F_ {l r:List (List Val)}(h1:Asc bQ r)(h2:r.Perm l):D_ l=r:=zK tCr_ (Ek l) h1 ((si l).trans h2.symm)
def push {α β ρ:Type}(g:α->β)(N:Nat)(s:List β)(x:α):Option (Sum (List β) ρ):=bif decide (s.length+1<=N)then some (.inl (s++[g x]))else none
theorem Dk {α β ρ:Type}(g:α->β)(N:Nat):∀ (l:List α) (s:List β),s.length+l.length<=N->cE (ρ:=ρ) (push g N) s l=some (.inl (s++l.map g))
 |[],s,_=>by simp[cE]
 |x::l,s,h=>by
  have h':s.length+(l.length+1)<=N:=by simpa using h
  have e:push (ρ:=ρ) g N s x=some (.inl (s++[g x])):=by unfold push;rw[show decide (s.length+1<=N)=true from amA m0];rfl
  rw[cE,e];have:=Dk (ρ:=ρ) g N l (s++[g x]) m8;simpa using this
theorem E8 {α σ ρ:Type}{f:σ->α->Option (Sum σ ρ)}:∀ (l:List α) (s:σ),(∀ s x,x∈l ->∃ r,f s x=some r) ->∃ r,cE f s l=some r
 |[],s,_=>⟨_,rfl⟩
 |x::l,s,h=>by
  obtain⟨r,hr⟩:=h s x (ani ..);rw[cE,hr]
  cases r with
  |inl s'=>exact E8 l s' fun s y hy=>h s y (amU _ hy)
  |inr r=>exact⟨_,rfl⟩
theorem wW {α:Type}:∀ {l:List α},l.length=2 ->∃ c0 c1,l=[c0,c1]
 |[c0,c1],_=>⟨c0,c1,rfl⟩
theorem IC {α:Type}:∀ {l:List α},l.length=3 ->∃ c0 c1 c2,l=[c0,c1,c2]
 |[c0,c1,c2],_=>⟨c0,c1,c2,rfl⟩
theorem aj0 {α:Type}:∀ {l:List α},l.length=5 ->∃ c0 c1 c2 c3 c4,l=[c0,c1,c2,c3,c4]
 |[c0,c1,c2,c3,c4],_=>⟨c0,c1,c2,c3,c4,rfl⟩
theorem ajU {α:Type}:∀ {l:List α},l.length=7 ->∃ c0 c1 c2 c3 c4 c5 c6,l=[c0,c1,c2,c3,c4,c5,c6]
 |[c0,c1,c2,c3,c4,c5,c6],_=>⟨c0,c1,c2,c3,c4,c5,c6,rfl⟩
theorem addr_add (b o n:Nat):(⟨b,o,none⟩:Addr).add n=⟨b,o+n,none⟩:=by
 unfold Addr.add;split<;>simp_all
def RW {W:World}(hT:g8 (fun b o=>W.cell? ⟨b,o,none⟩)):PH:=⟨fun b o=>W.cell? ⟨b,o,none⟩,hT⟩
def gW {W:World}(hT:g8 (fun b o=>W.cell? ⟨b,o,none⟩))(cs:List Value)(es:List AC):Prop:=cs.length=es.length /\ ∀ (j:Nat) u x,cs[j]?=some u->es[j]?=some x->bg (RW hT) u x
theorem gW.app {W:World}{hT:g8 (fun b o=>W.cell? ⟨b,o,none⟩)}{c1 c2:List Value}{e1 e2:List AC}(h1:gW hT c1 e1)(h2:gW hT c2 e2):gW hT (c1++c2) (e1++e2):=by
 refine⟨by rw[amE,amE,h1.1,h2.1],fun j u x hu hx=>?_⟩;have hl:=h1.1;by_cases hj:j<c1.length
 ·rw[amK hj]at hu
  rw[amK m0]at hx;exact h1.2 j u x hu hx
 ·rw[amD m0]at hu
  rw[amD m0,<- hl]at hx;exact h2.2 _ u x hu hx
theorem gW.one {W:World}{hT:g8 (fun b o=>W.cell? ⟨b,o,none⟩)}{v:Value}{e:AC}(h:bg (RW hT) v e):gW hT [v] [e]:=by
 refine⟨rfl,fun j u x hu hx=>?_⟩
 match j,hu,hx with
 |0,hu,hx=>simp at hu hx;subst hu hx;exact h
 |j+1,hu,hx=>simp at hu
def xt (n:Int):Prop := -9223372036854775808<=n/\n<=9223372036854775807
def SOk (s:ByteArray):Prop:=s.size<=9223372036854775807
def nC {α:Type}(k:Nat)(Q:α->Prop)(l:List α):Prop:=l.length*k<=reachBytes /\ ∀ a∈l,Q a
def lJ {H:Type}(t:TypeId)(d:DataW H):Prop :=∀ n∈DataW.weights Tryz.prog t d,n<=reachBytes
theorem N3 {H:Type}{e:TypeId}:∀ {l:List (DataW H)} {d:DataW H},d∈l ->∀ n∈DataW.weights Tryz.prog e d,n∈DataW.weightsAll Tryz.prog e l
 |x::l,d,h,n,hn=>by
  rw[DataW.weightsAll,amY];rcases amN.1 h with rfl|h
  ·exact .inl hn
  ·exact .inr (N3 h n hn)
theorem tX {H:Type}:∀ {ts:List TypeId} {l:List (DataW H)} {i:Nat} {t:TypeId} {d:DataW H},ts[i]?=some t->l[i]?=some d ->∀ n∈DataW.weights Tryz.prog t d,n∈DataW.weightsEach Tryz.prog ts l
 |t0::ts,d0::l,0,t,d,h1,h2,n,hn=>by
  simp at h1 h2;subst h1 h2;rw[DataW.weightsEach,amY];exact .inl hn
 |t0::ts,d0::l,i+1,t,d,h1,h2,n,hn=>by
  rw[DataW.weightsEach,amY];exact .inr (tX (by simpa using h1) (by simpa using h2) n hn)
 |[],_,i,t,d,h1,_,n,hn=>by simp at h1
 |_::_,[],i,t,d,_,h2,n,hn=>by simp at h2
section
variable {H:Type} {enc:TypeId × Value->H} {W:World} {hT:g8 (fun b o=>W.cell? ⟨b,o,none⟩)} {base:Nat} {spare:Nat->Bool} {held:Bool}
theorem cj {t:TypeId}(ht:Tryz.prog.underlying t=some (.int .i64)){cs:List Value}{fuel:Nat}{x:DataW H×List MemPlace}(h:DataW.trod enc Tryz.prog W base spare held fuel t cs=some x):∃ n:Int,gW hT cs [.int .i64 n]/\xt n:=by
 obtain⟨n,rfl,_,hw⟩:=DataW.trod_int ht h;rw[Lit.wf,amO]at hw;exact⟨n,gW.one (.int _ _),amZ hw.1,amZ hw.2⟩
theorem EN {t:TypeId}(ht:Tryz.prog.underlying t=some .bool){cs:List Value}{fuel:Nat}{x:DataW H×List MemPlace}(h:DataW.trod enc Tryz.prog W base spare held fuel t cs=some x):∃ n:Bool,gW hT cs [.bool n]/\(fun _=>True) n:=by
 obtain⟨n,rfl,_⟩:=DataW.trod_bool ht h;exact⟨n,gW.one (.bool _),t7⟩
theorem jY {t:TypeId}(ht:Tryz.prog.underlying t=some .string){cs:List Value}{fuel:Nat}{x:DataW H×List MemPlace}(h:DataW.trod enc Tryz.prog W base spare held fuel t cs=some x):∃ s:ByteArray,gW hT cs [.str s]/\SOk s:=by
 obtain⟨s,rfl,_,hs⟩:=DataW.trod_string ht h;exact⟨s,gW.one (.str _),hs⟩
theorem bz {α:Type}{t e:TypeId}{k:Nat}{f:α->List AC}{Q:α->Prop}(ht:Tryz.prog.underlying t=some (.slice e))(hk:Tryz.prog.cellsOf e=k){by_:Nat}(hby:Tryz.prog.bytesOf e=by_)(hk0:0<k)(hf:∀ x,(f x).length=k){cs:List Value}{fuel:Nat}{x:DataW H×List MemPlace}(h:DataW.trod enc Tryz.prog W base spare held fuel t cs=some x)(hw:lJ t x.1)
  (hr:∀ (fuel':Nat) (cs':List Value) (x':DataW H×List MemPlace),fuel'<fuel->DataW.trod enc Tryz.prog W base spare held fuel' e cs'=some x'->lJ e x'.1 ->∃ a,gW hT cs' (f a)/\Q a):∃ l:List α,gW hT cs [.lst (l.map f)]/\nC by_ Q l:=by
 rcases DataW.trod_slice ht h with⟨rfl,_⟩|⟨a,len,cap,elems,rest,n,hfu,rfl,hxe,_,hlc,hm,hel,hx,_,_⟩
 ·exact⟨[],gW.one (cO _ _ _),m5,fun a ha=>by cases ha⟩
 ·have hww:(∀ n∈DataW.weightsAll Tryz.prog e (elems.map (·.1)),n<=reachBytes)/\len*by_<=reachBytes:=by
   rw[hxe]at hw;unfold lJ at hw;simp only[DataW.weights,ht]at hw;refine⟨fun n hn=>hw n (amU _ (List.mem_append_left _ hn)),?_⟩;have:=hw _ (ani ..);simp only[amI,hel,hby]at this;exact Nat.le_trans (am7 _ (Nat.le_add_right _ _)) this
  have hi:∀ i,i<len ->∃ y,(∃ cs',W.cells? base (a.add (i*k)) k=some cs'/\gW hT cs' (f y))/\Q y:=by
   intro i hlt;have h1:=hx i hlt;rw[amF m0,hk]at h1
   cases hc:W.cells? base (a.add (i*k)) k with
   |none=>rw[hc]at h1;cases h1
   |some cs'=>rw[hc]at h1;obtain⟨y,h2,h3⟩:=hr n cs' _ m0 h1 (fun m hm=>hww.1 m (N3 (List.mem_map_of_mem (f:=fun p:DataW H×List MemPlace=>p.1) (List.getElem_mem m0)) m hm));exact⟨y,⟨cs',rfl,h2⟩,h3⟩
  rcases Nat.eq_zero_or_pos len with h0|h0
  ·subst h0;exact⟨[],gW.one (cO _ _ _),m5,fun a ha=>by cases ha⟩
  ·obtain⟨y0,⟨cs0,hc0,_⟩,_⟩:=hi 0 h0
   let g:Nat->α:=fun i=>if h:i<len then Classical.choose (hi i h)else y0
   have hg:∀ i,i<len->(∃ cs',W.cells? base (a.add (i*k)) k=some cs'/\gW hT cs' (f (g i)))/\Q (g i):=by
    intro i hlt;have:g i=Classical.choose (hi i hlt):=by simp[g,hlt]
    rw[this];exact Classical.choose_spec (hi i hlt)
   obtain⟨b,off,spot⟩:=a;have hs0:spot=none:=by
    obtain⟨_,hl,hat⟩:=World.cells?_some hc0;have h1:=hat 0 hk0;rw[amF m0]at h1;have:=World.cell?_spot h1;simpa[Addr.add]using this
   subst hs0;refine⟨(List.range len).map g,gW.one ?_,(by rw[amI,List.length_range];exact hww.2),?_⟩
   ·have cell:∀ i,i<len ->∀ j,j<k ->∃ u y,W.cell? ⟨b,off+(i*k+j),none⟩=some u/\(f (g i))[j]?=some y/\bg (RW hT) u y:=by
     intro i hlt j hj;obtain⟨⟨cs',hc,hcr⟩,_⟩:=hg i hlt;obtain⟨_,hl,hat⟩:=World.cells?_some hc;have h1:=hat j hj;rw[amF m0]at h1;have hfl:=hf (g i);refine⟨_,_,?_,amF m0,hcr.2 j _ _ (amF m0) (amF m0)⟩;rw[addr_add,addr_add,Nat.add_assoc]at h1;exact h1
    refine .lst (some ⟨b,off,none⟩) len cap _ k (fun j=>(W.cell? ⟨b,off+j,none⟩).getD (.bool false)) b off m5 hlc ?_ (fun _=>rfl) ?_ ?_
    ·intro e he
     simp only[List.map_map,am6]at he;obtain⟨i,_,rfl⟩:=he;exact hf _
    ·intro j hj
     have hd:j/k<len:=by rw[Nat.div_lt_iff_lt_mul hk0];exact hj
     obtain⟨u,y,h1,_,_⟩:=cell (j/k) hd (j%k) (Nat.mod_lt _ hk0);have hjj:j/k*k+j%k=j:=by rw[Nat.mul_comm];exact Nat.div_add_mod j k
     rw[hjj]at h1;show W.cell? _=_;rw[h1];rfl
    ·intro i e j x he hxx
     have hlt:i<len:=by have:=(amw.1 he).1;simpa using this
     have:e=f (g i):=by simp[hlt]at he;exact he.symm
     subst this;have hj:j<k:=by have:=(amw.1 hxx).1;rw[hf]at this;exact this
     obtain⟨u,y,h1,h2,h3⟩:=cell i hlt j hj;rw[h2]at hxx;obtain rfl:=am3 hxx;rw[h1];exact h3
   ·intro a ha
    simp only[am6,List.mem_range]at ha;obtain⟨i,hlt,rfl⟩:=ha;exact(hg i hlt).2
theorem kY {s:TypeId}{x:DataW H×List MemPlace}{fs:Array Field}{n:Nat}{cs:List Value}{xs:List (DataW H×List MemPlace)}(hs:Tryz.prog.underlying s=some (.struct fs))(hx:x=(.agg (xs.map (·.1)),xs.flatMap (·.2)))(hw:lJ s x.1)(hl:xs.length=fs.size)(hf:∀ (i:Nat) (f:Field),fs[i]?=some f->DataW.trod enc Tryz.prog W base spare held n f.type ((cs.drop f.offset).take (Tryz.prog.cellsOf f.type))=xs[i]?)
  (i:Nat) {f:Field} {t o k:Nat} (hi:fs[i]?=some f) (h1:f.type=t) (h2:f.offset=o) (h3:Tryz.prog.cellsOf t=k):∃ y,DataW.trod enc Tryz.prog W base spare held n t ((cs.drop o).take k)=some y/\lJ t y.1:=by
 have hlt:i<fs.size:=(anf.1 hi).1;have:=hf i f hi;rw[h1,h2,h3,amF m0]at this;refine⟨_,this,fun m hm=>?_⟩;rw[hx]at hw;unfold lJ at hw;simp only[DataW.weights,hs]at hw;refine hw m (tX (i:=i) ?_ ?_ m hm)
 ·rw[amT,Array.getElem?_toList,hi];simp[h1]
 ·rw[amT,amF m0];rfl
end
structure NS (x:Cmn):Prop where
 nm:SOk x.nm
 kind:xt x.kind
 nullable:(fun _=>True) x.nullable
section
variable {H:Type} {enc:TypeId × Value->H} {W:World} {hT:g8 (fun b o=>W.cell? ⟨b,o,none⟩)} {base:Nat} {spare:Nat->Bool} {held:Bool}
theorem ai':∀ (fuel:Nat) {cs:List Value} {x:DataW H×List MemPlace},DataW.trod enc Tryz.prog W base spare held fuel 62 cs=some x->lJ 62 x.1 ->∃ a:Cmn,gW hT cs (ez a)/\NS a:=by
 intro fuel;intro cs x h hw;obtain⟨xs,n,hfu,hxe,hlen,hxs,hf⟩:=DataW.trod_struct Tryz.underlying62 h;rw[show Tryz.prog.cellsOf 62=3 by kernel_rfl]at hlen;obtain⟨c0,c1,c2,rfl⟩:=IC hlen;obtain⟨y0,h0,w0⟩:=kY Tryz.underlying62 hxe hw hxs hf 0 (t:=9) (o:=0) (k:=1) rfl rfl rfl k7;replace h0:DataW.trod enc Tryz.prog W base spare held n 9 [c0]=some y0:=h0;obtain⟨l0,r0,q0⟩:=jY Tryz.underlying9 h0;obtain⟨y1,h1,w1⟩:=kY Tryz.underlying62 hxe hw hxs hf 1 (t:=3) (o:=1) (k:=1) rfl rfl rfl k7;replace h1:DataW.trod enc Tryz.prog W base spare held n 3 [c1]=some y1:=h1;obtain⟨l1,r1,q1⟩:=cj Tryz.underlying3 h1;obtain⟨y2,h2,w2⟩:=kY Tryz.underlying62 hxe hw hxs hf 2 (t:=4) (o:=2) (k:=1) rfl rfl rfl k7;replace h2:DataW.trod enc Tryz.prog W base spare held n 4 [c2]=some y2:=h2;obtain⟨l2,r2,q2⟩:=EN Tryz.underlying4 h2;exact⟨⟨l0,l1,l2⟩,((r0.app r1).app r2),⟨q0,q1,q2⟩⟩
end
structure rZ (x:Val):Prop where
 kind:xt x.kind
 int:xt x.int
 text:SOk x.text
section
variable {H:Type} {enc:TypeId × Value->H} {W:World} {hT:g8 (fun b o=>W.cell? ⟨b,o,none⟩)} {base:Nat} {spare:Nat->Bool} {held:Bool}
theorem aeO:∀ (fuel:Nat) {cs:List Value} {x:DataW H×List MemPlace},DataW.trod enc Tryz.prog W base spare held fuel 64 cs=some x->lJ 64 x.1 ->∃ a:Val,gW hT cs (cV a)/\rZ a:=by
 intro fuel;intro cs x h hw;obtain⟨xs,n,hfu,hxe,hlen,hxs,hf⟩:=DataW.trod_struct Tryz.underlying64 h;rw[show Tryz.prog.cellsOf 64=3 by kernel_rfl]at hlen;obtain⟨c0,c1,c2,rfl⟩:=IC hlen;obtain⟨y0,h0,w0⟩:=kY Tryz.underlying64 hxe hw hxs hf 0 (t:=3) (o:=0) (k:=1) rfl rfl rfl k7;replace h0:DataW.trod enc Tryz.prog W base spare held n 3 [c0]=some y0:=h0;obtain⟨l0,r0,q0⟩:=cj Tryz.underlying3 h0;obtain⟨y1,h1,w1⟩:=kY Tryz.underlying64 hxe hw hxs hf 1 (t:=3) (o:=1) (k:=1) rfl rfl rfl k7;replace h1:DataW.trod enc Tryz.prog W base spare held n 3 [c1]=some y1:=h1;obtain⟨l1,r1,q1⟩:=cj Tryz.underlying3 h1;obtain⟨y2,h2,w2⟩:=kY Tryz.underlying64 hxe hw hxs hf 2 (t:=9) (o:=2) (k:=1) rfl rfl rfl k7;replace h2:DataW.trod enc Tryz.prog W base spare held n 9 [c2]=some y2:=h2;obtain⟨l2,r2,q2⟩:=jY Tryz.underlying9 h2;exact⟨⟨l0,l1,l2⟩,((r0.app r1).app r2),⟨q0,q1,q2⟩⟩
end
inductive xk:Ex->Prop
 |mk {op:Int} {int:Int} {v:Val} {nm:ByteArray} {args:(List Ex)} (h0:xt op) (h1:xt int) (h2:rZ v) (h3:SOk nm) (h4:args.length*88<=reachBytes) (g4:∀ a∈args,xk a):xk (.mk op int v nm args)
section
variable {H:Type} {enc:TypeId × Value->H} {W:World} {hT:g8 (fun b o=>W.cell? ⟨b,o,none⟩)} {base:Nat} {spare:Nat->Bool} {held:Bool}
theorem akJ:∀ (fuel:Nat) {cs:List Value} {x:DataW H×List MemPlace},DataW.trod enc Tryz.prog W base spare held fuel 71 cs=some x->lJ 71 x.1 ->∃ a:Ex,gW hT cs (tE a)/\xk a:=by
 intro fuel
 induction fuel using Nat.strongRecOn with
 |ind fuel ih =>
 intro cs x h hw;obtain⟨xs,n,hfu,hxe,hlen,hxs,hf⟩:=DataW.trod_struct Tryz.underlying71 h;rw[show Tryz.prog.cellsOf 71=7 by kernel_rfl]at hlen;obtain⟨c0,c1,c2,c3,c4,c5,c6,rfl⟩:=ajU hlen;obtain⟨y0,h0,w0⟩:=kY Tryz.underlying71 hxe hw hxs hf 0 (t:=3) (o:=0) (k:=1) rfl rfl rfl k7;replace h0:DataW.trod enc Tryz.prog W base spare held n 3 [c0]=some y0:=h0;obtain⟨l0,r0,q0⟩:=cj Tryz.underlying3 h0;obtain⟨y1,h1,w1⟩:=kY Tryz.underlying71 hxe hw hxs hf 1 (t:=3) (o:=1) (k:=1) rfl rfl rfl k7;replace h1:DataW.trod enc Tryz.prog W base spare held n 3 [c1]=some y1:=h1;obtain⟨l1,r1,q1⟩:=cj Tryz.underlying3 h1;obtain⟨y2,h2,w2⟩:=kY Tryz.underlying71 hxe hw hxs hf 2 (t:=64) (o:=2) (k:=3) rfl rfl rfl k7;replace h2:DataW.trod enc Tryz.prog W base spare held n 64 [c2,c3,c4]=some y2:=h2;obtain⟨l2,r2,q2⟩:=aeO n h2 w2;obtain⟨y3,h3,w3⟩:=kY Tryz.underlying71 hxe hw hxs hf 3 (t:=9) (o:=5) (k:=1) rfl rfl rfl k7;replace h3:DataW.trod enc Tryz.prog W base spare held n 9 [c5]=some y3:=h3;obtain⟨l3,r3,q3⟩:=jY Tryz.underlying9 h3;obtain⟨y4,h4,w4⟩:=kY Tryz.underlying71 hxe hw hxs hf 4 (t:=25) (o:=6) (k:=1) rfl rfl rfl k7;replace h4:DataW.trod enc Tryz.prog W base spare held n 25 [c6]=some y4:=h4;obtain⟨l4,r4,q4⟩:=bz (k:=7) (f:=tE) (Q:=xk) Tryz.underlying25 k7 k7 m9 FF h4 w4 (fun f c x hlt h hw=>ih f m0 h hw)
 exact⟨.mk l0 l1 l2 l3 l4,(by rw[aN];exact((((r0.app r1).app r2).app r3).app r4)),.mk q0 q1 q2 q3 q4.1 q4.2⟩
theorem L7 {cs:List Value}{fuel:Nat}{x:DataW H×List MemPlace}(h:DataW.trod enc Tryz.prog W base spare held fuel 23 cs=some x)(hw:lJ 23 x.1):∃ l:List Int,gW hT cs [.lst (l.map (fun x=>[AC.int .i64 x]))]/\nC 8 xt l :=
 bz (k:=1) (f:=(fun x=>[AC.int .i64 x])) (Q:=xt) Tryz.underlying23 k7 k7 m9 (fun _=>rfl) h hw (fun f c x _ h hw=>cj Tryz.underlying3 h)
end
structure aas (x:Fgn):Prop where
 columns:(nC 8 xt) x.columns
 table:SOk x.table
section
variable {H:Type} {enc:TypeId × Value->H} {W:World} {hT:g8 (fun b o=>W.cell? ⟨b,o,none⟩)} {base:Nat} {spare:Nat->Bool} {held:Bool}
theorem aiF:∀ (fuel:Nat) {cs:List Value} {x:DataW H×List MemPlace},DataW.trod enc Tryz.prog W base spare held fuel 75 cs=some x->lJ 75 x.1 ->∃ a:Fgn,gW hT cs (fY a)/\aas a:=by
 intro fuel;intro cs x h hw;obtain⟨xs,n,hfu,hxe,hlen,hxs,hf⟩:=DataW.trod_struct Tryz.underlying75 h;rw[show Tryz.prog.cellsOf 75=2 by kernel_rfl]at hlen;obtain⟨c0,c1,rfl⟩:=wW hlen;obtain⟨y0,h0,w0⟩:=kY Tryz.underlying75 hxe hw hxs hf 0 (t:=23) (o:=0) (k:=1) rfl rfl rfl k7;replace h0:DataW.trod enc Tryz.prog W base spare held n 23 [c0]=some y0:=h0;obtain⟨l0,r0,q0⟩:=L7 h0 w0;obtain⟨y1,h1,w1⟩:=kY Tryz.underlying75 hxe hw hxs hf 1 (t:=9) (o:=1) (k:=1) rfl rfl rfl k7;replace h1:DataW.trod enc Tryz.prog W base spare held n 9 [c1]=some y1:=h1;obtain⟨l1,r1,q1⟩:=jY Tryz.underlying9 h1;exact⟨⟨l0,l1⟩,(r0.app r1),⟨q0,q1⟩⟩
theorem aia {cs:List Value}{fuel:Nat}{x:DataW H×List MemPlace}(h:DataW.trod enc Tryz.prog W base spare held fuel 22 cs=some x)(hw:lJ 22 x.1):∃ l:List Cmn,gW hT cs [.lst (l.map ez)]/\nC 32 NS l :=
 bz (k:=3) (f:=ez) (Q:=NS) Tryz.underlying22 k7 k7 m9 (fun _=>rfl) h hw (fun f c x _ h hw=>ai' f h hw)
theorem ajs {cs:List Value}{fuel:Nat}{x:DataW H×List MemPlace}(h:DataW.trod enc Tryz.prog W base spare held fuel 24 cs=some x)(hw:lJ 24 x.1):∃ l:List Fgn,gW hT cs [.lst (l.map fY)]/\nC 40 aas l :=
 bz (k:=2) (f:=fY) (Q:=aas) Tryz.underlying24 k7 k7 m9 (fun _=>rfl) h hw (fun f c x _ h hw=>aiF f h hw)
theorem aiB {cs:List Value}{fuel:Nat}{x:DataW H×List MemPlace}(h:DataW.trod enc Tryz.prog W base spare held fuel 25 cs=some x)(hw:lJ 25 x.1):∃ l:List Ex,gW hT cs [.lst (l.map tE)]/\nC 88 xk l :=
 bz (k:=7) (f:=tE) (Q:=xk) Tryz.underlying25 k7 k7 m9 FF h hw (fun f c x _ h hw=>akJ f h hw)
end
structure wy (x:bv):Prop where
 nm:SOk x.nm
 columns:(nC 32 NS) x.columns
 key:(nC 8 xt) x.key
 foreigns:(nC 40 aas) x.foreigns
 checks:(nC 88 xk) x.checks
section
variable {H:Type} {enc:TypeId × Value->H} {W:World} {hT:g8 (fun b o=>W.cell? ⟨b,o,none⟩)} {base:Nat} {spare:Nat->Bool} {held:Bool}
theorem ade:∀ (fuel:Nat) {cs:List Value} {x:DataW H×List MemPlace},DataW.trod enc Tryz.prog W base spare held fuel 27 cs=some x->lJ 27 x.1 ->∃ a:bv,gW hT cs (bn a)/\wy a:=by
 intro fuel;intro cs x h hw;obtain⟨xs,n,hfu,hxe,hlen,hxs,hf⟩:=DataW.trod_struct Tryz.underlying27 h;rw[show Tryz.prog.cellsOf 27=5 by kernel_rfl]at hlen;obtain⟨c0,c1,c2,c3,c4,rfl⟩:=aj0 hlen;obtain⟨y0,h0,w0⟩:=kY Tryz.underlying27 hxe hw hxs hf 0 (t:=9) (o:=0) (k:=1) rfl rfl rfl k7;replace h0:DataW.trod enc Tryz.prog W base spare held n 9 [c0]=some y0:=h0;obtain⟨l0,r0,q0⟩:=jY Tryz.underlying9 h0;obtain⟨y1,h1,w1⟩:=kY Tryz.underlying27 hxe hw hxs hf 1 (t:=22) (o:=1) (k:=1) rfl rfl rfl k7;replace h1:DataW.trod enc Tryz.prog W base spare held n 22 [c1]=some y1:=h1;obtain⟨l1,r1,q1⟩:=aia h1 w1;obtain⟨y2,h2,w2⟩:=kY Tryz.underlying27 hxe hw hxs hf 2 (t:=23) (o:=2) (k:=1) rfl rfl rfl k7;replace h2:DataW.trod enc Tryz.prog W base spare held n 23 [c2]=some y2:=h2;obtain⟨l2,r2,q2⟩:=L7 h2 w2;obtain⟨y3,h3,w3⟩:=kY Tryz.underlying27 hxe hw hxs hf 3 (t:=24) (o:=3) (k:=1) rfl rfl rfl k7;replace h3:DataW.trod enc Tryz.prog W base spare held n 24 [c3]=some y3:=h3;obtain⟨l3,r3,q3⟩:=ajs h3 w3;obtain⟨y4,h4,w4⟩:=kY Tryz.underlying27 hxe hw hxs hf 4 (t:=25) (o:=4) (k:=1) rfl rfl rfl k7;replace h4:DataW.trod enc Tryz.prog W base spare held n 25 [c4]=some y4:=h4;obtain⟨l4,r4,q4⟩:=aiB h4 w4;exact⟨⟨l0,l1,l2,l3,l4⟩,((((r0.app r1).app r2).app r3).app r4),⟨q0,q1,q2,q3,q4⟩⟩
end
structure ya (x:au):Prop where
 lo:xt x.lo
 hi:xt x.hi
section
variable {H:Type} {enc:TypeId × Value->H} {W:World} {hT:g8 (fun b o=>W.cell? ⟨b,o,none⟩)} {base:Nat} {spare:Nat->Bool} {held:Bool}
theorem Gl:∀ (fuel:Nat) {cs:List Value} {x:DataW H×List MemPlace},DataW.trod enc Tryz.prog W base spare held fuel 45 cs=some x->lJ 45 x.1 ->∃ a:au,gW hT cs (aH a)/\ya a:=by
 intro fuel;intro cs x h hw;obtain⟨xs,n,hfu,hxe,hlen,hxs,hf⟩:=DataW.trod_struct Tryz.underlying45 h;rw[show Tryz.prog.cellsOf 45=2 by kernel_rfl]at hlen;obtain⟨c0,c1,rfl⟩:=wW hlen;obtain⟨y0,h0,w0⟩:=kY Tryz.underlying45 hxe hw hxs hf 0 (t:=3) (o:=0) (k:=1) rfl rfl rfl k7;replace h0:DataW.trod enc Tryz.prog W base spare held n 3 [c0]=some y0:=h0;obtain⟨l0,r0,q0⟩:=cj Tryz.underlying3 h0;obtain⟨y1,h1,w1⟩:=kY Tryz.underlying45 hxe hw hxs hf 1 (t:=3) (o:=1) (k:=1) rfl rfl rfl k7;replace h1:DataW.trod enc Tryz.prog W base spare held n 3 [c1]=some y1:=h1;obtain⟨l1,r1,q1⟩:=cj Tryz.underlying3 h1;exact⟨⟨l0,l1⟩,(r0.app r1),⟨q0,q1⟩⟩
theorem zb {cs:List Value}{fuel:Nat}{x:DataW H×List MemPlace}(h:DataW.trod enc Tryz.prog W base spare held fuel 43 cs=some x)(hw:lJ 43 x.1):∃ l:List Val,gW hT cs [.lst (l.map cV)]/\nC 32 rZ l :=
 bz (k:=3) (f:=cV) (Q:=rZ) Tryz.underlying43 k7 k7 m9 (fun _=>rfl) h hw (fun f c x _ h hw=>aeO f h hw)
end
structure tD (x:aw):Prop where
 row:(nC 32 rZ) x.row
 valid:ya x.valid
section
variable {H:Type} {enc:TypeId × Value->H} {W:World} {hT:g8 (fun b o=>W.cell? ⟨b,o,none⟩)} {base:Nat} {spare:Nat->Bool} {held:Bool}
theorem aiZ:∀ (fuel:Nat) {cs:List Value} {x:DataW H×List MemPlace},DataW.trod enc Tryz.prog W base spare held fuel 56 cs=some x->lJ 56 x.1 ->∃ a:aw,gW hT cs (aA a)/\tD a:=by
 intro fuel;intro cs x h hw;obtain⟨xs,n,hfu,hxe,hlen,hxs,hf⟩:=DataW.trod_struct Tryz.underlying56 h;rw[show Tryz.prog.cellsOf 56=3 by kernel_rfl]at hlen;obtain⟨c0,c1,c2,rfl⟩:=IC hlen;obtain⟨y0,h0,w0⟩:=kY Tryz.underlying56 hxe hw hxs hf 0 (t:=43) (o:=0) (k:=1) rfl rfl rfl k7;replace h0:DataW.trod enc Tryz.prog W base spare held n 43 [c0]=some y0:=h0;obtain⟨l0,r0,q0⟩:=zb h0 w0;obtain⟨y1,h1,w1⟩:=kY Tryz.underlying56 hxe hw hxs hf 1 (t:=45) (o:=1) (k:=2) rfl rfl rfl k7;replace h1:DataW.trod enc Tryz.prog W base spare held n 45 [c1,c2]=some y1:=h1;obtain⟨l1,r1,q1⟩:=Gl n h1 w1;exact⟨⟨l0,l1⟩,(r0.app r1),⟨q0,q1⟩⟩
theorem K7 {cs:List Value}{fuel:Nat}{x:DataW H×List MemPlace}(h:DataW.trod enc Tryz.prog W base spare held fuel 28 cs=some x)(hw:lJ 28 x.1):∃ l:List aw,gW hT cs [.lst (l.map aA)]/\nC 40 tD l :=
 bz (k:=3) (f:=aA) (Q:=tD) Tryz.underlying28 k7 k7 m9 (fun _=>rfl) h hw (fun f c x _ h hw=>aiZ f h hw)
end
theorem x6:∀ (a b x y:List UInt8),(32:UInt8)∉a->(32:UInt8)∉b->a++32::x=b++32::y->a=b/\x=y
 |[],[],x,y,_,_,h=>by simpa using h
 |[],c::b,x,y,_,hb,h=>by
  simp at h;exact absurd h.1.symm (fun e=>hb (by rw[e];simp))
 |c::a,[],x,y,ha,_,h=>by
  simp at h;exact absurd h.1 (fun e=>ha (by rw[e];simp))
 |c::a,d::b,x,y,ha,hb,h=>by
  simp at h;obtain⟨h1,h2⟩:=x6 a b x y (fun q=>ha (amU _ q)) (fun q=>hb (amU _ q)) h.2;exact⟨by rw[h.1,h1],h2⟩
def aep (b:UInt8):Prop:=48<=b.toNat/\b.toNat<=57
theorem FY {d:Nat}(h:d<10):(UInt8.ofNat (48+d)).toNat=48+d:=by
 rw[UInt8.toNat_ofNat'];omega
theorem lX (u:Nat):∀ b∈Lib.decDigits u,aep b:=by
 induction u using Nat.strongRecOn with
 |_ u ih =>
  intro b hb;rw[Lib.decDigits]at hb;split at hb
  ·rename_i h
   rw[am'.1 hb];unfold aep;rw[FY h];omega
  ·rename_i h
   rcases amY.1 hb with hb|hb
   ·exact ih (u/10) m0 b hb
   ·rw[am'.1 hb];unfold aep;rw[FY m0];omega
def G5 (l:List UInt8):Nat:=l.foldl (fun a b=>a*10+(b.toNat-48)) 0
theorem Is (l:List UInt8)(b:UInt8):G5 (l++[b])=G5 l*10+(b.toNat-48):=by unfold G5;rw[List.foldl_append];rfl
theorem rX (u:Nat):G5 (Lib.decDigits u)=u:=by
 induction u using Nat.strongRecOn with
 |_ u ih =>
  rw[Lib.decDigits];split
  ·rename_i h
   show 0*10+((UInt8.ofNat (48+u)).toNat-48)=u;rw[FY h];omega
  ·rename_i h
   rw[Is,ih (u/10) m0,FY m0];omega
theorem r6 {u v:Nat}(h:Lib.decDigits u=Lib.decDigits v):u=v:=by rw[<- rX u,h,rX]
theorem jw (n:Int):(32:UInt8)∉Lib.itoa n:=by
 intro h;unfold Lib.itoa at h;split at h
 ·rcases amN.1 h with h|h
  ·exact absurd h m9
  ·have:=(lX _ _ h).1;exact absurd this m9
 ·have:=(lX _ _ h).1;exact absurd this m9
theorem Ah {n m:Int}(h:Lib.itoa n=Lib.itoa m):n=m:=by
 have key:∀ (a b:Nat),Lib.decDigits a≠45::Lib.decDigits b:=by
  intro a b e;have:=(lX a 45 (by rw[e];simp)).1;exact absurd this m9
 unfold Lib.itoa at h;split at h<;>split at h
 ·have:=r6 (List.cons.inj h).2;omega
 ·exact absurd h.symm (key _ _)
 ·exact absurd h (key _ _)
 ·have:=r6 h;omega
def tF (v:Val):List UInt8:=Lib.itoa v.kind++32::(Lib.itoa v.int++32::(Lib.itoa v.text.size++32::v.text.data.toList))
def Cj (l:List Val):List UInt8:=l.flatMap tF
theorem ai_ (a b:ByteArray):(a++b).data.toList=a.data.toList++b.data.toList:=by simp
theorem Ec (l:List Val):(dm l).data.toList=Cj l:=by
 have:∀ (l:List Val) (a:ByteArray),(l.foldl (fun a v=>dV a (tT v)++v.text) a).data.toList=a.data.toList++Cj l:=by
  intro l
  induction l with
  |nil=>intro a;simp[Cj]
  |cons v l ih =>
   intro a;rw[anl,ih];have e:dV a (tT v)=a++eP v.kind++c32++eP v.int++c32++eP v.text.size++c32:=rfl;have e1:∀ n,(eP n).data.toList=Lib.itoa n:=fun n=>rfl
   have e2:c32.data.toList=[32]:=rfl;rw[e];simp only[ai_,e1,e2,Cj,am8,tF,amX,List.cons_append,amB]
 have:=this l ⟨#[]⟩;simpa[dm]using this
theorem aby {v w:Val}{x y:List UInt8}(h:tF v++x=tF w++y):v=w/\x=y:=by
 unfold tF at h;simp only[amX,List.cons_append]at h;obtain⟨h1,h⟩:=x6 _ _ _ _ (jw _) (jw _) h;obtain⟨h2,h⟩:=x6 _ _ _ _ (jw _) (jw _) h;obtain⟨h3,h⟩:=x6 _ _ _ _ (jw _) (jw _) h;have h3:=Ah h3;have hs:v.text.data.toList.length=w.text.data.toList.length:=by
  have e:∀ s:ByteArray,s.data.toList.length=s.size:=fun s=>rfl
  rw[e,e];omega
 obtain⟨h4,h5⟩:=List.append_inj h hs;refine⟨?_,h5⟩;obtain⟨a,b,⟨⟨c⟩⟩⟩:=v;obtain⟨a',b',⟨⟨c'⟩⟩⟩:=w;simp only at h1 h2 h4;rw[Ah h1,Ah h2,h4]
theorem JV:∀ (a b:List Val),Cj a=Cj b->a=b
 |[],[],_=>rfl
 |[],w::b,h=>by
  have:=congrArg List.length h;simp[Cj,tF]at this
 |v::a,[],h=>by
  have:=congrArg List.length h;simp[Cj,tF]at this
 |v::a,w::b,h=>by
  have h':tF v++Cj a=tF w++Cj b:=h;obtain⟨h1,h2⟩:=aby h';rw[h1,JV a b h2]
theorem key_inj {a b:List Val}(h:dm a=dm b):a=b:=JV a b (by rw[<- Ec,<- Ec,h])
end Go.Proofs.YtdkmoemdipgikaaGreatDoor
namespace Go.Proofs.YtdkmoemdipgikaaGreatDoor.St
open Go.RowKit
theorem lO {P:List Int}(h:dl P):P.Pairwise (· < ·):=List.pairwise_iff_getElem.2 fun i j hi hj hij=>h i j _ _ hij (amF hi) (amF hj)
theorem xi {l:List (Int×Int)}(h:l.Pairwise fun x y=>x.1<y.1):Asc l:=by
 intro i j x y hij hx hy;obtain⟨hi,rfl⟩:=amw.1 hx;obtain⟨hj,rfl⟩:=amw.1 hy;exact List.pairwise_iff_getElem.1 h i j hi hj hij
theorem qI (f:Int->Int):∀ (P:List Int) (acc:List (Int×Int)),P.Pairwise (· < ·)->(acc.Pairwise fun x y=>x.1<y.1)->(∀ s∈acc,∀ x∈P,s.1<x)->(∀ s∈acc,s.2=f s.1) ->
  ((P.foldl (fun acc p=>bO acc (p,f p)) acc).Pairwise fun x y=>x.1<y.1) /\ ∀ s∈P.foldl (fun acc p=>bO acc (p,f p)) acc,(s∈acc\/s.1∈P)/\s.2=f s.1
 |[],acc,_,h2,_,h4=>⟨h2,fun s hs=>⟨.inl hs,h4 s hs⟩⟩
 |x::P,acc,h1,h2,h3,h4=>by
  rw[anl];have hp:=anr.1 h1;have hput:∀ s∈bO acc (x,f x),s∈acc\/s=(x,f x):=by
   intro s hs;unfold bO at hs;split at hs
   ·exact .inl hs
   ·rcases amY.1 hs with hs|hs
    ·exact .inl hs
    ·exact .inr (am'.1 hs)
  have hpw:(bO acc (x,f x)).Pairwise fun x y=>x.1<y.1:=by
   unfold bO;split
   ·exact h2
   ·refine List.pairwise_append.2 ⟨h2,List.pairwise_singleton _ _,fun a ha b hb=>?_⟩
    rw[am'.1 hb];exact h3 a ha x m5
  obtain⟨q1,q2⟩:=qI f P (bO acc (x,f x)) hp.2 hpw (fun s hs y hy=>by
   rcases hput s hs with h|rfl
   ·exact h3 s h y (amU _ hy)
   ·exact hp.1 y hy) (fun s hs=>by
   rcases hput s hs with h|rfl
   ·exact h4 s h
   ·rfl)
  refine⟨q1,fun s hs=>?_⟩;obtain⟨h5,h6⟩:=q2 s hs;refine⟨?_,h6⟩;rcases h5 with h5|h5
  ·rcases hput s h5 with h|rfl
   ·exact .inl h
   ·exact .inr m5
  ·exact .inr (amU _ h5)
theorem JE (l:List ((Int×Int)×Int)):Asc (Hf l) /\ ∀ s∈Hf l,s.1<1099511627776/\s.2=ga l s.1:=by
 obtain⟨h1,h2⟩:=qI (ga l) (ed l) [] (lO (cM l).1) List.Pairwise.nil (fun s hs=>by cases hs) (fun s hs=>by cases hs);refine⟨xi h1,fun s hs=>?_⟩;obtain⟨h3,h4⟩:=h2 s hs;rcases h3 with h3|h3
 ·cases h3
 ·exact⟨((cM l).2 s.1).1 h3 |>.2,h4⟩
theorem tY (l:List ((Int×Int)×Int)):(Hf l).length<=1+2*l.length:=by
 have h1:=mW (ga l) (ed l);have h2:(ed l).length<=1+2*l.length:=by
  have ha:∀ (l:List ((Int×Int)×Int)) (p:List Int),(l.foldl (fun p c=>if be c.1 then ins c.1.2 (ins c.1.1 p)else p) p).length<=p.length+2*l.length:=by
   intro l
   induction l with
   |nil=>intro p;simp
   |cons c l ih =>
    intro p;rw[anl,amS];have:=ih (if be c.1 then ins c.1.2 (ins c.1.1 p)else p);have h3:(if be c.1 then ins c.1.2 (ins c.1.1 p)else p).length<=p.length+2:=by
     split
     ·have q1:=rA c.1.2 (ins c.1.1 p);have q2:=rA c.1.1 p;omega
     ·omega
    omega
  have h4:=ha l [0];have h5:(ed l).length<=(Bj l).length:=by unfold ed;exact r7 _ _
  have h6:Bj l=l.foldl (fun p c=>if be c.1 then ins c.1.2 (ins c.1.1 p)else p) [0]:=rfl;rw[h6]at h5;simp at h4;omega
 show(dI (ga l) (ed l)).length<=_;omega
theorem qJ (p:Int):∀ l:List ((Int×Int)×Int),(∀ c∈l,c.2=1)->0<=jg l p/\jg l p<=l.length
 |[],_=>by simp[jg]
 |c::l,h=>by
  have ih:=qJ p l fun x hx=>h x (amU _ hx)
  have hi:jg (c::l) p=(if aI c.1 p then c.2 else 0)+jg l p:=by simp[jg]
  have hc:=h c m5;rw[hi,amS];split<;>omega
theorem vR {l:List ((Int×Int)×Int)}(p:Int)(h:∀ c∈l,c.2=1)(hn:l.length<=1000000):ga l p=jg l p:=by
 have:=qJ p l h;rw[rl];unfold wrap64;omega
end Go.Proofs.YtdkmoemdipgikaaGreatDoor.St
namespace Go.Proofs.YtdkmoemdipgikaaGreatDoor
open Go.RowKit
def ones (ps:List au):List ji:=ps.map fun p=>⟨p,1⟩
theorem ul (ps:List au):∀ c∈(ones ps).map toC,c.2=1:=by
 intro c hc;obtain⟨x,hx,rfl⟩:=am6.1 hc;obtain⟨p,_,rfl⟩:=am6.1 hx;rfl
open Go.RowKit Go.MapKept
theorem bA {α β ρ:Type}{l:List α}{body:(List β×Int)->Option (Step (List β×Int) ρ)}(g:α->List β)(N:Nat)(h1:∀ (s:List β) (i:Nat) x,l[i]?=some x->s.length+(g x).length<=N->body (s,(i:Int))=some (.next (s++g x,((i+1:Nat):Int))))(h2:∀ s:List β,body (s,((l.length:Nat):Int))=some (.exit (s,((l.length:Nat):Int))))(hl:l.length<fuel)(s:List β)(hN:s.length+(l.flatMap g).length<=N) :
  ap body fuel (s,(0:Int))=some (.inl (s++l.flatMap g,((l.length:Nat):Int))):=by
 have key:∀ (n i:Nat) (s:List β),i<=l.length->l.length-i<n->s.length+((l.drop i).flatMap g).length<=N->ap body n (s,(i:Int))=some (.inl (s++(l.drop i).flatMap g,((l.length:Nat):Int))):=by
  intro n
  induction n with
  |zero=>intro i s _ h _;omega
  |succ n ih =>
   intro i s hi hn hs;rw[ap];by_cases hlt:i<l.length
   ·obtain⟨x,hx⟩:=gol_ hlt
    have e1:=(amw.1 hx).2;rw[am2 hlt,e1,am8]at hs ⊢;rw[amE]at hs;rw[h1 s i x hx m0];show ap body n _=_;rw[ih (i+1) (s++g x) m0 m0 (by rw[amE];omega),amX]
   ·have:i=l.length:=m0
    subst this;rw[h2,anq];simp
 have:=key fuel 0 s (amR _) m0 (by simpa using hN);simpa using this
def um (l:List (List Val)):Prop:=l.Pairwise fun a b=>bQ a b<0
theorem Dw:∀ {a b:List (List Val)},um a->um b->(∀ x,x∈a↔x∈b)->a=b
 |[],[],_,_,_=>rfl
 |[],y::b,_,_,h=>by have:=(h y).2 m5;cases this
 |x::a,[],_,_,h=>by have:=(h x).1 m5;cases this
 |x::a,y::b,ha,hb,h=>by
  have ha:=anr.1 ha;have hb:=anr.1 hb;have irr:∀ z,¬ bQ z z<0:=fun z=>by rw[tCr_.refl];omega
  have hxy:x=y:=by
   rcases amN.1 ((h x).1 m5)with e|e
   ·exact e
   ·rcases amN.1 ((h y).2 m5)with e2|e2
    ·exact e2.symm
    ·exact absurd (tCr_.trans _ _ _ (ha.1 y e2) (hb.1 x e)) (irr x)
  subst hxy;rw[Dw ha.2 hb.2 fun z=>?_];constructor
  ·intro hz
   rcases amN.1 ((h z).1 (amU _ hz))with rfl|e
   ·exact absurd (ha.1 z hz) (irr z)
   ·exact e
  ·intro hz
   rcases amN.1 ((h z).2 (amU _ hz))with rfl|e
   ·exact absurd (hb.1 z hz) (irr z)
   ·exact e
instance decRow (a b : List Val) : Decidable (a = b) := if h : bQ a b = 0 then .isTrue (tCr_.zero _ _ h) else .isFalse fun e => h (by rw [e]; exact tCr_.refl _)
def aV (l:List aw)(r:List Val):List au:=(l.filter fun f=>az f.valid&&decide (f.row=r)).map (·.valid)
def bY (l:List aw)(R:List (List Val)):Prop:=um R /\ ∀ x,x∈R ↔ ∃ f∈l,az f.valid=true/\f.row=x
theorem bY.ext {l:List aw}{R S:List (List Val)}(h:bY l R)(k:bY l S):R=S:=Dw h.1 k.1 fun x=>(h.2 x).trans (k.2 x).symm
theorem kh (l:List aw)(f:aw)(r:List Val):aV (l++[f]) r=aV l r++(if az f.valid&&decide (f.row=r)then [f.valid]else []):=by
 unfold aV;rw[List.filter_append,amJ];congr 1;by_cases h:(az f.valid&&decide (f.row=r))=true
 ·simp[h]
 ·simp[h]
theorem zg {s:ByteArray}:∀ {G:List bC} {i:Nat},eW s G=some i ->∃ g,G[i]?=some g/\dm g.f.row=s
 |[],_,h=>by simp[eW]at h
 |g::r,i,h=>by
  unfold eW at h;split at h
  ·rename_i e;injection h with h;subst h;exact⟨g,rfl,e.symm⟩
  ·cases hr:eW s r with
   |none=>rw[hr]at h;cases h
   |some j =>
    rw[hr]at h;injection h with h;subst h
    obtain⟨g',h1,h2⟩:=zg hr;exact⟨g',by simpa using h1,h2⟩
theorem A6 {s:ByteArray}:∀ {G:List bC},eW s G=none ->∀ g∈G,dm g.f.row≠s
 |[],_,g,hg=>by cases hg
 |x::r,h,g,hg=>by
  unfold eW at h;split at h
  ·cases h
  ·rename_i e
   cases hr:eW s r with
   |none =>
    rcases amN.1 hg with rfl|hg
    ·exact fun q=>e q.symm
    ·exact A6 hr g hg
   |some j=>rw[hr]at h;cases h
structure GInv (l:List aw)(G:List bC):Prop where
 nd:G.Pairwise fun g h=>g.f.row≠h.f.row
 ps:∀ g∈G,g.ps=aV l g.f.row
 mem:∀ g∈G,∃ f∈l,az f.valid=true/\f.row=g.f.row
 all:∀ f∈l,az f.valid=true ->∃ g∈G,g.f.row=f.row
theorem GInv.step {l:List aw}{G:List bC}(h:GInv l G)(f:aw):GInv (l++[f]) (f8 G f):=by
 unfold f8
 cases hv:az f.valid with
 |false =>
  rw[amx];refine⟨h.nd,fun g hg=>?_,fun g hg=>?_,fun f' hf' hv'=>?_⟩
  ·rw[kh,hv];simpa using h.ps g hg
  ·obtain⟨f',h1,h2⟩:=h.mem g hg;exact⟨f',List.mem_append_left _ h1,h2⟩
  ·rcases amY.1 hf' with hf'|hf'
   ·exact h.all f' hf' hv'
   ·rw[am'.1 hf']at hv';rw[hv]at hv';cases hv'
 |true =>
  rw[amy]
  cases hf:eW (dm f.row) G with
  |none =>
   have hne:∀ g∈G,g.f.row≠f.row:=fun g hg e=>A6 hf g hg (by rw[e])
   have hemp:aV l f.row=[]:=by
    unfold aV;rw[List.map_eq_nil_iff,List.filter_eq_nil_iff];intro f' hf' hc;rw[amO]at hc;obtain⟨g,hg,e⟩:=h.all f' hf' hc.1;exact hne g hg (e.trans (amZ hc.2))
   refine⟨List.pairwise_append.2 ⟨h.nd,List.pairwise_singleton _ _,fun g hg g' hg'=>by rw[am'.1 hg'];exact hne g hg⟩,fun g hg=>?_,fun g hg=>?_,fun f' hf' hv'=>?_⟩
   ·rcases amY.1 hg with hg|hg
    ·rw[kh,hv,show decide (f.row=g.f.row)=false from amz fun e=>hne g hg e.symm]
     simpa using h.ps g hg
    ·rw[am'.1 hg,kh,hv,hemp];simp
   ·rcases amY.1 hg with hg|hg
    ·obtain⟨f',h1,h2⟩:=h.mem g hg;exact⟨f',List.mem_append_left _ h1,h2⟩
    ·rw[am'.1 hg];exact⟨f,m5,hv,rfl⟩
   ·rcases amY.1 hf' with hf'|hf'
    ·obtain⟨g,hg,e⟩:=h.all f' hf' hv';exact⟨g,List.mem_append_left _ hg,e⟩
    ·rw[am'.1 hf'];exact⟨⟨f,[f.valid]⟩,m5,rfl⟩
  |some i =>
   obtain⟨g0,hg0,hk⟩:=zg hf;have hrow:g0.f.row=f.row:=key_inj hk;dsimp only;rw[hg0];dsimp only;have hil:=(amw.1 hg0).1;have hmap:(G.set i ⟨g0.f,g0.ps++[f.valid]⟩).map (·.f.row)=G.map (·.f.row):=by
    rw[List.map_set];refine List.ext_getElem? fun j=>?_
    rw[List.getElem?_set];split
    ·rename_i e;subst e
     rw[amI,if_pos hil,amT,hg0];rfl
    ·rfl
   have hnd:(G.set i ⟨g0.f,g0.ps++[f.valid]⟩).Pairwise fun g h=>g.f.row≠h.f.row:=by
    have h1:(G.map (·.f.row)).Pairwise (· ≠ ·):=List.pairwise_map.2 h.nd;rw[<- hmap]at h1;exact List.pairwise_map.1 h1
   have hmemG:∀ g∈G.set i ⟨g0.f,g0.ps++[f.valid]⟩,(g∈G/\g.f.row≠f.row)\/g=⟨g0.f,g0.ps++[f.valid]⟩:=by
    intro g hg;obtain⟨j,hj⟩:=List.getElem?_of_mem hg;rw[List.getElem?_set]at hj;split at hj
    ·rename_i e
     injection hj with hj
     exact .inr hj.symm
    ·rename_i e
     refine .inl ⟨amC hj,fun q=>?_⟩;have hjl:=(amw.1 hj).1;have e1:=(amw.1 hj).2;have e2:=(amw.1 hg0).2;rcases Nat.lt_or_gt_of_ne e with hlt|hlt
     ·have:=List.pairwise_iff_getElem.1 h.nd i j hil hjl hlt
      rw[e1,e2]at this;exact this (hrow.trans q.symm)
     ·have:=List.pairwise_iff_getElem.1 h.nd j i hjl hil hlt
      rw[e1,e2]at this;exact this (q.trans hrow.symm)
   have hg0m:=amC hg0;refine⟨hnd,fun g hg=>?_,fun g hg=>?_,fun f' hf' hv'=>?_⟩
   ·rcases hmemG g hg with⟨hg,hne⟩|rfl
    ·rw[kh,hv,show decide (f.row=g.f.row)=false from amz fun e=>hne e.symm]
     simpa using h.ps g hg
    ·show g0.ps++[f.valid]=aV (l++[f]) g0.f.row
     rw[kh,hv,show decide (f.row=g0.f.row)=true from amA hrow.symm,<- h.ps g0 hg0m];rfl
   ·rcases hmemG g hg with⟨hg,_⟩|rfl
    ·obtain⟨f',h1,h2⟩:=h.mem g hg;exact⟨f',List.mem_append_left _ h1,h2⟩
    ·exact⟨f,m5,hv,hrow.symm⟩
   ·have hex:∃ g∈G,g.f.row=f'.row:=by
     rcases amY.1 hf' with hf'|hf'
     ·exact h.all f' hf' hv'
     ·rw[am'.1 hf'];exact⟨g0,hg0m,hrow⟩
    obtain⟨g,hg,e⟩:=hex;have:g.f.row∈(G.set i ⟨g0.f,g0.ps++[f.valid]⟩).map (·.f.row):=by rw[hmap];exact List.mem_map_of_mem hg
    obtain⟨g',hg',e'⟩:=am6.1 this;exact⟨g',hg',e'.trans e⟩
theorem Lr (l:List aw):GInv l (ci l):=by
 have:∀ (l l0:List aw) (G:List bC),GInv l0 G->GInv (l0++l) (l.foldl f8 G):=by
  intro l
  induction l with
  |nil=>intro l0 G h;simpa using h
  |cons f l ih =>
   intro l0 G h;have:=ih (l0++[f]) _ (h.step f);rw[amX]at this;exact this
 have:=this l [] [] ⟨List.Pairwise.nil,fun g hg=>(by cases hg),fun g hg=>(by cases hg),fun f hf=>(by cases hf)⟩;simpa[ci]using this
theorem rP (a b d:List Val)(h1:bQ a b<=0)(h2:bQ b d<=0):bQ a d<=0:=by
 rcases Int.lt_or_eq_of_le h1 with h1|h1
 ·rcases Int.lt_or_eq_of_le h2 with h2|h2
  ·exact Int.le_of_lt (tCr_.trans _ _ _ h1 h2)
  ·rw[<- tCr_.zero _ _ h2];exact Int.le_of_lt h1
 ·rw[tCr_.zero _ _ h1];exact h2
theorem acW (a b:List Val)(h:¬ bQ a b<0):bQ b a<=0:=by
 have:=(tCr_.anti a b);omega
theorem H_ (l:List aw):∃ R,bY l R/\fy l=R.map fun r=>⟨r,aV l r⟩:=by
 have hi:=Lr l;have hp:=oG gU ((ci l).map fun g=>(⟨g.f.row,g.ps⟩:ar));have ha:=acg (c:=gU) (fun a b d=>rP a.row b.row d.row) (fun a b=>acW a.row b.row) ((ci l).map fun g=>(⟨g.f.row,g.ps⟩:ar));have hn:(fy l).Pairwise fun a b=>a.row≠b.row:=by
  have h1:((ci l).map fun g=>(⟨g.f.row,g.ps⟩:ar)).Pairwise fun a b=>a.row≠b.row:=List.pairwise_map.2 hi.nd
  exact(List.Perm.pairwise_iff (fun {a b} h=>Ne.symm h) hp).2 h1
 have hmem:∀ s∈fy l,s.periods=aV l s.row /\ ∃ f∈l,az f.valid=true/\f.row=s.row:=by
  intro s hs;obtain⟨g,hg,rfl⟩:=am6.1 (hp.mem_iff.1 hs);exact⟨hi.ps g hg,hi.mem g hg⟩
 refine⟨(fy l).map (·.row),⟨?_,fun x=>?_⟩,?_⟩
 ·refine List.pairwise_map.2 ?_
  refine(List.Pairwise.and ha hn).imp ?_;rintro a b ⟨h1,h2⟩;rcases Int.lt_or_eq_of_le h1 with h|h
  ·exact h
  ·exact absurd (tCr_.zero _ _ h) h2
 ·constructor
  ·intro hx
   obtain⟨s,hs,rfl⟩:=am6.1 hx;exact(hmem s hs).2
  ·rintro⟨f,hf,hv,rfl⟩
   obtain⟨g,hg,e⟩:=hi.all f hf hv;exact am6.2 ⟨⟨g.f.row,g.ps⟩,hp.mem_iff.2 (am6.2 ⟨g,hg,rfl⟩),e⟩
 ·rw[List.map_map]
  refine(List.map_id (fy l)).symm.trans (List.map_congr_left fun s hs=>?_);have:=(hmem s hs).1;obtain⟨r,ps⟩:=s;show(⟨r,ps⟩:ar)=⟨r,aV l r⟩;rw[<- this]
theorem fo_ {α β:Type}(f:α->β):∀ l:List α,(l.flatMap fun x=>[f x])=l.map f
 |[]=>rfl
 |x::l=>by rw[am8,fo_ f l];rfl
theorem h_ (l:List aw)(r:List Val):(aV l r).length<=l.length:=by unfold aV;rw[amI];exact List.length_filter_le _ _
theorem pZ (l:List aw)(r:List Val):∀ p∈aV l r,az p=true:=by
 intro p hp;obtain⟨f,hf,rfl⟩:=am6.1 hp;have:=(List.mem_filter.1 hf).2;rw[amO]at this;exact this.1
