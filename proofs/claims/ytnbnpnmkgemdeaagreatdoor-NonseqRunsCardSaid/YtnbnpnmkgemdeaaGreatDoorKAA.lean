/- Parts. No condition. -/
import Derived.WalkKit
import Derived.Orders
import Derived.Deep.MidRow
import Derived.Deep.AppendSrc
import Derived.Great.BuildSlice
import Derived.Great.FillDense
set_option linter.unusedSimpArgs false
set_option linter.unusedVariables false
namespace Go.Proofs
theorem t7:True:=trivial
theorem m0 {p:Prop}(h:p:=by omega):p:=h
theorem m5 {p:Prop}(h:p:=by simp):p:=h
theorem m8 {p:Prop}(h:p:=by simp;omega):p:=h
theorem m9 {p:Prop}(h:p:=by decide):p:=h
theorem k7 {p:Prop}(h:p:=by kernel_rfl):p:=h
theorem r5 {p:Prop}(h:p:=by rfl):p:=h
end Go.Proofs
namespace Go.Proofs.YtnbnpnmkgemdeaaGreatDoor
abbrev ahQ := @Option.bind_some
abbrev ahR := @List.getElem?_eq_some_iff
abbrev ahS := @cond_false
abbrev ahT := @cond_true
abbrev ahU := @decide_eq_false
abbrev ahV := @decide_eq_true
abbrev ahW := @List.nil_append
abbrev ahX := @List.mem_of_getElem?
abbrev ahY := @List.getElem?_append_right
abbrev ahZ := @List.length_append
abbrev ah0 := @List.getElem?_eq_getElem
abbrev ah1 := @Nat.le_of_ble_eq_true
abbrev ah2 := @List.map_cons
abbrev ah3 := @List.length_map
abbrev ah4 := @List.map_append
abbrev ah5 := @List.getElem?_append_left
abbrev ah6 := @List.map_nil
abbrev ah7 := @Nat.le_refl
abbrev ah8 := @List.mem_cons
abbrev ah9 := @Bool.and_eq_true
abbrev ah_ := @List.getElem?_set_self
abbrev ah' := @List.getElem?_set_ne
abbrev aia := @Nat.zero_le
abbrev aib := @List.length_cons
abbrev aic := @List.getElem?_map
abbrev aid := @List.mem_cons_of_mem
abbrev aie := @Array.getElem?_eq_getElem
abbrev aif := @List.eq_nil_of_length_eq_zero
abbrev aig := @List.append_assoc
abbrev aih := @List.mem_append
abbrev aii := @of_decide_eq_true
abbrev aij := @List.getElem?_take
abbrev aik := @List.length_nil
abbrev ail := @List.drop_eq_getElem_cons
abbrev aim := @Option.some.inj
abbrev ain := @Bool.true_and
abbrev aio := @List.append_nil
abbrev aip := @List.mem_map
abbrev aiq := @List.length_eq_zero_iff
abbrev air := @Nat.mul_le_mul_right
abbrev ais := @List.flatMap_cons
abbrev ait := @Nat.lt_of_lt_of_le
abbrev aiu := @List.take_of_length_le
abbrev aiv := @Option.isSome_iff_exists
abbrev aiw := @Nat.zero_add
abbrev aix := @Array.getElem?_setIfInBounds_ne
abbrev aiy := @Array.getElem?_eq_some_iff
abbrev aiz := @List.take_append_drop
abbrev aiA := @List.getElem?_drop
abbrev aiB := @List.all_eq_true
abbrev aiC := @List.foldl_cons
abbrev aiD := @List.length_take
abbrev aiE := @List.getD_eq_getElem?_getD
abbrev aiF := @Array.getElem?_setIfInBounds_self_of_lt
abbrev aiG := @List.drop_length
abbrev aiH := @List.pairwise_cons
open Go.RowKit
inductive Nul where
 |ptr
 |iface
 |map
 |func
 deriving Inhabited,DecidableEq
def Nul.val:Nul->Value
 |.ptr => .pointer none
 |.iface => .nilIface
 |.map => .map none
 |.func => .nilFunc
inductive AC where
 |nul (k:Nul)
 |bool (b:Bool)
 |int (k:IntKind) (n:Int)
 |str (s:ByteArray)
 |lst (es:List (List AC))
 |ref (cs:List AC)
 |fn (f:FuncId) (Pz:List AC)
 deriving Inhabited
abbrev PHf:=Nat->Nat->Option Value
def ad5:Nat:=1
def FP (o:Nat):Option Value:=if o<20 then some (.int .u64 (10 ^ o))else none
def g_ (f:PHf):Prop :=∀ o u,FP o=some u->f ad5 o=some u
theorem g_.mono {f g:PHf}(h:g_ f)(k:∀ b o u,f b o=some u->g b o=some u):g_ g:=λo u e=>k _ _ _ (h o u e)
structure PH where
 fn:PHf
 tab:g_ fn
instance : CoeFun PH (λ_ => PHf) := ⟨PH.fn⟩
def PH.sub (R R':PH):Prop :=∀ b o u,R b o=some u->R' b o=some u
def PH.put (R:PH)(f:PHf)(h:∀ b o u,R b o=some u->f b o=some u):PH:=⟨f,R.tab.mono h⟩
theorem PH.sub_refl (R:PH):PH.sub R R:=λ_ _ _ h=>h
theorem PH.sub_trans {R R' Wp:PH}(h:PH.sub R R')(g:PH.sub R' Wp):PH.sub R Wp:=λb o u e=>g b o u (h b o u e)
inductive bK (R:PH):Value->AC->Prop
 |nul (k:Nul) (v:Value) (h:v=k.val):bK R v (.nul k)
 |bool (b:Bool):bK R (.bool b) (.bool b)
 |int (k:IntKind) (n:Int):bK R (.int k n) (.int k n)
 |str (s:ByteArray):bK R (.string s) (.str s)
 |lst (a:Option Addr) (n c:Nat) (es:List (List AC)) (k:Nat) (cv:Nat->Value) (b o:Nat) (hn:es.length=n) (hc:n<=c)
   (hk:∀ e∈es,e.length=k) (ha:0<n->a=some ⟨b,o,none⟩) (hr:∀ j,j<n*k->R b (o+j)=some (cv j))
   (he:∀ (i:Nat) e (j:Nat) x,es[i]?=some e->e[j]?=some x->bK R (cv (i*k+j)) x):bK R (.slice a n c) (.lst es)
 |ref (b o:Nat) (cs:List AC) (cv:Nat->Value) (hr:∀ j,j<cs.length->R b (o+j)=some (cv j))
   (he:∀ (j:Nat) x,cs[j]?=some x->bK R (cv j) x):bK R (.pointer (some ⟨b,o,none⟩)) (.ref cs)
 |fn (f:FuncId) (Pz:Array Value) (cs:List AC) (hs:Pz.size=cs.length)
   (he:∀ (j:Nat) v x,Pz[j]?=some v->cs[j]?=some x->bK R v x):bK R (.func (.func f) #[] Pz) (.fn f cs)
theorem bK.mono {R R':PH}(h:PH.sub R R'):∀ {v x},bK R v x->bK R' v x:=by
 intro v x hx
 induction hx with
 |nul k v h=>exact .nul k v h
 |bool b=>exact .bool b
 |int k n=>exact .int k n
 |str s=>exact .str s
 |lst a n c es k cv b o hn hc hk ha hr _ ih=>exact .lst a n c es k cv b o hn hc hk ha (λj hj=>h _ _ _ (hr j hj)) ih
 |ref b o cs cv hr _ ih=>exact .ref b o cs cv (λj hj=>h _ _ _ (hr j hj)) ih
 |fn f Pz cs hs _ ih=>exact .fn f Pz cs hs ih
inductive Cap where
 |c (x:AC)
 |ptr (id off:Nat)
 deriving Inhabited
inductive SV where
 |c (x:AC)
 |emp
 |own (es:List (List AC)) (t:Nat)
 |ptr (id off:Nat)
 |sl (id O9 lo n:Nat)
 |ep (id O9 i o:Nat)
 |mp (id:Nat)
 |clo (f:FuncId) (Pz:List Cap)
 deriving Inhabited
inductive PV where
 |one (x:AC)
 |agg (xs:List AC)
 deriving Inhabited
inductive CV where
 |val (p:PV)
 |tup (ps:List PV)
 deriving Inhabited
inductive AV where
 |one (x:SV)
 |agg (xs:List SV)
 |tup (ps:List PV)
 |tupS (xs:List SV)
 |undef
 deriving Inhabited
inductive Ob where
 |box (cs:List SV)
 |spare (n k:Nat)
 |row (O9:Nat) (es:List (List SV)) (k:Nat)
 |map (PQ:List (AC×AV))
 |dead
 deriving Inhabited
inductive Gh where
 |none
 |box (b:Nat)
 |arr (b c:Nat)
def Gh.block:Gh->Option Nat
 |.none=>Option.none
 |.box b=>some b
 |.arr b _=>some b
def Link (n:Nat)(v:Value):Gh->Prop
 |.none =>∃ a,v = .slice a 0 0
 |.arr b c=>v = .slice (some ⟨b,0,Option.none⟩) n c
 |.box _=>False
def Cap.rep (R:PH)(γ:List Gh):Cap->Value->Prop
 |.c x,v=>bK R v x
 |.ptr id off,v =>∃ b,v = .pointer (some ⟨b,off,none⟩)/\γ[id]?=some (.box b)
def agY (k lo n:Nat)(v:Value):Gh->Prop
 |.none=>v = .slice none 0 0/\n=0/\lo=0
 |.arr b c=>v = .slice (some ⟨b,lo*k,Option.none⟩) n (c-lo)\/(c=lo/\n=0 /\ ∃ a,v = .slice a 0 0)
 |.box _=>False
def agj (k i o:Nat)(v:Value):Gh->Prop
 |.arr b _=>v = .pointer (some ⟨b,i*k+o,Option.none⟩)
 |_=>False
def SV.rep (R:PH)(γ:List Gh)(L:List Ob):SV->Value->Prop
 |.c x,v=>bK R v x
 |.emp,v =>∃ a,v = .slice a 0 0
 |.own es t,v=>bK R v (.lst es)/\t<L.length /\ ∀ n k,L[t]?=some (.spare n k)->es.length<=n/\(∀ e∈es,e.length=k)/\(es.length=n ->∃ g,γ[t]?=some g/\Link n v g)
 |.ptr id off,v =>∃ b,v = .pointer (some ⟨b,off,none⟩)/\γ[id]?=some (.box b)
 |.sl id O9 lo n,v=>(v.cells=#[v]/\v.oneCell'=true)/\id<L.length /\ ∀ Pn es k,L[id]?=some (.row Pn es k)->O9<=Pn/\(O9=Pn->lo+n<=es.length /\ ∃ g,γ[id]?=some g/\agY k lo n v g)
 |.ep id O9 i o,v=>(v.cells=#[v]/\v.oneCell'=true)/\id<L.length /\ ∀ Pn es k,L[id]?=some (.row Pn es k)->O9<=Pn/\(O9=Pn->i<es.length /\ ∃ g,γ[id]?=some g/\agj k i o v g)
 |.mp id,v =>∃ b,v = .map (some b)/\γ[id]?=some (.box b)
 |.clo f Pz,v =>∃ vs:Array Value,v = .func (.func f) #[] vs/\vs.size=Pz.length /\ ∀ (j:Nat) u x,vs[j]?=some u->Pz[j]?=some x->x.rep R γ u
def PV.rep (R:PH):PV->Value->Prop
 |.one x,v=>bK R v x
 |.agg xs,v =>∃ vs:Array Value,v = .agg vs/\vs.size=xs.length /\ ∀ (j:Nat) u x,vs[j]?=some u->xs[j]?=some x->bK R u x
def CV.rep (R:PH):CV->Value->Prop
 |.val p,v=>p.rep R v
 |.tup ps,v =>∃ vs:Array Value,v = .tuple vs/\vs.size=ps.length /\ ∀ (j:Nat) u p,vs[j]?=some u->ps[j]?=some p->p.rep R u
def AV.rep (R:PH)(γ:List Gh)(L:List Ob):AV->Value->Prop
 |.one x,v=>x.rep R γ L v
 |.agg xs,v =>∃ vs:Array Value,v = .agg vs/\vs.size=xs.length /\ ∀ (j:Nat) u x,vs[j]?=some u->xs[j]?=some x->x.rep R γ L u
 |.tup ps,v =>∃ vs:Array Value,v = .tuple vs/\vs.size=ps.length /\ ∀ (j:Nat) u p,vs[j]?=some u->ps[j]?=some p->p.rep R u
 |.tupS xs,v =>∃ vs:Array Value,v = .tuple vs/\vs.size=xs.length /\ ∀ (j:Nat) u x,vs[j]?=some u->xs[j]?=some x->x.rep R γ L u
 |.undef,v=>v=Go.undef
def lg (R:PH)(γ:List Gh)(L:List Ob)(w:World):Ob->Gh->Prop
 |.box cs,.box b=>(∃ vs E,w.heap[b]?=some (.cells vs E (0,0))/\vs.size=cs.length /\ ∀ (j:Nat) u x,vs[j]?=some u->cs[j]?=some x->x.rep R γ L u) /\ ∀ o,R b o=none
 |.spare n k,.arr b c=>(∃ vs E,w.heap[b]?=some (.cells vs E (0,0))/\vs.size=c*k)/\n<=c/\0<k /\ ∀ o,n*k<=o->R b o=none
 |.spare n _,.none=>n=0
 |.row O9 es k,.arr b c=>(∃ vs E,(w.heap[b]?=some (.cells vs E (0,0))/\E=O9%65536/\65536<=O9)/\vs.size=c*k /\ ∀ (i:Nat) e (j:Nat) u x,es[i]?=some e->vs[i*k+j]?=some u->e[j]?=some x->x.rep R γ L u)/\es.length<=c/\0<k/\(∀ e∈es,e.length=k) /\ ∀ o,R b o=none
 |.row _ es _,.none=>es=[]
 |.map PQ,.box b=>(∃ es,w.heap[b]?=some (.map es es.size)/\es.size=PQ.length /\ ∀ (j:Nat) e p,es[j]?=some e->PQ[j]?=some p->e.born=j/\bK R e.key p.1/\p.2.rep R γ L e.val) /\ ∀ o,R b o=none
 |.dead,.none=>True
 |.dead,.box _=>True
 |_,_=>False
structure Inv (B:Nat->Prop)(R:PH)(γ:List Gh)(L:List Ob)(w:World):Prop where
 len:γ.length=L.length
 val:∀ b o u,R b o=some u->w.cell? ⟨b,o,none⟩=some u
 obj:∀ (id:Nat) x g,L[id]?=some x->γ[id]?=some g->lg R γ L w x g
 inj:∀ (i j:Nat) gi gj,γ[i]?=some gi->γ[j]?=some gj->i≠j ->∀ b,gi.block=some b->gj.block≠some b
 new:∀ (i:Nat) g b,γ[i]?=some g->g.block=some b ->¬ B b/\b<w.heap.size
 bsz:∀ b,B b->b<w.heap.size
abbrev Tm:=List (Nat×AV)
structure gv (N:Nat)(R:PH)(γ:List Gh)(L:List Ob)(T:Tm)(a:Act):Prop where
 size:a.tmps.size=N
 defers:a.defers=[]
 slot:∀ (t:Nat) x,T.lookup t=some x ->∃ u,a.tmps[t]?=some u/\x.rep R γ L u
structure Kept (B:Nat->Prop)(w w':World):Prop where
 os:w'.os=w.os
 tape:w'.tape=w.tape
 output:w'.output=w.output
 size:w.heap.size<=w'.heap.size
 block:∀ b,B b->w'.heap[b]?=w.heap[b]?
theorem Kept.refl (B:Nat->Prop)(w:World):Kept B w w:=⟨rfl,rfl,rfl,ah7 _,λ_ _=>rfl⟩
theorem Kept.trans {B:Nat->Prop}{a b c:World}(h:Kept B a b)(k:Kept B b c):Kept B a c :=
 ⟨k.os.trans h.os,k.tape.trans h.tape,k.output.trans h.output,Nat.le_trans h.size k.size,λi hi=>(k.block i hi).trans (h.block i hi)⟩
theorem Kept.mono {B B':Nat->Prop}{w w':World}(h:Kept B w w')(hB:∀ b,B' b->B b):Kept B' w w':=⟨h.os,h.tape,h.output,h.size,λk hk=>h.block k (hB k hk)⟩
theorem Kept.below {n:Nat}{w w':World}(h:Kept (· <n) w w'):Below n w w':=⟨h.os,h.tape,h.output,h.size,h.block⟩
theorem Kept.of {n:Nat}{w w':World}(h:Below n w w'):Kept (· <n) w w':=⟨h.os,h.tape,h.output,h.size,h.block⟩
structure Ext (B:Nat->Prop)(R R':PH)(w w':World):Prop where
 below:Kept B w w'
 sub:PH.sub R R'
 old:∀ b o,B b->R' b o=R b o
theorem Ext.refl (B:Nat->Prop)(R:PH)(w:World):Ext B R R w w:=⟨Kept.refl _ _,PH.sub_refl _,λ_ _ _=>rfl⟩
theorem Ext.trans {B:Nat->Prop}{R R' Wp:PH}{w w' w'':World}(h:Ext B R R' w w')(g:Ext B R' Wp w' w''):Ext B R Wp w w'' :=
 ⟨h.below.trans g.below,PH.sub_trans h.sub g.sub,λb o hb=>(g.old b o hb).trans (h.old b o hb)⟩
theorem lt_of_cell {w:World}{b o:Nat}{u:Value}(h:w.cell? ⟨b,o,none⟩=some u):b<w.heap.size:=by
 unfold World.cell? at h;simp only at h;split at h
 .rename_i hb;exact(aiy.1 hb).1
 .cases h
structure Mv (R R':PH)(γ γ':List Gh)(L L':List Ob):Prop where
 sub:PH.sub R R'
 len:L.length<=L'.length
 tok:∀ (t:Nat) n' k,t<L.length->L'[t]?=some (.spare n' k) ->∃ n,L[t]?=some (.spare n k)/\n<=n'/\(n=n'->γ'[t]?=γ[t]?)
 row:∀ (t:Nat) O9 Ql k,t<L.length->L'[t]?=some (.row O9 Ql k) ->∃ UB es,L[t]?=some (.row UB es k)/\UB<=O9/\(UB=O9->es.length=Ql.length/\γ'[t]?=γ[t]?)
 ptr:∀ (id:Nat) b,γ[id]?=some (.box b)->γ'[id]?=some (.box b)
theorem Cap.mv {R R':PH}{γ γ':List Gh}(hs:PH.sub R R')(hp:∀ (id:Nat) b,γ[id]?=some (.box b)->γ'[id]?=some (.box b)):∀ {x:Cap} {v:Value},x.rep R γ v->x.rep R' γ' v
 |.c _,_,hx=>bK.mono hs hx
 |.ptr id _,_,⟨b,h1,h2⟩=>⟨b,h1,hp id b h2⟩
theorem SV.mv {R R':PH}{γ γ':List Gh}{L L':List Ob}(h:Mv R R' γ γ' L L'):∀ {x:SV} {v:Value},x.rep R γ L v->x.rep R' γ' L' v
 |.c _,_,hx=>bK.mono h.sub hx
 |.emp,_,hx=>hx
 |.own es t,v,⟨h1,O8,h2⟩=>by
  refine⟨bK.mono h.sub h1,ait O8 h.len,λn' k e=>?_⟩;obtain⟨n,g1,g2,g3⟩:=h.tok t n' k O8 e;obtain⟨h3,h5,h4⟩:=h2 n k g1;refine⟨m0,h5,λe=>?_⟩;have:n=n':=m0
  rw[g3 this,<- this];exact h4 m0
 |.ptr id off,v,⟨b,h1,h2⟩=>⟨b,h1,h.ptr id b h2⟩
 |.sl id O9 lo n,v,⟨h1,O8,h2⟩=>by
  refine⟨h1,ait O8 h.len,λPn Ql k e=>?_⟩;obtain⟨UB,es,g1,g2,g3⟩:=h.row id Pn Ql k O8 e;obtain⟨h3,h4⟩:=h2 UB es k g1;refine⟨m0,λe=>?_⟩;obtain⟨g4,g5⟩:=g3 m0;rw[g5,<- g4];exact h4 m0
 |.ep id O9 i o,v,⟨h1,O8,h2⟩=>by
  refine⟨h1,ait O8 h.len,λPn Ql k e=>?_⟩;obtain⟨UB,es,g1,g2,g3⟩:=h.row id Pn Ql k O8 e;obtain⟨h3,h4⟩:=h2 UB es k g1;refine⟨m0,λe=>?_⟩;obtain⟨g4,g5⟩:=g3 m0;rw[g5,<- g4];exact h4 m0
 |.mp id,v,⟨b,h1,h2⟩=>⟨b,h1,h.ptr id b h2⟩
 |.clo f Pz,v,⟨vs,h1,h2,h3⟩=>⟨vs,h1,h2,λj u x hu hx=>Cap.mv h.sub h.ptr (h3 j u x hu hx)⟩
theorem PV.mono {R R':PH}(h:PH.sub R R'):∀ {p:PV} {v:Value},p.rep R v->p.rep R' v
 |.one _,_,hx=>bK.mono h hx
 |.agg _,_,⟨vs,h1,h2,h3⟩=>⟨vs,h1,h2,λj u x hu hx=>bK.mono h (h3 j u x hu hx)⟩
theorem CV.mono {R R':PH}(h:PH.sub R R'):∀ {p:CV} {v:Value},p.rep R v->p.rep R' v
 |.val _,_,hx=>PV.mono h hx
 |.tup _,_,⟨vs,h1,h2,h3⟩=>⟨vs,h1,h2,λj u x hu hx=>PV.mono h (h3 j u x hu hx)⟩
theorem AV.mv {R R':PH}{γ γ':List Gh}{L L':List Ob}(h:Mv R R' γ γ' L L'):∀ {x:AV} {v:Value},x.rep R γ L v->x.rep R' γ' L' v
 |.one _,_,hx=>SV.mv h hx
 |.agg _,_,⟨vs,h1,h2,h3⟩=>⟨vs,h1,h2,λj u x hu hx=>SV.mv h (h3 j u x hu hx)⟩
 |.tup _,_,⟨vs,h1,h2,h3⟩=>⟨vs,h1,h2,λj u x hu hx=>PV.mono h.sub (h3 j u x hu hx)⟩
 |.tupS _,_,⟨vs,h1,h2,h3⟩=>⟨vs,h1,h2,λj u x hu hx=>SV.mv h (h3 j u x hu hx)⟩
 |.undef,_,hx=>hx
theorem Mv.refl {R:PH}{γ:List Gh}{L:List Ob}:Mv R R γ γ L L:=⟨PH.sub_refl _,ah7 _,λ_ n _ _ h=>⟨n,h,ah7 _,λ_=>rfl⟩,λ_ O9 es _ _ h=>⟨O9,es,h,ah7 _,λ_=>⟨rfl,rfl⟩⟩,λ_ _ h=>h⟩
theorem Mv.of_sub {R R':PH}{γ:List Gh}{L:List Ob}(h:PH.sub R R'):Mv R R' γ γ L L:=⟨h,ah7 _,λ_ n _ _ h=>⟨n,h,ah7 _,λ_=>rfl⟩,λ_ O9 es _ _ h=>⟨O9,es,h,ah7 _,λ_=>⟨rfl,rfl⟩⟩,λ_ _ h=>h⟩
theorem Mv.trans {R R' Wp:PH}{γ γ' γ'':List Gh}{L L' Yn:List Ob}(h:Mv R R' γ γ' L L')(g:Mv R' Wp γ' γ'' L' Yn):Mv R Wp γ γ'' L Yn :=
 ⟨PH.sub_trans h.sub g.sub,Nat.le_trans h.len g.len,λt n2 k O8 e=>by
  obtain⟨n1,b1,b2,b3⟩:=g.tok t n2 k (ait O8 h.len) e;obtain⟨n,a1,a2,a3⟩:=h.tok t n1 k O8 b1;exact⟨n,a1,m0,λe=>(b3 m0).trans (a3 m0)⟩,λt v e2 k O8 e=>by
  obtain⟨v1,e1,b1,b2,b3⟩:=g.row t v e2 k (ait O8 h.len) e;obtain⟨v0,e0,a1,a2,a3⟩:=h.row t v1 e1 k O8 b1;exact⟨v0,e0,a1,m0,λe=>⟨(a3 m0).1.trans (b3 m0).1,(b3 m0).2.trans (a3 m0).2⟩⟩,λid b e=>g.ptr id b (h.ptr id b e)⟩
theorem gv.mv {N:Nat}{R R':PH}{γ γ':List Gh}{L L':List Ob}{T:Tm}{a:Act}(h:gv N R γ L T a)(m:Mv R R' γ γ' L L'):gv N R' γ' L' T a :=
 ⟨h.size,h.defers,λt x e=>let ⟨u,h1,h2⟩:=h.slot t x e;⟨u,h1,AV.mv m h2⟩⟩
theorem lg.mv {R R':PH}{γ γ':List Gh}{L L':List Ob}{w w':World}{x:Ob}{g:Gh}(h:lg R γ L w x g)(m:Mv R R' γ γ' L L')
  (hw:∀ b,g.block=some b->w'.heap[b]?=w.heap[b]?) (hR:∀ b o,g.block=some b->R b o=none->R' b o=none):lg R' γ' L' w' x g:=by
 match x,g,h with
 |.box cs,.box b,⟨⟨vs,E,h1,h2,h3⟩,h4⟩=>exact⟨⟨vs,E,(hw b rfl).trans h1,h2,λj u x hu hx=>SV.mv m (h3 j u x hu hx)⟩,λo=>hR b o rfl (h4 o)⟩
 |.spare n k,.arr b c,⟨⟨vs,E,h1,h2⟩,h3,h4,h5⟩=>exact⟨⟨vs,E,(hw b rfl).trans h1,h2⟩,h3,h4,λo ho=>hR b o rfl (h5 o ho)⟩
 |.spare n k,.none,h=>exact h
 |.row O9 es k,.arr b c,⟨⟨vs,E,h1,h2,h3⟩,h4,h5,h6,h7⟩=>exact⟨⟨vs,E,⟨(hw b rfl).trans h1.1,h1.2⟩,h2,λi e j u x he hu hx=>SV.mv m (h3 i e j u x he hu hx)⟩,h4,h5,h6,λo=>hR b o rfl (h7 o)⟩
 |.row O9 es k,.none,h=>exact h
 |.map PQ,.box b,⟨⟨es,h1,h2,h3⟩,h4⟩=>exact⟨⟨es,(hw b rfl).trans h1,h2,λj e p he hp=>⟨(h3 j e p he hp).1,bK.mono m.sub (h3 j e p he hp).2.1,AV.mv m (h3 j e p he hp).2.2⟩⟩,λo=>hR b o rfl (h4 o)⟩
 |.dead,.none,h=>exact h
 |.dead,.box _,h=>exact h
theorem ph_ {p:Prop}(h:p:=by repeat' (first|exact t7|rfl|exact ah1 rfl|omega|apply And.intro)):p:=h
theorem fx_ {p:Prop}(hb:p)(h:p->False:=by first|decide|(intro h;simp at h;done)|(intro h;simp at h;omega)):False:=h hb
def dZ (P:Program)(t:TypeId):Option Nat:=(P.info? t).map (·.size)
def G9 (P:Program)(t:TypeId):Option Bool :=
 match P.underlying t with
 |some (.struct _)=>some true
 |some (.array _ _)=>some true
 |some _=>some false
 |none=>none
def mM (P:Program)(t:TypeId):Option TypeId :=
 match P.underlying t with
 |some (.slice e)=>some e
 |_=>none
def wc (P:Program)(s:TypeId)(i:Nat):Option (Nat×TypeId) :=
 match P.underlying s with
 |some (.struct fs)=>(fs[i]?).map λf=>(f.offset,f.type)
 |_=>none
def SV.ofVal:Value->Option SV
 |.bool b=>some (.c (.bool b))
 |.int k n=>some (.c (.int k n))
 |.string s=>some (.c (.str s))
 |.slice none 0 0=>some .emp
 |.pointer none=>some (.c (.nul .ptr))
 |.nilIface=>some (.c (.nul .iface))
 |.map none=>some (.c (.nul .map))
 |.nilFunc=>some (.c (.nul .func))
 |_=>none
def svs:List Value->Option (List SV)
 |[]=>some []
 |v::vs=>match SV.ofVal v,svs vs with
  |some x,some xs=>some (x::xs)
  |_,_=>none
def AV.ofVal:Value->Option AV
 |.agg vs=>(svs vs.toList).map .agg
 |v=>(SV.ofVal v).map .one
inductive Sc where
 |int (k:IntKind)
 |bool
 |str
 deriving DecidableEq
structure TI where
 size:Nat->Option Nat
 agg:Nat->Option Bool
 elem:Nat->Option Nat
 field:Nat->Nat->Option (Nat×Nat)
 zero:Nat->Option AV
 bytes:Nat->Option Nat
 kind:Nat->Option TypeDesc
 struct:Nat->Bool
 zok:Nat->Bool
 eqs:Nat->Option (List Sc)
 owns:Nat->Bool
 dyn:Bool:=false
 soft:Bool:=false
def look (T:Tm):Operand->Option AV
 |.tmp t=>T.lookup t
 |.const v=>AV.ofVal v
 |.global _=>none
 |.func f=>some (.one (.c (.fn f [])))
def acf (op:BinOp)(k:IntKind)(a b:Int):Option (AC×Prop) :=
 match op with
 |.add=>some (.int k (k.wrap (a+b)),True)
 |.sub=>some (.int k (k.wrap (a-b)),True)
 |.mul=>some (.int k (k.wrap (a*b)),True)
 |.quo=>some (.int k (k.wrap (a.tdiv b)),b≠0)
 |.rem=>some (.int k (a.tmod b),b≠0)
 |.eql=>some (.bool (decide (a=b)),True)
 |.neq=>some (.bool (decide (a≠b)),True)
 |.lss=>some (.bool (decide (a<b)),True)
 |.leq=>some (.bool (decide (a<=b)),True)
 |.gtr=>some (.bool (decide (b<a)),True)
 |.geq=>some (.bool (decide (b<=a)),True)
 |.and=>some (.int k (k.wrap (BitVec.ofInt k.bits a &&& BitVec.ofInt k.bits b).toNat),True)
 |.or=>some (.int k (k.wrap (BitVec.ofInt k.bits a |||BitVec.ofInt k.bits b).toNat),True)
 |_=>none
def aeZ (op:BinOp)(k:IntKind)(a b:Int):Option (AC×Prop) :=
 match op with
 |.shl=>some (.int k (k.wrap (a*2 ^ (min b.toNat k.bits))),0<=b)
 |.shr=>some (.int k (a.fdiv (2 ^ (min b.toNat k.bits))),0<=b)
 |_=>none
def acb (op:BinOp)(a b:ByteArray):Option (AC×Prop) :=
 match op with
 |.add=>some (.str (a++b),a.size+b.size<=9223372036854775807)
 |.eql=>some (.bool (a.toList==b.toList),True)
 |.neq=>some (.bool (!(a.toList==b.toList)),True)
 |.lss=>some (.bool (Op.bytesLess a.toList b.toList),True)
 |.leq=>some (.bool (Op.bytesLess a.toList b.toList||a.toList==b.toList),True)
 |.gtr=>some (.bool (!(Op.bytesLess a.toList b.toList||a.toList==b.toList)),True)
 |.geq=>some (.bool (!Op.bytesLess a.toList b.toList),True)
 |_=>none
theorem DI {R:PH}{a b:Bool}(h:a=b):bK R (.bool a) (.bool b):=by rw[h];exact .bool b
theorem BW {P:Program}{w:World}{op:BinOp}{t:TypeId}{x y:Operand}{k:IntKind}{a b:Int}{r:AC}{φ:Prop}(h:acf op k a b=some (r,φ))(hφ:φ) :
  ∃ u,((do eqGuard op t x y (.int k a) (.int k b);binOp op t (.int k a) (.int k b):Sem Value)).run P w = .ok u w /\ ∀ R,bK R u r:=by
 cases op<;>first|(injection h with h;injection h with h1 h2;subst h1 h2)|(exact nomatch h)
 all_goals
  refine⟨_,by simp (config :={decide:=true}) [eqGuard,binOp,Op.intArith,Op.intDiv,Op.intCmp,Op.intBits,go_sem,hφ];rfl,λR=>?_⟩
  first|constructor|(apply DI;simp[bne];rfl)
theorem EZ {P:Program}{w:World}{op:BinOp}{t:TypeId}{x y:Operand}{k k':IntKind}{a b:Int}{r:AC}{φ:Prop}(h:aeZ op k a b=some (r,φ))(hφ:φ) :
  ∃ u,((do eqGuard op t x y (.int k a) (.int k' b);binOp op t (.int k a) (.int k' b):Sem Value)).run P w = .ok u w /\ ∀ R,bK R u r:=by
 cases op<;>first|(injection h with h;injection h with h1 h2;subst h1 h2)|(exact nomatch h)
 all_goals
  have hn:¬ b<0:=m0
  refine⟨_,by simp[eqGuard,binOp,Op.shift,go_sem,hn];rfl,λR=>?_⟩;constructor
theorem BO {P:Program}{w:World}{op:BinOp}{t:TypeId}{x y:Operand}{a b:ByteArray}{r:AC}{φ:Prop}(h:acb op a b=some (r,φ))(hφ:φ) :
  ∃ u,((do eqGuard op t x y (.string a) (.string b);binOp op t (.string a) (.string b):Sem Value)).run P w = .ok u w /\ ∀ R,bK R u r:=by
 cases op<;>first|(injection h with h;injection h with h1 h2;subst h1 h2)|(exact nomatch h)
 case add =>
  refine⟨.string (a++b),?_,λR => .str _⟩;have:¬ (((a.size+b.size:Nat):Int)>IntKind.i64.max):=by
   show ¬ (((a.size+b.size:Nat):Int)>9223372036854775807);omega
  simp only[eqGuard,binOp,Op.stringOp,if_neg this];simp (config :={decide:=true}) [go_sem]
 all_goals
  refine⟨_,by simp (config :={decide:=true}) [eqGuard,binOp,Op.stringOp,go_sem];rfl,λR=>?_⟩
  first|constructor|(apply DI;simp)
def oY:List Cap->Option (List AC)
 |[]=>some []
 |.c x::xs=>(oY xs).map (x :: ·)
 |_=>none
def SV.norm:SV->Option AC
 |.c x=>some x
 |.emp=>some (.lst [])
 |.own es _=>some (.lst es)
 |.clo f Pz=>(oY Pz).map (.fn f)
 |_=>none
def jh:List SV->Option (List AC)
 |[]=>some []
 |x::xs=>match x.norm,jh xs with
  |some y,some ys=>some (y::ys)
  |_,_=>none
def AV.norm:AV->Option PV
 |.one x=>x.norm.map .one
 |.agg xs=>(jh xs).map .agg
 |_=>none
def AV.cells:AV->Option (List SV)
 |.one x=>some [x]
 |.agg xs=>some xs
 |_=>none
def PV.av:PV->AV
 |.one x => .one (.c x)
 |.agg xs => .agg (xs.map .c)
def CV.av:CV->AV
 |.val p=>p.av
 |.tup ps => .tup ps
section
variable {P:Program} {B:Nat->Prop} {R:PH} {γ:List Gh} {L:List Ob} {w:World}
theorem dS (R:PH)(a:Option Addr)(c:Nat):bK R (.slice a 0 c) (.lst []) :=
 .lst a 0 c [] 0 (λ_=>Go.undef) 0 0 rfl (aia _) (λ_ h=>nomatch h) (λh=>absurd h m0) (λj hj=>absurd hj m0) (λi e j x h=>by simp at h)
theorem wh:∀ {xs:List Cap} {ys:List AC},oY xs=some ys->xs.length=ys.length
 |[],ys,h=>by injection h with h;subst h;rfl
 |.c x::xs,ys,h=>by
  cases hq:oY xs with
  |none=>simp[oY,hq]at h
  |some zs=>simp[oY,hq]at h;subst h;simp[wh hq]
 |.ptr _ _::xs,ys,h=>by cases h
theorem wO:∀ {xs:List Cap} {ys:List AC},oY xs=some ys ->∀ (j:Nat) y,ys[j]?=some y->xs[j]?=some (.c y)
 |[],ys,h,j,y,hy=>by injection h with h;subst h;simp at hy
 |.c x::xs,ys,h,j,y,hy=>by
  cases hq:oY xs with
  |none=>simp[oY,hq]at h
  |some zs =>
   simp[oY,hq]at h;subst h
   cases j with
   |zero=>simpa using hy
   |succ j=>simpa using wO hq j y (by simpa using hy)
 |.ptr _ _::xs,ys,h,j,y,hy=>by cases h
theorem SV.norm_rep {x:SV}{v:Value}{y:AC}(h:x.rep R γ L v)(hy:x.norm=some y):bK R v y:=by
 cases x with
 |c z=>injection hy with hy;subst hy;exact h
 |emp=>injection hy with hy;subst hy;obtain⟨a,rfl⟩:=h;exact dS _ _ _
 |own es t=>injection hy with hy;subst hy;exact h.1
 |ptr id off=>cases hy
 |sl id O9 lo n=>cases hy
 |ep id O9 i o=>cases hy
 |mp id=>cases hy
 |clo f Pz =>
  cases hq:oY Pz with
  |none=>simp[SV.norm,hq]at hy
  |some cs =>
   simp[SV.norm,hq]at hy;subst hy;obtain⟨vs,rfl,h2,h3⟩:=h;refine .fn f vs cs (by rw[h2,wh hq]) λj v x hv hx=>?_
   exact h3 j v _ hv (wO hq j x hx)
theorem iG:∀ {xs:List SV} {ys:List AC},jh xs=some ys->ys.length=xs.length
 |[],ys,h=>by injection h with h;subst h;rfl
 |x::xs,ys,h=>by
  unfold jh at h;split at h
  .rename_i y zs h1 h2
   injection h with h;subst h
   simp[iG h2]
  .cases h
theorem nu:∀ {xs:List SV} {ys:List AC},jh xs=some ys ->∀ (j:Nat) x y,xs[j]?=some x->ys[j]?=some y->x.norm=some y
 |[],ys,h,j,x,y,hx,hy=>by simp at hx
 |x0::xs,ys,h,j,x,y,hx,hy=>by
  unfold jh at h;split at h
  .rename_i y0 zs h1 h2
   injection h with h;subst h
   cases j with
   |zero=>simp at hx hy;subst hx hy;exact h1
   |succ j=>exact nu h2 j x y (by simpa using hx) (by simpa using hy)
  .cases h
theorem AV.norm_rep {x:AV}{v:Value}{y:PV}(h:x.rep R γ L v)(hy:x.norm=some y):y.rep R v:=by
 cases x with
 |one x =>
  cases hn:x.norm with
  |none=>simp[AV.norm,hn]at hy
  |some z =>
   simp[AV.norm,hn]at hy;subst hy;exact SV.norm_rep h hn
 |agg xs =>
  cases hn:jh xs with
  |none=>simp[AV.norm,hn]at hy
  |some zs =>
   simp[AV.norm,hn]at hy;subst hy;obtain⟨vs,h1,h2,h3⟩:=h;refine⟨vs,h1,by rw[h2,iG hn],λj u y hu hy=>?_⟩;have hj:j<xs.length:=by rw[<- h2];exact(aiy.1 hu).1
   exact SV.norm_rep (h3 j u _ hu (ah0 hj)) (nu hn j _ _ (ah0 hj) hy)
 |tup ps=>cases hy
 |tupS xs=>cases hy
 |undef=>cases hy
theorem PV.av_rep {p:PV}{v:Value}(h:p.rep R v):p.av.rep R γ L v:=by
 cases p with
 |one x=>exact h
 |agg xs =>
  obtain⟨vs,h1,h2,h3⟩:=h;refine⟨vs,h1,by simp[h2],λj u x hu hx=>?_⟩;rw[aic]at hx
  cases RF:xs[j]? with
  |none=>simp[RF]at hx
  |some y=>simp[RF]at hx;subst hx;exact h3 j u y hu RF
theorem CV.av_rep {p:CV}{v:Value}(h:p.rep R v):p.av.rep R γ L v:=by
 cases p with
 |val p=>exact PV.av_rep h
 |tup ps=>exact h
theorem bK.one {v:Value}{x:AC}(h:bK R v x):v.cells=#[v]/\v.oneCell'=true:=by
 cases h<;>first|exact⟨rfl,rfl⟩|(rename_i k h;subst h;cases k<;>exact⟨rfl,rfl⟩)
theorem SV.rep_one {v:Value}{x:SV}(h:x.rep R γ L v):v.cells=#[v]/\v.oneCell'=true:=by
 cases x with
 |c x=>exact bK.one h
 |emp=>obtain⟨a,rfl⟩:=h;exact⟨rfl,rfl⟩
 |own es t=>exact bK.one h.1
 |ptr id off=>obtain⟨b,rfl,_⟩:=h;exact⟨rfl,rfl⟩
 |sl id O9 lo n=>exact h.1
 |ep id O9 i o=>exact h.1
 |mp id=>obtain⟨b,rfl,_⟩:=h;exact⟨rfl,rfl⟩
 |clo f Pz=>obtain⟨vs,rfl,_⟩:=h;exact⟨rfl,rfl⟩
theorem SV.ofVal_rep {v:Value}{x:SV}(h:SV.ofVal v=some x):x.rep R γ L v:=by
 unfold SV.ofVal at h;split at h<;>first|(cases h;done)|(injection h with h;subst h)
 .exact .bool _
 .exact .int _ _
 .exact .str _
 .exact⟨_,rfl⟩
 .exact .nul _ _ rfl
 .exact .nul _ _ rfl
 .exact .nul _ _ rfl
 .exact .nul _ _ rfl
theorem Lu:∀ {vs:List Value} {xs:List SV},svs vs=some xs->vs.length=xs.length
 |[],xs,h=>by injection h with h;subst h;rfl
 |v::vs,xs,h=>by
  unfold svs at h;split at h
  .rename_i h1 h2
   injection h with h;subst h
   simp[Lu h2]
  .cases h
theorem MH:∀ {vs:List Value} {xs:List SV},svs vs=some xs ->∀ (j:Nat) u x,vs[j]?=some u->xs[j]?=some x->x.rep R γ L u
 |[],xs,h,j,u,x,hu,hx=>by simp at hu
 |v::vs,xs,h,j,u,x,hu,hx=>by
  unfold svs at h;split at h
  .rename_i h1 h2
   injection h with h;subst h
   cases j with
   |zero=>simp at hu hx;subst hu hx;exact SV.ofVal_rep h1
   |succ j=>exact MH h2 j u x (by simpa using hu) (by simpa using hx)
  .cases h
theorem AV.ofVal_rep {v:Value}{x:AV}(h:AV.ofVal v=some x):x.rep R γ L v:=by
 unfold AV.ofVal at h;split at h
 .rename_i vs
  cases hs:svs vs.toList with
  |none=>simp[hs]at h
  |some xs =>
   simp[hs]at h;subst h;exact⟨vs,rfl,by rw[<- Lu hs];simp,λj u x hu hx=>MH hs j u x (by simpa using hu) hx⟩
 .rename_i hv
  cases hs:SV.ofVal v with
  |none=>simp[hs]at h
  |some y=>simp[hs]at h;subst h;exact SV.ofVal_rep hs
theorem zO {N:Nat}{T:Tm}{a:Act}(hT:gv N R γ L T a){x:Operand}{v:AV}(h:look T x=some v):v.rep R γ L (a.eval x):=by
 cases x with
 |tmp t =>
  obtain⟨u,h1,h2⟩:=hT.slot t v h;have:a.eval (.tmp t)=u:=by simp[Act.eval,Array.getD_eq_getD_getElem?,h1]
  rw[this];exact h2
 |const c=>exact AV.ofVal_rep h
 |global g=>cases h
 |func f =>
  injection h with h;subst h
  exact .fn f #[] [] rfl (λj v x hv=>by simp at hv)
end
def BM:AC->Option Value
 |.bool b=>some (.bool b)
 |.int k n=>some (.int k n)
 |.str s=>some (.string s)
 |_=>none
def fh:List SV->Option (List Value)
 |[]=>some []
 |.c x::xs=>match BM x,fh xs with
  |some v,some vs=>some (v::vs)
  |_,_=>none
 |_::_=>none
def cF:List SV->List SV->Bool
 |[],[]=>true
 |.c (.bool a)::xs,.c (.bool b)::ys=>(a==b)&&cF xs ys
 |.c (.int _ a)::xs,.c (.int _ b)::ys=>decide (a=b)&&cF xs ys
 |.c (.str a)::xs,.c (.str b)::ys=>(a.toList==b.toList)&&cF xs ys
 |_,_=>false
def KJ (P:Program)(t:TypeId)(xs ys:List SV):Prop :=
 ∀ vs us,fh xs=some vs->fh ys=some us ->∀ w,(Op.equal t (.agg vs.toArray) (.agg us.toArray)).run P w = .ok (cF xs ys) w
def dY:List Sc->List SV->Bool
 |[],[]=>true
 |.int k::sh,.c (.int k' _)::xs=>decide (k=k')&&dY sh xs
 |.bool::sh,.c (.bool _)::xs=>dY sh xs
 |.str::sh,.c (.str _)::xs=>dY sh xs
 |_,_=>false
theorem jw:∀ {sh:List Sc} {xs:List SV},dY sh xs=true->(fh xs).isSome
 |[],[],_=>rfl
 |.int k::sh,.c (.int k' n)::xs,h=>by
  simp only[dY,ah9]at h;obtain⟨vs,hv⟩:=aiv.1 (jw h.2);simp[fh,BM,hv]
 |.bool::sh,.c (.bool b)::xs,h=>by
  obtain⟨vs,hv⟩:=aiv.1 (jw (sh:=sh) (xs:=xs) h);simp[fh,BM,hv]
 |.str::sh,.c (.str b)::xs,h=>by
  obtain⟨vs,hv⟩:=aiv.1 (jw (sh:=sh) (xs:=xs) h);simp[fh,BM,hv]
def x2 (P:Program)(t:TypeId):Bool :=
 match P.underlying t with
 |some (.struct fs)=>fs.all λf=>(dZ P f.type).isSome
 |_=>false
def zeroOf (P:Program)(t:TypeId):Option AV:=(P.info? t).bind λi=>i.zero.bind AV.ofVal
def sR (ti:TI)(op:BinOp)(t:TypeId):AV->AV->Option (AV×Prop)
 |.one (.c (.int k a)),.one (.c (.int k' b))=>match aeZ op k a b with
  |some (r,φ)=>some (.one (.c r),φ)
  |none=>match decide (k=k'),acf op k a b with
   |true,some (r,φ)=>some (.one (.c r),φ)
   |_,_=>none
 |.one (.c (.str a)),.one (.c (.str b))=>match acb op a b with
  |some (r,φ)=>some (.one (.c r),φ)
  |none=>none
 |.one (.c (.bool a)),.one (.c (.bool b))=>match op with
  |.eql=>some (.one (.c (.bool (a==b))),ti.kind t=some .bool)
  |.neq=>some (.one (.c (.bool (!(a==b)))),ti.kind t=some .bool)
  |_=>none
 |.agg xs,.agg ys=>match ti.eqs t with
  |some sh=>match op with
   |.eql=>some (.one (.c (.bool (cF xs ys))),dY sh xs=true/\dY sh ys=true)
   |.neq=>some (.one (.c (.bool (!cF xs ys))),dY sh xs=true/\dY sh ys=true)
   |_=>none
  |none=>none
 |_,_=>none
def fZ (ti:TI)(L:List Ob)(t:TypeId):AV->Option (AV×Prop)
 |.one (.c (.ref cs))=>match ti.agg t,ti.size t with
  |some false,_=>match cs with
   |x::_=>some (.one (.c x),True)
   |[]=>none
  |some true,some n=>some (.agg ((cs.take n).map .c),n<=cs.length)
  |_,_=>none
 |.one (.ptr id off)=>match L[id]? with
  |some (.box cs)=>match ti.agg t,ti.size t with
   |some false,_=>match cs[off]? with
    |some x=>some (.one x,True)
    |none=>none
   |some true,some n=>some (.agg ((cs.drop off).take n),off+n<=cs.length)
   |_,_=>none
  |_=>none
 |.one (.ep id O9 i o)=>match L[id]? with
  |some (.row Pn es _)=>match es[i]?,ti.agg t,ti.size t with
   |some e,some false,_=>match e[o]? with
    |some x=>some (.one x,O9=Pn)
    |none=>none
   |some e,some true,some n=>some (.agg ((e.drop o).take n),O9=Pn/\o+n<=e.length)
   |_,_,_=>none
  |_=>none
 |_=>none
def ib (ti:TI)(s:TypeId)(i0:Nat):AV->Option (AV×Prop)
 |.one (.c (.ref cs))=>match ti.field s i0 with
  |some (o,t)=>match ti.size t with
   |some (_+1)=>some (.one (.c (.ref (cs.drop o))),o<=cs.length)
   |_=>none
  |none=>none
 |.one (.ptr id off)=>match ti.field s i0 with
  |some (o,t)=>match ti.size t with
   |some (_+1)=>some (.one (.ptr id (off+o)),True)
   |_=>none
  |none=>none
 |_=>none
def qM (ti:TI)(s:TypeId)(i:Nat):AV->Option (AV×Prop)
 |.agg xs=>match ti.field s i with
  |some (o,t)=>match ti.agg t,ti.size t with
   |some false,_=>match xs[o]? with
    |some x=>some (.one x,True)
    |none=>none
   |some true,some n=>some (.agg ((xs.drop o).take n),o+n<=xs.length)
   |_,_=>none
  |none=>none
 |_=>none
def cX:AV->Option (List (List AC))
 |.one (.c (.lst es))=>some es
 |.one (.own es _)=>some es
 |.one .emp=>some []
 |_=>none
def dX (ti:TI)(L:List Ob)(s:TypeId)(i0 id O9 i off:Nat):Option (AV×Prop) :=
 match L[id]?,ti.field s i0 with
 |some (.row Pn _ _),some (o,t)=>match ti.size t with
  |some (_+1)=>some (.one (.ep id O9 i (off+o)),O9=Pn)
  |_=>none
 |_,_=>none
def gU (ti:TI)(L:List Ob)(t:TypeId)(id O9 n:Nat):Option (AV×Prop) :=
 match L[id]? with
 |some (.row Pn _ _)=>some (.one (.c (.int .i64 n)),O9=Pn/\(ti.elem t).isSome)
 |_=>none
def ec (ti:TI)(L:List Ob)(t:TypeId)(id O9 lo n:Nat)(ix:AV):Option (AV×Prop) :=
 match L[id]?,ix,(ti.elem t).bind ti.size with
 |some (.row Pn _ k'),.one (.c (.int _ i)),some k=>some (.one (.ep id O9 (lo+i.toNat) 0),(O9=Pn/\k=k')/\0<=i/\i<n)
 |_,_,_=>none
def fC (ti:TI)(t:TypeId)(x ix:AV):Option (AV×Prop) :=
 match cX x,ix,(ti.elem t).bind ti.size with
 |some es,.one (.c (.int _ i)),some k=>match es[i.toNat]? with
  |some e=>some (.one (.c (.ref e)),0<=i/\e.length=k)
  |none=>none
 |_,_,_=>none
def nr (ti:TI)(t:TypeId)(x ix:AV):Option (AV×Prop) :=
 match x,ix with
 |.one (.c (.str s)),.one (.c (.int _ i))=>match s[i.toNat]? with
  |some b=>some (.one (.c (.int .u8 b.toNat)),0<=i/\ti.kind t=some .string)
  |none=>none
 |.agg zs,.one (.c (.int _ i))=>match ti.kind t with
  |some (.array n e)=>match ti.agg e,ti.size e with
   |some false,some k=>match zs[i.toNat*k]? with
    |some x=>some (.one x,0<=i/\i<(n:Int))
    |none=>none
   |some true,some k=>some (.agg ((zs.drop (i.toNat*k)).take k),(0<=i/\i<(n:Int))/\i.toNat*k+k<=zs.length)
   |_,_=>none
  |_=>none
 |_,_=>none
def jM (d:Nat):Option AV->Option Int
 |none=>some d
 |some (.one (.c (.int _ i)))=>some i
 |_=>none
def dJ (ti:TI)(L:List Ob)(t:TypeId)(x:AV)(lo hi:Option AV):Option (AV×Prop) :=
 match x with
 |.one (.c (.str s))=>match jM 0 lo,jM s.size hi with
  |some l,some h=>some (.one (.c (.str (s.extract l.toNat h.toNat))),0<=l/\l<=h/\h<=s.size/\ti.kind t=some .string)
  |_,_=>none
 |.one (.sl id O9 Xi n)=>match L[id]?,(ti.elem t).bind ti.size with
  |some (.row Pn _ k'),some k=>match jM 0 lo,jM n hi with
   |some l,some h=>some (.one (.sl id O9 (Xi+l.toNat) (h.toNat-l.toNat)),O9=Pn/\k=k'/\0<=l/\l<=h/\h<=n)
   |_,_=>none
  |_,_=>none
 |_=>match cX x,(ti.elem t).bind ti.size with
  |some es,some k=>match jM 0 lo,jM es.length hi with
   |some l,some h=>some (.one (.c (.lst ((es.take h.toNat).drop l.toNat))),0<=l/\l<=h/\h<=es.length /\ ∀ e∈es,e.length=k)
   |_,_=>none
  |_,_=>none
def zZ (ti:TI)(t:TypeId)(x:AV):Option (AV×Prop) :=
 match x with
 |.one (.c (.str s))=>some (.one (.c (.int .i64 s.size)),ti.kind t=some .string)
 |_=>match cX x with
  |some es=>some (.one (.c (.int .i64 es.length)),(ti.elem t).isSome)
  |none=>none
def rF (mx:Bool):AV->AV->Option (AV×Prop)
 |.one (.c (.int k a)),.one (.c (.int _ b))=>some (.one (.c (.int k (if mx then(if b>a then b else a)else(if b<a then b else a)))),True)
 |_,_=>none
def splice (zs:List SV)(o:Nat)(xs:List SV):List SV:=zs.take o++xs++zs.drop (o+xs.length)
def wu (ti:TI)(t:TypeId)(i:Nat):Option (Nat×TypeId) :=
 match ti.kind t with
 |some (.array _ e)=>(ti.size e).map λk=>(i*k,e)
 |_=>ti.field t i
def bok (ti:TI)(t:TypeId):Bool :=
 match ti.kind t with
 |some (.array _ e)=>(ti.size e).isSome
 |_=>ti.struct t
def lk (ti:TI)(t:TypeId):List SV->List (Nat×Option AV)->Option (List SV×Prop)
 |zs,[]=>some (zs,True)
 |zs,(i,v)::ps=>match v.bind AV.cells,wu ti t i with
  |some xs,some (o,ty)=>match lk ti t (splice zs o xs) ps with
   |some (r,φ)=>some (r,(ti.size ty=some xs.length/\o+xs.length<=zs.length)/\φ)
   |none=>none
  |_,_=>none
def yE:List (Option AV)->Option (List AC)
 |[]=>some []
 |some (.one y)::xs=>match y.norm,yE xs with
  |some z,some zs=>some (z::zs)
  |_,_=>none
 |_=>none
def pop (ti:TI)(ρ:Operand->Option AV)(L:List Ob):Op->Option (AV×Prop)
 |.move x=>match ρ x with
  |some v=>some (v,True)
  |none=>none
 |.assign x=>match ρ x with
  |some v=>some (v,True)
  |none=>none
 |.pick c a b=>match ρ c,ρ a,ρ b with
  |some (.one (.c (.bool t))),some va,some vb=>some (if t=true then va else vb,True)
  |_,_,_=>none
 |.binOp op t x y _=>match ρ x,ρ y with
  |some va,some vb=>sR ti op t va vb
  |_,_=>none
 |.unOp op _ x=>match op,ρ x with
  |.not,some (.one (.c (.bool b)))=>some (.one (.c (.bool !b)),True)
  |.neg,some (.one (.c (.int k n)))=>some (.one (.c (.int k (k.wrap (0-n)))),True)
  |_,_=>none
 |.convert src dst x=>match ρ x with
  |some (.one (.c (.int _ n)))=>match ti.kind dst with
   |some (.int k)=>some (.one (.c (.int k (k.wrap n))),(ti.kind src).isSome)
   |_=>none
  |some (.one (.c (.str s)))=>some (.one (.c (.str s)),ti.kind dst=some .string/\(ti.kind src).isSome)
  |_=>none
 |.load t p=>(ρ p).bind (fZ ti L t)
 |.fieldAddr s x i=>match ρ x with
  |some (.one (.ep id O9 i0 off))=>dX ti L s i id O9 i0 off
  |some vx=>ib ti s i vx
  |none=>none
 |.field s x i=>(ρ x).bind (qM ti s i)
 |.indexAddr t x ix=>match ρ x,ρ ix with
  |some (.one (.sl id O9 lo n)),some vi=>ec ti L t id O9 lo n vi
  |some vx,some vi=>fC ti t vx vi
  |_,_=>none
 |.index t x ix=>match ρ x,ρ ix with
  |some vx,some vi=>nr ti t vx vi
  |_,_=>none
 |.extract t i=>match ρ t with
  |some (.tup ps)=>match ps[i]? with
   |some p=>some (p.av,True)
   |none=>none
  |some (.tupS xs)=>match xs[i]? with
   |some x=>some (.one x,True)
   |none=>none
  |_=>none
 |.nilCheck x=>match ρ x with
  |some (.one (.c (.ref cs)))=>some (.one (.c (.ref cs)),True)
  |some (.one (.ptr id off))=>some (.one (.ptr id off),True)
  |some (.one (.ep id O9 i o))=>match L[id]? with
   |some (.row Pn _ _)=>some (.one (.ep id O9 i o),O9=Pn)
   |_=>none
  |some (.one (.clo f cs))=>some (.one (.clo f cs),True)
  |some (.one (.c (.fn f cs)))=>some (.one (.c (.fn f cs)),True)
  |_=>none
 |.slice t x lo hi none=>match ρ x,lo.map ρ,hi.map ρ with
  |some v,none,none=>dJ ti L t v none none
  |some v,some (some l),none=>dJ ti L t v (some l) none
  |some v,none,some (some h)=>dJ ti L t v none (some h)
  |some v,some (some l),some (some h)=>dJ ti L t v (some l) (some h)
  |_,_,_=>none
 |.call { callee := .builtin .len,args,argTypes } =>match args.toList,argTypes.toList with
  |[x],[t]=>match ρ x with
   |some (.one (.sl id O9 _ n))=>gU ti L t id O9 n
   |some vx=>zZ ti t vx
   |none=>none
  |_,_=>none
 |.call { callee := .builtin .min,args,.. } =>match args.toList.map ρ with
  |[some x,some y]=>rF false x y
  |_=>none
 |.call { callee := .builtin .max,args,.. } =>match args.toList.map ρ with
  |[some x,some y]=>rF true x y
  |_=>none
 |.build t parts=>match ti.zero t with
  |some (.agg zs)=>match lk ti t zs (parts.toList.map λp=>(p.1,ρ p.2))with
   |some (r,φ)=>some (.agg r,bok ti t=true/\φ)
   |none=>none
  |_=>none
 |.makeFunc (.func f) first captured=>match first.toList,yE (captured.toList.map ρ)with
  |[],some cs=>some (.one (.c (.fn f cs)),True)
  |_,_=>none
 |_=>none
def L3 (P:Program)(t:TypeId)(k:Nat):Prop :=∃ i z,P.info? t=some i/\i.zero=some z/\i.size=k/\z.cells.size=k
def kH (P:Program)(t:TypeId):Option Nat:=(P.info? t).map (·.bytes)
structure TIok (P:Program)(ti:TI):Prop where
 size:∀ t n,ti.size t=some n->dZ P t=some n
 agg:∀ t b,ti.agg t=some b->G9 P t=some b
 elem:∀ t e,ti.elem t=some e->mM P t=some e
 field:∀ s i r,ti.field s i=some r->wc P s i=some r
 zero:∀ t v,ti.zero t=some v->zeroOf P t=some v
 bytes:∀ t n,ti.bytes t=some n->kH P t=some n
 kind:∀ t d,ti.kind t=some d->P.underlying t=some d
 struct:∀ t,ti.struct t=true->x2 P t=true
 zok:∀ t,ti.zok t=true ->∀ k,dZ P t=some k->L3 P t k
 eqs:∀ t sh,ti.eqs t=some sh->P.eqGuardType P.depth t=false /\ ∀ xs ys,dY sh xs=true->dY sh ys=true->KJ P t xs ys
theorem TIok.es {P:Program}{ti:TI}(h:TIok P ti){t n:Nat}(e:(ti.elem t).bind ti.size=some n):(mM P t).bind (dZ P)=some n:=by
 cases he:ti.elem t with
 |none=>simp[he]at e
 |some E=>simp only[he,ahQ]at e;rw[h.elem _ _ he];exact h.size _ _ e
def qy (P:Program)(B:Nat->Prop)(R:PH)(γ:List Gh)(L:List Ob)(w:World)(s:Sem Next)(v:AV):Prop :=
 ∃ u w' R',s.run P w = .ok (.value u) w'/\Inv B R' γ L w'/\Ext B R R' w w'/\v.rep R' γ L u
section
variable {P:Program} {B:Nat->Prop} {R:PH} {γ:List Gh} {L:List Ob} {w:World}
theorem qy.quiet (hi:Inv B R γ L w){s:Sem Value}{v:AV}{u:Value}(h:s.run P w = .ok u w)(hr:v.rep R γ L u):qy P B R γ L w (do pure (.value (<- s))) v :=
 ⟨u,w,R,by simp[h],hi,Ext.refl _ _ _,hr⟩
theorem BE:∀ {xs:List SV} {us:List Value},(fh xs).isSome->us.length=xs.length->(∀ (j:Nat) u x,us[j]?=some u->xs[j]?=some x->x.rep R γ L u)->fh xs=some us
 |[],us,_,hl,_=>by cases us with|nil=>rfl|cons=>simp at hl
 |x::xs,us,h,hl,hr=>by
  cases us with
  |nil=>simp at hl
  |cons u us =>
   have h0:=hr 0 u x rfl rfl
   cases x with
   |c y =>
    unfold fh at h ⊢
    cases hs:fh xs with
    |none=>rw[hs]at h;cases y<;>simp[BM]at h
    |some vs =>
     have ih:=BE (xs:=xs) (us:=us) (by simp[hs]) (by simpa using hl) λj u x hu hx=>hr (j+1) u x (by simpa using hu) (by simpa using hx)
     rw[hs]at ih;injection ih with ih
     subst ih
     cases y with
     |bool b=>cases h0;rfl
     |int k n=>cases h0;rfl
     |str s=>cases h0;rfl
     |lst es=>rw[hs]at h;simp[BM]at h
     |ref cs=>rw[hs]at h;simp[BM]at h
     |fn f cs=>rw[hs]at h;simp[BM]at h
     |nul k=>rw[hs]at h;simp[BM]at h
   |emp=>simp[fh]at h
   |own es t=>simp[fh]at h
   |ptr id off=>simp[fh]at h
   |sl id O9 lo n=>simp[fh]at h
   |ep id O9 i o=>simp[fh]at h
   |mp id=>simp[fh]at h
   |clo f Pz=>simp[fh]at h
theorem run_equal_bool {t:TypeId}{a b:Bool}(h:P.underlying t=some .bool):(Op.equal t (.bool a) (.bool b)).run P w = .ok (a==b) w:=by
 have e:Op.maxDepth=9999+1:=rfl;unfold Op.equal;rw[e,Op.equalIn];simp[underlying,program,Sem.run,h]
theorem EE {ti:TI}(Pm:TIok P ti)(hi:Inv B R γ L w){op:BinOp}{t:TypeId}{x y:Operand}{va vb v:AV}{φ:Prop}{u1 u2:Value}(h1:va.rep R γ L u1)(h2:vb.rep R γ L u2)
  (h:sR ti op t va vb=some (v,φ)) (hφ:φ):∃ u,((do eqGuard op t x y u1 u2;binOp op t u1 u2:Sem Value)).run P w = .ok u w/\v.rep R γ L u:=by
 unfold sR at h;split at h
 .rename_i k a k' b
  cases h1;cases h2;split at h
  .rename_i r ψ TJ
   injection h with h;injection h with e1 e2
   subst e1 e2;obtain⟨u,VR,Yo⟩:=EZ (P:=P) (w:=w) (t:=t) (x:=x) (y:=y) TJ hφ;exact⟨u,VR,Yo R⟩
  .split at h
   .rename_i r ψ Vk TJ
    injection h with h;injection h with e1 e2
    subst e1 e2;have Vk:=aii Vk;subst Vk;obtain⟨u,VR,Yo⟩:=BW (P:=P) (w:=w) (t:=t) (x:=x) (y:=y) TJ hφ;exact⟨u,VR,Yo R⟩
   .cases h
 .rename_i a b
  cases h1;cases h2;split at h
  .rename_i r ψ TJ
   injection h with h;injection h with e1 e2
   subst e1 e2;obtain⟨u,VR,Yo⟩:=BO (P:=P) (w:=w) (t:=t) (x:=x) (y:=y) TJ hφ;exact⟨u,VR,Yo R⟩
  .cases h
 .rename_i a b
  cases h1;cases h2;split at h<;>first|(injection h with h;injection h with e1 e2;subst e1 e2)|(cases h;done)
  .exact⟨.bool (a==b),by simp[eqGuard,binOp,run_equal_bool (Pm.kind _ _ hφ)],.bool _⟩
  .exact⟨.bool (!(a==b)),by simp[eqGuard,binOp,run_equal_bool (Pm.kind _ _ hφ)],.bool _⟩
 .rename_i xs ys
  obtain⟨vs,rfl,h1s,h1r⟩:=h1;obtain⟨us,rfl,h2s,h2r⟩:=h2;split at h
  case h_2=>cases h
  rename_i sh Yp;split at h<;>first|(injection h with h;injection h with e1 e2;subst e1 e2)|(cases h;done)
  all_goals
   obtain⟨hf1,hf2⟩:=hφ;obtain⟨hg,hEE⟩:=Pm.eqs _ _ Yp;have hE:=hEE xs ys hf1 hf2;have hx:=jw hf1;have hy:=jw hf2;have ex:=BE (us:=vs.toList) hx (by simpa using h1s) λj u x hu=>h1r j u x (by simpa using hu)
   have ey:=BE (us:=us.toList) hy (by simpa using h2s) λj u x hu=>h2r j u x (by simpa using hu)
   have P4:=hE _ _ ex ey w;simp only[Array.toArray_toList]at P4
  .exact⟨.bool (cF xs ys),by simp[eqGuard,binOp,go_sem,hg,P4],.bool _⟩
  .exact⟨.bool (!cF xs ys),by simp[eqGuard,binOp,go_sem,hg,P4],.bool _⟩
 .cases h
end
section
variable {P:Program} {ti:TI} {B:Nat->Prop} {R:PH} {γ:List Gh} {L:List Ob} {w:World}
theorem cob_ {b o:Nat}{vs:Array Value}{E:TypeId}{f:Nat×Nat}(h:w.heap[b]?=some (.cells vs E f)):w.cell? ⟨b,o,none⟩=vs[o]?:=by
 simp[World.cell?,h]
theorem mE {t:TypeId}{c:Bool}(h:G9 P t=some c):(isAgg t).run P w = .ok c w:=by
 unfold G9 at h;split at h<;>first|(cases h;done)|(injection h with h;subst h)
 .rename_i e;simp[isAgg,underlying,program,Sem.run,e]
 .rename_i e;simp[isAgg,underlying,program,Sem.run,e]
 .rename_i d h1 h2 e
  simp[isAgg,underlying,program,Sem.run,e]
theorem HF {t:TypeId}(h:G9 P t=some true):∃ d,P.underlying t=some d/\d.isRow=true:=by
 unfold G9 at h;split at h<;>first|(cases h;done)|skip
 .rename_i e;exact⟨_,e,rfl⟩
 .rename_i e;exact⟨_,e,rfl⟩
theorem kD {t:TypeId}{b o:Nat}{u:Value}(h:G9 P t=some false)(hc:w.cell? ⟨b,o,none⟩=some u):(Instr.loadAt t (.pointer (some ⟨b,o,none⟩))).run P w = .ok u w:=by
 simp[Instr.loadAt,Instr.sureAddr,loadVar,mE h,run_load,hc]
theorem kO {t:TypeId}{b o n:Nat}{cs:List Value}(h:G9 P t=some true)(hn:dZ P t=some n)(hl:cs.length=n)(hc:∀ (j:Nat) u,cs[j]?=some u->w.cell? ⟨b,o+j,none⟩=some u) :
  (Instr.loadAt t (.pointer (some ⟨b,o,none⟩))).run P w = .ok (.agg cs.toArray) w:=by
 obtain⟨d,hd,hr⟩:=HF h;have:=run_loadVar_mid (P:=P) w b o t cs d hc hd hr (by rw[hl];exact hn);simp[Instr.loadAt,Instr.sureAddr,this]
theorem sp (Pm:TIok P ti)(hi:Inv B R γ L w){t:TypeId}{va v:AV}{φ:Prop}{u1:Value}(h1:va.rep R γ L u1)(h:fZ ti L t va=some (v,φ))(hφ:φ) :
  ∃ u,(Instr.loadAt t u1).run P w = .ok u w/\v.rep R γ L u:=by
 unfold fZ at h;split at h
 .rename_i cs
  cases h1 with
  |ref b o cs cv hr he =>
   split at h
   .rename_i ht
    split at h
    .rename_i x rest
     injection h with h;injection h with e1 e2;subst e1 e2
     exact⟨cv 0,kD (Pm.agg _ _ ht) (by have:=hr 0 m5;exact hi.val _ _ _ this),he 0 x rfl⟩
    .cases h
   .rename_i n ht hn
    injection h with h;injection h with e1 e2;subst e1 e2
    refine⟨.agg ((List.range n).map cv).toArray,kO (Pm.agg _ _ ht) (Pm.size _ _ hn) m5 ?_,_,rfl,by simp;omega,?_⟩
    .intro j u hu
     rw[aic]at hu;by_cases hj:j<n
     .rw[List.getElem?_range hj]at hu
      injection hu with hu;subst hu
      exact hi.val _ _ _ (hr j m0)
     .rw[List.getElem?_eq_none m8]at hu;cases hu
    .intro j u x hu hx
     simp only[List.getElem?_toArray,aic]at hu hx;by_cases hj:j<n
     .rw[List.getElem?_range hj]at hu
      injection hu with hu;subst hu
      rw[aij,if_pos hj]at hx
      cases hy:cs[j]? with
      |none=>simp[hy]at hx
      |some y=>simp[hy]at hx;subst hx;exact he j y hy
     .rw[List.getElem?_eq_none m8]at hu;cases hu
   .cases h
 .rename_i id off
  obtain⟨b,rfl,hg⟩:=h1;split at h
  .rename_i cs hL
   obtain⟨⟨vs,E,hb,hs,hv⟩,_⟩:=hi.obj id _ _ hL hg;split at h
   .rename_i ht
    split at h
    case h_2=>cases h
    .rename_i x hc
     injection h with h;injection h with e1 e2;subst e1 e2
     have O8:off<vs.size:=by rw[hs];exact(ahR.1 hc).1
     have hu:vs[off]?=some vs[off]:=aie O8;exact⟨vs[off],kD (Pm.agg _ _ ht) (by rw[cob_ hb];exact hu),hv off _ x hu hc⟩
   .rename_i n ht hn
    injection h with h;injection h with e1 e2;subst e1 e2
    refine⟨.agg ((vs.toList.drop off).take n).toArray,kO (Pm.agg _ _ ht) (Pm.size _ _ hn) m8 ?_,_,rfl,by simp;omega,?_⟩
    .intro j u hu
     rw[cob_ hb];rw[aij]at hu;split at hu
     .rw[aiA]at hu;simpa using hu
     .cases hu
    .intro j u x hu hx
     simp only[List.getElem?_toArray]at hu;rw[aij]at hu hx;split at hu
     .rename_i hj
      rw[if_pos hj]at hx;rw[aiA]at hu hx;exact hv (off+j) u x (by simpa using hu) hx
     .cases hu
   .cases h
  .cases h
 .rename_i id O9 i o
  obtain⟨_,O8,h1⟩:=h1;split at h
  case h_2=>cases h
  rename_i Pn es k hL;split at h
  .rename_i e he ht
   split at h
   case h_2=>cases h
   rename_i x hx;injection h with h;injection h with e1 e2;subst e1 e2
   subst hφ;obtain⟨U2,g,hg,P5⟩:=(h1 _ es k hL).2 rfl;have Sj:=hi.obj id _ _ hL hg
   match g,P5,Sj with
   |.arr b c,P5,⟨⟨vs,E,⟨hb,hE65⟩,hs,hv⟩,hc,hk,hw,hR⟩ =>
    have P5:u1 = .pointer (some ⟨b,i*k+o,none⟩):=P5;subst P5;have ho:o<k:=by rw[<- hw e (ahX he)];exact(ahR.1 hx).1
    have Rz:i*k+o<vs.size:=by
     rw[hs];have:(i+1)*k<=c*k:=air _ m0;rw[Nat.succ_mul]at this;omega
    have hu:vs[i*k+o]?=some vs[i*k+o]:=aie Rz;exact⟨vs[i*k+o],kD (Pm.agg _ _ ht) (by rw[cob_ hb];exact hu),hv i e o _ x he hu hx⟩
  .rename_i e n he ht hn
   injection h with h;injection h with e1 e2;subst e1 e2
   obtain⟨hve,hle⟩:=hφ;subst hve;obtain⟨U2,g,hg,P5⟩:=(h1 _ es k hL).2 rfl;have Sj:=hi.obj id _ _ hL hg
   match g,P5,Sj with
   |.arr b c,P5,⟨⟨vs,E,⟨hb,hE65⟩,hs,hv⟩,hc,hk,hw,hR⟩ =>
    have P5:u1 = .pointer (some ⟨b,i*k+o,none⟩):=P5;subst P5;have US:=hw e (ahX he);have Rz:i*k+k<=vs.size:=by
     rw[hs];have:(i+1)*k<=c*k:=air _ m0;rw[Nat.succ_mul]at this;omega
    refine⟨.agg ((vs.toList.drop (i*k+o)).take n).toArray,kO (Pm.agg _ _ ht) (Pm.size _ _ hn) m8 ?_,_,rfl,by simp;omega,?_⟩
    .intro j u hu
     rw[cob_ hb];rw[aij]at hu;split at hu
     .rw[aiA]at hu;simpa using hu
     .cases hu
    .intro j u x hu hx
     simp only[List.getElem?_toArray]at hu;rw[aij]at hu hx;split at hu
     .rename_i hj
      rw[if_pos hj]at hx;rw[aiA]at hu hx;exact hv i e (o+j) u x he (by rw[<- Nat.add_assoc];simpa using hu) hx
     .cases hu
  .cases h
 .cases h
theorem oK {s:TypeId}{i o:Nat}{t:TypeId}(h:wc P s i=some (o,t)):∃ fs f,P.underlying s=some (.struct fs)/\fs[i]?=some f/\f.offset=o/\f.type=t:=by
 unfold wc at h;split at h
 .rename_i fs e
  cases hf:fs[i]? with
  |none=>simp[hf]at h
  |some f =>
   simp[hf]at h;exact⟨fs,f,e,hf,h.1,h.2⟩
 .cases h
theorem run_sizeOf {t:TypeId}{n:Nat}(h:dZ P t=some n):(sizeOf t).run P w = .ok n w:=by
 unfold dZ at h
 cases hi:P.info? t with
 |none=>simp[hi]at h
 |some i=>simp[hi]at h;simp[sizeOf,typeInfo,program,Sem.run,hi,h]
theorem qh {s:TypeId}{i o:Nat}{t:TypeId}{b f:Nat}(h:wc P s i=some (o,t))(h0:dZ P t≠some 0)(h1:(dZ P t).isSome) :
  (Instr.fieldAt s (.pointer (some ⟨b,f,none⟩)) i).run P w = .ok (.pointer (some ⟨b,f+o,none⟩)) w:=by
 obtain⟨fs,fd,e1,e2,e3,e4⟩:=oK h;obtain⟨n,hn⟩:=aiv.1 h1;have Ua:n≠0:=λe=>h0 (by rw[hn,e])
 subst e3 e4;simp[Instr.fieldAt,underlying,program,Sem.run,e1,e2,Instr.sureAddr,fieldPlace,run_sizeOf hn,Ua,Addr.add_mid]
theorem tn (Pm:TIok P ti){s:TypeId}{i:Nat}{va v:AV}{φ:Prop}{u1:Value}(h1:va.rep R γ L u1)(h:ib ti s i va=some (v,φ))(hφ:φ) :
  ∃ u,(Instr.fieldAt s u1 i).run P w = .ok u w/\v.rep R γ L u:=by
 unfold ib at h;split at h
 .rename_i cs
  cases h1 with
  |ref b o cs cv hr he =>
   split at h
   .rename_i o' t hf
    split at h
    case h_2=>cases h
    rename_i n hn;injection h with h;injection h with e1 e2;subst e1 e2
    have hle:=hφ;have UT:=Pm.size _ _ hn;refine⟨_,qh (Pm.field _ _ _ hf) (by rw[UT];simp) (by rw[UT];rfl),?_⟩;refine .ref b (o+o') _ (λj=>cv (o'+j)) (λj hj=>?_) (λj x hx=>?_)
    .rw[List.length_drop]at hj
     rw[Nat.add_assoc];exact hr _ m0
    .rw[aiA]at hx;exact he _ _ hx
   .cases h
 .rename_i id off
  obtain⟨b,rfl,hg⟩:=h1;split at h
  .rename_i o' t hf
   split at h
   case h_2=>cases h
   rename_i n hn;injection h with h;injection h with e1 e2;subst e1 e2
   have UT:=Pm.size _ _ hn;exact⟨_,qh (Pm.field _ _ _ hf) (by rw[UT];simp) (by rw[UT];rfl),b,rfl,hg⟩
  .cases h
 .cases h
theorem zp (Pm:TIok P ti){s:TypeId}{i:Nat}{va v:AV}{φ:Prop}{u1:Value}(h1:va.rep R γ L u1)(h:qM ti s i va=some (v,φ))(hφ:φ) :
  ∃ u,(Instr.field s u1 i).run P w = .ok u w/\v.rep R γ L u:=by
 unfold qM at h;split at h
 .rename_i xs
  obtain⟨vs,rfl,hs,hv⟩:=h1;split at h
  .rename_i o t hf
   obtain⟨fs,fd,e1,e2,e3,e4⟩:=oK (Pm.field _ _ _ hf);subst e3 e4;split at h
   .rename_i ht
    split at h
    case h_2=>cases h
    .rename_i x hc
     injection h with h;injection h with e5 e6;subst e5 e6
     have O8:fd.offset<vs.size:=by rw[hs];exact(ahR.1 hc).1
     have hu:vs[fd.offset]?=some vs[fd.offset]:=aie O8;exact⟨vs[fd.offset],by simp[Instr.field,underlying,program,Sem.run,e1,e2,asAgg,part,mE (Pm.agg _ _ ht),hu],hv _ _ x hu hc⟩
   .rename_i n ht hn
    injection h with h;injection h with e5 e6;subst e5 e6
    refine⟨.agg (vs.extract fd.offset (fd.offset+n)),by simp[Instr.field,underlying,program,Sem.run,e1,e2,asAgg,part,mE (Pm.agg _ _ ht),run_sizeOf (Pm.size _ _ hn)],_,rfl,by simp;omega,?_⟩;intro j u x hu hx;rw[Array.getElem?_extract]at hu;split at hu
    .rw[aij]at hx
     split at hx
     .rw[aiA]at hx;exact hv _ u x hu hx
     .cases hx
    .cases hu
   .cases h
  .cases h
 .cases h
theorem iD {x:AV}{v:Value}{es:List (List AC)}(h:x.rep R γ L v)(he:cX x=some es):bK R v (.lst es):=by
 unfold cX at he;split at he<;>first|(injection he with he;subst he)|(cases he;done)
 .exact h
 .exact h.1
 .obtain⟨a,rfl⟩:=h;exact dS _ _ _
theorem lE {t:TypeId}{n:Nat}(h:(mM P t).bind (dZ P)=some n):∃ e,P.underlying t=some (.slice e)/\dZ P e=some n:=by
 unfold mM at h;split at h
 .rename_i e he;exact⟨e,he,h⟩
 .cases h
theorem tH (Pm:TIok P ti){t:TypeId}{vx vi v:AV}{φ:Prop}{u1 u2:Value}(h1:vx.rep R γ L u1)(h2:vi.rep R γ L u2)(h:fC ti t vx vi=some (v,φ))(hφ:φ) :
  ∃ u,(Instr.indexAt t u1 u2).run P w = .ok u w/\v.rep R γ L u:=by
 unfold fC at h;split at h
 .rename_i es k0 i k hl ht
  have hp:=iD h1 hl
  cases h2;obtain⟨E,hE,hk⟩:=lE (Pm.es ht);split at h
  .rename_i e he
   injection h with h;injection h with e1 e2;subst e1 e2
   cases hp with
   |lst a n c _ k' cv b o hn hc Vk ha hr hx =>
    have O8:i.toNat<es.length:=(ahR.1 he).1;have Ss:e∈es:=ahX he;obtain⟨h0,US⟩:=hφ;have Wq:k'=k:=by rw[<- Vk e Ss];exact US
    subst Wq;have ea:=ha m0;subst ea;have U2:i<(n:Int):=m0
    refine⟨.pointer (some ⟨b,o+i.toNat*k',none⟩),?_,?_⟩
    .simp[Instr.indexAt,asIntOf,underlying,program,Sem.run,hE,h0,U2,run_sizeOf hk,Addr.add_mid]
    .refine .ref b _ e (λj=>cv (i.toNat*k'+j)) (λj hj=>?_) (λj x hxj=>hx _ _ _ _ he hxj)
     rw[Nat.add_assoc];apply hr;have h3:i.toNat*k'+k'<=n*k':=by
      have:(i.toNat+1)*k'<=n*k':=air _ m0;rw[Nat.succ_mul]at this;exact this
     omega
  .cases h
 .cases h
theorem uf (Pm:TIok P ti)(hi:Inv B R γ L w){t:TypeId}{id O9 lo n:Nat}{vi v:AV}{φ:Prop}{u1 u2:Value}(h1:(SV.sl id O9 lo n).rep R γ L u1)(h2:vi.rep R γ L u2)(h:ec ti L t id O9 lo n vi=some (v,φ))(hφ:φ) :
  ∃ u,(Instr.indexAt t u1 u2).run P w = .ok u w/\v.rep R γ L u:=by
 unfold ec at h;split at h
 case h_2=>cases h
 rename_i Pn es k' k0 i k hL ht;injection h with h;injection h with e1 e2;subst e1 e2
 obtain⟨⟨Yq,Vt⟩,h0,h3⟩:=hφ;subst Yq Vt
 cases h2;obtain⟨E,hE,hk⟩:=lE (Pm.es ht);obtain⟨_,O8,h1⟩:=h1;obtain⟨hle,g,hg,P5⟩:=(h1 _ es k hL).2 rfl
 match g,P5 with
 |.none,⟨_,hn,_⟩=>exact absurd h3 m0
 |.arr b c,P5 =>
  have P5:u1 = .slice (some ⟨b,lo*k,none⟩) n (c-lo):=by
   obtain P5|⟨_,hn,_⟩:=P5
   .exact P5
   .exact absurd h3 m0
  subst P5;refine⟨.pointer (some ⟨b,lo*k+i.toNat*k,none⟩),?_,⟨rfl,rfl⟩,O8,λRl Ql k2 e=>?_⟩
  .simp[Instr.indexAt,asIntOf,underlying,program,Sem.run,hE,h0,h3,run_sizeOf hk,Addr.add_mid]
  .rw[hL]at e;injection e with e;injection e with e0 e1 e2;subst e0 e1 e2;refine⟨ah7 _,λ_=>?_⟩
   refine⟨m0,.arr b c,hg,?_⟩;show Value.pointer _=Value.pointer _;rw[Nat.add_mul,Nat.add_zero]
theorem uX (Pm:TIok P ti){s:TypeId}{i0 id O9 i off:Nat}{v:AV}{φ:Prop}{u1:Value}(h1:(SV.ep id O9 i off).rep R γ L u1)(h:dX ti L s i0 id O9 i off=some (v,φ))(hφ:φ) :
  ∃ u,(Instr.fieldAt s u1 i0).run P w = .ok u w/\v.rep R γ L u:=by
 unfold dX at h;split at h
 case h_2=>cases h
 rename_i Pn es k o t hL hf;split at h
 case h_2=>cases h
 rename_i n hn;injection h with h;injection h with e1 e2;subst e1 e2
 subst hφ;obtain⟨_,O8,h1⟩:=h1;obtain⟨hle,g,hg,P5⟩:=(h1 _ es k hL).2 rfl;have UT:=Pm.size _ _ hn
 match g,P5 with
 |.arr b c,P5 =>
  have P5:u1 = .pointer (some ⟨b,i*k+off,none⟩):=P5;subst P5;refine⟨_,qh (Pm.field _ _ _ hf) (by rw[UT];simp) (by rw[UT];rfl),⟨rfl,rfl⟩,O8,λRl Ql k2 e=>?_⟩;rw[hL]at e;injection e with e;injection e with e0 e1 e2;subst e0 e1 e2;refine⟨ah7 _,λ_=>?_⟩
  refine⟨hle,.arr b c,hg,?_⟩;show Value.pointer _=Value.pointer _;rw[Nat.add_assoc]
theorem xQ (Pm:TIok P ti){t ty:TypeId}{id O9 lo n:Nat}{v:AV}{φ:Prop}{u1:Value}(h1:(SV.sl id O9 lo n).rep R γ L u1)(h:gU ti L t id O9 n=some (v,φ))(hφ:φ) :
  ∃ u,(Builtin.len_ #[t] ty #[u1]).run P w = .ok u w/\v.rep R γ L u:=by
 unfold gU at h;split at h
 case h_2=>cases h
 rename_i Pn es k hL;injection h with h;injection h with e1 e2;subst e1 e2
 obtain⟨hv,hφ⟩:=hφ;subst hv;obtain⟨_,O8,h1⟩:=h1;obtain⟨hle,g,hg,P5⟩:=(h1 _ es k hL).2 rfl;have⟨e,he⟩:∃ e,P.underlying t=some (.slice e):=by
  obtain⟨e,he⟩:=aiv.1 hφ;have h2:=Pm.elem _ _ he;unfold mM at h2;split at h2
  .rename_i e' S3;exact⟨e',S3⟩
  .cases h2
 match g,P5 with
 |.none,⟨hu,hn,_⟩ =>
  subst hu hn;exact⟨.int .i64 (0:Nat),by simp[Builtin.len_,underlying,program,Sem.run,he,goInt],.int _ _⟩
 |.arr b c,P5 =>
  obtain P5|⟨_,hn,a,hu⟩:=P5
  case inr=>subst hu hn;exact⟨.int .i64 (0:Nat),by simp[Builtin.len_,underlying,program,Sem.run,he,goInt],.int _ _⟩
  subst P5;exact⟨.int .i64 n,by simp[Builtin.len_,underlying,program,Sem.run,he,goInt],.int _ _⟩
end
section
variable {P:Program} {ti:TI} {B:Nat->Prop} {R:PH} {γ:List Gh} {L:List Ob} {w:World}
theorem A6 (Pm:TIok P ti){t:TypeId}{vx vi v:AV}{φ:Prop}{u1 u2:Value}(h1:vx.rep R γ L u1)(h2:vi.rep R γ L u2)(h:nr ti t vx vi=some (v,φ))(hφ:φ) :
  ∃ u,(Instr.index t u1 u2).run P w = .ok u w/\v.rep R γ L u:=by
 unfold nr at h;split at h
 .rename_i s k i
  cases h1;cases h2;split at h
  .rename_i b hb
   injection h with h;injection h with e1 e2;subst e1 e2
   obtain⟨h0,hu⟩:=hφ;exact⟨.int .u8 b.toNat,by simp[Instr.index,asIntOf,underlying,program,Sem.run,Pm.kind _ _ hu,h0,hb],.int _ _⟩
  .cases h
 .rename_i zs k0 i
  obtain⟨vs,rfl,hs,hv⟩:=h1
  cases h2;split at h
  .rename_i n e hk
   have hu:=Pm.kind _ _ hk;split at h
   .rename_i k ha hz
    split at h
    case h_2=>cases h
    .rename_i x hc
     injection h with h;injection h with e5 e6;subst e5 e6
     obtain⟨g0,g1⟩:=hφ;have O8:i.toNat*k<vs.size:=by rw[hs];exact(ahR.1 hc).1
     have hw:vs[i.toNat*k]?=some vs[i.toNat*k]:=aie O8;exact⟨vs[i.toNat*k],by simp[Instr.index,asIntOf,underlying,program,Sem.run,hu,g0,g1,part,mE (Pm.agg _ _ ha),run_sizeOf (Pm.size _ _ hz),hw],hv _ _ x hw hc⟩
   .rename_i k ha hz
    injection h with h;injection h with e5 e6;subst e5 e6
    obtain⟨⟨g0,g1⟩,g2⟩:=hφ;refine⟨.agg (vs.extract (i.toNat*k) (i.toNat*k+k)),by simp[Instr.index,asIntOf,underlying,program,Sem.run,hu,g0,g1,part,mE (Pm.agg _ _ ha),run_sizeOf (Pm.size _ _ hz)],_,rfl,by simp;omega,?_⟩;intro j u x hj hx;rw[Array.getElem?_extract]at hj;split at hj
    .rw[aij]at hx
     split at hx
     .rw[aiA]at hx;exact hv _ u x hj hx
     .cases hx
    .cases hj
   .cases h
  .cases h
 .cases h
def acQ (R:PH)(γ:List Gh)(L:List Ob):Option AV->Option Value->Prop
 |none,none=>True
 |some x,some v=>x.rep R γ L v
 |_,_=>False
theorem eH {s:Bool}{len cap:Nat}{lo hi:Option AV}{vlo vhi:Option Value}{l h:Int}(PU:jM 0 lo=some l)(P8:jM len hi=some h)
  (Ws:acQ R γ L lo vlo) (Wt:acQ R γ L hi vhi) (h0:0<=l) (h1:l<=h) (h2:h<=cap) :
  (Instr.sliceBounds s len cap vlo vhi none).run P w = .ok (l.toNat,h.toNat,cap) w:=by
 have e1:∀ (v:Value) (x:AV) (i:Int) (y:Nat) (c:BoundsCode),x.rep R γ L v->jM 0 (some x)=some i->0<=i->i<=y->(Instr.sliceBound v y c).run P w = .ok i.toNat w:=by
  intro v x i y c hx hb g0 g1;unfold jM at hb;split at hb
  .rename_i e;cases e
  .rename_i e
   injection e with e;subst e
   injection hb with hb;subst hb
   cases hx;simp[Instr.sliceBound,asIntOf,g0,g1]
  .cases hb
 match lo,vlo,Ws,PU,hi,vhi,Wt,P8 with
 |none,none,_,PU,none,none,_,P8 =>
  injection PU with PU;subst PU
  injection P8 with P8;subst P8
  simp[Instr.sliceBounds]
 |some x,some v,Ws,PU,none,none,_,P8 =>
  injection P8 with P8;subst P8
  simp[Instr.sliceBounds,e1 v x l len _ Ws PU h0 m0]
 |none,none,_,PU,some y,some u,Wt,P8 =>
  injection PU with PU;subst PU
  simp[Instr.sliceBounds,e1 u y h cap _ Wt (by cases y<;>first|exact P8|(rename_i z;cases z<;>first|exact P8|(rename_i q;cases q<;>exact P8))) m0 h2]
 |some x,some v,Ws,PU,some y,some u,Wt,P8 =>
  simp[Instr.sliceBounds,e1 u y h cap _ Wt (by cases y<;>first|exact P8|(rename_i z;cases z<;>first|exact P8|(rename_i q;cases q<;>exact P8))) m0 h2,e1 v x l h.toNat _ Ws PU h0 m0]
theorem Nh {a:Option Addr}{n c l h:Nat}{es:List (List AC)}{k m:Nat}(hp:bK R (.slice a n c) (.lst es))(hlh:l<=h)(hh:h<=es.length)(hk:∀ e∈es,e.length=k)(hm:m=c) :
  bK R (.slice (if m=l then a else a.map (·.add (l*k))) (h-l) (m-l)) (.lst ((es.take h).drop l)):=by
 cases hp with
 |lst _ _ _ _ k' cv b o hn hc Vk ha hr hx =>
  subst hm;have hlen:((es.take h).drop l).length=h-l:=by simp;omega
  by_cases hz:h-l=0
  .rw[hz]
   have:(es.take h).drop l=[]:=aif m0;rw[this];exact dS _ _ _
  .have Vu:0<n:=m0
   have Wq:k'=k:=by
    have h0:0<es.length:=m0
    rw[<- Vk es[0] (List.getElem_mem h0),hk es[0] (List.getElem_mem h0)]
   subst Wq;have ea:=ha Vu;subst ea;rw[if_neg m0];refine .lst _ _ _ _ k' (λj=>cv (l*k'+j)) b (o+l*k') hlen m0 (λe he=>hk e (List.mem_of_mem_take (List.mem_of_mem_drop he))) (λ_=>by simp[Addr.add_mid]) (λj hj=>?_) (λi e j x he hxj=>?_)
   .rw[Nat.add_assoc]
    apply hr;have:l*k'+(h-l)*k'=h*k':=by rw[<- Nat.add_mul];congr 1;omega
    have:h*k'<=n*k':=air _ m0;omega
   .rw[aiA,aij]at he
    split at he
    .have:=hx _ _ _ _ he hxj
     rw[Nat.add_mul,Nat.add_assoc]at this;exact this
    .cases he
theorem iq (Pm:TIok P ti)(hI:Inv B R γ L w){t:TypeId}{vx v:AV}{lo hi:Option AV}{vlo vhi:Option Value}{φ:Prop}{u1:Value}(h1:vx.rep R γ L u1)(Ws:acQ R γ L lo vlo)(Wt:acQ R γ L hi vhi)
  (h:dJ ti L t vx lo hi=some (v,φ)) (hφ:φ):∃ u,(Instr.sliceAt t u1 vlo vhi none).run P w = .ok u w/\v.rep R γ L u:=by
 unfold dJ at h;split at h
 .rename_i s
  cases h1;split at h
  .rename_i l h' hl hh
   injection h with h;injection h with e1 e2;subst e1 e2
   obtain⟨a1,a2,a3,a4⟩:=hφ;refine⟨.string (s.extract l.toNat h'.toNat),?_,.str _⟩;have:=eH (P:=P) (w:=w) (s:=false) (cap:=s.size) hl hh Ws Wt a1 a2 m0;simp[Instr.sliceAt,Instr.slice,underlying,program,Sem.run,Pm.kind _ _ a4,this]
  .cases h
 .rename_i id O9 Xi n
  split at h
  case h_2=>cases h
  rename_i Pn es k' k hL ht;split at h
  case h_2=>cases h
  rename_i l h' hl hh;injection h with h;injection h with e1 e2;subst e1 e2
  obtain⟨hv,Vk,a1,a2,a3⟩:=hφ;subst hv Vk;obtain⟨E,hE,hk⟩:=lE (Pm.es ht);obtain⟨_,O8,h1⟩:=h1;obtain⟨hle,g,hg,P5⟩:=(h1 _ es k hL).2 rfl;have Sj:=hI.obj id _ _ hL hg
  match g,P5,Sj with
  |.none,⟨hu,hn,PU⟩,Sj =>
   subst hu hn PU;have:=eH (P:=P) (w:=w) (s:=true) (cap:=0) hl hh Ws Wt a1 a2 m0;have e1:l=0:=m0
   have e2:h'=0:=m0
   subst e1 e2;refine⟨_,by simp[Instr.sliceAt,Instr.slice,underlying,program,Sem.run,hE,this,run_sizeOf hk];rfl,⟨rfl,rfl⟩,O8,λRl UC k2 e=>?_⟩;rw[hL]at e;injection e with e;injection e with e0 e1 e2;subst e0 e1 e2;refine⟨ah7 _,λ_=>?_⟩
   exact⟨m5,.none,hg,rfl,rfl,rfl⟩
  |.arr b c,P5,⟨_,hc,_⟩ =>
   obtain P5|⟨Tj,hn,a,hu⟩:=P5
   case inr =>
    subst hu hn;have:=eH (P:=P) (w:=w) (s:=true) (cap:=0) hl hh Ws Wt a1 a2 m0;have e1:l=0:=m0
    have e2:h'=0:=m0
    subst e1 e2;refine⟨_,by simp[Instr.sliceAt,Instr.slice,underlying,program,Sem.run,hE,this,run_sizeOf hk];rfl,⟨rfl,rfl⟩,O8,λRl UC k2 e=>?_⟩;rw[hL]at e;injection e with e;injection e with e0 e1 e2;subst e0 e1 e2;refine⟨ah7 _,λ_=>?_⟩
    exact⟨by simpa using hle,.arr b c,hg,.inr ⟨by simpa using Tj,rfl,_,rfl⟩⟩
   subst P5;have:=eH (P:=P) (w:=w) (s:=true) (cap:=c-Xi) hl hh Ws Wt a1 a2 m0;refine⟨_,by simp[Instr.sliceAt,Instr.slice,underlying,program,Sem.run,hE,this,run_sizeOf hk];rfl,⟨rfl,rfl⟩,O8,λRl UC k2 e=>?_⟩;rw[hL]at e;injection e with e;injection e with e0 e1 e2;subst e0 e1 e2;refine⟨ah7 _,λ_=>?_⟩
   refine⟨m0,.arr b c,hg,?_⟩;by_cases hm:c-Xi=l.toNat
   .refine .inr ⟨m0,m0,some ⟨b,Xi*k,none⟩,?_⟩
    rw[if_pos hm,show h'.toNat-l.toNat=0 from by omega,show c-Xi-l.toNat=0 from by omega]
   .refine .inl ?_
    rw[if_neg hm,Nat.add_mul,Nat.sub_add_eq];simp[Addr.add_mid]
 .split at h
  .rename_i es k hl ht
   have hp:=iD h1 hl;obtain⟨E,hE,hk⟩:=lE (Pm.es ht);split at h
   .rename_i l h' hl hh
    injection h with h;injection h with e1 e2;subst e1 e2
    obtain⟨a1,a2,a3,a4⟩:=hφ
    match u1,hp with
    |.slice a n c,hp =>
     have hn:es.length=n:=by cases hp;assumption
     have hc:n<=c:=by cases hp;assumption
     subst hn;have:=eH (P:=P) (w:=w) (s:=true) (cap:=c) hl hh Ws Wt a1 a2 m0;refine⟨_,by simp[Instr.sliceAt,Instr.slice,underlying,program,Sem.run,hE,this,run_sizeOf hk];rfl,?_⟩;have h3:((h'-l).toNat)=h'.toNat-l.toNat:=m0
     exact Nh (m:=c) hp m0 m0 a4 rfl
   .cases h
  .cases h
theorem EI (Pm:TIok P ti){t ty:TypeId}{vx v:AV}{φ:Prop}{u1:Value}(h1:vx.rep R γ L u1)(h:zZ ti t vx=some (v,φ))(hφ:φ) :
  ∃ u,(Builtin.len_ #[t] ty #[u1]).run P w = .ok u w/\v.rep R γ L u:=by
 unfold zZ at h;split at h
 .rename_i s
  cases h1;injection h with h;injection h with e1 e2;subst e1 e2
  exact⟨.int .i64 s.size,by simp[Builtin.len_,underlying,program,Sem.run,Pm.kind _ _ hφ,goInt],.int _ _⟩
 .split at h
  case h_2=>cases h
  .rename_i es hl
   injection h with h;injection h with e1 e2;subst e1 e2
   have hp:=iD h1 hl
   match u1,hp with
   |.slice a n c,hp =>
    have hn:es.length=n:=by cases hp;assumption
    subst hn;have⟨e,he⟩:∃ e,P.underlying t=some (.slice e):=by
     obtain⟨e,he⟩:=aiv.1 hφ;have h2:=Pm.elem _ _ he;unfold mM at h2;split at h2
     .rename_i e' S3;exact⟨e',S3⟩
     .cases h2
    exact⟨.int .i64 es.length,by simp[Builtin.len_,underlying,program,Sem.run,he,goInt],.int _ _⟩
theorem oS {mx:Bool}{vx vy v:AV}{φ:Prop}{u1 u2:Value}{ts:Array TypeId}{ty:TypeId}(h1:vx.rep R γ L u1)(h2:vy.rep R γ L u2)(h:rF mx vx vy=some (v,φ)) :
  ∃ u,(if mx then Builtin.max_ ts ty #[u1,u2]else Builtin.min_ ts ty #[u1,u2]).run P w = .ok u w/\v.rep R γ L u:=by
 unfold rF at h;split at h
 .rename_i k a k' b
  cases h1;cases h2;injection h with h;injection h with e1 e2;subst e1 e2
  cases mx
  .exact⟨.int k (if b<a then b else a),by simp[Builtin.min_,Builtin.min2],.int _ _⟩
  .exact⟨.int k (if b>a then b else a),by simp[Builtin.max_,Builtin.max2],.int _ _⟩
 .cases h
end
section
variable {P:Program} {ti:TI} {B:Nat->Prop} {R:PH} {γ:List Gh} {L:List Ob} {w:World}
theorem fold_size (off:Nat):∀ (l:List Value) (k:Nat) (cells:Array Value),((l.zipIdx k).foldl (λ(cs:Array Value) (p:Value×Nat)=>cs.setIfInBounds (off+p.2) p.1) cells).size=cells.size
 |[],_,_=>rfl
 |v::l,k,cells=>by rw[List.zipIdx_cons,aiC,fold_size off l];simp
theorem Io (off:Nat):∀ (l:List Value) (k:Nat) (cells:Array Value),off+k+l.length<=cells.size ->∀ i,
  ((l.zipIdx k).foldl (λ(cs:Array Value) (p:Value×Nat)=>cs.setIfInBounds (off+p.2) p.1) cells)[i]?=if off+k<=i/\i<off+k+l.length then l[i-(off+k)]? else cells[i]?
 |[],k,cells,_,i=>by
  rw[if_neg (by intro h;simp only[aik]at h;omega)];rfl
 |v::l,k,cells,h,i=>by
  rw[aib]at h;rw[List.zipIdx_cons,aiC,Io off l (k+1) _ m8 i];by_cases h1:off+(k+1)<=i/\i<off+(k+1)+l.length
  .rw[if_pos h1,if_pos m8]
   have:i-(off+k)=(i-(off+(k+1)))+1:=m0
   rw[this,List.getElem?_cons_succ]
  .rw[if_neg h1]
   by_cases h2:i=off+k
   .subst h2
    rw[if_pos m5];simp[Array.getElem?_setIfInBounds];omega
   .rw[if_neg m8]
    simp only[Array.getElem?_setIfInBounds];rw[if_neg m0]
theorem nT {zs xs:List SV}{o:Nat}(h:o+xs.length<=zs.length):(splice zs o xs).length=zs.length:=by
 simp[splice];omega
theorem tf {zs xs:List SV}{o:Nat}(h:o+xs.length<=zs.length)(i:Nat):(splice zs o xs)[i]?=if o<=i/\i<o+xs.length then xs[i-o]? else zs[i]?:=by
 unfold splice;by_cases h1:i<o
 .rw[if_neg m0,ah5 m8,ah5 m8,aij,if_pos h1]
 .by_cases h2:i<o+xs.length
  .rw[if_pos m0,ah5 m8,ahY m8]
   congr 1;simp;omega
  .rw[if_neg m0,ahY m8,aiA]
   congr 1;simp;omega
def B0 (R:PH)(γ:List Gh)(L:List Ob)(xs:List SV)(vs:Array Value):Prop:=vs.size=xs.length /\ ∀ (j:Nat) u x,vs[j]?=some u->xs[j]?=some x->x.rep R γ L u
theorem cells_rep {v:AV}{u:Value}{xs:List SV}(h:v.rep R γ L u)(hc:v.cells=some xs):B0 R γ L xs u.cells:=by
 cases v with
 |one x =>
  injection hc with hc;subst hc
  have e:=(SV.rep_one h).1;rw[e];refine⟨rfl,λj u' x' hu hx=>?_⟩
  cases j with
  |zero=>simp at hu hx;subst hu hx;exact h
  |succ j=>simp at hu
 |agg ys =>
  injection hc with hc;subst hc
  obtain⟨vs,rfl,h1,h2⟩:=h;exact⟨h1,h2⟩
 |tup ps=>cases hc
 |tupS xs=>cases hc
 |undef=>cases hc
theorem Br (Pm:TIok P ti){t:TypeId}{place:Nat->Option (Nat×Nat)}(Zt:∀ i o ty,wu ti t i=some (o,ty) ->∀ n,dZ P ty=some n->place i=some (o,n)) :
  ∀ (ps:List (Nat×Option AV)) (us:List (Nat×Value)) (zs:List SV) (cells:Array Value) (r:List SV) (φ:Prop),us.length=ps.length ->
   (∀ (j:Nat) p q,ps[j]?=some p->us[j]?=some q->p.1=q.1 /\ ∀ v,p.2=some v->v.rep R γ L q.2)->B0 R γ L zs cells->lk ti t zs ps=some (r,φ)->φ ->
   ∃ Rm,Instr.fill place cells us=some Rm/\B0 R γ L r Rm
 |[],us,zs,cells,r,φ,hl,_,hz,h,_=>by
  cases us with
  |nil=>injection h with h;injection h with e1 e2;subst e1;exact⟨cells,rfl,hz⟩
  |cons=>simp at hl
 |(i,v)::ps,us,zs,cells,r,φ,hl,hr,hz,h,hφ=>by
  cases us with
  |nil=>simp at hl
  |cons q us =>
   obtain⟨qi,qv⟩:=q;have h0:=hr 0 _ _ rfl rfl;obtain⟨e0,hv⟩:=h0;simp only at e0;subst e0;unfold lk at h;split at h
   .rename_i xs o ty hc hf
    split at h
    case h_2=>cases h
    .rename_i r' φ' hb
     injection h with h;injection h with e1 e2;subst e1 e2
     obtain⟨⟨hs,hle⟩,hφ'⟩:=hφ
     cases v with
     |none=>simp at hc
     |some v =>
      simp only[ahQ]at hc;have hq:=cells_rep (hv v rfl) hc;have hp:=Zt i o ty hf _ (Pm.size _ _ hs);have Qf:qv.cells.size=xs.length:=hq.1;have QZ:o+qv.cells.size<=cells.size:=by rw[Qf,hz.1];exact hle
      have step:B0 R γ L (splice zs o xs) (qv.cells.zipIdx.foldl (λ(cs:Array Value) (p:Value×Nat)=>cs.setIfInBounds (o+p.2) p.1) cells):=by
       rw[<- Array.foldl_toList,Array.toList_zipIdx];refine⟨by rw[fold_size,nT hle];exact hz.1,λj u x hu hx=>?_⟩;rw[Io o _ 0 _ m8]at hu;rw[tf hle]at hx;by_cases hj:o<=j/\j<o+xs.length
       .rw[if_pos hj]at hx
        rw[if_pos m8]at hu;exact hq.2 (j-o) u x (by simpa using hu) hx
       .rw[if_neg hj]at hx
        rw[if_neg m8]at hu;exact hz.2 j u x hu hx
      obtain⟨Rm,f1,f2⟩:=Br Pm Zt ps us _ _ r' φ' (by simpa using hl) (λj p q hp hq=>hr (j+1) p q (by simpa using hp) (by simpa using hq)) step hb hφ';refine⟨Rm,?_,f2⟩;simp only[Instr.fill];rw[hp];simp only[Qf,ne_eq,not_true_eq_false,decide_false,Bool.false_or,gt_iff_lt,decide_eq_true_eq];rw[if_neg m0];exact f1
   .cases h
theorem run_places:∀ (fs:List Field),(∀ f∈fs,(dZ P f.type).isSome)->(fs.mapM (λf=>(do pure (f.offset,<- sizeOf f.type):Sem (Nat×Nat)))).run P w = .ok (fs.map λf=>(f.offset,(dZ P f.type).getD 0)) w
 |[],_=>rfl
 |f::fs,h=>by
  obtain⟨n,hn⟩:=aiv.1 (h f m5);have ih:=run_places fs λg hg=>h g (aid _ hg)
  rw[List.mapM_cons];simp only[Sem.run_bind,Sem.run_pure,run_sizeOf hn,Result.andThen_ok];rw[ih];simp[hn]
theorem yV (Pm:TIok P ti){t:TypeId}{ps:List (Nat×Option AV)}{us:Array (Nat×Value)}{zs r:List SV}{φ:Prop}(hb:bok ti t=true)(hz:zeroOf P t=some (.agg zs))(hl:us.size=ps.length)
  (hr:∀ (j:Nat) p q,ps[j]?=some p->us[j]?=some q->p.1=q.1 /\ ∀ v,p.2=some v->v.rep R γ L q.2) (h:lk ti t zs ps=some (r,φ)) (hφ:φ) :
  ∃ u,(Instr.build t us).run P w = .ok u w/\(AV.agg r).rep R γ L u:=by
 have hzero:∃ z,(zeroValue t).run P w = .ok z w/\B0 R γ L zs z.cells:=by
  unfold zeroOf at hz
  cases hi:P.info? t with
  |none=>simp[hi]at hz
  |some i =>
   simp only[hi,ahQ]at hz
   cases Tc:i.zero with
   |none=>simp[Tc]at hz
   |some z =>
    simp only[Tc,ahQ]at hz;refine⟨z,by simp[zeroValue,typeInfo,program,Sem.run,hi,Tc],?_⟩;have:=AV.ofVal_rep (R:=R) (γ:=γ) (L:=L) hz;exact cells_rep this rfl
 obtain⟨z,Zu,hz2⟩:=hzero;by_cases Yr:∃ n e,ti.kind t=some (.array n e)
 .obtain⟨n,e,hk⟩:=Yr
  have hu:=Pm.kind _ _ hk;unfold bok at hb;rw[hk]at hb;obtain⟨k,hse⟩:=aiv.1 hb;obtain⟨Rm,f1,f2⟩:=Br Pm (t:=t) (place:=λi=>some (i*k,k)) (by
   intro i o ty hf m hm;unfold wu at hf;rw[hk]at hf;simp only[hse,Option.map_some,Option.some.injEq,Prod.mk.injEq]at hf;obtain⟨rfl,rfl⟩:=hf;have:=Pm.size _ _ hse;rw[hm]at this;rw[aim this]) ps us.toList zs z.cells r φ (by simpa using hl) (λj p q hp hq=>hr j p q hp (by simpa using hq)) hz2 h hφ
  refine⟨.agg Rm,?_,Rm,rfl,f2.1,f2.2⟩;unfold Instr.build;simp only[Sem.run_bind,Zu,Result.andThen_ok,underlying,program,Sem.run,hu,Sem.run_pure];have Qf:=run_sizeOf (P:=P) (w:=w) (Pm.size _ _ hse);rw[Qf];simp only[Result.andThen_ok];rw[f1];simp
 have PE:∀ i,wu ti t i=ti.field t i:=by
  intro i;unfold wu;split
  .rename_i n e hk;exact absurd ⟨n,e,hk⟩ Yr
  .rfl
 have ht:x2 P t=true:=by
  refine Pm.struct _ ?_;unfold bok at hb;split at hb
  .rename_i n e hk;exact absurd ⟨n,e,hk⟩ Yr
  .exact hb
 obtain⟨fs,hu,ht⟩:∃ fs,P.underlying t=some (.struct fs)/\(fs.all λf=>(dZ P f.type).isSome)=true:=by
  unfold x2 at ht;split at ht
  .rename_i fs hu;exact⟨fs,hu,ht⟩
  .cases ht
 have QA:∀ f∈fs.toList,(dZ P f.type).isSome:=by
  intro f hf;have:=Array.all_eq_true'.1 ht f (by simpa using hf);exact this
 have Zt:=run_places (P:=P) (w:=w) fs.toList QA;obtain⟨Rm,f1,f2⟩:=Br Pm (t:=t) (place:=λi=>(fs.toList.map λf=>(f.offset,(dZ P f.type).getD 0)).toArray[i]?) (by
  intro i o ty hf n hn;rw[PE]at hf;obtain⟨fs',fd,e1,e2,e3,e4⟩:=oK (Pm.field _ _ _ hf);rw[hu]at e1;injection e1 with e1;injection e1 with e1;subst e1
  subst e3 e4;simp[e2,hn]) ps us.toList zs z.cells r φ (by simpa using hl) (λj p q hp hq=>hr j p q hp (by simpa using hq)) hz2 h hφ
 refine⟨.agg Rm,?_,Rm,rfl,f2.1,f2.2⟩;have hm:(fs.mapM (λf=>(do pure (f.offset,<- sizeOf f.type):Sem (Nat×Nat)))).run P w = .ok (fs.toList.map λf=>(f.offset,(dZ P f.type).getD 0)).toArray w:=by
  rw[Array.mapM_eq_mapM_toList];simp only[Sem.run_map,Zt,Result.andThen_ok]
 unfold Instr.build;simp only[Sem.run_bind,Zu,Result.andThen_ok,underlying,program,Sem.run,hu,Sem.run_pure];rw[hm];simp only[Result.andThen_ok];rw[f1];simp
end
section
variable {P:Program} {ti:TI} {B:Nat->Prop} {R:PH} {γ:List Gh} {L:List Ob} {w:World}
theorem BI {ρ:Operand->Option AV}{a:Act}(hρ:∀ x v,ρ x=some v->v.rep R γ L (a.eval x)):∀ {xs:List Operand} {cs:List AC},yE (xs.map ρ)=some cs ->
  xs.length=cs.length /\ ∀ (j:Nat) x y,xs[j]?=some x->cs[j]?=some y->bK R (a.eval x) y
 |[],cs,h=>by injection h with h;subst h;exact⟨rfl,λj x y hx=>by simp at hx⟩
 |x::xs,cs,h=>by
  rw[ah2]at h;unfold yE at h;split at h
  .rename_i heq;cases heq
  .rename_i y rest heq
   injection heq with e1 e2
   subst e2;split at h
   .rename_i z zs hz hzs
    injection h with h;subst h
    obtain⟨g1,g2⟩:=BI hρ hzs;refine⟨by simp[g1],λj x' y' hx hy=>?_⟩
    cases j with
    |zero=>simp at hx hy;subst hx hy;exact SV.norm_rep (hρ _ _ e1) hz
    |succ j=>exact g2 j x' y' (by simpa using hx) (by simpa using hy)
   .cases h
  .cases h
theorem abf {ρ:Operand->Option AV}{args:Array Operand}{x y:AV}(h:args.toList.map ρ=[some x,some y]):∃ a b,args=#[a,b]/\ρ a=some x/\ρ b=some y:=by
 obtain⟨l⟩:=args
 match l,h with
 |[],h=>cases h
 |[a],h=>simp at h
 |[a,b],h=>simp only[ah2,ah6,List.cons.injEq,and_true]at h;exact⟨a,b,rfl,h⟩
 |a::b::c::l,h=>simp at h
theorem Oi (Pm:TIok P ti)(hi:Inv B R γ L w){a:Act}{ρ:Operand->Option AV}(hρ:∀ x v,ρ x=some v->v.rep R γ L (a.eval x)){o:Oper}{v:AV}{φ:Prop}(h:pop ti ρ L o.op=some (v,φ))(hφ:φ) :
  qy P B R γ L w (execOp a.eval o) v:=by
 obtain⟨dst,op,type,pos,after,guard⟩:=o;simp only at h;unfold pop at h;split at h
 .rename_i x
  split at h
  case h_2=>cases h
  .rename_i vx hx
   injection h with h;injection h with e1 e2;subst e1
   exact⟨a.eval x,w,R,by simp[execOp],hi,Ext.refl _ _ _,hρ _ _ hx⟩
 .rename_i x
  split at h
  case h_2=>cases h
  .rename_i vx hx
   injection h with h;injection h with e1 e2;subst e1
   exact⟨a.eval x,w,R,by simp[execOp],hi,Ext.refl _ _ _,hρ _ _ hx⟩
 .rename_i c x y
  split at h
  .rename_i t va vb hc hx hy
   injection h with h;injection h with e1 e2;subst e1
   have h1:=hρ _ _ hc;generalize Sl:a.eval c=cv at h1
   cases h1;refine⟨if t=true then a.eval x else a.eval y,w,R,?_,hi,Ext.refl _ _ _,?_⟩
   .simp[execOp,Sl,asBool]
   .cases t
    .simpa using hρ _ _ hy
    .simpa using hρ _ _ hx
  .cases h
 .rename_i Xj t x y yt
  split at h
  .rename_i va vb hx hy
   obtain⟨u,h1,h2⟩:=EE (P:=P) (x:=x) (y:=y) Pm hi (hρ _ _ hx) (hρ _ _ hy) h hφ;have:=qy.quiet (P:=P) (v:=v) hi h1 h2;simpa[execOp]using this
  .cases h
 .rename_i Xj t x
  split at h
  .rename_i b hx
   injection h with h;injection h with e1 e2;subst e1
   have h1:=hρ _ _ hx;generalize Sl:a.eval x=cv at h1
   cases h1;exact⟨.bool (!b),w,R,by simp[execOp,Sl,Op.unary],hi,Ext.refl _ _ _,.bool _⟩
  .rename_i k n hx
   injection h with h;injection h with e1 e2;subst e1
   have h1:=hρ _ _ hx;generalize Sl:a.eval x=cv at h1
   cases h1;exact⟨.int k (k.wrap (0-n)),w,R,by simp[execOp,Sl,Op.unary,Op.intArith],hi,Ext.refl _ _ _,.int _ _⟩
  .cases h
 .rename_i src ds x
  split at h
  .rename_i k n hx
   have h1:=hρ _ _ hx;generalize Sl:a.eval x=cv at h1
   cases h1;split at h
   .rename_i k' hd
    injection h with h;injection h with e1 e2;subst e1 e2
    obtain⟨d,X1⟩:=aiv.1 hφ;exact⟨.int k' (k'.wrap n),w,R,by simp[execOp,Sl,convert,underlying,program,Sem.run,Pm.kind _ _ hd,Pm.kind _ _ X1,Conv.intToInt],hi,Ext.refl _ _ _,.int _ _⟩
   .cases h
  .rename_i s hx
   have h1:=hρ _ _ hx;generalize Sl:a.eval x=cv at h1
   cases h1;injection h with h;injection h with e1 e2;subst e1 e2
   obtain⟨hd,hs⟩:=hφ;obtain⟨d,X1⟩:=aiv.1 hs;exact⟨.string s,w,R,by simp[execOp,Sl,convert,underlying,program,Sem.run,Pm.kind _ _ hd,Pm.kind _ _ X1],hi,Ext.refl _ _ _,.str _⟩
  .cases h
 .rename_i t p
  cases hx:ρ p with
  |none=>simp[hx]at h
  |some vx =>
   rw[hx]at h;obtain⟨u,h1,h2⟩:=sp Pm hi (hρ _ _ hx) h hφ;exact qy.quiet hi h1 h2
 .rename_i s x i
  split at h
  .rename_i id O9 i0 off hx
   obtain⟨u,h1,h2⟩:=uX Pm (w:=w) (hρ _ _ hx) h hφ;exact qy.quiet hi h1 h2
  case h_3=>cases h
  .rename_i vx PE hx
   obtain⟨u,h1,h2⟩:=tn Pm (w:=w) (hρ _ _ hx) h hφ;exact qy.quiet hi h1 h2
 .rename_i s x i
  cases hx:ρ x with
  |none=>simp[hx]at h
  |some vx =>
   rw[hx]at h;obtain⟨u,h1,h2⟩:=zp Pm (w:=w) (hρ _ _ hx) h hφ;exact qy.quiet hi h1 h2
 .rename_i t x ix
  split at h
  .rename_i id O9 lo n vi hx hy
   obtain⟨u,h1,h2⟩:=uf Pm hi (hρ _ _ hx) (hρ _ _ hy) h hφ;exact qy.quiet hi h1 h2
  .rename_i vx vi PE hx hy
   obtain⟨u,h1,h2⟩:=tH Pm (w:=w) (hρ _ _ hx) (hρ _ _ hy) h hφ;exact qy.quiet hi h1 h2
  .cases h
 .rename_i t x ix
  split at h
  .rename_i vx vi hx hy
   obtain⟨u,h1,h2⟩:=A6 Pm (w:=w) (hρ _ _ hx) (hρ _ _ hy) h hφ;exact qy.quiet hi h1 h2
  .cases h
 .rename_i t i
  split at h
  .rename_i ps hx
   split at h
   case h_2=>cases h
   .rename_i p hp
    injection h with h;injection h with e1 e2;subst e1
    obtain⟨vs,h1,h2,h3⟩:=hρ _ _ hx;have O8:i<vs.size:=by rw[h2];exact(ahR.1 hp).1
    have hu:vs[i]?=some vs[i]:=aie O8;exact⟨vs[i],w,R,by simp[execOp,h1,Instr.extract,hu],hi,Ext.refl _ _ _,PV.av_rep (h3 i _ p hu hp)⟩
  .rename_i ps hx
   split at h
   case h_2=>cases h
   .rename_i p hp
    injection h with h;injection h with e1 e2;subst e1
    obtain⟨vs,h1,h2,h3⟩:=hρ _ _ hx;have O8:i<vs.size:=by rw[h2];exact(ahR.1 hp).1
    have hu:vs[i]?=some vs[i]:=aie O8;exact⟨vs[i],w,R,by simp[execOp,h1,Instr.extract,hu],hi,Ext.refl _ _ _,h3 i _ p hu hp⟩
  .cases h
 .rename_i x
  split at h
  .rename_i cs hx
   injection h with h;injection h with e1 e2;subst e1
   have h1:=hρ _ _ hx;have h1':=h1;generalize Sl:a.eval x=cv at h1
   cases h1;exact⟨_,w,R,by simp[execOp,Sl];rfl,hi,Ext.refl _ _ _,by rw[<- Sl];exact h1'⟩
  .rename_i id off hx
   injection h with h;injection h with e1 e2;subst e1
   obtain⟨b,h1,h2⟩:=hρ _ _ hx;exact⟨.pointer (some ⟨b,off,none⟩),w,R,by simp[execOp,h1],hi,Ext.refl _ _ _,b,rfl,h2⟩
  .rename_i id O9 i o hx
   split at h
   case h_2=>cases h
   rename_i Pn es k hL;injection h with h;injection h with e1 e2;subst e1 e2
   subst hφ;have h1:=hρ _ _ hx;obtain⟨_,g,_,P5⟩:=(h1.2.2 _ es k hL).2 rfl
   match g,P5 with
   |.arr b c,P5 =>
    have P5:a.eval x = .pointer (some ⟨b,i*k+o,none⟩):=P5;exact⟨_,w,R,by simp[execOp,P5];rfl,hi,Ext.refl _ _ _,by rw[<- P5];exact h1⟩
  .rename_i f cs hx
   injection h with h;injection h with e1 e2;subst e1
   have h1:=hρ _ _ hx;obtain⟨vs,hv,_⟩:=id h1;exact⟨_,w,R,by simp[execOp,hv];rfl,hi,Ext.refl _ _ _,by rw[<- hv];exact h1⟩
  .rename_i f cs hx
   injection h with h;injection h with e1 e2;subst e1
   have h1:=hρ _ _ hx;have h1':=h1;generalize Sl:a.eval x=cv at h1
   cases h1;exact⟨_,w,R,by simp[execOp,Sl];rfl,hi,Ext.refl _ _ _,by rw[<- Sl];exact h1'⟩
  .cases h
 .rename_i t x lo Ub
  split at h
  .rename_i vx hx hl hh
   obtain rfl:lo=none:=by cases lo<;>simp at hl ⊢
   obtain rfl:Ub=none:=by cases Ub<;>simp at hh ⊢
   obtain⟨u,h1,h2⟩:=iq Pm hi (lo:=none) (hi:=none) (vlo:=none) (vhi:=none) (hρ _ _ hx) trivial trivial h hφ;exact qy.quiet hi h1 h2
  .rename_i vx l hx hl hh
   obtain⟨lo',rfl⟩:∃ l',lo=some l':=by cases lo<;>simp at hl ⊢
   obtain rfl:Ub=none:=by cases Ub<;>simp at hh ⊢
   simp only[Option.map_some,Option.some.injEq]at hl;obtain⟨u,h1,h2⟩:=iq Pm hi (lo:=some l) (hi:=none) (vlo:=some (a.eval lo')) (vhi:=none) (hρ _ _ hx) (hρ _ _ hl) trivial h hφ;exact qy.quiet hi h1 h2
  .rename_i vx l hx hl hh
   obtain rfl:lo=none:=by cases lo<;>simp at hl ⊢
   obtain⟨hi'',rfl⟩:∃ l',Ub=some l':=by cases Ub<;>simp at hh ⊢
   simp only[Option.map_some,Option.some.injEq]at hh;obtain⟨u,h1,h2⟩:=iq Pm hi (lo:=none) (hi:=some l) (vlo:=none) (vhi:=some (a.eval hi'')) (hρ _ _ hx) trivial (hρ _ _ hh) h hφ;exact qy.quiet hi h1 h2
  .rename_i vx l l2 hx hl hh
   obtain⟨lo',rfl⟩:∃ l',lo=some l':=by cases lo<;>simp at hl ⊢
   obtain⟨hi'',rfl⟩:∃ l',Ub=some l':=by cases Ub<;>simp at hh ⊢
   simp only[Option.map_some,Option.some.injEq]at hl hh;obtain⟨u,h1,h2⟩:=iq Pm hi (lo:=some l) (hi:=some l2) (vlo:=some (a.eval lo')) (vhi:=some (a.eval hi'')) (hρ _ _ hx) (hρ _ _ hl) (hρ _ _ hh) h hφ;exact qy.quiet hi h1 h2
  .cases h
 .rename_i args argTypes
  split at h
  .rename_i x t hx ht
   have e1:args=#[x]:=by cases args;simp_all
   have e2:argTypes=#[t]:=by cases argTypes;simp_all
   subst e1 e2;split at h
   .rename_i id O9 lo n hρx
    obtain⟨u,h1,h2⟩:=xQ Pm (w:=w) (ty:=type) (hρ _ _ hρx) h hφ;refine⟨u,w,R,?_,hi,Ext.refl _ _ _,h2⟩;simp[execOp,resolve,invoke,builtin,h1]
   case h_3=>cases h
   .rename_i vx PE hρx
    obtain⟨u,h1,h2⟩:=EI Pm (w:=w) (ty:=type) (hρ _ _ hρx) h hφ;refine⟨u,w,R,?_,hi,Ext.refl _ _ _,h2⟩;simp[execOp,resolve,invoke,builtin,h1]
  .cases h
 .rename_i args argTypes
  split at h
  .rename_i vx vy Y9
   obtain⟨x,y,rfl,Px,hy2⟩:=abf Y9
   .obtain⟨u,h1,h2⟩:=oS (P:=P) (w:=w) (ts:=argTypes) (ty:=type) (hρ _ _ Px) (hρ _ _ hy2) h
    refine⟨u,w,R,?_,hi,Ext.refl _ _ _,h2⟩;simp only[Bool.false_eq_true,if_false]at h1;simp[execOp,resolve,invoke,builtin,h1]
  .cases h
 .rename_i args argTypes
  split at h
  .rename_i vx vy Y9
   obtain⟨x,y,rfl,Px,hy2⟩:=abf Y9
   .obtain⟨u,h1,h2⟩:=oS (P:=P) (w:=w) (ts:=argTypes) (ty:=type) (hρ _ _ Px) (hρ _ _ hy2) h
    refine⟨u,w,R,?_,hi,Ext.refl _ _ _,h2⟩;simp only[if_true]at h1;simp[execOp,resolve,invoke,builtin,h1]
  .cases h
 .rename_i t parts
  split at h
  .rename_i zs hz
   split at h
   case h_2=>cases h
   .rename_i r ψ hb
    injection h with h;injection h with e1 e2;subst e1 e2
    obtain⟨Xk,hr⟩:=hφ;obtain⟨u,h1,h2⟩:=yV Pm (w:=w) (R:=R) (γ:=γ) (L:=L) (us:=parts.map λp=>(p.1,a.eval p.2)) Xk (Pm.zero _ _ hz) m5 (by
     intro j p q hp hq;rw[aic]at hp;rw[Array.getElem?_map]at hq
     cases hj:parts[j]? with
     |none=>simp[hj]at hq
     |some pj =>
      have:parts.toList[j]?=some pj:=by simpa using hj
      rw[this]at hp;rw[hj]at hq;simp only[Option.map_some,Option.some.injEq]at hp hq;subst hp hq;exact⟨rfl,λv hv=>hρ _ _ hv⟩) hb hr
    exact qy.quiet hi h1 h2
  .cases h
 .rename_i f first captured
  split at h
  .rename_i cs hf hc
   injection h with h;injection h with e1 e2;subst e1
   obtain⟨g1,g2⟩:=BI hρ hc;have:first=#[]:=by cases first;simp_all
   subst this;refine⟨.func (.func f) #[] (captured.map a.eval),w,R,by simp[execOp,Instr.makeFunc],hi,Ext.refl _ _ _,?_⟩;refine .fn f _ cs (by simpa using g1) (λj u x hu hx=>?_);rw[Array.getElem?_map]at hu
   cases hj:captured[j]? with
   |none=>simp[hj]at hu
   |some y =>
    rw[hj]at hu;simp only[Option.map_some,Option.some.injEq]at hu;subst hu;exact g2 j y x (by simpa using hj) hx
  .cases h
 .cases h
end
open Go.RowKit Go.Great
def PV.cells:PV->List AC
 |.one x=>[x]
 |.agg xs=>xs
def lY (ρ:Operand->Option AV):List (Nat×Operand)->Nat->Option (List (List AC))
 |[],_=>some []
 |(i,x)::ps,j=>if i=j then match (ρ x).bind AV.norm,lY ρ ps (j+1)with
   |some p,some es=>some (p.cells::es)
   |_,_=>none
  else none
def wl (ti:TI)(ρ:Operand->Option AV)(t:TypeId)(len:Nat)(parts:List (Nat×Operand)):Option (AV×Prop) :=
 match lY ρ parts 0,ti.elem t with
 |some es,some E=>match ti.size E with
  |some k=>if len=0 then some (.one .emp,es=[])else some (.one (.c (.lst es)),es.length=len/\(∀ e∈es,e.length=k)/\0<k/\len*k<=16777216/\ti.zok E=true)
  |none=>none
 |_,_=>none
def acZ (R:PHf)(b:Nat)(f:Nat->Option Value):PHf:=λb' o=>match R b' o with
 |some u=>some u
 |none=>if b'=b then f o else none
def PH.add (R:PH)(b:Nat)(f:Nat->Option Value):PH:=⟨acZ R b f,R.tab.mono λb' o u h=>by unfold acZ;rw[h]⟩
theorem PH.add_eq {R:PH}{b:Nat}{f:Nat->Option Value}(hR:∀ o,R b o=none)(b' o:Nat):(R.add b f) b' o=if b'=b then f o else R b' o:=by
 show acZ R b f b' o=_;unfold acZ;by_cases e:b'=b
 .subst e;rw[hR,if_pos rfl]
 .rw[if_neg e];cases R b' o<;>simp[e]
section
variable {P:Program} {ti:TI} {B:Nat->Prop} {R:PH} {γ:List Gh} {L:List Ob} {w:World}
theorem Inv.lt (hi:Inv B R γ L w){b o:Nat}{u:Value}(h:R b o=some u):b<w.heap.size:=lt_of_cell (hi.val _ _ _ h)
theorem Inv.none_at (hi:Inv B R γ L w)(o:Nat):R w.heap.size o=none:=by
 cases h:R w.heap.size o with
 |none=>rfl
 |some u=>have:=hi.lt h;omega
theorem yk (hi:Inv B R γ L w)(f:Nat->Option Value):PH.sub R (R.add w.heap.size f):=by
 intro b o u h;have:=hi.lt h;rw[PH.add_eq hi.none_at,if_neg m0];exact h
theorem di (w:World)(o:Obj):(w.alloc o).heap[w.heap.size]?=some o:=by show(w.heap.push o)[w.heap.size]?=_;simp
theorem eC (w:World)(o:Obj){b:Nat}(h:b<w.heap.size):(w.alloc o).heap[b]?=w.heap[b]?:=Below.heap_alloc w o b h
theorem Kept.alloc {B:Nat->Prop}{w:World}(h:∀ b,B b->b<w.heap.size)(o:Obj):Kept B w (w.alloc o) :=
 ⟨rfl,rfl,rfl,m5,λb hb=>eC w o (h b hb)⟩
theorem Inv.pers (hi:Inv B R γ L w)(cells:Array Value)(E:TypeId)(f:Nat->Option Value)(hf:∀ o u,f o=some u->cells[o]?=some u):Inv B (R.add w.heap.size f) γ L (w.alloc (.cells cells E)):=by
 refine⟨hi.len,λb o u h=>?_,λid x g hx hg=>?_,hi.inj,λi g b hg hb=>?_,?_⟩
 .rw[PH.add_eq hi.none_at]at h
  split at h
  .rename_i e;subst e
   rw[cob_ (di w _)];exact hf o u h
  .have:=hi.lt h
   have h2:=hi.val _ _ _ h;rw[<- h2];exact World.cell?_of_block (w:=w) (eC w _ this)
 .refine(hi.obj id x g hx hg).mv (Mv.of_sub (yk hi _)) (λb hb=>eC w _ (hi.new id g b hg hb).2) (λb o hb h=>?_)
  have:=(hi.new id g b hg hb).2;rw[PH.add_eq hi.none_at,if_neg m0];exact h
 .have:=hi.new i g b hg hb
  exact⟨this.1,by simp;omega⟩
 .intro b hb;have:=hi.bsz b hb;simp;omega
theorem Ext.pers (hi:Inv B R γ L w)(o:Obj)(f:Nat->Option Value):Ext B R (R.add w.heap.size f) w (w.alloc o):=by
 refine⟨Kept.alloc hi.bsz o,yk hi f,λb o hb=>?_⟩;have:=hi.bsz b hb;rw[PH.add_eq hi.none_at,if_neg m0]
theorem PV.cells_rep {p:PV}{u:Value}(h:p.rep R u):u.cells.size=p.cells.length /\ ∀ (j:Nat) v x,u.cells[j]?=some v->p.cells[j]?=some x->bK R v x:=by
 cases p with
 |one x =>
  have e:=(bK.one h).1;rw[e];refine⟨rfl,λj v y hv hy=>?_⟩
  cases j with
  |zero=>simp[PV.cells]at hv hy;subst hv hy;exact h
  |succ j=>simp at hv
 |agg xs =>
  obtain⟨vs,rfl,h1,h2⟩:=h;exact⟨h1,h2⟩
theorem wW {ρ:Operand->Option AV}{a:Act}(hρ:∀ x v,ρ x=some v->v.rep R γ L (a.eval x)):∀ (ps:List (Nat×Operand)) (j:Nat) (es:List (List AC)),lY ρ ps j=some es ->
  ∃ vs:List Value,(ps.map λp=>(p.1,a.eval p.2))=(vs.zipIdx j).map (λx=>(x.2,x.1))/\vs.length=es.length /\
   (∀ (i:Nat) v e,vs[i]?=some v->es[i]?=some e->v.cells.size=e.length /\ ∀ (q:Nat) u x,v.cells[q]?=some u->e[q]?=some x->bK R u x)
 |[],j,es,h=>by injection h with h;subst h;exact⟨[],rfl,rfl,λi v e hv=>by simp at hv⟩
 |(i,x)::ps,j,es,h=>by
  unfold lY at h;split at h
  .rename_i Wu
   subst Wu;split at h
   .rename_i p Ql hp Xl
    injection h with h;subst h
    obtain⟨vs,h1,h2,h3⟩:=wW hρ ps (i+1) Ql Xl
    cases hx:ρ x with
    |none=>simp[hx]at hp
    |some vx =>
     simp only[hx,ahQ]at hp;have hr:=PV.cells_rep (AV.norm_rep (hρ _ _ hx) hp);refine⟨a.eval x::vs,by simp[List.zipIdx_cons,h1],by simp[h2],λq v e hv he=>?_⟩
     cases q with
     |zero=>simp at hv he;subst hv he;exact hr
     |succ q=>exact h3 q v e (by simpa using hv) (by simpa using he)
   .cases h
  .cases h
theorem flat_get (k:Nat):∀ (vs:List Value),(∀ v∈vs,v.cells.size=k) ->∀ (i:Nat) (v:Value),vs[i]?=some v ->∀ j,j<k->(vs.flatMap λv=>v.cells.toList)[i*k+j]?=v.cells[j]?
 |[],_,i,v,h,j,hj=>by simp at h
 |y::l,hk,0,v,h,j,hj=>by
  simp at h;subst h;rw[ais,ah5 (by simp;rw[hk y m5];omega)];simp
 |y::l,hk,i+1,v,h,j,hj=>by
  have h':l[i]?=some v:=by simpa using h
  have hy:=hk y m5;rw[ais,ahY (by simp;rw[hy,Nat.succ_mul];omega),<- flat_get k l (λu hu=>hk u (aid _ hu)) i v h' j hj];congr 1;simp;rw[hy,Nat.succ_mul];omega
theorem AW (k:Nat):∀ (vs:List Value),(∀ v∈vs,v.cells.size=k)->(vs.flatMap λv=>v.cells.toList).length=vs.length*k
 |[],_=>by simp
 |y::l,hk=>by
  rw[ais,ahZ,AW k l λu hu=>hk u (aid _ hu),aib,Nat.succ_mul];simp;rw[hk y m5];omega
theorem FY (Pm:TIok P ti)(hi:Inv B R γ L w){a:Act}{ρ:Operand->Option AV}(hρ:∀ x v,ρ x=some v->v.rep R γ L (a.eval x)){t:TypeId}{len:Nat}{parts:Array (Nat×Operand)}{v:AV}{φ:Prop}
  (h:wl ti ρ t len parts.toList=some (v,φ)) (hφ:φ) :
  ∃ u w' R',(Instr.buildSlice t len (parts.map λp=>(p.1,a.eval p.2))).run P w = .ok u w'/\Inv B R' γ L w'/\Ext B R R' w w'/\v.rep R' γ L u:=by
 unfold wl at h;split at h
 .rename_i es E Xl hE
  split at h
  .rename_i k hk
   have hE:=Pm.elem _ _ hE;have hk:=Pm.size _ _ hk;have hu:P.underlying t=some (.slice E):=by
    unfold mM at hE;split at hE
    .rename_i e he;injection hE with hE;subst hE;exact he
    .cases hE
   obtain⟨vs,e1,e2,e3⟩:=wW hρ _ _ _ Xl;have Vv:(parts.map λp=>(p.1,a.eval p.2)).toList=(vs.zipIdx 0).map λx=>(x.2,x.1):=by rw[Array.toList_map,e1]
   split at h
   .rename_i hl0
    injection h with h;injection h with g1 g2;subst g1 g2
    subst hl0;have Zv:vs=[]:=aif (by rw[e2,hφ];rfl);subst Zv;refine⟨.slice (some ⟨w.heap.size,0,none⟩) 0 0,w.alloc (.cells #[] E),R.add w.heap.size (λ_=>none),?_,hi.pers _ _ _ (λo u h=>by cases h),Ext.pers hi _ _,_,rfl⟩;have hz:(sizeOf E).run P w = .ok k w:=run_sizeOf hk;have hp0:parts=#[]:=by
     have:parts.toList=[]:=by simpa using e1
     cases parts;simp_all
    subst hp0;simp[Instr.buildSlice,underlying,program,Sem.run,hu,hz,Instr.fill,newRow];have e0:(Array.map (λ(_:Nat)=>(default:Value)) (Array.range 0))=#[]:=by simp
    rw[e0]
   .rename_i hl0
    injection h with h;injection h with g1 g2;subst g1 g2
    obtain⟨hlen,US,UD,hsm,Zw⟩:=hφ;obtain⟨i,z,Tn,U2,Ys,hi4⟩:=Pm.zok _ Zw _ hk;have Vl:∀ v∈vs,v.cells.size=k:=by
     intro v hv;obtain⟨q,hq⟩:=List.mem_iff_getElem?.1 hv;have O8:q<es.length:=by rw[<- e2];exact(ahR.1 hq).1
     have he:es[q]?=some es[q]:=ah0 O8;rw[(e3 q v _ hq he).1];exact US _ (List.getElem_mem O8)
    have PE:¬ len*i.size=0:=by
     rw[Ys];intro e;rcases Nat.mul_eq_zero.1 e with e|e<;>omega
    have P4:=run_buildSlice (P:=P) w t E len (parts.map λp=>(p.1,a.eval p.2)) (vs.flatMap λv=>v.cells.toList).toArray i z hu Tn U2 (by rw[Ys];omega) PE (by
     rw[Vv,Ys];exact Go.Great.fill_whole UD vs _ Vl (by simp;rw[e2,hlen]))
    refine⟨_,_,R.add w.heap.size (λo=>(vs.flatMap λv=>v.cells.toList).toArray[o]?),P4,hi.pers _ _ _ (λo u h=>h),Ext.pers hi _ _,?_⟩;have SK:=yk hi (λo=>(vs.flatMap λv=>v.cells.toList).toArray[o]?);refine .lst _ len len es k (λj=>((vs.flatMap λv=>v.cells.toList)[j]?).getD Go.undef) w.heap.size 0 hlen (ah7 _) US (λ_=>rfl) (λj hj=>?_) (λq e j x he hx=>?_)
    .rw[PH.add_eq hi.none_at,if_pos rfl]
     have:j<(vs.flatMap λv=>v.cells.toList).length:=by rw[AW k vs Vl,e2,hlen];exact hj
     simp[ah0 this]
    .have Yt:q<vs.length:=by rw[e2];exact(ahR.1 he).1
     have hv:vs[q]?=some vs[q]:=ah0 Yt;have UU:j<k:=by rw[<- US e (ahX he)];exact(ahR.1 hx).1
     have h3:=e3 q _ e hv he;rw[flat_get k vs Vl q _ hv j UU];have hju:j<vs[q].cells.size:=by rw[h3.1];exact(ahR.1 hx).1
     rw[aie hju];exact bK.mono SK (h3.2 j _ x (aie hju) hx)
  .cases h
 .cases h
end
