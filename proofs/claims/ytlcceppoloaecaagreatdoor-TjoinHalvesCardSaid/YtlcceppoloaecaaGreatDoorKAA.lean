/- Parts. No condition. -/
import Derived.WalkKit
import Derived.Orders
import Derived.Deep.MidRow
import Derived.Deep.AppendSrc
set_option linter.unusedSimpArgs false
set_option linter.unusedVariables false
namespace Go.Proofs
theorem t7:True:=trivial
theorem m0 {p:Prop}(h:p:=by omega):p:=h
theorem m5 {p:Prop}(h:p:=by simp):p:=h
theorem m8 {p:Prop}(h:p:=by simp;omega):p:=h
theorem m9 {p:Prop}(h:p:=by decide):p:=h
theorem k7 {p:Prop}(h:p:=by kernel_rfl):p:=h
theorem r5 {p:Prop}(h:p:=by rfl):p:=h
end Go.Proofs
namespace Go.Proofs.YtlcceppoloaecaaGreatDoor
abbrev ap9 := @Option.bind_some
abbrev ap_ := @List.getElem?_eq_some_iff
abbrev ap' := @cond_false
abbrev aqa := @cond_true
abbrev aqb := @decide_eq_false
abbrev aqc := @decide_eq_true
abbrev aqd := @List.nil_append
abbrev aqe := @List.mem_of_getElem?
abbrev aqf := @List.getElem?_append_right
abbrev aqg := @List.length_append
abbrev aqh := @List.getElem?_eq_getElem
abbrev aqi := @Nat.le_of_ble_eq_true
abbrev aqj := @List.map_cons
abbrev aqk := @List.length_map
abbrev aql := @List.map_append
abbrev aqm := @List.getElem?_append_left
abbrev aqn := @List.map_nil
abbrev aqo := @Nat.le_refl
abbrev aqp := @List.mem_cons
abbrev aqr := @Bool.and_eq_true
abbrev aqs := @List.getElem?_set_self
abbrev aqt := @List.getElem?_set_ne
abbrev aqu := @Nat.zero_le
abbrev aqv := @List.length_cons
abbrev aqw := @List.getElem?_map
abbrev aqx := @List.mem_cons_of_mem
abbrev aqy := @Array.getElem?_eq_getElem
abbrev aqz := @List.eq_nil_of_length_eq_zero
abbrev aqA := @List.append_assoc
abbrev aqB := @List.mem_append
abbrev aqC := @of_decide_eq_true
abbrev aqD := @List.getElem?_take
abbrev aqE := @List.length_nil
abbrev aqF := @List.drop_eq_getElem_cons
abbrev aqG := @Option.some.inj
abbrev aqH := @Bool.true_and
abbrev aqI := @List.append_nil
abbrev aqJ := @List.mem_map
abbrev aqK := @List.length_eq_zero_iff
abbrev aqL := @Nat.mul_le_mul_right
abbrev aqM := @List.flatMap_cons
abbrev aqN := @Nat.lt_of_lt_of_le
abbrev aqO := @List.take_of_length_le
abbrev aqP := @List.mem_singleton
abbrev aqQ := @Option.isSome_iff_exists
abbrev aqR := @Nat.zero_add
abbrev aqS := @Array.getElem?_setIfInBounds_ne
abbrev aqT := @Array.getElem?_eq_some_iff
abbrev aqU := @List.take_append_drop
abbrev aqV := @List.getElem?_drop
abbrev aqW := @List.mem_cons_self
abbrev aqX := @List.getElem?_eq_none
abbrev aqY := @List.all_eq_true
abbrev aqZ := @List.foldl_cons
abbrev aq0 := @List.length_take
abbrev aq1 := @List.getD_eq_getElem?_getD
abbrev aq2 := @Array.getElem?_setIfInBounds_self_of_lt
abbrev aq3 := @List.forall_mem_cons
abbrev aq4 := @List.drop_length
abbrev aq5 := @List.pairwise_cons
abbrev aq6 := @List.mem_of_mem_take
open Go.RowKit
inductive Nul where
 |ptr
 |iface
 |map
 |func
 deriving Inhabited,DecidableEq
def Nul.val:Nul->Value
 |.ptr => .pointer none
 |.iface => .nilIface
 |.map => .map none
 |.func => .nilFunc
inductive AC where
 |nul (k:Nul)
 |bool (b:Bool)
 |int (k:IntKind) (n:Int)
 |str (s:ByteArray)
 |lst (es:List (List AC))
 |ref (cs:List AC)
 |fn (f:FuncId) (caps:List AC)
 deriving Inhabited
abbrev PHf:=Nat->Nat->Option Value
def amJ:Nat:=1
def sI (o:Nat):Option Value:=if o<20 then some (.int .u64 (10 ^ o))else none
def gL (f:PHf):Prop :=∀ o u,sI o=some u->f amJ o=some u
theorem gL.mono {f g:PHf}(h:gL f)(k:∀ b o u,f b o=some u->g b o=some u):gL g:=fun o u e=>k _ _ _ (h o u e)
structure PH where
 fn:PHf
 tab:gL fn
instance : CoeFun PH (fun _ => PHf) := ⟨PH.fn⟩
def PH.sub (R R':PH):Prop :=∀ b o u,R b o=some u->R' b o=some u
def PH.put (R:PH)(f:PHf)(h:∀ b o u,R b o=some u->f b o=some u):PH:=⟨f,R.tab.mono h⟩
theorem PH.sub_refl (R:PH):PH.sub R R:=fun _ _ _ h=>h
theorem PH.sub_trans {R R' U8:PH}(h:PH.sub R R')(g:PH.sub R' U8):PH.sub R U8:=fun b o u e=>g b o u (h b o u e)
inductive bD (R:PH):Value->AC->Prop
 |nul (k:Nul) (v:Value) (h:v=k.val):bD R v (.nul k)
 |bool (b:Bool):bD R (.bool b) (.bool b)
 |int (k:IntKind) (n:Int):bD R (.int k n) (.int k n)
 |str (s:ByteArray):bD R (.string s) (.str s)
 |lst (a:Option Addr) (n c:Nat) (es:List (List AC)) (k:Nat) (cv:Nat->Value) (b o:Nat) (hn:es.length=n) (hc:n<=c)
   (hk:∀ e∈es,e.length=k) (ha:0<n->a=some ⟨b,o,none⟩) (hr:∀ j,j<n*k->R b (o+j)=some (cv j))
   (he:∀ (i:Nat) e (j:Nat) x,es[i]?=some e->e[j]?=some x->bD R (cv (i*k+j)) x):bD R (.slice a n c) (.lst es)
 |ref (b o:Nat) (cs:List AC) (cv:Nat->Value) (hr:∀ j,j<cs.length->R b (o+j)=some (cv j))
   (he:∀ (j:Nat) x,cs[j]?=some x->bD R (cv j) x):bD R (.pointer (some ⟨b,o,none⟩)) (.ref cs)
 |fn (f:FuncId) (caps:Array Value) (cs:List AC) (hs:caps.size=cs.length)
   (he:∀ (j:Nat) v x,caps[j]?=some v->cs[j]?=some x->bD R v x):bD R (.func (.func f) #[] caps) (.fn f cs)
theorem bD.mono {R R':PH}(h:PH.sub R R'):∀ {v x},bD R v x->bD R' v x:=by
 intro v x hx
 induction hx with
 |nul k v h=>exact .nul k v h
 |bool b=>exact .bool b
 |int k n=>exact .int k n
 |str s=>exact .str s
 |lst a n c es k cv b o hn hc hk ha hr _ ih=>exact .lst a n c es k cv b o hn hc hk ha (fun j hj=>h _ _ _ (hr j hj)) ih
 |ref b o cs cv hr _ ih=>exact .ref b o cs cv (fun j hj=>h _ _ _ (hr j hj)) ih
 |fn f caps cs hs _ ih=>exact .fn f caps cs hs ih
inductive Cap where
 |c (x:AC)
 |ptr (id off:Nat)
 deriving Inhabited
inductive SV where
 |c (x:AC)
 |emp
 |own (es:List (List AC)) (t:Nat)
 |ptr (id off:Nat)
 |sl (id OY lo n:Nat)
 |ep (id OY i o:Nat)
 |mp (id:Nat)
 |clo (f:FuncId) (caps:List Cap)
 deriving Inhabited
inductive PV where
 |one (x:AC)
 |agg (xs:List AC)
 deriving Inhabited
inductive CV where
 |val (p:PV)
 |tup (ps:List PV)
 deriving Inhabited
inductive AV where
 |one (x:SV)
 |agg (xs:List SV)
 |tup (ps:List PV)
 |tupS (xs:List SV)
 |undef
 deriving Inhabited
inductive Ob where
 |box (cs:List SV)
 |spare (n k:Nat)
 |row (OY:Nat) (es:List (List SV)) (k:Nat)
 |map (P5:List (AC×AV))
 |dead
 deriving Inhabited
inductive Gh where
 |none
 |box (b:Nat)
 |arr (b c:Nat)
def Gh.block:Gh->Option Nat
 |.none=>Option.none
 |.box b=>some b
 |.arr b _=>some b
def Link (n:Nat)(v:Value):Gh->Prop
 |.none =>∃ a,v = .slice a 0 0
 |.arr b c=>v = .slice (some ⟨b,0,Option.none⟩) n c
 |.box _=>False
def Cap.rep (R:PH)(γ:List Gh):Cap->Value->Prop
 |.c x,v=>bD R v x
 |.ptr id off,v =>∃ b,v = .pointer (some ⟨b,off,none⟩)/\γ[id]?=some (.box b)
def apL (OY k lo n:Nat)(v:Value):Gh->Prop
 |.none=>(∃ a,v = .slice a 0 0/\(OY<65536->a=none))/\n=0/\lo=0
 |.arr b c=>v = .slice (some ⟨b,lo*k,Option.none⟩) n (c-lo)\/(c=lo/\n=0 /\ ∃ a,v = .slice a 0 0)
 |.box _=>False
def ang (k i o:Nat)(v:Value):Gh->Prop
 |.arr b _=>v = .pointer (some ⟨b,i*k+o,Option.none⟩)
 |_=>False
def SV.rep (R:PH)(γ:List Gh)(L:List Ob):SV->Value->Prop
 |.c x,v=>bD R v x
 |.emp,v =>∃ a,v = .slice a 0 0
 |.own es t,v=>bD R v (.lst es)/\t<L.length /\ ∀ n k,L[t]?=some (.spare n k)->es.length<=n/\(∀ e∈es,e.length=k)/\(es.length=n ->∃ g,γ[t]?=some g/\Link n v g)
 |.ptr id off,v =>∃ b,v = .pointer (some ⟨b,off,none⟩)/\γ[id]?=some (.box b)
 |.sl id OY lo n,v=>(v.cells=#[v]/\v.oneCell'=true)/\id<L.length /\ ∀ Pl es k,L[id]?=some (.row Pl es k)->OY<=Pl/\(OY=Pl->lo+n<=es.length /\ ∃ g,γ[id]?=some g/\apL OY k lo n v g)
 |.ep id OY i o,v=>(v.cells=#[v]/\v.oneCell'=true)/\id<L.length /\ ∀ Pl es k,L[id]?=some (.row Pl es k)->OY<=Pl/\(OY=Pl->i<es.length /\ ∃ g,γ[id]?=some g/\ang k i o v g)
 |.mp id,v =>∃ b,v = .map (some b)/\γ[id]?=some (.box b)
 |.clo f caps,v =>∃ vs:Array Value,v = .func (.func f) #[] vs/\vs.size=caps.length /\ ∀ (j:Nat) u x,vs[j]?=some u->caps[j]?=some x->x.rep R γ u
def PV.rep (R:PH):PV->Value->Prop
 |.one x,v=>bD R v x
 |.agg xs,v =>∃ vs:Array Value,v = .agg vs/\vs.size=xs.length /\ ∀ (j:Nat) u x,vs[j]?=some u->xs[j]?=some x->bD R u x
def CV.rep (R:PH):CV->Value->Prop
 |.val p,v=>p.rep R v
 |.tup ps,v =>∃ vs:Array Value,v = .tuple vs/\vs.size=ps.length /\ ∀ (j:Nat) u p,vs[j]?=some u->ps[j]?=some p->p.rep R u
def AV.rep (R:PH)(γ:List Gh)(L:List Ob):AV->Value->Prop
 |.one x,v=>x.rep R γ L v
 |.agg xs,v =>∃ vs:Array Value,v = .agg vs/\vs.size=xs.length /\ ∀ (j:Nat) u x,vs[j]?=some u->xs[j]?=some x->x.rep R γ L u
 |.tup ps,v =>∃ vs:Array Value,v = .tuple vs/\vs.size=ps.length /\ ∀ (j:Nat) u p,vs[j]?=some u->ps[j]?=some p->p.rep R u
 |.tupS xs,v =>∃ vs:Array Value,v = .tuple vs/\vs.size=xs.length /\ ∀ (j:Nat) u x,vs[j]?=some u->xs[j]?=some x->x.rep R γ L u
 |.undef,v=>v=Go.undef
def lc (R:PH)(γ:List Gh)(L:List Ob)(w:World):Ob->Gh->Prop
 |.box cs,.box b=>(∃ vs E,w.heap[b]?=some (.cells vs E (0,0))/\vs.size=cs.length /\ ∀ (j:Nat) u x,vs[j]?=some u->cs[j]?=some x->x.rep R γ L u) /\ ∀ o,R b o=none
 |.spare n k,.arr b c=>(∃ vs E,w.heap[b]?=some (.cells vs E (0,0))/\vs.size=c*k)/\n<=c/\0<k /\ ∀ o,n*k<=o->R b o=none
 |.spare n _,.none=>n=0
 |.row OY es k,.arr b c=>(∃ vs E,(w.heap[b]?=some (.cells vs E (0,0))/\E=OY%65536/\65536<=OY)/\vs.size=c*k /\ ∀ (i:Nat) e (j:Nat) u x,es[i]?=some e->vs[i*k+j]?=some u->e[j]?=some x->x.rep R γ L u)/\es.length<=c/\0<k/\(∀ e∈es,e.length=k) /\ ∀ o,R b o=none
 |.row _ es _,.none=>es=[]
 |.map P5,.box b=>(∃ es,w.heap[b]?=some (.map es es.size)/\es.size=P5.length /\ ∀ (j:Nat) e p,es[j]?=some e->P5[j]?=some p->e.born=j/\bD R e.key p.1/\p.2.rep R γ L e.val) /\ ∀ o,R b o=none
 |.dead,.none=>True
 |.dead,.box _=>True
 |_,_=>False
structure Inv (B:Nat->Prop)(R:PH)(γ:List Gh)(L:List Ob)(w:World):Prop where
 len:γ.length=L.length
 val:∀ b o u,R b o=some u->w.cell? ⟨b,o,none⟩=some u
 obj:∀ (id:Nat) x g,L[id]?=some x->γ[id]?=some g->lc R γ L w x g
 inj:∀ (i j:Nat) gi gj,γ[i]?=some gi->γ[j]?=some gj->i≠j ->∀ b,gi.block=some b->gj.block≠some b
 new:∀ (i:Nat) g b,γ[i]?=some g->g.block=some b ->¬ B b/\b<w.heap.size
 bsz:∀ b,B b->b<w.heap.size
abbrev Tm:=List (Nat×AV)
structure eZ (N:Nat)(R:PH)(γ:List Gh)(L:List Ob)(T:Tm)(a:Act):Prop where
 size:a.tmps.size=N
 defers:a.defers=[]
 slot:∀ (t:Nat) x,T.lookup t=some x ->∃ u,a.tmps[t]?=some u/\x.rep R γ L u
structure Kept (B:Nat->Prop)(w w':World):Prop where
 os:w'.os=w.os
 tape:w'.tape=w.tape
 output:w'.output=w.output
 size:w.heap.size<=w'.heap.size
 block:∀ b,B b->w'.heap[b]?=w.heap[b]?
theorem Kept.refl (B:Nat->Prop)(w:World):Kept B w w:=⟨rfl,rfl,rfl,aqo _,fun _ _=>rfl⟩
theorem Kept.trans {B:Nat->Prop}{a b c:World}(h:Kept B a b)(k:Kept B b c):Kept B a c :=
 ⟨k.os.trans h.os,k.tape.trans h.tape,k.output.trans h.output,Nat.le_trans h.size k.size,fun i hi=>(k.block i hi).trans (h.block i hi)⟩
theorem Kept.mono {B B':Nat->Prop}{w w':World}(h:Kept B w w')(hB:∀ b,B' b->B b):Kept B' w w':=⟨h.os,h.tape,h.output,h.size,fun k hk=>h.block k (hB k hk)⟩
theorem Kept.below {n:Nat}{w w':World}(h:Kept (· <n) w w'):Below n w w':=⟨h.os,h.tape,h.output,h.size,h.block⟩
theorem Kept.of {n:Nat}{w w':World}(h:Below n w w'):Kept (· <n) w w':=⟨h.os,h.tape,h.output,h.size,h.block⟩
structure Ext (B:Nat->Prop)(R R':PH)(w w':World):Prop where
 below:Kept B w w'
 sub:PH.sub R R'
 old:∀ b o,B b->R' b o=R b o
theorem Ext.refl (B:Nat->Prop)(R:PH)(w:World):Ext B R R w w:=⟨Kept.refl _ _,PH.sub_refl _,fun _ _ _=>rfl⟩
theorem Ext.trans {B:Nat->Prop}{R R' U8:PH}{w w' w'':World}(h:Ext B R R' w w')(g:Ext B R' U8 w' w''):Ext B R U8 w w'' :=
 ⟨h.below.trans g.below,PH.sub_trans h.sub g.sub,fun b o hb=>(g.old b o hb).trans (h.old b o hb)⟩
theorem lt_of_cell {w:World}{b o:Nat}{u:Value}(h:w.cell? ⟨b,o,none⟩=some u):b<w.heap.size:=by
 unfold World.cell? at h;simp only at h;split at h
 ·rename_i hb;exact(aqT.1 hb).1
 ·cases h
structure Mv (R R':PH)(γ γ':List Gh)(L L':List Ob):Prop where
 sub:PH.sub R R'
 len:L.length<=L'.length
 tok:∀ (t:Nat) n' k,t<L.length->L'[t]?=some (.spare n' k) ->∃ n,L[t]?=some (.spare n k)/\n<=n'/\(n=n'->γ'[t]?=γ[t]?)
 row:∀ (t:Nat) OY Pv k,t<L.length->L'[t]?=some (.row OY Pv k) ->∃ S0 es,L[t]?=some (.row S0 es k)/\S0<=OY/\(S0=OY->es.length=Pv.length/\γ'[t]?=γ[t]?)
 ptr:∀ (id:Nat) b,γ[id]?=some (.box b)->γ'[id]?=some (.box b)
theorem Cap.mv {R R':PH}{γ γ':List Gh}(hs:PH.sub R R')(hp:∀ (id:Nat) b,γ[id]?=some (.box b)->γ'[id]?=some (.box b)):∀ {x:Cap} {v:Value},x.rep R γ v->x.rep R' γ' v
 |.c _,_,hx=>bD.mono hs hx
 |.ptr id _,_,⟨b,h1,h2⟩=>⟨b,h1,hp id b h2⟩
theorem SV.mv {R R':PH}{γ γ':List Gh}{L L':List Ob}(h:Mv R R' γ γ' L L'):∀ {x:SV} {v:Value},x.rep R γ L v->x.rep R' γ' L' v
 |.c _,_,hx=>bD.mono h.sub hx
 |.emp,_,hx=>hx
 |.own es t,v,⟨h1,O0,h2⟩=>by
  refine⟨bD.mono h.sub h1,aqN O0 h.len,fun n' k e=>?_⟩;obtain⟨n,g1,g2,g3⟩:=h.tok t n' k O0 e;obtain⟨h3,h5,h4⟩:=h2 n k g1;refine⟨m0,h5,fun e=>?_⟩;have:n=n':=m0
  rw[g3 this,<- this];exact h4 m0
 |.ptr id off,v,⟨b,h1,h2⟩=>⟨b,h1,h.ptr id b h2⟩
 |.sl id OY lo n,v,⟨h1,O0,h2⟩=>by
  refine⟨h1,aqN O0 h.len,fun Pl Pv k e=>?_⟩;obtain⟨S0,es,g1,g2,g3⟩:=h.row id Pl Pv k O0 e;obtain⟨h3,h4⟩:=h2 S0 es k g1;refine⟨m0,fun e=>?_⟩;obtain⟨g4,g5⟩:=g3 m0;rw[g5,<- g4];exact h4 m0
 |.ep id OY i o,v,⟨h1,O0,h2⟩=>by
  refine⟨h1,aqN O0 h.len,fun Pl Pv k e=>?_⟩;obtain⟨S0,es,g1,g2,g3⟩:=h.row id Pl Pv k O0 e;obtain⟨h3,h4⟩:=h2 S0 es k g1;refine⟨m0,fun e=>?_⟩;obtain⟨g4,g5⟩:=g3 m0;rw[g5,<- g4];exact h4 m0
 |.mp id,v,⟨b,h1,h2⟩=>⟨b,h1,h.ptr id b h2⟩
 |.clo f caps,v,⟨vs,h1,h2,h3⟩=>⟨vs,h1,h2,fun j u x hu hx=>Cap.mv h.sub h.ptr (h3 j u x hu hx)⟩
theorem PV.mono {R R':PH}(h:PH.sub R R'):∀ {p:PV} {v:Value},p.rep R v->p.rep R' v
 |.one _,_,hx=>bD.mono h hx
 |.agg _,_,⟨vs,h1,h2,h3⟩=>⟨vs,h1,h2,fun j u x hu hx=>bD.mono h (h3 j u x hu hx)⟩
theorem CV.mono {R R':PH}(h:PH.sub R R'):∀ {p:CV} {v:Value},p.rep R v->p.rep R' v
 |.val _,_,hx=>PV.mono h hx
 |.tup _,_,⟨vs,h1,h2,h3⟩=>⟨vs,h1,h2,fun j u x hu hx=>PV.mono h (h3 j u x hu hx)⟩
theorem AV.mv {R R':PH}{γ γ':List Gh}{L L':List Ob}(h:Mv R R' γ γ' L L'):∀ {x:AV} {v:Value},x.rep R γ L v->x.rep R' γ' L' v
 |.one _,_,hx=>SV.mv h hx
 |.agg _,_,⟨vs,h1,h2,h3⟩=>⟨vs,h1,h2,fun j u x hu hx=>SV.mv h (h3 j u x hu hx)⟩
 |.tup _,_,⟨vs,h1,h2,h3⟩=>⟨vs,h1,h2,fun j u x hu hx=>PV.mono h.sub (h3 j u x hu hx)⟩
 |.tupS _,_,⟨vs,h1,h2,h3⟩=>⟨vs,h1,h2,fun j u x hu hx=>SV.mv h (h3 j u x hu hx)⟩
 |.undef,_,hx=>hx
theorem Mv.refl {R:PH}{γ:List Gh}{L:List Ob}:Mv R R γ γ L L:=⟨PH.sub_refl _,aqo _,fun _ n _ _ h=>⟨n,h,aqo _,fun _=>rfl⟩,fun _ OY es _ _ h=>⟨OY,es,h,aqo _,fun _=>⟨rfl,rfl⟩⟩,fun _ _ h=>h⟩
theorem Mv.of_sub {R R':PH}{γ:List Gh}{L:List Ob}(h:PH.sub R R'):Mv R R' γ γ L L:=⟨h,aqo _,fun _ n _ _ h=>⟨n,h,aqo _,fun _=>rfl⟩,fun _ OY es _ _ h=>⟨OY,es,h,aqo _,fun _=>⟨rfl,rfl⟩⟩,fun _ _ h=>h⟩
theorem Mv.trans {R R' U8:PH}{γ γ' γ'':List Gh}{L L' Xp:List Ob}(h:Mv R R' γ γ' L L')(g:Mv R' U8 γ' γ'' L' Xp):Mv R U8 γ γ'' L Xp :=
 ⟨PH.sub_trans h.sub g.sub,Nat.le_trans h.len g.len,fun t n2 k O0 e=>by
  obtain⟨n1,b1,b2,b3⟩:=g.tok t n2 k (aqN O0 h.len) e;obtain⟨n,a1,a2,a3⟩:=h.tok t n1 k O0 b1;exact⟨n,a1,m0,fun e=>(b3 m0).trans (a3 m0)⟩,fun t v e2 k O0 e=>by
  obtain⟨v1,e1,b1,b2,b3⟩:=g.row t v e2 k (aqN O0 h.len) e;obtain⟨v0,e0,a1,a2,a3⟩:=h.row t v1 e1 k O0 b1;exact⟨v0,e0,a1,m0,fun e=>⟨(a3 m0).1.trans (b3 m0).1,(b3 m0).2.trans (a3 m0).2⟩⟩,fun id b e=>g.ptr id b (h.ptr id b e)⟩
theorem eZ.mv {N:Nat}{R R':PH}{γ γ':List Gh}{L L':List Ob}{T:Tm}{a:Act}(h:eZ N R γ L T a)(m:Mv R R' γ γ' L L'):eZ N R' γ' L' T a :=
 ⟨h.size,h.defers,fun t x e=>let ⟨u,h1,h2⟩:=h.slot t x e;⟨u,h1,AV.mv m h2⟩⟩
theorem lc.mv {R R':PH}{γ γ':List Gh}{L L':List Ob}{w w':World}{x:Ob}{g:Gh}(h:lc R γ L w x g)(m:Mv R R' γ γ' L L')
  (hw:∀ b,g.block=some b->w'.heap[b]?=w.heap[b]?) (hR:∀ b o,g.block=some b->R b o=none->R' b o=none):lc R' γ' L' w' x g:=by
 match x,g,h with
 |.box cs,.box b,⟨⟨vs,E,h1,h2,h3⟩,h4⟩=>exact⟨⟨vs,E,(hw b rfl).trans h1,h2,fun j u x hu hx=>SV.mv m (h3 j u x hu hx)⟩,fun o=>hR b o rfl (h4 o)⟩
 |.spare n k,.arr b c,⟨⟨vs,E,h1,h2⟩,h3,h4,h5⟩=>exact⟨⟨vs,E,(hw b rfl).trans h1,h2⟩,h3,h4,fun o ho=>hR b o rfl (h5 o ho)⟩
 |.spare n k,.none,h=>exact h
 |.row OY es k,.arr b c,⟨⟨vs,E,h1,h2,h3⟩,h4,h5,h6,h7⟩=>exact⟨⟨vs,E,⟨(hw b rfl).trans h1.1,h1.2⟩,h2,fun i e j u x he hu hx=>SV.mv m (h3 i e j u x he hu hx)⟩,h4,h5,h6,fun o=>hR b o rfl (h7 o)⟩
 |.row OY es k,.none,h=>exact h
 |.map P5,.box b,⟨⟨es,h1,h2,h3⟩,h4⟩=>exact⟨⟨es,(hw b rfl).trans h1,h2,fun j e p he hp=>⟨(h3 j e p he hp).1,bD.mono m.sub (h3 j e p he hp).2.1,AV.mv m (h3 j e p he hp).2.2⟩⟩,fun o=>hR b o rfl (h4 o)⟩
 |.dead,.none,h=>exact h
 |.dead,.box _,h=>exact h
theorem ph_ {p:Prop}(h:p:=by repeat' (first|exact t7|rfl|exact aqi rfl|omega|apply And.intro)):p:=h
theorem fx_ {p:Prop}(hb:p)(h:p->False:=by first|decide|(intro h;simp at h;done)|(intro h;simp at h;omega)):False:=h hb
def eR (P:Program)(t:TypeId):Option Nat:=(P.info? t).map (·.size)
def Ni (P:Program)(t:TypeId):Option Bool :=
 match P.underlying t with
 |some (.struct _)=>some true
 |some (.array _ _)=>some true
 |some _=>some false
 |none=>none
def nO (P:Program)(t:TypeId):Option TypeId :=
 match P.underlying t with
 |some (.slice e)=>some e
 |_=>none
def xA (P:Program)(s:TypeId)(i:Nat):Option (Nat×TypeId) :=
 match P.underlying s with
 |some (.struct fs)=>(fs[i]?).map fun f=>(f.offset,f.type)
 |_=>none
def SV.ofVal:Value->Option SV
 |.bool b=>some (.c (.bool b))
 |.int k n=>some (.c (.int k n))
 |.string s=>some (.c (.str s))
 |.slice none 0 0=>some .emp
 |.pointer none=>some (.c (.nul .ptr))
 |.nilIface=>some (.c (.nul .iface))
 |.map none=>some (.c (.nul .map))
 |.nilFunc=>some (.c (.nul .func))
 |_=>none
def svs:List Value->Option (List SV)
 |[]=>some []
 |v::vs=>match SV.ofVal v,svs vs with
  |some x,some xs=>some (x::xs)
  |_,_=>none
def AV.ofVal:Value->Option AV
 |.agg vs=>(svs vs.toList).map .agg
 |v=>(SV.ofVal v).map .one
inductive Sc where
 |int (k:IntKind)
 |bool
 |str
 deriving DecidableEq
structure TI where
 size:Nat->Option Nat
 agg:Nat->Option Bool
 elem:Nat->Option Nat
 field:Nat->Nat->Option (Nat×Nat)
 zero:Nat->Option AV
 bytes:Nat->Option Nat
 kind:Nat->Option TypeDesc
 struct:Nat->Bool
 zok:Nat->Bool
 eqs:Nat->Option (List Sc)
 owns:Nat->Bool
 dyn:Bool:=false
 soft:Bool:=false
def look (T:Tm):Operand->Option AV
 |.tmp t=>T.lookup t
 |.const v=>AV.ofVal v
 |.global _=>none
 |.func f=>some (.one (.c (.fn f [])))
def ag6 (op:BinOp)(k:IntKind)(a b:Int):Option (AC×Prop) :=
 match op with
 |.add=>some (.int k (k.wrap (a+b)),True)
 |.sub=>some (.int k (k.wrap (a-b)),True)
 |.mul=>some (.int k (k.wrap (a*b)),True)
 |.quo=>some (.int k (k.wrap (a.tdiv b)),b≠0)
 |.rem=>some (.int k (a.tmod b),b≠0)
 |.eql=>some (.bool (decide (a=b)),True)
 |.neq=>some (.bool (decide (a≠b)),True)
 |.lss=>some (.bool (decide (a<b)),True)
 |.leq=>some (.bool (decide (a<=b)),True)
 |.gtr=>some (.bool (decide (b<a)),True)
 |.geq=>some (.bool (decide (b<=a)),True)
 |.and=>some (.int k (k.wrap (BitVec.ofInt k.bits a &&& BitVec.ofInt k.bits b).toNat),True)
 |.or=>some (.int k (k.wrap (BitVec.ofInt k.bits a |||BitVec.ofInt k.bits b).toNat),True)
 |_=>none
def amH (op:BinOp)(k:IntKind)(a b:Int):Option (AC×Prop) :=
 match op with
 |.shl=>some (.int k (k.wrap (a*2 ^ (min b.toNat k.bits))),0<=b)
 |.shr=>some (.int k (a.fdiv (2 ^ (min b.toNat k.bits))),0<=b)
 |_=>none
def aic (op:BinOp)(a b:ByteArray):Option (AC×Prop) :=
 match op with
 |.add=>some (.str (a++b),a.size+b.size<=9223372036854775807)
 |.eql=>some (.bool (a.toList==b.toList),True)
 |.neq=>some (.bool (!(a.toList==b.toList)),True)
 |.lss=>some (.bool (Op.bytesLess a.toList b.toList),True)
 |.leq=>some (.bool (Op.bytesLess a.toList b.toList||a.toList==b.toList),True)
 |.gtr=>some (.bool (!(Op.bytesLess a.toList b.toList||a.toList==b.toList)),True)
 |.geq=>some (.bool (!Op.bytesLess a.toList b.toList),True)
 |_=>none
theorem Hv {R:PH}{a b:Bool}(h:a=b):bD R (.bool a) (.bool b):=by rw[h];exact .bool b
theorem F2 {P:Program}{w:World}{op:BinOp}{t:TypeId}{x y:Operand}{k:IntKind}{a b:Int}{r:AC}{φ:Prop}(h:ag6 op k a b=some (r,φ))(hφ:φ) :
  ∃ u,((do eqGuard op t x y (.int k a) (.int k b);binOp op t (.int k a) (.int k b):Sem Value)).run P w = .ok u w /\ ∀ R,bD R u r:=by
 cases op<;>first|(injection h with h;injection h with h1 h2;subst h1 h2)|(exact nomatch h)
 all_goals
  refine⟨_,by simp (config :={decide:=true}) [eqGuard,binOp,Op.intArith,Op.intDiv,Op.intCmp,Op.intBits,go_sem,hφ];rfl,fun R=>?_⟩
  first|constructor|(apply Hv;simp[bne];rfl)
theorem ID {P:Program}{w:World}{op:BinOp}{t:TypeId}{x y:Operand}{k k':IntKind}{a b:Int}{r:AC}{φ:Prop}(h:amH op k a b=some (r,φ))(hφ:φ) :
  ∃ u,((do eqGuard op t x y (.int k a) (.int k' b);binOp op t (.int k a) (.int k' b):Sem Value)).run P w = .ok u w /\ ∀ R,bD R u r:=by
 cases op<;>first|(injection h with h;injection h with h1 h2;subst h1 h2)|(exact nomatch h)
 all_goals
  have hn:¬ b<0:=m0
  refine⟨_,by simp[eqGuard,binOp,Op.shift,go_sem,hn];rfl,fun R=>?_⟩;constructor
theorem FM {P:Program}{w:World}{op:BinOp}{t:TypeId}{x y:Operand}{a b:ByteArray}{r:AC}{φ:Prop}(h:aic op a b=some (r,φ))(hφ:φ) :
  ∃ u,((do eqGuard op t x y (.string a) (.string b);binOp op t (.string a) (.string b):Sem Value)).run P w = .ok u w /\ ∀ R,bD R u r:=by
 cases op<;>first|(injection h with h;injection h with h1 h2;subst h1 h2)|(exact nomatch h)
 case add =>
  refine⟨.string (a++b),?_,fun R => .str _⟩;have:¬ (((a.size+b.size:Nat):Int)>IntKind.i64.max):=by
   show ¬ (((a.size+b.size:Nat):Int)>9223372036854775807);omega
  simp only[eqGuard,binOp,Op.stringOp,if_neg this];simp (config :={decide:=true}) [go_sem]
 all_goals
  refine⟨_,by simp (config :={decide:=true}) [eqGuard,binOp,Op.stringOp,go_sem];rfl,fun R=>?_⟩
  first|constructor|(apply Hv;simp)
def qB:List Cap->Option (List AC)
 |[]=>some []
 |.c x::xs=>(qB xs).map (x :: ·)
 |_=>none
def SV.norm:SV->Option AC
 |.c x=>some x
 |.emp=>some (.lst [])
 |.own es _=>some (.lst es)
 |.clo f caps=>(qB caps).map (.fn f)
 |_=>none
def ir:List SV->Option (List AC)
 |[]=>some []
 |x::xs=>match x.norm,ir xs with
  |some y,some ys=>some (y::ys)
  |_,_=>none
def AV.norm:AV->Option PV
 |.one x=>x.norm.map .one
 |.agg xs=>(ir xs).map .agg
 |_=>none
def AV.cells:AV->Option (List SV)
 |.one x=>some [x]
 |.agg xs=>some xs
 |_=>none
def PV.av:PV->AV
 |.one x => .one (.c x)
 |.agg xs => .agg (xs.map .c)
def CV.av:CV->AV
 |.val p=>p.av
 |.tup ps => .tup ps
section
variable {P:Program} {B:Nat->Prop} {R:PH} {γ:List Gh} {L:List Ob} {w:World}
theorem dq (R:PH)(a:Option Addr)(c:Nat):bD R (.slice a 0 c) (.lst []) :=
 .lst a 0 c [] 0 (fun _=>Go.undef) 0 0 rfl (aqu _) (fun _ h=>nomatch h) (fun h=>absurd h m0) (fun j hj=>absurd hj m0) (fun i e j x h=>by simp at h)
theorem xI:∀ {xs:List Cap} {ys:List AC},qB xs=some ys->xs.length=ys.length
 |[],ys,h=>by injection h with h;subst h;rfl
 |.c x::xs,ys,h=>by
  cases hq:qB xs with
  |none=>simp[qB,hq]at h
  |some zs=>simp[qB,hq]at h;subst h;simp[xI hq]
 |.ptr _ _::xs,ys,h=>by cases h
theorem yi:∀ {xs:List Cap} {ys:List AC},qB xs=some ys ->∀ (j:Nat) y,ys[j]?=some y->xs[j]?=some (.c y)
 |[],ys,h,j,y,hy=>by injection h with h;subst h;simp at hy
 |.c x::xs,ys,h,j,y,hy=>by
  cases hq:qB xs with
  |none=>simp[qB,hq]at h
  |some zs =>
   simp[qB,hq]at h;subst h
   cases j with
   |zero=>simpa using hy
   |succ j=>simpa using yi hq j y (by simpa using hy)
 |.ptr _ _::xs,ys,h,j,y,hy=>by cases h
theorem SV.norm_rep {x:SV}{v:Value}{y:AC}(h:x.rep R γ L v)(hy:x.norm=some y):bD R v y:=by
 cases x with
 |c z=>injection hy with hy;subst hy;exact h
 |emp=>injection hy with hy;subst hy;obtain⟨a,rfl⟩:=h;exact dq _ _ _
 |own es t=>injection hy with hy;subst hy;exact h.1
 |ptr id off=>cases hy
 |sl id OY lo n=>cases hy
 |ep id OY i o=>cases hy
 |mp id=>cases hy
 |clo f caps =>
  cases hq:qB caps with
  |none=>simp[SV.norm,hq]at hy
  |some cs =>
   simp[SV.norm,hq]at hy;subst hy;obtain⟨vs,rfl,h2,h3⟩:=h;refine .fn f vs cs (by rw[h2,xI hq]) fun j v x hv hx=>?_
   exact h3 j v _ hv (yi hq j x hx)
theorem en:∀ {xs:List SV} {ys:List AC},ir xs=some ys->ys.length=xs.length
 |[],ys,h=>by injection h with h;subst h;rfl
 |x::xs,ys,h=>by
  unfold ir at h;split at h
  ·rename_i y zs h1 h2
   injection h with h;subst h
   simp[en h2]
  ·cases h
theorem ji:∀ {xs:List SV} {ys:List AC},ir xs=some ys ->∀ (j:Nat) x y,xs[j]?=some x->ys[j]?=some y->x.norm=some y
 |[],ys,h,j,x,y,hx,hy=>by simp at hx
 |x0::xs,ys,h,j,x,y,hx,hy=>by
  unfold ir at h;split at h
  ·rename_i y0 zs h1 h2
   injection h with h;subst h
   cases j with
   |zero=>simp at hx hy;subst hx hy;exact h1
   |succ j=>exact ji h2 j x y (by simpa using hx) (by simpa using hy)
  ·cases h
theorem AV.norm_rep {x:AV}{v:Value}{y:PV}(h:x.rep R γ L v)(hy:x.norm=some y):y.rep R v:=by
 cases x with
 |one x =>
  cases hn:x.norm with
  |none=>simp[AV.norm,hn]at hy
  |some z =>
   simp[AV.norm,hn]at hy;subst hy;exact SV.norm_rep h hn
 |agg xs =>
  cases hn:ir xs with
  |none=>simp[AV.norm,hn]at hy
  |some zs =>
   simp[AV.norm,hn]at hy;subst hy;obtain⟨vs,h1,h2,h3⟩:=h;refine⟨vs,h1,by rw[h2,en hn],fun j u y hu hy=>?_⟩;have hj:j<xs.length:=by rw[<- h2];exact(aqT.1 hu).1
   exact SV.norm_rep (h3 j u _ hu (aqh hj)) (ji hn j _ _ (aqh hj) hy)
 |tup ps=>cases hy
 |tupS xs=>cases hy
 |undef=>cases hy
theorem PV.av_rep {p:PV}{v:Value}(h:p.rep R v):p.av.rep R γ L v:=by
 cases p with
 |one x=>exact h
 |agg xs =>
  obtain⟨vs,h1,h2,h3⟩:=h;refine⟨vs,h1,by simp[h2],fun j u x hu hx=>?_⟩;rw[aqw]at hx
  cases R3:xs[j]? with
  |none=>simp[R3]at hx
  |some y=>simp[R3]at hx;subst hx;exact h3 j u y hu R3
theorem CV.av_rep {p:CV}{v:Value}(h:p.rep R v):p.av.rep R γ L v:=by
 cases p with
 |val p=>exact PV.av_rep h
 |tup ps=>exact h
theorem bD.one {v:Value}{x:AC}(h:bD R v x):v.cells=#[v]/\v.oneCell'=true:=by
 cases h<;>first|exact⟨rfl,rfl⟩|(rename_i k h;subst h;cases k<;>exact⟨rfl,rfl⟩)
theorem SV.rep_one {v:Value}{x:SV}(h:x.rep R γ L v):v.cells=#[v]/\v.oneCell'=true:=by
 cases x with
 |c x=>exact bD.one h
 |emp=>obtain⟨a,rfl⟩:=h;exact⟨rfl,rfl⟩
 |own es t=>exact bD.one h.1
 |ptr id off=>obtain⟨b,rfl,_⟩:=h;exact⟨rfl,rfl⟩
 |sl id OY lo n=>exact h.1
 |ep id OY i o=>exact h.1
 |mp id=>obtain⟨b,rfl,_⟩:=h;exact⟨rfl,rfl⟩
 |clo f caps=>obtain⟨vs,rfl,_⟩:=h;exact⟨rfl,rfl⟩
theorem SV.ofVal_rep {v:Value}{x:SV}(h:SV.ofVal v=some x):x.rep R γ L v:=by
 unfold SV.ofVal at h;split at h<;>first|(cases h;done)|(injection h with h;subst h)
 ·exact .bool _
 ·exact .int _ _
 ·exact .str _
 ·exact⟨_,rfl⟩
 ·exact .nul _ _ rfl
 ·exact .nul _ _ rfl
 ·exact .nul _ _ rfl
 ·exact .nul _ _ rfl
theorem acs:∀ {vs:List Value} {xs:List SV},svs vs=some xs->vs.length=xs.length
 |[],xs,h=>by injection h with h;subst h;rfl
 |v::vs,xs,h=>by
  unfold svs at h;split at h
  ·rename_i h1 h2
   injection h with h;subst h
   simp[acs h2]
  ·cases h
theorem adl:∀ {vs:List Value} {xs:List SV},svs vs=some xs ->∀ (j:Nat) u x,vs[j]?=some u->xs[j]?=some x->x.rep R γ L u
 |[],xs,h,j,u,x,hu,hx=>by simp at hu
 |v::vs,xs,h,j,u,x,hu,hx=>by
  unfold svs at h;split at h
  ·rename_i h1 h2
   injection h with h;subst h
   cases j with
   |zero=>simp at hu hx;subst hu hx;exact SV.ofVal_rep h1
   |succ j=>exact adl h2 j u x (by simpa using hu) (by simpa using hx)
  ·cases h
theorem AV.ofVal_rep {v:Value}{x:AV}(h:AV.ofVal v=some x):x.rep R γ L v:=by
 unfold AV.ofVal at h;split at h
 ·rename_i vs
  cases hs:svs vs.toList with
  |none=>simp[hs]at h
  |some xs =>
   simp[hs]at h;subst h;exact⟨vs,rfl,by rw[<- acs hs];simp,fun j u x hu hx=>adl hs j u x (by simpa using hu) hx⟩
 ·rename_i hv
  cases hs:SV.ofVal v with
  |none=>simp[hs]at h
  |some y=>simp[hs]at h;subst h;exact SV.ofVal_rep hs
theorem C0 {N:Nat}{T:Tm}{a:Act}(hT:eZ N R γ L T a){x:Operand}{v:AV}(h:look T x=some v):v.rep R γ L (a.eval x):=by
 cases x with
 |tmp t =>
  obtain⟨u,h1,h2⟩:=hT.slot t v h;have:a.eval (.tmp t)=u:=by simp[Act.eval,Array.getD_eq_getD_getElem?,h1]
  rw[this];exact h2
 |const c=>exact AV.ofVal_rep h
 |global g=>cases h
 |func f =>
  injection h with h;subst h
  exact .fn f #[] [] rfl (fun j v x hv=>by simp at hv)
end
def FZ:AC->Option Value
 |.bool b=>some (.bool b)
 |.int k n=>some (.int k n)
 |.str s=>some (.string s)
 |_=>none
def fN:List SV->Option (List Value)
 |[]=>some []
 |.c x::xs=>match FZ x,fN xs with
  |some v,some vs=>some (v::vs)
  |_,_=>none
 |_::_=>none
def cg:List SV->List SV->Bool
 |[],[]=>true
 |.c (.bool a)::xs,.c (.bool b)::ys=>(a==b)&&cg xs ys
 |.c (.int _ a)::xs,.c (.int _ b)::ys=>decide (a=b)&&cg xs ys
 |.c (.str a)::xs,.c (.str b)::ys=>(a.toList==b.toList)&&cg xs ys
 |_,_=>false
def OQ (P:Program)(t:TypeId)(xs ys:List SV):Prop :=
 ∀ vs us,fN xs=some vs->fN ys=some us ->∀ w,(Op.equal t (.agg vs.toArray) (.agg us.toArray)).run P w = .ok (cg xs ys) w
def eF:List Sc->List SV->Bool
 |[],[]=>true
 |.int k::sh,.c (.int k' _)::xs=>decide (k=k')&&eF sh xs
 |.bool::sh,.c (.bool _)::xs=>eF sh xs
 |.str::sh,.c (.str _)::xs=>eF sh xs
 |_,_=>false
theorem jV:∀ {sh:List Sc} {xs:List SV},eF sh xs=true->(fN xs).isSome
 |[],[],_=>rfl
 |.int k::sh,.c (.int k' n)::xs,h=>by
  simp only[eF,aqr]at h;obtain⟨vs,hv⟩:=aqQ.1 (jV h.2);simp[fN,FZ,hv]
 |.bool::sh,.c (.bool b)::xs,h=>by
  obtain⟨vs,hv⟩:=aqQ.1 (jV (sh:=sh) (xs:=xs) h);simp[fN,FZ,hv]
 |.str::sh,.c (.str b)::xs,h=>by
  obtain⟨vs,hv⟩:=aqQ.1 (jV (sh:=sh) (xs:=xs) h);simp[fN,FZ,hv]
def Ac (P:Program)(t:TypeId):Bool :=
 match P.underlying t with
 |some (.struct fs)=>fs.all fun f=>(eR P f.type).isSome
 |_=>false
def zeroOf (P:Program)(t:TypeId):Option AV:=(P.info? t).bind fun i=>i.zero.bind AV.ofVal
def um (ti:TI)(op:BinOp)(t:TypeId):AV->AV->Option (AV×Prop)
 |.one (.c (.int k a)),.one (.c (.int k' b))=>match amH op k a b with
  |some (r,φ)=>some (.one (.c r),φ)
  |none=>match decide (k=k'),ag6 op k a b with
   |true,some (r,φ)=>some (.one (.c r),φ)
   |_,_=>none
 |.one (.c (.str a)),.one (.c (.str b))=>match aic op a b with
  |some (r,φ)=>some (.one (.c r),φ)
  |none=>none
 |.one (.c (.bool a)),.one (.c (.bool b))=>match op with
  |.eql=>some (.one (.c (.bool (a==b))),ti.kind t=some .bool)
  |.neq=>some (.one (.c (.bool (!(a==b)))),ti.kind t=some .bool)
  |_=>none
 |.agg xs,.agg ys=>match ti.eqs t with
  |some sh=>match op with
   |.eql=>some (.one (.c (.bool (cg xs ys))),eF sh xs=true/\eF sh ys=true)
   |.neq=>some (.one (.c (.bool (!cg xs ys))),eF sh xs=true/\eF sh ys=true)
   |_=>none
  |none=>none
 |_,_=>none
def fx (ti:TI)(L:List Ob)(t:TypeId):AV->Option (AV×Prop)
 |.one (.c (.ref cs))=>match ti.agg t,ti.size t with
  |some false,_=>match cs with
   |x::_=>some (.one (.c x),True)
   |[]=>none
  |some true,some n=>some (.agg ((cs.take n).map .c),n<=cs.length)
  |_,_=>none
 |.one (.ptr id off)=>match L[id]? with
  |some (.box cs)=>match ti.agg t,ti.size t with
   |some false,_=>match cs[off]? with
    |some x=>some (.one x,True)
    |none=>none
   |some true,some n=>some (.agg ((cs.drop off).take n),off+n<=cs.length)
   |_,_=>none
  |_=>none
 |.one (.ep id OY i o)=>match L[id]? with
  |some (.row Pl es _)=>match es[i]?,ti.agg t,ti.size t with
   |some e,some false,_=>match e[o]? with
    |some x=>some (.one x,OY=Pl)
    |none=>none
   |some e,some true,some n=>some (.agg ((e.drop o).take n),OY=Pl/\o+n<=e.length)
   |_,_,_=>none
  |_=>none
 |_=>none
def fU (ti:TI)(s:TypeId)(i0:Nat):AV->Option (AV×Prop)
 |.one (.c (.ref cs))=>match ti.field s i0 with
  |some (o,t)=>match ti.size t with
   |some (_+1)=>some (.one (.c (.ref (cs.drop o))),o<=cs.length)
   |_=>none
  |none=>none
 |.one (.ptr id off)=>match ti.field s i0 with
  |some (o,t)=>match ti.size t with
   |some (_+1)=>some (.one (.ptr id (off+o)),True)
   |_=>none
  |none=>none
 |_=>none
def rS (ti:TI)(s:TypeId)(i:Nat):AV->Option (AV×Prop)
 |.agg xs=>match ti.field s i with
  |some (o,t)=>match ti.agg t,ti.size t with
   |some false,_=>match xs[o]? with
    |some x=>some (.one x,True)
    |none=>none
   |some true,some n=>some (.agg ((xs.drop o).take n),o+n<=xs.length)
   |_,_=>none
  |none=>none
 |_=>none
def dx:AV->Option (List (List AC))
 |.one (.c (.lst es))=>some es
 |.one (.own es _)=>some es
 |.one .emp=>some []
 |_=>none
def ez (ti:TI)(L:List Ob)(s:TypeId)(i0 id OY i off:Nat):Option (AV×Prop) :=
 match L[id]?,ti.field s i0 with
 |some (.row Pl _ _),some (o,t)=>match ti.size t with
  |some (_+1)=>some (.one (.ep id OY i (off+o)),OY=Pl)
  |_=>none
 |_,_=>none
def ip (ti:TI)(L:List Ob)(t:TypeId)(id OY n:Nat):Option (AV×Prop) :=
 match L[id]? with
 |some (.row Pl _ _)=>some (.one (.c (.int .i64 n)),OY=Pl/\(ti.elem t).isSome)
 |_=>none
def eH (ti:TI)(L:List Ob)(t:TypeId)(id OY lo n:Nat)(ix:AV):Option (AV×Prop) :=
 match L[id]?,ix,(ti.elem t).bind ti.size with
 |some (.row Pl _ k'),.one (.c (.int _ i)),some k=>some (.one (.ep id OY (lo+i.toNat) 0),(OY=Pl/\k=k')/\0<=i/\i<n)
 |_,_,_=>none
def eJ (ti:TI)(t:TypeId)(x ix:AV):Option (AV×Prop) :=
 match dx x,ix,(ti.elem t).bind ti.size with
 |some es,.one (.c (.int _ i)),some k=>match es[i.toNat]? with
  |some e=>some (.one (.c (.ref e)),0<=i/\e.length=k)
  |none=>none
 |_,_,_=>none
def lS (ti:TI)(t:TypeId)(x ix:AV):Option (AV×Prop) :=
 match x,ix with
 |.one (.c (.str s)),.one (.c (.int _ i))=>match s[i.toNat]? with
  |some b=>some (.one (.c (.int .u8 b.toNat)),0<=i/\ti.kind t=some .string)
  |none=>none
 |.agg zs,.one (.c (.int _ i))=>match ti.kind t with
  |some (.array n e)=>match ti.agg e,ti.size e with
   |some false,some k=>match zs[i.toNat*k]? with
    |some x=>some (.one x,0<=i/\i<(n:Int))
    |none=>none
   |some true,some k=>some (.agg ((zs.drop (i.toNat*k)).take k),(0<=i/\i<(n:Int))/\i.toNat*k+k<=zs.length)
   |_,_=>none
  |_=>none
 |_,_=>none
def km (d:Nat):Option AV->Option Int
 |none=>some d
 |some (.one (.c (.int _ i)))=>some i
 |_=>none
def dZ (ti:TI)(L:List Ob)(t:TypeId)(x:AV)(lo hi:Option AV):Option (AV×Prop) :=
 match x with
 |.one (.c (.str s))=>match km 0 lo,km s.size hi with
  |some l,some h=>some (.one (.c (.str (s.extract l.toNat h.toNat))),0<=l/\l<=h/\h<=s.size/\ti.kind t=some .string)
  |_,_=>none
 |.one (.sl id OY Xq n)=>match L[id]?,(ti.elem t).bind ti.size with
  |some (.row Pl _ k'),some k=>match km 0 lo,km n hi with
   |some l,some h=>some (.one (.sl id OY (Xq+l.toNat) (h.toNat-l.toNat)),OY=Pl/\k=k'/\0<=l/\l<=h/\h<=n)
   |_,_=>none
  |_,_=>none
 |_=>match dx x,(ti.elem t).bind ti.size with
  |some es,some k=>match km 0 lo,km es.length hi with
   |some l,some h=>some (.one (.c (.lst ((es.take h.toNat).drop l.toNat))),0<=l/\l<=h/\h<=es.length /\ ∀ e∈es,e.length=k)
   |_,_=>none
  |_,_=>none
def Eh (ti:TI)(t:TypeId)(x:AV):Option (AV×Prop) :=
 match x with
 |.one (.c (.str s))=>some (.one (.c (.int .i64 s.size)),ti.kind t=some .string)
 |_=>match dx x with
  |some es=>some (.one (.c (.int .i64 es.length)),(ti.elem t).isSome)
  |none=>none
def sJ (mx:Bool):AV->AV->Option (AV×Prop)
 |.one (.c (.int k a)),.one (.c (.int _ b))=>some (.one (.c (.int k (if mx then(if b>a then b else a)else(if b<a then b else a)))),True)
 |_,_=>none
def splice (zs:List SV)(o:Nat)(xs:List SV):List SV:=zs.take o++xs++zs.drop (o+xs.length)
def x8 (ti:TI)(t:TypeId)(i:Nat):Option (Nat×TypeId) :=
 match ti.kind t with
 |some (.array _ e)=>(ti.size e).map fun k=>(i*k,e)
 |_=>ti.field t i
def bok (ti:TI)(t:TypeId):Bool :=
 match ti.kind t with
 |some (.array _ e)=>(ti.size e).isSome
 |_=>ti.struct t
def lX (ti:TI)(t:TypeId):List SV->List (Nat×Option AV)->Option (List SV×Prop)
 |zs,[]=>some (zs,True)
 |zs,(i,v)::ps=>match v.bind AV.cells,x8 ti t i with
  |some xs,some (o,ty)=>match lX ti t (splice zs o xs) ps with
   |some (r,φ)=>some (r,(ti.size ty=some xs.length/\o+xs.length<=zs.length)/\φ)
   |none=>none
  |_,_=>none
def Cc:List (Option AV)->Option (List AC)
 |[]=>some []
 |some (.one y)::xs=>match y.norm,Cc xs with
  |some z,some zs=>some (z::zs)
  |_,_=>none
 |_=>none
def pop (ti:TI)(ρ:Operand->Option AV)(L:List Ob):Op->Option (AV×Prop)
 |.move x=>match ρ x with
  |some v=>some (v,True)
  |none=>none
 |.assign x=>match ρ x with
  |some v=>some (v,True)
  |none=>none
 |.pick c a b=>match ρ c,ρ a,ρ b with
  |some (.one (.c (.bool t))),some va,some vb=>some (if t=true then va else vb,True)
  |_,_,_=>none
 |.binOp op t x y _=>match ρ x,ρ y with
  |some va,some vb=>um ti op t va vb
  |_,_=>none
 |.unOp op _ x=>match op,ρ x with
  |.not,some (.one (.c (.bool b)))=>some (.one (.c (.bool !b)),True)
  |.neg,some (.one (.c (.int k n)))=>some (.one (.c (.int k (k.wrap (0-n)))),True)
  |_,_=>none
 |.convert src dst x=>match ρ x with
  |some (.one (.c (.int _ n)))=>match ti.kind dst with
   |some (.int k)=>some (.one (.c (.int k (k.wrap n))),(ti.kind src).isSome)
   |_=>none
  |some (.one (.c (.str s)))=>some (.one (.c (.str s)),ti.kind dst=some .string/\(ti.kind src).isSome)
  |_=>none
 |.load t p=>(ρ p).bind (fx ti L t)
 |.fieldAddr s x i=>match ρ x with
  |some (.one (.ep id OY i0 off))=>ez ti L s i id OY i0 off
  |some vx=>fU ti s i vx
  |none=>none
 |.field s x i=>(ρ x).bind (rS ti s i)
 |.indexAddr t x ix=>match ρ x,ρ ix with
  |some (.one (.sl id OY lo n)),some vi=>eH ti L t id OY lo n vi
  |some vx,some vi=>eJ ti t vx vi
  |_,_=>none
 |.index t x ix=>match ρ x,ρ ix with
  |some vx,some vi=>lS ti t vx vi
  |_,_=>none
 |.extract t i=>match ρ t with
  |some (.tup ps)=>match ps[i]? with
   |some p=>some (p.av,True)
   |none=>none
  |some (.tupS xs)=>match xs[i]? with
   |some x=>some (.one x,True)
   |none=>none
  |_=>none
 |.nilCheck x=>match ρ x with
  |some (.one (.c (.ref cs)))=>some (.one (.c (.ref cs)),True)
  |some (.one (.ptr id off))=>some (.one (.ptr id off),True)
  |some (.one (.ep id OY i o))=>match L[id]? with
   |some (.row Pl _ _)=>some (.one (.ep id OY i o),OY=Pl)
   |_=>none
  |some (.one (.clo f cs))=>some (.one (.clo f cs),True)
  |some (.one (.c (.fn f cs)))=>some (.one (.c (.fn f cs)),True)
  |_=>none
 |.slice t x lo hi none=>match ρ x,lo.map ρ,hi.map ρ with
  |some v,none,none=>dZ ti L t v none none
  |some v,some (some l),none=>dZ ti L t v (some l) none
  |some v,none,some (some h)=>dZ ti L t v none (some h)
  |some v,some (some l),some (some h)=>dZ ti L t v (some l) (some h)
  |_,_,_=>none
 |.call { callee := .builtin .len,args,argTypes } =>match args.toList,argTypes.toList with
  |[x],[t]=>match ρ x with
   |some (.one (.sl id OY _ n))=>ip ti L t id OY n
   |some vx=>Eh ti t vx
   |none=>none
  |_,_=>none
 |.call { callee := .builtin .min,args,.. } =>match args.toList.map ρ with
  |[some x,some y]=>sJ false x y
  |_=>none
 |.call { callee := .builtin .max,args,.. } =>match args.toList.map ρ with
  |[some x,some y]=>sJ true x y
  |_=>none
 |.build t parts=>match ti.zero t with
  |some (.agg zs)=>match lX ti t zs (parts.toList.map fun p=>(p.1,ρ p.2))with
   |some (r,φ)=>some (.agg r,bok ti t=true/\φ)
   |none=>none
  |_=>none
 |.makeFunc (.func f) first captured=>match first.toList,Cc (captured.toList.map ρ)with
  |[],some cs=>some (.one (.c (.fn f cs)),True)
  |_,_=>none
 |_=>none
def acL (P:Program)(t:TypeId)(k:Nat):Prop :=∃ i z,P.info? t=some i/\i.zero=some z/\i.size=k/\z.cells.size=k
def kf (P:Program)(t:TypeId):Option Nat:=(P.info? t).map (·.bytes)
structure TIok (P:Program)(ti:TI):Prop where
 size:∀ t n,ti.size t=some n->eR P t=some n
 agg:∀ t b,ti.agg t=some b->Ni P t=some b
 elem:∀ t e,ti.elem t=some e->nO P t=some e
 field:∀ s i r,ti.field s i=some r->xA P s i=some r
 zero:∀ t v,ti.zero t=some v->zeroOf P t=some v
 bytes:∀ t n,ti.bytes t=some n->kf P t=some n
 kind:∀ t d,ti.kind t=some d->P.underlying t=some d
 struct:∀ t,ti.struct t=true->Ac P t=true
 zok:∀ t,ti.zok t=true ->∀ k,eR P t=some k->acL P t k
 eqs:∀ t sh,ti.eqs t=some sh->P.eqGuardType P.depth t=false /\ ∀ xs ys,eF sh xs=true->eF sh ys=true->OQ P t xs ys
theorem TIok.es {P:Program}{ti:TI}(h:TIok P ti){t n:Nat}(e:(ti.elem t).bind ti.size=some n):(nO P t).bind (eR P)=some n:=by
 cases he:ti.elem t with
 |none=>simp[he]at e
 |some E=>simp only[he,ap9]at e;rw[h.elem _ _ he];exact h.size _ _ e
def rz (P:Program)(B:Nat->Prop)(R:PH)(γ:List Gh)(L:List Ob)(w:World)(s:Sem Next)(v:AV):Prop :=
 ∃ u w' R',s.run P w = .ok (.value u) w'/\Inv B R' γ L w'/\Ext B R R' w w'/\v.rep R' γ L u
section
variable {P:Program} {B:Nat->Prop} {R:PH} {γ:List Gh} {L:List Ob} {w:World}
theorem rz.quiet (hi:Inv B R γ L w){s:Sem Value}{v:AV}{u:Value}(h:s.run P w = .ok u w)(hr:v.rep R γ L u):rz P B R γ L w (do pure (.value (<- s))) v :=
 ⟨u,w,R,by simp[h],hi,Ext.refl _ _ _,hr⟩
theorem CX:∀ {xs:List SV} {us:List Value},(fN xs).isSome->us.length=xs.length->(∀ (j:Nat) u x,us[j]?=some u->xs[j]?=some x->x.rep R γ L u)->fN xs=some us
 |[],us,_,hl,_=>by cases us with|nil=>rfl|cons=>simp at hl
 |x::xs,us,h,hl,hr=>by
  cases us with
  |nil=>simp at hl
  |cons u us =>
   have h0:=hr 0 u x rfl rfl
   cases x with
   |c y =>
    unfold fN at h ⊢
    cases hs:fN xs with
    |none=>rw[hs]at h;cases y<;>simp[FZ]at h
    |some vs =>
     have ih:=CX (xs:=xs) (us:=us) (by simp[hs]) (by simpa using hl) fun j u x hu hx=>hr (j+1) u x (by simpa using hu) (by simpa using hx)
     rw[hs]at ih;injection ih with ih
     subst ih
     cases y with
     |bool b=>cases h0;rfl
     |int k n=>cases h0;rfl
     |str s=>cases h0;rfl
     |lst es=>rw[hs]at h;simp[FZ]at h
     |ref cs=>rw[hs]at h;simp[FZ]at h
     |fn f cs=>rw[hs]at h;simp[FZ]at h
     |nul k=>rw[hs]at h;simp[FZ]at h
   |emp=>simp[fN]at h
   |own es t=>simp[fN]at h
   |ptr id off=>simp[fN]at h
   |sl id OY lo n=>simp[fN]at h
   |ep id OY i o=>simp[fN]at h
   |mp id=>simp[fN]at h
   |clo f caps=>simp[fN]at h
theorem run_equal_bool {t:TypeId}{a b:Bool}(h:P.underlying t=some .bool):(Op.equal t (.bool a) (.bool b)).run P w = .ok (a==b) w:=by
 have e:Op.maxDepth=9999+1:=rfl;unfold Op.equal;rw[e,Op.equalIn];simp[underlying,program,Sem.run,h]
theorem J6 {ti:TI}(O6:TIok P ti)(hi:Inv B R γ L w){op:BinOp}{t:TypeId}{x y:Operand}{va vb v:AV}{φ:Prop}{u1 u2:Value}(h1:va.rep R γ L u1)(h2:vb.rep R γ L u2)
  (h:um ti op t va vb=some (v,φ)) (hφ:φ):∃ u,((do eqGuard op t x y u1 u2;binOp op t u1 u2:Sem Value)).run P w = .ok u w/\v.rep R γ L u:=by
 unfold um at h;split at h
 ·rename_i k a k' b
  cases h1;cases h2;split at h
  ·rename_i r ψ Q4
   injection h with h;injection h with e1 e2
   subst e1 e2;obtain⟨u,V3,TN⟩:=ID (P:=P) (w:=w) (t:=t) (x:=x) (y:=y) Q4 hφ;exact⟨u,V3,TN R⟩
  ·split at h
   ·rename_i r ψ RL Q4
    injection h with h;injection h with e1 e2
    subst e1 e2;have RL:=aqC RL;subst RL;obtain⟨u,V3,TN⟩:=F2 (P:=P) (w:=w) (t:=t) (x:=x) (y:=y) Q4 hφ;exact⟨u,V3,TN R⟩
   ·cases h
 ·rename_i a b
  cases h1;cases h2;split at h
  ·rename_i r ψ Q4
   injection h with h;injection h with e1 e2
   subst e1 e2;obtain⟨u,V3,TN⟩:=FM (P:=P) (w:=w) (t:=t) (x:=x) (y:=y) Q4 hφ;exact⟨u,V3,TN R⟩
  ·cases h
 ·rename_i a b
  cases h1;cases h2;split at h<;>first|(injection h with h;injection h with e1 e2;subst e1 e2)|(cases h;done)
  ·exact⟨.bool (a==b),by simp[eqGuard,binOp,run_equal_bool (O6.kind _ _ hφ)],.bool _⟩
  ·exact⟨.bool (!(a==b)),by simp[eqGuard,binOp,run_equal_bool (O6.kind _ _ hφ)],.bool _⟩
 ·rename_i xs ys
  obtain⟨vs,rfl,h1s,h1r⟩:=h1;obtain⟨us,rfl,h2s,h2r⟩:=h2;split at h
  case h_2=>cases h
  rename_i sh V4;split at h<;>first|(injection h with h;injection h with e1 e2;subst e1 e2)|(cases h;done)
  all_goals
   obtain⟨hf1,hf2⟩:=hφ;obtain⟨hg,hEE⟩:=O6.eqs _ _ V4;have hE:=hEE xs ys hf1 hf2;have hx:=jV hf1;have hy:=jV hf2;have ex:=CX (us:=vs.toList) hx (by simpa using h1s) fun j u x hu=>h1r j u x (by simpa using hu)
   have ey:=CX (us:=us.toList) hy (by simpa using h2s) fun j u x hu=>h2r j u x (by simpa using hu)
   have O8:=hE _ _ ex ey w;simp only[Array.toArray_toList]at O8
  ·exact⟨.bool (cg xs ys),by simp[eqGuard,binOp,go_sem,hg,O8],.bool _⟩
  ·exact⟨.bool (!cg xs ys),by simp[eqGuard,binOp,go_sem,hg,O8],.bool _⟩
 ·cases h
end
section
variable {P:Program} {ti:TI} {B:Nat->Prop} {R:PH} {γ:List Gh} {L:List Ob} {w:World}
theorem cob_ {b o:Nat}{vs:Array Value}{E:TypeId}{f:Nat×Nat}(h:w.heap[b]?=some (.cells vs E f)):w.cell? ⟨b,o,none⟩=vs[o]?:=by
 simp[World.cell?,h]
theorem nJ {t:TypeId}{c:Bool}(h:Ni P t=some c):(isAgg t).run P w = .ok c w:=by
 unfold Ni at h;split at h<;>first|(cases h;done)|(injection h with h;subst h)
 ·rename_i e;simp[isAgg,underlying,program,Sem.run,e]
 ·rename_i e;simp[isAgg,underlying,program,Sem.run,e]
 ·rename_i d h1 h2 e
  simp[isAgg,underlying,program,Sem.run,e]
theorem Lt {t:TypeId}(h:Ni P t=some true):∃ d,P.underlying t=some d/\d.isRow=true:=by
 unfold Ni at h;split at h<;>first|(cases h;done)|skip
 ·rename_i e;exact⟨_,e,rfl⟩
 ·rename_i e;exact⟨_,e,rfl⟩
theorem lq {t:TypeId}{b o:Nat}{u:Value}(h:Ni P t=some false)(hc:w.cell? ⟨b,o,none⟩=some u):(Instr.loadAt t (.pointer (some ⟨b,o,none⟩))).run P w = .ok u w:=by
 simp[Instr.loadAt,Instr.sureAddr,loadVar,nJ h,run_load,hc]
theorem kU {t:TypeId}{b o n:Nat}{cs:List Value}(h:Ni P t=some true)(hn:eR P t=some n)(hl:cs.length=n)(hc:∀ (j:Nat) u,cs[j]?=some u->w.cell? ⟨b,o+j,none⟩=some u) :
  (Instr.loadAt t (.pointer (some ⟨b,o,none⟩))).run P w = .ok (.agg cs.toArray) w:=by
 obtain⟨d,hd,hr⟩:=Lt h;have:=run_loadVar_mid (P:=P) w b o t cs d hc hd hr (by rw[hl];exact hn);simp[Instr.loadAt,Instr.sureAddr,this]
theorem ni (O6:TIok P ti)(hi:Inv B R γ L w){t:TypeId}{va v:AV}{φ:Prop}{u1:Value}(h1:va.rep R γ L u1)(h:fx ti L t va=some (v,φ))(hφ:φ) :
  ∃ u,(Instr.loadAt t u1).run P w = .ok u w/\v.rep R γ L u:=by
 unfold fx at h;split at h
 ·rename_i cs
  cases h1 with
  |ref b o cs cv hr he =>
   split at h
   ·rename_i ht
    split at h
    ·rename_i x rest
     injection h with h;injection h with e1 e2;subst e1 e2
     exact⟨cv 0,lq (O6.agg _ _ ht) (by have:=hr 0 m5;exact hi.val _ _ _ this),he 0 x rfl⟩
    ·cases h
   ·rename_i n ht hn
    injection h with h;injection h with e1 e2;subst e1 e2
    refine⟨.agg ((List.range n).map cv).toArray,kU (O6.agg _ _ ht) (O6.size _ _ hn) m5 ?_,_,rfl,by simp;omega,?_⟩
    ·intro j u hu
     rw[aqw]at hu;by_cases hj:j<n
     ·rw[List.getElem?_range hj]at hu
      injection hu with hu;subst hu
      exact hi.val _ _ _ (hr j m0)
     ·rw[aqX m8]at hu;cases hu
    ·intro j u x hu hx
     simp only[List.getElem?_toArray,aqw]at hu hx;by_cases hj:j<n
     ·rw[List.getElem?_range hj]at hu
      injection hu with hu;subst hu
      rw[aqD,if_pos hj]at hx
      cases hy:cs[j]? with
      |none=>simp[hy]at hx
      |some y=>simp[hy]at hx;subst hx;exact he j y hy
     ·rw[aqX m8]at hu;cases hu
   ·cases h
 ·rename_i id off
  obtain⟨b,rfl,hg⟩:=h1;split at h
  ·rename_i cs hL
   obtain⟨⟨vs,E,hb,hs,hv⟩,_⟩:=hi.obj id _ _ hL hg;split at h
   ·rename_i ht
    split at h
    case h_2=>cases h
    ·rename_i x hc
     injection h with h;injection h with e1 e2;subst e1 e2
     have O0:off<vs.size:=by rw[hs];exact(ap_.1 hc).1
     have hu:vs[off]?=some vs[off]:=aqy O0;exact⟨vs[off],lq (O6.agg _ _ ht) (by rw[cob_ hb];exact hu),hv off _ x hu hc⟩
   ·rename_i n ht hn
    injection h with h;injection h with e1 e2;subst e1 e2
    refine⟨.agg ((vs.toList.drop off).take n).toArray,kU (O6.agg _ _ ht) (O6.size _ _ hn) m8 ?_,_,rfl,by simp;omega,?_⟩
    ·intro j u hu
     rw[cob_ hb];rw[aqD]at hu;split at hu
     ·rw[aqV]at hu;simpa using hu
     ·cases hu
    ·intro j u x hu hx
     simp only[List.getElem?_toArray]at hu;rw[aqD]at hu hx;split at hu
     ·rename_i hj
      rw[if_pos hj]at hx;rw[aqV]at hu hx;exact hv (off+j) u x (by simpa using hu) hx
     ·cases hu
   ·cases h
  ·cases h
 ·rename_i id OY i o
  obtain⟨_,O0,h1⟩:=h1;split at h
  case h_2=>cases h
  rename_i Pl es k hL;split at h
  ·rename_i e he ht
   split at h
   case h_2=>cases h
   rename_i x hx;injection h with h;injection h with e1 e2;subst e1 e2
   subst hφ;obtain⟨QE,g,hg,Px⟩:=(h1 _ es k hL).2 rfl;have QN:=hi.obj id _ _ hL hg
   match g,Px,QN with
   |.arr b c,Px,⟨⟨vs,E,⟨hb,hE65⟩,hs,hv⟩,hc,hk,hw,hR⟩ =>
    have Px:u1 = .pointer (some ⟨b,i*k+o,none⟩):=Px;subst Px;have ho:o<k:=by rw[<- hw e (aqe he)];exact(ap_.1 hx).1
    have QG:i*k+o<vs.size:=by
     rw[hs];have:(i+1)*k<=c*k:=aqL _ m0;rw[Nat.succ_mul]at this;omega
    have hu:vs[i*k+o]?=some vs[i*k+o]:=aqy QG;exact⟨vs[i*k+o],lq (O6.agg _ _ ht) (by rw[cob_ hb];exact hu),hv i e o _ x he hu hx⟩
  ·rename_i e n he ht hn
   injection h with h;injection h with e1 e2;subst e1 e2
   obtain⟨hve,hle⟩:=hφ;subst hve;obtain⟨QE,g,hg,Px⟩:=(h1 _ es k hL).2 rfl;have QN:=hi.obj id _ _ hL hg
   match g,Px,QN with
   |.arr b c,Px,⟨⟨vs,E,⟨hb,hE65⟩,hs,hv⟩,hc,hk,hw,hR⟩ =>
    have Px:u1 = .pointer (some ⟨b,i*k+o,none⟩):=Px;subst Px;have Uo:=hw e (aqe he);have QG:i*k+k<=vs.size:=by
     rw[hs];have:(i+1)*k<=c*k:=aqL _ m0;rw[Nat.succ_mul]at this;omega
    refine⟨.agg ((vs.toList.drop (i*k+o)).take n).toArray,kU (O6.agg _ _ ht) (O6.size _ _ hn) m8 ?_,_,rfl,by simp;omega,?_⟩
    ·intro j u hu
     rw[cob_ hb];rw[aqD]at hu;split at hu
     ·rw[aqV]at hu;simpa using hu
     ·cases hu
    ·intro j u x hu hx
     simp only[List.getElem?_toArray]at hu;rw[aqD]at hu hx;split at hu
     ·rename_i hj
      rw[if_pos hj]at hx;rw[aqV]at hu hx;exact hv i e (o+j) u x he (by rw[<- Nat.add_assoc];simpa using hu) hx
     ·cases hu
  ·cases h
 ·cases h
theorem pC {s:TypeId}{i o:Nat}{t:TypeId}(h:xA P s i=some (o,t)):∃ fs f,P.underlying s=some (.struct fs)/\fs[i]?=some f/\f.offset=o/\f.type=t:=by
 unfold xA at h;split at h
 ·rename_i fs e
  cases hf:fs[i]? with
  |none=>simp[hf]at h
  |some f =>
   simp[hf]at h;exact⟨fs,f,e,hf,h.1,h.2⟩
 ·cases h
theorem run_sizeOf {t:TypeId}{n:Nat}(h:eR P t=some n):(sizeOf t).run P w = .ok n w:=by
 unfold eR at h
 cases hi:P.info? t with
 |none=>simp[hi]at h
 |some i=>simp[hi]at h;simp[sizeOf,typeInfo,program,Sem.run,hi,h]
theorem q7 {s:TypeId}{i o:Nat}{t:TypeId}{b f:Nat}(h:xA P s i=some (o,t))(h0:eR P t≠some 0)(h1:(eR P t).isSome) :
  (Instr.fieldAt s (.pointer (some ⟨b,f,none⟩)) i).run P w = .ok (.pointer (some ⟨b,f+o,none⟩)) w:=by
 obtain⟨fs,fd,e1,e2,e3,e4⟩:=pC h;obtain⟨n,hn⟩:=aqQ.1 h1;have RN:n≠0:=fun e=>h0 (by rw[hn,e])
 subst e3 e4;simp[Instr.fieldAt,underlying,program,Sem.run,e1,e2,Instr.sureAddr,fieldPlace,run_sizeOf hn,RN,Addr.add_mid]
theorem uk (O6:TIok P ti){s:TypeId}{i:Nat}{va v:AV}{φ:Prop}{u1:Value}(h1:va.rep R γ L u1)(h:fU ti s i va=some (v,φ))(hφ:φ) :
  ∃ u,(Instr.fieldAt s u1 i).run P w = .ok u w/\v.rep R γ L u:=by
 unfold fU at h;split at h
 ·rename_i cs
  cases h1 with
  |ref b o cs cv hr he =>
   split at h
   ·rename_i o' t hf
    split at h
    case h_2=>cases h
    rename_i n hn;injection h with h;injection h with e1 e2;subst e1 e2
    have hle:=hφ;have Qj:=O6.size _ _ hn;refine⟨_,q7 (O6.field _ _ _ hf) (by rw[Qj];simp) (by rw[Qj];rfl),?_⟩;refine .ref b (o+o') _ (fun j=>cv (o'+j)) (fun j hj=>?_) (fun j x hx=>?_)
    ·rw[List.length_drop]at hj
     rw[Nat.add_assoc];exact hr _ m0
    ·rw[aqV]at hx;exact he _ _ hx
   ·cases h
 ·rename_i id off
  obtain⟨b,rfl,hg⟩:=h1;split at h
  ·rename_i o' t hf
   split at h
   case h_2=>cases h
   rename_i n hn;injection h with h;injection h with e1 e2;subst e1 e2
   have Qj:=O6.size _ _ hn;exact⟨_,q7 (O6.field _ _ _ hf) (by rw[Qj];simp) (by rw[Qj];rfl),b,rfl,hg⟩
  ·cases h
 ·cases h
theorem Dx (O6:TIok P ti){s:TypeId}{i:Nat}{va v:AV}{φ:Prop}{u1:Value}(h1:va.rep R γ L u1)(h:rS ti s i va=some (v,φ))(hφ:φ) :
  ∃ u,(Instr.field s u1 i).run P w = .ok u w/\v.rep R γ L u:=by
 unfold rS at h;split at h
 ·rename_i xs
  obtain⟨vs,rfl,hs,hv⟩:=h1;split at h
  ·rename_i o t hf
   obtain⟨fs,fd,e1,e2,e3,e4⟩:=pC (O6.field _ _ _ hf);subst e3 e4;split at h
   ·rename_i ht
    split at h
    case h_2=>cases h
    ·rename_i x hc
     injection h with h;injection h with e5 e6;subst e5 e6
     have O0:fd.offset<vs.size:=by rw[hs];exact(ap_.1 hc).1
     have hu:vs[fd.offset]?=some vs[fd.offset]:=aqy O0;exact⟨vs[fd.offset],by simp[Instr.field,underlying,program,Sem.run,e1,e2,asAgg,part,nJ (O6.agg _ _ ht),hu],hv _ _ x hu hc⟩
   ·rename_i n ht hn
    injection h with h;injection h with e5 e6;subst e5 e6
    refine⟨.agg (vs.extract fd.offset (fd.offset+n)),by simp[Instr.field,underlying,program,Sem.run,e1,e2,asAgg,part,nJ (O6.agg _ _ ht),run_sizeOf (O6.size _ _ hn)],_,rfl,by simp;omega,?_⟩;intro j u x hu hx;rw[Array.getElem?_extract]at hu;split at hu
    ·rw[aqD]at hx
     split at hx
     ·rw[aqV]at hx;exact hv _ u x hu hx
     ·cases hx
    ·cases hu
   ·cases h
  ·cases h
 ·cases h
theorem jb {x:AV}{v:Value}{es:List (List AC)}(h:x.rep R γ L v)(he:dx x=some es):bD R v (.lst es):=by
 unfold dx at he;split at he<;>first|(injection he with he;subst he)|(cases he;done)
 ·exact h
 ·exact h.1
 ·obtain⟨a,rfl⟩:=h;exact dq _ _ _
theorem mg {t:TypeId}{n:Nat}(h:(nO P t).bind (eR P)=some n):∃ e,P.underlying t=some (.slice e)/\eR P e=some n:=by
 unfold nO at h;split at h
 ·rename_i e he;exact⟨e,he,h⟩
 ·cases h
theorem u9 (O6:TIok P ti){t:TypeId}{vx vi v:AV}{φ:Prop}{u1 u2:Value}(h1:vx.rep R γ L u1)(h2:vi.rep R γ L u2)(h:eJ ti t vx vi=some (v,φ))(hφ:φ) :
  ∃ u,(Instr.indexAt t u1 u2).run P w = .ok u w/\v.rep R γ L u:=by
 unfold eJ at h;split at h
 ·rename_i es k0 i k hl ht
  have hp:=jb h1 hl
  cases h2;obtain⟨E,hE,hk⟩:=mg (O6.es ht);split at h
  ·rename_i e he
   injection h with h;injection h with e1 e2;subst e1 e2
   cases hp with
   |lst a n c _ k' cv b o hn hc RL ha hr hx =>
    have O0:i.toNat<es.length:=(ap_.1 he).1;have Ry:e∈es:=aqe he;obtain⟨h0,Uo⟩:=hφ;have U9:k'=k:=by rw[<- RL e Ry];exact Uo
    subst U9;have ea:=ha m0;subst ea;have QE:i<(n:Int):=m0
    refine⟨.pointer (some ⟨b,o+i.toNat*k',none⟩),?_,?_⟩
    ·simp[Instr.indexAt,asIntOf,underlying,program,Sem.run,hE,h0,QE,run_sizeOf hk,Addr.add_mid]
    ·refine .ref b _ e (fun j=>cv (i.toNat*k'+j)) (fun j hj=>?_) (fun j x hxj=>hx _ _ _ _ he hxj)
     rw[Nat.add_assoc];apply hr;have h3:i.toNat*k'+k'<=n*k':=by
      have:(i.toNat+1)*k'<=n*k':=aqL _ m0;rw[Nat.succ_mul]at this;exact this
     omega
  ·cases h
 ·cases h
theorem wd (O6:TIok P ti)(hi:Inv B R γ L w){t:TypeId}{id OY lo n:Nat}{vi v:AV}{φ:Prop}{u1 u2:Value}(h1:(SV.sl id OY lo n).rep R γ L u1)(h2:vi.rep R γ L u2)(h:eH ti L t id OY lo n vi=some (v,φ))(hφ:φ) :
  ∃ u,(Instr.indexAt t u1 u2).run P w = .ok u w/\v.rep R γ L u:=by
 unfold eH at h;split at h
 case h_2=>cases h
 rename_i Pl es k' k0 i k hL ht;injection h with h;injection h with e1 e2;subst e1 e2
 obtain⟨⟨QY,TO⟩,h0,h3⟩:=hφ;subst QY TO
 cases h2;obtain⟨E,hE,hk⟩:=mg (O6.es ht);obtain⟨_,O0,h1⟩:=h1;obtain⟨hle,g,hg,Px⟩:=(h1 _ es k hL).2 rfl
 match g,Px with
 |.none,⟨_,hn,_⟩=>exact absurd h3 m0
 |.arr b c,Px =>
  have Px:u1 = .slice (some ⟨b,lo*k,none⟩) n (c-lo):=by
   rcases Px with Px|⟨_,hn,_⟩
   ·exact Px
   ·exact absurd h3 m0
  subst Px;refine⟨.pointer (some ⟨b,lo*k+i.toNat*k,none⟩),?_,⟨rfl,rfl⟩,O0,fun QH Pv k2 e=>?_⟩
  ·simp[Instr.indexAt,asIntOf,underlying,program,Sem.run,hE,h0,h3,run_sizeOf hk,Addr.add_mid]
  ·rw[hL]at e;injection e with e;injection e with e0 e1 e2;subst e0 e1 e2;refine⟨aqo _,fun _=>?_⟩
   refine⟨m0,.arr b c,hg,?_⟩;show Value.pointer _=Value.pointer _;rw[Nat.add_mul,Nat.add_zero]
theorem wy (O6:TIok P ti){s:TypeId}{i0 id OY i off:Nat}{v:AV}{φ:Prop}{u1:Value}(h1:(SV.ep id OY i off).rep R γ L u1)(h:ez ti L s i0 id OY i off=some (v,φ))(hφ:φ) :
  ∃ u,(Instr.fieldAt s u1 i0).run P w = .ok u w/\v.rep R γ L u:=by
 unfold ez at h;split at h
 case h_2=>cases h
 rename_i Pl es k o t hL hf;split at h
 case h_2=>cases h
 rename_i n hn;injection h with h;injection h with e1 e2;subst e1 e2
 subst hφ;obtain⟨_,O0,h1⟩:=h1;obtain⟨hle,g,hg,Px⟩:=(h1 _ es k hL).2 rfl;have Qj:=O6.size _ _ hn
 match g,Px with
 |.arr b c,Px =>
  have Px:u1 = .pointer (some ⟨b,i*k+off,none⟩):=Px;subst Px;refine⟨_,q7 (O6.field _ _ _ hf) (by rw[Qj];simp) (by rw[Qj];rfl),⟨rfl,rfl⟩,O0,fun QH Pv k2 e=>?_⟩;rw[hL]at e;injection e with e;injection e with e0 e1 e2;subst e0 e1 e2;refine⟨aqo _,fun _=>?_⟩
  refine⟨hle,.arr b c,hg,?_⟩;show Value.pointer _=Value.pointer _;rw[Nat.add_assoc]
theorem zT (O6:TIok P ti){t ty:TypeId}{id OY lo n:Nat}{v:AV}{φ:Prop}{u1:Value}(h1:(SV.sl id OY lo n).rep R γ L u1)(h:ip ti L t id OY n=some (v,φ))(hφ:φ) :
  ∃ u,(Builtin.len_ #[t] ty #[u1]).run P w = .ok u w/\v.rep R γ L u:=by
 unfold ip at h;split at h
 case h_2=>cases h
 rename_i Pl es k hL;injection h with h;injection h with e1 e2;subst e1 e2
 obtain⟨hv,hφ⟩:=hφ;subst hv;obtain⟨_,O0,h1⟩:=h1;obtain⟨hle,g,hg,Px⟩:=(h1 _ es k hL).2 rfl;have⟨e,he⟩:∃ e,P.underlying t=some (.slice e):=by
  obtain⟨e,he⟩:=aqQ.1 hφ;have h2:=O6.elem _ _ he;unfold nO at h2;split at h2
  ·rename_i e' QO;exact⟨e',QO⟩
  ·cases h2
 match g,Px with
 |.none,⟨⟨a,hu,_⟩,hn,_⟩ =>
  subst hu hn;exact⟨.int .i64 (0:Nat),by simp[Builtin.len_,underlying,program,Sem.run,he,goInt],.int _ _⟩
 |.arr b c,Px =>
  rcases Px with Px|⟨_,hn,a,hu⟩
  case inr=>subst hu hn;exact⟨.int .i64 (0:Nat),by simp[Builtin.len_,underlying,program,Sem.run,he,goInt],.int _ _⟩
  subst Px;exact⟨.int .i64 n,by simp[Builtin.len_,underlying,program,Sem.run,he,goInt],.int _ _⟩
end
section
variable {P:Program} {ti:TI} {B:Nat->Prop} {R:PH} {γ:List Gh} {L:List Ob} {w:World}
theorem BI (O6:TIok P ti){t:TypeId}{vx vi v:AV}{φ:Prop}{u1 u2:Value}(h1:vx.rep R γ L u1)(h2:vi.rep R γ L u2)(h:lS ti t vx vi=some (v,φ))(hφ:φ) :
  ∃ u,(Instr.index t u1 u2).run P w = .ok u w/\v.rep R γ L u:=by
 unfold lS at h;split at h
 ·rename_i s k i
  cases h1;cases h2;split at h
  ·rename_i b hb
   injection h with h;injection h with e1 e2;subst e1 e2
   obtain⟨h0,hu⟩:=hφ;exact⟨.int .u8 b.toNat,by simp[Instr.index,asIntOf,underlying,program,Sem.run,O6.kind _ _ hu,h0,hb],.int _ _⟩
  ·cases h
 ·rename_i zs k0 i
  obtain⟨vs,rfl,hs,hv⟩:=h1
  cases h2;split at h
  ·rename_i n e hk
   have hu:=O6.kind _ _ hk;split at h
   ·rename_i k ha hz
    split at h
    case h_2=>cases h
    ·rename_i x hc
     injection h with h;injection h with e5 e6;subst e5 e6
     obtain⟨g0,g1⟩:=hφ;have O0:i.toNat*k<vs.size:=by rw[hs];exact(ap_.1 hc).1
     have hw:vs[i.toNat*k]?=some vs[i.toNat*k]:=aqy O0;exact⟨vs[i.toNat*k],by simp[Instr.index,asIntOf,underlying,program,Sem.run,hu,g0,g1,part,nJ (O6.agg _ _ ha),run_sizeOf (O6.size _ _ hz),hw],hv _ _ x hw hc⟩
   ·rename_i k ha hz
    injection h with h;injection h with e5 e6;subst e5 e6
    obtain⟨⟨g0,g1⟩,g2⟩:=hφ;refine⟨.agg (vs.extract (i.toNat*k) (i.toNat*k+k)),by simp[Instr.index,asIntOf,underlying,program,Sem.run,hu,g0,g1,part,nJ (O6.agg _ _ ha),run_sizeOf (O6.size _ _ hz)],_,rfl,by simp;omega,?_⟩;intro j u x hj hx;rw[Array.getElem?_extract]at hj;split at hj
    ·rw[aqD]at hx
     split at hx
     ·rw[aqV]at hx;exact hv _ u x hj hx
     ·cases hx
    ·cases hj
   ·cases h
  ·cases h
 ·cases h
def akZ (R:PH)(γ:List Gh)(L:List Ob):Option AV->Option Value->Prop
 |none,none=>True
 |some x,some v=>x.rep R γ L v
 |_,_=>False
theorem eX {s:Bool}{len cap:Nat}{lo hi:Option AV}{vlo vhi:Option Value}{l h:Int}(Po:km 0 lo=some l)(PG:km len hi=some h)
  (U_:akZ R γ L lo vlo) (Va:akZ R γ L hi vhi) (h0:0<=l) (h1:l<=h) (h2:h<=cap) :
  (Instr.sliceBounds s len cap vlo vhi none).run P w = .ok (l.toNat,h.toNat,cap) w:=by
 have e1:∀ (v:Value) (x:AV) (i:Int) (y:Nat) (c:BoundsCode),x.rep R γ L v->km 0 (some x)=some i->0<=i->i<=y->(Instr.sliceBound v y c).run P w = .ok i.toNat w:=by
  intro v x i y c hx hb g0 g1;unfold km at hb;split at hb
  ·rename_i e;cases e
  ·rename_i e
   injection e with e;subst e
   injection hb with hb;subst hb
   cases hx;simp[Instr.sliceBound,asIntOf,g0,g1]
  ·cases hb
 match lo,vlo,U_,Po,hi,vhi,Va,PG with
 |none,none,_,Po,none,none,_,PG =>
  injection Po with Po;subst Po
  injection PG with PG;subst PG
  simp[Instr.sliceBounds]
 |some x,some v,U_,Po,none,none,_,PG =>
  injection PG with PG;subst PG
  simp[Instr.sliceBounds,e1 v x l len _ U_ Po h0 m0]
 |none,none,_,Po,some y,some u,Va,PG =>
  injection Po with Po;subst Po
  simp[Instr.sliceBounds,e1 u y h cap _ Va (by cases y<;>first|exact PG|(rename_i z;cases z<;>first|exact PG|(rename_i q;cases q<;>exact PG))) m0 h2]
 |some x,some v,U_,Po,some y,some u,Va,PG =>
  simp[Instr.sliceBounds,e1 u y h cap _ Va (by cases y<;>first|exact PG|(rename_i z;cases z<;>first|exact PG|(rename_i q;cases q<;>exact PG))) m0 h2,e1 v x l h.toNat _ U_ Po h0 m0]
theorem afX {a:Option Addr}{n c l h:Nat}{es:List (List AC)}{k m:Nat}(hp:bD R (.slice a n c) (.lst es))(hlh:l<=h)(hh:h<=es.length)(hk:∀ e∈es,e.length=k)(hm:m=c) :
  bD R (.slice (if m=l then a else a.map (·.add (l*k))) (h-l) (m-l)) (.lst ((es.take h).drop l)):=by
 cases hp with
 |lst _ _ _ _ k' cv b o hn hc RL ha hr hx =>
  subst hm;have hlen:((es.take h).drop l).length=h-l:=by simp;omega
  by_cases hz:h-l=0
  ·rw[hz]
   have:(es.take h).drop l=[]:=aqz m0;rw[this];exact dq _ _ _
  ·have YI:0<n:=m0
   have U9:k'=k:=by
    have h0:0<es.length:=m0
    rw[<- RL es[0] (List.getElem_mem h0),hk es[0] (List.getElem_mem h0)]
   subst U9;have ea:=ha YI;subst ea;rw[if_neg m0];refine .lst _ _ _ _ k' (fun j=>cv (l*k'+j)) b (o+l*k') hlen m0 (fun e he=>hk e (aq6 (List.mem_of_mem_drop he))) (fun _=>by simp[Addr.add_mid]) (fun j hj=>?_) (fun i e j x he hxj=>?_)
   ·rw[Nat.add_assoc]
    apply hr;have:l*k'+(h-l)*k'=h*k':=by rw[<- Nat.add_mul];congr 1;omega
    have:h*k'<=n*k':=aqL _ m0;omega
   ·rw[aqV,aqD]at he
    split at he
    ·have:=hx _ _ _ _ he hxj
     rw[Nat.add_mul,Nat.add_assoc]at this;exact this
    ·cases he
theorem iJ (O6:TIok P ti)(hI:Inv B R γ L w){t:TypeId}{vx v:AV}{lo hi:Option AV}{vlo vhi:Option Value}{φ:Prop}{u1:Value}(h1:vx.rep R γ L u1)(U_:akZ R γ L lo vlo)(Va:akZ R γ L hi vhi)
  (h:dZ ti L t vx lo hi=some (v,φ)) (hφ:φ):∃ u,(Instr.sliceAt t u1 vlo vhi none).run P w = .ok u w/\v.rep R γ L u:=by
 unfold dZ at h;split at h
 ·rename_i s
  cases h1;split at h
  ·rename_i l h' hl hh
   injection h with h;injection h with e1 e2;subst e1 e2
   obtain⟨a1,a2,a3,a4⟩:=hφ;refine⟨.string (s.extract l.toNat h'.toNat),?_,.str _⟩;have:=eX (P:=P) (w:=w) (s:=false) (cap:=s.size) hl hh U_ Va a1 a2 m0;simp[Instr.sliceAt,Instr.slice,underlying,program,Sem.run,O6.kind _ _ a4,this]
  ·cases h
 ·rename_i id OY Xq n
  split at h
  case h_2=>cases h
  rename_i Pl es k' k hL ht;split at h
  case h_2=>cases h
  rename_i l h' hl hh;injection h with h;injection h with e1 e2;subst e1 e2
  obtain⟨hv,RL,a1,a2,a3⟩:=hφ;subst hv RL;obtain⟨E,hE,hk⟩:=mg (O6.es ht);obtain⟨_,O0,h1⟩:=h1;obtain⟨hle,g,hg,Px⟩:=(h1 _ es k hL).2 rfl;have QN:=hI.obj id _ _ hL hg
  match g,Px,QN with
  |.none,⟨⟨a0,hu,ha0⟩,hn,Po⟩,QN =>
   subst hu hn Po;have:=eX (P:=P) (w:=w) (s:=true) (cap:=0) hl hh U_ Va a1 a2 m0;have e1:l=0:=m0
   have e2:h'=0:=m0
   subst e1 e2;refine⟨_,by simp[Instr.sliceAt,Instr.slice,underlying,program,Sem.run,hE,this,run_sizeOf hk];rfl,⟨rfl,rfl⟩,O0,fun QH S1 k2 e=>?_⟩;rw[hL]at e;injection e with e;injection e with e0 e1 e2;subst e0 e1 e2;refine⟨aqo _,fun _=>?_⟩
   exact⟨m5,.none,hg,⟨_,rfl,ha0⟩,rfl,rfl⟩
  |.arr b c,Px,⟨_,hc,_⟩ =>
   rcases Px with Px|⟨hcl,hn,a,hu⟩
   case inr =>
    subst hu hn;have:=eX (P:=P) (w:=w) (s:=true) (cap:=0) hl hh U_ Va a1 a2 m0;have e1:l=0:=m0
    have e2:h'=0:=m0
    subst e1 e2;refine⟨_,by simp[Instr.sliceAt,Instr.slice,underlying,program,Sem.run,hE,this,run_sizeOf hk];rfl,⟨rfl,rfl⟩,O0,fun QH S1 k2 e=>?_⟩;rw[hL]at e;injection e with e;injection e with e0 e1 e2;subst e0 e1 e2;refine⟨aqo _,fun _=>?_⟩
    exact⟨by simpa using hle,.arr b c,hg,.inr ⟨by simpa using hcl,rfl,_,rfl⟩⟩
   subst Px;have:=eX (P:=P) (w:=w) (s:=true) (cap:=c-Xq) hl hh U_ Va a1 a2 m0;refine⟨_,by simp[Instr.sliceAt,Instr.slice,underlying,program,Sem.run,hE,this,run_sizeOf hk];rfl,⟨rfl,rfl⟩,O0,fun QH S1 k2 e=>?_⟩;rw[hL]at e;injection e with e;injection e with e0 e1 e2;subst e0 e1 e2;refine⟨aqo _,fun _=>?_⟩
   refine⟨m0,.arr b c,hg,?_⟩;by_cases hm:c-Xq=l.toNat
   ·refine .inr ⟨m0,m0,some ⟨b,Xq*k,none⟩,?_⟩
    rw[if_pos hm,show h'.toNat-l.toNat=0 from by omega,show c-Xq-l.toNat=0 from by omega]
   ·refine .inl ?_
    rw[if_neg hm,Nat.add_mul,Nat.sub_add_eq];simp[Addr.add_mid]
 ·split at h
  ·rename_i es k hl ht
   have hp:=jb h1 hl;obtain⟨E,hE,hk⟩:=mg (O6.es ht);split at h
   ·rename_i l h' hl hh
    injection h with h;injection h with e1 e2;subst e1 e2
    obtain⟨a1,a2,a3,a4⟩:=hφ
    match u1,hp with
    |.slice a n c,hp =>
     have hn:es.length=n:=by cases hp;assumption
     have hc:n<=c:=by cases hp;assumption
     subst hn;have:=eX (P:=P) (w:=w) (s:=true) (cap:=c) hl hh U_ Va a1 a2 m0;refine⟨_,by simp[Instr.sliceAt,Instr.slice,underlying,program,Sem.run,hE,this,run_sizeOf hk];rfl,?_⟩;have h3:((h'-l).toNat)=h'.toNat-l.toNat:=m0
     exact afX (m:=c) hp m0 m0 a4 rfl
   ·cases h
  ·cases h
theorem Kr (O6:TIok P ti){t ty:TypeId}{vx v:AV}{φ:Prop}{u1:Value}(h1:vx.rep R γ L u1)(h:Eh ti t vx=some (v,φ))(hφ:φ) :
  ∃ u,(Builtin.len_ #[t] ty #[u1]).run P w = .ok u w/\v.rep R γ L u:=by
 unfold Eh at h;split at h
 ·rename_i s
  cases h1;injection h with h;injection h with e1 e2;subst e1 e2
  exact⟨.int .i64 s.size,by simp[Builtin.len_,underlying,program,Sem.run,O6.kind _ _ hφ,goInt],.int _ _⟩
 ·split at h
  case h_2=>cases h
  ·rename_i es hl
   injection h with h;injection h with e1 e2;subst e1 e2
   have hp:=jb h1 hl
   match u1,hp with
   |.slice a n c,hp =>
    have hn:es.length=n:=by cases hp;assumption
    subst hn;have⟨e,he⟩:∃ e,P.underlying t=some (.slice e):=by
     obtain⟨e,he⟩:=aqQ.1 hφ;have h2:=O6.elem _ _ he;unfold nO at h2;split at h2
     ·rename_i e' QO;exact⟨e',QO⟩
     ·cases h2
    exact⟨.int .i64 es.length,by simp[Builtin.len_,underlying,program,Sem.run,he,goInt],.int _ _⟩
theorem qx {mx:Bool}{vx vy v:AV}{φ:Prop}{u1 u2:Value}{ts:Array TypeId}{ty:TypeId}(h1:vx.rep R γ L u1)(h2:vy.rep R γ L u2)(h:sJ mx vx vy=some (v,φ)) :
  ∃ u,(if mx then Builtin.max_ ts ty #[u1,u2]else Builtin.min_ ts ty #[u1,u2]).run P w = .ok u w/\v.rep R γ L u:=by
 unfold sJ at h;split at h
 ·rename_i k a k' b
  cases h1;cases h2;injection h with h;injection h with e1 e2;subst e1 e2
  cases mx
  ·exact⟨.int k (if b<a then b else a),by simp[Builtin.min_,Builtin.min2],.int _ _⟩
  ·exact⟨.int k (if b>a then b else a),by simp[Builtin.max_,Builtin.max2],.int _ _⟩
 ·cases h
end
