/- Parts. No condition. -/
import Derived.WalkKit
import Derived.Orders
import Derived.Deep.MidRow
import Derived.Deep.AppendSrc
set_option linter.unusedSimpArgs false
set_option linter.unusedVariables false
namespace Go.Proofs
theorem t7:True:=trivial
theorem m0 {p:Prop}(h:p:=by omega):p:=h
theorem m5 {p:Prop}(h:p:=by simp):p:=h
theorem m8 {p:Prop}(h:p:=by simp;omega):p:=h
theorem m9 {p:Prop}(h:p:=by decide):p:=h
theorem k7 {p:Prop}(h:p:=by kernel_rfl):p:=h
theorem r5 {p:Prop}(h:p:=by rfl):p:=h
end Go.Proofs
namespace Go.Proofs.YtdkmoemdipgikaaGreatDoor
abbrev amv := @Option.bind_some
abbrev amw := @List.getElem?_eq_some_iff
abbrev amx := @cond_false
abbrev amy := @cond_true
abbrev amz := @decide_eq_false
abbrev amA := @decide_eq_true
abbrev amB := @List.nil_append
abbrev amC := @List.mem_of_getElem?
abbrev amD := @List.getElem?_append_right
abbrev amE := @List.length_append
abbrev amF := @List.getElem?_eq_getElem
abbrev amG := @Nat.le_of_ble_eq_true
abbrev amH := @List.map_cons
abbrev amI := @List.length_map
abbrev amJ := @List.map_append
abbrev amK := @List.getElem?_append_left
abbrev amL := @List.map_nil
abbrev amM := @Nat.le_refl
abbrev amN := @List.mem_cons
abbrev amO := @Bool.and_eq_true
abbrev amP := @List.getElem?_set_self
abbrev amQ := @List.getElem?_set_ne
abbrev amR := @Nat.zero_le
abbrev amS := @List.length_cons
abbrev amT := @List.getElem?_map
abbrev amU := @List.mem_cons_of_mem
abbrev amV := @Array.getElem?_eq_getElem
abbrev amW := @List.eq_nil_of_length_eq_zero
abbrev amX := @List.append_assoc
abbrev amY := @List.mem_append
abbrev amZ := @of_decide_eq_true
abbrev am0 := @List.getElem?_take
abbrev am1 := @List.length_nil
abbrev am2 := @List.drop_eq_getElem_cons
abbrev am3 := @Option.some.inj
abbrev am4 := @Bool.true_and
abbrev am5 := @List.append_nil
abbrev am6 := @List.mem_map
abbrev am7 := @Nat.mul_le_mul_right
abbrev am8 := @List.flatMap_cons
abbrev am9 := @Nat.lt_of_lt_of_le
abbrev am_ := @List.take_of_length_le
abbrev am' := @List.mem_singleton
abbrev ana := @Option.isSome_iff_exists
abbrev anb := @Nat.zero_add
abbrev ane := @Array.getElem?_setIfInBounds_ne
abbrev anf := @Array.getElem?_eq_some_iff
abbrev ang := @List.take_append_drop
abbrev anh := @List.getElem?_drop
abbrev ani := @List.mem_cons_self
abbrev anj := @List.getElem?_eq_none
abbrev ank := @List.all_eq_true
abbrev anl := @List.foldl_cons
abbrev anm := @List.length_take
abbrev ann := @List.getD_eq_getElem?_getD
abbrev ano := @Array.getElem?_setIfInBounds_self_of_lt
abbrev anp := @List.forall_mem_cons
abbrev anq := @List.drop_length
abbrev anr := @List.pairwise_cons
abbrev ant := @List.mem_of_mem_take
open Go.RowKit
inductive Nul where
 |ptr
 |iface
 |map
 |func
 |yld (l:Nat)
 |itr (b:Nat)
 deriving Inhabited,DecidableEq
def Nul.val:Nul->Value
 |.ptr => .pointer none
 |.iface => .nilIface
 |.map => .map none
 |.func => .nilFunc
 |.yld l => .func (.yield l) #[] #[]
 |.itr b => .pointer (some ⟨b,0,none⟩)
inductive AC where
 |nul (k:Nul)
 |bool (b:Bool)
 |int (k:IntKind) (n:Int)
 |str (s:ByteArray)
 |lst (es:List (List AC))
 |ref (cs:List AC)
 |fn (f:FuncId) (caps:List AC)
 deriving Inhabited
abbrev PHf:=Nat->Nat->Option Value
def aiU:Nat:=0
def Gt (o:Nat):Option Value:=if o<20 then some (.int .u64 (10 ^ o))else none
def g8 (f:PHf):Prop :=∀ o u,Gt o=some u->f aiU o=some u
theorem g8.mono {f g:PHf}(h:g8 f)(k:∀ b o u,f b o=some u->g b o=some u):g8 g:=fun o u e=>k _ _ _ (h o u e)
structure PH where
 fn:PHf
 tab:g8 fn
instance : CoeFun PH (fun _ => PHf) := ⟨PH.fn⟩
def PH.sub (R R':PH):Prop :=∀ b o u,R b o=some u->R' b o=some u
def PH.put (R:PH)(f:PHf)(h:∀ b o u,R b o=some u->f b o=some u):PH:=⟨f,R.tab.mono h⟩
theorem PH.sub_refl (R:PH):PH.sub R R:=fun _ _ _ h=>h
theorem PH.sub_trans {R R' R'':PH}(h:PH.sub R R')(g:PH.sub R' R''):PH.sub R R'':=fun b o u e=>g b o u (h b o u e)
inductive bg (R:PH):Value->AC->Prop
 |nul (k:Nul) (v:Value) (h:v=k.val):bg R v (.nul k)
 |bool (b:Bool):bg R (.bool b) (.bool b)
 |int (k:IntKind) (n:Int):bg R (.int k n) (.int k n)
 |str (s:ByteArray):bg R (.string s) (.str s)
 |lst (a:Option Addr) (n c:Nat) (es:List (List AC)) (k:Nat) (cv:Nat->Value) (b o:Nat) (hn:es.length=n) (hc:n<=c)
   (hk:∀ e∈es,e.length=k) (ha:0<n->a=some ⟨b,o,none⟩) (hr:∀ j,j<n*k->R b (o+j)=some (cv j))
   (he:∀ (i:Nat) e (j:Nat) x,es[i]?=some e->e[j]?=some x->bg R (cv (i*k+j)) x):bg R (.slice a n c) (.lst es)
 |ref (b o:Nat) (cs:List AC) (cv:Nat->Value) (hr:∀ j,j<cs.length->R b (o+j)=some (cv j))
   (he:∀ (j:Nat) x,cs[j]?=some x->bg R (cv j) x):bg R (.pointer (some ⟨b,o,none⟩)) (.ref cs)
 |fn (f:FuncId) (caps:Array Value) (cs:List AC) (hs:caps.size=cs.length)
   (he:∀ (j:Nat) v x,caps[j]?=some v->cs[j]?=some x->bg R v x):bg R (.func (.func f) #[] caps) (.fn f cs)
theorem bg.mono {R R':PH}(h:PH.sub R R'):∀ {v x},bg R v x->bg R' v x:=by
 intro v x hx
 induction hx with
 |nul k v h=>exact .nul k v h
 |bool b=>exact .bool b
 |int k n=>exact .int k n
 |str s=>exact .str s
 |lst a n c es k cv b o hn hc hk ha hr _ ih=>exact .lst a n c es k cv b o hn hc hk ha (fun j hj=>h _ _ _ (hr j hj)) ih
 |ref b o cs cv hr _ ih=>exact .ref b o cs cv (fun j hj=>h _ _ _ (hr j hj)) ih
 |fn f caps cs hs _ ih=>exact .fn f caps cs hs ih
inductive Cap where
 |c (x:AC)
 |ptr (id off:Nat)
 deriving Inhabited
inductive SV where
 |c (x:AC)
 |emp
 |own (es:List (List AC)) (t:Nat)
 |ptr (id off:Nat)
 |sl (id ver lo n:Nat)
 |ep (id ver i o:Nat)
 |mp (id:Nat)
 |clo (f:FuncId) (caps:List Cap)
 deriving Inhabited
inductive PV where
 |one (x:AC)
 |agg (xs:List AC)
 deriving Inhabited
inductive CV where
 |val (p:PV)
 |tup (ps:List PV)
 deriving Inhabited
inductive AV where
 |one (x:SV)
 |agg (xs:List SV)
 |tup (ps:List PV)
 |tupS (xs:List SV)
 |undef
 deriving Inhabited
inductive Ob where
 |box (cs:List SV)
 |spare (n k:Nat)
 |row (ver:Nat) (es:List (List SV)) (k:Nat)
 |map (kvs:List (AC×AV))
 |dead
 deriving Inhabited
inductive Gh where
 |none
 |box (b:Nat)
 |arr (b c:Nat)
def Gh.block:Gh->Option Nat
 |.none=>Option.none
 |.box b=>some b
 |.arr b _=>some b
def Link (n:Nat)(v:Value):Gh->Prop
 |.none =>∃ a,v = .slice a 0 0
 |.arr b c=>v = .slice (some ⟨b,0,Option.none⟩) n c
 |.box _=>False
def Cap.rep (R:PH)(γ:List Gh):Cap->Value->Prop
 |.c x,v=>bg R v x
 |.ptr id off,v =>∃ b,v = .pointer (some ⟨b,off,none⟩)/\γ[id]?=some (.box b)
def alu (ver k lo n:Nat)(v:Value):Gh->Prop
 |.none=>(∃ a,v = .slice a 0 0/\(ver<65536->a=none))/\n=0/\lo=0
 |.arr b c=>v = .slice (some ⟨b,lo*k,Option.none⟩) n (c-lo)\/(c=lo/\n=0 /\ ∃ a,v = .slice a 0 0)
 |.box _=>False
def aj2 (k i o:Nat)(v:Value):Gh->Prop
 |.arr b _=>v = .pointer (some ⟨b,i*k+o,Option.none⟩)
 |_=>False
def SV.rep (R:PH)(γ:List Gh)(L:List Ob):SV->Value->Prop
 |.c x,v=>bg R v x
 |.emp,v =>∃ a,v = .slice a 0 0
 |.own es t,v=>bg R v (.lst es)/\t<L.length /\ ∀ n k,L[t]?=some (.spare n k)->es.length<=n/\(∀ e∈es,e.length=k)/\(es.length=n ->∃ g,γ[t]?=some g/\Link n v g)
 |.ptr id off,v =>∃ b,v = .pointer (some ⟨b,off,none⟩)/\γ[id]?=some (.box b)
 |.sl id ver lo n,v=>(v.cells=#[v]/\v.oneCell'=true)/\id<L.length /\ ∀ ver' es k,L[id]?=some (.row ver' es k)->ver<=ver'/\(ver=ver'->lo+n<=es.length /\ ∃ g,γ[id]?=some g/\alu ver k lo n v g)
 |.ep id ver i o,v=>(v.cells=#[v]/\v.oneCell'=true)/\id<L.length /\ ∀ ver' es k,L[id]?=some (.row ver' es k)->ver<=ver'/\(ver=ver'->i<es.length /\ ∃ g,γ[id]?=some g/\aj2 k i o v g)
 |.mp id,v =>∃ b,v = .map (some b)/\γ[id]?=some (.box b)
 |.clo f caps,v =>∃ vs:Array Value,v = .func (.func f) #[] vs/\vs.size=caps.length /\ ∀ (j:Nat) u x,vs[j]?=some u->caps[j]?=some x->x.rep R γ u
def PV.rep (R:PH):PV->Value->Prop
 |.one x,v=>bg R v x
 |.agg xs,v =>∃ vs:Array Value,v = .agg vs/\vs.size=xs.length /\ ∀ (j:Nat) u x,vs[j]?=some u->xs[j]?=some x->bg R u x
def CV.rep (R:PH):CV->Value->Prop
 |.val p,v=>p.rep R v
 |.tup ps,v =>∃ vs:Array Value,v = .tuple vs/\vs.size=ps.length /\ ∀ (j:Nat) u p,vs[j]?=some u->ps[j]?=some p->p.rep R u
def AV.rep (R:PH)(γ:List Gh)(L:List Ob):AV->Value->Prop
 |.one x,v=>x.rep R γ L v
 |.agg xs,v =>∃ vs:Array Value,v = .agg vs/\vs.size=xs.length /\ ∀ (j:Nat) u x,vs[j]?=some u->xs[j]?=some x->x.rep R γ L u
 |.tup ps,v =>∃ vs:Array Value,v = .tuple vs/\vs.size=ps.length /\ ∀ (j:Nat) u p,vs[j]?=some u->ps[j]?=some p->p.rep R u
 |.tupS xs,v =>∃ vs:Array Value,v = .tuple vs/\vs.size=xs.length /\ ∀ (j:Nat) u x,vs[j]?=some u->xs[j]?=some x->x.rep R γ L u
 |.undef,v=>v=Go.undef
def jM (R:PH)(γ:List Gh)(L:List Ob)(w:World):Ob->Gh->Prop
 |.box cs,.box b=>(∃ vs E,w.heap[b]?=some (.cells vs E (0,0))/\vs.size=cs.length /\ ∀ (j:Nat) u x,vs[j]?=some u->cs[j]?=some x->x.rep R γ L u) /\ ∀ o,R b o=none
 |.spare n k,.arr b c=>(∃ vs E,w.heap[b]?=some (.cells vs E (0,0))/\vs.size=c*k)/\n<=c/\0<k /\ ∀ o,n*k<=o->R b o=none
 |.spare n _,.none=>n=0
 |.row ver es k,.arr b c=>(∃ vs E,(w.heap[b]?=some (.cells vs E (0,0))/\E=ver%65536/\65536<=ver)/\vs.size=c*k /\ ∀ (i:Nat) e (j:Nat) u x,es[i]?=some e->vs[i*k+j]?=some u->e[j]?=some x->x.rep R γ L u)/\es.length<=c/\0<k/\(∀ e∈es,e.length=k) /\ ∀ o,R b o=none
 |.row _ es _,.none=>es=[]
 |.map kvs,.box b=>(∃ es,w.heap[b]?=some (.map es es.size)/\es.size=kvs.length /\ ∀ (j:Nat) e p,es[j]?=some e->kvs[j]?=some p->e.born=j/\bg R e.key p.1/\p.2.rep R γ L e.val) /\ ∀ o,R b o=none
 |.dead,.none=>True
 |.dead,.box _=>True
 |_,_=>False
structure Inv (B:Nat->Prop)(R:PH)(γ:List Gh)(L:List Ob)(w:World):Prop where
 len:γ.length=L.length
 val:∀ b o u,R b o=some u->w.cell? ⟨b,o,none⟩=some u
 obj:∀ (id:Nat) x g,L[id]?=some x->γ[id]?=some g->jM R γ L w x g
 inj:∀ (i j:Nat) gi gj,γ[i]?=some gi->γ[j]?=some gj->i≠j ->∀ b,gi.block=some b->gj.block≠some b
 new:∀ (i:Nat) g b,γ[i]?=some g->g.block=some b ->¬ B b/\b<w.heap.size
 bsz:∀ b,B b->b<w.heap.size
abbrev Tm:=List (Nat×AV)
structure cg (N:Nat)(R:PH)(γ:List Gh)(L:List Ob)(T:Tm)(a:Act):Prop where
 size:a.tmps.size=N
 defers:a.defers=[]
 slot:∀ (t:Nat) x,T.lookup t=some x ->∃ u,a.tmps[t]?=some u/\x.rep R γ L u
structure Kept (B:Nat->Prop)(w w':World):Prop where
 os:w'.os=w.os
 tape:w'.tape=w.tape
 output:w'.output=w.output
 size:w.heap.size<=w'.heap.size
 block:∀ b,B b->w'.heap[b]?=w.heap[b]?
theorem Kept.refl (B:Nat->Prop)(w:World):Kept B w w:=⟨rfl,rfl,rfl,amM _,fun _ _=>rfl⟩
theorem Kept.trans {B:Nat->Prop}{a b c:World}(h:Kept B a b)(k:Kept B b c):Kept B a c :=
 ⟨k.os.trans h.os,k.tape.trans h.tape,k.output.trans h.output,Nat.le_trans h.size k.size,fun i hi=>(k.block i hi).trans (h.block i hi)⟩
theorem Kept.mono {B B':Nat->Prop}{w w':World}(h:Kept B w w')(hB:∀ b,B' b->B b):Kept B' w w':=⟨h.os,h.tape,h.output,h.size,fun k hk=>h.block k (hB k hk)⟩
theorem Kept.below {n:Nat}{w w':World}(h:Kept (· <n) w w'):Below n w w':=⟨h.os,h.tape,h.output,h.size,h.block⟩
theorem Kept.of {n:Nat}{w w':World}(h:Below n w w'):Kept (· <n) w w':=⟨h.os,h.tape,h.output,h.size,h.block⟩
structure Ext (B:Nat->Prop)(R R':PH)(w w':World):Prop where
 below:Kept B w w'
 sub:PH.sub R R'
 old:∀ b o,B b->R' b o=R b o
theorem Ext.refl (B:Nat->Prop)(R:PH)(w:World):Ext B R R w w:=⟨Kept.refl _ _,PH.sub_refl _,fun _ _ _=>rfl⟩
theorem Ext.trans {B:Nat->Prop}{R R' R'':PH}{w w' w'':World}(h:Ext B R R' w w')(g:Ext B R' R'' w' w''):Ext B R R'' w w'' :=
 ⟨h.below.trans g.below,PH.sub_trans h.sub g.sub,fun b o hb=>(g.old b o hb).trans (h.old b o hb)⟩
theorem lt_of_cell {w:World}{b o:Nat}{u:Value}(h:w.cell? ⟨b,o,none⟩=some u):b<w.heap.size:=by
 unfold World.cell? at h;simp only at h;split at h
 ·rename_i hb;exact(anf.1 hb).1
 ·cases h
structure Mv (R R':PH)(γ γ':List Gh)(L L':List Ob):Prop where
 sub:PH.sub R R'
 len:L.length<=L'.length
 tok:∀ (t:Nat) n' k,t<L.length->L'[t]?=some (.spare n' k) ->∃ n,L[t]?=some (.spare n k)/\n<=n'/\(n=n'->γ'[t]?=γ[t]?)
 row:∀ (t:Nat) ver es' k,t<L.length->L'[t]?=some (.row ver es' k) ->∃ ver0 es,L[t]?=some (.row ver0 es k)/\ver0<=ver/\(ver0=ver->es.length=es'.length/\γ'[t]?=γ[t]?)
 ptr:∀ (id:Nat) b,γ[id]?=some (.box b)->γ'[id]?=some (.box b)
theorem Cap.mv {R R':PH}{γ γ':List Gh}(hs:PH.sub R R')(hp:∀ (id:Nat) b,γ[id]?=some (.box b)->γ'[id]?=some (.box b)):∀ {x:Cap} {v:Value},x.rep R γ v->x.rep R' γ' v
 |.c _,_,hx=>bg.mono hs hx
 |.ptr id _,_,⟨b,h1,h2⟩=>⟨b,h1,hp id b h2⟩
theorem SV.mv {R R':PH}{γ γ':List Gh}{L L':List Ob}(h:Mv R R' γ γ' L L'):∀ {x:SV} {v:Value},x.rep R γ L v->x.rep R' γ' L' v
 |.c _,_,hx=>bg.mono h.sub hx
 |.emp,_,hx=>hx
 |.own es t,v,⟨h1,hlt,h2⟩=>by
  refine⟨bg.mono h.sub h1,am9 hlt h.len,fun n' k e=>?_⟩;obtain⟨n,g1,g2,g3⟩:=h.tok t n' k hlt e;obtain⟨h3,h5,h4⟩:=h2 n k g1;refine⟨m0,h5,fun e=>?_⟩;have:n=n':=m0
  rw[g3 this,<- this];exact h4 m0
 |.ptr id off,v,⟨b,h1,h2⟩=>⟨b,h1,h.ptr id b h2⟩
 |.sl id ver lo n,v,⟨h1,hlt,h2⟩=>by
  refine⟨h1,am9 hlt h.len,fun ver' es' k e=>?_⟩;obtain⟨ver0,es,g1,g2,g3⟩:=h.row id ver' es' k hlt e;obtain⟨h3,h4⟩:=h2 ver0 es k g1;refine⟨m0,fun e=>?_⟩;obtain⟨g4,g5⟩:=g3 m0;rw[g5,<- g4];exact h4 m0
 |.ep id ver i o,v,⟨h1,hlt,h2⟩=>by
  refine⟨h1,am9 hlt h.len,fun ver' es' k e=>?_⟩;obtain⟨ver0,es,g1,g2,g3⟩:=h.row id ver' es' k hlt e;obtain⟨h3,h4⟩:=h2 ver0 es k g1;refine⟨m0,fun e=>?_⟩;obtain⟨g4,g5⟩:=g3 m0;rw[g5,<- g4];exact h4 m0
 |.mp id,v,⟨b,h1,h2⟩=>⟨b,h1,h.ptr id b h2⟩
 |.clo f caps,v,⟨vs,h1,h2,h3⟩=>⟨vs,h1,h2,fun j u x hu hx=>Cap.mv h.sub h.ptr (h3 j u x hu hx)⟩
theorem PV.mono {R R':PH}(h:PH.sub R R'):∀ {p:PV} {v:Value},p.rep R v->p.rep R' v
 |.one _,_,hx=>bg.mono h hx
 |.agg _,_,⟨vs,h1,h2,h3⟩=>⟨vs,h1,h2,fun j u x hu hx=>bg.mono h (h3 j u x hu hx)⟩
theorem CV.mono {R R':PH}(h:PH.sub R R'):∀ {p:CV} {v:Value},p.rep R v->p.rep R' v
 |.val _,_,hx=>PV.mono h hx
 |.tup _,_,⟨vs,h1,h2,h3⟩=>⟨vs,h1,h2,fun j u x hu hx=>PV.mono h (h3 j u x hu hx)⟩
theorem AV.mv {R R':PH}{γ γ':List Gh}{L L':List Ob}(h:Mv R R' γ γ' L L'):∀ {x:AV} {v:Value},x.rep R γ L v->x.rep R' γ' L' v
 |.one _,_,hx=>SV.mv h hx
 |.agg _,_,⟨vs,h1,h2,h3⟩=>⟨vs,h1,h2,fun j u x hu hx=>SV.mv h (h3 j u x hu hx)⟩
 |.tup _,_,⟨vs,h1,h2,h3⟩=>⟨vs,h1,h2,fun j u x hu hx=>PV.mono h.sub (h3 j u x hu hx)⟩
 |.tupS _,_,⟨vs,h1,h2,h3⟩=>⟨vs,h1,h2,fun j u x hu hx=>SV.mv h (h3 j u x hu hx)⟩
 |.undef,_,hx=>hx
theorem Mv.refl {R:PH}{γ:List Gh}{L:List Ob}:Mv R R γ γ L L:=⟨PH.sub_refl _,amM _,fun _ n _ _ h=>⟨n,h,amM _,fun _=>rfl⟩,fun _ ver es _ _ h=>⟨ver,es,h,amM _,fun _=>⟨rfl,rfl⟩⟩,fun _ _ h=>h⟩
theorem Mv.of_sub {R R':PH}{γ:List Gh}{L:List Ob}(h:PH.sub R R'):Mv R R' γ γ L L:=⟨h,amM _,fun _ n _ _ h=>⟨n,h,amM _,fun _=>rfl⟩,fun _ ver es _ _ h=>⟨ver,es,h,amM _,fun _=>⟨rfl,rfl⟩⟩,fun _ _ h=>h⟩
theorem Mv.trans {R R' R'':PH}{γ γ' γ'':List Gh}{L L' L'':List Ob}(h:Mv R R' γ γ' L L')(g:Mv R' R'' γ' γ'' L' L''):Mv R R'' γ γ'' L L'' :=
 ⟨PH.sub_trans h.sub g.sub,Nat.le_trans h.len g.len,fun t n2 k hlt e=>by
  obtain⟨n1,b1,b2,b3⟩:=g.tok t n2 k (am9 hlt h.len) e;obtain⟨n,a1,a2,a3⟩:=h.tok t n1 k hlt b1;exact⟨n,a1,m0,fun e=>(b3 m0).trans (a3 m0)⟩,fun t v e2 k hlt e=>by
  obtain⟨v1,e1,b1,b2,b3⟩:=g.row t v e2 k (am9 hlt h.len) e;obtain⟨v0,e0,a1,a2,a3⟩:=h.row t v1 e1 k hlt b1;exact⟨v0,e0,a1,m0,fun e=>⟨(a3 m0).1.trans (b3 m0).1,(b3 m0).2.trans (a3 m0).2⟩⟩,fun id b e=>g.ptr id b (h.ptr id b e)⟩
theorem cg.mv {N:Nat}{R R':PH}{γ γ':List Gh}{L L':List Ob}{T:Tm}{a:Act}(h:cg N R γ L T a)(m:Mv R R' γ γ' L L'):cg N R' γ' L' T a :=
 ⟨h.size,h.defers,fun t x e=>let ⟨u,h1,h2⟩:=h.slot t x e;⟨u,h1,AV.mv m h2⟩⟩
theorem jM.mv {R R':PH}{γ γ':List Gh}{L L':List Ob}{w w':World}{x:Ob}{g:Gh}(h:jM R γ L w x g)(m:Mv R R' γ γ' L L')
  (hw:∀ b,g.block=some b->w'.heap[b]?=w.heap[b]?) (hR:∀ b o,g.block=some b->R b o=none->R' b o=none):jM R' γ' L' w' x g:=by
 match x,g,h with
 |.box cs,.box b,⟨⟨vs,E,h1,h2,h3⟩,h4⟩=>exact⟨⟨vs,E,(hw b rfl).trans h1,h2,fun j u x hu hx=>SV.mv m (h3 j u x hu hx)⟩,fun o=>hR b o rfl (h4 o)⟩
 |.spare n k,.arr b c,⟨⟨vs,E,h1,h2⟩,h3,h4,h5⟩=>exact⟨⟨vs,E,(hw b rfl).trans h1,h2⟩,h3,h4,fun o ho=>hR b o rfl (h5 o ho)⟩
 |.spare n k,.none,h=>exact h
 |.row ver es k,.arr b c,⟨⟨vs,E,h1,h2,h3⟩,h4,h5,h6,h7⟩=>exact⟨⟨vs,E,⟨(hw b rfl).trans h1.1,h1.2⟩,h2,fun i e j u x he hu hx=>SV.mv m (h3 i e j u x he hu hx)⟩,h4,h5,h6,fun o=>hR b o rfl (h7 o)⟩
 |.row ver es k,.none,h=>exact h
 |.map kvs,.box b,⟨⟨es,h1,h2,h3⟩,h4⟩=>exact⟨⟨es,(hw b rfl).trans h1,h2,fun j e p he hp=>⟨(h3 j e p he hp).1,bg.mono m.sub (h3 j e p he hp).2.1,AV.mv m (h3 j e p he hp).2.2⟩⟩,fun o=>hR b o rfl (h4 o)⟩
 |.dead,.none,h=>exact h
 |.dead,.box _,h=>exact h
theorem ph_ {p:Prop}(h:p:=by repeat' (first|exact t7|rfl|exact amG rfl|omega|apply And.intro)):p:=h
theorem fx_ {p:Prop}(hb:p)(h:p->False:=by first|decide|(intro h;simp at h;done)|(intro h;simp at h;omega)):False:=h hb
def en (P:Program)(t:TypeId):Option Nat:=(P.info? t).map (·.size)
def JA (P:Program)(t:TypeId):Option Bool :=
 match P.underlying t with
 |some (.struct _)=>some true
 |some (.array _ _)=>some true
 |some _=>some false
 |none=>none
def nu (P:Program)(t:TypeId):Option TypeId :=
 match P.underlying t with
 |some (.slice e)=>some e
 |_=>none
def vX (P:Program)(s:TypeId)(i:Nat):Option (Nat×TypeId) :=
 match P.underlying s with
 |some (.struct fs)=>(fs[i]?).map fun f=>(f.offset,f.type)
 |_=>none
def SV.ofVal:Value->Option SV
 |.bool b=>some (.c (.bool b))
 |.int k n=>some (.c (.int k n))
 |.string s=>some (.c (.str s))
 |.slice none 0 0=>some .emp
 |.pointer none=>some (.c (.nul .ptr))
 |.nilIface=>some (.c (.nul .iface))
 |.map none=>some (.c (.nul .map))
 |.nilFunc=>some (.c (.nul .func))
 |_=>none
def svs:List Value->Option (List SV)
 |[]=>some []
 |v::vs=>match SV.ofVal v,svs vs with
  |some x,some xs=>some (x::xs)
  |_,_=>none
def AV.ofVal:Value->Option AV
 |.agg vs=>(svs vs.toList).map .agg
 |v=>(SV.ofVal v).map .one
inductive Sc where
 |int (k:IntKind)
 |bool
 |str
 deriving DecidableEq
structure TI where
 size:Nat->Option Nat
 agg:Nat->Option Bool
 elem:Nat->Option Nat
 field:Nat->Nat->Option (Nat×Nat)
 zero:Nat->Option AV
 bytes:Nat->Option Nat
 kind:Nat->Option TypeDesc
 struct:Nat->Bool
 zok:Nat->Bool
 eqs:Nat->Option (List Sc)
 owns:Nat->Bool
 dyn:Bool:=false
 soft:Bool:=false
def look (T:Tm):Operand->Option AV
 |.tmp t=>T.lookup t
 |.const v=>AV.ofVal v
 |.global _=>none
 |.func f=>some (.one (.c (.fn f [])))
def ac2 (op:BinOp)(k:IntKind)(a b:Int):Option (AC×Prop) :=
 match op with
 |.add=>some (.int k (k.wrap (a+b)),True)
 |.sub=>some (.int k (k.wrap (a-b)),True)
 |.mul=>some (.int k (k.wrap (a*b)),True)
 |.quo=>some (.int k (k.wrap (a.tdiv b)),b≠0)
 |.rem=>some (.int k (a.tmod b),b≠0)
 |.eql=>some (.bool (decide (a=b)),True)
 |.neq=>some (.bool (decide (a≠b)),True)
 |.lss=>some (.bool (decide (a<b)),True)
 |.leq=>some (.bool (decide (a<=b)),True)
 |.gtr=>some (.bool (decide (b<a)),True)
 |.geq=>some (.bool (decide (b<=a)),True)
 |.and=>some (.int k (k.wrap (BitVec.ofInt k.bits a &&& BitVec.ofInt k.bits b).toNat),True)
 |.or=>some (.int k (k.wrap (BitVec.ofInt k.bits a |||BitVec.ofInt k.bits b).toNat),True)
 |_=>none
def aiE (op:BinOp)(k:IntKind)(a b:Int):Option (AC×Prop) :=
 match op with
 |.shl=>some (.int k (k.wrap (a*2 ^ (min b.toNat k.bits))),0<=b)
 |.shr=>some (.int k (a.fdiv (2 ^ (min b.toNat k.bits))),0<=b)
 |_=>none
def afK (op:BinOp)(a b:ByteArray):Option (AC×Prop) :=
 match op with
 |.add=>some (.str (a++b),a.size+b.size<=9223372036854775807)
 |.eql=>some (.bool (a.toList==b.toList),True)
 |.neq=>some (.bool (!(a.toList==b.toList)),True)
 |.lss=>some (.bool (Op.bytesLess a.toList b.toList),True)
 |.leq=>some (.bool (Op.bytesLess a.toList b.toList||a.toList==b.toList),True)
 |.gtr=>some (.bool (!(Op.bytesLess a.toList b.toList||a.toList==b.toList)),True)
 |.geq=>some (.bool (!Op.bytesLess a.toList b.toList),True)
 |_=>none
theorem EP {R:PH}{a b:Bool}(h:a=b):bg R (.bool a) (.bool b):=by rw[h];exact .bool b
theorem CL {P:Program}{w:World}{op:BinOp}{t:TypeId}{x y:Operand}{k:IntKind}{a b:Int}{r:AC}{φ:Prop}(h:ac2 op k a b=some (r,φ))(hφ:φ) :
  ∃ u,((do eqGuard op t x y (.int k a) (.int k b);binOp op t (.int k a) (.int k b):Sem Value)).run P w = .ok u w /\ ∀ R,bg R u r:=by
 cases op<;>first|(injection h with h;injection h with h1 h2;subst h1 h2)|(exact nomatch h)
 all_goals
  refine⟨_,by simp (config :={decide:=true}) [eqGuard,binOp,Op.intArith,Op.intDiv,Op.intCmp,Op.intBits,go_sem,hφ];rfl,fun R=>?_⟩
  first|constructor|(apply EP;simp[bne];rfl)
theorem F6 {P:Program}{w:World}{op:BinOp}{t:TypeId}{x y:Operand}{k k':IntKind}{a b:Int}{r:AC}{φ:Prop}(h:aiE op k a b=some (r,φ))(hφ:φ) :
  ∃ u,((do eqGuard op t x y (.int k a) (.int k' b);binOp op t (.int k a) (.int k' b):Sem Value)).run P w = .ok u w /\ ∀ R,bg R u r:=by
 cases op<;>first|(injection h with h;injection h with h1 h2;subst h1 h2)|(exact nomatch h)
 all_goals
  have hn:¬ b<0:=m0
  refine⟨_,by simp[eqGuard,binOp,Op.shift,go_sem,hn];rfl,fun R=>?_⟩;constructor
theorem B7 {P:Program}{w:World}{op:BinOp}{t:TypeId}{x y:Operand}{a b:ByteArray}{r:AC}{φ:Prop}(h:afK op a b=some (r,φ))(hφ:φ) :
  ∃ u,((do eqGuard op t x y (.string a) (.string b);binOp op t (.string a) (.string b):Sem Value)).run P w = .ok u w /\ ∀ R,bg R u r:=by
 cases op<;>first|(injection h with h;injection h with h1 h2;subst h1 h2)|(exact nomatch h)
 case add =>
  refine⟨.string (a++b),?_,fun R => .str _⟩;have:¬ (((a.size+b.size:Nat):Int)>IntKind.i64.max):=by
   show ¬ (((a.size+b.size:Nat):Int)>9223372036854775807);omega
  simp only[eqGuard,binOp,Op.stringOp,if_neg this];simp (config :={decide:=true}) [go_sem]
 all_goals
  refine⟨_,by simp (config :={decide:=true}) [eqGuard,binOp,Op.stringOp,go_sem];rfl,fun R=>?_⟩
  first|constructor|(apply EP;simp)
def l8:List Cap->Option (List AC)
 |[]=>some []
 |.c x::xs=>(l8 xs).map (x :: ·)
 |_=>none
def SV.norm:SV->Option AC
 |.c x=>some x
 |.emp=>some (.lst [])
 |.own es _=>some (.lst es)
 |.clo f caps=>(l8 caps).map (.fn f)
 |_=>none
def fE:List SV->Option (List AC)
 |[]=>some []
 |x::xs=>match x.norm,fE xs with
  |some y,some ys=>some (y::ys)
  |_,_=>none
def AV.norm:AV->Option PV
 |.one x=>x.norm.map .one
 |.agg xs=>(fE xs).map .agg
 |_=>none
def AV.cells:AV->Option (List SV)
 |.one x=>some [x]
 |.agg xs=>some xs
 |_=>none
def PV.av:PV->AV
 |.one x => .one (.c x)
 |.agg xs => .agg (xs.map .c)
def CV.av:CV->AV
 |.val p=>p.av
 |.tup ps => .tup ps
section
variable {P:Program} {B:Nat->Prop} {R:PH} {γ:List Gh} {L:List Ob} {w:World}
theorem cO (R:PH)(a:Option Addr)(c:Nat):bg R (.slice a 0 c) (.lst []) :=
 .lst a 0 c [] 0 (fun _=>Go.undef) 0 0 rfl (amR _) (fun _ h=>nomatch h) (fun h=>absurd h m0) (fun j hj=>absurd hj m0) (fun i e j x h=>by simp at h)
theorem uY:∀ {xs:List Cap} {ys:List AC},l8 xs=some ys->xs.length=ys.length
 |[],ys,h=>by injection h with h;subst h;rfl
 |.c x::xs,ys,h=>by
  cases hq:l8 xs with
  |none=>simp[l8,hq]at h
  |some zs=>simp[l8,hq]at h;subst h;simp[uY hq]
 |.ptr _ _::xs,ys,h=>by cases h
theorem vI:∀ {xs:List Cap} {ys:List AC},l8 xs=some ys ->∀ (j:Nat) y,ys[j]?=some y->xs[j]?=some (.c y)
 |[],ys,h,j,y,hy=>by injection h with h;subst h;simp at hy
 |.c x::xs,ys,h,j,y,hy=>by
  cases hq:l8 xs with
  |none=>simp[l8,hq]at h
  |some zs =>
   simp[l8,hq]at h;subst h
   cases j with
   |zero=>simpa using hy
   |succ j=>simpa using vI hq j y (by simpa using hy)
 |.ptr _ _::xs,ys,h,j,y,hy=>by cases h
theorem SV.norm_rep {x:SV}{v:Value}{y:AC}(h:x.rep R γ L v)(hy:x.norm=some y):bg R v y:=by
 cases x with
 |c z=>injection hy with hy;subst hy;exact h
 |emp=>injection hy with hy;subst hy;obtain⟨a,rfl⟩:=h;exact cO _ _ _
 |own es t=>injection hy with hy;subst hy;exact h.1
 |ptr id off=>cases hy
 |sl id ver lo n=>cases hy
 |ep id ver i o=>cases hy
 |mp id=>cases hy
 |clo f caps =>
  cases hq:l8 caps with
  |none=>simp[SV.norm,hq]at hy
  |some cs =>
   simp[SV.norm,hq]at hy;subst hy;obtain⟨vs,rfl,h2,h3⟩:=h;refine .fn f vs cs (by rw[h2,uY hq]) fun j v x hv hx=>?_
   exact h3 j v _ hv (vI hq j x hx)
theorem dF:∀ {xs:List SV} {ys:List AC},fE xs=some ys->ys.length=xs.length
 |[],ys,h=>by injection h with h;subst h;rfl
 |x::xs,ys,h=>by
  unfold fE at h;split at h
  ·rename_i y zs h1 h2
   injection h with h;subst h
   simp[dF h2]
  ·cases h
theorem hY:∀ {xs:List SV} {ys:List AC},fE xs=some ys ->∀ (j:Nat) x y,xs[j]?=some x->ys[j]?=some y->x.norm=some y
 |[],ys,h,j,x,y,hx,hy=>by simp at hx
 |x0::xs,ys,h,j,x,y,hx,hy=>by
  unfold fE at h;split at h
  ·rename_i y0 zs h1 h2
   injection h with h;subst h
   cases j with
   |zero=>simp at hx hy;subst hx hy;exact h1
   |succ j=>exact hY h2 j x y (by simpa using hx) (by simpa using hy)
  ·cases h
theorem AV.norm_rep {x:AV}{v:Value}{y:PV}(h:x.rep R γ L v)(hy:x.norm=some y):y.rep R v:=by
 cases x with
 |one x =>
  cases hn:x.norm with
  |none=>simp[AV.norm,hn]at hy
  |some z =>
   simp[AV.norm,hn]at hy;subst hy;exact SV.norm_rep h hn
 |agg xs =>
  cases hn:fE xs with
  |none=>simp[AV.norm,hn]at hy
  |some zs =>
   simp[AV.norm,hn]at hy;subst hy;obtain⟨vs,h1,h2,h3⟩:=h;refine⟨vs,h1,by rw[h2,dF hn],fun j u y hu hy=>?_⟩;have hj:j<xs.length:=by rw[<- h2];exact(anf.1 hu).1
   exact SV.norm_rep (h3 j u _ hu (amF hj)) (hY hn j _ _ (amF hj) hy)
 |tup ps=>cases hy
 |tupS xs=>cases hy
 |undef=>cases hy
theorem PV.av_rep {p:PV}{v:Value}(h:p.rep R v):p.av.rep R γ L v:=by
 cases p with
 |one x=>exact h
 |agg xs =>
  obtain⟨vs,h1,h2,h3⟩:=h;refine⟨vs,h1,by simp[h2],fun j u x hu hx=>?_⟩;rw[amT]at hx
  cases hx':xs[j]? with
  |none=>simp[hx']at hx
  |some y=>simp[hx']at hx;subst hx;exact h3 j u y hu hx'
theorem CV.av_rep {p:CV}{v:Value}(h:p.rep R v):p.av.rep R γ L v:=by
 cases p with
 |val p=>exact PV.av_rep h
 |tup ps=>exact h
theorem bg.one {v:Value}{x:AC}(h:bg R v x):v.cells=#[v]/\v.oneCell'=true:=by
 cases h<;>first|exact⟨rfl,rfl⟩|(rename_i k h;subst h;cases k<;>exact⟨rfl,rfl⟩)
theorem SV.rep_one {v:Value}{x:SV}(h:x.rep R γ L v):v.cells=#[v]/\v.oneCell'=true:=by
 cases x with
 |c x=>exact bg.one h
 |emp=>obtain⟨a,rfl⟩:=h;exact⟨rfl,rfl⟩
 |own es t=>exact bg.one h.1
 |ptr id off=>obtain⟨b,rfl,_⟩:=h;exact⟨rfl,rfl⟩
 |sl id ver lo n=>exact h.1
 |ep id ver i o=>exact h.1
 |mp id=>obtain⟨b,rfl,_⟩:=h;exact⟨rfl,rfl⟩
 |clo f caps=>obtain⟨vs,rfl,_⟩:=h;exact⟨rfl,rfl⟩
theorem SV.ofVal_rep {v:Value}{x:SV}(h:SV.ofVal v=some x):x.rep R γ L v:=by
 unfold SV.ofVal at h;split at h<;>first|(cases h;done)|(injection h with h;subst h)
 ·exact .bool _
 ·exact .int _ _
 ·exact .str _
 ·exact⟨_,rfl⟩
 ·exact .nul _ _ rfl
 ·exact .nul _ _ rfl
 ·exact .nul _ _ rfl
 ·exact .nul _ _ rfl
theorem NY:∀ {vs:List Value} {xs:List SV},svs vs=some xs->vs.length=xs.length
 |[],xs,h=>by injection h with h;subst h;rfl
 |v::vs,xs,h=>by
  unfold svs at h;split at h
  ·rename_i h1 h2
   injection h with h;subst h
   simp[NY h2]
  ·cases h
theorem aax:∀ {vs:List Value} {xs:List SV},svs vs=some xs ->∀ (j:Nat) u x,vs[j]?=some u->xs[j]?=some x->x.rep R γ L u
 |[],xs,h,j,u,x,hu,hx=>by simp at hu
 |v::vs,xs,h,j,u,x,hu,hx=>by
  unfold svs at h;split at h
  ·rename_i h1 h2
   injection h with h;subst h
   cases j with
   |zero=>simp at hu hx;subst hu hx;exact SV.ofVal_rep h1
   |succ j=>exact aax h2 j u x (by simpa using hu) (by simpa using hx)
  ·cases h
theorem AV.ofVal_rep {v:Value}{x:AV}(h:AV.ofVal v=some x):x.rep R γ L v:=by
 unfold AV.ofVal at h;split at h
 ·rename_i vs
  cases hs:svs vs.toList with
  |none=>simp[hs]at h
  |some xs =>
   simp[hs]at h;subst h;exact⟨vs,rfl,by rw[<- NY hs];simp,fun j u x hu hx=>aax hs j u x (by simpa using hu) hx⟩
 ·rename_i hv
  cases hs:SV.ofVal v with
  |none=>simp[hs]at h
  |some y=>simp[hs]at h;subst h;exact SV.ofVal_rep hs
theorem fK {N:Nat}{T:Tm}{a:Act}(hT:cg N R γ L T a){x:Operand}{v:AV}(h:look T x=some v):v.rep R γ L (a.eval x):=by
 cases x with
 |tmp t =>
  obtain⟨u,h1,h2⟩:=hT.slot t v h;have:a.eval (.tmp t)=u:=by simp[Act.eval,Array.getD_eq_getD_getElem?,h1]
  rw[this];exact h2
 |const c=>exact AV.ofVal_rep h
 |global g=>cases h
 |func f =>
  injection h with h;subst h
  exact .fn f #[] [] rfl (fun j v x hv=>by simp at hv)
end
def Ci:AC->Option Value
 |.bool b=>some (.bool b)
 |.int k n=>some (.int k n)
 |.str s=>some (.string s)
 |_=>none
def eY:List SV->Option (List Value)
 |[]=>some []
 |.c x::xs=>match Ci x,eY xs with
  |some v,some vs=>some (v::vs)
  |_,_=>none
 |_::_=>none
def bT:List SV->List SV->Bool
 |[],[]=>true
 |.c (.bool a)::xs,.c (.bool b)::ys=>(a==b)&&bT xs ys
 |.c (.int _ a)::xs,.c (.int _ b)::ys=>decide (a=b)&&bT xs ys
 |.c (.str a)::xs,.c (.str b)::ys=>(a.toList==b.toList)&&bT xs ys
 |_,_=>false
def K9 (P:Program)(t:TypeId)(xs ys:List SV):Prop :=
 ∀ vs us,eY xs=some vs->eY ys=some us ->∀ w,(Op.equal t (.agg vs.toArray) (.agg us.toArray)).run P w = .ok (bT xs ys) w
def dS:List Sc->List SV->Bool
 |[],[]=>true
 |.int k::sh,.c (.int k' _)::xs=>decide (k=k')&&dS sh xs
 |.bool::sh,.c (.bool _)::xs=>dS sh xs
 |.str::sh,.c (.str _)::xs=>dS sh xs
 |_,_=>false
theorem iJ:∀ {sh:List Sc} {xs:List SV},dS sh xs=true->(eY xs).isSome
 |[],[],_=>rfl
 |.int k::sh,.c (.int k' n)::xs,h=>by
  simp only[dS,amO]at h;obtain⟨vs,hv⟩:=ana.1 (iJ h.2);simp[eY,Ci,hv]
 |.bool::sh,.c (.bool b)::xs,h=>by
  obtain⟨vs,hv⟩:=ana.1 (iJ (sh:=sh) (xs:=xs) h);simp[eY,Ci,hv]
 |.str::sh,.c (.str b)::xs,h=>by
  obtain⟨vs,hv⟩:=ana.1 (iJ (sh:=sh) (xs:=xs) h);simp[eY,Ci,hv]
def xy (P:Program)(t:TypeId):Bool :=
 match P.underlying t with
 |some (.struct fs)=>fs.all fun f=>(en P f.type).isSome
 |_=>false
def zeroOf (P:Program)(t:TypeId):Option AV:=(P.info? t).bind fun i=>i.zero.bind AV.ofVal
def sp (ti:TI)(op:BinOp)(t:TypeId):AV->AV->Option (AV×Prop)
 |.one (.c (.int k a)),.one (.c (.int k' b))=>match aiE op k a b with
  |some (r,φ)=>some (.one (.c r),φ)
  |none=>match decide (k=k'),ac2 op k a b with
   |true,some (r,φ)=>some (.one (.c r),φ)
   |_,_=>none
 |.one (.c (.str a)),.one (.c (.str b))=>match afK op a b with
  |some (r,φ)=>some (.one (.c r),φ)
  |none=>none
 |.one (.c (.bool a)),.one (.c (.bool b))=>match op with
  |.eql=>some (.one (.c (.bool (a==b))),ti.kind t=some .bool)
  |.neq=>some (.one (.c (.bool (!(a==b)))),ti.kind t=some .bool)
  |_=>none
 |.agg xs,.agg ys=>match ti.eqs t with
  |some sh=>match op with
   |.eql=>some (.one (.c (.bool (bT xs ys))),dS sh xs=true/\dS sh ys=true)
   |.neq=>some (.one (.c (.bool (!bT xs ys))),dS sh xs=true/\dS sh ys=true)
   |_=>none
  |none=>none
 |_,_=>none
def eM (ti:TI)(L:List Ob)(t:TypeId):AV->Option (AV×Prop)
 |.one (.c (.ref cs))=>match ti.agg t,ti.size t with
  |some false,_=>match cs with
   |x::_=>some (.one (.c x),True)
   |[]=>none
  |some true,some n=>some (.agg ((cs.take n).map .c),n<=cs.length)
  |_,_=>none
 |.one (.ptr id off)=>match L[id]? with
  |some (.box cs)=>match ti.agg t,ti.size t with
   |some false,_=>match cs[off]? with
    |some x=>some (.one x,True)
    |none=>none
   |some true,some n=>some (.agg ((cs.drop off).take n),off+n<=cs.length)
   |_,_=>none
  |_=>none
 |.one (.ep id ver i o)=>match L[id]? with
  |some (.row ver' es _)=>match es[i]?,ti.agg t,ti.size t with
   |some e,some false,_=>match e[o]? with
    |some x=>some (.one x,ver=ver')
    |none=>none
   |some e,some true,some n=>some (.agg ((e.drop o).take n),ver=ver'/\o+n<=e.length)
   |_,_,_=>none
  |_=>none
 |_=>none
def fi (ti:TI)(s:TypeId)(i0:Nat):AV->Option (AV×Prop)
 |.one (.c (.ref cs))=>match ti.field s i0 with
  |some (o,t)=>match ti.size t with
   |some (_+1)=>some (.one (.c (.ref (cs.drop o))),o<=cs.length)
   |_=>none
  |none=>none
 |.one (.ptr id off)=>match ti.field s i0 with
  |some (o,t)=>match ti.size t with
   |some (_+1)=>some (.one (.ptr id (off+o)),True)
   |_=>none
  |none=>none
 |_=>none
def pF (ti:TI)(s:TypeId)(i:Nat):AV->Option (AV×Prop)
 |.agg xs=>match ti.field s i with
  |some (o,t)=>match ti.agg t,ti.size t with
   |some false,_=>match xs[o]? with
    |some x=>some (.one x,True)
    |none=>none
   |some true,some n=>some (.agg ((xs.drop o).take n),o+n<=xs.length)
   |_,_=>none
  |none=>none
 |_=>none
def df:AV->Option (List (List AC))
 |.one (.c (.lst es))=>some es
 |.one (.own es _)=>some es
 |.one .emp=>some []
 |_=>none
def dR (ti:TI)(L:List Ob)(s:TypeId)(i0 id ver i off:Nat):Option (AV×Prop) :=
 match L[id]?,ti.field s i0 with
 |some (.row ver' _ _),some (o,t)=>match ti.size t with
  |some (_+1)=>some (.one (.ep id ver i (off+o)),ver=ver')
  |_=>none
 |_,_=>none
def gl (ti:TI)(L:List Ob)(t:TypeId)(id ver n:Nat):Option (AV×Prop) :=
 match L[id]? with
 |some (.row ver' _ _)=>some (.one (.c (.int .i64 n)),ver=ver'/\(ti.elem t).isSome)
 |_=>none
def dP (ti:TI)(L:List Ob)(t:TypeId)(id ver lo n:Nat)(ix:AV):Option (AV×Prop) :=
 match L[id]?,ix,(ti.elem t).bind ti.size with
 |some (.row ver' _ k'),.one (.c (.int _ i)),some k=>some (.one (.ep id ver (lo+i.toNat) 0),(ver=ver'/\k=k')/\0<=i/\i<n)
 |_,_,_=>none
def d5 (ti:TI)(t:TypeId)(x ix:AV):Option (AV×Prop) :=
 match df x,ix,(ti.elem t).bind ti.size with
 |some es,.one (.c (.int _ i)),some k=>match es[i.toNat]? with
  |some e=>some (.one (.c (.ref e)),0<=i/\e.length=k)
  |none=>none
 |_,_,_=>none
def mY (ti:TI)(t:TypeId)(x ix:AV):Option (AV×Prop) :=
 match x,ix with
 |.one (.c (.str s)),.one (.c (.int _ i))=>match s[i.toNat]? with
  |some b=>some (.one (.c (.int .u8 b.toNat)),0<=i/\ti.kind t=some .string)
  |none=>none
 |.agg zs,.one (.c (.int _ i))=>match ti.kind t with
  |some (.array n e)=>match ti.agg e,ti.size e with
   |some false,some k=>match zs[i.toNat*k]? with
    |some x=>some (.one x,0<=i/\i<(n:Int))
    |none=>none
   |some true,some k=>some (.agg ((zs.drop (i.toNat*k)).take k),(0<=i/\i<(n:Int))/\i.toNat*k+k<=zs.length)
   |_,_=>none
  |_=>none
 |_,_=>none
def iZ (d:Nat):Option AV->Option Int
 |none=>some d
 |some (.one (.c (.int _ i)))=>some i
 |_=>none
def dJ (ti:TI)(L:List Ob)(t:TypeId)(x:AV)(lo hi:Option AV):Option (AV×Prop) :=
 match x with
 |.one (.c (.str s))=>match iZ 0 lo,iZ s.size hi with
  |some l,some h=>some (.one (.c (.str (s.extract l.toNat h.toNat))),0<=l/\l<=h/\h<=s.size/\ti.kind t=some .string)
  |_,_=>none
 |.one (.sl id ver lo0 n)=>match L[id]?,(ti.elem t).bind ti.size with
  |some (.row ver' _ k'),some k=>match iZ 0 lo,iZ n hi with
   |some l,some h=>some (.one (.sl id ver (lo0+l.toNat) (h.toNat-l.toNat)),ver=ver'/\k=k'/\0<=l/\l<=h/\h<=n)
   |_,_=>none
  |_,_=>none
 |_=>match df x,(ti.elem t).bind ti.size with
  |some es,some k=>match iZ 0 lo,iZ es.length hi with
   |some l,some h=>some (.one (.c (.lst ((es.take h.toNat).drop l.toNat))),0<=l/\l<=h/\h<=es.length /\ ∀ e∈es,e.length=k)
   |_,_=>none
  |_,_=>none
def Bq (ti:TI)(t:TypeId)(x:AV):Option (AV×Prop) :=
 match x with
 |.one (.c (.str s))=>some (.one (.c (.int .i64 s.size)),ti.kind t=some .string)
 |_=>match df x with
  |some es=>some (.one (.c (.int .i64 es.length)),(ti.elem t).isSome)
  |none=>none
def rz (mx:Bool):AV->AV->Option (AV×Prop)
 |.one (.c (.int k a)),.one (.c (.int _ b))=>some (.one (.c (.int k (if mx then(if b>a then b else a)else(if b<a then b else a)))),True)
 |_,_=>none
def splice (zs:List SV)(o:Nat)(xs:List SV):List SV:=zs.take o++xs++zs.drop (o+xs.length)
def vK (ti:TI)(t:TypeId)(i:Nat):Option (Nat×TypeId) :=
 match ti.kind t with
 |some (.array _ e)=>(ti.size e).map fun k=>(i*k,e)
 |_=>ti.field t i
def bok (ti:TI)(t:TypeId):Bool :=
 match ti.kind t with
 |some (.array _ e)=>(ti.size e).isSome
 |_=>ti.struct t
def kq (ti:TI)(t:TypeId):List SV->List (Nat×Option AV)->Option (List SV×Prop)
 |zs,[]=>some (zs,True)
 |zs,(i,v)::ps=>match v.bind AV.cells,vK ti t i with
  |some xs,some (o,ty)=>match kq ti t (splice zs o xs) ps with
   |some (r,φ)=>some (r,(ti.size ty=some xs.length/\o+xs.length<=zs.length)/\φ)
   |none=>none
  |_,_=>none
def BD:List (Option AV)->Option (List AC)
 |[]=>some []
 |some (.one y)::xs=>match y.norm,BD xs with
  |some z,some zs=>some (z::zs)
  |_,_=>none
 |_=>none
def pop (ti:TI)(ρ:Operand->Option AV)(L:List Ob):Op->Option (AV×Prop)
 |.move x=>match ρ x with
  |some v=>some (v,True)
  |none=>none
 |.assign x=>match ρ x with
  |some v=>some (v,True)
  |none=>none
 |.pick c a b=>match ρ c,ρ a,ρ b with
  |some (.one (.c (.bool t))),some va,some vb=>some (if t=true then va else vb,True)
  |_,_,_=>none
 |.binOp op t x y _=>match ρ x,ρ y with
  |some va,some vb=>sp ti op t va vb
  |_,_=>none
 |.unOp op _ x=>match op,ρ x with
  |.not,some (.one (.c (.bool b)))=>some (.one (.c (.bool !b)),True)
  |.neg,some (.one (.c (.int k n)))=>some (.one (.c (.int k (k.wrap (0-n)))),True)
  |_,_=>none
 |.convert src dst x=>match ρ x with
  |some (.one (.c (.int _ n)))=>match ti.kind dst with
   |some (.int k)=>some (.one (.c (.int k (k.wrap n))),(ti.kind src).isSome)
   |_=>none
  |some (.one (.c (.str s)))=>some (.one (.c (.str s)),ti.kind dst=some .string/\(ti.kind src).isSome)
  |_=>none
 |.load t p=>(ρ p).bind (eM ti L t)
 |.fieldAddr s x i=>match ρ x with
  |some (.one (.ep id ver i0 off))=>dR ti L s i id ver i0 off
  |some vx=>fi ti s i vx
  |none=>none
 |.field s x i=>(ρ x).bind (pF ti s i)
 |.indexAddr t x ix=>match ρ x,ρ ix with
  |some (.one (.sl id ver lo n)),some vi=>dP ti L t id ver lo n vi
  |some vx,some vi=>d5 ti t vx vi
  |_,_=>none
 |.index t x ix=>match ρ x,ρ ix with
  |some vx,some vi=>mY ti t vx vi
  |_,_=>none
 |.extract t i=>match ρ t with
  |some (.tup ps)=>match ps[i]? with
   |some p=>some (p.av,True)
   |none=>none
  |some (.tupS xs)=>match xs[i]? with
   |some x=>some (.one x,True)
   |none=>none
  |_=>none
 |.nilCheck x=>match ρ x with
  |some (.one (.c (.ref cs)))=>some (.one (.c (.ref cs)),True)
  |some (.one (.ptr id off))=>some (.one (.ptr id off),True)
  |some (.one (.ep id ver i o))=>match L[id]? with
   |some (.row ver' _ _)=>some (.one (.ep id ver i o),ver=ver')
   |_=>none
  |some (.one (.clo f cs))=>some (.one (.clo f cs),True)
  |some (.one (.c (.fn f cs)))=>some (.one (.c (.fn f cs)),True)
  |_=>none
 |.slice t x lo hi none=>match ρ x,lo.map ρ,hi.map ρ with
  |some v,none,none=>dJ ti L t v none none
  |some v,some (some l),none=>dJ ti L t v (some l) none
  |some v,none,some (some h)=>dJ ti L t v none (some h)
  |some v,some (some l),some (some h)=>dJ ti L t v (some l) (some h)
  |_,_,_=>none
 |.call { callee := .builtin .len,args,argTypes } =>match args.toList,argTypes.toList with
  |[x],[t]=>match ρ x with
   |some (.one (.sl id ver _ n))=>gl ti L t id ver n
   |some vx=>Bq ti t vx
   |none=>none
  |_,_=>none
 |.call { callee := .builtin .min,args,.. } =>match args.toList.map ρ with
  |[some x,some y]=>rz false x y
  |_=>none
 |.call { callee := .builtin .max,args,.. } =>match args.toList.map ρ with
  |[some x,some y]=>rz true x y
  |_=>none
 |.build t parts=>match ti.zero t with
  |some (.agg zs)=>match kq ti t zs (parts.toList.map fun p=>(p.1,ρ p.2))with
   |some (r,φ)=>some (.agg r,bok ti t=true/\φ)
   |none=>none
  |_=>none
 |.makeFunc (.func f) first captured=>match first.toList,BD (captured.toList.map ρ)with
  |[],some cs=>some (.one (.c (.fn f cs)),True)
  |_,_=>none
 |_=>none
def aab (P:Program)(t:TypeId)(k:Nat):Prop :=∃ i z,P.info? t=some i/\i.zero=some z/\i.size=k/\z.cells.size=k
def ko (P:Program)(t:TypeId):Option Nat:=(P.info? t).map (·.bytes)
structure TIok (P:Program)(ti:TI):Prop where
 size:∀ t n,ti.size t=some n->en P t=some n
 agg:∀ t b,ti.agg t=some b->JA P t=some b
 elem:∀ t e,ti.elem t=some e->nu P t=some e
 field:∀ s i r,ti.field s i=some r->vX P s i=some r
 zero:∀ t v,ti.zero t=some v->zeroOf P t=some v
 bytes:∀ t n,ti.bytes t=some n->ko P t=some n
 kind:∀ t d,ti.kind t=some d->P.underlying t=some d
 struct:∀ t,ti.struct t=true->xy P t=true
 zok:∀ t,ti.zok t=true ->∀ k,en P t=some k->aab P t k
 eqs:∀ t sh,ti.eqs t=some sh->P.eqGuardType P.depth t=false /\ ∀ xs ys,dS sh xs=true->dS sh ys=true->K9 P t xs ys
theorem TIok.es {P:Program}{ti:TI}(h:TIok P ti){t n:Nat}(e:(ti.elem t).bind ti.size=some n):(nu P t).bind (en P)=some n:=by
 cases he:ti.elem t with
 |none=>simp[he]at e
 |some E=>simp only[he,amv]at e;rw[h.elem _ _ he];exact h.size _ _ e
def qy (P:Program)(B:Nat->Prop)(R:PH)(γ:List Gh)(L:List Ob)(w:World)(s:Sem Next)(v:AV):Prop :=
 ∃ u w' R',s.run P w = .ok (.value u) w'/\Inv B R' γ L w'/\Ext B R R' w w'/\v.rep R' γ L u
section
variable {P:Program} {B:Nat->Prop} {R:PH} {γ:List Gh} {L:List Ob} {w:World}
theorem qy.quiet (hi:Inv B R γ L w){s:Sem Value}{v:AV}{u:Value}(h:s.run P w = .ok u w)(hr:v.rep R γ L u):qy P B R γ L w (do pure (.value (<- s))) v :=
 ⟨u,w,R,by simp[h],hi,Ext.refl _ _ _,hr⟩
theorem zH:∀ {xs:List SV} {us:List Value},(eY xs).isSome->us.length=xs.length->(∀ (j:Nat) u x,us[j]?=some u->xs[j]?=some x->x.rep R γ L u)->eY xs=some us
 |[],us,_,hl,_=>by cases us with|nil=>rfl|cons=>simp at hl
 |x::xs,us,h,hl,hr=>by
  cases us with
  |nil=>simp at hl
  |cons u us =>
   have h0:=hr 0 u x rfl rfl
   cases x with
   |c y =>
    unfold eY at h ⊢
    cases hs:eY xs with
    |none=>rw[hs]at h;cases y<;>simp[Ci]at h
    |some vs =>
     have ih:=zH (xs:=xs) (us:=us) (by simp[hs]) (by simpa using hl) fun j u x hu hx=>hr (j+1) u x (by simpa using hu) (by simpa using hx)
     rw[hs]at ih;injection ih with ih
     subst ih
     cases y with
     |bool b=>cases h0;rfl
     |int k n=>cases h0;rfl
     |str s=>cases h0;rfl
     |lst es=>rw[hs]at h;simp[Ci]at h
     |ref cs=>rw[hs]at h;simp[Ci]at h
     |fn f cs=>rw[hs]at h;simp[Ci]at h
     |nul k=>rw[hs]at h;simp[Ci]at h
   |emp=>simp[eY]at h
   |own es t=>simp[eY]at h
   |ptr id off=>simp[eY]at h
   |sl id ver lo n=>simp[eY]at h
   |ep id ver i o=>simp[eY]at h
   |mp id=>simp[eY]at h
   |clo f caps=>simp[eY]at h
theorem run_equal_bool {t:TypeId}{a b:Bool}(h:P.underlying t=some .bool):(Op.equal t (.bool a) (.bool b)).run P w = .ok (a==b) w:=by
 have e:Op.maxDepth=9999+1:=rfl;unfold Op.equal;rw[e,Op.equalIn];simp[underlying,program,Sem.run,h]
theorem FM {ti:TI}(hti:TIok P ti)(hi:Inv B R γ L w){op:BinOp}{t:TypeId}{x y:Operand}{va vb v:AV}{φ:Prop}{u1 u2:Value}(h1:va.rep R γ L u1)(h2:vb.rep R γ L u2)
  (h:sp ti op t va vb=some (v,φ)) (hφ:φ):∃ u,((do eqGuard op t x y u1 u2;binOp op t u1 u2:Sem Value)).run P w = .ok u w/\v.rep R γ L u:=by
 unfold sp at h;split at h
 ·rename_i k a k' b
  cases h1;cases h2;split at h
  ·rename_i r ψ hop
   injection h with h;injection h with e1 e2
   subst e1 e2;obtain⟨u,hu1,hu2⟩:=F6 (P:=P) (w:=w) (t:=t) (x:=x) (y:=y) hop hφ;exact⟨u,hu1,hu2 R⟩
  ·split at h
   ·rename_i r ψ hkk hop
    injection h with h;injection h with e1 e2
    subst e1 e2;have hkk:=amZ hkk;subst hkk;obtain⟨u,hu1,hu2⟩:=CL (P:=P) (w:=w) (t:=t) (x:=x) (y:=y) hop hφ;exact⟨u,hu1,hu2 R⟩
   ·cases h
 ·rename_i a b
  cases h1;cases h2;split at h
  ·rename_i r ψ hop
   injection h with h;injection h with e1 e2
   subst e1 e2;obtain⟨u,hu1,hu2⟩:=B7 (P:=P) (w:=w) (t:=t) (x:=x) (y:=y) hop hφ;exact⟨u,hu1,hu2 R⟩
  ·cases h
 ·rename_i a b
  cases h1;cases h2;split at h<;>first|(injection h with h;injection h with e1 e2;subst e1 e2)|(cases h;done)
  ·exact⟨.bool (a==b),by simp[eqGuard,binOp,run_equal_bool (hti.kind _ _ hφ)],.bool _⟩
  ·exact⟨.bool (!(a==b)),by simp[eqGuard,binOp,run_equal_bool (hti.kind _ _ hφ)],.bool _⟩
 ·rename_i xs ys
  obtain⟨vs,rfl,h1s,h1r⟩:=h1;obtain⟨us,rfl,h2s,h2r⟩:=h2;split at h
  case h_2=>cases h
  rename_i sh hsh;split at h<;>first|(injection h with h;injection h with e1 e2;subst e1 e2)|(cases h;done)
  all_goals
   obtain⟨hf1,hf2⟩:=hφ;obtain⟨hg,hEE⟩:=hti.eqs _ _ hsh;have hE:=hEE xs ys hf1 hf2;have hx:=iJ hf1;have hy:=iJ hf2;have ex:=zH (us:=vs.toList) hx (by simpa using h1s) fun j u x hu=>h1r j u x (by simpa using hu)
   have ey:=zH (us:=us.toList) hy (by simpa using h2s) fun j u x hu=>h2r j u x (by simpa using hu)
   have hrun:=hE _ _ ex ey w;simp only[Array.toArray_toList]at hrun
  ·exact⟨.bool (bT xs ys),by simp[eqGuard,binOp,go_sem,hg,hrun],.bool _⟩
  ·exact⟨.bool (!bT xs ys),by simp[eqGuard,binOp,go_sem,hg,hrun],.bool _⟩
 ·cases h
end
section
variable {P:Program} {ti:TI} {B:Nat->Prop} {R:PH} {γ:List Gh} {L:List Ob} {w:World}
theorem cob_ {b o:Nat}{vs:Array Value}{E:TypeId}{f:Nat×Nat}(h:w.heap[b]?=some (.cells vs E f)):w.cell? ⟨b,o,none⟩=vs[o]?:=by
 simp[World.cell?,h]
theorem mg {t:TypeId}{c:Bool}(h:JA P t=some c):(isAgg t).run P w = .ok c w:=by
 unfold JA at h;split at h<;>first|(cases h;done)|(injection h with h;subst h)
 ·rename_i e;simp[isAgg,underlying,program,Sem.run,e]
 ·rename_i e;simp[isAgg,underlying,program,Sem.run,e]
 ·rename_i d h1 h2 e
  simp[isAgg,underlying,program,Sem.run,e]
theorem Iw {t:TypeId}(h:JA P t=some true):∃ d,P.underlying t=some d/\d.isRow=true:=by
 unfold JA at h;split at h<;>first|(cases h;done)|skip
 ·rename_i e;exact⟨_,e,rfl⟩
 ·rename_i e;exact⟨_,e,rfl⟩
theorem kF {t:TypeId}{b o:Nat}{u:Value}(h:JA P t=some false)(hc:w.cell? ⟨b,o,none⟩=some u):(Instr.loadAt t (.pointer (some ⟨b,o,none⟩))).run P w = .ok u w:=by
 simp[Instr.loadAt,Instr.sureAddr,loadVar,mg h,run_load,hc]
theorem j0 {t:TypeId}{b o n:Nat}{cs:List Value}(h:JA P t=some true)(hn:en P t=some n)(hl:cs.length=n)(hc:∀ (j:Nat) u,cs[j]?=some u->w.cell? ⟨b,o+j,none⟩=some u) :
  (Instr.loadAt t (.pointer (some ⟨b,o,none⟩))).run P w = .ok (.agg cs.toArray) w:=by
 obtain⟨d,hd,hr⟩:=Iw h;have:=run_loadVar_mid (P:=P) w b o t cs d hc hd hr (by rw[hl];exact hn);simp[Instr.loadAt,Instr.sureAddr,this]
theorem lM (hti:TIok P ti)(hi:Inv B R γ L w){t:TypeId}{va v:AV}{φ:Prop}{u1:Value}(h1:va.rep R γ L u1)(h:eM ti L t va=some (v,φ))(hφ:φ) :
  ∃ u,(Instr.loadAt t u1).run P w = .ok u w/\v.rep R γ L u:=by
 unfold eM at h;split at h
 ·rename_i cs
  cases h1 with
  |ref b o cs cv hr he =>
   split at h
   ·rename_i ht
    split at h
    ·rename_i x rest
     injection h with h;injection h with e1 e2;subst e1 e2
     exact⟨cv 0,kF (hti.agg _ _ ht) (by have:=hr 0 m5;exact hi.val _ _ _ this),he 0 x rfl⟩
    ·cases h
   ·rename_i n ht hn
    injection h with h;injection h with e1 e2;subst e1 e2
    refine⟨.agg ((List.range n).map cv).toArray,j0 (hti.agg _ _ ht) (hti.size _ _ hn) m5 ?_,_,rfl,by simp;omega,?_⟩
    ·intro j u hu
     rw[amT]at hu;by_cases hj:j<n
     ·rw[List.getElem?_range hj]at hu
      injection hu with hu;subst hu
      exact hi.val _ _ _ (hr j m0)
     ·rw[anj m8]at hu;cases hu
    ·intro j u x hu hx
     simp only[List.getElem?_toArray,amT]at hu hx;by_cases hj:j<n
     ·rw[List.getElem?_range hj]at hu
      injection hu with hu;subst hu
      rw[am0,if_pos hj]at hx
      cases hy:cs[j]? with
      |none=>simp[hy]at hx
      |some y=>simp[hy]at hx;subst hx;exact he j y hy
     ·rw[anj m8]at hu;cases hu
   ·cases h
 ·rename_i id off
  obtain⟨b,rfl,hg⟩:=h1;split at h
  ·rename_i cs hL
   obtain⟨⟨vs,E,hb,hs,hv⟩,_⟩:=hi.obj id _ _ hL hg;split at h
   ·rename_i ht
    split at h
    case h_2=>cases h
    ·rename_i x hc
     injection h with h;injection h with e1 e2;subst e1 e2
     have hlt:off<vs.size:=by rw[hs];exact(amw.1 hc).1
     have hu:vs[off]?=some vs[off]:=amV hlt;exact⟨vs[off],kF (hti.agg _ _ ht) (by rw[cob_ hb];exact hu),hv off _ x hu hc⟩
   ·rename_i n ht hn
    injection h with h;injection h with e1 e2;subst e1 e2
    refine⟨.agg ((vs.toList.drop off).take n).toArray,j0 (hti.agg _ _ ht) (hti.size _ _ hn) m8 ?_,_,rfl,by simp;omega,?_⟩
    ·intro j u hu
     rw[cob_ hb];rw[am0]at hu;split at hu
     ·rw[anh]at hu;simpa using hu
     ·cases hu
    ·intro j u x hu hx
     simp only[List.getElem?_toArray]at hu;rw[am0]at hu hx;split at hu
     ·rename_i hj
      rw[if_pos hj]at hx;rw[anh]at hu hx;exact hv (off+j) u x (by simpa using hu) hx
     ·cases hu
   ·cases h
  ·cases h
 ·rename_i id ver i o
  obtain⟨_,hlt,h1⟩:=h1;split at h
  case h_2=>cases h
  rename_i ver' es k hL;split at h
  ·rename_i e he ht
   split at h
   case h_2=>cases h
   rename_i x hx;injection h with h;injection h with e1 e2;subst e1 e2
   subst hφ;obtain⟨hi2,g,hg,hat⟩:=(h1 _ es k hL).2 rfl;have hob:=hi.obj id _ _ hL hg
   match g,hat,hob with
   |.arr b c,hat,⟨⟨vs,E,⟨hb,hE65⟩,hs,hv⟩,hc,hk,hw,hR⟩ =>
    have hat:u1 = .pointer (some ⟨b,i*k+o,none⟩):=hat;subst hat;have ho:o<k:=by rw[<- hw e (amC he)];exact(amw.1 hx).1
    have hlt2:i*k+o<vs.size:=by
     rw[hs];have:(i+1)*k<=c*k:=am7 _ m0;rw[Nat.succ_mul]at this;omega
    have hu:vs[i*k+o]?=some vs[i*k+o]:=amV hlt2;exact⟨vs[i*k+o],kF (hti.agg _ _ ht) (by rw[cob_ hb];exact hu),hv i e o _ x he hu hx⟩
  ·rename_i e n he ht hn
   injection h with h;injection h with e1 e2;subst e1 e2
   obtain⟨hve,hle⟩:=hφ;subst hve;obtain⟨hi2,g,hg,hat⟩:=(h1 _ es k hL).2 rfl;have hob:=hi.obj id _ _ hL hg
   match g,hat,hob with
   |.arr b c,hat,⟨⟨vs,E,⟨hb,hE65⟩,hs,hv⟩,hc,hk,hw,hR⟩ =>
    have hat:u1 = .pointer (some ⟨b,i*k+o,none⟩):=hat;subst hat;have hek:=hw e (amC he);have hlt2:i*k+k<=vs.size:=by
     rw[hs];have:(i+1)*k<=c*k:=am7 _ m0;rw[Nat.succ_mul]at this;omega
    refine⟨.agg ((vs.toList.drop (i*k+o)).take n).toArray,j0 (hti.agg _ _ ht) (hti.size _ _ hn) m8 ?_,_,rfl,by simp;omega,?_⟩
    ·intro j u hu
     rw[cob_ hb];rw[am0]at hu;split at hu
     ·rw[anh]at hu;simpa using hu
     ·cases hu
    ·intro j u x hu hx
     simp only[List.getElem?_toArray]at hu;rw[am0]at hu hx;split at hu
     ·rename_i hj
      rw[if_pos hj]at hx;rw[anh]at hu hx;exact hv i e (o+j) u x he (by rw[<- Nat.add_assoc];simpa using hu) hx
     ·cases hu
  ·cases h
 ·cases h
theorem oR {s:TypeId}{i o:Nat}{t:TypeId}(h:vX P s i=some (o,t)):∃ fs f,P.underlying s=some (.struct fs)/\fs[i]?=some f/\f.offset=o/\f.type=t:=by
 unfold vX at h;split at h
 ·rename_i fs e
  cases hf:fs[i]? with
  |none=>simp[hf]at h
  |some f =>
   simp[hf]at h;exact⟨fs,f,e,hf,h.1,h.2⟩
 ·cases h
theorem run_sizeOf {t:TypeId}{n:Nat}(h:en P t=some n):(sizeOf t).run P w = .ok n w:=by
 unfold en at h
 cases hi:P.info? t with
 |none=>simp[hi]at h
 |some i=>simp[hi]at h;simp[sizeOf,typeInfo,program,Sem.run,hi,h]
theorem pT {s:TypeId}{i o:Nat}{t:TypeId}{b f:Nat}(h:vX P s i=some (o,t))(h0:en P t≠some 0)(h1:(en P t).isSome) :
  (Instr.fieldAt s (.pointer (some ⟨b,f,none⟩)) i).run P w = .ok (.pointer (some ⟨b,f+o,none⟩)) w:=by
 obtain⟨fs,fd,e1,e2,e3,e4⟩:=oR h;obtain⟨n,hn⟩:=ana.1 h1;have hn0:n≠0:=fun e=>h0 (by rw[hn,e])
 subst e3 e4;simp[Instr.fieldAt,underlying,program,Sem.run,e1,e2,Instr.sureAddr,fieldPlace,run_sizeOf hn,hn0,Addr.add_mid]
theorem sr (hti:TIok P ti){s:TypeId}{i:Nat}{va v:AV}{φ:Prop}{u1:Value}(h1:va.rep R γ L u1)(h:fi ti s i va=some (v,φ))(hφ:φ) :
  ∃ u,(Instr.fieldAt s u1 i).run P w = .ok u w/\v.rep R γ L u:=by
 unfold fi at h;split at h
 ·rename_i cs
  cases h1 with
  |ref b o cs cv hr he =>
   split at h
   ·rename_i o' t hf
    split at h
    case h_2=>cases h
    rename_i n hn;injection h with h;injection h with e1 e2;subst e1 e2
    have hle:=hφ;have hn':=hti.size _ _ hn;refine⟨_,pT (hti.field _ _ _ hf) (by rw[hn'];simp) (by rw[hn'];rfl),?_⟩;refine .ref b (o+o') _ (fun j=>cv (o'+j)) (fun j hj=>?_) (fun j x hx=>?_)
    ·rw[List.length_drop]at hj
     rw[Nat.add_assoc];exact hr _ m0
    ·rw[anh]at hx;exact he _ _ hx
   ·cases h
 ·rename_i id off
  obtain⟨b,rfl,hg⟩:=h1;split at h
  ·rename_i o' t hf
   split at h
   case h_2=>cases h
   rename_i n hn;injection h with h;injection h with e1 e2;subst e1 e2
   have hn':=hti.size _ _ hn;exact⟨_,pT (hti.field _ _ _ hf) (by rw[hn'];simp) (by rw[hn'];rfl),b,rfl,hg⟩
  ·cases h
 ·cases h
theorem Bh (hti:TIok P ti){s:TypeId}{i:Nat}{va v:AV}{φ:Prop}{u1:Value}(h1:va.rep R γ L u1)(h:pF ti s i va=some (v,φ))(hφ:φ) :
  ∃ u,(Instr.field s u1 i).run P w = .ok u w/\v.rep R γ L u:=by
 unfold pF at h;split at h
 ·rename_i xs
  obtain⟨vs,rfl,hs,hv⟩:=h1;split at h
  ·rename_i o t hf
   obtain⟨fs,fd,e1,e2,e3,e4⟩:=oR (hti.field _ _ _ hf);subst e3 e4;split at h
   ·rename_i ht
    split at h
    case h_2=>cases h
    ·rename_i x hc
     injection h with h;injection h with e5 e6;subst e5 e6
     have hlt:fd.offset<vs.size:=by rw[hs];exact(amw.1 hc).1
     have hu:vs[fd.offset]?=some vs[fd.offset]:=amV hlt;exact⟨vs[fd.offset],by simp[Instr.field,underlying,program,Sem.run,e1,e2,asAgg,part,mg (hti.agg _ _ ht),hu],hv _ _ x hu hc⟩
   ·rename_i n ht hn
    injection h with h;injection h with e5 e6;subst e5 e6
    refine⟨.agg (vs.extract fd.offset (fd.offset+n)),by simp[Instr.field,underlying,program,Sem.run,e1,e2,asAgg,part,mg (hti.agg _ _ ht),run_sizeOf (hti.size _ _ hn)],_,rfl,by simp;omega,?_⟩;intro j u x hu hx;rw[Array.getElem?_extract]at hu;split at hu
    ·rw[am0]at hx
     split at hx
     ·rw[anh]at hx;exact hv _ u x hu hx
     ·cases hx
    ·cases hu
   ·cases h
  ·cases h
 ·cases h
theorem ia {x:AV}{v:Value}{es:List (List AC)}(h:x.rep R γ L v)(he:df x=some es):bg R v (.lst es):=by
 unfold df at he;split at he<;>first|(injection he with he;subst he)|(cases he;done)
 ·exact h
 ·exact h.1
 ·obtain⟨a,rfl⟩:=h;exact cO _ _ _
theorem lx {t:TypeId}{n:Nat}(h:(nu P t).bind (en P)=some n):∃ e,P.underlying t=some (.slice e)/\en P e=some n:=by
 unfold nu at h;split at h
 ·rename_i e he;exact⟨e,he,h⟩
 ·cases h
theorem sS (hti:TIok P ti){t:TypeId}{vx vi v:AV}{φ:Prop}{u1 u2:Value}(h1:vx.rep R γ L u1)(h2:vi.rep R γ L u2)(h:d5 ti t vx vi=some (v,φ))(hφ:φ) :
  ∃ u,(Instr.indexAt t u1 u2).run P w = .ok u w/\v.rep R γ L u:=by
 unfold d5 at h;split at h
 ·rename_i es k0 i k hl ht
  have hp:=ia h1 hl
  cases h2;obtain⟨E,hE,hk⟩:=lx (hti.es ht);split at h
  ·rename_i e he
   injection h with h;injection h with e1 e2;subst e1 e2
   cases hp with
   |lst a n c _ k' cv b o hn hc hkk ha hr hx =>
    have hlt:i.toNat<es.length:=(amw.1 he).1;have hmem:e∈es:=amC he;obtain⟨h0,hek⟩:=hφ;have hkk':k'=k:=by rw[<- hkk e hmem];exact hek
    subst hkk';have ea:=ha m0;subst ea;have hi2:i<(n:Int):=m0
    refine⟨.pointer (some ⟨b,o+i.toNat*k',none⟩),?_,?_⟩
    ·simp[Instr.indexAt,asIntOf,underlying,program,Sem.run,hE,h0,hi2,run_sizeOf hk,Addr.add_mid]
    ·refine .ref b _ e (fun j=>cv (i.toNat*k'+j)) (fun j hj=>?_) (fun j x hxj=>hx _ _ _ _ he hxj)
     rw[Nat.add_assoc];apply hr;have h3:i.toNat*k'+k'<=n*k':=by
      have:(i.toNat+1)*k'<=n*k':=am7 _ m0;rw[Nat.succ_mul]at this;exact this
     omega
  ·cases h
 ·cases h
theorem ut (hti:TIok P ti)(hi:Inv B R γ L w){t:TypeId}{id ver lo n:Nat}{vi v:AV}{φ:Prop}{u1 u2:Value}(h1:(SV.sl id ver lo n).rep R γ L u1)(h2:vi.rep R γ L u2)(h:dP ti L t id ver lo n vi=some (v,φ))(hφ:φ) :
  ∃ u,(Instr.indexAt t u1 u2).run P w = .ok u w/\v.rep R γ L u:=by
 unfold dP at h;split at h
 case h_2=>cases h
 rename_i ver' es k' k0 i k hL ht;injection h with h;injection h with e1 e2;subst e1 e2
 obtain⟨⟨hv1,hv2⟩,h0,h3⟩:=hφ;subst hv1 hv2
 cases h2;obtain⟨E,hE,hk⟩:=lx (hti.es ht);obtain⟨_,hlt,h1⟩:=h1;obtain⟨hle,g,hg,hat⟩:=(h1 _ es k hL).2 rfl
 match g,hat with
 |.none,⟨_,hn,_⟩=>exact absurd h3 m0
 |.arr b c,hat =>
  have hat:u1 = .slice (some ⟨b,lo*k,none⟩) n (c-lo):=by
   rcases hat with hat|⟨_,hn,_⟩
   ·exact hat
   ·exact absurd h3 m0
  subst hat;refine⟨.pointer (some ⟨b,lo*k+i.toNat*k,none⟩),?_,⟨rfl,rfl⟩,hlt,fun ver2 es' k2 e=>?_⟩
  ·simp[Instr.indexAt,asIntOf,underlying,program,Sem.run,hE,h0,h3,run_sizeOf hk,Addr.add_mid]
  ·rw[hL]at e;injection e with e;injection e with e0 e1 e2;subst e0 e1 e2;refine⟨amM _,fun _=>?_⟩
   refine⟨m0,.arr b c,hg,?_⟩;show Value.pointer _=Value.pointer _;rw[Nat.add_mul,Nat.add_zero]
theorem tI (hti:TIok P ti){s:TypeId}{i0 id ver i off:Nat}{v:AV}{φ:Prop}{u1:Value}(h1:(SV.ep id ver i off).rep R γ L u1)(h:dR ti L s i0 id ver i off=some (v,φ))(hφ:φ) :
  ∃ u,(Instr.fieldAt s u1 i0).run P w = .ok u w/\v.rep R γ L u:=by
 unfold dR at h;split at h
 case h_2=>cases h
 rename_i ver' es k o t hL hf;split at h
 case h_2=>cases h
 rename_i n hn;injection h with h;injection h with e1 e2;subst e1 e2
 subst hφ;obtain⟨_,hlt,h1⟩:=h1;obtain⟨hle,g,hg,hat⟩:=(h1 _ es k hL).2 rfl;have hn':=hti.size _ _ hn
 match g,hat with
 |.arr b c,hat =>
  have hat:u1 = .pointer (some ⟨b,i*k+off,none⟩):=hat;subst hat;refine⟨_,pT (hti.field _ _ _ hf) (by rw[hn'];simp) (by rw[hn'];rfl),⟨rfl,rfl⟩,hlt,fun ver2 es' k2 e=>?_⟩;rw[hL]at e;injection e with e;injection e with e0 e1 e2;subst e0 e1 e2;refine⟨amM _,fun _=>?_⟩
  refine⟨hle,.arr b c,hg,?_⟩;show Value.pointer _=Value.pointer _;rw[Nat.add_assoc]
theorem xl (hti:TIok P ti){t ty:TypeId}{id ver lo n:Nat}{v:AV}{φ:Prop}{u1:Value}(h1:(SV.sl id ver lo n).rep R γ L u1)(h:gl ti L t id ver n=some (v,φ))(hφ:φ) :
  ∃ u,(Builtin.len_ #[t] ty #[u1]).run P w = .ok u w/\v.rep R γ L u:=by
 unfold gl at h;split at h
 case h_2=>cases h
 rename_i ver' es k hL;injection h with h;injection h with e1 e2;subst e1 e2
 obtain⟨hv,hφ⟩:=hφ;subst hv;obtain⟨_,hlt,h1⟩:=h1;obtain⟨hle,g,hg,hat⟩:=(h1 _ es k hL).2 rfl;have⟨e,he⟩:∃ e,P.underlying t=some (.slice e):=by
  obtain⟨e,he⟩:=ana.1 hφ;have h2:=hti.elem _ _ he;unfold nu at h2;split at h2
  ·rename_i e' he';exact⟨e',he'⟩
  ·cases h2
 match g,hat with
 |.none,⟨⟨a,hu,_⟩,hn,_⟩ =>
  subst hu hn;exact⟨.int .i64 (0:Nat),by simp[Builtin.len_,underlying,program,Sem.run,he,goInt],.int _ _⟩
 |.arr b c,hat =>
  rcases hat with hat|⟨_,hn,a,hu⟩
  case inr=>subst hu hn;exact⟨.int .i64 (0:Nat),by simp[Builtin.len_,underlying,program,Sem.run,he,goInt],.int _ _⟩
  subst hat;exact⟨.int .i64 n,by simp[Builtin.len_,underlying,program,Sem.run,he,goInt],.int _ _⟩
end
section
variable {P:Program} {ti:TI} {B:Nat->Prop} {R:PH} {γ:List Gh} {L:List Ob} {w:World}
theorem yr (hti:TIok P ti){t:TypeId}{vx vi v:AV}{φ:Prop}{u1 u2:Value}(h1:vx.rep R γ L u1)(h2:vi.rep R γ L u2)(h:mY ti t vx vi=some (v,φ))(hφ:φ) :
  ∃ u,(Instr.index t u1 u2).run P w = .ok u w/\v.rep R γ L u:=by
 unfold mY at h;split at h
 ·rename_i s k i
  cases h1;cases h2;split at h
  ·rename_i b hb
   injection h with h;injection h with e1 e2;subst e1 e2
   obtain⟨h0,hu⟩:=hφ;exact⟨.int .u8 b.toNat,by simp[Instr.index,asIntOf,underlying,program,Sem.run,hti.kind _ _ hu,h0,hb],.int _ _⟩
  ·cases h
 ·rename_i zs k0 i
  obtain⟨vs,rfl,hs,hv⟩:=h1
  cases h2;split at h
  ·rename_i n e hk
   have hu:=hti.kind _ _ hk;split at h
   ·rename_i k ha hz
    split at h
    case h_2=>cases h
    ·rename_i x hc
     injection h with h;injection h with e5 e6;subst e5 e6
     obtain⟨g0,g1⟩:=hφ;have hlt:i.toNat*k<vs.size:=by rw[hs];exact(amw.1 hc).1
     have hw:vs[i.toNat*k]?=some vs[i.toNat*k]:=amV hlt;exact⟨vs[i.toNat*k],by simp[Instr.index,asIntOf,underlying,program,Sem.run,hu,g0,g1,part,mg (hti.agg _ _ ha),run_sizeOf (hti.size _ _ hz),hw],hv _ _ x hw hc⟩
   ·rename_i k ha hz
    injection h with h;injection h with e5 e6;subst e5 e6
    obtain⟨⟨g0,g1⟩,g2⟩:=hφ;refine⟨.agg (vs.extract (i.toNat*k) (i.toNat*k+k)),by simp[Instr.index,asIntOf,underlying,program,Sem.run,hu,g0,g1,part,mg (hti.agg _ _ ha),run_sizeOf (hti.size _ _ hz)],_,rfl,by simp;omega,?_⟩;intro j u x hj hx;rw[Array.getElem?_extract]at hj;split at hj
    ·rw[am0]at hx
     split at hx
     ·rw[anh]at hx;exact hv _ u x hj hx
     ·cases hx
    ·cases hj
   ·cases h
  ·cases h
 ·cases h
def agF (R:PH)(γ:List Gh)(L:List Ob):Option AV->Option Value->Prop
 |none,none=>True
 |some x,some v=>x.rep R γ L v
 |_,_=>False
theorem ei {s:Bool}{len cap:Nat}{lo hi:Option AV}{vlo vhi:Option Value}{l h:Int}(hlo:iZ 0 lo=some l)(hhi:iZ len hi=some h)
  (rlo:agF R γ L lo vlo) (rhi:agF R γ L hi vhi) (h0:0<=l) (h1:l<=h) (h2:h<=cap) :
  (Instr.sliceBounds s len cap vlo vhi none).run P w = .ok (l.toNat,h.toNat,cap) w:=by
 have e1:∀ (v:Value) (x:AV) (i:Int) (y:Nat) (c:BoundsCode),x.rep R γ L v->iZ 0 (some x)=some i->0<=i->i<=y->(Instr.sliceBound v y c).run P w = .ok i.toNat w:=by
  intro v x i y c hx hb g0 g1;unfold iZ at hb;split at hb
  ·rename_i e;cases e
  ·rename_i e
   injection e with e;subst e
   injection hb with hb;subst hb
   cases hx;simp[Instr.sliceBound,asIntOf,g0,g1]
  ·cases hb
 match lo,vlo,rlo,hlo,hi,vhi,rhi,hhi with
 |none,none,_,hlo,none,none,_,hhi =>
  injection hlo with hlo;subst hlo
  injection hhi with hhi;subst hhi
  simp[Instr.sliceBounds]
 |some x,some v,rlo,hlo,none,none,_,hhi =>
  injection hhi with hhi;subst hhi
  simp[Instr.sliceBounds,e1 v x l len _ rlo hlo h0 m0]
 |none,none,_,hlo,some y,some u,rhi,hhi =>
  injection hlo with hlo;subst hlo
  simp[Instr.sliceBounds,e1 u y h cap _ rhi (by cases y<;>first|exact hhi|(rename_i z;cases z<;>first|exact hhi|(rename_i q;cases q<;>exact hhi))) m0 h2]
 |some x,some v,rlo,hlo,some y,some u,rhi,hhi =>
  simp[Instr.sliceBounds,e1 u y h cap _ rhi (by cases y<;>first|exact hhi|(rename_i z;cases z<;>first|exact hhi|(rename_i q;cases q<;>exact hhi))) m0 h2,e1 v x l h.toNat _ rlo hlo h0 m0]
theorem aaI {a:Option Addr}{n c l h:Nat}{es:List (List AC)}{k m:Nat}(hp:bg R (.slice a n c) (.lst es))(hlh:l<=h)(hh:h<=es.length)(hk:∀ e∈es,e.length=k)(hm:m=c) :
  bg R (.slice (if m=l then a else a.map (·.add (l*k))) (h-l) (m-l)) (.lst ((es.take h).drop l)):=by
 cases hp with
 |lst _ _ _ _ k' cv b o hn hc hkk ha hr hx =>
  subst hm;have hlen:((es.take h).drop l).length=h-l:=by simp;omega
  by_cases hz:h-l=0
  ·rw[hz]
   have:(es.take h).drop l=[]:=amW m0;rw[this];exact cO _ _ _
  ·have hpos:0<n:=m0
   have hkk':k'=k:=by
    have h0:0<es.length:=m0
    rw[<- hkk es[0] (List.getElem_mem h0),hk es[0] (List.getElem_mem h0)]
   subst hkk';have ea:=ha hpos;subst ea;rw[if_neg m0];refine .lst _ _ _ _ k' (fun j=>cv (l*k'+j)) b (o+l*k') hlen m0 (fun e he=>hk e (ant (List.mem_of_mem_drop he))) (fun _=>by simp[Addr.add_mid]) (fun j hj=>?_) (fun i e j x he hxj=>?_)
   ·rw[Nat.add_assoc]
    apply hr;have:l*k'+(h-l)*k'=h*k':=by rw[<- Nat.add_mul];congr 1;omega
    have:h*k'<=n*k':=am7 _ m0;omega
   ·rw[anh,am0]at he
    split at he
    ·have:=hx _ _ _ _ he hxj
     rw[Nat.add_mul,Nat.add_assoc]at this;exact this
    ·cases he
theorem gF (hti:TIok P ti)(hI:Inv B R γ L w){t:TypeId}{vx v:AV}{lo hi:Option AV}{vlo vhi:Option Value}{φ:Prop}{u1:Value}(h1:vx.rep R γ L u1)(rlo:agF R γ L lo vlo)(rhi:agF R γ L hi vhi)
  (h:dJ ti L t vx lo hi=some (v,φ)) (hφ:φ):∃ u,(Instr.sliceAt t u1 vlo vhi none).run P w = .ok u w/\v.rep R γ L u:=by
 unfold dJ at h;split at h
 ·rename_i s
  cases h1;split at h
  ·rename_i l h' hl hh
   injection h with h;injection h with e1 e2;subst e1 e2
   obtain⟨a1,a2,a3,a4⟩:=hφ;refine⟨.string (s.extract l.toNat h'.toNat),?_,.str _⟩;have:=ei (P:=P) (w:=w) (s:=false) (cap:=s.size) hl hh rlo rhi a1 a2 m0;simp[Instr.sliceAt,Instr.slice,underlying,program,Sem.run,hti.kind _ _ a4,this]
  ·cases h
 ·rename_i id ver lo0 n
  split at h
  case h_2=>cases h
  rename_i ver' es k' k hL ht;split at h
  case h_2=>cases h
  rename_i l h' hl hh;injection h with h;injection h with e1 e2;subst e1 e2
  obtain⟨hv,hkk,a1,a2,a3⟩:=hφ;subst hv hkk;obtain⟨E,hE,hk⟩:=lx (hti.es ht);obtain⟨_,hlt,h1⟩:=h1;obtain⟨hle,g,hg,hat⟩:=(h1 _ es k hL).2 rfl;have hob:=hI.obj id _ _ hL hg
  match g,hat,hob with
  |.none,⟨⟨a0,hu,ha0⟩,hn,hlo⟩,hob =>
   subst hu hn hlo;have:=ei (P:=P) (w:=w) (s:=true) (cap:=0) hl hh rlo rhi a1 a2 m0;have e1:l=0:=m0
   have e2:h'=0:=m0
   subst e1 e2;refine⟨_,by simp[Instr.sliceAt,Instr.slice,underlying,program,Sem.run,hE,this,run_sizeOf hk];rfl,⟨rfl,rfl⟩,hlt,fun ver2 es2 k2 e=>?_⟩;rw[hL]at e;injection e with e;injection e with e0 e1 e2;subst e0 e1 e2;refine⟨amM _,fun _=>?_⟩
   exact⟨m5,.none,hg,⟨_,rfl,ha0⟩,rfl,rfl⟩
  |.arr b c,hat,⟨_,hc,_⟩ =>
   rcases hat with hat|⟨hcl,hn,a,hu⟩
   case inr =>
    subst hu hn;have:=ei (P:=P) (w:=w) (s:=true) (cap:=0) hl hh rlo rhi a1 a2 m0;have e1:l=0:=m0
    have e2:h'=0:=m0
    subst e1 e2;refine⟨_,by simp[Instr.sliceAt,Instr.slice,underlying,program,Sem.run,hE,this,run_sizeOf hk];rfl,⟨rfl,rfl⟩,hlt,fun ver2 es2 k2 e=>?_⟩;rw[hL]at e;injection e with e;injection e with e0 e1 e2;subst e0 e1 e2;refine⟨amM _,fun _=>?_⟩
    exact⟨by simpa using hle,.arr b c,hg,.inr ⟨by simpa using hcl,rfl,_,rfl⟩⟩
   subst hat;have:=ei (P:=P) (w:=w) (s:=true) (cap:=c-lo0) hl hh rlo rhi a1 a2 m0;refine⟨_,by simp[Instr.sliceAt,Instr.slice,underlying,program,Sem.run,hE,this,run_sizeOf hk];rfl,⟨rfl,rfl⟩,hlt,fun ver2 es2 k2 e=>?_⟩;rw[hL]at e;injection e with e;injection e with e0 e1 e2;subst e0 e1 e2;refine⟨amM _,fun _=>?_⟩
   refine⟨m0,.arr b c,hg,?_⟩;by_cases hm:c-lo0=l.toNat
   ·refine .inr ⟨m0,m0,some ⟨b,lo0*k,none⟩,?_⟩
    rw[if_pos hm,show h'.toNat-l.toNat=0 from by omega,show c-lo0-l.toNat=0 from by omega]
   ·refine .inl ?_
    rw[if_neg hm,Nat.add_mul,Nat.sub_add_eq];simp[Addr.add_mid]
 ·split at h
  ·rename_i es k hl ht
   have hp:=ia h1 hl;obtain⟨E,hE,hk⟩:=lx (hti.es ht);split at h
   ·rename_i l h' hl hh
    injection h with h;injection h with e1 e2;subst e1 e2
    obtain⟨a1,a2,a3,a4⟩:=hφ
    match u1,hp with
    |.slice a n c,hp =>
     have hn:es.length=n:=by cases hp;assumption
     have hc:n<=c:=by cases hp;assumption
     subst hn;have:=ei (P:=P) (w:=w) (s:=true) (cap:=c) hl hh rlo rhi a1 a2 m0;refine⟨_,by simp[Instr.sliceAt,Instr.slice,underlying,program,Sem.run,hE,this,run_sizeOf hk];rfl,?_⟩;have h3:((h'-l).toNat)=h'.toNat-l.toNat:=m0
     exact aaI (m:=c) hp m0 m0 a4 rfl
   ·cases h
  ·cases h
theorem E9 (hti:TIok P ti){t ty:TypeId}{vx v:AV}{φ:Prop}{u1:Value}(h1:vx.rep R γ L u1)(h:Bq ti t vx=some (v,φ))(hφ:φ) :
  ∃ u,(Builtin.len_ #[t] ty #[u1]).run P w = .ok u w/\v.rep R γ L u:=by
 unfold Bq at h;split at h
 ·rename_i s
  cases h1;injection h with h;injection h with e1 e2;subst e1 e2
  exact⟨.int .i64 s.size,by simp[Builtin.len_,underlying,program,Sem.run,hti.kind _ _ hφ,goInt],.int _ _⟩
 ·split at h
  case h_2=>cases h
  ·rename_i es hl
   injection h with h;injection h with e1 e2;subst e1 e2
   have hp:=ia h1 hl
   match u1,hp with
   |.slice a n c,hp =>
    have hn:es.length=n:=by cases hp;assumption
    subst hn;have⟨e,he⟩:∃ e,P.underlying t=some (.slice e):=by
     obtain⟨e,he⟩:=ana.1 hφ;have h2:=hti.elem _ _ he;unfold nu at h2;split at h2
     ·rename_i e' he';exact⟨e',he'⟩
     ·cases h2
    exact⟨.int .i64 es.length,by simp[Builtin.len_,underlying,program,Sem.run,he,goInt],.int _ _⟩
theorem o5 {mx:Bool}{vx vy v:AV}{φ:Prop}{u1 u2:Value}{ts:Array TypeId}{ty:TypeId}(h1:vx.rep R γ L u1)(h2:vy.rep R γ L u2)(h:rz mx vx vy=some (v,φ)) :
  ∃ u,(if mx then Builtin.max_ ts ty #[u1,u2]else Builtin.min_ ts ty #[u1,u2]).run P w = .ok u w/\v.rep R γ L u:=by
 unfold rz at h;split at h
 ·rename_i k a k' b
  cases h1;cases h2;injection h with h;injection h with e1 e2;subst e1 e2
  cases mx
  ·exact⟨.int k (if b<a then b else a),by simp[Builtin.min_,Builtin.min2],.int _ _⟩
  ·exact⟨.int k (if b>a then b else a),by simp[Builtin.max_,Builtin.max2],.int _ _⟩
 ·cases h
end
