/- Parts of the proof, joined. No condition. -/
import Derived.WalkKit
import Derived.Orders
import Derived.Deep.MidRow
import Derived.Deep.AppendSrc
set_option linter.unusedSimpArgs false
set_option linter.unusedVariables false
namespace Go.Proofs.YtfccopdbgfdcdaaGreatDoor
abbrev adH := @Option.bind_some
abbrev adI := @List.getElem?_eq_some_iff
abbrev adJ := @cond_false
abbrev adK := @cond_true
abbrev adL := @decide_eq_false
abbrev adM := @decide_eq_true
abbrev adN := @List.nil_append
abbrev adO := @List.mem_of_getElem?
abbrev adP := @List.getElem?_append_right
abbrev adQ := @List.length_append
abbrev adR := @List.getElem?_eq_getElem
abbrev adS := @Nat.le_of_ble_eq_true
abbrev adT := @List.map_cons
abbrev adU := @List.length_map
abbrev adV := @List.map_append
abbrev adW := @List.getElem?_append_left
abbrev adX := @List.map_nil
abbrev adY := @Nat.le_refl
abbrev adZ := @List.mem_cons
abbrev ad1 := @Bool.and_eq_true
abbrev ad2 := @List.getElem?_set_self
abbrev ad3 := @List.getElem?_set_ne
abbrev ad4 := @Nat.zero_le
abbrev ad5 := @List.length_cons
abbrev ad6 := @List.getElem?_map
abbrev ad7 := @List.mem_cons_of_mem
abbrev ad8 := @Array.getElem?_eq_getElem
abbrev ad9 := @List.eq_nil_of_length_eq_zero
abbrev ad_ := @List.append_assoc
abbrev ad' := @List.mem_append
abbrev aea := @of_decide_eq_true
abbrev aeb := @List.getElem?_take
abbrev aec := @List.length_nil
abbrev aed := @List.drop_eq_getElem_cons
abbrev aee := @Option.some.inj
abbrev aef := @Bool.true_and
abbrev aeg := @List.append_nil
abbrev aeh := @List.mem_map
abbrev aei := @Nat.mul_le_mul_right
abbrev aej := @List.flatMap_cons
abbrev aek := @Nat.lt_of_lt_of_le
abbrev ael := @List.take_of_length_le
abbrev aem := @List.mem_singleton
abbrev aen := @Option.isSome_iff_exists
abbrev aeo := @Nat.zero_add
abbrev aep := @Array.getElem?_setIfInBounds_ne
abbrev aeq := @Array.getElem?_eq_some_iff
abbrev aer := @List.take_append_drop
abbrev aes := @List.getElem?_drop
abbrev aet := @List.mem_cons_self
abbrev aeu := @List.getElem?_eq_none
abbrev aev := @List.all_eq_true
abbrev aew := @List.foldl_cons
abbrev aex := @List.length_take
abbrev aey := @List.getD_eq_getElem?_getD
abbrev aez := @Array.getElem?_setIfInBounds_self_of_lt
abbrev aeA := @List.forall_mem_cons
abbrev aeB := @List.drop_length
abbrev aeC := @List.pairwise_cons
abbrev aeD := @List.mem_of_mem_take
open Go.RowKit
inductive Nul where
 | ptr
 | iface
 | map
 | func
 deriving Inhabited,DecidableEq
def Nul.val:Nul->Value
 | .ptr => .pointer none
 | .iface => .nilIface
 | .map => .map none
 | .func => .nilFunc
inductive AC where
 | nul (k:Nul)
 | bool (b:Bool)
 | int (k:IntKind) (n:Int)
 | str (s:ByteArray)
 | lst (es:List (List AC))
 | ref (cs:List AC)
 | fn (f:FuncId) (caps:List AC)
 deriving Inhabited
abbrev PHf:=Nat->Nat->Option Value
def abf:Nat:=1
def Fu (o:Nat):Option Value:=if o<20 then some (.int .u64 (10 ^ o)) else none
def mI (f:PHf):Prop := ∀ o u,Fu o=some u->f abf o=some u
theorem mI.mono {f g:PHf} (h:mI f) (k : ∀ b o u,f b o=some u->g b o=some u):mI g:=fun o u e=>k _ _ _ (h o u e)
structure PH where
 fn:PHf
 tab:mI fn
instance : CoeFun PH (fun _ => PHf) := ⟨PH.fn⟩
def PH.sub (R R':PH):Prop := ∀ b o u,R b o=some u->R' b o=some u
def PH.put (R:PH) (f:PHf) (h : ∀ b o u,R b o=some u->f b o=some u):PH:=⟨f,R.tab.mono h⟩
theorem PH.sub_refl (R:PH):PH.sub R R:=fun _ _ _ h=>h
theorem PH.sub_trans {R R' R'':PH} (h:PH.sub R R') (g:PH.sub R' R''):PH.sub R R'':=fun b o u e=>g b o u (h b o u e)
inductive bH (R:PH):Value->AC->Prop
 | nul (k:Nul) (v:Value) (h:v=k.val):bH R v (.nul k)
 | bool (b:Bool):bH R (.bool b) (.bool b)
 | int (k:IntKind) (n:Int):bH R (.int k n) (.int k n)
 | str (s:ByteArray):bH R (.string s) (.str s)
 | lst (a:Option Addr) (n c:Nat) (es:List (List AC)) (k:Nat) (cv:Nat->Value) (b o:Nat) (hn:es.length=n) (hc:n<=c)
   (hk : ∀ e∈es,e.length=k) (ha:0<n->a=some ⟨b,o,none⟩) (hr : ∀ j,j<n*k->R b (o+j)=some (cv j))
   (he : ∀ (i:Nat) e (j:Nat) x,es[i]?=some e->e[j]?=some x->bH R (cv (i*k+j)) x):bH R (.slice a n c) (.lst es)
 | ref (b o:Nat) (cs:List AC) (cv:Nat->Value) (hr : ∀ j,j<cs.length->R b (o+j)=some (cv j))
   (he : ∀ (j:Nat) x,cs[j]?=some x->bH R (cv j) x):bH R (.pointer (some ⟨b,o,none⟩)) (.ref cs)
 | fn (f:FuncId) (caps:Array Value) (cs:List AC) (hs:caps.size=cs.length)
   (he : ∀ (j:Nat) v x,caps[j]?=some v->cs[j]?=some x->bH R v x):bH R (.func (.func f) #[] caps) (.fn f cs)
theorem bH.mono {R R':PH} (h:PH.sub R R') : ∀ {v x}, bH R v x->bH R' v x:=by
 intro v x hx
 induction hx with
 | nul k v h=>exact .nul k v h
 | bool b=>exact .bool b
 | int k n=>exact .int k n
 | str s=>exact .str s
 | lst a n c es k cv b o hn hc hk ha hr _ ih=>exact .lst a n c es k cv b o hn hc hk ha (fun j hj=>h _ _ _ (hr j hj)) ih
 | ref b o cs cv hr _ ih=>exact .ref b o cs cv (fun j hj=>h _ _ _ (hr j hj)) ih
 | fn f caps cs hs _ ih=>exact .fn f caps cs hs ih
inductive Cap where
 | c (x:AC)
 | ptr (id off:Nat)
 deriving Inhabited
inductive SV where
 | c (x:AC)
 | emp
 | own (es:List (List AC)) (t:Nat)
 | ptr (id off:Nat)
 | sl (id ver lo n:Nat)
 | ep (id ver i o:Nat)
 | mp (id:Nat)
 | clo (f:FuncId) (caps:List Cap)
 deriving Inhabited
inductive PV where
 | one (x:AC)
 | agg (xs:List AC)
 deriving Inhabited
inductive CV where
 | val (p:PV)
 | tup (ps:List PV)
 deriving Inhabited
inductive AV where
 | one (x:SV)
 | agg (xs:List SV)
 | tup (ps:List PV)
 | undef
 deriving Inhabited
inductive Ob where
 | box (cs:List SV)
 | spare (n k:Nat)
 | row (ver:Nat) (es:List (List SV)) (k:Nat)
 | map (kvs:List (AC × AV))
 | dead
 deriving Inhabited
inductive Gh where
 | none
 | box (b:Nat)
 | arr (b c:Nat)
def Gh.block:Gh->Option Nat
 | .none=>Option.none
 | .box b=>some b
 | .arr b _=>some b
def Link (n:Nat) (v:Value):Gh->Prop
 | .none => ∃ a,v = .slice a 0 0
 | .arr b c=>v = .slice (some ⟨b,0,Option.none⟩) n c
 | .box _=>False
def Cap.rep (R:PH) (γ:List Gh):Cap->Value->Prop
 | .c x,v=>bH R v x
 | .ptr id off,v => ∃ b,v = .pointer (some ⟨b,off,none⟩)/\γ[id]?=some (.box b)
def ads (k lo n:Nat) (v:Value):Gh->Prop
 | .none=>v = .slice none 0 0/\n=0/\lo=0
 | .arr b c=>v = .slice (some ⟨b,lo*k,Option.none⟩) n (c-lo)\/(c=lo/\n=0 /\ ∃ a,v = .slice a 0 0)
 | .box _=>False
def ab1 (k i o:Nat) (v:Value):Gh->Prop
 | .arr b _=>v = .pointer (some ⟨b,i*k+o,Option.none⟩)
 | _=>False
def SV.rep (R:PH) (γ:List Gh) (L:List Ob):SV->Value->Prop
 | .c x,v=>bH R v x
 | .emp,v => ∃ a,v = .slice a 0 0
 | .own es t,v=>bH R v (.lst es)/\t<L.length /\ ∀ n k,L[t]?=some (.spare n k)->es.length<=n/\(∀ e∈es,e.length=k)/\(es.length=n -> ∃ g,γ[t]?=some g/\Link n v g)
 | .ptr id off,v => ∃ b,v = .pointer (some ⟨b,off,none⟩)/\γ[id]?=some (.box b)
 | .sl id ver lo n,v=>(v.cells = #[v]/\v.oneCell'=true)/\id<L.length /\ ∀ ver' es k,L[id]?=some (.row ver' es k)->ver<=ver'/\(ver=ver'->lo+n<=es.length /\ ∃ g,γ[id]?=some g/\ads k lo n v g)
 | .ep id ver i o,v=>(v.cells = #[v]/\v.oneCell'=true)/\id<L.length /\ ∀ ver' es k,L[id]?=some (.row ver' es k)->ver<=ver'/\(ver=ver'->i<es.length /\ ∃ g,γ[id]?=some g/\ab1 k i o v g)
 | .mp id,v => ∃ b,v = .map (some b)/\γ[id]?=some (.box b)
 | .clo f caps,v => ∃ vs:Array Value,v = .func (.func f) #[] vs/\vs.size=caps.length /\ ∀ (j:Nat) u x,vs[j]?=some u->caps[j]?=some x->x.rep R γ u
def PV.rep (R:PH):PV->Value->Prop
 | .one x,v=>bH R v x
 | .agg xs,v => ∃ vs:Array Value,v = .agg vs/\vs.size=xs.length /\ ∀ (j:Nat) u x,vs[j]?=some u->xs[j]?=some x->bH R u x
def CV.rep (R:PH):CV->Value->Prop
 | .val p,v=>p.rep R v
 | .tup ps,v => ∃ vs:Array Value,v = .tuple vs/\vs.size=ps.length /\ ∀ (j:Nat) u p,vs[j]?=some u->ps[j]?=some p->p.rep R u
def AV.rep (R:PH) (γ:List Gh) (L:List Ob):AV->Value->Prop
 | .one x,v=>x.rep R γ L v
 | .agg xs,v => ∃ vs:Array Value,v = .agg vs/\vs.size=xs.length /\ ∀ (j:Nat) u x,vs[j]?=some u->xs[j]?=some x->x.rep R γ L u
 | .tup ps,v => ∃ vs:Array Value,v = .tuple vs/\vs.size=ps.length /\ ∀ (j:Nat) u p,vs[j]?=some u->ps[j]?=some p->p.rep R u
 | .undef,v=>v=Go.undef
def pV (R:PH) (γ:List Gh) (L:List Ob) (w:World):Ob->Gh->Prop
 | .box cs, .box b=>(∃ vs E,w.heap[b]?=some (.cells vs E (0,0))/\vs.size=cs.length /\ ∀ (j:Nat) u x,vs[j]?=some u->cs[j]?=some x->x.rep R γ L u) /\ ∀ o,R b o=none
 | .spare n k, .arr b c=>(∃ vs E,w.heap[b]?=some (.cells vs E (0,0))/\vs.size=c*k)/\n<=c/\0<k /\ ∀ o,n*k<=o->R b o=none
 | .spare n _, .none=>n=0
 | .row ver es k, .arr b c=>(∃ vs E,(w.heap[b]?=some (.cells vs E (0,0))/\E=ver%65536/\65536<=ver)/\vs.size=c*k /\ ∀ (i:Nat) e (j:Nat) u x,es[i]?=some e->vs[i*k+j]?=some u->e[j]?=some x->x.rep R γ L u)/\es.length<=c/\0<k/\(∀ e∈es,e.length=k) /\ ∀ o,R b o=none
 | .row _ es _, .none=>es=[]
 | .map kvs, .box b=>(∃ es,w.heap[b]?=some (.map es es.size)/\es.size=kvs.length /\ ∀ (j:Nat) e p,es[j]?=some e->kvs[j]?=some p->e.born=j/\bH R e.key p.1/\p.2.rep R γ L e.val) /\ ∀ o,R b o=none
 | .dead, .none=>True
 | .dead, .box _=>True
 | _,_=>False
structure Inv (B:Nat->Prop) (R:PH) (γ:List Gh) (L:List Ob) (w:World):Prop where
 len:γ.length=L.length
 val : ∀ b o u,R b o=some u->w.cell? ⟨b,o,none⟩=some u
 obj : ∀ (id:Nat) x g,L[id]?=some x->γ[id]?=some g->pV R γ L w x g
 inj : ∀ (i j:Nat) gi gj,γ[i]?=some gi->γ[j]?=some gj->i≠j -> ∀ b,gi.block=some b->gj.block≠some b
 new : ∀ (i:Nat) g b,γ[i]?=some g->g.block=some b -> ¬ B b/\b<w.heap.size
 bsz : ∀ b,B b->b<w.heap.size
abbrev Tm:=List (Nat × AV)
structure kL (N:Nat) (R:PH) (γ:List Gh) (L:List Ob) (T:Tm) (a:Act):Prop where
 size:a.tmps.size=N
 defers:a.defers=[]
 slot : ∀ (t:Nat) x,T.lookup t=some x -> ∃ u,a.tmps[t]?=some u/\x.rep R γ L u
structure Kept (B:Nat->Prop) (w w':World):Prop where
 os:w'.os=w.os
 tape:w'.tape=w.tape
 output:w'.output=w.output
 size:w.heap.size<=w'.heap.size
 block : ∀ b,B b->w'.heap[b]?=w.heap[b]?
theorem Kept.refl (B:Nat->Prop) (w:World):Kept B w w:=⟨rfl,rfl,rfl,adY _,fun _ _=>rfl⟩
theorem Kept.trans {B:Nat->Prop} {a b c:World} (h:Kept B a b) (k:Kept B b c):Kept B a c :=
 ⟨k.os.trans h.os,k.tape.trans h.tape,k.output.trans h.output,Nat.le_trans h.size k.size,fun i hi=>(k.block i hi).trans (h.block i hi)⟩
theorem Kept.mono {B B':Nat->Prop} {w w':World} (h:Kept B w w') (hB : ∀ b,B' b->B b):Kept B' w w':=⟨h.os,h.tape,h.output,h.size,fun k hk=>h.block k (hB k hk)⟩
theorem Kept.below {n:Nat} {w w':World} (h:Kept (· < n) w w'):Below n w w':=⟨h.os,h.tape,h.output,h.size,h.block⟩
theorem Kept.of {n:Nat} {w w':World} (h:Below n w w'):Kept (· < n) w w':=⟨h.os,h.tape,h.output,h.size,h.block⟩
structure Ext (B:Nat->Prop) (R R':PH) (w w':World):Prop where
 below:Kept B w w'
 sub:PH.sub R R'
 old : ∀ b o,B b->R' b o=R b o
theorem Ext.refl (B:Nat->Prop) (R:PH) (w:World):Ext B R R w w:=⟨Kept.refl _ _,PH.sub_refl _,fun _ _ _=>rfl⟩
theorem Ext.trans {B:Nat->Prop} {R R' R'':PH} {w w' w'':World} (h:Ext B R R' w w') (g:Ext B R' R'' w' w''):Ext B R R'' w w'' :=
 ⟨h.below.trans g.below,PH.sub_trans h.sub g.sub,fun b o hb=>(g.old b o hb).trans (h.old b o hb)⟩
theorem lt_of_cell {w:World} {b o:Nat} {u:Value} (h:w.cell? ⟨b,o,none⟩=some u):b<w.heap.size:=by
 unfold World.cell? at h
 simp only at h
 split at h
 ·rename_i hb;exact (aeq.1 hb).1
 ·cases h
structure Mv (R R':PH) (γ γ':List Gh) (L L':List Ob):Prop where
 sub:PH.sub R R'
 len:L.length<=L'.length
 tok : ∀ (t:Nat) n' k,t<L.length->L'[t]?=some (.spare n' k) -> ∃ n,L[t]?=some (.spare n k)/\n<=n'/\(n=n'->γ'[t]?=γ[t]?)
 row : ∀ (t:Nat) ver es' k,t<L.length->L'[t]?=some (.row ver es' k) -> ∃ ver0 es,L[t]?=some (.row ver0 es k)/\ver0<=ver/\(ver0=ver->es.length=es'.length/\γ'[t]?=γ[t]?)
 ptr : ∀ (id:Nat) b,γ[id]?=some (.box b)->γ'[id]?=some (.box b)
theorem Cap.mv {R R':PH} {γ γ':List Gh} (hs:PH.sub R R') (hp : ∀ (id:Nat) b,γ[id]?=some (.box b)->γ'[id]?=some (.box b)) : ∀ {x:Cap} {v:Value}, x.rep R γ v->x.rep R' γ' v
 | .c _,_,hx=>bH.mono hs hx
 | .ptr id _,_,⟨b,h1,h2⟩=>⟨b,h1,hp id b h2⟩
theorem SV.mv {R R':PH} {γ γ':List Gh} {L L':List Ob} (h:Mv R R' γ γ' L L') : ∀ {x:SV} {v:Value}, x.rep R γ L v->x.rep R' γ' L' v
 | .c _,_,hx=>bH.mono h.sub hx
 | .emp,_,hx=>hx
 | .own es t,v,⟨h1,hlt,h2⟩=>by
  refine ⟨bH.mono h.sub h1,aek hlt h.len,fun n' k e=>?_⟩
  obtain ⟨n,g1,g2,g3⟩:=h.tok t n' k hlt e
  obtain ⟨h3,h5,h4⟩:=h2 n k g1
  refine ⟨by omega,h5,fun e=>?_⟩
  have:n=n':=by omega
  rw [g3 this, <- this]
  exact h4 (by omega)
 | .ptr id off,v,⟨b,h1,h2⟩=>⟨b,h1,h.ptr id b h2⟩
 | .sl id ver lo n,v,⟨h1,hlt,h2⟩=>by
  refine ⟨h1,aek hlt h.len,fun ver' es' k e=>?_⟩
  obtain ⟨ver0,es,g1,g2,g3⟩:=h.row id ver' es' k hlt e
  obtain ⟨h3,h4⟩:=h2 ver0 es k g1
  refine ⟨by omega,fun e=>?_⟩
  obtain ⟨g4,g5⟩:=g3 (by omega)
  rw [g5, <- g4]
  exact h4 (by omega)
 | .ep id ver i o,v,⟨h1,hlt,h2⟩=>by
  refine ⟨h1,aek hlt h.len,fun ver' es' k e=>?_⟩
  obtain ⟨ver0,es,g1,g2,g3⟩:=h.row id ver' es' k hlt e
  obtain ⟨h3,h4⟩:=h2 ver0 es k g1
  refine ⟨by omega,fun e=>?_⟩
  obtain ⟨g4,g5⟩:=g3 (by omega)
  rw [g5, <- g4]
  exact h4 (by omega)
 | .mp id,v,⟨b,h1,h2⟩=>⟨b,h1,h.ptr id b h2⟩
 | .clo f caps,v,⟨vs,h1,h2,h3⟩=>⟨vs,h1,h2,fun j u x hu hx=>Cap.mv h.sub h.ptr (h3 j u x hu hx)⟩
theorem PV.mono {R R':PH} (h:PH.sub R R') : ∀ {p:PV} {v:Value}, p.rep R v->p.rep R' v
 | .one _,_,hx=>bH.mono h hx
 | .agg _,_,⟨vs,h1,h2,h3⟩=>⟨vs,h1,h2,fun j u x hu hx=>bH.mono h (h3 j u x hu hx)⟩
theorem CV.mono {R R':PH} (h:PH.sub R R') : ∀ {p:CV} {v:Value}, p.rep R v->p.rep R' v
 | .val _,_,hx=>PV.mono h hx
 | .tup _,_,⟨vs,h1,h2,h3⟩=>⟨vs,h1,h2,fun j u x hu hx=>PV.mono h (h3 j u x hu hx)⟩
theorem AV.mv {R R':PH} {γ γ':List Gh} {L L':List Ob} (h:Mv R R' γ γ' L L') : ∀ {x:AV} {v:Value}, x.rep R γ L v->x.rep R' γ' L' v
 | .one _,_,hx=>SV.mv h hx
 | .agg _,_,⟨vs,h1,h2,h3⟩=>⟨vs,h1,h2,fun j u x hu hx=>SV.mv h (h3 j u x hu hx)⟩
 | .tup _,_,⟨vs,h1,h2,h3⟩=>⟨vs,h1,h2,fun j u x hu hx=>PV.mono h.sub (h3 j u x hu hx)⟩
 | .undef,_,hx=>hx
theorem Mv.refl {R:PH} {γ:List Gh} {L:List Ob} : Mv R R γ γ L L:=⟨PH.sub_refl _,adY _,fun _ n _ _ h=>⟨n,h,adY _,fun _=>rfl⟩,fun _ ver es _ _ h=>⟨ver,es,h,adY _,fun _=>⟨rfl,rfl⟩⟩,fun _ _ h=>h⟩
theorem Mv.of_sub {R R':PH} {γ:List Gh} {L:List Ob} (h:PH.sub R R'):Mv R R' γ γ L L:=⟨h,adY _,fun _ n _ _ h=>⟨n,h,adY _,fun _=>rfl⟩,fun _ ver es _ _ h=>⟨ver,es,h,adY _,fun _=>⟨rfl,rfl⟩⟩,fun _ _ h=>h⟩
theorem Mv.trans {R R' R'':PH} {γ γ' γ'':List Gh} {L L' L'':List Ob} (h:Mv R R' γ γ' L L') (g:Mv R' R'' γ' γ'' L' L''):Mv R R'' γ γ'' L L'' :=
 ⟨PH.sub_trans h.sub g.sub,Nat.le_trans h.len g.len,fun t n2 k hlt e=>by
  obtain ⟨n1,b1,b2,b3⟩:=g.tok t n2 k (aek hlt h.len) e
  obtain ⟨n,a1,a2,a3⟩:=h.tok t n1 k hlt b1
  exact ⟨n,a1,by omega,fun e=>(b3 (by omega)).trans (a3 (by omega))⟩,fun t v e2 k hlt e=>by
  obtain ⟨v1,e1,b1,b2,b3⟩:=g.row t v e2 k (aek hlt h.len) e
  obtain ⟨v0,e0,a1,a2,a3⟩:=h.row t v1 e1 k hlt b1
  exact ⟨v0,e0,a1,by omega,fun e=>⟨(a3 (by omega)).1.trans (b3 (by omega)).1,(b3 (by omega)).2.trans (a3 (by omega)).2⟩⟩,fun id b e=>g.ptr id b (h.ptr id b e)⟩
theorem kL.mv {N:Nat} {R R':PH} {γ γ':List Gh} {L L':List Ob} {T:Tm} {a:Act} (h:kL N R γ L T a) (m:Mv R R' γ γ' L L'):kL N R' γ' L' T a :=
 ⟨h.size,h.defers,fun t x e=>let ⟨u,h1,h2⟩:=h.slot t x e;⟨u,h1,AV.mv m h2⟩⟩
theorem pV.mv {R R':PH} {γ γ':List Gh} {L L':List Ob} {w w':World} {x:Ob} {g:Gh} (h:pV R γ L w x g) (m:Mv R R' γ γ' L L')
  (hw : ∀ b,g.block=some b->w'.heap[b]?=w.heap[b]?) (hR : ∀ b o,g.block=some b->R b o=none->R' b o=none):pV R' γ' L' w' x g:=by
 match x,g,h with
 | .box cs, .box b,⟨⟨vs,E,h1,h2,h3⟩,h4⟩=>exact ⟨⟨vs,E,(hw b rfl).trans h1,h2,fun j u x hu hx=>SV.mv m (h3 j u x hu hx)⟩,fun o=>hR b o rfl (h4 o)⟩
 | .spare n k, .arr b c,⟨⟨vs,E,h1,h2⟩,h3,h4,h5⟩=>exact ⟨⟨vs,E,(hw b rfl).trans h1,h2⟩,h3,h4,fun o ho=>hR b o rfl (h5 o ho)⟩
 | .spare n k, .none,h=>exact h
 | .row ver es k, .arr b c,⟨⟨vs,E,h1,h2,h3⟩,h4,h5,h6,h7⟩=>exact ⟨⟨vs,E,⟨(hw b rfl).trans h1.1,h1.2⟩,h2,fun i e j u x he hu hx=>SV.mv m (h3 i e j u x he hu hx)⟩,h4,h5,h6,fun o=>hR b o rfl (h7 o)⟩
 | .row ver es k, .none,h=>exact h
 | .map kvs, .box b,⟨⟨es,h1,h2,h3⟩,h4⟩=>exact ⟨⟨es,(hw b rfl).trans h1,h2,fun j e p he hp=>⟨(h3 j e p he hp).1,bH.mono m.sub (h3 j e p he hp).2.1,AV.mv m (h3 j e p he hp).2.2⟩⟩,fun o=>hR b o rfl (h4 o)⟩
 | .dead, .none,h=>exact h
 | .dead, .box _,h=>exact h
theorem ph_ {p:Prop} (h:p:=by repeat' (first|exact trivial|rfl|exact adS rfl|omega|apply And.intro)):p:=h
theorem fx_ {p:Prop} (hb:p) (h:p->False:=by first|decide|(intro h;simp at h;done)|(intro h;simp at h;omega)):False:=h hb
def gT (P:Program) (t:TypeId):Option Nat:=(P.info? t).map (·.size)
def OM (P:Program) (t:TypeId):Option Bool :=
 match P.underlying t with
 | some (.struct _)=>some true
 | some (.array _ _)=>some true
 | some _=>some false
 | none=>none
def sF (P:Program) (t:TypeId):Option TypeId :=
 match P.underlying t with
 | some (.slice e)=>some e
 | _=>none
def zX (P:Program) (s:TypeId) (i:Nat):Option (Nat × TypeId) :=
 match P.underlying s with
 | some (.struct fs)=>(fs[i]?).map fun f=>(f.offset,f.type)
 | _=>none
def SV.ofVal:Value->Option SV
 | .bool b=>some (.c (.bool b))
 | .int k n=>some (.c (.int k n))
 | .string s=>some (.c (.str s))
 | .slice none 0 0=>some .emp
 | .pointer none=>some (.c (.nul .ptr))
 | .nilIface=>some (.c (.nul .iface))
 | .map none=>some (.c (.nul .map))
 | .nilFunc=>some (.c (.nul .func))
 | _=>none
def svs:List Value->Option (List SV)
 | []=>some []
 | v::vs=>match SV.ofVal v,svs vs with
  | some x,some xs=>some (x::xs)
  | _,_=>none
def AV.ofVal:Value->Option AV
 | .agg vs=>(svs vs.toList).map .agg
 | v=>(SV.ofVal v).map .one
inductive Sc where
 | int (k:IntKind)
 | bool
 | str
 deriving DecidableEq
structure TI where
 size:Nat->Option Nat
 agg:Nat->Option Bool
 elem:Nat->Option Nat
 field:Nat->Nat->Option (Nat × Nat)
 zero:Nat->Option AV
 bytes:Nat->Option Nat
 kind:Nat->Option TypeDesc
 struct:Nat->Bool
 zok:Nat->Bool
 eqs:Nat->Option (List Sc)
 owns:Nat->Bool
 dyn:Bool:=false
 soft:Bool:=false
def look (T:Tm):Operand->Option AV
 | .tmp t=>T.lookup t
 | .const v=>AV.ofVal v
 | .global _=>none
 | .func f=>some (.one (.c (.fn f [])))
def Xi (op:BinOp) (k:IntKind) (a b:Int):Option (AC × Prop) :=
 match op with
 | .add=>some (.int k (k.wrap (a+b)),True)
 | .sub=>some (.int k (k.wrap (a-b)),True)
 | .mul=>some (.int k (k.wrap (a*b)),True)
 | .quo=>some (.int k (k.wrap (a.tdiv b)),b≠0)
 | .rem=>some (.int k (a.tmod b),b≠0)
 | .eql=>some (.bool (decide (a=b)),True)
 | .neq=>some (.bool (decide (a≠b)),True)
 | .lss=>some (.bool (decide (a<b)),True)
 | .leq=>some (.bool (decide (a<=b)),True)
 | .gtr=>some (.bool (decide (b<a)),True)
 | .geq=>some (.bool (decide (b<=a)),True)
 | .and=>some (.int k (k.wrap (BitVec.ofInt k.bits a &&& BitVec.ofInt k.bits b).toNat),True)
 | .or=>some (.int k (k.wrap (BitVec.ofInt k.bits a ||| BitVec.ofInt k.bits b).toNat),True)
 | _=>none
def aa' (op:BinOp) (k:IntKind) (a b:Int):Option (AC × Prop) :=
 match op with
 | .shl=>some (.int k (k.wrap (a*2 ^ (min b.toNat k.bits))),0<=b)
 | .shr=>some (.int k (a.fdiv (2 ^ (min b.toNat k.bits))),0<=b)
 | _=>none
def Wq (op:BinOp) (a b:ByteArray):Option (AC × Prop) :=
 match op with
 | .add=>some (.str (a++b),a.size+b.size<=9223372036854775807)
 | .eql=>some (.bool (a.toList==b.toList),True)
 | .neq=>some (.bool (!(a.toList==b.toList)),True)
 | .lss=>some (.bool (Op.bytesLess a.toList b.toList),True)
 | .leq=>some (.bool (Op.bytesLess a.toList b.toList||a.toList==b.toList),True)
 | .gtr=>some (.bool (!(Op.bytesLess a.toList b.toList||a.toList==b.toList)),True)
 | .geq=>some (.bool (!Op.bytesLess a.toList b.toList),True)
 | _=>none
theorem Ki {R:PH} {a b:Bool} (h:a=b):bH R (.bool a) (.bool b):=by rw [h];exact .bool b
theorem JI {P:Program} {w:World} {op:BinOp} {t:TypeId} {x y:Operand} {k:IntKind} {a b:Int} {r:AC} {φ:Prop} (h:Xi op k a b=some (r,φ)) (hφ:φ) :
  ∃ u,((do eqGuard op t x y (.int k a) (.int k b);binOp op t (.int k a) (.int k b):Sem Value)).run P w = .ok u w /\ ∀ R,bH R u r:=by
 cases op<;>first|(injection h with h;injection h with h1 h2;subst h1 h2)|(exact nomatch h)
 all_goals
  refine ⟨_,by simp (config := {decide:=true}) [eqGuard,binOp,Op.intArith,Op.intDiv,Op.intCmp,Op.intBits,go_sem,hφ];rfl,fun R=>?_⟩
  first|constructor|(apply Ki;simp [bne];rfl)
theorem Mw {P:Program} {w:World} {op:BinOp} {t:TypeId} {x y:Operand} {k k':IntKind} {a b:Int} {r:AC} {φ:Prop} (h:aa' op k a b=some (r,φ)) (hφ:φ) :
  ∃ u,((do eqGuard op t x y (.int k a) (.int k' b);binOp op t (.int k a) (.int k' b):Sem Value)).run P w = .ok u w /\ ∀ R,bH R u r:=by
 cases op<;>first|(injection h with h;injection h with h1 h2;subst h1 h2)|(exact nomatch h)
 all_goals
  have hn : ¬ b<0:=by omega
  refine ⟨_,by simp [eqGuard,binOp,Op.shift,go_sem,hn];rfl,fun R=>?_⟩
  constructor
theorem J3 {P:Program} {w:World} {op:BinOp} {t:TypeId} {x y:Operand} {a b:ByteArray} {r:AC} {φ:Prop} (h:Wq op a b=some (r,φ)) (hφ:φ) :
  ∃ u,((do eqGuard op t x y (.string a) (.string b);binOp op t (.string a) (.string b):Sem Value)).run P w = .ok u w /\ ∀ R,bH R u r:=by
 cases op<;>first|(injection h with h;injection h with h1 h2;subst h1 h2)|(exact nomatch h)
 case add =>
  refine ⟨.string (a++b),?_,fun R => .str _⟩
  have : ¬ (((a.size+b.size:Nat):Int) > IntKind.i64.max):=by
   show ¬ (((a.size+b.size:Nat):Int) > 9223372036854775807)
   omega
  simp only [eqGuard,binOp,Op.stringOp,if_neg this]
  simp (config := {decide:=true}) [go_sem]
 all_goals
  refine ⟨_,by simp (config := {decide:=true}) [eqGuard,binOp,Op.stringOp,go_sem];rfl,fun R=>?_⟩
  first|constructor|(apply Ki;simp)
def mK:List Cap->Option (List AC)
 | []=>some []
 | .c x::xs=>(mK xs).map (x :: ·)
 | _=>none
def SV.norm:SV->Option AC
 | .c x=>some x
 | .emp=>some (.lst [])
 | .own es _=>some (.lst es)
 | .clo f caps=>(mK caps).map (.fn f)
 | _=>none
def kN:List SV->Option (List AC)
 | []=>some []
 | x::xs=>match x.norm,kN xs with
  | some y,some ys=>some (y::ys)
  | _,_=>none
def AV.norm:AV->Option PV
 | .one x=>x.norm.map .one
 | .agg xs=>(kN xs).map .agg
 | _=>none
def AV.cells:AV->Option (List SV)
 | .one x=>some [x]
 | .agg xs=>some xs
 | _=>none
def PV.av:PV->AV
 | .one x => .one (.c x)
 | .agg xs => .agg (xs.map .c)
def CV.av:CV->AV
 | .val p=>p.av
 | .tup ps => .tup ps
section
variable {P:Program} {B:Nat->Prop} {R:PH} {γ:List Gh} {L:List Ob} {w:World}
theorem fH (R:PH) (a:Option Addr) (c:Nat):bH R (.slice a 0 c) (.lst []) :=
 .lst a 0 c [] 0 (fun _=>Go.undef) 0 0 rfl (ad4 _) (fun _ h=>nomatch h) (fun h=>absurd h (by omega)) (fun j hj=>absurd hj (by omega)) (fun i e j x h=>by simp at h)
theorem D8 : ∀ {xs:List Cap} {ys:List AC}, mK xs=some ys->xs.length=ys.length
 | [],ys,h=>by injection h with h;subst h;rfl
 | .c x::xs,ys,h=>by
  cases hq:mK xs with
  | none=>simp [mK,hq] at h
  | some zs=>simp [mK,hq] at h;subst h;simp [D8 hq]
 | .ptr _ _::xs,ys,h=>by cases h
theorem DF : ∀ {xs:List Cap} {ys:List AC}, mK xs=some ys -> ∀ (j:Nat) y,ys[j]?=some y->xs[j]?=some (.c y)
 | [],ys,h,j,y,hy=>by injection h with h;subst h;simp at hy
 | .c x::xs,ys,h,j,y,hy=>by
  cases hq:mK xs with
  | none=>simp [mK,hq] at h
  | some zs =>
   simp [mK,hq] at h;subst h
   cases j with
   | zero=>simpa using hy
   | succ j=>simpa using DF hq j y (by simpa using hy)
 | .ptr _ _::xs,ys,h,j,y,hy=>by cases h
theorem SV.norm_rep {x:SV} {v:Value} {y:AC} (h:x.rep R γ L v) (hy:x.norm=some y):bH R v y:=by
 cases x with
 | c z=>injection hy with hy;subst hy;exact h
 | emp=>injection hy with hy;subst hy;obtain ⟨a,rfl⟩:=h;exact fH _ _ _
 | own es t=>injection hy with hy;subst hy;exact h.1
 | ptr id off=>cases hy
 | sl id ver lo n=>cases hy
 | ep id ver i o=>cases hy
 | mp id=>cases hy
 | clo f caps =>
  cases hq:mK caps with
  | none=>simp [SV.norm,hq] at hy
  | some cs =>
   simp [SV.norm,hq] at hy;subst hy
   obtain ⟨vs,rfl,h2,h3⟩:=h
   refine .fn f vs cs (by rw [h2,D8 hq]) fun j v x hv hx=>?_
   exact h3 j v _ hv (DF hq j x hx)
theorem jb : ∀ {xs:List SV} {ys:List AC}, kN xs=some ys->ys.length=xs.length
 | [],ys,h=>by injection h with h;subst h;rfl
 | x::xs,ys,h=>by
  unfold kN at h
  split at h
  ·rename_i y zs h1 h2
   injection h with h;subst h
   simp [jb h2]
  ·cases h
theorem oF : ∀ {xs:List SV} {ys:List AC}, kN xs=some ys -> ∀ (j:Nat) x y,xs[j]?=some x->ys[j]?=some y->x.norm=some y
 | [],ys,h,j,x,y,hx,hy=>by simp at hx
 | x0::xs,ys,h,j,x,y,hx,hy=>by
  unfold kN at h
  split at h
  ·rename_i y0 zs h1 h2
   injection h with h;subst h
   cases j with
   | zero=>simp at hx hy;subst hx hy;exact h1
   | succ j=>exact oF h2 j x y (by simpa using hx) (by simpa using hy)
  ·cases h
theorem AV.norm_rep {x:AV} {v:Value} {y:PV} (h:x.rep R γ L v) (hy:x.norm=some y):y.rep R v:=by
 cases x with
 | one x =>
  cases hn:x.norm with
  | none=>simp [AV.norm,hn] at hy
  | some z =>
   simp [AV.norm,hn] at hy
   subst hy
   exact SV.norm_rep h hn
 | agg xs =>
  cases hn:kN xs with
  | none=>simp [AV.norm,hn] at hy
  | some zs =>
   simp [AV.norm,hn] at hy
   subst hy
   obtain ⟨vs,h1,h2,h3⟩:=h
   refine ⟨vs,h1,by rw [h2,jb hn],fun j u y hu hy=>?_⟩
   have hj:j<xs.length:=by rw [<- h2];exact (aeq.1 hu).1
   exact SV.norm_rep (h3 j u _ hu (adR hj)) (oF hn j _ _ (adR hj) hy)
 | tup ps=>cases hy
 | undef=>cases hy
theorem PV.av_rep {p:PV} {v:Value} (h:p.rep R v):p.av.rep R γ L v:=by
 cases p with
 | one x=>exact h
 | agg xs =>
  obtain ⟨vs,h1,h2,h3⟩:=h
  refine ⟨vs,h1,by simp [h2],fun j u x hu hx=>?_⟩
  rw [ad6] at hx
  cases hx':xs[j]? with
  | none=>simp [hx'] at hx
  | some y=>simp [hx'] at hx;subst hx;exact h3 j u y hu hx'
theorem CV.av_rep {p:CV} {v:Value} (h:p.rep R v):p.av.rep R γ L v:=by
 cases p with
 | val p=>exact PV.av_rep h
 | tup ps=>exact h
theorem bH.one {v:Value} {x:AC} (h:bH R v x):v.cells = #[v]/\v.oneCell'=true:=by
 cases h<;>first|exact ⟨rfl,rfl⟩|(rename_i k h;subst h;cases k<;>exact ⟨rfl,rfl⟩)
theorem SV.rep_one {v:Value} {x:SV} (h:x.rep R γ L v):v.cells = #[v]/\v.oneCell'=true:=by
 cases x with
 | c x=>exact bH.one h
 | emp=>obtain ⟨a,rfl⟩:=h;exact ⟨rfl,rfl⟩
 | own es t=>exact bH.one h.1
 | ptr id off=>obtain ⟨b,rfl,_⟩:=h;exact ⟨rfl,rfl⟩
 | sl id ver lo n=>exact h.1
 | ep id ver i o=>exact h.1
 | mp id=>obtain ⟨b,rfl,_⟩:=h;exact ⟨rfl,rfl⟩
 | clo f caps=>obtain ⟨vs,rfl,_⟩:=h;exact ⟨rfl,rfl⟩
theorem SV.ofVal_rep {v:Value} {x:SV} (h:SV.ofVal v=some x):x.rep R γ L v:=by
 unfold SV.ofVal at h
 split at h<;>first|(cases h;done)|(injection h with h;subst h)
 ·exact .bool _
 ·exact .int _ _
 ·exact .str _
 ·exact ⟨_,rfl⟩
 ·exact .nul _ _ rfl
 ·exact .nul _ _ rfl
 ·exact .nul _ _ rfl
 ·exact .nul _ _ rfl
theorem Tu : ∀ {vs:List Value} {xs:List SV}, svs vs=some xs->vs.length=xs.length
 | [],xs,h=>by injection h with h;subst h;rfl
 | v::vs,xs,h=>by
  unfold svs at h
  split at h
  ·rename_i h1 h2
   injection h with h;subst h
   simp [Tu h2]
  ·cases h
theorem Tj : ∀ {vs:List Value} {xs:List SV}, svs vs=some xs -> ∀ (j:Nat) u x,vs[j]?=some u->xs[j]?=some x->x.rep R γ L u
 | [],xs,h,j,u,x,hu,hx=>by simp at hu
 | v::vs,xs,h,j,u,x,hu,hx=>by
  unfold svs at h
  split at h
  ·rename_i h1 h2
   injection h with h;subst h
   cases j with
   | zero=>simp at hu hx;subst hu hx;exact SV.ofVal_rep h1
   | succ j=>exact Tj h2 j u x (by simpa using hu) (by simpa using hx)
  ·cases h
theorem AV.ofVal_rep {v:Value} {x:AV} (h:AV.ofVal v=some x):x.rep R γ L v:=by
 unfold AV.ofVal at h
 split at h
 ·rename_i vs
  cases hs:svs vs.toList with
  | none=>simp [hs] at h
  | some xs =>
   simp [hs] at h;subst h
   exact ⟨vs,rfl,by rw [<- Tu hs];simp,fun j u x hu hx=>Tj hs j u x (by simpa using hu) hx⟩
 ·rename_i hv
  cases hs:SV.ofVal v with
  | none=>simp [hs] at h
  | some y=>simp [hs] at h;subst h;exact SV.ofVal_rep hs
theorem IU {N:Nat} {T:Tm} {a:Act} (hT:kL N R γ L T a) {x:Operand} {v:AV} (h:look T x=some v):v.rep R γ L (a.eval x):=by
 cases x with
 | tmp t =>
  obtain ⟨u,h1,h2⟩:=hT.slot t v h
  have:a.eval (.tmp t)=u:=by simp [Act.eval,Array.getD_eq_getD_getElem?,h1]
  rw [this];exact h2
 | const c=>exact AV.ofVal_rep h
 | global g=>cases h
 | func f =>
  injection h with h;subst h
  exact .fn f #[] [] rfl (fun j v x hv=>by simp at hv)
end
def Jp:AC->Option Value
 | .bool b=>some (.bool b)
 | .int k n=>some (.int k n)
 | .str s=>some (.string s)
 | _=>none
def iH:List SV->Option (List Value)
 | []=>some []
 | .c x::xs=>match Jp x,iH xs with
  | some v,some vs=>some (v::vs)
  | _,_=>none
 | _::_=>none
def dw:List SV->List SV->Bool
 | [],[]=>true
 | .c (.bool a)::xs, .c (.bool b)::ys=>(a==b)&&dw xs ys
 | .c (.int _ a)::xs, .c (.int _ b)::ys=>decide (a=b)&&dw xs ys
 | .c (.str a)::xs, .c (.str b)::ys=>(a.toList==b.toList)&&dw xs ys
 | _,_=>false
def QC (P:Program) (t:TypeId) (xs ys:List SV):Prop :=
 ∀ vs us,iH xs=some vs->iH ys=some us -> ∀ w,(Op.equal t (.agg vs.toArray) (.agg us.toArray)).run P w = .ok (dw xs ys) w
def gy:List Sc->List SV->Bool
 | [],[]=>true
 | .int k::sh, .c (.int k' _)::xs=>decide (k=k')&&gy sh xs
 | .bool::sh, .c (.bool _)::xs=>gy sh xs
 | .str::sh, .c (.str _)::xs=>gy sh xs
 | _,_=>false
theorem mf : ∀ {sh:List Sc} {xs:List SV}, gy sh xs=true->(iH xs).isSome
 | [],[],_=>rfl
 | .int k::sh, .c (.int k' n)::xs,h=>by
  simp only [gy,ad1] at h
  obtain ⟨vs,hv⟩:=aen.1 (mf h.2)
  simp [iH,Jp,hv]
 | .bool::sh, .c (.bool b)::xs,h=>by
  obtain ⟨vs,hv⟩:=aen.1 (mf (sh:=sh) (xs:=xs) h)
  simp [iH,Jp,hv]
 | .str::sh, .c (.str b)::xs,h=>by
  obtain ⟨vs,hv⟩:=aen.1 (mf (sh:=sh) (xs:=xs) h)
  simp [iH,Jp,hv]
def E_ (P:Program) (t:TypeId):Bool :=
 match P.underlying t with
 | some (.struct fs)=>fs.all fun f=>(gT P f.type).isSome
 | _=>false
def zeroOf (P:Program) (t:TypeId):Option AV:=(P.info? t).bind fun i=>i.zero.bind AV.ofVal
def AY (ti:TI) (op:BinOp) (t:TypeId):AV->AV->Option (AV × Prop)
 | .one (.c (.int k a)), .one (.c (.int k' b))=>match aa' op k a b with
  | some (r,φ)=>some (.one (.c r),φ)
  | none=>match decide (k=k'),Xi op k a b with
   | true,some (r,φ)=>some (.one (.c r),φ)
   | _,_=>none
 | .one (.c (.str a)), .one (.c (.str b))=>match Wq op a b with
  | some (r,φ)=>some (.one (.c r),φ)
  | none=>none
 | .one (.c (.bool a)), .one (.c (.bool b))=>match op with
  | .eql=>some (.one (.c (.bool (a==b))),ti.kind t=some .bool)
  | .neq=>some (.one (.c (.bool (!(a==b)))),ti.kind t=some .bool)
  | _=>none
 | .agg xs, .agg ys=>match ti.eqs t with
  | some sh=>match op with
   | .eql=>some (.one (.c (.bool (dw xs ys))),gy sh xs=true/\gy sh ys=true)
   | .neq=>some (.one (.c (.bool (!dw xs ys))),gy sh xs=true/\gy sh ys=true)
   | _=>none
  | none=>none
 | _,_=>none
def kg (ti:TI) (L:List Ob) (t:TypeId):AV->Option (AV × Prop)
 | .one (.c (.ref cs))=>match ti.agg t,ti.size t with
  | some false,_=>match cs with
   | x::_=>some (.one (.c x),True)
   | []=>none
  | some true,some n=>some (.agg ((cs.take n).map .c),n<=cs.length)
  | _,_=>none
 | .one (.ptr id off)=>match L[id]? with
  | some (.box cs)=>match ti.agg t,ti.size t with
   | some false,_=>match cs[off]? with
    | some x=>some (.one x,True)
    | none=>none
   | some true,some n=>some (.agg ((cs.drop off).take n),off+n<=cs.length)
   | _,_=>none
  | _=>none
 | .one (.ep id ver i o)=>match L[id]? with
  | some (.row ver' es _)=>match es[i]?,ti.agg t,ti.size t with
   | some e,some false,_=>match e[o]? with
    | some x=>some (.one x,ver=ver')
    | none=>none
   | some e,some true,some n=>some (.agg ((e.drop o).take n),ver=ver'/\o+n<=e.length)
   | _,_,_=>none
  | _=>none
 | _=>none
def kD (ti:TI) (s:TypeId) (i0:Nat):AV->Option (AV × Prop)
 | .one (.c (.ref cs))=>match ti.field s i0 with
  | some (o,t)=>match ti.size t with
   | some (_+1)=>some (.one (.c (.ref (cs.drop o))),o<=cs.length)
   | _=>none
  | none=>none
 | .one (.ptr id off)=>match ti.field s i0 with
  | some (o,t)=>match ti.size t with
   | some (_+1)=>some (.one (.ptr id (off+o)),True)
   | _=>none
  | none=>none
 | _=>none
def wN (ti:TI) (s:TypeId) (i:Nat):AV->Option (AV × Prop)
 | .agg xs=>match ti.field s i with
  | some (o,t)=>match ti.agg t,ti.size t with
   | some false,_=>match xs[o]? with
    | some x=>some (.one x,True)
    | none=>none
   | some true,some n=>some (.agg ((xs.drop o).take n),o+n<=xs.length)
   | _,_=>none
  | none=>none
 | _=>none
def eU:AV->Option (List (List AC))
 | .one (.c (.lst es))=>some es
 | .one (.own es _)=>some es
 | .one .emp=>some []
 | _=>none
def gB (ti:TI) (L:List Ob) (s:TypeId) (i0 id ver i off:Nat):Option (AV × Prop) :=
 match L[id]?,ti.field s i0 with
 | some (.row ver' _ _),some (o,t)=>match ti.size t with
  | some (_+1)=>some (.one (.ep id ver i (off+o)),ver=ver')
  | _=>none
 | _,_=>none
def jO (ti:TI) (L:List Ob) (t:TypeId) (id ver n:Nat):Option (AV × Prop) :=
 match L[id]? with
 | some (.row ver' _ _)=>some (.one (.c (.int .i64 n)),ver=ver'/\(ti.elem t).isSome)
 | _=>none
def gu (ti:TI) (L:List Ob) (t:TypeId) (id ver lo n:Nat) (ix:AV):Option (AV × Prop) :=
 match L[id]?,ix,(ti.elem t).bind ti.size with
 | some (.row ver' _ k'), .one (.c (.int _ i)),some k=>some (.one (.ep id ver (lo+i.toNat) 0),(ver=ver'/\k=k')/\0<=i/\i<n)
 | _,_,_=>none
def iW (ti:TI) (t:TypeId) (x ix:AV):Option (AV × Prop) :=
 match eU x,ix,(ti.elem t).bind ti.size with
 | some es, .one (.c (.int _ i)),some k=>match es[i.toNat]? with
  | some e=>some (.one (.c (.ref e)),0<=i/\e.length=k)
  | none=>none
 | _,_,_=>none
def tX (ti:TI) (t:TypeId) (x ix:AV):Option (AV × Prop) :=
 match x,ix with
 | .one (.c (.str s)), .one (.c (.int _ i))=>match s[i.toNat]? with
  | some b=>some (.one (.c (.int .u8 b.toNat)),0<=i/\ti.kind t=some .string)
  | none=>none
 | _,_=>none
def ny (d:Nat):Option AV->Option Int
 | none=>some d
 | some (.one (.c (.int _ i)))=>some i
 | _=>none
def gp (ti:TI) (L:List Ob) (t:TypeId) (x:AV) (lo hi:Option AV):Option (AV × Prop) :=
 match x with
 | .one (.c (.str s))=>match ny 0 lo,ny s.size hi with
  | some l,some h=>some (.one (.c (.str (s.extract l.toNat h.toNat))),0<=l/\l<=h/\h<=s.size/\ti.kind t=some .string)
  | _,_=>none
 | .one (.sl id ver lo0 n)=>match L[id]?,(ti.elem t).bind ti.size with
  | some (.row ver' _ k'),some k=>match ny 0 lo,ny n hi with
   | some l,some h=>some (.one (.sl id ver (lo0+l.toNat) (h.toNat-l.toNat)),ver=ver'/\k=k'/\0<=l/\l<=h/\h<=n)
   | _,_=>none
  | _,_=>none
 | _=>match eU x,(ti.elem t).bind ti.size with
  | some es,some k=>match ny 0 lo,ny es.length hi with
   | some l,some h=>some (.one (.c (.lst ((es.take h.toNat).drop l.toNat))),0<=l/\l<=h/\h<=es.length /\ ∀ e∈es,e.length=k)
   | _,_=>none
  | _,_=>none
def GA (ti:TI) (t:TypeId) (x:AV):Option (AV × Prop) :=
 match x with
 | .one (.c (.str s))=>some (.one (.c (.int .i64 s.size)),ti.kind t=some .string)
 | _=>match eU x with
  | some es=>some (.one (.c (.int .i64 es.length)),(ti.elem t).isSome)
  | none=>none
def yO (mx:Bool):AV->AV->Option (AV × Prop)
 | .one (.c (.int k a)), .one (.c (.int _ b))=>some (.one (.c (.int k (if mx then (if b > a then b else a) else (if b<a then b else a)))),True)
 | _,_=>none
def splice (zs:List SV) (o:Nat) (xs:List SV):List SV:=zs.take o++xs++zs.drop (o+xs.length)
def oK (ti:TI) (t:TypeId):List SV->List (Nat × Option AV)->Option (List SV × Prop)
 | zs,[]=>some (zs,True)
 | zs,(i,v)::ps=>match v.bind AV.cells,ti.field t i with
  | some xs,some (o,ty)=>match oK ti t (splice zs o xs) ps with
   | some (r,φ)=>some (r,(ti.size ty=some xs.length/\o+xs.length<=zs.length)/\φ)
   | none=>none
  | _,_=>none
def F_:List (Option AV)->Option (List AC)
 | []=>some []
 | some (.one y)::xs=>match y.norm,F_ xs with
  | some z,some zs=>some (z::zs)
  | _,_=>none
 | _=>none
def pop (ti:TI) (ρ:Operand->Option AV) (L:List Ob):Op->Option (AV × Prop)
 | .move x=>match ρ x with
  | some v=>some (v,True)
  | none=>none
 | .assign x=>match ρ x with
  | some v=>some (v,True)
  | none=>none
 | .pick c a b=>match ρ c,ρ a,ρ b with
  | some (.one (.c (.bool t))),some va,some vb=>some (if t=true then va else vb,True)
  | _,_,_=>none
 | .binOp op t x y _=>match ρ x,ρ y with
  | some va,some vb=>AY ti op t va vb
  | _,_=>none
 | .unOp op _ x=>match op,ρ x with
  | .not,some (.one (.c (.bool b)))=>some (.one (.c (.bool !b)),True)
  | .neg,some (.one (.c (.int k n)))=>some (.one (.c (.int k (k.wrap (0-n)))),True)
  | _,_=>none
 | .convert src dst x=>match ρ x with
  | some (.one (.c (.int _ n)))=>match ti.kind dst with
   | some (.int k)=>some (.one (.c (.int k (k.wrap n))),(ti.kind src).isSome)
   | _=>none
  | some (.one (.c (.str s)))=>some (.one (.c (.str s)),ti.kind dst=some .string/\(ti.kind src).isSome)
  | _=>none
 | .load t p=>(ρ p).bind (kg ti L t)
 | .fieldAddr s x i=>match ρ x with
  | some (.one (.ep id ver i0 off))=>gB ti L s i id ver i0 off
  | some vx=>kD ti s i vx
  | none=>none
 | .field s x i=>(ρ x).bind (wN ti s i)
 | .indexAddr t x ix=>match ρ x,ρ ix with
  | some (.one (.sl id ver lo n)),some vi=>gu ti L t id ver lo n vi
  | some vx,some vi=>iW ti t vx vi
  | _,_=>none
 | .index t x ix=>match ρ x,ρ ix with
  | some vx,some vi=>tX ti t vx vi
  | _,_=>none
 | .extract t i=>match ρ t with
  | some (.tup ps)=>match ps[i]? with
   | some p=>some (p.av,True)
   | none=>none
  | _=>none
 | .nilCheck x=>match ρ x with
  | some (.one (.c (.ref cs)))=>some (.one (.c (.ref cs)),True)
  | some (.one (.ptr id off))=>some (.one (.ptr id off),True)
  | some (.one (.ep id ver i o))=>match L[id]? with
   | some (.row ver' _ _)=>some (.one (.ep id ver i o),ver=ver')
   | _=>none
  | some (.one (.clo f cs))=>some (.one (.clo f cs),True)
  | some (.one (.c (.fn f cs)))=>some (.one (.c (.fn f cs)),True)
  | _=>none
 | .slice t x lo hi none=>match ρ x,lo.map ρ,hi.map ρ with
  | some v,none,none=>gp ti L t v none none
  | some v,some (some l),none=>gp ti L t v (some l) none
  | some v,none,some (some h)=>gp ti L t v none (some h)
  | some v,some (some l),some (some h)=>gp ti L t v (some l) (some h)
  | _,_,_=>none
 | .call { callee := .builtin .len,args,argTypes } => match args.toList,argTypes.toList with
  | [x],[t]=>match ρ x with
   | some (.one (.sl id ver _ n))=>jO ti L t id ver n
   | some vx=>GA ti t vx
   | none=>none
  | _,_=>none
 | .call { callee := .builtin .min,args, .. } => match args.toList.map ρ with
  | [some x,some y]=>yO false x y
  | _=>none
 | .call { callee := .builtin .max,args, .. } => match args.toList.map ρ with
  | [some x,some y]=>yO true x y
  | _=>none
 | .build t parts=>match ti.zero t with
  | some (.agg zs)=>match oK ti t zs (parts.toList.map fun p=>(p.1,ρ p.2)) with
   | some (r,φ)=>some (.agg r,ti.struct t=true/\φ)
   | none=>none
  | _=>none
 | .makeFunc (.func f) first captured=>match first.toList,F_ (captured.toList.map ρ) with
  | [],some cs=>some (.one (.c (.fn f cs)),True)
  | _,_=>none
 | _=>none
def TW (P:Program) (t:TypeId) (k:Nat):Prop := ∃ i z,P.info? t=some i/\i.zero=some z/\i.size=k/\z.cells.size=k
def rA (P:Program) (t:TypeId):Option Nat:=(P.info? t).map (·.bytes)
structure TIok (P:Program) (ti:TI):Prop where
 size : ∀ t n,ti.size t=some n->gT P t=some n
 agg : ∀ t b,ti.agg t=some b->OM P t=some b
 elem : ∀ t e,ti.elem t=some e->sF P t=some e
 field : ∀ s i r,ti.field s i=some r->zX P s i=some r
 zero : ∀ t v,ti.zero t=some v->zeroOf P t=some v
 bytes : ∀ t n,ti.bytes t=some n->rA P t=some n
 kind : ∀ t d,ti.kind t=some d->P.underlying t=some d
 struct : ∀ t,ti.struct t=true->E_ P t=true
 zok : ∀ t,ti.zok t=true -> ∀ k,gT P t=some k->TW P t k
 eqs : ∀ t sh,ti.eqs t=some sh->P.eqGuardType P.depth t=false /\ ∀ xs ys,gy sh xs=true->gy sh ys=true->QC P t xs ys
theorem TIok.es {P:Program} {ti:TI} (h:TIok P ti) {t n:Nat} (e:(ti.elem t).bind ti.size=some n):(sF P t).bind (gT P)=some n:=by
 cases he:ti.elem t with
 | none=>simp [he] at e
 | some E=>simp only [he,adH] at e;rw [h.elem _ _ he];exact h.size _ _ e
def xy (P:Program) (B:Nat->Prop) (R:PH) (γ:List Gh) (L:List Ob) (w:World) (s:Sem Next) (v:AV):Prop :=
 ∃ u w' R',s.run P w = .ok (.value u) w'/\Inv B R' γ L w'/\Ext B R R' w w'/\v.rep R' γ L u
section
variable {P:Program} {B:Nat->Prop} {R:PH} {γ:List Gh} {L:List Ob} {w:World}
theorem xy.quiet (hi:Inv B R γ L w) {s:Sem Value} {v:AV} {u:Value} (h:s.run P w = .ok u w) (hr:v.rep R γ L u):xy P B R γ L w (do pure (.value (<- s))) v :=
 ⟨u,w,R,by simp [h],hi,Ext.refl _ _ _,hr⟩
theorem IG : ∀ {xs:List SV} {us:List Value}, (iH xs).isSome->us.length=xs.length->(∀ (j:Nat) u x,us[j]?=some u->xs[j]?=some x->x.rep R γ L u)->iH xs=some us
 | [],us,_,hl,_=>by cases us with|nil=>rfl|cons=>simp at hl
 | x::xs,us,h,hl,hr=>by
  cases us with
  | nil=>simp at hl
  | cons u us =>
   have h0:=hr 0 u x rfl rfl
   cases x with
   | c y =>
    unfold iH at h ⊢
    cases hs:iH xs with
    | none=>rw [hs] at h;cases y<;>simp [Jp] at h
    | some vs =>
     have ih:=IG (xs:=xs) (us:=us) (by simp [hs]) (by simpa using hl) fun j u x hu hx=>hr (j+1) u x (by simpa using hu) (by simpa using hx)
     rw [hs] at ih
     injection ih with ih
     subst ih
     cases y with
     | bool b=>cases h0;rfl
     | int k n=>cases h0;rfl
     | str s=>cases h0;rfl
     | lst es=>rw [hs] at h;simp [Jp] at h
     | ref cs=>rw [hs] at h;simp [Jp] at h
     | fn f cs=>rw [hs] at h;simp [Jp] at h
     | nul k=>rw [hs] at h;simp [Jp] at h
   | emp=>simp [iH] at h
   | own es t=>simp [iH] at h
   | ptr id off=>simp [iH] at h
   | sl id ver lo n=>simp [iH] at h
   | ep id ver i o=>simp [iH] at h
   | mp id=>simp [iH] at h
   | clo f caps=>simp [iH] at h
theorem run_equal_bool {t:TypeId} {a b:Bool} (h:P.underlying t=some .bool):(Op.equal t (.bool a) (.bool b)).run P w = .ok (a==b) w:=by
 have e:Op.maxDepth=9999+1:=rfl
 unfold Op.equal
 rw [e,Op.equalIn]
 simp [underlying,program,Sem.run,h]
theorem Mf {ti:TI} (hti:TIok P ti) (hi:Inv B R γ L w) {op:BinOp} {t:TypeId} {x y:Operand} {va vb v:AV} {φ:Prop} {u1 u2:Value} (h1:va.rep R γ L u1) (h2:vb.rep R γ L u2)
  (h:AY ti op t va vb=some (v,φ)) (hφ:φ) : ∃ u,((do eqGuard op t x y u1 u2;binOp op t u1 u2:Sem Value)).run P w = .ok u w/\v.rep R γ L u:=by
 unfold AY at h
 split at h
 ·rename_i k a k' b
  cases h1;cases h2
  split at h
  ·rename_i r ψ hop
   injection h with h;injection h with e1 e2
   subst e1 e2
   obtain ⟨u,hu1,hu2⟩:=Mw (P:=P) (w:=w) (t:=t) (x:=x) (y:=y) hop hφ
   exact ⟨u,hu1,hu2 R⟩
  ·split at h
   ·rename_i r ψ hkk hop
    injection h with h;injection h with e1 e2
    subst e1 e2
    have hkk:=aea hkk
    subst hkk
    obtain ⟨u,hu1,hu2⟩:=JI (P:=P) (w:=w) (t:=t) (x:=x) (y:=y) hop hφ
    exact ⟨u,hu1,hu2 R⟩
   ·cases h
 ·rename_i a b
  cases h1;cases h2
  split at h
  ·rename_i r ψ hop
   injection h with h;injection h with e1 e2
   subst e1 e2
   obtain ⟨u,hu1,hu2⟩:=J3 (P:=P) (w:=w) (t:=t) (x:=x) (y:=y) hop hφ
   exact ⟨u,hu1,hu2 R⟩
  ·cases h
 ·rename_i a b
  cases h1;cases h2
  split at h<;>first|(injection h with h;injection h with e1 e2;subst e1 e2)|(cases h;done)
  ·exact ⟨.bool (a==b),by simp [eqGuard,binOp,run_equal_bool (hti.kind _ _ hφ)], .bool _⟩
  ·exact ⟨.bool (!(a==b)),by simp [eqGuard,binOp,run_equal_bool (hti.kind _ _ hφ)], .bool _⟩
 ·rename_i xs ys
  obtain ⟨vs,rfl,h1s,h1r⟩:=h1
  obtain ⟨us,rfl,h2s,h2r⟩:=h2
  split at h
  case h_2=>cases h
  rename_i sh hsh
  split at h<;>first|(injection h with h;injection h with e1 e2;subst e1 e2)|(cases h;done)
  all_goals
   obtain ⟨hf1,hf2⟩:=hφ
   obtain ⟨hg,hEE⟩:=hti.eqs _ _ hsh
   have hE:=hEE xs ys hf1 hf2
   have hx:=mf hf1
   have hy:=mf hf2
   have ex:=IG (us:=vs.toList) hx (by simpa using h1s) fun j u x hu=>h1r j u x (by simpa using hu)
   have ey:=IG (us:=us.toList) hy (by simpa using h2s) fun j u x hu=>h2r j u x (by simpa using hu)
   have hrun:=hE _ _ ex ey w
   simp only [Array.toArray_toList] at hrun
  ·exact ⟨.bool (dw xs ys),by simp [eqGuard,binOp,go_sem,hg,hrun], .bool _⟩
  ·exact ⟨.bool (!dw xs ys),by simp [eqGuard,binOp,go_sem,hg,hrun], .bool _⟩
 ·cases h
end
end Go.Proofs.YtfccopdbgfdcdaaGreatDoor
