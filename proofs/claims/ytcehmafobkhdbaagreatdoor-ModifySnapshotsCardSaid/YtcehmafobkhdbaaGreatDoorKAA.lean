/- Parts of the proof, joined. No condition. -/
import Derived.WalkKit
import Derived.Orders
import Derived.Deep.MidRow
import Derived.Deep.AppendSrc
import Derived.Great.BuildSlice
import Derived.Great.FillDense
set_option linter.unusedSimpArgs false
set_option linter.unusedVariables false
namespace Go.Proofs.YtcehmafobkhdbaaGreatDoor
abbrev agU := @Option.bind_some
abbrev agV := @List.getElem?_eq_some_iff
abbrev agW := @cond_false
abbrev agX := @cond_true
abbrev agY := @decide_eq_false
abbrev agZ := @decide_eq_true
abbrev ag0 := @List.nil_append
abbrev ag1 := @List.mem_of_getElem?
abbrev ag2 := @List.getElem?_append_right
abbrev ag3 := @List.length_append
abbrev ag4 := @List.getElem?_eq_getElem
abbrev ag5 := @Nat.le_of_ble_eq_true
abbrev ag6 := @List.map_cons
abbrev ag7 := @List.length_map
abbrev ag8 := @List.map_append
abbrev ag9 := @List.getElem?_append_left
abbrev ag_ := @List.map_nil
abbrev ag' := @Nat.le_refl
abbrev aha := @List.mem_cons
abbrev ahb := @Bool.and_eq_true
abbrev ahc := @List.getElem?_set_self
abbrev ahd := @List.getElem?_set_ne
abbrev ahe := @Nat.zero_le
abbrev ahf := @List.length_cons
abbrev ahg := @List.getElem?_map
abbrev ahh := @List.mem_cons_of_mem
abbrev ahi := @Array.getElem?_eq_getElem
abbrev ahj := @List.eq_nil_of_length_eq_zero
abbrev ahk := @List.append_assoc
abbrev ahl := @List.mem_append
abbrev ahm := @of_decide_eq_true
abbrev ahn := @List.getElem?_take
abbrev aho := @List.length_nil
abbrev ahp := @List.drop_eq_getElem_cons
abbrev ahq := @Option.some.inj
abbrev ahr := @Bool.true_and
abbrev ahs := @List.append_nil
abbrev aht := @List.mem_map
abbrev ahu := @List.length_eq_zero_iff
abbrev ahv := @Nat.mul_le_mul_right
abbrev ahw := @List.flatMap_cons
abbrev ahx := @Nat.lt_of_lt_of_le
abbrev ahy := @List.take_of_length_le
abbrev ahz := @List.mem_singleton
abbrev ahA := @Option.isSome_iff_exists
abbrev ahB := @Nat.zero_add
abbrev ahC := @Array.getElem?_setIfInBounds_ne
abbrev ahD := @Array.getElem?_eq_some_iff
abbrev ahE := @List.take_append_drop
abbrev ahF := @List.getElem?_drop
abbrev ahG := @List.mem_cons_self
abbrev ahH := @List.getElem?_eq_none
abbrev ahI := @List.all_eq_true
abbrev ahJ := @List.foldl_cons
abbrev ahK := @List.length_take
abbrev ahL := @List.getD_eq_getElem?_getD
abbrev ahM := @Array.getElem?_setIfInBounds_self_of_lt
abbrev ahN := @List.forall_mem_cons
abbrev ahO := @List.drop_length
abbrev ahP := @List.pairwise_cons
abbrev ahQ := @List.mem_of_mem_take
open Go.RowKit
inductive Nul where
 | ptr
 | iface
 | map
 | func
 deriving Inhabited,DecidableEq
def Nul.val:Nul->Value
 | .ptr => .pointer none
 | .iface => .nilIface
 | .map => .map none
 | .func => .nilFunc
inductive AC where
 | nul (k:Nul)
 | bool (b:Bool)
 | int (k:IntKind) (n:Int)
 | str (s:ByteArray)
 | lst (es:List (List AC))
 | ref (cs:List AC)
 | fn (f:FuncId) (caps:List AC)
 deriving Inhabited
abbrev PHf:=Nat->Nat->Option Value
def aer:Nat:=1
def rX (o:Nat):Option Value:=if o<20 then some (.int .u64 (10 ^ o)) else none
def kK (f:PHf):Prop := ∀ o u,rX o=some u->f aer o=some u
theorem kK.mono {f g:PHf} (h:kK f) (k : ∀ b o u,f b o=some u->g b o=some u):kK g:=fun o u e=>k _ _ _ (h o u e)
structure PH where
 fn:PHf
 tab:kK fn
instance : CoeFun PH (fun _ => PHf) := ⟨PH.fn⟩
def PH.sub (R R':PH):Prop := ∀ b o u,R b o=some u->R' b o=some u
def PH.put (R:PH) (f:PHf) (h : ∀ b o u,R b o=some u->f b o=some u):PH:=⟨f,R.tab.mono h⟩
theorem PH.sub_refl (R:PH):PH.sub R R:=fun _ _ _ h=>h
theorem PH.sub_trans {R R' R'':PH} (h:PH.sub R R') (g:PH.sub R' R''):PH.sub R R'':=fun b o u e=>g b o u (h b o u e)
inductive bP (R:PH):Value->AC->Prop
 | nul (k:Nul) (v:Value) (h:v=k.val):bP R v (.nul k)
 | bool (b:Bool):bP R (.bool b) (.bool b)
 | int (k:IntKind) (n:Int):bP R (.int k n) (.int k n)
 | str (s:ByteArray):bP R (.string s) (.str s)
 | lst (a:Option Addr) (n c:Nat) (es:List (List AC)) (k:Nat) (cv:Nat->Value) (b o:Nat) (hn:es.length=n) (hc:n<=c)
   (hk : ∀ e∈es,e.length=k) (ha:0<n->a=some ⟨b,o,none⟩) (hr : ∀ j,j<n*k->R b (o+j)=some (cv j))
   (he : ∀ (i:Nat) e (j:Nat) x,es[i]?=some e->e[j]?=some x->bP R (cv (i*k+j)) x):bP R (.slice a n c) (.lst es)
 | ref (b o:Nat) (cs:List AC) (cv:Nat->Value) (hr : ∀ j,j<cs.length->R b (o+j)=some (cv j))
   (he : ∀ (j:Nat) x,cs[j]?=some x->bP R (cv j) x):bP R (.pointer (some ⟨b,o,none⟩)) (.ref cs)
 | fn (f:FuncId) (caps:Array Value) (cs:List AC) (hs:caps.size=cs.length)
   (he : ∀ (j:Nat) v x,caps[j]?=some v->cs[j]?=some x->bP R v x):bP R (.func (.func f) #[] caps) (.fn f cs)
theorem bP.mono {R R':PH} (h:PH.sub R R') : ∀ {v x}, bP R v x->bP R' v x:=by
 intro v x hx
 induction hx with
 | nul k v h=>exact .nul k v h
 | bool b=>exact .bool b
 | int k n=>exact .int k n
 | str s=>exact .str s
 | lst a n c es k cv b o hn hc hk ha hr _ ih=>exact .lst a n c es k cv b o hn hc hk ha (fun j hj=>h _ _ _ (hr j hj)) ih
 | ref b o cs cv hr _ ih=>exact .ref b o cs cv (fun j hj=>h _ _ _ (hr j hj)) ih
 | fn f caps cs hs _ ih=>exact .fn f caps cs hs ih
inductive Cap where
 | c (x:AC)
 | ptr (id off:Nat)
 deriving Inhabited
inductive SV where
 | c (x:AC)
 | emp
 | own (es:List (List AC)) (t:Nat)
 | ptr (id off:Nat)
 | sl (id ver lo n:Nat)
 | ep (id ver i o:Nat)
 | mp (id:Nat)
 | clo (f:FuncId) (caps:List Cap)
 deriving Inhabited
inductive PV where
 | one (x:AC)
 | agg (xs:List AC)
 deriving Inhabited
inductive CV where
 | val (p:PV)
 | tup (ps:List PV)
 deriving Inhabited
inductive AV where
 | one (x:SV)
 | agg (xs:List SV)
 | tup (ps:List PV)
 | tupS (xs:List SV)
 | undef
 deriving Inhabited
inductive Ob where
 | box (cs:List SV)
 | spare (n k:Nat)
 | row (ver:Nat) (es:List (List SV)) (k:Nat)
 | map (kvs:List (AC × AV))
 | dead
 deriving Inhabited
inductive Gh where
 | none
 | box (b:Nat)
 | arr (b c:Nat)
def Gh.block:Gh->Option Nat
 | .none=>Option.none
 | .box b=>some b
 | .arr b _=>some b
def Link (n:Nat) (v:Value):Gh->Prop
 | .none => ∃ a,v = .slice a 0 0
 | .arr b c=>v = .slice (some ⟨b,0,Option.none⟩) n c
 | .box _=>False
def Cap.rep (R:PH) (γ:List Gh):Cap->Value->Prop
 | .c x,v=>bP R v x
 | .ptr id off,v => ∃ b,v = .pointer (some ⟨b,off,none⟩)/\γ[id]?=some (.box b)
def agp (k lo n:Nat) (v:Value):Gh->Prop
 | .none=>v = .slice none 0 0/\n=0/\lo=0
 | .arr b c=>v = .slice (some ⟨b,lo*k,Option.none⟩) n (c-lo)\/(c=lo/\n=0 /\ ∃ a,v = .slice a 0 0)
 | .box _=>False
def aft (k i o:Nat) (v:Value):Gh->Prop
 | .arr b _=>v = .pointer (some ⟨b,i*k+o,Option.none⟩)
 | _=>False
def SV.rep (R:PH) (γ:List Gh) (L:List Ob):SV->Value->Prop
 | .c x,v=>bP R v x
 | .emp,v => ∃ a,v = .slice a 0 0
 | .own es t,v=>bP R v (.lst es)/\t<L.length /\ ∀ n k,L[t]?=some (.spare n k)->es.length<=n/\(∀ e∈es,e.length=k)/\(es.length=n -> ∃ g,γ[t]?=some g/\Link n v g)
 | .ptr id off,v => ∃ b,v = .pointer (some ⟨b,off,none⟩)/\γ[id]?=some (.box b)
 | .sl id ver lo n,v=>(v.cells = #[v]/\v.oneCell'=true)/\id<L.length /\ ∀ ver' es k,L[id]?=some (.row ver' es k)->ver<=ver'/\(ver=ver'->lo+n<=es.length /\ ∃ g,γ[id]?=some g/\agp k lo n v g)
 | .ep id ver i o,v=>(v.cells = #[v]/\v.oneCell'=true)/\id<L.length /\ ∀ ver' es k,L[id]?=some (.row ver' es k)->ver<=ver'/\(ver=ver'->i<es.length /\ ∃ g,γ[id]?=some g/\aft k i o v g)
 | .mp id,v => ∃ b,v = .map (some b)/\γ[id]?=some (.box b)
 | .clo f caps,v => ∃ vs:Array Value,v = .func (.func f) #[] vs/\vs.size=caps.length /\ ∀ (j:Nat) u x,vs[j]?=some u->caps[j]?=some x->x.rep R γ u
def PV.rep (R:PH):PV->Value->Prop
 | .one x,v=>bP R v x
 | .agg xs,v => ∃ vs:Array Value,v = .agg vs/\vs.size=xs.length /\ ∀ (j:Nat) u x,vs[j]?=some u->xs[j]?=some x->bP R u x
def CV.rep (R:PH):CV->Value->Prop
 | .val p,v=>p.rep R v
 | .tup ps,v => ∃ vs:Array Value,v = .tuple vs/\vs.size=ps.length /\ ∀ (j:Nat) u p,vs[j]?=some u->ps[j]?=some p->p.rep R u
def AV.rep (R:PH) (γ:List Gh) (L:List Ob):AV->Value->Prop
 | .one x,v=>x.rep R γ L v
 | .agg xs,v => ∃ vs:Array Value,v = .agg vs/\vs.size=xs.length /\ ∀ (j:Nat) u x,vs[j]?=some u->xs[j]?=some x->x.rep R γ L u
 | .tup ps,v => ∃ vs:Array Value,v = .tuple vs/\vs.size=ps.length /\ ∀ (j:Nat) u p,vs[j]?=some u->ps[j]?=some p->p.rep R u
 | .tupS xs,v => ∃ vs:Array Value,v = .tuple vs/\vs.size=xs.length /\ ∀ (j:Nat) u x,vs[j]?=some u->xs[j]?=some x->x.rep R γ L u
 | .undef,v=>v=Go.undef
def qU (R:PH) (γ:List Gh) (L:List Ob) (w:World):Ob->Gh->Prop
 | .box cs, .box b=>(∃ vs E,w.heap[b]?=some (.cells vs E (0,0))/\vs.size=cs.length /\ ∀ (j:Nat) u x,vs[j]?=some u->cs[j]?=some x->x.rep R γ L u) /\ ∀ o,R b o=none
 | .spare n k, .arr b c=>(∃ vs E,w.heap[b]?=some (.cells vs E (0,0))/\vs.size=c*k)/\n<=c/\0<k /\ ∀ o,n*k<=o->R b o=none
 | .spare n _, .none=>n=0
 | .row ver es k, .arr b c=>(∃ vs E,(w.heap[b]?=some (.cells vs E (0,0))/\E=ver%65536/\65536<=ver)/\vs.size=c*k /\ ∀ (i:Nat) e (j:Nat) u x,es[i]?=some e->vs[i*k+j]?=some u->e[j]?=some x->x.rep R γ L u)/\es.length<=c/\0<k/\(∀ e∈es,e.length=k) /\ ∀ o,R b o=none
 | .row _ es _, .none=>es=[]
 | .map kvs, .box b=>(∃ es,w.heap[b]?=some (.map es es.size)/\es.size=kvs.length /\ ∀ (j:Nat) e p,es[j]?=some e->kvs[j]?=some p->e.born=j/\bP R e.key p.1/\p.2.rep R γ L e.val) /\ ∀ o,R b o=none
 | .dead, .none=>True
 | .dead, .box _=>True
 | _,_=>False
structure Inv (B:Nat->Prop) (R:PH) (γ:List Gh) (L:List Ob) (w:World):Prop where
 len:γ.length=L.length
 val : ∀ b o u,R b o=some u->w.cell? ⟨b,o,none⟩=some u
 obj : ∀ (id:Nat) x g,L[id]?=some x->γ[id]?=some g->qU R γ L w x g
 inj : ∀ (i j:Nat) gi gj,γ[i]?=some gi->γ[j]?=some gj->i≠j -> ∀ b,gi.block=some b->gj.block≠some b
 new : ∀ (i:Nat) g b,γ[i]?=some g->g.block=some b -> ¬ B b/\b<w.heap.size
 bsz : ∀ b,B b->b<w.heap.size
abbrev Tm:=List (Nat × AV)
structure lW (N:Nat) (R:PH) (γ:List Gh) (L:List Ob) (T:Tm) (a:Act):Prop where
 size:a.tmps.size=N
 defers:a.defers=[]
 slot : ∀ (t:Nat) x,T.lookup t=some x -> ∃ u,a.tmps[t]?=some u/\x.rep R γ L u
structure Kept (B:Nat->Prop) (w w':World):Prop where
 os:w'.os=w.os
 tape:w'.tape=w.tape
 output:w'.output=w.output
 size:w.heap.size<=w'.heap.size
 block : ∀ b,B b->w'.heap[b]?=w.heap[b]?
theorem Kept.refl (B:Nat->Prop) (w:World):Kept B w w:=⟨rfl,rfl,rfl,ag' _,fun _ _=>rfl⟩
theorem Kept.trans {B:Nat->Prop} {a b c:World} (h:Kept B a b) (k:Kept B b c):Kept B a c :=
 ⟨k.os.trans h.os,k.tape.trans h.tape,k.output.trans h.output,Nat.le_trans h.size k.size,fun i hi=>(k.block i hi).trans (h.block i hi)⟩
theorem Kept.mono {B B':Nat->Prop} {w w':World} (h:Kept B w w') (hB : ∀ b,B' b->B b):Kept B' w w':=⟨h.os,h.tape,h.output,h.size,fun k hk=>h.block k (hB k hk)⟩
theorem Kept.below {n:Nat} {w w':World} (h:Kept (· < n) w w'):Below n w w':=⟨h.os,h.tape,h.output,h.size,h.block⟩
theorem Kept.of {n:Nat} {w w':World} (h:Below n w w'):Kept (· < n) w w':=⟨h.os,h.tape,h.output,h.size,h.block⟩
structure Ext (B:Nat->Prop) (R R':PH) (w w':World):Prop where
 below:Kept B w w'
 sub:PH.sub R R'
 old : ∀ b o,B b->R' b o=R b o
theorem Ext.refl (B:Nat->Prop) (R:PH) (w:World):Ext B R R w w:=⟨Kept.refl _ _,PH.sub_refl _,fun _ _ _=>rfl⟩
theorem Ext.trans {B:Nat->Prop} {R R' R'':PH} {w w' w'':World} (h:Ext B R R' w w') (g:Ext B R' R'' w' w''):Ext B R R'' w w'' :=
 ⟨h.below.trans g.below,PH.sub_trans h.sub g.sub,fun b o hb=>(g.old b o hb).trans (h.old b o hb)⟩
theorem lt_of_cell {w:World} {b o:Nat} {u:Value} (h:w.cell? ⟨b,o,none⟩=some u):b<w.heap.size:=by
 unfold World.cell? at h
 simp only at h
 split at h
 ·rename_i hb;exact (ahD.1 hb).1
 ·cases h
structure Mv (R R':PH) (γ γ':List Gh) (L L':List Ob):Prop where
 sub:PH.sub R R'
 len:L.length<=L'.length
 tok : ∀ (t:Nat) n' k,t<L.length->L'[t]?=some (.spare n' k) -> ∃ n,L[t]?=some (.spare n k)/\n<=n'/\(n=n'->γ'[t]?=γ[t]?)
 row : ∀ (t:Nat) ver es' k,t<L.length->L'[t]?=some (.row ver es' k) -> ∃ ver0 es,L[t]?=some (.row ver0 es k)/\ver0<=ver/\(ver0=ver->es.length=es'.length/\γ'[t]?=γ[t]?)
 ptr : ∀ (id:Nat) b,γ[id]?=some (.box b)->γ'[id]?=some (.box b)
theorem Cap.mv {R R':PH} {γ γ':List Gh} (hs:PH.sub R R') (hp : ∀ (id:Nat) b,γ[id]?=some (.box b)->γ'[id]?=some (.box b)) : ∀ {x:Cap} {v:Value}, x.rep R γ v->x.rep R' γ' v
 | .c _,_,hx=>bP.mono hs hx
 | .ptr id _,_,⟨b,h1,h2⟩=>⟨b,h1,hp id b h2⟩
theorem SV.mv {R R':PH} {γ γ':List Gh} {L L':List Ob} (h:Mv R R' γ γ' L L') : ∀ {x:SV} {v:Value}, x.rep R γ L v->x.rep R' γ' L' v
 | .c _,_,hx=>bP.mono h.sub hx
 | .emp,_,hx=>hx
 | .own es t,v,⟨h1,hlt,h2⟩=>by
  refine ⟨bP.mono h.sub h1,ahx hlt h.len,fun n' k e=>?_⟩
  obtain ⟨n,g1,g2,g3⟩:=h.tok t n' k hlt e
  obtain ⟨h3,h5,h4⟩:=h2 n k g1
  refine ⟨by omega,h5,fun e=>?_⟩
  have:n=n':=by omega
  rw [g3 this, <- this]
  exact h4 (by omega)
 | .ptr id off,v,⟨b,h1,h2⟩=>⟨b,h1,h.ptr id b h2⟩
 | .sl id ver lo n,v,⟨h1,hlt,h2⟩=>by
  refine ⟨h1,ahx hlt h.len,fun ver' es' k e=>?_⟩
  obtain ⟨ver0,es,g1,g2,g3⟩:=h.row id ver' es' k hlt e
  obtain ⟨h3,h4⟩:=h2 ver0 es k g1
  refine ⟨by omega,fun e=>?_⟩
  obtain ⟨g4,g5⟩:=g3 (by omega)
  rw [g5, <- g4]
  exact h4 (by omega)
 | .ep id ver i o,v,⟨h1,hlt,h2⟩=>by
  refine ⟨h1,ahx hlt h.len,fun ver' es' k e=>?_⟩
  obtain ⟨ver0,es,g1,g2,g3⟩:=h.row id ver' es' k hlt e
  obtain ⟨h3,h4⟩:=h2 ver0 es k g1
  refine ⟨by omega,fun e=>?_⟩
  obtain ⟨g4,g5⟩:=g3 (by omega)
  rw [g5, <- g4]
  exact h4 (by omega)
 | .mp id,v,⟨b,h1,h2⟩=>⟨b,h1,h.ptr id b h2⟩
 | .clo f caps,v,⟨vs,h1,h2,h3⟩=>⟨vs,h1,h2,fun j u x hu hx=>Cap.mv h.sub h.ptr (h3 j u x hu hx)⟩
theorem PV.mono {R R':PH} (h:PH.sub R R') : ∀ {p:PV} {v:Value}, p.rep R v->p.rep R' v
 | .one _,_,hx=>bP.mono h hx
 | .agg _,_,⟨vs,h1,h2,h3⟩=>⟨vs,h1,h2,fun j u x hu hx=>bP.mono h (h3 j u x hu hx)⟩
theorem CV.mono {R R':PH} (h:PH.sub R R') : ∀ {p:CV} {v:Value}, p.rep R v->p.rep R' v
 | .val _,_,hx=>PV.mono h hx
 | .tup _,_,⟨vs,h1,h2,h3⟩=>⟨vs,h1,h2,fun j u x hu hx=>PV.mono h (h3 j u x hu hx)⟩
theorem AV.mv {R R':PH} {γ γ':List Gh} {L L':List Ob} (h:Mv R R' γ γ' L L') : ∀ {x:AV} {v:Value}, x.rep R γ L v->x.rep R' γ' L' v
 | .one _,_,hx=>SV.mv h hx
 | .agg _,_,⟨vs,h1,h2,h3⟩=>⟨vs,h1,h2,fun j u x hu hx=>SV.mv h (h3 j u x hu hx)⟩
 | .tup _,_,⟨vs,h1,h2,h3⟩=>⟨vs,h1,h2,fun j u x hu hx=>PV.mono h.sub (h3 j u x hu hx)⟩
 | .tupS _,_,⟨vs,h1,h2,h3⟩=>⟨vs,h1,h2,fun j u x hu hx=>SV.mv h (h3 j u x hu hx)⟩
 | .undef,_,hx=>hx
theorem Mv.refl {R:PH} {γ:List Gh} {L:List Ob} : Mv R R γ γ L L:=⟨PH.sub_refl _,ag' _,fun _ n _ _ h=>⟨n,h,ag' _,fun _=>rfl⟩,fun _ ver es _ _ h=>⟨ver,es,h,ag' _,fun _=>⟨rfl,rfl⟩⟩,fun _ _ h=>h⟩
theorem Mv.of_sub {R R':PH} {γ:List Gh} {L:List Ob} (h:PH.sub R R'):Mv R R' γ γ L L:=⟨h,ag' _,fun _ n _ _ h=>⟨n,h,ag' _,fun _=>rfl⟩,fun _ ver es _ _ h=>⟨ver,es,h,ag' _,fun _=>⟨rfl,rfl⟩⟩,fun _ _ h=>h⟩
theorem Mv.trans {R R' R'':PH} {γ γ' γ'':List Gh} {L L' L'':List Ob} (h:Mv R R' γ γ' L L') (g:Mv R' R'' γ' γ'' L' L''):Mv R R'' γ γ'' L L'' :=
 ⟨PH.sub_trans h.sub g.sub,Nat.le_trans h.len g.len,fun t n2 k hlt e=>by
  obtain ⟨n1,b1,b2,b3⟩:=g.tok t n2 k (ahx hlt h.len) e
  obtain ⟨n,a1,a2,a3⟩:=h.tok t n1 k hlt b1
  exact ⟨n,a1,by omega,fun e=>(b3 (by omega)).trans (a3 (by omega))⟩,fun t v e2 k hlt e=>by
  obtain ⟨v1,e1,b1,b2,b3⟩:=g.row t v e2 k (ahx hlt h.len) e
  obtain ⟨v0,e0,a1,a2,a3⟩:=h.row t v1 e1 k hlt b1
  exact ⟨v0,e0,a1,by omega,fun e=>⟨(a3 (by omega)).1.trans (b3 (by omega)).1,(b3 (by omega)).2.trans (a3 (by omega)).2⟩⟩,fun id b e=>g.ptr id b (h.ptr id b e)⟩
theorem lW.mv {N:Nat} {R R':PH} {γ γ':List Gh} {L L':List Ob} {T:Tm} {a:Act} (h:lW N R γ L T a) (m:Mv R R' γ γ' L L'):lW N R' γ' L' T a :=
 ⟨h.size,h.defers,fun t x e=>let ⟨u,h1,h2⟩:=h.slot t x e;⟨u,h1,AV.mv m h2⟩⟩
theorem qU.mv {R R':PH} {γ γ':List Gh} {L L':List Ob} {w w':World} {x:Ob} {g:Gh} (h:qU R γ L w x g) (m:Mv R R' γ γ' L L')
  (hw : ∀ b,g.block=some b->w'.heap[b]?=w.heap[b]?) (hR : ∀ b o,g.block=some b->R b o=none->R' b o=none):qU R' γ' L' w' x g:=by
 match x,g,h with
 | .box cs, .box b,⟨⟨vs,E,h1,h2,h3⟩,h4⟩=>exact ⟨⟨vs,E,(hw b rfl).trans h1,h2,fun j u x hu hx=>SV.mv m (h3 j u x hu hx)⟩,fun o=>hR b o rfl (h4 o)⟩
 | .spare n k, .arr b c,⟨⟨vs,E,h1,h2⟩,h3,h4,h5⟩=>exact ⟨⟨vs,E,(hw b rfl).trans h1,h2⟩,h3,h4,fun o ho=>hR b o rfl (h5 o ho)⟩
 | .spare n k, .none,h=>exact h
 | .row ver es k, .arr b c,⟨⟨vs,E,h1,h2,h3⟩,h4,h5,h6,h7⟩=>exact ⟨⟨vs,E,⟨(hw b rfl).trans h1.1,h1.2⟩,h2,fun i e j u x he hu hx=>SV.mv m (h3 i e j u x he hu hx)⟩,h4,h5,h6,fun o=>hR b o rfl (h7 o)⟩
 | .row ver es k, .none,h=>exact h
 | .map kvs, .box b,⟨⟨es,h1,h2,h3⟩,h4⟩=>exact ⟨⟨es,(hw b rfl).trans h1,h2,fun j e p he hp=>⟨(h3 j e p he hp).1,bP.mono m.sub (h3 j e p he hp).2.1,AV.mv m (h3 j e p he hp).2.2⟩⟩,fun o=>hR b o rfl (h4 o)⟩
 | .dead, .none,h=>exact h
 | .dead, .box _,h=>exact h
theorem ph_ {p:Prop} (h:p:=by repeat' (first|exact trivial|rfl|exact ag5 rfl|omega|apply And.intro)):p:=h
theorem fx_ {p:Prop} (hb:p) (h:p->False:=by first|decide|(intro h;simp at h;done)|(intro h;simp at h;omega)):False:=h hb
def jc (P:Program) (t:TypeId):Option Nat:=(P.info? t).map (·.size)
def P9 (P:Program) (t:TypeId):Option Bool :=
 match P.underlying t with
 | some (.struct _)=>some true
 | some (.array _ _)=>some true
 | some _=>some false
 | none=>none
def ui (P:Program) (t:TypeId):Option TypeId :=
 match P.underlying t with
 | some (.slice e)=>some e
 | _=>none
def Fy (P:Program) (s:TypeId) (i:Nat):Option (Nat × TypeId) :=
 match P.underlying s with
 | some (.struct fs)=>(fs[i]?).map fun f=>(f.offset,f.type)
 | _=>none
def SV.ofVal:Value->Option SV
 | .bool b=>some (.c (.bool b))
 | .int k n=>some (.c (.int k n))
 | .string s=>some (.c (.str s))
 | .slice none 0 0=>some .emp
 | .pointer none=>some (.c (.nul .ptr))
 | .nilIface=>some (.c (.nul .iface))
 | .map none=>some (.c (.nul .map))
 | .nilFunc=>some (.c (.nul .func))
 | _=>none
def svs:List Value->Option (List SV)
 | []=>some []
 | v::vs=>match SV.ofVal v,svs vs with
  | some x,some xs=>some (x::xs)
  | _,_=>none
def AV.ofVal:Value->Option AV
 | .agg vs=>(svs vs.toList).map .agg
 | v=>(SV.ofVal v).map .one
inductive Sc where
 | int (k:IntKind)
 | bool
 | str
 deriving DecidableEq
structure TI where
 size:Nat->Option Nat
 agg:Nat->Option Bool
 elem:Nat->Option Nat
 field:Nat->Nat->Option (Nat × Nat)
 zero:Nat->Option AV
 bytes:Nat->Option Nat
 kind:Nat->Option TypeDesc
 struct:Nat->Bool
 zok:Nat->Bool
 eqs:Nat->Option (List Sc)
 owns:Nat->Bool
 dyn:Bool:=false
 soft:Bool:=false
def look (T:Tm):Operand->Option AV
 | .tmp t=>T.lookup t
 | .const v=>AV.ofVal v
 | .global _=>none
 | .func f=>some (.one (.c (.fn f [])))
def aaA (op:BinOp) (k:IntKind) (a b:Int):Option (AC × Prop) :=
 match op with
 | .add=>some (.int k (k.wrap (a+b)),True)
 | .sub=>some (.int k (k.wrap (a-b)),True)
 | .mul=>some (.int k (k.wrap (a*b)),True)
 | .quo=>some (.int k (k.wrap (a.tdiv b)),b≠0)
 | .rem=>some (.int k (a.tmod b),b≠0)
 | .eql=>some (.bool (decide (a=b)),True)
 | .neq=>some (.bool (decide (a≠b)),True)
 | .lss=>some (.bool (decide (a<b)),True)
 | .leq=>some (.bool (decide (a<=b)),True)
 | .gtr=>some (.bool (decide (b<a)),True)
 | .geq=>some (.bool (decide (b<=a)),True)
 | .and=>some (.int k (k.wrap (BitVec.ofInt k.bits a &&& BitVec.ofInt k.bits b).toNat),True)
 | .or=>some (.int k (k.wrap (BitVec.ofInt k.bits a ||| BitVec.ofInt k.bits b).toNat),True)
 | _=>none
def aem (op:BinOp) (k:IntKind) (a b:Int):Option (AC × Prop) :=
 match op with
 | .shl=>some (.int k (k.wrap (a*2 ^ (min b.toNat k.bits))),0<=b)
 | .shr=>some (.int k (a.fdiv (2 ^ (min b.toNat k.bits))),0<=b)
 | _=>none
def aaY (op:BinOp) (a b:ByteArray):Option (AC × Prop) :=
 match op with
 | .add=>some (.str (a++b),a.size+b.size<=9223372036854775807)
 | .eql=>some (.bool (a.toList==b.toList),True)
 | .neq=>some (.bool (!(a.toList==b.toList)),True)
 | .lss=>some (.bool (Op.bytesLess a.toList b.toList),True)
 | .leq=>some (.bool (Op.bytesLess a.toList b.toList||a.toList==b.toList),True)
 | .gtr=>some (.bool (!(Op.bytesLess a.toList b.toList||a.toList==b.toList)),True)
 | .geq=>some (.bool (!Op.bytesLess a.toList b.toList),True)
 | _=>none
theorem Mi {R:PH} {a b:Bool} (h:a=b):bP R (.bool a) (.bool b):=by rw [h];exact .bool b
theorem Lt {P:Program} {w:World} {op:BinOp} {t:TypeId} {x y:Operand} {k:IntKind} {a b:Int} {r:AC} {φ:Prop} (h:aaA op k a b=some (r,φ)) (hφ:φ) :
  ∃ u,((do eqGuard op t x y (.int k a) (.int k b);binOp op t (.int k a) (.int k b):Sem Value)).run P w = .ok u w /\ ∀ R,bP R u r:=by
 cases op<;>first|(injection h with h;injection h with h1 h2;subst h1 h2)|(exact nomatch h)
 all_goals
  refine ⟨_,by simp (config := {decide:=true}) [eqGuard,binOp,Op.intArith,Op.intDiv,Op.intCmp,Op.intBits,go_sem,hφ];rfl,fun R=>?_⟩
  first|constructor|(apply Mi;simp [bne];rfl)
theorem N7 {P:Program} {w:World} {op:BinOp} {t:TypeId} {x y:Operand} {k k':IntKind} {a b:Int} {r:AC} {φ:Prop} (h:aem op k a b=some (r,φ)) (hφ:φ) :
  ∃ u,((do eqGuard op t x y (.int k a) (.int k' b);binOp op t (.int k a) (.int k' b):Sem Value)).run P w = .ok u w /\ ∀ R,bP R u r:=by
 cases op<;>first|(injection h with h;injection h with h1 h2;subst h1 h2)|(exact nomatch h)
 all_goals
  have hn : ¬ b<0:=by omega
  refine ⟨_,by simp [eqGuard,binOp,Op.shift,go_sem,hn];rfl,fun R=>?_⟩
  constructor
theorem LP {P:Program} {w:World} {op:BinOp} {t:TypeId} {x y:Operand} {a b:ByteArray} {r:AC} {φ:Prop} (h:aaY op a b=some (r,φ)) (hφ:φ) :
  ∃ u,((do eqGuard op t x y (.string a) (.string b);binOp op t (.string a) (.string b):Sem Value)).run P w = .ok u w /\ ∀ R,bP R u r:=by
 cases op<;>first|(injection h with h;injection h with h1 h2;subst h1 h2)|(exact nomatch h)
 case add =>
  refine ⟨.string (a++b),?_,fun R => .str _⟩
  have : ¬ (((a.size+b.size:Nat):Int) > IntKind.i64.max):=by
   show ¬ (((a.size+b.size:Nat):Int) > 9223372036854775807)
   omega
  simp only [eqGuard,binOp,Op.stringOp,if_neg this]
  simp (config := {decide:=true}) [go_sem]
 all_goals
  refine ⟨_,by simp (config := {decide:=true}) [eqGuard,binOp,Op.stringOp,go_sem];rfl,fun R=>?_⟩
  first|constructor|(apply Mi;simp)
def iF:List Cap->Option (List AC)
 | []=>some []
 | .c x::xs=>(iF xs).map (x :: ·)
 | _=>none
def SV.norm:SV->Option AC
 | .c x=>some x
 | .emp=>some (.lst [])
 | .own es _=>some (.lst es)
 | .clo f caps=>(iF caps).map (.fn f)
 | _=>none
def ni:List SV->Option (List AC)
 | []=>some []
 | x::xs=>match x.norm,ni xs with
  | some y,some ys=>some (y::ys)
  | _,_=>none
def AV.norm:AV->Option PV
 | .one x=>x.norm.map .one
 | .agg xs=>(ni xs).map .agg
 | _=>none
def AV.cells:AV->Option (List SV)
 | .one x=>some [x]
 | .agg xs=>some xs
 | _=>none
def PV.av:PV->AV
 | .one x => .one (.c x)
 | .agg xs => .agg (xs.map .c)
def CV.av:CV->AV
 | .val p=>p.av
 | .tup ps => .tup ps
section
variable {P:Program} {B:Nat->Prop} {R:PH} {γ:List Gh} {L:List Ob} {w:World}
theorem gp (R:PH) (a:Option Addr) (c:Nat):bP R (.slice a 0 c) (.lst []) :=
 .lst a 0 c [] 0 (fun _=>Go.undef) 0 0 rfl (ahe _) (fun _ h=>nomatch h) (fun h=>absurd h (by omega)) (fun j hj=>absurd hj (by omega)) (fun i e j x h=>by simp at h)
theorem EN : ∀ {xs:List Cap} {ys:List AC}, iF xs=some ys->xs.length=ys.length
 | [],ys,h=>by injection h with h;subst h;rfl
 | .c x::xs,ys,h=>by
  cases hq:iF xs with
  | none=>simp [iF,hq] at h
  | some zs=>simp [iF,hq] at h;subst h;simp [EN hq]
 | .ptr _ _::xs,ys,h=>by cases h
theorem Fz : ∀ {xs:List Cap} {ys:List AC}, iF xs=some ys -> ∀ (j:Nat) y,ys[j]?=some y->xs[j]?=some (.c y)
 | [],ys,h,j,y,hy=>by injection h with h;subst h;simp at hy
 | .c x::xs,ys,h,j,y,hy=>by
  cases hq:iF xs with
  | none=>simp [iF,hq] at h
  | some zs =>
   simp [iF,hq] at h;subst h
   cases j with
   | zero=>simpa using hy
   | succ j=>simpa using Fz hq j y (by simpa using hy)
 | .ptr _ _::xs,ys,h,j,y,hy=>by cases h
theorem SV.norm_rep {x:SV} {v:Value} {y:AC} (h:x.rep R γ L v) (hy:x.norm=some y):bP R v y:=by
 cases x with
 | c z=>injection hy with hy;subst hy;exact h
 | emp=>injection hy with hy;subst hy;obtain ⟨a,rfl⟩:=h;exact gp _ _ _
 | own es t=>injection hy with hy;subst hy;exact h.1
 | ptr id off=>cases hy
 | sl id ver lo n=>cases hy
 | ep id ver i o=>cases hy
 | mp id=>cases hy
 | clo f caps =>
  cases hq:iF caps with
  | none=>simp [SV.norm,hq] at hy
  | some cs =>
   simp [SV.norm,hq] at hy;subst hy
   obtain ⟨vs,rfl,h2,h3⟩:=h
   refine .fn f vs cs (by rw [h2,EN hq]) fun j v x hv hx=>?_
   exact h3 j v _ hv (Fz hq j x hx)
theorem kF : ∀ {xs:List SV} {ys:List AC}, ni xs=some ys->ys.length=xs.length
 | [],ys,h=>by injection h with h;subst h;rfl
 | x::xs,ys,h=>by
  unfold ni at h
  split at h
  ·rename_i y zs h1 h2
   injection h with h;subst h
   simp [kF h2]
  ·cases h
theorem qm : ∀ {xs:List SV} {ys:List AC}, ni xs=some ys -> ∀ (j:Nat) x y,xs[j]?=some x->ys[j]?=some y->x.norm=some y
 | [],ys,h,j,x,y,hx,hy=>by simp at hx
 | x0::xs,ys,h,j,x,y,hx,hy=>by
  unfold ni at h
  split at h
  ·rename_i y0 zs h1 h2
   injection h with h;subst h
   cases j with
   | zero=>simp at hx hy;subst hx hy;exact h1
   | succ j=>exact qm h2 j x y (by simpa using hx) (by simpa using hy)
  ·cases h
theorem AV.norm_rep {x:AV} {v:Value} {y:PV} (h:x.rep R γ L v) (hy:x.norm=some y):y.rep R v:=by
 cases x with
 | one x =>
  cases hn:x.norm with
  | none=>simp [AV.norm,hn] at hy
  | some z =>
   simp [AV.norm,hn] at hy
   subst hy
   exact SV.norm_rep h hn
 | agg xs =>
  cases hn:ni xs with
  | none=>simp [AV.norm,hn] at hy
  | some zs =>
   simp [AV.norm,hn] at hy
   subst hy
   obtain ⟨vs,h1,h2,h3⟩:=h
   refine ⟨vs,h1,by rw [h2,kF hn],fun j u y hu hy=>?_⟩
   have hj:j<xs.length:=by rw [<- h2];exact (ahD.1 hu).1
   exact SV.norm_rep (h3 j u _ hu (ag4 hj)) (qm hn j _ _ (ag4 hj) hy)
 | tup ps=>cases hy
 | tupS xs=>cases hy
 | undef=>cases hy
theorem PV.av_rep {p:PV} {v:Value} (h:p.rep R v):p.av.rep R γ L v:=by
 cases p with
 | one x=>exact h
 | agg xs =>
  obtain ⟨vs,h1,h2,h3⟩:=h
  refine ⟨vs,h1,by simp [h2],fun j u x hu hx=>?_⟩
  rw [ahg] at hx
  cases hx':xs[j]? with
  | none=>simp [hx'] at hx
  | some y=>simp [hx'] at hx;subst hx;exact h3 j u y hu hx'
theorem CV.av_rep {p:CV} {v:Value} (h:p.rep R v):p.av.rep R γ L v:=by
 cases p with
 | val p=>exact PV.av_rep h
 | tup ps=>exact h
theorem bP.one {v:Value} {x:AC} (h:bP R v x):v.cells = #[v]/\v.oneCell'=true:=by
 cases h<;>first|exact ⟨rfl,rfl⟩|(rename_i k h;subst h;cases k<;>exact ⟨rfl,rfl⟩)
theorem SV.rep_one {v:Value} {x:SV} (h:x.rep R γ L v):v.cells = #[v]/\v.oneCell'=true:=by
 cases x with
 | c x=>exact bP.one h
 | emp=>obtain ⟨a,rfl⟩:=h;exact ⟨rfl,rfl⟩
 | own es t=>exact bP.one h.1
 | ptr id off=>obtain ⟨b,rfl,_⟩:=h;exact ⟨rfl,rfl⟩
 | sl id ver lo n=>exact h.1
 | ep id ver i o=>exact h.1
 | mp id=>obtain ⟨b,rfl,_⟩:=h;exact ⟨rfl,rfl⟩
 | clo f caps=>obtain ⟨vs,rfl,_⟩:=h;exact ⟨rfl,rfl⟩
theorem SV.ofVal_rep {v:Value} {x:SV} (h:SV.ofVal v=some x):x.rep R γ L v:=by
 unfold SV.ofVal at h
 split at h<;>first|(cases h;done)|(injection h with h;subst h)
 ·exact .bool _
 ·exact .int _ _
 ·exact .str _
 ·exact ⟨_,rfl⟩
 ·exact .nul _ _ rfl
 ·exact .nul _ _ rfl
 ·exact .nul _ _ rfl
 ·exact .nul _ _ rfl
theorem UY : ∀ {vs:List Value} {xs:List SV}, svs vs=some xs->vs.length=xs.length
 | [],xs,h=>by injection h with h;subst h;rfl
 | v::vs,xs,h=>by
  unfold svs at h
  split at h
  ·rename_i h1 h2
   injection h with h;subst h
   simp [UY h2]
  ·cases h
theorem Vn : ∀ {vs:List Value} {xs:List SV}, svs vs=some xs -> ∀ (j:Nat) u x,vs[j]?=some u->xs[j]?=some x->x.rep R γ L u
 | [],xs,h,j,u,x,hu,hx=>by simp at hu
 | v::vs,xs,h,j,u,x,hu,hx=>by
  unfold svs at h
  split at h
  ·rename_i h1 h2
   injection h with h;subst h
   cases j with
   | zero=>simp at hu hx;subst hu hx;exact SV.ofVal_rep h1
   | succ j=>exact Vn h2 j u x (by simpa using hu) (by simpa using hx)
  ·cases h
theorem AV.ofVal_rep {v:Value} {x:AV} (h:AV.ofVal v=some x):x.rep R γ L v:=by
 unfold AV.ofVal at h
 split at h
 ·rename_i vs
  cases hs:svs vs.toList with
  | none=>simp [hs] at h
  | some xs =>
   simp [hs] at h;subst h
   exact ⟨vs,rfl,by rw [<- UY hs];simp,fun j u x hu hx=>Vn hs j u x (by simpa using hu) hx⟩
 ·rename_i hv
  cases hs:SV.ofVal v with
  | none=>simp [hs] at h
  | some y=>simp [hs] at h;subst h;exact SV.ofVal_rep hs
theorem Ib {N:Nat} {T:Tm} {a:Act} (hT:lW N R γ L T a) {x:Operand} {v:AV} (h:look T x=some v):v.rep R γ L (a.eval x):=by
 cases x with
 | tmp t =>
  obtain ⟨u,h1,h2⟩:=hT.slot t v h
  have:a.eval (.tmp t)=u:=by simp [Act.eval,Array.getD_eq_getD_getElem?,h1]
  rw [this];exact h2
 | const c=>exact AV.ofVal_rep h
 | global g=>cases h
 | func f =>
  injection h with h;subst h
  exact .fn f #[] [] rfl (fun j v x hv=>by simp at hv)
end
def LY:AC->Option Value
 | .bool b=>some (.bool b)
 | .int k n=>some (.int k n)
 | .str s=>some (.string s)
 | _=>none
def jJ:List SV->Option (List Value)
 | []=>some []
 | .c x::xs=>match LY x,jJ xs with
  | some v,some vs=>some (v::vs)
  | _,_=>none
 | _::_=>none
def dL:List SV->List SV->Bool
 | [],[]=>true
 | .c (.bool a)::xs, .c (.bool b)::ys=>(a==b)&&dL xs ys
 | .c (.int _ a)::xs, .c (.int _ b)::ys=>decide (a=b)&&dL xs ys
 | .c (.str a)::xs, .c (.str b)::ys=>(a.toList==b.toList)&&dL xs ys
 | _,_=>false
def Ty (P:Program) (t:TypeId) (xs ys:List SV):Prop :=
 ∀ vs us,jJ xs=some vs->jJ ys=some us -> ∀ w,(Op.equal t (.agg vs.toArray) (.agg us.toArray)).run P w = .ok (dL xs ys) w
def iE:List Sc->List SV->Bool
 | [],[]=>true
 | .int k::sh, .c (.int k' _)::xs=>decide (k=k')&&iE sh xs
 | .bool::sh, .c (.bool _)::xs=>iE sh xs
 | .str::sh, .c (.str _)::xs=>iE sh xs
 | _,_=>false
theorem oC : ∀ {sh:List Sc} {xs:List SV}, iE sh xs=true->(jJ xs).isSome
 | [],[],_=>rfl
 | .int k::sh, .c (.int k' n)::xs,h=>by
  simp only [iE,ahb] at h
  obtain ⟨vs,hv⟩:=ahA.1 (oC h.2)
  simp [jJ,LY,hv]
 | .bool::sh, .c (.bool b)::xs,h=>by
  obtain ⟨vs,hv⟩:=ahA.1 (oC (sh:=sh) (xs:=xs) h)
  simp [jJ,LY,hv]
 | .str::sh, .c (.str b)::xs,h=>by
  obtain ⟨vs,hv⟩:=ahA.1 (oC (sh:=sh) (xs:=xs) h)
  simp [jJ,LY,hv]
def G7 (P:Program) (t:TypeId):Bool :=
 match P.underlying t with
 | some (.struct fs)=>fs.all fun f=>(jc P f.type).isSome
 | _=>false
def zeroOf (P:Program) (t:TypeId):Option AV:=(P.info? t).bind fun i=>i.zero.bind AV.ofVal
def Ck (ti:TI) (op:BinOp) (t:TypeId):AV->AV->Option (AV × Prop)
 | .one (.c (.int k a)), .one (.c (.int k' b))=>match aem op k a b with
  | some (r,φ)=>some (.one (.c r),φ)
  | none=>match decide (k=k'),aaA op k a b with
   | true,some (r,φ)=>some (.one (.c r),φ)
   | _,_=>none
 | .one (.c (.str a)), .one (.c (.str b))=>match aaY op a b with
  | some (r,φ)=>some (.one (.c r),φ)
  | none=>none
 | .one (.c (.bool a)), .one (.c (.bool b))=>match op with
  | .eql=>some (.one (.c (.bool (a==b))),ti.kind t=some .bool)
  | .neq=>some (.one (.c (.bool (!(a==b)))),ti.kind t=some .bool)
  | _=>none
 | .agg xs, .agg ys=>match ti.eqs t with
  | some sh=>match op with
   | .eql=>some (.one (.c (.bool (dL xs ys))),iE sh xs=true/\iE sh ys=true)
   | .neq=>some (.one (.c (.bool (!dL xs ys))),iE sh xs=true/\iE sh ys=true)
   | _=>none
  | none=>none
 | _,_=>none
def lq (ti:TI) (L:List Ob) (t:TypeId):AV->Option (AV × Prop)
 | .one (.c (.ref cs))=>match ti.agg t,ti.size t with
  | some false,_=>match cs with
   | x::_=>some (.one (.c x),True)
   | []=>none
  | some true,some n=>some (.agg ((cs.take n).map .c),n<=cs.length)
  | _,_=>none
 | .one (.ptr id off)=>match L[id]? with
  | some (.box cs)=>match ti.agg t,ti.size t with
   | some false,_=>match cs[off]? with
    | some x=>some (.one x,True)
    | none=>none
   | some true,some n=>some (.agg ((cs.drop off).take n),off+n<=cs.length)
   | _,_=>none
  | _=>none
 | .one (.ep id ver i o)=>match L[id]? with
  | some (.row ver' es _)=>match es[i]?,ti.agg t,ti.size t with
   | some e,some false,_=>match e[o]? with
    | some x=>some (.one x,ver=ver')
    | none=>none
   | some e,some true,some n=>some (.agg ((e.drop o).take n),ver=ver'/\o+n<=e.length)
   | _,_,_=>none
  | _=>none
 | _=>none
def mK (ti:TI) (s:TypeId) (i0:Nat):AV->Option (AV × Prop)
 | .one (.c (.ref cs))=>match ti.field s i0 with
  | some (o,t)=>match ti.size t with
   | some (_+1)=>some (.one (.c (.ref (cs.drop o))),o<=cs.length)
   | _=>none
  | none=>none
 | .one (.ptr id off)=>match ti.field s i0 with
  | some (o,t)=>match ti.size t with
   | some (_+1)=>some (.one (.ptr id (off+o)),True)
   | _=>none
  | none=>none
 | _=>none
def yo (ti:TI) (s:TypeId) (i:Nat):AV->Option (AV × Prop)
 | .agg xs=>match ti.field s i with
  | some (o,t)=>match ti.agg t,ti.size t with
   | some false,_=>match xs[o]? with
    | some x=>some (.one x,True)
    | none=>none
   | some true,some n=>some (.agg ((xs.drop o).take n),o+n<=xs.length)
   | _,_=>none
  | none=>none
 | _=>none
def fZ:AV->Option (List (List AC))
 | .one (.c (.lst es))=>some es
 | .one (.own es _)=>some es
 | .one .emp=>some []
 | _=>none
def iH (ti:TI) (L:List Ob) (s:TypeId) (i0 id ver i off:Nat):Option (AV × Prop) :=
 match L[id]?,ti.field s i0 with
 | some (.row ver' _ _),some (o,t)=>match ti.size t with
  | some (_+1)=>some (.one (.ep id ver i (off+o)),ver=ver')
  | _=>none
 | _,_=>none
def ma (ti:TI) (L:List Ob) (t:TypeId) (id ver n:Nat):Option (AV × Prop) :=
 match L[id]? with
 | some (.row ver' _ _)=>some (.one (.c (.int .i64 n)),ver=ver'/\(ti.elem t).isSome)
 | _=>none
def iG (ti:TI) (L:List Ob) (t:TypeId) (id ver lo n:Nat) (ix:AV):Option (AV × Prop) :=
 match L[id]?,ix,(ti.elem t).bind ti.size with
 | some (.row ver' _ k'), .one (.c (.int _ i)),some k=>some (.one (.ep id ver (lo+i.toNat) 0),(ver=ver'/\k=k')/\0<=i/\i<n)
 | _,_,_=>none
def jZ (ti:TI) (t:TypeId) (x ix:AV):Option (AV × Prop) :=
 match fZ x,ix,(ti.elem t).bind ti.size with
 | some es, .one (.c (.int _ i)),some k=>match es[i.toNat]? with
  | some e=>some (.one (.c (.ref e)),0<=i/\e.length=k)
  | none=>none
 | _,_,_=>none
def rE (ti:TI) (t:TypeId) (x ix:AV):Option (AV × Prop) :=
 match x,ix with
 | .one (.c (.str s)), .one (.c (.int _ i))=>match s[i.toNat]? with
  | some b=>some (.one (.c (.int .u8 b.toNat)),0<=i/\ti.kind t=some .string)
  | none=>none
 | .agg zs, .one (.c (.int _ i))=>match ti.kind t with
  | some (.array n e)=>match ti.agg e,ti.size e with
   | some false,some k=>match zs[i.toNat*k]? with
    | some x=>some (.one x,0<=i/\i<(n:Int))
    | none=>none
   | some true,some k=>some (.agg ((zs.drop (i.toNat*k)).take k),(0<=i/\i<(n:Int))/\i.toNat*k+k<=zs.length)
   | _,_=>none
  | _=>none
 | _,_=>none
def pQ (d:Nat):Option AV->Option Int
 | none=>some d
 | some (.one (.c (.int _ i)))=>some i
 | _=>none
def iC (ti:TI) (L:List Ob) (t:TypeId) (x:AV) (lo hi:Option AV):Option (AV × Prop) :=
 match x with
 | .one (.c (.str s))=>match pQ 0 lo,pQ s.size hi with
  | some l,some h=>some (.one (.c (.str (s.extract l.toNat h.toNat))),0<=l/\l<=h/\h<=s.size/\ti.kind t=some .string)
  | _,_=>none
 | .one (.sl id ver lo0 n)=>match L[id]?,(ti.elem t).bind ti.size with
  | some (.row ver' _ k'),some k=>match pQ 0 lo,pQ n hi with
   | some l,some h=>some (.one (.sl id ver (lo0+l.toNat) (h.toNat-l.toNat)),ver=ver'/\k=k'/\0<=l/\l<=h/\h<=n)
   | _,_=>none
  | _,_=>none
 | _=>match fZ x,(ti.elem t).bind ti.size with
  | some es,some k=>match pQ 0 lo,pQ es.length hi with
   | some l,some h=>some (.one (.c (.lst ((es.take h.toNat).drop l.toNat))),0<=l/\l<=h/\h<=es.length /\ ∀ e∈es,e.length=k)
   | _,_=>none
  | _,_=>none
def KS (ti:TI) (t:TypeId) (x:AV):Option (AV × Prop) :=
 match x with
 | .one (.c (.str s))=>some (.one (.c (.int .i64 s.size)),ti.kind t=some .string)
 | _=>match fZ x with
  | some es=>some (.one (.c (.int .i64 es.length)),(ti.elem t).isSome)
  | none=>none
def zM (mx:Bool):AV->AV->Option (AV × Prop)
 | .one (.c (.int k a)), .one (.c (.int _ b))=>some (.one (.c (.int k (if mx then (if b > a then b else a) else (if b<a then b else a)))),True)
 | _,_=>none
def splice (zs:List SV) (o:Nat) (xs:List SV):List SV:=zs.take o++xs++zs.drop (o+xs.length)
def ES (ti:TI) (t:TypeId) (i:Nat):Option (Nat × TypeId) :=
 match ti.kind t with
 | some (.array _ e)=>(ti.size e).map fun k=>(i*k,e)
 | _=>ti.field t i
def bok (ti:TI) (t:TypeId):Bool :=
 match ti.kind t with
 | some (.array _ e)=>(ti.size e).isSome
 | _=>ti.struct t
def qH (ti:TI) (t:TypeId):List SV->List (Nat × Option AV)->Option (List SV × Prop)
 | zs,[]=>some (zs,True)
 | zs,(i,v)::ps=>match v.bind AV.cells,ES ti t i with
  | some xs,some (o,ty)=>match qH ti t (splice zs o xs) ps with
   | some (r,φ)=>some (r,(ti.size ty=some xs.length/\o+xs.length<=zs.length)/\φ)
   | none=>none
  | _,_=>none
def K9:List (Option AV)->Option (List AC)
 | []=>some []
 | some (.one y)::xs=>match y.norm,K9 xs with
  | some z,some zs=>some (z::zs)
  | _,_=>none
 | _=>none
def pop (ti:TI) (ρ:Operand->Option AV) (L:List Ob):Op->Option (AV × Prop)
 | .move x=>match ρ x with
  | some v=>some (v,True)
  | none=>none
 | .assign x=>match ρ x with
  | some v=>some (v,True)
  | none=>none
 | .pick c a b=>match ρ c,ρ a,ρ b with
  | some (.one (.c (.bool t))),some va,some vb=>some (if t=true then va else vb,True)
  | _,_,_=>none
 | .binOp op t x y _=>match ρ x,ρ y with
  | some va,some vb=>Ck ti op t va vb
  | _,_=>none
 | .unOp op _ x=>match op,ρ x with
  | .not,some (.one (.c (.bool b)))=>some (.one (.c (.bool !b)),True)
  | .neg,some (.one (.c (.int k n)))=>some (.one (.c (.int k (k.wrap (0-n)))),True)
  | _,_=>none
 | .convert src dst x=>match ρ x with
  | some (.one (.c (.int _ n)))=>match ti.kind dst with
   | some (.int k)=>some (.one (.c (.int k (k.wrap n))),(ti.kind src).isSome)
   | _=>none
  | some (.one (.c (.str s)))=>some (.one (.c (.str s)),ti.kind dst=some .string/\(ti.kind src).isSome)
  | _=>none
 | .load t p=>(ρ p).bind (lq ti L t)
 | .fieldAddr s x i=>match ρ x with
  | some (.one (.ep id ver i0 off))=>iH ti L s i id ver i0 off
  | some vx=>mK ti s i vx
  | none=>none
 | .field s x i=>(ρ x).bind (yo ti s i)
 | .indexAddr t x ix=>match ρ x,ρ ix with
  | some (.one (.sl id ver lo n)),some vi=>iG ti L t id ver lo n vi
  | some vx,some vi=>jZ ti t vx vi
  | _,_=>none
 | .index t x ix=>match ρ x,ρ ix with
  | some vx,some vi=>rE ti t vx vi
  | _,_=>none
 | .extract t i=>match ρ t with
  | some (.tup ps)=>match ps[i]? with
   | some p=>some (p.av,True)
   | none=>none
  | some (.tupS xs)=>match xs[i]? with
   | some x=>some (.one x,True)
   | none=>none
  | _=>none
 | .nilCheck x=>match ρ x with
  | some (.one (.c (.ref cs)))=>some (.one (.c (.ref cs)),True)
  | some (.one (.ptr id off))=>some (.one (.ptr id off),True)
  | some (.one (.ep id ver i o))=>match L[id]? with
   | some (.row ver' _ _)=>some (.one (.ep id ver i o),ver=ver')
   | _=>none
  | some (.one (.clo f cs))=>some (.one (.clo f cs),True)
  | some (.one (.c (.fn f cs)))=>some (.one (.c (.fn f cs)),True)
  | _=>none
 | .slice t x lo hi none=>match ρ x,lo.map ρ,hi.map ρ with
  | some v,none,none=>iC ti L t v none none
  | some v,some (some l),none=>iC ti L t v (some l) none
  | some v,none,some (some h)=>iC ti L t v none (some h)
  | some v,some (some l),some (some h)=>iC ti L t v (some l) (some h)
  | _,_,_=>none
 | .call { callee := .builtin .len,args,argTypes } => match args.toList,argTypes.toList with
  | [x],[t]=>match ρ x with
   | some (.one (.sl id ver _ n))=>ma ti L t id ver n
   | some vx=>KS ti t vx
   | none=>none
  | _,_=>none
 | .call { callee := .builtin .min,args, .. } => match args.toList.map ρ with
  | [some x,some y]=>zM false x y
  | _=>none
 | .call { callee := .builtin .max,args, .. } => match args.toList.map ρ with
  | [some x,some y]=>zM true x y
  | _=>none
 | .build t parts=>match ti.zero t with
  | some (.agg zs)=>match qH ti t zs (parts.toList.map fun p=>(p.1,ρ p.2)) with
   | some (r,φ)=>some (.agg r,bok ti t=true/\φ)
   | none=>none
  | _=>none
 | .makeFunc (.func f) first captured=>match first.toList,K9 (captured.toList.map ρ) with
  | [],some cs=>some (.one (.c (.fn f cs)),True)
  | _,_=>none
 | _=>none
def Vm (P:Program) (t:TypeId) (k:Nat):Prop := ∃ i z,P.info? t=some i/\i.zero=some z/\i.size=k/\z.cells.size=k
def uf (P:Program) (t:TypeId):Option Nat:=(P.info? t).map (·.bytes)
structure TIok (P:Program) (ti:TI):Prop where
 size : ∀ t n,ti.size t=some n->jc P t=some n
 agg : ∀ t b,ti.agg t=some b->P9 P t=some b
 elem : ∀ t e,ti.elem t=some e->ui P t=some e
 field : ∀ s i r,ti.field s i=some r->Fy P s i=some r
 zero : ∀ t v,ti.zero t=some v->zeroOf P t=some v
 bytes : ∀ t n,ti.bytes t=some n->uf P t=some n
 kind : ∀ t d,ti.kind t=some d->P.underlying t=some d
 struct : ∀ t,ti.struct t=true->G7 P t=true
 zok : ∀ t,ti.zok t=true -> ∀ k,jc P t=some k->Vm P t k
 eqs : ∀ t sh,ti.eqs t=some sh->P.eqGuardType P.depth t=false /\ ∀ xs ys,iE sh xs=true->iE sh ys=true->Ty P t xs ys
theorem TIok.es {P:Program} {ti:TI} (h:TIok P ti) {t n:Nat} (e:(ti.elem t).bind ti.size=some n):(ui P t).bind (jc P)=some n:=by
 cases he:ti.elem t with
 | none=>simp [he] at e
 | some E=>simp only [he,agU] at e;rw [h.elem _ _ he];exact h.size _ _ e
def zm (P:Program) (B:Nat->Prop) (R:PH) (γ:List Gh) (L:List Ob) (w:World) (s:Sem Next) (v:AV):Prop :=
 ∃ u w' R',s.run P w = .ok (.value u) w'/\Inv B R' γ L w'/\Ext B R R' w w'/\v.rep R' γ L u
section
variable {P:Program} {B:Nat->Prop} {R:PH} {γ:List Gh} {L:List Ob} {w:World}
theorem zm.quiet (hi:Inv B R γ L w) {s:Sem Value} {v:AV} {u:Value} (h:s.run P w = .ok u w) (hr:v.rep R γ L u):zm P B R γ L w (do pure (.value (<- s))) v :=
 ⟨u,w,R,by simp [h],hi,Ext.refl _ _ _,hr⟩
theorem J2 : ∀ {xs:List SV} {us:List Value}, (jJ xs).isSome->us.length=xs.length->(∀ (j:Nat) u x,us[j]?=some u->xs[j]?=some x->x.rep R γ L u)->jJ xs=some us
 | [],us,_,hl,_=>by cases us with|nil=>rfl|cons=>simp at hl
 | x::xs,us,h,hl,hr=>by
  cases us with
  | nil=>simp at hl
  | cons u us =>
   have h0:=hr 0 u x rfl rfl
   cases x with
   | c y =>
    unfold jJ at h ⊢
    cases hs:jJ xs with
    | none=>rw [hs] at h;cases y<;>simp [LY] at h
    | some vs =>
     have ih:=J2 (xs:=xs) (us:=us) (by simp [hs]) (by simpa using hl) fun j u x hu hx=>hr (j+1) u x (by simpa using hu) (by simpa using hx)
     rw [hs] at ih
     injection ih with ih
     subst ih
     cases y with
     | bool b=>cases h0;rfl
     | int k n=>cases h0;rfl
     | str s=>cases h0;rfl
     | lst es=>rw [hs] at h;simp [LY] at h
     | ref cs=>rw [hs] at h;simp [LY] at h
     | fn f cs=>rw [hs] at h;simp [LY] at h
     | nul k=>rw [hs] at h;simp [LY] at h
   | emp=>simp [jJ] at h
   | own es t=>simp [jJ] at h
   | ptr id off=>simp [jJ] at h
   | sl id ver lo n=>simp [jJ] at h
   | ep id ver i o=>simp [jJ] at h
   | mp id=>simp [jJ] at h
   | clo f caps=>simp [jJ] at h
theorem run_equal_bool {t:TypeId} {a b:Bool} (h:P.underlying t=some .bool):(Op.equal t (.bool a) (.bool b)).run P w = .ok (a==b) w:=by
 have e:Op.maxDepth=9999+1:=rfl
 unfold Op.equal
 rw [e,Op.equalIn]
 simp [underlying,program,Sem.run,h]
theorem Ps {ti:TI} (hti:TIok P ti) (hi:Inv B R γ L w) {op:BinOp} {t:TypeId} {x y:Operand} {va vb v:AV} {φ:Prop} {u1 u2:Value} (h1:va.rep R γ L u1) (h2:vb.rep R γ L u2)
  (h:Ck ti op t va vb=some (v,φ)) (hφ:φ) : ∃ u,((do eqGuard op t x y u1 u2;binOp op t u1 u2:Sem Value)).run P w = .ok u w/\v.rep R γ L u:=by
 unfold Ck at h
 split at h
 ·rename_i k a k' b
  cases h1;cases h2
  split at h
  ·rename_i r ψ hop
   injection h with h;injection h with e1 e2
   subst e1 e2
   obtain ⟨u,hu1,hu2⟩:=N7 (P:=P) (w:=w) (t:=t) (x:=x) (y:=y) hop hφ
   exact ⟨u,hu1,hu2 R⟩
  ·split at h
   ·rename_i r ψ hkk hop
    injection h with h;injection h with e1 e2
    subst e1 e2
    have hkk:=ahm hkk
    subst hkk
    obtain ⟨u,hu1,hu2⟩:=Lt (P:=P) (w:=w) (t:=t) (x:=x) (y:=y) hop hφ
    exact ⟨u,hu1,hu2 R⟩
   ·cases h
 ·rename_i a b
  cases h1;cases h2
  split at h
  ·rename_i r ψ hop
   injection h with h;injection h with e1 e2
   subst e1 e2
   obtain ⟨u,hu1,hu2⟩:=LP (P:=P) (w:=w) (t:=t) (x:=x) (y:=y) hop hφ
   exact ⟨u,hu1,hu2 R⟩
  ·cases h
 ·rename_i a b
  cases h1;cases h2
  split at h<;>first|(injection h with h;injection h with e1 e2;subst e1 e2)|(cases h;done)
  ·exact ⟨.bool (a==b),by simp [eqGuard,binOp,run_equal_bool (hti.kind _ _ hφ)], .bool _⟩
  ·exact ⟨.bool (!(a==b)),by simp [eqGuard,binOp,run_equal_bool (hti.kind _ _ hφ)], .bool _⟩
 ·rename_i xs ys
  obtain ⟨vs,rfl,h1s,h1r⟩:=h1
  obtain ⟨us,rfl,h2s,h2r⟩:=h2
  split at h
  case h_2=>cases h
  rename_i sh hsh
  split at h<;>first|(injection h with h;injection h with e1 e2;subst e1 e2)|(cases h;done)
  all_goals
   obtain ⟨hf1,hf2⟩:=hφ
   obtain ⟨hg,hEE⟩:=hti.eqs _ _ hsh
   have hE:=hEE xs ys hf1 hf2
   have hx:=oC hf1
   have hy:=oC hf2
   have ex:=J2 (us:=vs.toList) hx (by simpa using h1s) fun j u x hu=>h1r j u x (by simpa using hu)
   have ey:=J2 (us:=us.toList) hy (by simpa using h2s) fun j u x hu=>h2r j u x (by simpa using hu)
   have hrun:=hE _ _ ex ey w
   simp only [Array.toArray_toList] at hrun
  ·exact ⟨.bool (dL xs ys),by simp [eqGuard,binOp,go_sem,hg,hrun], .bool _⟩
  ·exact ⟨.bool (!dL xs ys),by simp [eqGuard,binOp,go_sem,hg,hrun], .bool _⟩
 ·cases h
end
section
variable {P:Program} {ti:TI} {B:Nat->Prop} {R:PH} {γ:List Gh} {L:List Ob} {w:World}
theorem cob_ {b o:Nat} {vs:Array Value} {E:TypeId} {f:Nat × Nat} (h:w.heap[b]?=some (.cells vs E f)):w.cell? ⟨b,o,none⟩=vs[o]?:=by
 simp [World.cell?,h]
theorem vJ {t:TypeId} {c:Bool} (h:P9 P t=some c):(isAgg t).run P w = .ok c w:=by
 unfold P9 at h
 split at h<;>first|(cases h;done)|(injection h with h;subst h)
 ·rename_i e;simp [isAgg,underlying,program,Sem.run,e]
 ·rename_i e;simp [isAgg,underlying,program,Sem.run,e]
 ·rename_i d h1 h2 e
  simp [isAgg,underlying,program,Sem.run,e]
theorem Ql {t:TypeId} (h:P9 P t=some true) : ∃ d,P.underlying t=some d/\d.isRow=true:=by
 unfold P9 at h
 split at h<;>first|(cases h;done)|skip
 ·rename_i e;exact ⟨_,e,rfl⟩
 ·rename_i e;exact ⟨_,e,rfl⟩
theorem rM {t:TypeId} {b o:Nat} {u:Value} (h:P9 P t=some false) (hc:w.cell? ⟨b,o,none⟩=some u):(Instr.loadAt t (.pointer (some ⟨b,o,none⟩))).run P w = .ok u w:=by
 simp [Instr.loadAt,Instr.sureAddr,loadVar,vJ h,run_load,hc]
theorem qP {t:TypeId} {b o n:Nat} {cs:List Value} (h:P9 P t=some true) (hn:jc P t=some n) (hl:cs.length=n) (hc : ∀ (j:Nat) u,cs[j]?=some u->w.cell? ⟨b,o+j,none⟩=some u) :
  (Instr.loadAt t (.pointer (some ⟨b,o,none⟩))).run P w = .ok (.agg cs.toArray) w:=by
 obtain ⟨d,hd,hr⟩:=Ql h
 have:=run_loadVar_mid (P:=P) w b o t cs d hc hd hr (by rw [hl];exact hn)
 simp [Instr.loadAt,Instr.sureAddr,this]
theorem AP (hti:TIok P ti) (hi:Inv B R γ L w) {t:TypeId} {va v:AV} {φ:Prop} {u1:Value} (h1:va.rep R γ L u1) (h:lq ti L t va=some (v,φ)) (hφ:φ) :
  ∃ u,(Instr.loadAt t u1).run P w = .ok u w/\v.rep R γ L u:=by
 unfold lq at h
 split at h
 ·rename_i cs
  cases h1 with
  | ref b o cs cv hr he =>
   split at h
   ·rename_i ht
    split at h
    ·rename_i x rest
     injection h with h;injection h with e1 e2;subst e1 e2
     exact ⟨cv 0,rM (hti.agg _ _ ht) (by have:=hr 0 (by simp);exact hi.val _ _ _ this),he 0 x rfl⟩
    ·cases h
   ·rename_i n ht hn
    injection h with h;injection h with e1 e2;subst e1 e2
    refine ⟨.agg ((List.range n).map cv).toArray,qP (hti.agg _ _ ht) (hti.size _ _ hn) (by simp) ?_,_,rfl,by simp;omega,?_⟩
    ·intro j u hu
     rw [ahg] at hu
     by_cases hj:j<n
     ·rw [List.getElem?_range hj] at hu
      injection hu with hu;subst hu
      exact hi.val _ _ _ (hr j (by omega))
     ·rw [ahH (by simp;omega)] at hu;cases hu
    ·intro j u x hu hx
     simp only [List.getElem?_toArray,ahg] at hu hx
     by_cases hj:j<n
     ·rw [List.getElem?_range hj] at hu
      injection hu with hu;subst hu
      rw [ahn,if_pos hj] at hx
      cases hy:cs[j]? with
      | none=>simp [hy] at hx
      | some y=>simp [hy] at hx;subst hx;exact he j y hy
     ·rw [ahH (by simp;omega)] at hu;cases hu
   ·cases h
 ·rename_i id off
  obtain ⟨b,rfl,hg⟩:=h1
  split at h
  ·rename_i cs hL
   obtain ⟨⟨vs,E,hb,hs,hv⟩,_⟩:=hi.obj id _ _ hL hg
   split at h
   ·rename_i ht
    split at h
    case h_2=>cases h
    ·rename_i x hc
     injection h with h;injection h with e1 e2;subst e1 e2
     have hlt:off<vs.size:=by rw [hs];exact (agV.1 hc).1
     have hu:vs[off]?=some vs[off]:=ahi hlt
     exact ⟨vs[off],rM (hti.agg _ _ ht) (by rw [cob_ hb];exact hu),hv off _ x hu hc⟩
   ·rename_i n ht hn
    injection h with h;injection h with e1 e2;subst e1 e2
    refine ⟨.agg ((vs.toList.drop off).take n).toArray,qP (hti.agg _ _ ht) (hti.size _ _ hn) (by simp;omega) ?_,_,rfl,by simp;omega,?_⟩
    ·intro j u hu
     rw [cob_ hb]
     rw [ahn] at hu
     split at hu
     ·rw [ahF] at hu;simpa using hu
     ·cases hu
    ·intro j u x hu hx
     simp only [List.getElem?_toArray] at hu
     rw [ahn] at hu hx
     split at hu
     ·rename_i hj
      rw [if_pos hj] at hx
      rw [ahF] at hu hx
      exact hv (off+j) u x (by simpa using hu) hx
     ·cases hu
   ·cases h
  ·cases h
 ·rename_i id ver i o
  obtain ⟨_,hlt,h1⟩:=h1
  split at h
  case h_2=>cases h
  rename_i ver' es k hL
  split at h
  ·rename_i e he ht
   split at h
   case h_2=>cases h
   rename_i x hx
   injection h with h;injection h with e1 e2;subst e1 e2
   subst hφ
   obtain ⟨hi2,g,hg,hat⟩:=(h1 _ es k hL).2 rfl
   have hob:=hi.obj id _ _ hL hg
   match g,hat,hob with
   | .arr b c,hat,⟨⟨vs,E,⟨hb,hE65⟩,hs,hv⟩,hc,hk,hw,hR⟩ =>
    have hat:u1 = .pointer (some ⟨b,i*k+o,none⟩):=hat
    subst hat
    have ho:o<k:=by rw [<- hw e (ag1 he)];exact (agV.1 hx).1
    have hlt2:i*k+o<vs.size:=by
     rw [hs]
     have:(i+1)*k<=c*k:=ahv _ (by omega)
     rw [Nat.succ_mul] at this;omega
    have hu:vs[i*k+o]?=some vs[i*k+o]:=ahi hlt2
    exact ⟨vs[i*k+o],rM (hti.agg _ _ ht) (by rw [cob_ hb];exact hu),hv i e o _ x he hu hx⟩
  ·rename_i e n he ht hn
   injection h with h;injection h with e1 e2;subst e1 e2
   obtain ⟨hve,hle⟩:=hφ
   subst hve
   obtain ⟨hi2,g,hg,hat⟩:=(h1 _ es k hL).2 rfl
   have hob:=hi.obj id _ _ hL hg
   match g,hat,hob with
   | .arr b c,hat,⟨⟨vs,E,⟨hb,hE65⟩,hs,hv⟩,hc,hk,hw,hR⟩ =>
    have hat:u1 = .pointer (some ⟨b,i*k+o,none⟩):=hat
    subst hat
    have hek:=hw e (ag1 he)
    have hlt2:i*k+k<=vs.size:=by
     rw [hs]
     have:(i+1)*k<=c*k:=ahv _ (by omega)
     rw [Nat.succ_mul] at this;omega
    refine ⟨.agg ((vs.toList.drop (i*k+o)).take n).toArray,qP (hti.agg _ _ ht) (hti.size _ _ hn) (by simp;omega) ?_,_,rfl,by simp;omega,?_⟩
    ·intro j u hu
     rw [cob_ hb]
     rw [ahn] at hu
     split at hu
     ·rw [ahF] at hu;simpa using hu
     ·cases hu
    ·intro j u x hu hx
     simp only [List.getElem?_toArray] at hu
     rw [ahn] at hu hx
     split at hu
     ·rename_i hj
      rw [if_pos hj] at hx
      rw [ahF] at hu hx
      exact hv i e (o+j) u x he (by rw [<- Nat.add_assoc];simpa using hu) hx
     ·cases hu
  ·cases h
 ·cases h
theorem wW {s:TypeId} {i o:Nat} {t:TypeId} (h:Fy P s i=some (o,t)) : ∃ fs f,P.underlying s=some (.struct fs)/\fs[i]?=some f/\f.offset=o/\f.type=t:=by
 unfold Fy at h
 split at h
 ·rename_i fs e
  cases hf:fs[i]? with
  | none=>simp [hf] at h
  | some f =>
   simp [hf] at h
   exact ⟨fs,f,e,hf,h.1,h.2⟩
 ·cases h
theorem run_sizeOf {t:TypeId} {n:Nat} (h:jc P t=some n):(sizeOf t).run P w = .ok n w:=by
 unfold jc at h
 cases hi:P.info? t with
 | none=>simp [hi] at h
 | some i=>simp [hi] at h;simp [sizeOf,typeInfo,program,Sem.run,hi,h]
theorem ya {s:TypeId} {i o:Nat} {t:TypeId} {b f:Nat} (h:Fy P s i=some (o,t)) (h0:jc P t≠some 0) (h1:(jc P t).isSome) :
  (Instr.fieldAt s (.pointer (some ⟨b,f,none⟩)) i).run P w = .ok (.pointer (some ⟨b,f+o,none⟩)) w:=by
 obtain ⟨fs,fd,e1,e2,e3,e4⟩:=wW h
 obtain ⟨n,hn⟩:=ahA.1 h1
 have hn0:n≠0:=fun e=>h0 (by rw [hn,e])
 subst e3 e4
 simp [Instr.fieldAt,underlying,program,Sem.run,e1,e2,Instr.sureAddr,fieldPlace,run_sizeOf hn,hn0,Addr.add_mid]
theorem BI (hti:TIok P ti) {s:TypeId} {i:Nat} {va v:AV} {φ:Prop} {u1:Value} (h1:va.rep R γ L u1) (h:mK ti s i va=some (v,φ)) (hφ:φ) :
  ∃ u,(Instr.fieldAt s u1 i).run P w = .ok u w/\v.rep R γ L u:=by
 unfold mK at h
 split at h
 ·rename_i cs
  cases h1 with
  | ref b o cs cv hr he =>
   split at h
   ·rename_i o' t hf
    split at h
    case h_2=>cases h
    rename_i n hn
    injection h with h;injection h with e1 e2;subst e1 e2
    have hle:=hφ
    have hn':=hti.size _ _ hn
    refine ⟨_,ya (hti.field _ _ _ hf) (by rw [hn'];simp) (by rw [hn'];rfl),?_⟩
    refine .ref b (o+o') _ (fun j=>cv (o'+j)) (fun j hj=>?_) (fun j x hx=>?_)
    ·rw [List.length_drop] at hj
     rw [Nat.add_assoc];exact hr _ (by omega)
    ·rw [ahF] at hx;exact he _ _ hx
   ·cases h
 ·rename_i id off
  obtain ⟨b,rfl,hg⟩:=h1
  split at h
  ·rename_i o' t hf
   split at h
   case h_2=>cases h
   rename_i n hn
   injection h with h;injection h with e1 e2;subst e1 e2
   have hn':=hti.size _ _ hn
   exact ⟨_,ya (hti.field _ _ _ hf) (by rw [hn'];simp) (by rw [hn'];rfl),b,rfl,hg⟩
  ·cases h
 ·cases h
theorem J7 (hti:TIok P ti) {s:TypeId} {i:Nat} {va v:AV} {φ:Prop} {u1:Value} (h1:va.rep R γ L u1) (h:yo ti s i va=some (v,φ)) (hφ:φ) :
  ∃ u,(Instr.field s u1 i).run P w = .ok u w/\v.rep R γ L u:=by
 unfold yo at h
 split at h
 ·rename_i xs
  obtain ⟨vs,rfl,hs,hv⟩:=h1
  split at h
  ·rename_i o t hf
   obtain ⟨fs,fd,e1,e2,e3,e4⟩:=wW (hti.field _ _ _ hf)
   subst e3 e4
   split at h
   ·rename_i ht
    split at h
    case h_2=>cases h
    ·rename_i x hc
     injection h with h;injection h with e5 e6;subst e5 e6
     have hlt:fd.offset<vs.size:=by rw [hs];exact (agV.1 hc).1
     have hu:vs[fd.offset]?=some vs[fd.offset]:=ahi hlt
     exact ⟨vs[fd.offset],by simp [Instr.field,underlying,program,Sem.run,e1,e2,asAgg,part,vJ (hti.agg _ _ ht),hu],hv _ _ x hu hc⟩
   ·rename_i n ht hn
    injection h with h;injection h with e5 e6;subst e5 e6
    refine ⟨.agg (vs.extract fd.offset (fd.offset+n)),by simp [Instr.field,underlying,program,Sem.run,e1,e2,asAgg,part,vJ (hti.agg _ _ ht),run_sizeOf (hti.size _ _ hn)],_,rfl,by simp;omega,?_⟩
    intro j u x hu hx
    rw [Array.getElem?_extract] at hu
    split at hu
    ·rw [ahn] at hx
     split at hx
     ·rw [ahF] at hx;exact hv _ u x hu hx
     ·cases hx
    ·cases hu
   ·cases h
  ·cases h
 ·cases h
theorem ny {x:AV} {v:Value} {es:List (List AC)} (h:x.rep R γ L v) (he:fZ x=some es):bP R v (.lst es):=by
 unfold fZ at he
 split at he<;>first|(injection he with he;subst he)|(cases he;done)
 ·exact h
 ·exact h.1
 ·obtain ⟨a,rfl⟩:=h;exact gp _ _ _
theorem sV {t:TypeId} {n:Nat} (h:(ui P t).bind (jc P)=some n) : ∃ e,P.underlying t=some (.slice e)/\jc P e=some n:=by
 unfold ui at h
 split at h
 ·rename_i e he;exact ⟨e,he,h⟩
 ·cases h
theorem BZ (hti:TIok P ti) {t:TypeId} {vx vi v:AV} {φ:Prop} {u1 u2:Value} (h1:vx.rep R γ L u1) (h2:vi.rep R γ L u2) (h:jZ ti t vx vi=some (v,φ)) (hφ:φ) :
  ∃ u,(Instr.indexAt t u1 u2).run P w = .ok u w/\v.rep R γ L u:=by
 unfold jZ at h
 split at h
 ·rename_i es k0 i k hl ht
  have hp:=ny h1 hl
  cases h2
  obtain ⟨E,hE,hk⟩:=sV (hti.es ht)
  split at h
  ·rename_i e he
   injection h with h;injection h with e1 e2;subst e1 e2
   cases hp with
   | lst a n c _ k' cv b o hn hc hkk ha hr hx =>
    have hlt:i.toNat<es.length:=(agV.1 he).1
    have hmem:e∈es:=ag1 he
    obtain ⟨h0,hek⟩:=hφ
    have hkk':k'=k:=by rw [<- hkk e hmem];exact hek
    subst hkk'
    have ea:=ha (by omega)
    subst ea
    have hi2:i<(n:Int):=by omega
    refine ⟨.pointer (some ⟨b,o+i.toNat*k',none⟩),?_,?_⟩
    ·simp [Instr.indexAt,asIntOf,underlying,program,Sem.run,hE,h0,hi2,run_sizeOf hk,Addr.add_mid]
    ·refine .ref b _ e (fun j=>cv (i.toNat*k'+j)) (fun j hj=>?_) (fun j x hxj=>hx _ _ _ _ he hxj)
     rw [Nat.add_assoc]
     apply hr
     have h3:i.toNat*k'+k'<=n*k':=by
      have:(i.toNat+1)*k'<=n*k':=ahv _ (by omega)
      rw [Nat.succ_mul] at this;exact this
     omega
  ·cases h
 ·cases h
theorem Ew (hti:TIok P ti) (hi:Inv B R γ L w) {t:TypeId} {id ver lo n:Nat} {vi v:AV} {φ:Prop} {u1 u2:Value} (h1:(SV.sl id ver lo n).rep R γ L u1) (h2:vi.rep R γ L u2) (h:iG ti L t id ver lo n vi=some (v,φ)) (hφ:φ) :
  ∃ u,(Instr.indexAt t u1 u2).run P w = .ok u w/\v.rep R γ L u:=by
 unfold iG at h
 split at h
 case h_2=>cases h
 rename_i ver' es k' k0 i k hL ht
 injection h with h;injection h with e1 e2;subst e1 e2
 obtain ⟨⟨hv1,hv2⟩,h0,h3⟩:=hφ
 subst hv1 hv2
 cases h2
 obtain ⟨E,hE,hk⟩:=sV (hti.es ht)
 obtain ⟨_,hlt,h1⟩:=h1
 obtain ⟨hle,g,hg,hat⟩:=(h1 _ es k hL).2 rfl
 match g,hat with
 | .none,⟨_,hn,_⟩=>exact absurd h3 (by omega)
 | .arr b c,hat =>
  have hat:u1 = .slice (some ⟨b,lo*k,none⟩) n (c-lo):=by
   rcases hat with hat|⟨_,hn,_⟩
   ·exact hat
   ·exact absurd h3 (by omega)
  subst hat
  refine ⟨.pointer (some ⟨b,lo*k+i.toNat*k,none⟩),?_,⟨rfl,rfl⟩,hlt,fun ver2 es' k2 e=>?_⟩
  ·simp [Instr.indexAt,asIntOf,underlying,program,Sem.run,hE,h0,h3,run_sizeOf hk,Addr.add_mid]
  ·rw [hL] at e;injection e with e;injection e with e0 e1 e2;subst e0 e1 e2;refine ⟨ag' _,fun _=>?_⟩
   refine ⟨by omega, .arr b c,hg,?_⟩
   show Value.pointer _=Value.pointer _
   rw [Nat.add_mul,Nat.add_zero]
theorem Eg (hti:TIok P ti) {s:TypeId} {i0 id ver i off:Nat} {v:AV} {φ:Prop} {u1:Value} (h1:(SV.ep id ver i off).rep R γ L u1) (h:iH ti L s i0 id ver i off=some (v,φ)) (hφ:φ) :
  ∃ u,(Instr.fieldAt s u1 i0).run P w = .ok u w/\v.rep R γ L u:=by
 unfold iH at h
 split at h
 case h_2=>cases h
 rename_i ver' es k o t hL hf
 split at h
 case h_2=>cases h
 rename_i n hn
 injection h with h;injection h with e1 e2;subst e1 e2
 subst hφ
 obtain ⟨_,hlt,h1⟩:=h1
 obtain ⟨hle,g,hg,hat⟩:=(h1 _ es k hL).2 rfl
 have hn':=hti.size _ _ hn
 match g,hat with
 | .arr b c,hat =>
  have hat:u1 = .pointer (some ⟨b,i*k+off,none⟩):=hat
  subst hat
  refine ⟨_,ya (hti.field _ _ _ hf) (by rw [hn'];simp) (by rw [hn'];rfl),⟨rfl,rfl⟩,hlt,fun ver2 es' k2 e=>?_⟩
  rw [hL] at e;injection e with e;injection e with e0 e1 e2;subst e0 e1 e2;refine ⟨ag' _,fun _=>?_⟩
  refine ⟨hle, .arr b c,hg,?_⟩
  show Value.pointer _=Value.pointer _
  rw [Nat.add_assoc]
theorem GI (hti:TIok P ti) {t ty:TypeId} {id ver lo n:Nat} {v:AV} {φ:Prop} {u1:Value} (h1:(SV.sl id ver lo n).rep R γ L u1) (h:ma ti L t id ver n=some (v,φ)) (hφ:φ) :
  ∃ u,(Builtin.len_ #[t] ty #[u1]).run P w = .ok u w/\v.rep R γ L u:=by
 unfold ma at h
 split at h
 case h_2=>cases h
 rename_i ver' es k hL
 injection h with h;injection h with e1 e2;subst e1 e2
 obtain ⟨hv,hφ⟩:=hφ
 subst hv
 obtain ⟨_,hlt,h1⟩:=h1
 obtain ⟨hle,g,hg,hat⟩:=(h1 _ es k hL).2 rfl
 have ⟨e,he⟩ : ∃ e,P.underlying t=some (.slice e):=by
  obtain ⟨e,he⟩:=ahA.1 hφ
  have h2:=hti.elem _ _ he
  unfold ui at h2
  split at h2
  ·rename_i e' he';exact ⟨e',he'⟩
  ·cases h2
 match g,hat with
 | .none,⟨hu,hn,_⟩ =>
  subst hu hn
  exact ⟨.int .i64 (0:Nat),by simp [Builtin.len_,underlying,program,Sem.run,he,goInt], .int _ _⟩
 | .arr b c,hat =>
  rcases hat with hat|⟨_,hn,a,hu⟩
  case inr=>subst hu hn;exact ⟨.int .i64 (0:Nat),by simp [Builtin.len_,underlying,program,Sem.run,he,goInt], .int _ _⟩
  subst hat
  exact ⟨.int .i64 n,by simp [Builtin.len_,underlying,program,Sem.run,he,goInt], .int _ _⟩
end
section
variable {P:Program} {ti:TI} {B:Nat->Prop} {R:PH} {γ:List Gh} {L:List Ob} {w:World}
theorem Kh (hti:TIok P ti) {t:TypeId} {vx vi v:AV} {φ:Prop} {u1 u2:Value} (h1:vx.rep R γ L u1) (h2:vi.rep R γ L u2) (h:rE ti t vx vi=some (v,φ)) (hφ:φ) :
  ∃ u,(Instr.index t u1 u2).run P w = .ok u w/\v.rep R γ L u:=by
 unfold rE at h
 split at h
 ·rename_i s k i
  cases h1;cases h2
  split at h
  ·rename_i b hb
   injection h with h;injection h with e1 e2;subst e1 e2
   obtain ⟨h0,hu⟩:=hφ
   exact ⟨.int .u8 b.toNat,by simp [Instr.index,asIntOf,underlying,program,Sem.run,hti.kind _ _ hu,h0,hb], .int _ _⟩
  ·cases h
 ·rename_i zs k0 i
  obtain ⟨vs,rfl,hs,hv⟩:=h1
  cases h2
  split at h
  ·rename_i n e hk
   have hu:=hti.kind _ _ hk
   split at h
   ·rename_i k ha hz
    split at h
    case h_2=>cases h
    ·rename_i x hc
     injection h with h;injection h with e5 e6;subst e5 e6
     obtain ⟨g0,g1⟩:=hφ
     have hlt:i.toNat*k<vs.size:=by rw [hs];exact (agV.1 hc).1
     have hw:vs[i.toNat*k]?=some vs[i.toNat*k]:=ahi hlt
     exact ⟨vs[i.toNat*k],by simp [Instr.index,asIntOf,underlying,program,Sem.run,hu,g0,g1,part,vJ (hti.agg _ _ ha),run_sizeOf (hti.size _ _ hz),hw],hv _ _ x hw hc⟩
   ·rename_i k ha hz
    injection h with h;injection h with e5 e6;subst e5 e6
    obtain ⟨⟨g0,g1⟩,g2⟩:=hφ
    refine ⟨.agg (vs.extract (i.toNat*k) (i.toNat*k+k)),by simp [Instr.index,asIntOf,underlying,program,Sem.run,hu,g0,g1,part,vJ (hti.agg _ _ ha),run_sizeOf (hti.size _ _ hz)],_,rfl,by simp;omega,?_⟩
    intro j u x hj hx
    rw [Array.getElem?_extract] at hj
    split at hj
    ·rw [ahn] at hx
     split at hx
     ·rw [ahF] at hx;exact hv _ u x hj hx
     ·cases hx
    ·cases hj
   ·cases h
  ·cases h
 ·cases h
def acp (R:PH) (γ:List Gh) (L:List Ob):Option AV->Option Value->Prop
 | none,none=>True
 | some x,some v=>x.rep R γ L v
 | _,_=>False
theorem iX {s:Bool} {len cap:Nat} {lo hi:Option AV} {vlo vhi:Option Value} {l h:Int} (hlo:pQ 0 lo=some l) (hhi:pQ len hi=some h)
  (rlo:acp R γ L lo vlo) (rhi:acp R γ L hi vhi) (h0:0<=l) (h1:l<=h) (h2:h<=cap) :
  (Instr.sliceBounds s len cap vlo vhi none).run P w = .ok (l.toNat,h.toNat,cap) w:=by
 have e1 : ∀ (v:Value) (x:AV) (i:Int) (y:Nat) (c:BoundsCode),x.rep R γ L v->pQ 0 (some x)=some i->0<=i->i<=y->(Instr.sliceBound v y c).run P w = .ok i.toNat w:=by
  intro v x i y c hx hb g0 g1
  unfold pQ at hb
  split at hb
  ·rename_i e;cases e
  ·rename_i e
   injection e with e;subst e
   injection hb with hb;subst hb
   cases hx
   simp [Instr.sliceBound,asIntOf,g0,g1]
  ·cases hb
 match lo,vlo,rlo,hlo,hi,vhi,rhi,hhi with
 | none,none,_,hlo,none,none,_,hhi =>
  injection hlo with hlo;subst hlo
  injection hhi with hhi;subst hhi
  simp [Instr.sliceBounds]
 | some x,some v,rlo,hlo,none,none,_,hhi =>
  injection hhi with hhi;subst hhi
  simp [Instr.sliceBounds,e1 v x l len _ rlo hlo h0 (by omega)]
 | none,none,_,hlo,some y,some u,rhi,hhi =>
  injection hlo with hlo;subst hlo
  simp [Instr.sliceBounds,e1 u y h cap _ rhi (by cases y<;>first|exact hhi|(rename_i z;cases z<;>first|exact hhi|(rename_i q;cases q<;>exact hhi))) (by omega) h2]
 | some x,some v,rlo,hlo,some y,some u,rhi,hhi =>
  simp [Instr.sliceBounds,e1 u y h cap _ rhi (by cases y<;>first|exact hhi|(rename_i z;cases z<;>first|exact hhi|(rename_i q;cases q<;>exact hhi))) (by omega) h2,e1 v x l h.toNat _ rlo hlo h0 (by omega)]
theorem X3 {a:Option Addr} {n c l h:Nat} {es:List (List AC)} {k m:Nat} (hp:bP R (.slice a n c) (.lst es)) (hlh:l<=h) (hh:h<=es.length) (hk : ∀ e∈es,e.length=k) (hm:m=c) :
  bP R (.slice (if m=l then a else a.map (·.add (l*k))) (h-l) (m-l)) (.lst ((es.take h).drop l)):=by
 cases hp with
 | lst _ _ _ _ k' cv b o hn hc hkk ha hr hx =>
  subst hm
  have hlen:((es.take h).drop l).length=h-l:=by simp;omega
  by_cases hz:h-l=0
  ·rw [hz]
   have:(es.take h).drop l=[]:=ahj (by omega)
   rw [this];exact gp _ _ _
  ·have hpos:0<n:=by omega
   have hkk':k'=k:=by
    have h0:0<es.length:=by omega
    rw [<- hkk es[0] (List.getElem_mem h0),hk es[0] (List.getElem_mem h0)]
   subst hkk'
   have ea:=ha hpos
   subst ea
   rw [if_neg (by omega)]
   refine .lst _ _ _ _ k' (fun j=>cv (l*k'+j)) b (o+l*k') hlen (by omega) (fun e he=>hk e (ahQ (List.mem_of_mem_drop he))) (fun _=>by simp [Addr.add_mid]) (fun j hj=>?_) (fun i e j x he hxj=>?_)
   ·rw [Nat.add_assoc]
    apply hr
    have:l*k'+(h-l)*k'=h*k':=by rw [<- Nat.add_mul];congr 1;omega
    have:h*k'<=n*k':=ahv _ (by omega)
    omega
   ·rw [ahF,ahn] at he
    split at he
    ·have:=hx _ _ _ _ he hxj
     rw [Nat.add_mul,Nat.add_assoc] at this
     exact this
    ·cases he
theorem mV (hti:TIok P ti) (hI:Inv B R γ L w) {t:TypeId} {vx v:AV} {lo hi:Option AV} {vlo vhi:Option Value} {φ:Prop} {u1:Value} (h1:vx.rep R γ L u1) (rlo:acp R γ L lo vlo) (rhi:acp R γ L hi vhi)
  (h:iC ti L t vx lo hi=some (v,φ)) (hφ:φ) : ∃ u,(Instr.sliceAt t u1 vlo vhi none).run P w = .ok u w/\v.rep R γ L u:=by
 unfold iC at h
 split at h
 ·rename_i s
  cases h1
  split at h
  ·rename_i l h' hl hh
   injection h with h;injection h with e1 e2;subst e1 e2
   obtain ⟨a1,a2,a3,a4⟩:=hφ
   refine ⟨.string (s.extract l.toNat h'.toNat),?_, .str _⟩
   have:=iX (P:=P) (w:=w) (s:=false) (cap:=s.size) hl hh rlo rhi a1 a2 (by omega)
   simp [Instr.sliceAt,Instr.slice,underlying,program,Sem.run,hti.kind _ _ a4,this]
  ·cases h
 ·rename_i id ver lo0 n
  split at h
  case h_2=>cases h
  rename_i ver' es k' k hL ht
  split at h
  case h_2=>cases h
  rename_i l h' hl hh
  injection h with h;injection h with e1 e2;subst e1 e2
  obtain ⟨hv,hkk,a1,a2,a3⟩:=hφ
  subst hv hkk
  obtain ⟨E,hE,hk⟩:=sV (hti.es ht)
  obtain ⟨_,hlt,h1⟩:=h1
  obtain ⟨hle,g,hg,hat⟩:=(h1 _ es k hL).2 rfl
  have hob:=hI.obj id _ _ hL hg
  match g,hat,hob with
  | .none,⟨hu,hn,hlo⟩,hob =>
   subst hu hn hlo
   have:=iX (P:=P) (w:=w) (s:=true) (cap:=0) hl hh rlo rhi a1 a2 (by omega)
   have e1:l=0:=by omega
   have e2:h'=0:=by omega
   subst e1 e2
   refine ⟨_,by simp [Instr.sliceAt,Instr.slice,underlying,program,Sem.run,hE,this,run_sizeOf hk];rfl,⟨rfl,rfl⟩,hlt,fun ver2 es2 k2 e=>?_⟩
   rw [hL] at e;injection e with e;injection e with e0 e1 e2;subst e0 e1 e2;refine ⟨ag' _,fun _=>?_⟩
   exact ⟨by simp, .none,hg,rfl,rfl,rfl⟩
  | .arr b c,hat,⟨_,hc,_⟩ =>
   rcases hat with hat|⟨hcl,hn,a,hu⟩
   case inr =>
    subst hu hn
    have:=iX (P:=P) (w:=w) (s:=true) (cap:=0) hl hh rlo rhi a1 a2 (by omega)
    have e1:l=0:=by omega
    have e2:h'=0:=by omega
    subst e1 e2
    refine ⟨_,by simp [Instr.sliceAt,Instr.slice,underlying,program,Sem.run,hE,this,run_sizeOf hk];rfl,⟨rfl,rfl⟩,hlt,fun ver2 es2 k2 e=>?_⟩
    rw [hL] at e;injection e with e;injection e with e0 e1 e2;subst e0 e1 e2;refine ⟨ag' _,fun _=>?_⟩
    exact ⟨by simpa using hle, .arr b c,hg, .inr ⟨by simpa using hcl,rfl,_,rfl⟩⟩
   subst hat
   have:=iX (P:=P) (w:=w) (s:=true) (cap:=c-lo0) hl hh rlo rhi a1 a2 (by omega)
   refine ⟨_,by simp [Instr.sliceAt,Instr.slice,underlying,program,Sem.run,hE,this,run_sizeOf hk];rfl,⟨rfl,rfl⟩,hlt,fun ver2 es2 k2 e=>?_⟩
   rw [hL] at e;injection e with e;injection e with e0 e1 e2;subst e0 e1 e2;refine ⟨ag' _,fun _=>?_⟩
   refine ⟨by omega, .arr b c,hg,?_⟩
   by_cases hm:c-lo0=l.toNat
   ·refine .inr ⟨by omega,by omega,some ⟨b,lo0*k,none⟩,?_⟩
    rw [if_pos hm,show h'.toNat-l.toNat=0 from by omega,show c-lo0-l.toNat=0 from by omega]
   ·refine .inl ?_
    rw [if_neg hm,Nat.add_mul,Nat.sub_add_eq]
    simp [Addr.add_mid]
 ·split at h
  ·rename_i es k hl ht
   have hp:=ny h1 hl
   obtain ⟨E,hE,hk⟩:=sV (hti.es ht)
   split at h
   ·rename_i l h' hl hh
    injection h with h;injection h with e1 e2;subst e1 e2
    obtain ⟨a1,a2,a3,a4⟩:=hφ
    match u1,hp with
    | .slice a n c,hp =>
     have hn:es.length=n:=by cases hp;assumption
     have hc:n<=c:=by cases hp;assumption
     subst hn
     have:=iX (P:=P) (w:=w) (s:=true) (cap:=c) hl hh rlo rhi a1 a2 (by omega)
     refine ⟨_,by simp [Instr.sliceAt,Instr.slice,underlying,program,Sem.run,hE,this,run_sizeOf hk];rfl,?_⟩
     have h3:((h'-l).toNat)=h'.toNat-l.toNat:=by omega
     exact X3 (m:=c) hp (by omega) (by omega) a4 rfl
   ·cases h
  ·cases h
theorem OM (hti:TIok P ti) {t ty:TypeId} {vx v:AV} {φ:Prop} {u1:Value} (h1:vx.rep R γ L u1) (h:KS ti t vx=some (v,φ)) (hφ:φ) :
  ∃ u,(Builtin.len_ #[t] ty #[u1]).run P w = .ok u w/\v.rep R γ L u:=by
 unfold KS at h
 split at h
 ·rename_i s
  cases h1
  injection h with h;injection h with e1 e2;subst e1 e2
  exact ⟨.int .i64 s.size,by simp [Builtin.len_,underlying,program,Sem.run,hti.kind _ _ hφ,goInt], .int _ _⟩
 ·split at h
  case h_2=>cases h
  ·rename_i es hl
   injection h with h;injection h with e1 e2;subst e1 e2
   have hp:=ny h1 hl
   match u1,hp with
   | .slice a n c,hp =>
    have hn:es.length=n:=by cases hp;assumption
    subst hn
    have ⟨e,he⟩ : ∃ e,P.underlying t=some (.slice e):=by
     obtain ⟨e,he⟩:=ahA.1 hφ
     have h2:=hti.elem _ _ he
     unfold ui at h2
     split at h2
     ·rename_i e' he';exact ⟨e',he'⟩
     ·cases h2
    exact ⟨.int .i64 es.length,by simp [Builtin.len_,underlying,program,Sem.run,he,goInt], .int _ _⟩
theorem xR {mx:Bool} {vx vy v:AV} {φ:Prop} {u1 u2:Value} {ts:Array TypeId} {ty:TypeId} (h1:vx.rep R γ L u1) (h2:vy.rep R γ L u2) (h:zM mx vx vy=some (v,φ)) :
  ∃ u,(if mx then Builtin.max_ ts ty #[u1,u2] else Builtin.min_ ts ty #[u1,u2]).run P w = .ok u w/\v.rep R γ L u:=by
 unfold zM at h
 split at h
 ·rename_i k a k' b
  cases h1;cases h2
  injection h with h;injection h with e1 e2;subst e1 e2
  cases mx
  ·exact ⟨.int k (if b<a then b else a),by simp [Builtin.min_,Builtin.min2], .int _ _⟩
  ·exact ⟨.int k (if b > a then b else a),by simp [Builtin.max_,Builtin.max2], .int _ _⟩
 ·cases h
end
section
variable {P:Program} {ti:TI} {B:Nat->Prop} {R:PH} {γ:List Gh} {L:List Ob} {w:World}
theorem fold_size (off:Nat) : ∀ (l:List Value) (k:Nat) (cells:Array Value),((l.zipIdx k).foldl (fun (cs:Array Value) (p:Value × Nat)=>cs.setIfInBounds (off+p.2) p.1) cells).size=cells.size
 | [],_,_=>rfl
 | v::l,k,cells=>by rw [List.zipIdx_cons,ahJ,fold_size off l];simp
theorem Rw (off:Nat) : ∀ (l:List Value) (k:Nat) (cells:Array Value),off+k+l.length<=cells.size -> ∀ i,
  ((l.zipIdx k).foldl (fun (cs:Array Value) (p:Value × Nat)=>cs.setIfInBounds (off+p.2) p.1) cells)[i]?=if off+k<=i/\i<off+k+l.length then l[i-(off+k)]? else cells[i]?
 | [],k,cells,_,i=>by
  rw [if_neg (by intro h;simp only [aho] at h;omega)];rfl
 | v::l,k,cells,h,i=>by
  rw [ahf] at h
  rw [List.zipIdx_cons,ahJ,Rw off l (k+1) _ (by simp;omega) i]
  by_cases h1:off+(k+1)<=i/\i<off+(k+1)+l.length
  ·rw [if_pos h1,if_pos (by simp;omega)]
   have:i-(off+k)=(i-(off+(k+1)))+1:=by omega
   rw [this,List.getElem?_cons_succ]
  ·rw [if_neg h1]
   by_cases h2:i=off+k
   ·subst h2
    rw [if_pos (by simp)]
    simp [Array.getElem?_setIfInBounds]
    omega
   ·rw [if_neg (by simp;omega)]
    simp only [Array.getElem?_setIfInBounds]
    rw [if_neg (by omega)]
theorem xH {zs xs:List SV} {o:Nat} (h:o+xs.length<=zs.length):(splice zs o xs).length=zs.length:=by
 simp [splice];omega
theorem CG {zs xs:List SV} {o:Nat} (h:o+xs.length<=zs.length) (i:Nat):(splice zs o xs)[i]?=if o<=i/\i<o+xs.length then xs[i-o]? else zs[i]?:=by
 unfold splice
 by_cases h1:i<o
 ·rw [if_neg (by omega),ag9 (by simp;omega),ag9 (by simp;omega),ahn,if_pos h1]
 ·by_cases h2:i<o+xs.length
  ·rw [if_pos (by omega),ag9 (by simp;omega),ag2 (by simp;omega)]
   congr 1;simp;omega
  ·rw [if_neg (by omega),ag2 (by simp;omega),ahF]
   congr 1;simp;omega
def LQ (R:PH) (γ:List Gh) (L:List Ob) (xs:List SV) (vs:Array Value):Prop:=vs.size=xs.length /\ ∀ (j:Nat) u x,vs[j]?=some u->xs[j]?=some x->x.rep R γ L u
theorem cells_rep {v:AV} {u:Value} {xs:List SV} (h:v.rep R γ L u) (hc:v.cells=some xs):LQ R γ L xs u.cells:=by
 cases v with
 | one x =>
  injection hc with hc;subst hc
  have e:=(SV.rep_one h).1
  rw [e]
  refine ⟨rfl,fun j u' x' hu hx=>?_⟩
  cases j with
  | zero=>simp at hu hx;subst hu hx;exact h
  | succ j=>simp at hu
 | agg ys =>
  injection hc with hc;subst hc
  obtain ⟨vs,rfl,h1,h2⟩:=h
  exact ⟨h1,h2⟩
 | tup ps=>cases hc
 | tupS xs=>cases hc
 | undef=>cases hc
theorem KZ (hti:TIok P ti) {t:TypeId} {place:Nat->Option (Nat × Nat)} (hpl : ∀ i o ty,ES ti t i=some (o,ty) -> ∀ n,jc P ty=some n->place i=some (o,n)) :
  ∀ (ps:List (Nat × Option AV)) (us:List (Nat × Value)) (zs:List SV) (cells:Array Value) (r:List SV) (φ:Prop),us.length=ps.length ->
   (∀ (j:Nat) p q,ps[j]?=some p->us[j]?=some q->p.1=q.1 /\ ∀ v,p.2=some v->v.rep R γ L q.2)->LQ R γ L zs cells->qH ti t zs ps=some (r,φ)->φ ->
   ∃ cells',Instr.fill place cells us=some cells'/\LQ R γ L r cells'
 | [],us,zs,cells,r,φ,hl,_,hz,h,_=>by
  cases us with
  | nil=>injection h with h;injection h with e1 e2;subst e1;exact ⟨cells,rfl,hz⟩
  | cons=>simp at hl
 | (i,v)::ps,us,zs,cells,r,φ,hl,hr,hz,h,hφ=>by
  cases us with
  | nil=>simp at hl
  | cons q us =>
   obtain ⟨qi,qv⟩:=q
   have h0:=hr 0 _ _ rfl rfl
   obtain ⟨e0,hv⟩:=h0
   simp only at e0;subst e0
   unfold qH at h
   split at h
   ·rename_i xs o ty hc hf
    split at h
    case h_2=>cases h
    ·rename_i r' φ' hb
     injection h with h;injection h with e1 e2;subst e1 e2
     obtain ⟨⟨hs,hle⟩,hφ'⟩:=hφ
     cases v with
     | none=>simp at hc
     | some v =>
      simp only [agU] at hc
      have hq:=cells_rep (hv v rfl) hc
      have hp:=hpl i o ty hf _ (hti.size _ _ hs)
      have hsz:qv.cells.size=xs.length:=hq.1
      have hfit:o+qv.cells.size<=cells.size:=by rw [hsz,hz.1];exact hle
      have step:LQ R γ L (splice zs o xs) (qv.cells.zipIdx.foldl (fun (cs:Array Value) (p:Value × Nat)=>cs.setIfInBounds (o+p.2) p.1) cells):=by
       rw [<- Array.foldl_toList,Array.toList_zipIdx]
       refine ⟨by rw [fold_size,xH hle];exact hz.1,fun j u x hu hx=>?_⟩
       rw [Rw o _ 0 _ (by simp;omega)] at hu
       rw [CG hle] at hx
       by_cases hj:o<=j/\j<o+xs.length
       ·rw [if_pos hj] at hx
        rw [if_pos (by simp;omega)] at hu
        exact hq.2 (j-o) u x (by simpa using hu) hx
       ·rw [if_neg hj] at hx
        rw [if_neg (by simp;omega)] at hu
        exact hz.2 j u x hu hx
      obtain ⟨cells',f1,f2⟩:=KZ hti hpl ps us _ _ r' φ' (by simpa using hl) (fun j p q hp hq=>hr (j+1) p q (by simpa using hp) (by simpa using hq)) step hb hφ'
      refine ⟨cells',?_,f2⟩
      simp only [Instr.fill]
      rw [hp]
      simp only [hsz,ne_eq,not_true_eq_false,decide_false,Bool.false_or,gt_iff_lt,decide_eq_true_eq]
      rw [if_neg (by omega)]
      exact f1
   ·cases h
theorem run_places : ∀ (fs:List Field),(∀ f∈fs,(jc P f.type).isSome)->(fs.mapM (fun f=>(do pure (f.offset, <- sizeOf f.type):Sem (Nat × Nat)))).run P w = .ok (fs.map fun f=>(f.offset,(jc P f.type).getD 0)) w
 | [],_=>rfl
 | f::fs,h=>by
  obtain ⟨n,hn⟩:=ahA.1 (h f (by simp))
  have ih:=run_places fs fun g hg=>h g (ahh _ hg)
  rw [List.mapM_cons]
  simp only [Sem.run_bind,Sem.run_pure,run_sizeOf hn,Result.andThen_ok]
  rw [ih]
  simp [hn]
theorem Jh (hti:TIok P ti) {t:TypeId} {ps:List (Nat × Option AV)} {us:Array (Nat × Value)} {zs r:List SV} {φ:Prop} (hb:bok ti t=true) (hz:zeroOf P t=some (.agg zs)) (hl:us.size=ps.length)
  (hr : ∀ (j:Nat) p q,ps[j]?=some p->us[j]?=some q->p.1=q.1 /\ ∀ v,p.2=some v->v.rep R γ L q.2) (h:qH ti t zs ps=some (r,φ)) (hφ:φ) :
  ∃ u,(Instr.build t us).run P w = .ok u w/\(AV.agg r).rep R γ L u:=by
 have hzero : ∃ z,(zeroValue t).run P w = .ok z w/\LQ R γ L zs z.cells:=by
  unfold zeroOf at hz
  cases hi:P.info? t with
  | none=>simp [hi] at hz
  | some i =>
   simp only [hi,agU] at hz
   cases hzz:i.zero with
   | none=>simp [hzz] at hz
   | some z =>
    simp only [hzz,agU] at hz
    refine ⟨z,by simp [zeroValue,typeInfo,program,Sem.run,hi,hzz],?_⟩
    have:=AV.ofVal_rep (R:=R) (γ:=γ) (L:=L) hz
    exact cells_rep this rfl
 obtain ⟨z,hz1,hz2⟩:=hzero
 by_cases harr : ∃ n e,ti.kind t=some (.array n e)
 ·obtain ⟨n,e,hk⟩:=harr
  have hu:=hti.kind _ _ hk
  unfold bok at hb
  rw [hk] at hb
  obtain ⟨k,hse⟩:=ahA.1 hb
  obtain ⟨cells',f1,f2⟩:=KZ hti (t:=t) (place:=fun i=>some (i*k,k)) (by
   intro i o ty hf m hm
   unfold ES at hf
   rw [hk] at hf
   simp only [hse,Option.map_some,Option.some.injEq,Prod.mk.injEq] at hf
   obtain ⟨rfl,rfl⟩:=hf
   have:=hti.size _ _ hse
   rw [hm] at this
   rw [ahq this]) ps us.toList zs z.cells r φ (by simpa using hl) (fun j p q hp hq=>hr j p q hp (by simpa using hq)) hz2 h hφ
  refine ⟨.agg cells',?_,cells',rfl,f2.1,f2.2⟩
  unfold Instr.build
  simp only [Sem.run_bind,hz1,Result.andThen_ok,underlying,program,Sem.run,hu,Sem.run_pure]
  have hsz:=run_sizeOf (P:=P) (w:=w) (hti.size _ _ hse)
  rw [hsz]
  simp only [Result.andThen_ok]
  rw [f1]
  simp
 have hne : ∀ i,ES ti t i=ti.field t i:=by
  intro i
  unfold ES
  split
  ·rename_i n e hk;exact absurd ⟨n,e,hk⟩ harr
  ·rfl
 have ht:G7 P t=true:=by
  refine hti.struct _ ?_
  unfold bok at hb
  split at hb
  ·rename_i n e hk;exact absurd ⟨n,e,hk⟩ harr
  ·exact hb
 obtain ⟨fs,hu,ht⟩ : ∃ fs,P.underlying t=some (.struct fs)/\(fs.all fun f=>(jc P f.type).isSome)=true:=by
  unfold G7 at ht
  split at ht
  ·rename_i fs hu;exact ⟨fs,hu,ht⟩
  ·cases ht
 have hall : ∀ f∈fs.toList,(jc P f.type).isSome:=by
  intro f hf
  have:=Array.all_eq_true'.1 ht f (by simpa using hf)
  exact this
 have hpl:=run_places (P:=P) (w:=w) fs.toList hall
 obtain ⟨cells',f1,f2⟩:=KZ hti (t:=t) (place:=fun i=>(fs.toList.map fun f=>(f.offset,(jc P f.type).getD 0)).toArray[i]?) (by
  intro i o ty hf n hn
  rw [hne] at hf
  obtain ⟨fs',fd,e1,e2,e3,e4⟩:=wW (hti.field _ _ _ hf)
  rw [hu] at e1
  injection e1 with e1;injection e1 with e1;subst e1
  subst e3 e4
  simp [e2,hn]) ps us.toList zs z.cells r φ (by simpa using hl) (fun j p q hp hq=>hr j p q hp (by simpa using hq)) hz2 h hφ
 refine ⟨.agg cells',?_,cells',rfl,f2.1,f2.2⟩
 have hm:(fs.mapM (fun f=>(do pure (f.offset, <- sizeOf f.type):Sem (Nat × Nat)))).run P w = .ok (fs.toList.map fun f=>(f.offset,(jc P f.type).getD 0)).toArray w:=by
  rw [Array.mapM_eq_mapM_toList]
  simp only [Sem.run_map,hpl,Result.andThen_ok]
 unfold Instr.build
 simp only [Sem.run_bind,hz1,Result.andThen_ok,underlying,program,Sem.run,hu,Sem.run_pure]
 rw [hm]
 simp only [Result.andThen_ok]
 rw [f1]
 simp
end
section
variable {P:Program} {ti:TI} {B:Nat->Prop} {R:PH} {γ:List Gh} {L:List Ob} {w:World}
theorem I7 {ρ:Operand->Option AV} {a:Act} (hρ : ∀ x v,ρ x=some v->v.rep R γ L (a.eval x)) : ∀ {xs:List Operand} {cs:List AC}, K9 (xs.map ρ)=some cs ->
  xs.length=cs.length /\ ∀ (j:Nat) x y,xs[j]?=some x->cs[j]?=some y->bP R (a.eval x) y
 | [],cs,h=>by injection h with h;subst h;exact ⟨rfl,fun j x y hx=>by simp at hx⟩
 | x::xs,cs,h=>by
  rw [ag6] at h
  unfold K9 at h
  split at h
  ·rename_i heq;cases heq
  ·rename_i y rest heq
   injection heq with e1 e2
   subst e2
   split at h
   ·rename_i z zs hz hzs
    injection h with h;subst h
    obtain ⟨g1,g2⟩:=I7 hρ hzs
    refine ⟨by simp [g1],fun j x' y' hx hy=>?_⟩
    cases j with
    | zero=>simp at hx hy;subst hx hy;exact SV.norm_rep (hρ _ _ e1) hz
    | succ j=>exact g2 j x' y' (by simpa using hx) (by simpa using hy)
   ·cases h
  ·cases h
theorem aaB {ρ:Operand->Option AV} {args:Array Operand} {x y:AV} (h:args.toList.map ρ=[some x,some y]) : ∃ a b,args = #[a,b]/\ρ a=some x/\ρ b=some y:=by
 obtain ⟨l⟩:=args
 match l,h with
 | [],h=>cases h
 | [a],h=>simp at h
 | [a,b],h=>simp only [ag6,ag_,List.cons.injEq,and_true] at h;exact ⟨a,b,rfl,h⟩
 | a::b::c::l,h=>simp at h
theorem WE (hti:TIok P ti) (hi:Inv B R γ L w) {a:Act} {ρ:Operand->Option AV} (hρ : ∀ x v,ρ x=some v->v.rep R γ L (a.eval x)) {o:Oper} {v:AV} {φ:Prop} (h:pop ti ρ L o.op=some (v,φ)) (hφ:φ) :
  zm P B R γ L w (execOp a.eval o) v:=by
 obtain ⟨dst,op,type,pos,after,guard⟩:=o
 simp only at h
 unfold pop at h
 split at h
 ·rename_i x
  split at h
  case h_2=>cases h
  ·rename_i vx hx
   injection h with h;injection h with e1 e2;subst e1
   exact ⟨a.eval x,w,R,by simp [execOp],hi,Ext.refl _ _ _,hρ _ _ hx⟩
 ·rename_i x
  split at h
  case h_2=>cases h
  ·rename_i vx hx
   injection h with h;injection h with e1 e2;subst e1
   exact ⟨a.eval x,w,R,by simp [execOp],hi,Ext.refl _ _ _,hρ _ _ hx⟩
 ·rename_i c x y
  split at h
  ·rename_i t va vb hc hx hy
   injection h with h;injection h with e1 e2;subst e1
   have h1:=hρ _ _ hc
   generalize hcv:a.eval c=cv at h1
   cases h1
   refine ⟨if t=true then a.eval x else a.eval y,w,R,?_,hi,Ext.refl _ _ _,?_⟩
   ·simp [execOp,hcv,asBool]
   ·cases t
    ·simpa using hρ _ _ hy
    ·simpa using hρ _ _ hx
  ·cases h
 ·rename_i op' t x y yt
  split at h
  ·rename_i va vb hx hy
   obtain ⟨u,h1,h2⟩:=Ps (P:=P) (x:=x) (y:=y) hti hi (hρ _ _ hx) (hρ _ _ hy) h hφ
   have:=zm.quiet (P:=P) (v:=v) hi h1 h2
   simpa [execOp] using this
  ·cases h
 ·rename_i op' t x
  split at h
  ·rename_i b hx
   injection h with h;injection h with e1 e2;subst e1
   have h1:=hρ _ _ hx
   generalize hcv:a.eval x=cv at h1
   cases h1
   exact ⟨.bool (!b),w,R,by simp [execOp,hcv,Op.unary],hi,Ext.refl _ _ _, .bool _⟩
  ·rename_i k n hx
   injection h with h;injection h with e1 e2;subst e1
   have h1:=hρ _ _ hx
   generalize hcv:a.eval x=cv at h1
   cases h1
   exact ⟨.int k (k.wrap (0-n)),w,R,by simp [execOp,hcv,Op.unary,Op.intArith],hi,Ext.refl _ _ _, .int _ _⟩
  ·cases h
 ·rename_i src ds x
  split at h
  ·rename_i k n hx
   have h1:=hρ _ _ hx
   generalize hcv:a.eval x=cv at h1
   cases h1
   split at h
   ·rename_i k' hd
    injection h with h;injection h with e1 e2;subst e1 e2
    obtain ⟨d,hd2⟩:=ahA.1 hφ
    exact ⟨.int k' (k'.wrap n),w,R,by simp [execOp,hcv,convert,underlying,program,Sem.run,hti.kind _ _ hd,hti.kind _ _ hd2,Conv.intToInt],hi,Ext.refl _ _ _, .int _ _⟩
   ·cases h
  ·rename_i s hx
   have h1:=hρ _ _ hx
   generalize hcv:a.eval x=cv at h1
   cases h1
   injection h with h;injection h with e1 e2;subst e1 e2
   obtain ⟨hd,hs⟩:=hφ
   obtain ⟨d,hd2⟩:=ahA.1 hs
   exact ⟨.string s,w,R,by simp [execOp,hcv,convert,underlying,program,Sem.run,hti.kind _ _ hd,hti.kind _ _ hd2],hi,Ext.refl _ _ _, .str _⟩
  ·cases h
 ·rename_i t p
  cases hx:ρ p with
  | none=>simp [hx] at h
  | some vx =>
   rw [hx] at h
   obtain ⟨u,h1,h2⟩:=AP hti hi (hρ _ _ hx) h hφ
   exact zm.quiet hi h1 h2
 ·rename_i s x i
  split at h
  ·rename_i id ver i0 off hx
   obtain ⟨u,h1,h2⟩:=Eg hti (w:=w) (hρ _ _ hx) h hφ
   exact zm.quiet hi h1 h2
  case h_3=>cases h
  ·rename_i vx hne hx
   obtain ⟨u,h1,h2⟩:=BI hti (w:=w) (hρ _ _ hx) h hφ
   exact zm.quiet hi h1 h2
 ·rename_i s x i
  cases hx:ρ x with
  | none=>simp [hx] at h
  | some vx =>
   rw [hx] at h
   obtain ⟨u,h1,h2⟩:=J7 hti (w:=w) (hρ _ _ hx) h hφ
   exact zm.quiet hi h1 h2
 ·rename_i t x ix
  split at h
  ·rename_i id ver lo n vi hx hy
   obtain ⟨u,h1,h2⟩:=Ew hti hi (hρ _ _ hx) (hρ _ _ hy) h hφ
   exact zm.quiet hi h1 h2
  ·rename_i vx vi hne hx hy
   obtain ⟨u,h1,h2⟩:=BZ hti (w:=w) (hρ _ _ hx) (hρ _ _ hy) h hφ
   exact zm.quiet hi h1 h2
  ·cases h
 ·rename_i t x ix
  split at h
  ·rename_i vx vi hx hy
   obtain ⟨u,h1,h2⟩:=Kh hti (w:=w) (hρ _ _ hx) (hρ _ _ hy) h hφ
   exact zm.quiet hi h1 h2
  ·cases h
 ·rename_i t i
  split at h
  ·rename_i ps hx
   split at h
   case h_2=>cases h
   ·rename_i p hp
    injection h with h;injection h with e1 e2;subst e1
    obtain ⟨vs,h1,h2,h3⟩:=hρ _ _ hx
    have hlt:i<vs.size:=by rw [h2];exact (agV.1 hp).1
    have hu:vs[i]?=some vs[i]:=ahi hlt
    exact ⟨vs[i],w,R,by simp [execOp,h1,Instr.extract,hu],hi,Ext.refl _ _ _,PV.av_rep (h3 i _ p hu hp)⟩
  ·rename_i ps hx
   split at h
   case h_2=>cases h
   ·rename_i p hp
    injection h with h;injection h with e1 e2;subst e1
    obtain ⟨vs,h1,h2,h3⟩:=hρ _ _ hx
    have hlt:i<vs.size:=by rw [h2];exact (agV.1 hp).1
    have hu:vs[i]?=some vs[i]:=ahi hlt
    exact ⟨vs[i],w,R,by simp [execOp,h1,Instr.extract,hu],hi,Ext.refl _ _ _,h3 i _ p hu hp⟩
  ·cases h
 ·rename_i x
  split at h
  ·rename_i cs hx
   injection h with h;injection h with e1 e2;subst e1
   have h1:=hρ _ _ hx
   have h1':=h1
   generalize hcv:a.eval x=cv at h1
   cases h1
   exact ⟨_,w,R,by simp [execOp,hcv];rfl,hi,Ext.refl _ _ _,by rw [<- hcv];exact h1'⟩
  ·rename_i id off hx
   injection h with h;injection h with e1 e2;subst e1
   obtain ⟨b,h1,h2⟩:=hρ _ _ hx
   exact ⟨.pointer (some ⟨b,off,none⟩),w,R,by simp [execOp,h1],hi,Ext.refl _ _ _,b,rfl,h2⟩
  ·rename_i id ver i o hx
   split at h
   case h_2=>cases h
   rename_i ver' es k hL
   injection h with h;injection h with e1 e2;subst e1 e2
   subst hφ
   have h1:=hρ _ _ hx
   obtain ⟨_,g,_,hat⟩:=(h1.2.2 _ es k hL).2 rfl
   match g,hat with
   | .arr b c,hat =>
    have hat:a.eval x = .pointer (some ⟨b,i*k+o,none⟩):=hat
    exact ⟨_,w,R,by simp [execOp,hat];rfl,hi,Ext.refl _ _ _,by rw [<- hat];exact h1⟩
  ·rename_i f cs hx
   injection h with h;injection h with e1 e2;subst e1
   have h1:=hρ _ _ hx
   obtain ⟨vs,hv,_⟩:=id h1
   exact ⟨_,w,R,by simp [execOp,hv];rfl,hi,Ext.refl _ _ _,by rw [<- hv];exact h1⟩
  ·rename_i f cs hx
   injection h with h;injection h with e1 e2;subst e1
   have h1:=hρ _ _ hx
   have h1':=h1
   generalize hcv:a.eval x=cv at h1
   cases h1
   exact ⟨_,w,R,by simp [execOp,hcv];rfl,hi,Ext.refl _ _ _,by rw [<- hcv];exact h1'⟩
  ·cases h
 ·rename_i t x lo hi'
  split at h
  ·rename_i vx hx hl hh
   obtain rfl:lo=none:=by cases lo<;>simp at hl ⊢
   obtain rfl:hi'=none:=by cases hi'<;>simp at hh ⊢
   obtain ⟨u,h1,h2⟩:=mV hti hi (lo:=none) (hi:=none) (vlo:=none) (vhi:=none) (hρ _ _ hx) trivial trivial h hφ
   exact zm.quiet hi h1 h2
  ·rename_i vx l hx hl hh
   obtain ⟨lo',rfl⟩ : ∃ l',lo=some l':=by cases lo<;>simp at hl ⊢
   obtain rfl:hi'=none:=by cases hi'<;>simp at hh ⊢
   simp only [Option.map_some,Option.some.injEq] at hl
   obtain ⟨u,h1,h2⟩:=mV hti hi (lo:=some l) (hi:=none) (vlo:=some (a.eval lo')) (vhi:=none) (hρ _ _ hx) (hρ _ _ hl) trivial h hφ
   exact zm.quiet hi h1 h2
  ·rename_i vx l hx hl hh
   obtain rfl:lo=none:=by cases lo<;>simp at hl ⊢
   obtain ⟨hi'',rfl⟩ : ∃ l',hi'=some l':=by cases hi'<;>simp at hh ⊢
   simp only [Option.map_some,Option.some.injEq] at hh
   obtain ⟨u,h1,h2⟩:=mV hti hi (lo:=none) (hi:=some l) (vlo:=none) (vhi:=some (a.eval hi'')) (hρ _ _ hx) trivial (hρ _ _ hh) h hφ
   exact zm.quiet hi h1 h2
  ·rename_i vx l l2 hx hl hh
   obtain ⟨lo',rfl⟩ : ∃ l',lo=some l':=by cases lo<;>simp at hl ⊢
   obtain ⟨hi'',rfl⟩ : ∃ l',hi'=some l':=by cases hi'<;>simp at hh ⊢
   simp only [Option.map_some,Option.some.injEq] at hl hh
   obtain ⟨u,h1,h2⟩:=mV hti hi (lo:=some l) (hi:=some l2) (vlo:=some (a.eval lo')) (vhi:=some (a.eval hi'')) (hρ _ _ hx) (hρ _ _ hl) (hρ _ _ hh) h hφ
   exact zm.quiet hi h1 h2
  ·cases h
 ·rename_i args argTypes
  split at h
  ·rename_i x t hx ht
   have e1:args = #[x]:=by cases args;simp_all
   have e2:argTypes = #[t]:=by cases argTypes;simp_all
   subst e1 e2
   split at h
   ·rename_i id ver lo n hρx
    obtain ⟨u,h1,h2⟩:=GI hti (w:=w) (ty:=type) (hρ _ _ hρx) h hφ
    refine ⟨u,w,R,?_,hi,Ext.refl _ _ _,h2⟩
    simp [execOp,resolve,invoke,builtin,h1]
   case h_3=>cases h
   ·rename_i vx hne hρx
    obtain ⟨u,h1,h2⟩:=OM hti (w:=w) (ty:=type) (hρ _ _ hρx) h hφ
    refine ⟨u,w,R,?_,hi,Ext.refl _ _ _,h2⟩
    simp [execOp,resolve,invoke,builtin,h1]
  ·cases h
 ·rename_i args argTypes
  split at h
  ·rename_i vx vy hxy
   obtain ⟨x,y,rfl,hx2,hy2⟩:=aaB hxy
   ·obtain ⟨u,h1,h2⟩:=xR (P:=P) (w:=w) (ts:=argTypes) (ty:=type) (hρ _ _ hx2) (hρ _ _ hy2) h
    refine ⟨u,w,R,?_,hi,Ext.refl _ _ _,h2⟩
    simp only [Bool.false_eq_true,if_false] at h1
    simp [execOp,resolve,invoke,builtin,h1]
  ·cases h
 ·rename_i args argTypes
  split at h
  ·rename_i vx vy hxy
   obtain ⟨x,y,rfl,hx2,hy2⟩:=aaB hxy
   ·obtain ⟨u,h1,h2⟩:=xR (P:=P) (w:=w) (ts:=argTypes) (ty:=type) (hρ _ _ hx2) (hρ _ _ hy2) h
    refine ⟨u,w,R,?_,hi,Ext.refl _ _ _,h2⟩
    simp only [if_true] at h1
    simp [execOp,resolve,invoke,builtin,h1]
  ·cases h
 ·rename_i t parts
  split at h
  ·rename_i zs hz
   split at h
   case h_2=>cases h
   ·rename_i r ψ hb
    injection h with h;injection h with e1 e2;subst e1 e2
    obtain ⟨hts,hr⟩:=hφ
    obtain ⟨u,h1,h2⟩:=Jh hti (w:=w) (R:=R) (γ:=γ) (L:=L) (us:=parts.map fun p=>(p.1,a.eval p.2)) hts (hti.zero _ _ hz) (by simp) (by
     intro j p q hp hq
     rw [ahg] at hp
     rw [Array.getElem?_map] at hq
     cases hj:parts[j]? with
     | none=>simp [hj] at hq
     | some pj =>
      have:parts.toList[j]?=some pj:=by simpa using hj
      rw [this] at hp
      rw [hj] at hq
      simp only [Option.map_some,Option.some.injEq] at hp hq
      subst hp hq
      exact ⟨rfl,fun v hv=>hρ _ _ hv⟩) hb hr
    exact zm.quiet hi h1 h2
  ·cases h
 ·rename_i f first captured
  split at h
  ·rename_i cs hf hc
   injection h with h;injection h with e1 e2;subst e1
   obtain ⟨g1,g2⟩:=I7 hρ hc
   have:first = #[]:=by cases first;simp_all
   subst this
   refine ⟨.func (.func f) #[] (captured.map a.eval),w,R,by simp [execOp,Instr.makeFunc],hi,Ext.refl _ _ _,?_⟩
   refine .fn f _ cs (by simpa using g1) (fun j u x hu hx=>?_)
   rw [Array.getElem?_map] at hu
   cases hj:captured[j]? with
   | none=>simp [hj] at hu
   | some y =>
    rw [hj] at hu
    simp only [Option.map_some,Option.some.injEq] at hu
    subst hu
    exact g2 j y x (by simpa using hj) hx
  ·cases h
 ·cases h
end
open Go.RowKit Go.Great
def PV.cells:PV->List AC
 | .one x=>[x]
 | .agg xs=>xs
def tC (ρ:Operand->Option AV):List (Nat × Operand)->Nat->Option (List (List AC))
 | [],_=>some []
 | (i,x)::ps,j=>if i=j then match (ρ x).bind AV.norm,tC ρ ps (j+1) with
   | some p,some es=>some (p.cells::es)
   | _,_=>none
  else none
def Fj (ti:TI) (ρ:Operand->Option AV) (t:TypeId) (len:Nat) (parts:List (Nat × Operand)):Option (AV × Prop) :=
 match tC ρ parts 0,ti.elem t with
 | some es,some E=>match ti.size E with
  | some k=>if len=0 then some (.one .emp,es=[]) else some (.one (.c (.lst es)),es.length=len/\(∀ e∈es,e.length=k)/\0<k/\len*k<=16777216/\ti.zok E=true)
  | none=>none
 | _,_=>none
def abl (R:PHf) (b:Nat) (f:Nat->Option Value):PHf:=fun b' o=>match R b' o with
 | some u=>some u
 | none=>if b'=b then f o else none
def PH.add (R:PH) (b:Nat) (f:Nat->Option Value):PH:=⟨abl R b f,R.tab.mono fun b' o u h=>by unfold abl;rw [h]⟩
theorem PH.add_eq {R:PH} {b:Nat} {f:Nat->Option Value} (hR : ∀ o,R b o=none) (b' o:Nat):(R.add b f) b' o=if b'=b then f o else R b' o:=by
 show abl R b f b' o=_
 unfold abl
 by_cases e:b'=b
 ·subst e;rw [hR,if_pos rfl]
 ·rw [if_neg e];cases R b' o<;>simp [e]
section
variable {P:Program} {ti:TI} {B:Nat->Prop} {R:PH} {γ:List Gh} {L:List Ob} {w:World}
theorem Inv.lt (hi:Inv B R γ L w) {b o:Nat} {u:Value} (h:R b o=some u):b<w.heap.size:=lt_of_cell (hi.val _ _ _ h)
theorem Inv.none_at (hi:Inv B R γ L w) (o:Nat):R w.heap.size o=none:=by
 cases h:R w.heap.size o with
 | none=>rfl
 | some u=>have:=hi.lt h;omega
theorem Hd (hi:Inv B R γ L w) (f:Nat->Option Value):PH.sub R (R.add w.heap.size f):=by
 intro b o u h
 have:=hi.lt h
 rw [PH.add_eq hi.none_at,if_neg (by omega)];exact h
theorem ib (w:World) (o:Obj):(w.alloc o).heap[w.heap.size]?=some o:=by show (w.heap.push o)[w.heap.size]?=_;simp
theorem jO (w:World) (o:Obj) {b:Nat} (h:b<w.heap.size):(w.alloc o).heap[b]?=w.heap[b]?:=Below.heap_alloc w o b h
theorem Kept.alloc {B:Nat->Prop} {w:World} (h : ∀ b,B b->b<w.heap.size) (o:Obj):Kept B w (w.alloc o) :=
 ⟨rfl,rfl,rfl,by simp,fun b hb=>jO w o (h b hb)⟩
theorem Inv.pers (hi:Inv B R γ L w) (cells:Array Value) (E:TypeId) (f:Nat->Option Value) (hf : ∀ o u,f o=some u->cells[o]?=some u):Inv B (R.add w.heap.size f) γ L (w.alloc (.cells cells E)):=by
 refine ⟨hi.len,fun b o u h=>?_,fun id x g hx hg=>?_,hi.inj,fun i g b hg hb=>?_,?_⟩
 ·rw [PH.add_eq hi.none_at] at h
  split at h
  ·rename_i e;subst e
   rw [cob_ (ib w _)]
   exact hf o u h
  ·have:=hi.lt h
   have h2:=hi.val _ _ _ h
   rw [<- h2]
   exact World.cell?_of_block (w:=w) (jO w _ this)
 ·refine (hi.obj id x g hx hg).mv (Mv.of_sub (Hd hi _)) (fun b hb=>jO w _ (hi.new id g b hg hb).2) (fun b o hb h=>?_)
  have:=(hi.new id g b hg hb).2
  rw [PH.add_eq hi.none_at,if_neg (by omega)];exact h
 ·have:=hi.new i g b hg hb
  exact ⟨this.1,by simp;omega⟩
 ·intro b hb;have:=hi.bsz b hb;simp;omega
theorem Ext.pers (hi:Inv B R γ L w) (o:Obj) (f:Nat->Option Value):Ext B R (R.add w.heap.size f) w (w.alloc o):=by
 refine ⟨Kept.alloc hi.bsz o,Hd hi f,fun b o hb=>?_⟩
 have:=hi.bsz b hb
 rw [PH.add_eq hi.none_at,if_neg (by omega)]
theorem PV.cells_rep {p:PV} {u:Value} (h:p.rep R u):u.cells.size=p.cells.length /\ ∀ (j:Nat) v x,u.cells[j]?=some v->p.cells[j]?=some x->bP R v x:=by
 cases p with
 | one x =>
  have e:=(bP.one h).1
  rw [e]
  refine ⟨rfl,fun j v y hv hy=>?_⟩
  cases j with
  | zero=>simp [PV.cells] at hv hy;subst hv hy;exact h
  | succ j=>simp at hv
 | agg xs =>
  obtain ⟨vs,rfl,h1,h2⟩:=h
  exact ⟨h1,h2⟩
theorem FU {ρ:Operand->Option AV} {a:Act} (hρ : ∀ x v,ρ x=some v->v.rep R γ L (a.eval x)) : ∀ (ps:List (Nat × Operand)) (j:Nat) (es:List (List AC)),tC ρ ps j=some es ->
  ∃ vs:List Value,(ps.map fun p=>(p.1,a.eval p.2))=(vs.zipIdx j).map (fun x=>(x.2,x.1))/\vs.length=es.length /\
   (∀ (i:Nat) v e,vs[i]?=some v->es[i]?=some e->v.cells.size=e.length /\ ∀ (q:Nat) u x,v.cells[q]?=some u->e[q]?=some x->bP R u x)
 | [],j,es,h=>by injection h with h;subst h;exact ⟨[],rfl,rfl,fun i v e hv=>by simp at hv⟩
 | (i,x)::ps,j,es,h=>by
  unfold tC at h
  split at h
  ·rename_i hij
   subst hij
   split at h
   ·rename_i p es' hp hes
    injection h with h;subst h
    obtain ⟨vs,h1,h2,h3⟩:=FU hρ ps (i+1) es' hes
    cases hx:ρ x with
    | none=>simp [hx] at hp
    | some vx =>
     simp only [hx,agU] at hp
     have hr:=PV.cells_rep (AV.norm_rep (hρ _ _ hx) hp)
     refine ⟨a.eval x::vs,by simp [List.zipIdx_cons,h1],by simp [h2],fun q v e hv he=>?_⟩
     cases q with
     | zero=>simp at hv he;subst hv he;exact hr
     | succ q=>exact h3 q v e (by simpa using hv) (by simpa using he)
   ·cases h
  ·cases h
theorem flat_get (k:Nat) : ∀ (vs:List Value),(∀ v∈vs,v.cells.size=k) -> ∀ (i:Nat) (v:Value),vs[i]?=some v -> ∀ j,j<k->(vs.flatMap fun v=>v.cells.toList)[i*k+j]?=v.cells[j]?
 | [],_,i,v,h,j,hj=>by simp at h
 | y::l,hk,0,v,h,j,hj=>by
  simp at h;subst h
  rw [ahw,ag9 (by simp;rw [hk y (by simp)];omega)];simp
 | y::l,hk,i+1,v,h,j,hj=>by
  have h':l[i]?=some v:=by simpa using h
  have hy:=hk y (by simp)
  rw [ahw,ag2 (by simp;rw [hy,Nat.succ_mul];omega), <- flat_get k l (fun u hu=>hk u (ahh _ hu)) i v h' j hj]
  congr 1;simp;rw [hy,Nat.succ_mul];omega
theorem Ju (k:Nat) : ∀ (vs:List Value),(∀ v∈vs,v.cells.size=k)->(vs.flatMap fun v=>v.cells.toList).length=vs.length*k
 | [],_=>by simp
 | y::l,hk=>by
  rw [ahw,ag3,Ju k l fun u hu=>hk u (ahh _ hu),ahf,Nat.succ_mul]
  simp;rw [hk y (by simp)];omega
theorem Oc (hti:TIok P ti) (hi:Inv B R γ L w) {a:Act} {ρ:Operand->Option AV} (hρ : ∀ x v,ρ x=some v->v.rep R γ L (a.eval x)) {t:TypeId} {len:Nat} {parts:Array (Nat × Operand)} {v:AV} {φ:Prop}
  (h:Fj ti ρ t len parts.toList=some (v,φ)) (hφ:φ) :
  ∃ u w' R',(Instr.buildSlice t len (parts.map fun p=>(p.1,a.eval p.2))).run P w = .ok u w'/\Inv B R' γ L w'/\Ext B R R' w w'/\v.rep R' γ L u:=by
 unfold Fj at h
 split at h
 ·rename_i es E hes hE
  split at h
  ·rename_i k hk
   have hE:=hti.elem _ _ hE
   have hk:=hti.size _ _ hk
   have hu:P.underlying t=some (.slice E):=by
    unfold ui at hE
    split at hE
    ·rename_i e he;injection hE with hE;subst hE;exact he
    ·cases hE
   obtain ⟨vs,e1,e2,e3⟩:=FU hρ _ _ _ hes
   have hparts:(parts.map fun p=>(p.1,a.eval p.2)).toList=(vs.zipIdx 0).map fun x=>(x.2,x.1):=by rw [Array.toList_map,e1]
   split at h
   ·rename_i hl0
    injection h with h;injection h with g1 g2;subst g1 g2
    subst hl0
    have hvs:vs=[]:=ahj (by rw [e2,hφ];rfl)
    subst hvs
    refine ⟨.slice (some ⟨w.heap.size,0,none⟩) 0 0,w.alloc (.cells #[] E),R.add w.heap.size (fun _=>none),?_,hi.pers _ _ _ (fun o u h=>by cases h),Ext.pers hi _ _,_,rfl⟩
    have hz:(sizeOf E).run P w = .ok k w:=run_sizeOf hk
    have hp0:parts = #[]:=by
     have:parts.toList=[]:=by simpa using e1
     cases parts;simp_all
    subst hp0
    simp [Instr.buildSlice,underlying,program,Sem.run,hu,hz,Instr.fill,newRow]
    have e0:(Array.map (fun (_:Nat)=>(default:Value)) (Array.range 0)) = #[]:=by simp
    rw [e0]
   ·rename_i hl0
    injection h with h;injection h with g1 g2;subst g1 g2
    obtain ⟨hlen,hek,hk0,hsm,hzk⟩:=hφ
    obtain ⟨i,z,hi1,hi2,hi3,hi4⟩:=hti.zok _ hzk _ hk
    have hcs : ∀ v∈vs,v.cells.size=k:=by
     intro v hv
     obtain ⟨q,hq⟩:=List.mem_iff_getElem?.1 hv
     have hlt:q<es.length:=by rw [<- e2];exact (agV.1 hq).1
     have he:es[q]?=some es[q]:=ag4 hlt
     rw [(e3 q v _ hq he).1]
     exact hek _ (List.getElem_mem hlt)
    have hne : ¬ len*i.size=0:=by
     rw [hi3]
     intro e
     rcases Nat.mul_eq_zero.1 e with e|e<;>omega
    have hrun:=run_buildSlice (P:=P) w t E len (parts.map fun p=>(p.1,a.eval p.2)) (vs.flatMap fun v=>v.cells.toList).toArray i z hu hi1 hi2 (by rw [hi3];omega) hne (by
     rw [hparts,hi3]
     exact Go.Great.fill_whole hk0 vs _ hcs (by simp;rw [e2,hlen]))
    refine ⟨_,_,R.add w.heap.size (fun o=>(vs.flatMap fun v=>v.cells.toList).toArray[o]?),hrun,hi.pers _ _ _ (fun o u h=>h),Ext.pers hi _ _,?_⟩
    have hsub:=Hd hi (fun o=>(vs.flatMap fun v=>v.cells.toList).toArray[o]?)
    refine .lst _ len len es k (fun j=>((vs.flatMap fun v=>v.cells.toList)[j]?).getD Go.undef) w.heap.size 0 hlen (ag' _) hek (fun _=>rfl) (fun j hj=>?_) (fun q e j x he hx=>?_)
    ·rw [PH.add_eq hi.none_at,if_pos rfl]
     have:j<(vs.flatMap fun v=>v.cells.toList).length:=by rw [Ju k vs hcs,e2,hlen];exact hj
     simp [ag4 this]
    ·have hqlt:q<vs.length:=by rw [e2];exact (agV.1 he).1
     have hv:vs[q]?=some vs[q]:=ag4 hqlt
     have hjk:j<k:=by rw [<- hek e (ag1 he)];exact (agV.1 hx).1
     have h3:=e3 q _ e hv he
     rw [flat_get k vs hcs q _ hv j hjk]
     have hju:j<vs[q].cells.size:=by rw [h3.1];exact (agV.1 hx).1
     rw [ahi hju]
     exact bP.mono hsub (h3.2 j _ x (ahi hju) hx)
  ·cases h
 ·cases h
end
def Bw (ti:TI) (L:List Ob) (t tx:TypeId) (s x:AV):Option (AV × List Ob × Prop) :=
 match fZ x,ti.elem t with
 | some xs,some E=>match ti.size E,ti.bytes E with
  | some k,some by_=>match s with
   | .one .emp=>some (.one (.own xs L.length),L++[.spare xs.length k],(ti.elem tx).isSome/\0<k/\ti.zok E=true/\(∀ e∈xs,e.length=k)/\xs.length*by_<=140737488355328/\xs.length<=140737488355328)
   | .one (.own es i)=>match L[i]? with
    | some (.spare n k')=>some (.one (.own (es++xs) i),L.set i (.spare (n+xs.length) k),(ti.elem tx).isSome/\k'=k/\es.length=n/\(ti.zok E=true/\0<k)/\(∀ e∈xs,e.length=k)/\(n+xs.length)*by_<=140737488355328/\n+xs.length<=140737488355328)
    | _=>none
   | _=>none
  | _,_=>none
 | _,_=>none
def He (ti:TI) (ρ:Operand->Option AV) (L:List Ob):Op->Option (AV × List Ob × Prop)
 | .alloc E=>match (ti.zero E).bind AV.cells with
  | some zs=>some (.one (.ptr L.length 0),L++[.box zs],True)
  | none=>none
 | .box _ x=>match (ρ x).bind AV.cells with
  | some xs=>some (.one (.ptr L.length 0),L++[.box xs],True)
  | none=>none
 | .store t p x=>match ρ p,(ρ x).bind AV.cells with
  | some (.one (.ptr id off)),some xs=>match L[id]? with
   | some (.box cs)=>some (.undef,L.set id (.box (splice cs off xs)),off+xs.length<=cs.length/\ti.size t=some xs.length)
   | _=>none
  | some (.one (.ep id ver i o)),some xs=>match L[id]? with
   | some (.row ver' es k)=>match es[i]? with
    | some e=>some (.undef,L.set id (.row ver' (es.set i (splice e o xs)) k),ver=ver'/\o+xs.length<=e.length/\ti.size t=some xs.length)
    | none=>none
   | _=>none
  | _,_=>none
 | .call { callee := .builtin .append,args,argTypes } => match args.toList,argTypes.toList with
  | [s,x],[t,tx]=>match ρ s,ρ x with
   | some vs,some vx=>Bw ti L t tx vs vx
   | _,_=>none
  | _,_=>none
 | _=>none
def aaX (P:Program) (B:Nat->Prop) (R:PH) (γ:List Gh) (L L':List Ob) (w:World) (s:Sem Next) (v:AV):Prop :=
 ∃ w' R' γ',(((∃ u,s.run P w = .ok (.value u) w'/\v.rep R' γ' L' u)\/(s.run P w = .ok .skip w'/\v = .undef)))/\Inv B R' γ' L' w'/\Ext B R R' w w'/\Mv R R' γ γ' L L'
section
variable {P:Program} {B:Nat->Prop} {R:PH} {γ:List Gh} {L:List Ob} {w:World}
theorem Mv.push (g:Gh) (x:Ob) (hl:γ.length=L.length):Mv R R γ (γ++[g]) L (L++[x]):=by
 refine ⟨PH.sub_refl _,by simp,fun t n k hlt h=>⟨n,?_,ag' _,fun _=>?_⟩,fun t ver es k hlt h=>⟨ver,es,?_,ag' _,fun _=>⟨rfl,?_⟩⟩,fun id b h=>?_⟩
 ·rw [ag9 hlt] at h;exact h
 ·rw [ag9 (by rw [hl];exact hlt)]
 ·rw [ag9 hlt] at h;exact h
 ·rw [ag9 (by rw [hl];exact hlt)]
 ·rw [ag9 (agV.1 h).1];exact h
theorem Inv.push (hi:Inv B R γ L w) (x:Ob) (g:Gh) (o:Obj) (hg:g.block=some w.heap.size) (hx:qU R (γ++[g]) (L++[x]) (w.alloc o) x g):Inv B R (γ++[g]) (L++[x]) (w.alloc o):=by
 refine ⟨by simp [hi.len],fun b o' u h=>?_,fun id y h hy hh=>?_,fun i j gi gj h1 h2 hne b hb=>?_,fun i h b hh hb=>?_,?_⟩
 ·have:=hi.lt h
  rw [<- hi.val _ _ _ h]
  exact World.cell?_of_block (w:=w) (jO w _ this)
 ·by_cases hid:id<L.length
  ·rw [ag9 hid] at hy
   rw [ag9 (by rw [hi.len];exact hid)] at hh
   exact (hi.obj id y h hy hh).mv (Mv.push g x hi.len) (fun b hb=>jO w _ (hi.new id h b hh hb).2) (fun _ _ _ h=>h)
  ·have hid':id=L.length:=by have:=(agV.1 hy).1;simp at this;omega
   subst hid'
   rw [ag2 (by omega)] at hy
   rw [ag2 (by rw [hi.len];omega),hi.len] at hh
   simp at hy hh;subst hy hh
   exact hx
 ·have bnd : ∀ i h,(γ++[g])[i]?=some h->(i<γ.length/\γ[i]?=some h)\/(i=γ.length/\h=g):=by
   intro i h hh
   by_cases hid:i<γ.length
   ·rw [ag9 hid] at hh;exact .inl ⟨hid,hh⟩
   ·have:i=γ.length:=by have:=(agV.1 hh).1;simp at this;omega
    subst this
    rw [ag2 (by omega)] at hh
    simp at hh
    exact .inr ⟨rfl,hh.symm⟩
  rcases bnd i gi h1 with ⟨a1,a2⟩|⟨a1,a2⟩<;>rcases bnd j gj h2 with ⟨b1,b2⟩|⟨b1,b2⟩
  ·exact hi.inj i j gi gj a2 b2 hne b hb
  ·subst b2;have:=(hi.new i gi b a2 hb).2;rw [hg];intro e;injection e with e;omega
  ·subst a2;rw [hg] at hb;injection hb with hb;subst hb
   intro e;have:=(hi.new j gj _ b2 e).2;omega
  ·omega
 ·by_cases hid:i<γ.length
  ·rw [ag9 hid] at hh
   have:=hi.new i h b hh hb
   exact ⟨this.1,by simp;omega⟩
  ·have:i=γ.length:=by have:=(agV.1 hh).1;simp at this;omega
   subst this
   rw [ag2 (by omega)] at hh
   simp at hh;subst hh
   rw [hg] at hb;injection hb with hb;subst hb
   exact ⟨fun hB=>by have:=hi.bsz _ hB;omega,by simp⟩
 ·intro b hb;have:=hi.bsz b hb;simp;omega
theorem Xm (hi:Inv B R γ L w) {xs:List SV} {vs:Array Value} (E:TypeId) (h:LQ R γ L xs vs) :
  Inv B R (γ++[.box w.heap.size]) (L++[.box xs]) (w.alloc (.cells vs E))/\(SV.ptr L.length 0).rep R (γ++[.box w.heap.size]) (L++[.box xs]) (.pointer (some ⟨w.heap.size,0,none⟩)):=by
 refine ⟨hi.push _ _ _ rfl ⟨⟨vs,E,ib w _,h.1,fun j u x hu hx=>SV.mv (Mv.push _ _ hi.len) (h.2 j u x hu hx)⟩,fun o=>hi.none_at o⟩,w.heap.size,rfl,?_⟩
 rw [ag2 (by rw [hi.len];omega),hi.len];simp
theorem kY (b:Nat) (E:TypeId) (f:Nat × Nat) : ∀ (vs:List Value) (o:Nat) (w:World) (cs:Array Value),w.heap[b]?=some (.cells cs E f)->o+vs.length<=cs.size ->
  ∃ cs',(w.setCells b o vs).heap[b]?=some (.cells cs' E f)/\cs'.size=cs.size /\ ∀ i,cs'[i]?=if o<=i/\i<o+vs.length then vs[i-o]? else cs[i]?
 | [],o,w,cs,h,_=>⟨cs,h,rfl,fun i=>by rw [if_neg (by intro h;simp only [aho] at h;omega)]⟩
 | v::vs,o,w,cs,h,hl=>by
  rw [ahf] at hl
  have h1:(w.setCell ⟨b,o,none⟩ v).heap[b]?=some (.cells (cs.setIfInBounds o v) E f):=by
   simp [World.setCell,Array.getElem?_modify,h]
  obtain ⟨cs',g1,g2,g3⟩:=kY b E f vs (o+1) _ _ h1 (by simp;omega)
  refine ⟨cs',g1,by rw [g2];simp,fun i=>?_⟩
  rw [g3 i]
  by_cases c1:o+1<=i/\i<o+1+vs.length
  ·rw [if_pos c1,if_pos (by simp;omega)]
   have:i-o=(i-(o+1))+1:=by omega
   rw [this,List.getElem?_cons_succ]
  ·rw [if_neg c1]
   by_cases c2:i=o
   ·subst c2
    rw [if_pos (by simp)]
    rw [ahM (by omega)]
    simp
   ·rw [if_neg (by simp;omega),ahC (by omega)]
theorem iy (b:Nat) {b':Nat} (hne:b'≠b) : ∀ (vs:List Value) (o:Nat) (w:World),(w.setCells b o vs).heap[b']?=w.heap[b']?
 | [],_,_=>rfl
 | v::vs,o,w=>(iy b hne vs (o+1) _).trans (Below.heap_setCell w _ v b' hne)
theorem jG (b:Nat) : ∀ (vs:List Value) (o:Nat) (w:World),(w.setCells b o vs).heap.size=w.heap.size
 | [],_,_=>rfl
 | v::vs,o,w=>(jG b vs (o+1) _).trans (by simp [World.setCell])
theorem jb {B:Nat->Prop} {b:Nat} (hb : ¬ B b) : ∀ (vs:List Value) (o:Nat) (w:World),Kept B w (w.setCells b o vs)
 | [],_,_=>Kept.refl _ _
 | v::vs,o,w=>(⟨rfl,rfl,rfl,by simp [World.setCell],fun b' hb'=>Below.heap_setCell w ⟨b,o,none⟩ v b' (fun e=>hb (by have e':b'=b:=e;rw [<- e'];exact hb'))⟩:Kept B w (w.setCell ⟨b,o,none⟩ v)).trans (jb hb vs (o+1) _)
theorem Inv.turn (hi:Inv B R γ L w) {id:Nat} {x x':Ob} {g:Gh} {b:Nat} (hx:L[id]?=some x) (hg:γ[id]?=some g) (hb:g.block=some b) {R':PH} {w':World} (hm:Mv R R' γ γ L (L.set id x'))
  (hw : ∀ b',b'≠b->w'.heap[b']?=w.heap[b']?) (hs:w'.heap.size=w.heap.size) (hR : ∀ b' o,b'≠b->R' b' o=R b' o) (hv : ∀ o u,R' b o=some u->w'.cell? ⟨b,o,none⟩=some u)
  (hobj:qU R' γ (L.set id x') w' x' g):Inv B R' γ (L.set id x') w':=by
 refine ⟨by simp [hi.len],fun b' o u h=>?_,fun i y h hy hh=>?_,hi.inj,fun i h b' hh hb'=>by rw [hs];exact hi.new i h b' hh hb',by rw [hs];exact hi.bsz⟩
 ·by_cases hbb:b'=b
  ·subst hbb;exact hv o u h
  ·rw [hR b' o hbb] at h
   rw [<- hi.val _ _ _ h]
   exact World.cell?_of_block (w:=w) (hw b' hbb)
 ·by_cases hid:i=id
  ·subst hid
   rw [ahc (agV.1 hx).1] at hy
   injection hy with hy;subst hy
   rw [hg] at hh;injection hh with hh;subst hh
   exact hobj
  ·rw [ahd (Ne.symm hid)] at hy
   have hne : ∀ b',h.block=some b'->b'≠b:=fun b' hb' e=>hi.inj i id h g hh hg hid b' hb' (by rw [hb,e])
   exact (hi.obj i y h hy hh).mv hm (fun b' hb'=>hw b' (hne b' hb')) (fun b' o hb' e=>by rw [hR b' o (hne b' hb')];exact e)
theorem QO (hi:Inv B R γ L w) {id off:Nat} {cs xs:List SV} {b:Nat} {u:Value} {t:TypeId} (hL:L[id]?=some (.box cs)) (hg:γ[id]?=some (.box b)) (hu:LQ R γ L xs u.cells) (h1 : ∀ c∈u.cells,c.oneCell'=true)
  (hle:off+xs.length<=cs.length) (ht:jc P t=some xs.length) :
  ∃ w',(Instr.storeAt t (.pointer (some ⟨b,off,none⟩)) u).run P w = .ok () w'/\Inv B R γ (L.set id (.box (splice cs off xs))) w'/\Ext B R R w w'/\Mv R R γ γ L (L.set id (.box (splice cs off xs))):=by
 obtain ⟨⟨vs,E,hb,hs,hv⟩,hR⟩:=hi.obj id _ _ hL hg
 have hsz:u.cells.size=xs.length:=hu.1
 have hthere : ∀ j,j<u.cells.toList.length->(w.cell? ⟨b,off+0+j,none⟩).isSome=true:=by
  intro j hj
  rw [cob_ hb]
  have:off+0+j<vs.size:=by simp at hj;omega
  rw [ahi this];rfl
 have hfz : ∀ j,j<u.cells.toList.length->w.frozen? ⟨b,off+0+j,none⟩=false:=by
  intro j _
  simp [World.frozen?,hb]
 have hrun:=run_storeCells_cells (P:=P) b off u.cells.toList 0 w hthere hfz (fun v hv=>h1 v (by simpa using hv))
 obtain ⟨cs',g1,g2,g3⟩:=kY b E (0,0) u.cells.toList off w vs hb (by simp;omega)
 have hm:Mv R R γ γ L (L.set id (.box (splice cs off xs))):=by
  refine ⟨PH.sub_refl _,by simp,fun t' n k hlt h=>⟨n,?_,ag' _,fun _=>rfl⟩,fun t' ver es k hlt h=>⟨ver,es,?_,ag' _,fun _=>⟨rfl,rfl⟩⟩,fun _ _ h=>h⟩
  all_goals
   have:t'≠id:=by rintro rfl;rw [ahc hlt] at h;cases h
   rw [ahd (Ne.symm this)] at h;exact h
 refine ⟨w.setCells b off u.cells.toList,?_,?_,?_,hm⟩
 ·have hst:(storeVar t ⟨b,off,none⟩ u).run P w = .ok () (w.setCells b off u.cells.toList):=by
   unfold storeVar
   simp [run_sizeOf ht,hsz]
   simpa using hrun
  simp [Instr.storeAt,Instr.sureAddr,hst]
 ·refine hi.turn hL hg rfl hm (fun b' hne=>iy b hne _ _ _) (jG _ _ _ _) (fun _ _ _=>rfl) (fun o u h=>by rw [hR o] at h;cases h) ?_
  refine ⟨⟨cs',E,g1,by rw [g2,xH hle,hs],fun j v x hv' hx=>?_⟩,hR⟩
  rw [g3 j] at hv'
  rw [CG hle] at hx
  by_cases hj:off<=j/\j<off+xs.length
  ·rw [if_pos hj] at hx
   rw [if_pos (by simp;omega)] at hv'
   exact SV.mv hm (hu.2 (j-off) v x (by simpa using hv') hx)
  ·rw [if_neg hj] at hx
   rw [if_neg (by simp;omega)] at hv'
   exact SV.mv hm (hv j v x hv' hx)
 ·refine ⟨jb (hi.new id _ b hg rfl).1 _ _ _,PH.sub_refl _,fun _ _ _=>rfl⟩
theorem aag {k i j a b:Nat} (ha:a<k) (hb:b<k) (h:i*k+a=j*k+b):i=j/\a=b:=by
 have h1:(i*k+a)%k=a:=by rw [Nat.add_comm,Nat.add_mul_mod_self_right,Nat.mod_eq_of_lt ha]
 have h2:(j*k+b)%k=b:=by rw [Nat.add_comm,Nat.add_mul_mod_self_right,Nat.mod_eq_of_lt hb]
 have hab:a=b:=by rw [<- h1, <- h2,h]
 subst hab
 have:i*k=j*k:=by omega
 exact ⟨Nat.eq_of_mul_eq_mul_right (by omega) this,rfl⟩
theorem JX (hi:Inv B R γ L w) {id ver i o k:Nat} {es:List (List SV)} {e xs:List SV} {u u1:Value} {t:TypeId} (hL:L[id]?=some (.row ver es k)) (h1:(SV.ep id ver i o).rep R γ L u1) (he:es[i]?=some e) (hu:LQ R γ L xs u.cells) (h1c : ∀ c∈u.cells,c.oneCell'=true)
  (hle:o+xs.length<=e.length) (ht:jc P t=some xs.length) :
  ∃ w',(Instr.storeAt t u1 u).run P w = .ok () w'/\Inv B R γ (L.set id (.row ver (es.set i (splice e o xs)) k)) w'/\Ext B R R w w'/\Mv R R γ γ L (L.set id (.row ver (es.set i (splice e o xs)) k)):=by
 obtain ⟨_,hlt,h1⟩:=h1
 obtain ⟨hil,g,hg,hat⟩:=(h1 _ es k hL).2 rfl
 have hob:=hi.obj id _ _ hL hg
 match g,hg,hat,hob with
 | .arr b c,hg,hat,⟨⟨vs,E,⟨hb,hE65⟩,hs,hv⟩,hc,hk,hw,hR⟩ =>
  have hat:u1 = .pointer (some ⟨b,i*k+o,none⟩):=hat
  subst hat
  have hek:=hw e (ag1 he)
  have hlt2:i*k+k<=vs.size:=by
   rw [hs]
   have:(i+1)*k<=c*k:=ahv _ (by omega)
   rw [Nat.succ_mul] at this;omega
  have hsz:u.cells.size=xs.length:=hu.1
  have hthere : ∀ j,j<u.cells.toList.length->(w.cell? ⟨b,(i*k+o)+0+j,none⟩).isSome=true:=by
   intro j hj
   rw [cob_ hb]
   have:(i*k+o)+0+j<vs.size:=by simp at hj;omega
   rw [ahi this];rfl
  have hfz : ∀ j,j<u.cells.toList.length->w.frozen? ⟨b,(i*k+o)+0+j,none⟩=false:=by
   intro j _
   simp [World.frozen?,hb]
  have hrun:=run_storeCells_cells (P:=P) b (i*k+o) u.cells.toList 0 w hthere hfz (fun v hv=>h1c v (by simpa using hv))
  obtain ⟨cs',g1,g2,g3⟩:=kY b E (0,0) u.cells.toList (i*k+o) w vs hb (by simp;omega)
  have hm:Mv R R γ γ L (L.set id (.row ver (es.set i (splice e o xs)) k)):=by
   refine ⟨PH.sub_refl _,by simp,fun t' n k hlt h=>⟨n,?_,ag' _,fun _=>rfl⟩,fun t' ver' es' k' hlt h=>?_,fun _ _ h=>h⟩
   ·have:t'≠id:=by rintro rfl;rw [ahc hlt] at h;cases h
    rw [ahd (Ne.symm this)] at h;exact h
   ·by_cases hid:t'=id
    ·subst hid
     rw [ahc hlt] at h;injection h with h;injection h with q1 q2 q3;subst q1 q2 q3
     exact ⟨_,es,hL,ag' _,fun _=>⟨by simp,rfl⟩⟩
    ·rw [ahd (Ne.symm hid)] at h;exact ⟨_,es',h,ag' _,fun _=>⟨rfl,rfl⟩⟩
  refine ⟨w.setCells b (i*k+o) u.cells.toList,?_,?_,?_,hm⟩
  ·have hst:(storeVar t ⟨b,i*k+o,none⟩ u).run P w = .ok () (w.setCells b (i*k+o) u.cells.toList):=by
    unfold storeVar
    simp [run_sizeOf ht,hsz]
    simpa using hrun
   simp [Instr.storeAt,Instr.sureAddr,hst]
  ·refine hi.turn hL hg rfl hm (fun b' hne=>iy b hne _ _ _) (jG _ _ _ _) (fun _ _ _=>rfl) (fun o u h=>by rw [hR o] at h;cases h) ?_
   refine ⟨⟨cs',E,⟨g1,hE65⟩,by rw [g2,hs],fun i' e' j v x he' hv' hx=>?_⟩,by simpa using hc,hk,fun e' he'=>?_,hR⟩
   ·rw [g3] at hv'
    have hi'l:i'<es.length:=by have:=(agV.1 he').1;simpa using this
    have hjk:j<k:=by
     by_cases hii:i'=i
     ·subst hii
      rw [ahc hi'l] at he';injection he' with he';subst he'
      have:=(agV.1 hx).1
      rw [xH hle] at this;omega
     ·rw [ahd (Ne.symm hii)] at he'
      rw [<- hw e' (ag1 he')];exact (agV.1 hx).1
    by_cases hii:i'=i
    ·subst hii
     rw [ahc hi'l] at he';injection he' with he';subst he'
     rw [CG hle] at hx
     by_cases hj:o<=j/\j<o+xs.length
     ·rw [if_pos hj] at hx
      rw [if_pos (by simp;omega)] at hv'
      refine SV.mv hm (hu.2 (j-o) v x ?_ hx)
      have:i'*k+j-(i'*k+o)=j-o:=by omega
      rw [this] at hv'
      simpa using hv'
     ·rw [if_neg hj] at hx
      rw [if_neg (by simp;omega)] at hv'
      exact SV.mv hm (hv i' e j v x he hv' hx)
    ·rw [ahd (Ne.symm hii)] at he'
     rw [if_neg] at hv'
     ·exact SV.mv hm (hv i' e' j v x he' hv' hx)
     ·intro hcc
      simp at hcc
      have:=aag (k:=k) (i:=i') (j:=i) (a:=j) (b:=i'*k+j-i*k) hjk (by omega) (by omega)
      exact hii this.1
   ·rcases List.mem_or_eq_of_mem_set he' with h|h
    ·exact hw e' h
    ·rw [h,xH hle];exact hek
  ·refine ⟨jb (hi.new id _ b hg rfl).1 _ _ _,PH.sub_refl _,fun _ _ _=>rfl⟩
end
end Go.Proofs.YtcehmafobkhdbaaGreatDoor
