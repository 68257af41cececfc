/- Parts of the proof, joined. No condition. -/
import Derived.Test.YtngehibfdjdejaaGreatDoorKAI
import Derived.ProofKit
import Derived.OpenShut
import Derived.ChangeOld
import Derived.Deep.Slices
set_option linter.unusedSimpArgs false
set_option linter.unusedVariables false
namespace Go.Proofs.YtngehibfdjdejaaGreatDoor
open Go.RowKit Go.MapKept
def fuel:Nat:=4611686018427387904
def getI {α:Type} (l:List α) (i:Int):Option α:=if 0≤i then l[i.toNat]? else none
theorem bd_ {α β:Type} {x:Option α} {f:α→Option β} {r:β} (h:x.bind f=some r) : ∃ a,x=some a∧f a=some r:=by
 cases x with
 | none=>cases h
 | some a=>exact ⟨a,rfl,h⟩
theorem getI_some {α:Type} {l:List α} {i:Int} {x:α} (h:getI l i=some x):0≤i∧l[i.toNat]?=some x:=by
 unfold getI at h
 by_cases h0:0≤i
 ·rw [if_pos h0] at h;exact ⟨h0,h⟩
 ·rw [if_neg h0] at h;cases h
theorem idxI {α:Type} {l:List α} {f:α→List AC} {i:Int} {x:α} (h:l[i.toNat]?=some x):(l.map f)[i.toNat]?=some (f x):=by rw [List.getElem?_map,h];rfl
theorem wideI {α:Type} {f:α→List AC} {k:Nat} (hf : ∀ x,(f x).length=k) (l:List α) : ∀ e∈l.map f,e.length=k:=by
 intro e he;simp only [List.mem_map] at he;obtain ⟨x,_,rfl⟩:=he;exact hf x
def mnI (a b:Int):Int:=if b<a then b else a
def mxI (a b:Int):Int:=if b > a then b else a
theorem mn_norm (a b:Int):(if false=true then (if b > a then b else a) else (if b<a then b else a))=mnI a b:=rfl
theorem mx_norm (a b:Int):(if true=true then (if b > a then b else a) else (if b<a then b else a))=mxI a b:=rfl
section
variable {P:Program} {ti:TI} {N n0:Nat} {ds:List (Option Tmp)} {K:Tm→List Ob→Prop} {rest:List Oper} {o:Oper} {T:Tm} {L:List Ob}
theorem beq_tt {b:Bool} (h:b=true):(b==true)=true:=by rw [h];rfl
theorem beq_ff {b:Bool} (h:b=false):(b==false)=true:=by rw [h];rfl
theorem beq_tf {b:Bool} (h:b=false):(b==true)=false:=by rw [h];rfl
theorem beq_ft {b:Bool} (h:b=true):(b==false)=false:=by rw [h];rfl
theorem not_t {e:Bool} (h:e=false):(!e)=true:=by rw [h];rfl
theorem not_f {e:Bool} (h:e=true):(!e)=false:=by rw [h];rfl
def isPick:Op→Bool
 | .pick _ _ _=>true
 | _=>false
theorem p_ {v:AV} {φ:Prop} {d:Nat} (_:isPick o.op=false) (hd:o.dst=some d) (hN:Nat.blt d N=true) {g0:Bool} (hg:gdv ds T o.guard=some g0) (hp:pop ti (look T) L o.op=some (v,φ)) (h:awOps P ti N ds K rest ((d,v)::T) L)
  (hφ:φ:=by repeat' (first|exact trivial|rfl|exact Nat.le_of_ble_eq_true rfl|omega|assumption|exact wideI (by intro _;rfl) _|exact wideI tE_len _|(intro e he;simp at he;subst he;rfl)|(simp only [List.length_map];omega)|apply And.intro)) (hg1:g0=true:=by first|rfl|exact beq_tt (by first|assumption|exact not_t (by assumption))|exact beq_ff (by first|assumption|exact not_f (by assumption))):awOps P ti N ds K (o::rest) T L:=st_pop hd hN (hg1▸hg) hp hφ h
theorem l_ {v:AV} {L':List Ob} {φ:Prop} {d:Nat} (hd:o.dst=some d) (hN:Nat.blt d N=true) {g0:Bool} (hg:gdv ds T o.guard=some g0) (hp:lop ti (look T) L o.op=some (v,L',φ)) (h:awOps P ti N ds K rest ((d,v)::T) L')
  (hφ:φ:=by repeat' (first|exact trivial|rfl|exact Nat.le_of_ble_eq_true rfl|omega|exact wideI (by intro _;rfl) _|exact wideI tE_len _|(intro e he;simp at he;subst he;rfl)|exact List.length_map _|(simp only [List.length_map,List.length_append,List.length_cons,List.length_nil,Nat.zero_add]<;>omega)|apply And.intro)) (hg1:g0=true:=by first|rfl|exact beq_tt (by first|assumption|exact not_t (by assumption))|exact beq_ff (by first|assumption|exact not_f (by assumption))):awOps P ti N ds K (o::rest) T L:=st_lop hd hN (hg1▸hg) hp hφ h
theorem s_ {v:AV} {L':List Ob} {φ:Prop} (hd:o.dst=none) {g0:Bool} (hg:gdv ds T o.guard=some g0) (hp:lop ti (look T) L o.op=some (v,L',φ)) (h:awOps P ti N ds K rest T L') (hφ:φ:=by repeat' (first|exact trivial|rfl|exact Nat.le_of_ble_eq_true rfl|omega|apply And.intro)) (hg1:g0=true:=by first|rfl|exact beq_tt (by first|assumption|exact not_t (by assumption))|exact beq_ff (by first|assumption|exact not_f (by assumption))):awOps P ti N ds K (o::rest) T L:=sS_ hd (hg1▸hg) hp hφ h
theorem t_ {v:AV} {φ:Prop} {d:Nat} (hd:o.dst=some d) (hN:Nat.blt d N=true) {g0:Bool} (hg:gdv ds T o.guard=some g0) (hp:litOp ti (look T) o.op=some (v,φ)) (h:awOps P ti N ds K rest ((d,v)::T) L)
  (hφ:φ:=by repeat' (first|exact trivial|rfl|exact Nat.le_of_ble_eq_true rfl|omega|(intro e he;simp at he;subst he;rfl)|(intro e he;simp at he;rcases he with rfl|rfl<;>rfl)|(intro e he;simp at he;rcases he with rfl|rfl|rfl<;>rfl)|(intro e he;simp at he;rcases he with rfl|rfl|rfl|rfl<;>rfl)|apply And.intro)) (hg1:g0=true:=by first|rfl|exact beq_tt (by first|assumption|exact not_t (by assumption))|exact beq_ff (by first|assumption|exact not_f (by assumption))):awOps P ti N ds K (o::rest) T L:=st_lit hd hN (hg1▸hg) hp hφ h
theorem c_ {g:FuncId} {ps:List PV} {r:CV} {d:Nat} {v:AV} (hd:o.dst=some d) (hN:Nat.blt d N=true) {g0:Bool} (hg:gdv ds T o.guard=some g0) (hp:callOp (look T) o.op=some (g,ps)) (h:awOps P ti N ds K rest ((d,v)::T) L) (hc:Pure P g ps r:=by assumption) (hv:r.av=v:=by rfl) (hg1:g0=true:=by first|rfl|exact beq_tt (by first|assumption|exact not_t (by assumption))|exact beq_ff (by first|assumption|exact not_f (by assumption))):awOps P ti N ds K (o::rest) T L:=st_call hd hN (hg1▸hg) hp hc hv h
theorem x_ {t:TypeId} {x ix:Operand} {vx:AV} {es:List (List AC)} {k0:IntKind} {i:Int} {k d:Nat} {e:List AC} (hd:o.dst=some d) (hN:Nat.blt d N=true) {g0:Bool} (hg:gdv ds T o.guard=some g0) (ho:o.op = .indexAddr t x ix) (hx:look T x=some vx) (hl:listOf vx=some es) (hi:look T ix=some (.one (.c (.int k0 i))))
  (hk:(ti.elem t).bind ti.size=some k) (h:awOps P ti N ds K rest ((d, .one (.c (.ref e)))::T) L) (he:es[i.toNat]?=some e:=by assumption) (h0:0≤i:=by assumption) (hl2:e.length=k:=by rfl) (hg1:g0=true:=by first|rfl|exact beq_tt (by first|assumption|exact not_t (by assumption))|exact beq_ff (by first|assumption|exact not_f (by assumption))):awOps P ti N ds K (o::rest) T L:=st_idx hd hN (hg1▸hg) ho hx hl hi hk he ⟨h0,hl2⟩ h
theorem pick_t {c a b:Operand} {e:Bool} {va vb:AV} {d:Nat} (hd:o.dst=some d) (hN:Nat.blt d N=true) {g0:Bool} (hg:gdv ds T o.guard=some g0) (ho:o.op = .pick c a b) (hc:look T c=some (.one (.c (.bool e)))) (ha:look T a=some va) (hb:look T b=some vb) (h:awOps P ti N ds K rest ((d,va)::T) L)
  (he:e=true:=by first|rfl|assumption|exact not_t (by assumption)) (hg1:g0=true:=by first|rfl|exact beq_tt (by first|assumption|exact not_t (by assumption))|exact beq_ff (by first|assumption|exact not_f (by assumption))):awOps P ti N ds K (o::rest) T L:=st_pop hd hN (hg1▸hg) (by rw [ho];simp only [pop,hc,ha,hb];rw [if_pos he]) trivial h
theorem pick_f {c a b:Operand} {e:Bool} {va vb:AV} {d:Nat} (hd:o.dst=some d) (hN:Nat.blt d N=true) {g0:Bool} (hg:gdv ds T o.guard=some g0) (ho:o.op = .pick c a b) (hc:look T c=some (.one (.c (.bool e)))) (ha:look T a=some va) (hb:look T b=some vb) (h:awOps P ti N ds K rest ((d,vb)::T) L)
  (he:e=false:=by first|rfl|assumption|exact not_f (by assumption)) (hg1:g0=true:=by first|rfl|exact beq_tt (by first|assumption|exact not_t (by assumption))|exact beq_ff (by first|assumption|exact not_f (by assumption))):awOps P ti N ds K (o::rest) T L:=st_pop hd hN (hg1▸hg) (by rw [ho];simp only [pop,hc,ha,hb];rw [if_neg (by rw [he];decide)]) trivial h
theorem k_ {d:Nat} {g0:Bool} (hd:o.dst=some d) (hN:Nat.blt d N=true) (hg:gdv ds T o.guard=some g0) (h:awOps P ti N ds K rest ((d, .undef)::T) L) (hg1:g0=false:=by first|rfl|exact beq_tf (by first|assumption|exact not_f (by assumption))|exact beq_ft (by first|assumption|exact not_t (by assumption))):awOps P ti N ds K (o::rest) T L:=st_skip hd hN (hg1▸hg) h
theorem k0_ {g0:Bool} (hd:o.dst=none) (hg:gdv ds T o.guard=some g0) (h:awOps P ti N ds K rest T L) (hg1:g0=false:=by first|rfl|exact beq_tf (by first|assumption|exact not_f (by assumption))|exact beq_ft (by first|assumption|exact not_t (by assumption))):awOps P ti N ds K (o::rest) T L:=sk0_ hd (hg1▸hg) h
theorem aw_condT {Q:AX→Tm→List Ob→Prop} {c:Operand} {x y:Code} {b:Bool} (hc:look T c=some (.one (.c (.bool b)))) (h:Aw P N n0 x Q T L) (hb:b=true:=by first|rfl|assumption|exact not_t (by assumption)):Aw P N n0 (.cond c x y) Q T L:=aw_cond hc (fun _=>h) (fun e=>by rw [hb] at e;cases e)
theorem aw_condF {Q:AX→Tm→List Ob→Prop} {c:Operand} {x y:Code} {b:Bool} (hc:look T c=some (.one (.c (.bool b)))) (h:Aw P N n0 y Q T L) (hb:b=false:=by first|rfl|assumption|exact not_f (by assumption)):Aw P N n0 (.cond c x y) Q T L:=aw_cond hc (fun e=>by rw [hb] at e;cases e) (fun _=>h)
end
theorem go_ {p:Prop} (h:p:=by
 repeat' (first
  | refine p_ rfl rfl rfl rfl rfl ?_|refine st_nil ?_|refine x_ rfl rfl rfl rfl rfl rfl rfl rfl ?_|refine l_ rfl rfl rfl rfl ?_|refine s_ rfl rfl rfl ?_|refine t_ rfl rfl rfl rfl ?_|refine k_ rfl rfl rfl ?_|refine k0_ rfl rfl ?_|refine c_ rfl rfl rfl rfl ?_|refine pick_t rfl rfl rfl rfl rfl rfl rfl ?_|refine pick_f rfl rfl rfl rfl rfl rfl rfl ?_|refine aw_seq ?_|refine aw_region tab_ok _ rfl ?_|refine aw_drawn2 tabS_ok _ rfl mixed (by decide +kernel) ?_|refine aw_condT rfl ?_|refine aw_condF rfl ?_|refine aw_block ?_|refine aw_exit ?_|refine aw_ret ?_|refine aw_skip ?_|rw [List.length_map]|rw [mn_norm]|rw [mx_norm])
 refine end_ret (res_of rfl ?_ ?_)
 ·repeat' (first|exact trivial|rfl|exact Nat.le_of_ble_eq_true rfl|omega|apply And.intro)
 ·first|rfl|(simp only [List.map_append,List.map_cons,List.map_nil,List.nil_append]<;>rfl)):p:=h
theorem cnd_ {β:Type} {c:Bool} {x y:Option β} {r:β} (H:(bif c then x else y)=some r):(c=true∧x=some r)∨(c=false∧y=some r):=by
 cases c with
 | true=>exact .inl ⟨rfl,H⟩
 | false=>exact .inr ⟨rfl,H⟩
theorem idx_ {α β:Type} {l:List α} {f:α→List AC} {i:Int} {k:α→Option β} {r:β} (H:(getI l i).bind k=some r) : ∃ x,0≤i∧l[i.toNat]?=some x∧(l.map f)[i.toNat]?=some (f x)∧k x=some r:=by
 obtain ⟨x,h,K⟩:=bd_ H
 obtain ⟨h0,h1⟩:=getI_some h
 exact ⟨x,h0,h1,idxI h1,K⟩
theorem po_ {P : Program} {ti : TI} {N : Nat} {f : FuncId} {fn : Func} {c : Code} {args : List PV} {r : CV} (hf : P.funcs[f]? = some fn) (hN : fn.ntmps = N) {T : Tm} (h : Aw P N 0 c (fun x T L => (x = .normal ∨ x = .ret) ∧ Res ti fn.results.toList T L r) T []) (hti : TIok P ti := by exact tab_ok) (hb : fn.body = some c := by rfl) (hname : (fn.name == "runtime.NumGoroutine") = false := by rfl) (hlen : args.length ≤ N := by simp) (hT : argT 0 args = T := by simp only [argT, PV.av, List.map_cons, List.map_nil] <;> rfl) : Pure P f args r := pa_ hti hf hb hname hN hlen (hT ▸ h)
set_option maxRecDepth 100000
theorem list2 {α:Type} : ∀ {l:List α}, l.length=2 → ∃ c0 c1,l=[c0,c1]
 | [c0,c1],_=>⟨c0,c1,rfl⟩
theorem list3 {α:Type} : ∀ {l:List α}, l.length=3 → ∃ c0 c1 c2,l=[c0,c1,c2]
 | [c0,c1,c2],_=>⟨c0,c1,c2,rfl⟩
theorem list6 {α:Type} : ∀ {l:List α}, l.length=6 → ∃ c0 c1 c2 c3 c4 c5,l=[c0,c1,c2,c3,c4,c5]
 | [c0,c1,c2,c3,c4,c5],_=>⟨c0,c1,c2,c3,c4,c5,rfl⟩
theorem addr_add (b o n:Nat):(⟨b,o,none⟩:Addr).add n=⟨b,o+n,none⟩:=by
 unfold Addr.add
 split<;>simp_all
def RW {W:World} (hT:TabR (fun b o=>W.cell? ⟨b,o,none⟩)):PH:=⟨fun b o=>W.cell? ⟨b,o,none⟩,hT⟩
def CRd {W:World} (hT:TabR (fun b o=>W.cell? ⟨b,o,none⟩)) (cs:List Value) (es:List AC):Prop:=cs.length=es.length ∧ ∀ (j:Nat) u x,cs[j]?=some u→es[j]?=some x→PRep (RW hT) u x
theorem CRd.app {W:World} {hT:TabR (fun b o=>W.cell? ⟨b,o,none⟩)} {c1 c2:List Value} {e1 e2:List AC} (h1:CRd hT c1 e1) (h2:CRd hT c2 e2):CRd hT (c1++c2) (e1++e2):=by
 refine ⟨by rw [List.length_append,List.length_append,h1.1,h2.1],fun j u x hu hx=>?_⟩
 have hl:=h1.1
 by_cases hj:j<c1.length
 ·rw [List.getElem?_append_left hj] at hu
  rw [List.getElem?_append_left (by omega)] at hx
  exact h1.2 j u x hu hx
 ·rw [List.getElem?_append_right (by omega)] at hu
  rw [List.getElem?_append_right (by omega), ← hl] at hx
  exact h2.2 _ u x hu hx
theorem CRd.one {W:World} {hT:TabR (fun b o=>W.cell? ⟨b,o,none⟩)} {v:Value} {e:AC} (h:PRep (RW hT) v e):CRd hT [v] [e]:=by
 refine ⟨rfl,fun j u x hu hx=>?_⟩
 match j,hu,hx with
 | 0,hu,hx=>simp at hu hx;subst hu hx;exact h
 | j+1,hu,hx=>simp at hu
def IOk (n:Int):Prop := -9223372036854775808≤n∧n≤9223372036854775807
def SOk (s:ByteArray):Prop:=s.size≤9223372036854775807
def LOk {α:Type} (k:Nat) (Q:α→Prop) (l:List α):Prop:=l.length*k≤reachBytes ∧ ∀ a∈l,Q a
def WOk {H:Type} (t:TypeId) (d:DataW H):Prop := ∀ n∈DataW.weights Tryz.prog t d,n≤reachBytes
theorem wok_all {H:Type} {e:TypeId} : ∀ {l:List (DataW H)} {d:DataW H}, d∈l → ∀ n∈DataW.weights Tryz.prog e d,n∈DataW.weightsAll Tryz.prog e l
 | x::l,d,h,n,hn=>by
  rw [DataW.weightsAll,List.mem_append]
  rcases List.mem_cons.1 h with rfl|h
  ·exact .inl hn
  ·exact .inr (wok_all h n hn)
theorem wok_each {H:Type} : ∀ {ts:List TypeId} {l:List (DataW H)} {i:Nat} {t:TypeId} {d:DataW H}, ts[i]?=some t→l[i]?=some d → ∀ n∈DataW.weights Tryz.prog t d,n∈DataW.weightsEach Tryz.prog ts l
 | t0::ts,d0::l,0,t,d,h1,h2,n,hn=>by
  simp at h1 h2;subst h1 h2
  rw [DataW.weightsEach,List.mem_append];exact .inl hn
 | t0::ts,d0::l,i+1,t,d,h1,h2,n,hn=>by
  rw [DataW.weightsEach,List.mem_append];exact .inr (wok_each (by simpa using h1) (by simpa using h2) n hn)
 | [],_,i,t,d,h1,_,n,hn=>by simp at h1
 | _::_,[],i,t,d,_,h2,n,hn=>by simp at h2
section
variable {H:Type} {enc:TypeId × Value→H} {W:World} {hT:TabR (fun b o=>W.cell? ⟨b,o,none⟩)} {base:Nat} {spare:Nat→Bool} {held:Bool}
theorem read_int {t:TypeId} (ht:Tryz.prog.underlying t=some (.int .i64)) {cs:List Value} {fuel:Nat} {x:DataW H × List MemPlace} (h:DataW.trod enc Tryz.prog W base spare held fuel t cs=some x) : ∃ n:Int,CRd hT cs [.int .i64 n]∧IOk n:=by
 obtain ⟨n,rfl,_,hw⟩:=DataW.trod_int ht h
 rw [Lit.wf,Bool.and_eq_true] at hw
 exact ⟨n,CRd.one (.int _ _),of_decide_eq_true hw.1,of_decide_eq_true hw.2⟩
theorem read_str {t:TypeId} (ht:Tryz.prog.underlying t=some .string) {cs:List Value} {fuel:Nat} {x:DataW H × List MemPlace} (h:DataW.trod enc Tryz.prog W base spare held fuel t cs=some x) : ∃ s:ByteArray,CRd hT cs [.str s]∧SOk s:=by
 obtain ⟨s,rfl,_,hs⟩:=DataW.trod_string ht h
 exact ⟨s,CRd.one (.str _),hs⟩
theorem read_slice {α:Type} {t e:TypeId} {k:Nat} {f:α→List AC} {Q:α→Prop} (ht:Tryz.prog.underlying t=some (.slice e)) (hk:Tryz.prog.cellsOf e=k) {by_:Nat} (hby:Tryz.prog.bytesOf e=by_) (hk0:0<k) (hf : ∀ x,(f x).length=k) {cs:List Value} {fuel:Nat} {x:DataW H × List MemPlace} (h:DataW.trod enc Tryz.prog W base spare held fuel t cs=some x) (hw:WOk t x.1)
  (hr : ∀ (fuel':Nat) (cs':List Value) (x':DataW H × List MemPlace),fuel'<fuel→DataW.trod enc Tryz.prog W base spare held fuel' e cs'=some x'→WOk e x'.1 → ∃ a,CRd hT cs' (f a)∧Q a) : ∃ l:List α,CRd hT cs [.lst (l.map f)]∧LOk by_ Q l:=by
 rcases DataW.trod_slice ht h with ⟨rfl,_⟩|⟨a,len,cap,elems,rest,n,hfu,rfl,hxe,_,hlc,hm,hel,hx,_,_⟩
 ·exact ⟨[],CRd.one (prep_nil _ _ _),by simp,fun a ha=>by cases ha⟩
 ·have hww:(∀ n∈DataW.weightsAll Tryz.prog e (elems.map (·.1)),n≤reachBytes)∧len*by_≤reachBytes:=by
   rw [hxe] at hw
   unfold WOk at hw
   simp only [DataW.weights,ht] at hw
   refine ⟨fun n hn=>hw n (List.mem_cons_of_mem _ (List.mem_append_left _ hn)),?_⟩
   have:=hw _ (List.mem_cons_self ..)
   simp only [List.length_map,hel,hby] at this
   exact Nat.le_trans (Nat.mul_le_mul_right _ (Nat.le_add_right _ _)) this
  have hi : ∀ i,i<len → ∃ y,(∃ cs',W.cells? base (a.add (i*k)) k=some cs'∧CRd hT cs' (f y))∧Q y:=by
   intro i hlt
   have h1:=hx i hlt
   rw [List.getElem?_eq_getElem (by omega),hk] at h1
   cases hc:W.cells? base (a.add (i*k)) k with
   | none=>rw [hc] at h1;cases h1
   | some cs'=>rw [hc] at h1;obtain ⟨y,h2,h3⟩:=hr n cs' _ (by omega) h1 (fun m hm=>hww.1 m (wok_all (List.mem_map_of_mem (f:=fun p:DataW H × List MemPlace=>p.1) (List.getElem_mem (by omega))) m hm));exact ⟨y,⟨cs',rfl,h2⟩,h3⟩
  rcases Nat.eq_zero_or_pos len with h0|h0
  ·subst h0;exact ⟨[],CRd.one (prep_nil _ _ _),by simp,fun a ha=>by cases ha⟩
  ·obtain ⟨y0,⟨cs0,hc0,_⟩,_⟩:=hi 0 h0
   let g:Nat→α:=fun i=>if h:i<len then Classical.choose (hi i h) else y0
   have hg : ∀ i,i<len→(∃ cs',W.cells? base (a.add (i*k)) k=some cs'∧CRd hT cs' (f (g i)))∧Q (g i):=by
    intro i hlt
    have:g i=Classical.choose (hi i hlt):=by simp [g,hlt]
    rw [this]
    exact Classical.choose_spec (hi i hlt)
   obtain ⟨b,off,spot⟩:=a
   have hs0:spot=none:=by
    obtain ⟨_,hl,hat⟩:=World.cells?_some hc0
    have h1:=hat 0 hk0
    rw [List.getElem?_eq_getElem (by omega)] at h1
    have:=World.cell?_spot h1
    simpa [Addr.add] using this
   subst hs0
   refine ⟨(List.range len).map g,CRd.one ?_,(by rw [List.length_map,List.length_range];exact hww.2),?_⟩
   ·have cell : ∀ i,i<len → ∀ j,j<k → ∃ u y,W.cell? ⟨b,off+(i*k+j),none⟩=some u∧(f (g i))[j]?=some y∧PRep (RW hT) u y:=by
     intro i hlt j hj
     obtain ⟨⟨cs',hc,hcr⟩,_⟩:=hg i hlt
     obtain ⟨_,hl,hat⟩:=World.cells?_some hc
     have h1:=hat j hj
     rw [List.getElem?_eq_getElem (by omega)] at h1
     have hfl:=hf (g i)
     refine ⟨_,_,?_,List.getElem?_eq_getElem (by omega),hcr.2 j _ _ (List.getElem?_eq_getElem (by omega)) (List.getElem?_eq_getElem (by omega))⟩
     rw [addr_add,addr_add,Nat.add_assoc] at h1
     exact h1
    refine .lst (some ⟨b,off,none⟩) len cap _ k (fun j=>(W.cell? ⟨b,off+j,none⟩).getD (.bool false)) b off (by simp) hlc ?_ (fun _=>rfl) ?_ ?_
    ·intro e he
     simp only [List.map_map,List.mem_map] at he
     obtain ⟨i,_,rfl⟩:=he
     exact hf _
    ·intro j hj
     have hd:j/k<len:=by rw [Nat.div_lt_iff_lt_mul hk0];exact hj
     obtain ⟨u,y,h1,_,_⟩:=cell (j/k) hd (j%k) (Nat.mod_lt _ hk0)
     have hjj:j/k*k+j%k=j:=by rw [Nat.mul_comm];exact Nat.div_add_mod j k
     rw [hjj] at h1
     show W.cell? _=_
     rw [h1];rfl
    ·intro i e j x he hxx
     have hlt:i<len:=by have:=(List.getElem?_eq_some_iff.1 he).1;simpa using this
     have:e=f (g i):=by simp [hlt] at he;exact he.symm
     subst this
     have hj:j<k:=by have:=(List.getElem?_eq_some_iff.1 hxx).1;rw [hf] at this;exact this
     obtain ⟨u,y,h1,h2,h3⟩:=cell i hlt j hj
     rw [h2] at hxx
     obtain rfl:=Option.some.inj hxx
     rw [h1];exact h3
   ·intro a ha
    simp only [List.mem_map,List.mem_range] at ha
    obtain ⟨i,hlt,rfl⟩:=ha
    exact (hg i hlt).2
theorem fld {s:TypeId} {x:DataW H × List MemPlace} {fs:Array Field} {n:Nat} {cs:List Value} {xs:List (DataW H × List MemPlace)} (hs:Tryz.prog.underlying s=some (.struct fs)) (hx:x=(.agg (xs.map (·.1)),xs.flatMap (·.2))) (hw:WOk s x.1) (hl:xs.length=fs.size) (hf : ∀ (i:Nat) (f:Field),fs[i]?=some f→DataW.trod enc Tryz.prog W base spare held n f.type ((cs.drop f.offset).take (Tryz.prog.cellsOf f.type))=xs[i]?)
  (i:Nat) {f:Field} {t o k:Nat} (hi:fs[i]?=some f) (h1:f.type=t) (h2:f.offset=o) (h3:Tryz.prog.cellsOf t=k) : ∃ y,DataW.trod enc Tryz.prog W base spare held n t ((cs.drop o).take k)=some y∧WOk t y.1:=by
 have hlt:i<fs.size:=(Array.getElem?_eq_some_iff.1 hi).1
 have:=hf i f hi
 rw [h1,h2,h3,List.getElem?_eq_getElem (by omega)] at this
 refine ⟨_,this,fun m hm=>?_⟩
 rw [hx] at hw
 unfold WOk at hw
 simp only [DataW.weights,hs] at hw
 refine hw m (wok_each (i:=i) ?_ ?_ m hm)
 ·rw [List.getElem?_map,Array.getElem?_toList,hi];simp [h1]
 ·rw [List.getElem?_map,List.getElem?_eq_getElem (by omega)];rfl
end
structure okPer (x:Per):Prop where
 lo:IOk x.lo
 hi:IOk x.hi
section
variable {H:Type} {enc:TypeId × Value→H} {W:World} {hT:TabR (fun b o=>W.cell? ⟨b,o,none⟩)} {base:Nat} {spare:Nat→Bool} {held:Bool}
theorem rd_Per : ∀ (fuel:Nat) {cs:List Value} {x:DataW H × List MemPlace}, DataW.trod enc Tryz.prog W base spare held fuel 29 cs=some x→WOk 29 x.1 → ∃ a:Per,CRd hT cs (cPer a)∧okPer a:=by
 intro fuel
 intro cs x h hw
 obtain ⟨xs,n,hfu,hxe,hlen,hxs,hf⟩:=DataW.trod_struct Tryz.underlying29 h
 rw [show Tryz.prog.cellsOf 29=2 by kernel_rfl] at hlen
 obtain ⟨c0,c1,rfl⟩:=list2 hlen
 obtain ⟨y0,h0,w0⟩:=fld Tryz.underlying29 hxe hw hxs hf 0 (t:=3) (o:=0) (k:=1) rfl rfl rfl (by kernel_rfl)
 replace h0:DataW.trod enc Tryz.prog W base spare held n 3 [c0]=some y0:=h0
 obtain ⟨l0,r0,q0⟩:=read_int Tryz.underlying3 h0
 obtain ⟨y1,h1,w1⟩:=fld Tryz.underlying29 hxe hw hxs hf 1 (t:=3) (o:=1) (k:=1) rfl rfl rfl (by kernel_rfl)
 replace h1:DataW.trod enc Tryz.prog W base spare held n 3 [c1]=some y1:=h1
 obtain ⟨l1,r1,q1⟩:=read_int Tryz.underlying3 h1
 exact ⟨⟨l0,l1⟩,(r0.app r1),⟨q0,q1⟩⟩
end
structure okVal (x:Val):Prop where
 kind:IOk x.kind
 int:IOk x.int
 text:SOk x.text
section
variable {H:Type} {enc:TypeId × Value→H} {W:World} {hT:TabR (fun b o=>W.cell? ⟨b,o,none⟩)} {base:Nat} {spare:Nat→Bool} {held:Bool}
theorem rd_Val : ∀ (fuel:Nat) {cs:List Value} {x:DataW H × List MemPlace}, DataW.trod enc Tryz.prog W base spare held fuel 49 cs=some x→WOk 49 x.1 → ∃ a:Val,CRd hT cs (cV a)∧okVal a:=by
 intro fuel
 intro cs x h hw
 obtain ⟨xs,n,hfu,hxe,hlen,hxs,hf⟩:=DataW.trod_struct Tryz.underlying49 h
 rw [show Tryz.prog.cellsOf 49=3 by kernel_rfl] at hlen
 obtain ⟨c0,c1,c2,rfl⟩:=list3 hlen
 obtain ⟨y0,h0,w0⟩:=fld Tryz.underlying49 hxe hw hxs hf 0 (t:=3) (o:=0) (k:=1) rfl rfl rfl (by kernel_rfl)
 replace h0:DataW.trod enc Tryz.prog W base spare held n 3 [c0]=some y0:=h0
 obtain ⟨l0,r0,q0⟩:=read_int Tryz.underlying3 h0
 obtain ⟨y1,h1,w1⟩:=fld Tryz.underlying49 hxe hw hxs hf 1 (t:=3) (o:=1) (k:=1) rfl rfl rfl (by kernel_rfl)
 replace h1:DataW.trod enc Tryz.prog W base spare held n 3 [c1]=some y1:=h1
 obtain ⟨l1,r1,q1⟩:=read_int Tryz.underlying3 h1
 obtain ⟨y2,h2,w2⟩:=fld Tryz.underlying49 hxe hw hxs hf 2 (t:=9) (o:=2) (k:=1) rfl rfl rfl (by kernel_rfl)
 replace h2:DataW.trod enc Tryz.prog W base spare held n 9 [c2]=some y2:=h2
 obtain ⟨l2,r2,q2⟩:=read_str Tryz.underlying9 h2
 exact ⟨⟨l0,l1,l2⟩,((r0.app r1).app r2),⟨q0,q1,q2⟩⟩
theorem rd_l27 {cs:List Value} {fuel:Nat} {x:DataW H × List MemPlace} (h:DataW.trod enc Tryz.prog W base spare held fuel 27 cs=some x) (hw:WOk 27 x.1) : ∃ l:List Val,CRd hT cs [.lst (l.map cV)]∧LOk 32 okVal l :=
 read_slice (k:=3) (f:=cV) (Q:=okVal) Tryz.underlying27 (by kernel_rfl) (by kernel_rfl) (by decide) (fun _=>rfl) h hw (fun f c x _ h hw=>rd_Val f h hw)
end
structure okVio (x:Vio):Prop where
 kind:IOk x.kind
 table:SOk x.table
 index:IOk x.index
 row:(LOk 32 okVal) x.row
 valid:okPer x.valid
section
variable {H:Type} {enc:TypeId × Value→H} {W:World} {hT:TabR (fun b o=>W.cell? ⟨b,o,none⟩)} {base:Nat} {spare:Nat→Bool} {held:Bool}
theorem rd_Vio : ∀ (fuel:Nat) {cs:List Value} {x:DataW H × List MemPlace}, DataW.trod enc Tryz.prog W base spare held fuel 31 cs=some x→WOk 31 x.1 → ∃ a:Vio,CRd hT cs (cVio a)∧okVio a:=by
 intro fuel
 intro cs x h hw
 obtain ⟨xs,n,hfu,hxe,hlen,hxs,hf⟩:=DataW.trod_struct Tryz.underlying31 h
 rw [show Tryz.prog.cellsOf 31=6 by kernel_rfl] at hlen
 obtain ⟨c0,c1,c2,c3,c4,c5,rfl⟩:=list6 hlen
 obtain ⟨y0,h0,w0⟩:=fld Tryz.underlying31 hxe hw hxs hf 0 (t:=3) (o:=0) (k:=1) rfl rfl rfl (by kernel_rfl)
 replace h0:DataW.trod enc Tryz.prog W base spare held n 3 [c0]=some y0:=h0
 obtain ⟨l0,r0,q0⟩:=read_int Tryz.underlying3 h0
 obtain ⟨y1,h1,w1⟩:=fld Tryz.underlying31 hxe hw hxs hf 1 (t:=9) (o:=1) (k:=1) rfl rfl rfl (by kernel_rfl)
 replace h1:DataW.trod enc Tryz.prog W base spare held n 9 [c1]=some y1:=h1
 obtain ⟨l1,r1,q1⟩:=read_str Tryz.underlying9 h1
 obtain ⟨y2,h2,w2⟩:=fld Tryz.underlying31 hxe hw hxs hf 2 (t:=3) (o:=2) (k:=1) rfl rfl rfl (by kernel_rfl)
 replace h2:DataW.trod enc Tryz.prog W base spare held n 3 [c2]=some y2:=h2
 obtain ⟨l2,r2,q2⟩:=read_int Tryz.underlying3 h2
 obtain ⟨y3,h3,w3⟩:=fld Tryz.underlying31 hxe hw hxs hf 3 (t:=27) (o:=3) (k:=1) rfl rfl rfl (by kernel_rfl)
 replace h3:DataW.trod enc Tryz.prog W base spare held n 27 [c3]=some y3:=h3
 obtain ⟨l3,r3,q3⟩:=rd_l27 h3 w3
 obtain ⟨y4,h4,w4⟩:=fld Tryz.underlying31 hxe hw hxs hf 4 (t:=29) (o:=4) (k:=2) rfl rfl rfl (by kernel_rfl)
 replace h4:DataW.trod enc Tryz.prog W base spare held n 29 [c4,c5]=some y4:=h4
 obtain ⟨l4,r4,q4⟩:=rd_Per n h4 w4
 exact ⟨⟨l0,l1,l2,l3,l4⟩,((((r0.app r1).app r2).app r3).app r4),⟨q0,q1,q2,q3,q4⟩⟩
end
section
variable {H:Type} {enc:TypeId × Value→H} {W:World} {hT:TabR (fun b o=>W.cell? ⟨b,o,none⟩)} {base:Nat} {spare:Nat→Bool} {held:Bool}
theorem rd_l22 {cs:List Value} {fuel:Nat} {x:DataW H × List MemPlace} (h:DataW.trod enc Tryz.prog W base spare held fuel 22 cs=some x) (hw:WOk 22 x.1) : ∃ l:List Vio,CRd hT cs [.lst (l.map cVio)]∧LOk 72 okVio l :=
 read_slice (k:=6) (f:=cVio) (Q:=okVio) Tryz.underlying22 (by kernel_rfl) (by kernel_rfl) (by decide) (fun _=>rfl) h hw (fun f c x _ h hw=>rd_Vio f h hw)
end
end Go.Proofs.YtngehibfdjdejaaGreatDoor
