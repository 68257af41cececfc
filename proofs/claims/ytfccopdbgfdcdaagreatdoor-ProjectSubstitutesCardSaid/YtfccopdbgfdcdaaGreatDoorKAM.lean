/- Parts of the proof, joined. No condition. -/
import Derived.Test.YtfccopdbgfdcdaaGreatDoorKAA
import Derived.Test.YtfccopdbgfdcdaaGreatDoorKAL
import Derived.Test.YtfccopdbgfdcdaaGreatDoorKAJ
set_option linter.unusedSimpArgs false
set_option linter.unusedVariables false
namespace Go.Proofs.YtfccopdbgfdcdaaGreatDoor
open Go.RowKit Go.MapKept
inductive Step (σ ρ:Type) where
 | next (s:σ)
 | exit (s:σ)
 | ret (r:ρ)
def az {σ ρ:Type} (body:σ->Option (Step σ ρ)):Nat->σ->Option (Sum σ ρ)
 | 0,_=>none
 | n+1,s=>match body s with
  | none=>none
  | some (.next s')=>az body n s'
  | some (.exit s')=>some (.inl s')
  | some (.ret r)=>some (.inr r)
def fuel:Nat:=4611686018427387904
def aA {α:Type} (l:List α) (i:Int):Option α:=if 0<=i then l[i.toNat]? else none
def jI {α:Type} (l:List α) (a b:Int):Option (List α):=if 0<=a/\a<=b/\b<=(l.length:Nat) then some ((l.take b.toNat).drop a.toNat) else none
theorem bd_ {α β:Type} {x:Option α} {f:α->Option β} {r:β} (h:x.bind f=some r) : ∃ a,x=some a/\f a=some r:=by
 cases x with
 | none=>cases h
 | some a=>exact ⟨a,rfl,h⟩
theorem og {α:Type} {l:List α} {i:Int} {x:α} (h:aA l i=some x):0<=i/\l[i.toNat]?=some x:=by
 unfold aA at h
 by_cases h0:0<=i
 ·rw [if_pos h0] at h;exact ⟨h0,h⟩
 ·rw [if_neg h0] at h;cases h
theorem fq {α:Type} {l r:List α} {a b:Int} (h:jI l a b=some r):(0<=a/\a<=b/\b<=(l.length:Nat))/\r=(l.take b.toNat).drop a.toNat:=by
 unfold jI at h
 by_cases h0:0<=a/\a<=b/\b<=(l.length:Nat)
 ·rw [if_pos h0] at h;exact ⟨h0,(aee h).symm⟩
 ·rw [if_neg h0] at h;cases h
theorem oN {c:Bool} {β:Type} {x:Option β} {r:β} (h:(bif c then x else none)=some r):c=true/\x=some r:=by
 cases c with
 | true=>exact ⟨rfl,h⟩
 | false=>cases h
theorem aac {α:Type} {l:List α} {f:α->List AC} {i:Int} {x:α} (h:l[i.toNat]?=some x):(l.map f)[i.toNat]?=some (f x):=by rw [ad6,h];rfl
theorem OH {α:Type} {f:α->List AC} {k:Nat} (hf : ∀ x,(f x).length=k) (l:List α) : ∀ e∈l.map f,e.length=k:=by
 intro e he;simp only [aeh] at he;obtain ⟨x,_,rfl⟩:=he;exact hf x
section
variable {P:Program} {ti:TI} {N n0:Nat} {Q:AX->Tm->List Ob->Prop} {T:Tm} {L:List Ob}
@[reducible] def After {σ ρ γ:Type} (K:Sum σ ρ->Option γ) (r:γ):Step σ ρ->Prop
 | .next _=>True
 | .exit s=>K (.inl s)=some r
 | .ret q=>K (.inr q)=some r
theorem alM_ {σ ρ γ:Type} {c:Code} {body:σ->Option (Step σ ρ)} {K:Sum σ ρ->Option γ} {r:γ} {s0:σ} (TT:σ->Tm) (LL:σ->List Ob) (h:(az body fuel s0).bind K=some r) (hn1 : ∀ s,n0<=(LL s).length) (hf:Fits T L (TT s0) (LL s0))
  (round : ∀ s st,body s=some st->After K r st->Aw P N n0 c (AX.then (fun T' L' => ∃ s',st = .next s'/\Fits T' L' (TT s') (LL s')) Q) (TT s) (LL s)):Aw P N n0 (.loop c) Q T L:=by
 refine qh (fun s:Nat × σ=>TT s.2) (fun s=>LL s.2) (fun s=>(az body s.1 s.2).bind K=some r) (fun s=>s.1) (fuel,s0) h (fun s _=>hn1 s.2) hf ?_
 rintro ⟨n,s⟩ hok
 dsimp only at hok ⊢
 cases n with
 | zero=>cases hok
 | succ n =>
  rw [az] at hok
  cases hb:body s with
  | none=>rw [hb] at hok;cases hok
  | some st =>
   rw [hb] at hok
   refine Aw.mono (round s st hb ?_) ?_
   ·cases st with
    | next s'=>trivial
    | exit s'=>exact hok
    | ret q=>exact hok
   ·intro x T' L' hq
    cases x with
    | normal =>
     obtain ⟨s',rfl,hfit⟩:=hq
     exact ⟨(n,s'),hok,Nat.lt_succ_self n,hfit⟩
    | exit id=>exact hq
    | ret=>exact hq
end
def LB (a b:Int):Int:=if b<a then b else a
def zg (a b:Int):Int:=if b > a then b else a
theorem mn_norm (a b:Int):(if false=true then (if b > a then b else a) else (if b<a then b else a))=LB a b:=rfl
theorem mx_norm (a b:Int):(if true=true then (if b > a then b else a) else (if b<a then b else a))=zg a b:=rfl
theorem EM {α:Type} {f:α->List AC} {l r:List α} {a b:Int} (h:r=(l.take b.toNat).drop a.toNat):((l.map f).take b.toNat).drop a.toNat=r.map f:=by rw [h, <- List.map_take, <- List.map_drop]
def Yg (n:Nat):SV->Bool
 | .c _=>true
 | .emp=>true
 | .own _ t=>Nat.blt t n
 | .ptr id _=>Nat.blt id n
 | _=>false
def QQ (n:Nat):List SV->Bool
 | []=>true
 | x::l=>and (Yg n x) (QQ n l)
theorem VB {n:Nat} {x:SV} (h:Yg n x=true):x.below n:=by
 cases x with
 | c _=>trivial
 | emp=>trivial
 | own _ t=>exact adS h
 | ptr id _=>exact adS h
 | sl=>cases h
 | ep=>cases h
 | mp=>cases h
 | clo=>cases h
theorem jl {n:Nat} : ∀ {cs:List SV}, QQ n cs=true->(Ob.box cs).below n
 | [],_=>fun x hx=>by cases hx
 | c::cs,h=>fun x hx=>by
  rw [QQ,ad1] at h
  rcases adZ.1 hx with rfl|hx
  ·exact VB h.1
  ·exact jl h.2 x hx
section
variable {P:Program} {ti:TI} {N n0:Nat} {ds:List (Option Tmp)} {K:Tm->List Ob->Prop} {rest:List Oper} {o:Oper} {T:Tm} {L:List Ob}
theorem rE {b:Bool} (h:b=true):(b==true)=true:=by rw [h];rfl
theorem rQ {b:Bool} (h:b=false):(b==false)=true:=by rw [h];rfl
theorem V3 {b:Bool} (h:b=false):(b==true)=false:=by rw [h];rfl
theorem Yp {b:Bool} (h:b=true):(b==false)=false:=by rw [h];rfl
theorem qX {e:Bool} (h:e=false):(!e)=true:=by rw [h];rfl
theorem qK {e:Bool} (h:e=true):(!e)=false:=by rw [h];rfl
def aaV:Op->Bool
 | .pick _ _ _=>true
 | _=>false
theorem p_ {v:AV} {φ:Prop} {d:Nat} (_:aaV o.op=false) (hd:o.dst=some d) (hN:Nat.blt d N=true) {g0:Bool} (hg:jX ds T o.guard=some g0) (hp:pop ti (look T) L o.op=some (v,φ)) (h:aN P ti N ds K rest ((d,v)::T) L)
  (hφ:φ:=by repeat' (first|exact trivial|rfl|exact adS rfl|omega|assumption|exact OH (by intro _;rfl) _|exact OH M8 _|(intro e he;simp at he;subst he;rfl)|(simp only [adU];omega)|apply And.intro)) (hg1:g0=true:=by first|rfl|exact rE (by first|assumption|exact qX (by assumption))|exact rQ (by first|assumption|exact qK (by assumption))):aN P ti N ds K (o::rest) T L:=aP hd hN (hg1▸hg) hp hφ h
theorem l_ {v:AV} {L':List Ob} {φ:Prop} {d:Nat} (hd:o.dst=some d) (hN:Nat.blt d N=true) {g0:Bool} (hg:jX ds T o.guard=some g0) (hp:FE ti (look T) L o.op=some (v,L',φ)) (h:aN P ti N ds K rest ((d,v)::T) L')
  (hφ:φ:=by repeat' (first|exact trivial|rfl|exact adS rfl|omega|exact OH (by intro _;rfl) _|exact OH M8 _|(intro e he;simp at he;subst he;rfl)|exact adU _|(simp only [adU,adQ,ad5,aec,aeo];omega)|apply And.intro)) (hg1:g0=true:=by first|rfl|exact rE (by first|assumption|exact qX (by assumption))|exact rQ (by first|assumption|exact qK (by assumption))):aN P ti N ds K (o::rest) T L:=aT hd hN (hg1▸hg) hp hφ h
theorem s_ {v:AV} {L':List Ob} {φ:Prop} (hd:o.dst=none) {g0:Bool} (hg:jX ds T o.guard=some g0) (hp:FE ti (look T) L o.op=some (v,L',φ)) (h:aN P ti N ds K rest T L') (hφ:φ:=by repeat' (first|exact trivial|rfl|exact adS rfl|omega|apply And.intro)) (hg1:g0=true:=by first|rfl|exact rE (by first|assumption|exact qX (by assumption))|exact rQ (by first|assumption|exact qK (by assumption))):aN P ti N ds K (o::rest) T L:=sS_ hd (hg1▸hg) hp hφ h
theorem t_ {v:AV} {φ:Prop} {d:Nat} (hd:o.dst=some d) (hN:Nat.blt d N=true) {g0:Bool} (hg:jX ds T o.guard=some g0) (hp:zM ti (look T) o.op=some (v,φ)) (h:aN P ti N ds K rest ((d,v)::T) L)
  (hφ:φ:=by repeat' (first|exact trivial|rfl|exact adS rfl|omega|(intro e he;simp at he;subst he;rfl)|(intro e he;simp at he;rcases he with rfl|rfl<;>rfl)|(intro e he;simp at he;rcases he with rfl|rfl|rfl<;>rfl)|(intro e he;simp at he;rcases he with rfl|rfl|rfl|rfl<;>rfl)|apply And.intro)) (hg1:g0=true:=by first|rfl|exact rE (by first|assumption|exact qX (by assumption))|exact rQ (by first|assumption|exact qK (by assumption))):aN P ti N ds K (o::rest) T L:=aS hd hN (hg1▸hg) hp hφ h
theorem c_ {g:FuncId} {ps:List PV} {r:CV} {d:Nat} {v:AV} (hd:o.dst=some d) (hN:Nat.blt d N=true) {g0:Bool} (hg:jX ds T o.guard=some g0) (hp:vR (look T) o.op=some (g,ps)) (h:aN P ti N ds K rest ((d,v)::T) L) (hc:Pure P g ps r:=by assumption) (hv:r.av=v:=by rfl) (hg1:g0=true:=by first|rfl|exact rE (by first|assumption|exact qX (by assumption))|exact rQ (by first|assumption|exact qK (by assumption))):aN P ti N ds K (o::rest) T L:=cK hd hN (hg1▸hg) hp hc hv h
theorem x_ {t:TypeId} {x ix:Operand} {vx:AV} {es:List (List AC)} {k0:IntKind} {i:Int} {k d:Nat} {e:List AC} (hd:o.dst=some d) (hN:Nat.blt d N=true) {g0:Bool} (hg:jX ds T o.guard=some g0) (ho:o.op = .indexAddr t x ix) (hx:look T x=some vx) (hl:eU vx=some es) (hi:look T ix=some (.one (.c (.int k0 i))))
  (hk:(ti.elem t).bind ti.size=some k) (h:aN P ti N ds K rest ((d, .one (.c (.ref e)))::T) L) (he:es[i.toNat]?=some e:=by assumption) (h0:0<=i:=by assumption) (hl2:e.length=k:=by rfl) (hg1:g0=true:=by first|rfl|exact rE (by first|assumption|exact qX (by assumption))|exact rQ (by first|assumption|exact qK (by assumption))):aN P ti N ds K (o::rest) T L:=A9 hd hN (hg1▸hg) ho hx hl hi hk he ⟨h0,hl2⟩ h
theorem pick_t {c a b:Operand} {e:Bool} {va vb:AV} {d:Nat} (hd:o.dst=some d) (hN:Nat.blt d N=true) {g0:Bool} (hg:jX ds T o.guard=some g0) (ho:o.op = .pick c a b) (hc:look T c=some (.one (.c (.bool e)))) (ha:look T a=some va) (hb:look T b=some vb) (h:aN P ti N ds K rest ((d,va)::T) L)
  (he:e=true:=by first|rfl|assumption|exact qX (by assumption)) (hg1:g0=true:=by first|rfl|exact rE (by first|assumption|exact qX (by assumption))|exact rQ (by first|assumption|exact qK (by assumption))):aN P ti N ds K (o::rest) T L:=aP hd hN (hg1▸hg) (by rw [ho];simp only [pop,hc,ha,hb];rw [if_pos he]) trivial h
theorem pick_f {c a b:Operand} {e:Bool} {va vb:AV} {d:Nat} (hd:o.dst=some d) (hN:Nat.blt d N=true) {g0:Bool} (hg:jX ds T o.guard=some g0) (ho:o.op = .pick c a b) (hc:look T c=some (.one (.c (.bool e)))) (ha:look T a=some va) (hb:look T b=some vb) (h:aN P ti N ds K rest ((d,vb)::T) L)
  (he:e=false:=by first|rfl|assumption|exact qK (by assumption)) (hg1:g0=true:=by first|rfl|exact rE (by first|assumption|exact qX (by assumption))|exact rQ (by first|assumption|exact qK (by assumption))):aN P ti N ds K (o::rest) T L:=aP hd hN (hg1▸hg) (by rw [ho];simp only [pop,hc,ha,hb];rw [if_neg (by rw [he];decide)]) trivial h
theorem k_ {d:Nat} {g0:Bool} (hd:o.dst=some d) (hN:Nat.blt d N=true) (hg:jX ds T o.guard=some g0) (h:aN P ti N ds K rest ((d, .undef)::T) L) (hg1:g0=false:=by first|rfl|exact V3 (by first|assumption|exact qK (by assumption))|exact Yp (by first|assumption|exact qX (by assumption))):aN P ti N ds K (o::rest) T L:=aK hd hN (hg1▸hg) h
theorem k0_ {g0:Bool} (hd:o.dst=none) (hg:jX ds T o.guard=some g0) (h:aN P ti N ds K rest T L) (hg1:g0=false:=by first|rfl|exact V3 (by first|assumption|exact qK (by assumption))|exact Yp (by first|assumption|exact qX (by assumption))):aN P ti N ds K (o::rest) T L:=sk0_ hd (hg1▸hg) h
theorem aw_condT {Q:AX->Tm->List Ob->Prop} {c:Operand} {x y:Code} {b:Bool} (hc:look T c=some (.one (.c (.bool b)))) (h:Aw P N n0 x Q T L) (hb:b=true:=by first|rfl|assumption|exact qX (by assumption)):Aw P N n0 (.cond c x y) Q T L:=aJ hc (fun _=>h) (fun e=>by rw [hb] at e;cases e)
theorem aw_condF {Q:AX->Tm->List Ob->Prop} {c:Operand} {x y:Code} {b:Bool} (hc:look T c=some (.one (.c (.bool b)))) (h:Aw P N n0 y Q T L) (hb:b=false:=by first|rfl|assumption|exact qK (by assumption)):Aw P N n0 (.cond c x y) Q T L:=aJ hc (fun e=>by rw [hb] at e;cases e) (fun _=>h)
end
theorem af {p:Prop} (h:p:=by
 repeat' (first
  | refine p_ rfl rfl rfl rfl rfl ?_|refine st_nil ?_|refine x_ rfl rfl rfl rfl rfl rfl rfl rfl ?_|refine l_ rfl rfl rfl rfl ?_|refine s_ rfl rfl rfl ?_|refine t_ rfl rfl rfl rfl ?_|refine k_ rfl rfl rfl ?_|refine k0_ rfl rfl ?_|refine c_ rfl rfl rfl rfl ?_|refine pick_t rfl rfl rfl rfl rfl rfl rfl ?_|refine pick_f rfl rfl rfl rfl rfl rfl rfl ?_|refine aw_seq ?_|refine aw_region tab_ok _ rfl ?_|refine aw_drawn2 tabS_ok _ rfl mixed (by decide +kernel) ?_|refine aw_condT rfl ?_|refine aw_condF rfl ?_|refine aw_block ?_|refine aw_exit ?_|refine aw_ret ?_|refine aw_skip ?_|rw [adU]|rw [mn_norm]|rw [mx_norm])
 refine bE (bR rfl ?_ ?_)
 ·repeat' (first|exact trivial|rfl|exact adS rfl|omega|apply And.intro)
 ·first|rfl|(simp only [adV,adT,adX,adN]<;>rfl)):p:=h
structure Bx (q:Prop):Prop where
 out:q
theorem gs_ {p q:Prop} (k:q) (h:Bx q->p:=by
 intro hq
 first|refine p_ rfl rfl rfl rfl rfl ?_|refine st_nil ?_|refine x_ rfl rfl rfl rfl rfl rfl rfl rfl ?_|refine l_ rfl rfl rfl rfl ?_|refine s_ rfl rfl rfl ?_|refine t_ rfl rfl rfl rfl ?_|refine k_ rfl rfl rfl ?_|refine k0_ rfl rfl ?_|refine c_ rfl rfl rfl rfl ?_|refine pick_t rfl rfl rfl rfl rfl rfl rfl ?_|refine pick_f rfl rfl rfl rfl rfl rfl rfl ?_|refine aw_seq ?_|refine aw_region tab_ok _ rfl ?_|refine aw_drawn2 tabS_ok _ rfl mixed (by decide +kernel) ?_|refine aw_condT rfl ?_|refine aw_condF rfl ?_|refine aw_block ?_|refine aw_exit ?_|refine aw_ret ?_|refine aw_skip ?_|rw [adU]|rw [mn_norm]|rw [mx_norm]
 exact hq.out):p:=h ⟨k⟩
theorem gs0_ {p q:Prop} (k:q) (h:Bx q->p:=by
 intro hq
 first|refine p_ rfl rfl rfl rfl rfl ?_|refine st_nil ?_|refine x_ rfl rfl rfl rfl rfl rfl rfl rfl ?_|refine l_ rfl rfl rfl rfl ?_|refine s_ rfl rfl rfl ?_|refine t_ rfl rfl rfl rfl ?_|refine k_ rfl rfl rfl ?_|refine k0_ rfl rfl ?_|refine c_ rfl rfl rfl rfl ?_|refine pick_t rfl rfl rfl rfl rfl rfl rfl ?_|refine pick_f rfl rfl rfl rfl rfl rfl rfl ?_|refine aw_seq ?_|refine aw_condT rfl ?_|refine aw_condF rfl ?_|refine aw_block ?_|refine aw_exit ?_|refine aw_ret ?_|refine aw_skip ?_|rw [adU]|rw [mn_norm]|rw [mx_norm]
 exact hq.out):p:=h ⟨k⟩
theorem bv {p q:Prop} (k:q) (h:Bx q->p:=by
 intro hq
 repeat' (first
  | refine gs_ ?_)
 exact hq.out):p:=h ⟨k⟩
theorem aa {β:Type} {c:Bool} {x y:Option β} {r:β} (H:(bif c then x else y)=some r):(c=true/\x=some r)\/(c=false/\y=some r):=by
 cases c with
 | true=>exact .inl ⟨rfl,H⟩
 | false=>exact .inr ⟨rfl,H⟩
theorem bu {p:Prop} [Decidable p] {β:Type} {x:Option β} {r:β} (H:(bif decide p then x else none)=some r):p/\x=some r:=by
 obtain ⟨h,k⟩:=oN H
 exact ⟨aea h,k⟩
theorem aR {α β:Type} {l:List α} {f:α->List AC} {i:Int} {k:α->Option β} {r:β} (H:(aA l i).bind k=some r) : ∃ x,0<=i/\l[i.toNat]?=some x/\(l.map f)[i.toNat]?=some (f x)/\k x=some r:=by
 obtain ⟨x,h,K⟩:=bd_ H
 obtain ⟨h0,h1⟩:=og h
 exact ⟨x,h0,h1,aac h1,K⟩
theorem lt_ {a b:Nat} (h:Nat.blt a b=true:=by rfl):a<b:=adS h
theorem dL {p:Prop} (h:p:=by repeat' (first|refine ⟨?_,?_⟩|exact trivial|rfl)):p:=h
theorem kM {p:Prop} (h:p:=by repeat' (first|refine ⟨?_,?_⟩|exact trivial|rfl|(simp only [adV,adT,adX,adN]<;>rfl))):p:=h
theorem bL {p:Prop} (h:p:=by repeat' (first|refine ⟨?_,?_⟩|exact trivial|exact lt_|omega)):p:=h
theorem cZ {p:Prop} (h:p:=by repeat' (first|refine ⟨?_,?_⟩|exact trivial|exact jl (by rfl)|exact clo_below (adS rfl))):p:=h
theorem jY {p:Prop} (h:p:=by simp only [adQ,ad5,aec,aeo,adV,adT,adX]<;>rfl):p:=h
theorem po_ {P : Program} {ti : TI} {N : Nat} {f : FuncId} {fn : Func} {c : Code} {args : List PV} {r : CV} (hf : P.funcs[f]? = some fn) (hN : fn.ntmps = N) {T : Tm} (h : Aw P N 0 c (fun x T L => (x = .normal \/ x = .ret) /\ Res ti fn.results.toList T L r) T []) (hti : TIok P ti := by exact tab_ok) (hb : fn.body = some c := by rfl) (hname : (fn.name == "runtime.NumGoroutine") = false := by rfl) (hlen : args.length <= N := by simp) (hT : argT 0 args = T := by simp only [argT, PV.av, adT, adX] <;> rfl) : Pure P f args r := pa_ hti hf hb hname hN hlen (hT ▸ h)
def dh {α σ ρ:Type} (f:σ->α->Option (Sum σ ρ)):σ->List α->Option (Sum σ ρ)
 | s,[]=>some (.inl s)
 | s,x::l=>match f s x with
  | none=>none
  | some (.inl s')=>dh f s' l
  | some (.inr r)=>some (.inr r)
section
variable {α σ ρ S:Type} {l:List α} {body:S->Option (Step S ρ)}
def Gm (mk:σ->Int->S) (n:Nat):Option (Sum σ ρ)->Option (Sum S ρ)
 | none=>none
 | some (.inl s')=>some (.inl (mk s' n))
 | some (.inr r)=>some (.inr r)
def tF (mk:σ->Int->S) (i:Nat):Option (Sum σ ρ)->Option (Step S ρ)
 | none=>none
 | some (.inl s')=>some (.next (mk s' (i:Nat)))
 | some (.inr r)=>some (.ret r)
theorem MQ (mk:σ->Int->S) (f:σ->α->Option (Sum σ ρ)) (h1 : ∀ (s:σ) (i:Nat) x,l[i]?=some x->body (mk s i)=tF mk (i+1) (f s x)) (h2 : ∀ s,body (mk s l.length)=some (.exit (mk s l.length))) :
  ∀ (n i:Nat) (s:σ),i<=l.length->l.length-i<n->az body n (mk s i)=Gm mk l.length (dh f s (l.drop i))
 | 0,i,s,_,h=>by omega
 | n+1,i,s,hi,hn=>by
  rw [az]
  by_cases hlt:i<l.length
  ·obtain ⟨x,hx⟩:=gol_ hlt
   have e1:=(adI.1 hx).2
   rw [h1 s i x hx,aed hlt,e1,dh]
   cases hf:f s x with
   | none=>rfl
   | some st=>cases st with
    | inl s'=>exact MQ mk f h1 h2 n (i+1) s' (by omega) (by omega)
    | inr r=>rfl
  ·have:i=l.length:=by omega
   subst this
   rw [h2,aeB]
   rfl
theorem bW (mk:σ->Int->S) (f:σ->α->Option (Sum σ ρ)) (h1 : ∀ (s:σ) (i:Nat) x,l[i]?=some x->body (mk s i)=tF mk (i+1) (f s x)) (h2 : ∀ s,body (mk s l.length)=some (.exit (mk s l.length))) (hl:l.length<fuel) (s:σ) :
  az body fuel (mk s 0)=Gm mk l.length (dh f s l):=MQ mk f h1 h2 fuel 0 s (ad4 _) (by omega)
end
theorem gn_ {α:Type} {l:List α} {i:Nat} {x:α} (h:l[i]?=some x):aA l (i:Int)=some x:=by
 unfold aA;rw [if_pos (by omega)];exact h
theorem aI {α:Type} {l:List α} {i:Nat} {x:α} (h:l[i]?=some x):decide ((i:Int)<(l.length:Nat))=true:=by
 have:=(adI.1 h).1;simp;exact this
theorem lF_ (n:Nat):decide ((n:Int)<(n:Nat))=false:=by simp
theorem wrapN {i:Nat} (h:i<=4611686018427387904):IntKind.i64.wrap ((i:Int)+1)=((i+1:Nat):Int):=iY (by omega) (by omega)
set_option maxRecDepth 100000
set_option maxHeartbeats 8000000
def jL (x y:Int):Int:=if x<y then -1 else if y<x then 1 else 0
def xI (v w:Val):Int:=if jL v.kind w.kind≠0 then jL v.kind w.kind else if jL v.int w.int≠0 then jL v.int w.int else wH v.text w.text
def cu:List Val->List Val->Int
 | [],[]=>0
 | [],_::_ => -1
 | _::_,[]=>1
 | a::xs,b::ys=>if xI a b≠0 then xI a b else cu xs ys
def dC (l:List Val):AC := .lst (l.map cV)
def acA (l:List Int):AC := .lst (l.map fun x=>[.int .i64 x])
theorem U_ (a b:ByteArray):Pure Tryz.prog 187 [.one (.str a), .one (.str b)] (.val (.one (.int .i64 (wH a b)))):=(Aj TY 8).1 _ _ _ (by kernel_rfl)
def GI (a_x:Int):Option (Bool):=some (decide (a_x≠a_x))
theorem K_ {a_x:Int} {r:Bool} (H:GI a_x=some r):Pure Tryz.prog 176 [.one (.int .i64 a_x)] (.val (.one (.bool r))):=by
 unfold GI at H
 refine po_ Tryz.func176 Tryz.ntmps176 ?_
 cases H
 exact af
def Kq (a_x:Int) (a_y:Int):Option (Int):=(GI a_x).bind fun r_1=>(GI a_y).bind fun r_2=>bif r_1 then bif r_2 then some (0:Int) else
 some (-1:Int) else
 bif r_2 then some (1:Int) else
 bif (decide (a_x<a_y)) then some (-1:Int) else
 bif (decide (a_y<a_x)) then some (1:Int) else
 some (0:Int)
theorem Pv {a_x:Int} {a_y:Int} {r:Int} (H:Kq a_x a_y=some r):Pure Tryz.prog 141 [.one (.int .i64 a_x), .one (.int .i64 a_y)] (.val (.one (.int .i64 r))):=by
 unfold Kq at H
 refine po_ Tryz.func141 Tryz.ntmps141 ?_
 obtain ⟨r_1,c1,H⟩:=bd_ H
 replace c1:=K_ c1
 obtain ⟨r_2,c2,H⟩:=bd_ H
 replace c2:=K_ c2
 rcases aa H with ⟨q_3,H⟩|⟨q_3,H⟩
 ·rcases aa H with ⟨q_4,H⟩|⟨q_4,H⟩
  ·cases H
   exact af
  cases H
  exact af
 rcases aa H with ⟨q_5,H⟩|⟨q_5,H⟩
 ·cases H
  exact af
 rcases aa H with ⟨q_6,H⟩|⟨q_6,H⟩
 ·cases H
  exact af
 rcases aa H with ⟨q_7,H⟩|⟨q_7,H⟩
 ·cases H
  exact af
 cases H
 exact af
def LW (a_vals:(List Int)):(Int)->Option (Step (Int) (Int)):=fun s=>match s with
 | v_1=>bif (decide (v_1<((a_vals.length:Nat):Int))) then (aA a_vals v_1).bind fun x_3=>bif (decide (x_3≠(0:Int))) then some (.ret x_3) else
 some (.next (IntKind.i64.wrap (v_1+(1:Int)))) else
 some (.exit v_1)
def uq:Sum (Int) (Int)->Option ((Int))
 | .inl v_1=>some (0:Int)
 | .inr q=>some q
def gOr (a_vals:(List Int)):Option (Int):=(az (LW a_vals) fuel (0:Int)).bind (uq)
theorem abn {a_vals:(List Int)} {r:Int} (H:gOr a_vals=some r):Pure Tryz.prog 140 [.one (.lst (a_vals.map (fun x=>[AC.int .i64 x])))] (.val (.one (.int .i64 r))):=by
 unfold gOr at H
 refine po_ Tryz.func140 Tryz.ntmps140 ?_
 refine bv ?_
 refine alM_ (fun s:Int=>match s with|v_1=>[(3, .one (.c (.int .i64 (0:Int)))),(6, .one (.c (.lst (a_vals.map (fun x=>[AC.int .i64 x]))))),(7, .one (.c (.int .i64 ((a_vals.length:Nat):Int)))),(8, .one (.c (.int .i64 v_1)))]) (fun s=>match s with|v_1=>[]) H (fun _=>ad4 _)
  (fm_ dL [] rfl bL trivial) ?_
 rintro v_1 st1 hb1 hk1
 unfold LW at hb1
 dsimp only at hb1 ⊢
 rcases aa hb1 with ⟨q_2,hb1⟩|⟨q_2,hb1⟩
 ·obtain ⟨x_3,i1z,i1,i1x,hb1⟩:=aR (f:=(fun x=>[AC.int .i64 x])) hb1
  rcases aa hb1 with ⟨q_4,hb1⟩|⟨q_4,hb1⟩
  ·cases hb1
   have hx1:uq (.inr x_3)=some _:=hk1
   unfold uq at hx1
   dsimp only at hx1
   cases hx1
   exact af
  cases hb1
  refine bv ?_
  exact ⟨_,rfl,fm_ dL [] rfl bL trivial⟩
 cases hb1
 have hx1:uq (.inl v_1)=some _:=hk1
 unfold uq at hx1
 dsimp only at hx1
 cases hx1
 exact af
def ya (a_a:Val) (a_b:Val):Option (Int):=(Kq a_a.kind a_b.kind).bind fun r_1=>(Kq a_a.int a_b.int).bind fun r_2=>(gOr [r_1,r_2,(wH a_a.text a_b.text)]).bind fun r_4=>some r_4
theorem Jd {a_a:Val} {a_b:Val} {r:Int} (H:ya a_a a_b=some r):Pure Tryz.prog 169 [.agg (cV a_a), .agg (cV a_b)] (.val (.one (.int .i64 r))):=by
 unfold ya at H
 refine po_ Tryz.func169 Tryz.ntmps169 ?_
 obtain ⟨r_1,c1,H⟩:=bd_ H
 replace c1:=Pv c1
 obtain ⟨r_2,c2,H⟩:=bd_ H
 replace c2:=Pv c2
 have hc_3:=U_ a_a.text a_b.text
 try simp only [adV,adT,adX,adN,aj] at hc_3
 obtain ⟨r_4,c3,H⟩:=bd_ H
 replace c3:=abn c3
 try simp only [adV,adT,adX,adN,aj] at c3
 cases H
 exact af
def lM (a_s1:(List Val)) (a_s2:(List Val)) (a_cmp:Val->Val->Option (Int)):(Int)->Option (Step (Int) (Int)):=fun s=>match s with
 | v_1=>bif (decide (v_1<((a_s1.length:Nat):Int))) then (aA a_s1 v_1).bind fun x_3=>bif (decide (((a_s2.length:Nat):Int)<=v_1)) then some (.ret (1:Int)) else
 (aA a_s2 v_1).bind fun x_5=>(a_cmp x_3 x_5).bind fun r_6=>bif (decide (r_6≠(0:Int))) then some (.ret r_6) else
 some (.next (IntKind.i64.wrap (v_1+(1:Int)))) else
 some (.exit v_1)
def f_ (a_s1:(List Val)) (a_s2:(List Val)):Sum (Int) (Int)->Option ((Int))
 | .inl v_1=>bif (decide (((a_s1.length:Nat):Int)<((a_s2.length:Nat):Int))) then some (-1:Int) else
 some (0:Int)
 | .inr q=>some q
def LY (a_s1:(List Val)) (a_s2:(List Val)) (a_cmp:Val->Val->Option (Int)):Option (Int):=(az (lM a_s1 a_s2 a_cmp) fuel (0:Int)).bind (f_ a_s1 a_s2)
theorem UR {a_s1:(List Val)} {a_s2:(List Val)} {a_cmp:Val->Val->Option (Int)} {r:Int} {F_a_cmp:FuncId} {caps_a_cmp:List AC} (hf_a_cmp : ∀ (y0:Val) (y1:Val) (r:Int),a_cmp y0 y1=some r->Pure Tryz.prog F_a_cmp ([.agg (cV y0), .agg (cV y1)]++caps_a_cmp.map .one) (.val (.one (.int .i64 r)))) (H:LY a_s1 a_s2 a_cmp=some r):Pure Tryz.prog 193 [.one (.lst (a_s1.map cV)), .one (.lst (a_s2.map cV)), .one (.fn F_a_cmp caps_a_cmp)] (.val (.one (.int .i64 r))):=by
 unfold LY at H
 refine po_ Tryz.func193 Tryz.ntmps193 ?_
 refine bv ?_
 refine alM_ (fun s:Int=>match s with|v_1=>[(0, .one (.c (.lst (a_s1.map cV)))),(1, .one (.c (.lst (a_s2.map cV)))),(2, .one (.c (.fn F_a_cmp caps_a_cmp))),(11, .one (.c (.lst (a_s1.map cV)))),(12, .one (.c (.int .i64 ((a_s1.length:Nat):Int)))),(13, .one (.c (.int .i64 v_1)))]) (fun s=>match s with|v_1=>[]) H (fun _=>ad4 _)
  (fm_ dL [] rfl bL trivial) ?_
 rintro v_1 st1 hb1 hk1
 unfold lM at hb1
 dsimp only at hb1 ⊢
 rcases aa hb1 with ⟨q_2,hb1⟩|⟨q_2,hb1⟩
 ·obtain ⟨x_3,i1z,i1,i1x,hb1⟩:=aR (f:=cV) hb1
  rcases aa hb1 with ⟨q_4,hb1⟩|⟨q_4,hb1⟩
  ·cases hb1
   have hx1:f_ a_s1 a_s2 (.inr (1:Int))=some _:=hk1
   unfold f_ at hx1
   dsimp only at hx1
   cases hx1
   exact af
  obtain ⟨x_5,i2z,i2,i2x,hb1⟩:=aR (f:=cV) hb1
  obtain ⟨r_6,c3,hb1⟩:=bd_ hb1
  replace c3:=hf_a_cmp _ _ _ c3
  try simp only [adV,adT,adX,adN,aj] at c3
  rcases aa hb1 with ⟨q_7,hb1⟩|⟨q_7,hb1⟩
  ·cases hb1
   have hx1:f_ a_s1 a_s2 (.inr r_6)=some _:=hk1
   unfold f_ at hx1
   dsimp only at hx1
   cases hx1
   exact af
  cases hb1
  refine bv ?_
  exact ⟨_,rfl,fm_ dL [_,_] rfl bL trivial⟩
 cases hb1
 have hx1:f_ a_s1 a_s2 (.inl v_1)=some _:=hk1
 unfold f_ at hx1
 dsimp only at hx1
 rcases aa hx1 with ⟨q_8,hx1⟩|⟨q_8,hx1⟩
 ·cases hx1
  exact af
 cases hx1
 exact af
def OX (a_a:(List Val)) (a_b:(List Val)):Option (Int):=(LY a_a a_b (fun x0 x1=>ya x0 x1)).bind fun r_1=>some r_1
theorem Xe {a_a:(List Val)} {a_b:(List Val)} {r:Int} (H:OX a_a a_b=some r):Pure Tryz.prog 173 [.one (.lst (a_a.map cV)), .one (.lst (a_b.map cV))] (.val (.one (.int .i64 r))):=by
 unfold OX at H
 refine po_ Tryz.func173 Tryz.ntmps173 ?_
 obtain ⟨r_1,c1,H⟩:=bd_ H
 replace c1:=UR (F_a_cmp:=169) (caps_a_cmp:=[]) (fun x0 x1 r h=>Jd h) c1
 try simp only [adV,adT,adX,adN,aj] at c1
 cases H
 exact af
def Va (s:ByteArray) (i:Int):Option UInt8:=if 0<=i then s[i.toNat]? else none
theorem Kg {s:ByteArray} {i:Int} {x:UInt8} (h:Va s i=some x):0<=i/\s[i.toNat]?=some x:=by
 unfold Va at h
 by_cases h0:0<=i
 ·rw [if_pos h0] at h;exact ⟨h0,h⟩
 ·rw [if_neg h0] at h;cases h
section
variable {P:Program} {ti:TI} {N n0:Nat} {ds:List (Option Tmp)} {K:Tm->List Ob->Prop} {rest:List Oper} {o:Oper} {T:Tm} {L:List Ob}
theorem b_ {t:TypeId} {x ix:Operand} {s:ByteArray} {k0:IntKind} {i:Int} {b:UInt8} {d:Nat} (hd:o.dst=some d) (hN:Nat.blt d N=true) {g0:Bool} (hg:jX ds T o.guard=some g0) (ho:o.op = .index t x ix) (hx:look T x=some (.one (.c (.str s)))) (hi:look T ix=some (.one (.c (.int k0 i))))
  (hk:ti.kind t=some .string) (h:aN P ti N ds K rest ((d, .one (.c (.int .u8 ((b.toNat:Nat):Int))))::T) L) (hb:s[i.toNat]?=some b:=by assumption) (h0:0<=i:=by assumption) (hg1:g0=true:=by first|rfl|exact rE (by first|assumption|exact qX (by assumption))|exact rQ (by first|assumption|exact qK (by assumption))):aN P ti N ds K (o::rest) T L :=
 aP (φ:=0<=i/\ti.kind t=some .string) hd hN (hg1▸hg) (by rw [ho];simp only [pop,hx,hi,tX,hb]) ⟨h0,hk⟩ h
theorem t5_ {v:AV} {φ:Prop} {d:Nat} (hd:o.dst=some d) (hN:Nat.blt d N=true) {g0:Bool} (hg:jX ds T o.guard=some g0) (hp:zM ti (look T) o.op=some (v,φ)) (h:aN P ti N ds K rest ((d,v)::T) L)
  (hφ:φ:=by repeat' (first|exact trivial|rfl|exact adS rfl|omega|refine aeA.2 ⟨?_,?_⟩|exact fun _ h=>nomatch h|apply And.intro)) (hg1:g0=true:=by first|rfl|exact rE (by first|assumption|exact qX (by assumption))|exact rQ (by first|assumption|exact qK (by assumption))):aN P ti N ds K (o::rest) T L:=aS hd hN (hg1▸hg) hp hφ h
end
theorem gs5_ {p q:Prop} (k:q) (h:Bx q->p:=by
 intro hq
 first|refine p_ rfl rfl rfl rfl rfl ?_|refine st_nil ?_|refine x_ rfl rfl rfl rfl rfl rfl rfl rfl ?_|refine l_ rfl rfl rfl rfl ?_|refine s_ rfl rfl rfl ?_|refine t5_ rfl rfl rfl rfl ?_|refine k_ rfl rfl rfl ?_|refine k0_ rfl rfl ?_|refine c_ rfl rfl rfl rfl ?_|refine pick_t rfl rfl rfl rfl rfl rfl rfl ?_|refine pick_f rfl rfl rfl rfl rfl rfl rfl ?_|refine aw_seq ?_|refine aw_region tab_ok _ rfl ?_|refine aw_drawn2 tabS_ok _ rfl mixed (by decide +kernel) ?_|refine aw_condT rfl ?_|refine aw_condF rfl ?_|refine aw_block ?_|refine aw_exit ?_|refine aw_ret ?_|refine aw_skip ?_|rw [adU]|rw [mn_norm]|rw [mx_norm]
 exact hq.out):p:=h ⟨k⟩
set_option maxHeartbeats 8000000
def ma:Option (Val):=some (⟨(0:Int),(0:Int),ByteArray.empty⟩:Val)
theorem fG {r:Val} (H:ma=some r):Pure Tryz.prog 79 [] (.val (.agg (cV r))):=by
 unfold ma at H
 refine po_ Tryz.func79 Tryz.ntmps79 ?_
 cases H
 exact af
def wU (a_s:ByteArray):(Int)->Option (Step (Int) (Bool)):=fun s=>match s with
 | v_1=>bif (decide (v_1<((a_s.size:Nat):Int))) then (Va a_s v_1).bind fun b_3=>bif (decide (((b_3.toNat:Nat):Int)<(32:Int))) then some (.ret false) else
 bif (decide ((126:Int)<((b_3.toNat:Nat):Int))) then some (.ret false) else
 some (.next (IntKind.i64.wrap (v_1+(1:Int)))) else
 some (.exit v_1)
def d9:Sum (Int) (Bool)->Option ((Bool))
 | .inl v_1=>some true
 | .inr q=>some q
def qJ (a_s:ByteArray):Option (Bool):=(az (wU a_s) fuel (0:Int)).bind (d9)
theorem Ik {a_s:ByteArray} {r:Bool} (H:qJ a_s=some r):Pure Tryz.prog 164 [.one (.str a_s)] (.val (.one (.bool r))):=by
 unfold qJ at H
 refine po_ Tryz.func164 Tryz.ntmps164 ?_
 repeat' (first|refine gs5_ ?_|refine b_ rfl rfl rfl rfl rfl rfl rfl ?_)
 refine alM_ (fun s:Int=>match s with|v_1=>[(0, .one (.c (.str a_s))),(5, .one (.c (.int .i64 ((a_s.size:Nat):Int)))),(6, .one (.c (.int .i64 v_1)))]) (fun s=>match s with|v_1=>[]) H (fun _=>ad4 _)
  (fm_ dL [] rfl bL trivial) ?_
 rintro v_1 st1 hb1 hk1
 unfold wU at hb1
 dsimp only at hb1 ⊢
 rcases aa hb1 with ⟨q_2,hb1⟩|⟨q_2,hb1⟩
 ·obtain ⟨b_3,i1,hb1⟩:=bd_ hb1
  obtain ⟨i1z,i1⟩:=Kg i1
  rcases aa hb1 with ⟨q_4,hb1⟩|⟨q_4,hb1⟩
  ·cases hb1
   have hx1:d9 (.inr false)=some _:=hk1
   unfold d9 at hx1
   dsimp only at hx1
   cases hx1
   repeat' (first|refine gs5_ ?_|refine b_ rfl rfl rfl rfl rfl rfl rfl ?_)
   refine bE (bR rfl ?_ ?_)
   ·repeat' (first|exact trivial|rfl|exact adS rfl|omega|apply And.intro)
   ·first|rfl|(simp only [adV,adT,adX,adN]<;>rfl)
  rcases aa hb1 with ⟨q_5,hb1⟩|⟨q_5,hb1⟩
  ·cases hb1
   have hx1:d9 (.inr false)=some _:=hk1
   unfold d9 at hx1
   dsimp only at hx1
   cases hx1
   repeat' (first|refine gs5_ ?_|refine b_ rfl rfl rfl rfl rfl rfl rfl ?_)
   refine bE (bR rfl ?_ ?_)
   ·repeat' (first|exact trivial|rfl|exact adS rfl|omega|apply And.intro)
   ·first|rfl|(simp only [adV,adT,adX,adN]<;>rfl)
  cases hb1
  repeat' (first|refine gs5_ ?_|refine b_ rfl rfl rfl rfl rfl rfl rfl ?_)
  exact ⟨_,rfl,fm_ dL [] rfl bL trivial⟩
 cases hb1
 have hx1:d9 (.inl v_1)=some _:=hk1
 unfold d9 at hx1
 dsimp only at hx1
 cases hx1
 repeat' (first|refine gs5_ ?_|refine b_ rfl rfl rfl rfl rfl rfl rfl ?_)
 refine bE (bR rfl ?_ ?_)
 ·repeat' (first|exact trivial|rfl|exact adS rfl|omega|apply And.intro)
 ·first|rfl|(simp only [adV,adT,adX,adN]<;>rfl)
def uF (a_v:Val):Option (Bool):=bif (decide (a_v.kind=(0:Int))) then bif (decide (a_v.int=(0:Int))) then some (a_v.text.toList==(⟨#[]⟩:ByteArray).toList) else
 some false else
 bif (decide (a_v.kind=(1:Int))) then bif (a_v.text.toList==(⟨#[]⟩:ByteArray).toList) then bif (decide ((-1125899906842624:Int)<=a_v.int)) then some (decide (a_v.int<=(1125899906842624:Int))) else
 some false else
 some false else
 bif (decide (a_v.kind=(2:Int))) then bif (decide (a_v.int=(0:Int))) then bif (decide (((a_v.text.size:Nat):Int)<=(200:Int))) then (qJ a_v.text).bind fun r_9=>some r_9 else
 some false else
 some false else
 bif (decide (a_v.kind=(3:Int))) then bif (a_v.text.toList==(⟨#[]⟩:ByteArray).toList) then bif (decide (a_v.int=(0:Int))) then some true else
 some (decide (a_v.int=(1:Int))) else
 some false else
 some false
theorem Az {a_v:Val} {r:Bool} (H:uF a_v=some r):Pure Tryz.prog 124 [.agg (cV a_v)] (.val (.one (.bool r))):=by
 unfold uF at H
 refine po_ Tryz.func124 Tryz.ntmps124 ?_
 rcases aa H with ⟨q_1,H⟩|⟨q_1,H⟩
 ·rcases aa H with ⟨q_2,H⟩|⟨q_2,H⟩
  ·cases H
   exact af
  cases H
  exact af
 rcases aa H with ⟨q_3,H⟩|⟨q_3,H⟩
 ·rcases aa H with ⟨q_4,H⟩|⟨q_4,H⟩
  ·rcases aa H with ⟨q_5,H⟩|⟨q_5,H⟩
   ·cases H
    exact af
   cases H
   exact af
  cases H
  exact af
 rcases aa H with ⟨q_6,H⟩|⟨q_6,H⟩
 ·rcases aa H with ⟨q_7,H⟩|⟨q_7,H⟩
  ·rcases aa H with ⟨q_8,H⟩|⟨q_8,H⟩
   ·obtain ⟨r_9,c1,H⟩:=bd_ H
    replace c1:=Ik c1
    cases H
    exact af
   cases H
   exact af
  cases H
  exact af
 rcases aa H with ⟨q_10,H⟩|⟨q_10,H⟩
 ·rcases aa H with ⟨q_11,H⟩|⟨q_11,H⟩
  ·rcases aa H with ⟨q_12,H⟩|⟨q_12,H⟩
   ·cases H
    exact af
   cases H
   exact af
  cases H
  exact af
 cases H
 exact af
def yA (a_v:Val):Option (Val):=(uF a_v).bind fun r_1=>bif (!r_1) then (ma ).bind fun r_3=>some r_3 else
 some a_v
theorem Jh {a_v:Val} {r:Val} (H:yA a_v=some r):Pure Tryz.prog 167 [.agg (cV a_v)] (.val (.agg (cV r))):=by
 unfold yA at H
 refine po_ Tryz.func167 Tryz.ntmps167 ?_
 obtain ⟨r_1,c1,H⟩:=bd_ H
 replace c1:=Az c1
 rcases aa H with ⟨q_2,H⟩|⟨q_2,H⟩
 ·obtain ⟨r_3,c2,H⟩:=bd_ H
  replace c2:=fG c2
  cases H
  exact af
 cases H
 exact af
def qi (a_n:Int):Option (Val):=(yA (⟨(1:Int),a_n,ByteArray.empty⟩:Val)).bind fun r_1=>some r_1
theorem mR {a_n:Int} {r:Val} (H:qi a_n=some r):Pure Tryz.prog 130 [.one (.int .i64 a_n)] (.val (.agg (cV r))):=by
 unfold qi at H
 refine po_ Tryz.func130 Tryz.ntmps130 ?_
 obtain ⟨r_1,c1,H⟩:=bd_ H
 replace c1:=Jh c1
 cases H
 exact af
def C_ (a_s:ByteArray):Option (Val):=(yA (⟨(2:Int),(0:Int),a_s⟩:Val)).bind fun r_1=>some r_1
theorem VP {a_s:ByteArray} {r:Val} (H:C_ a_s=some r):Pure Tryz.prog 131 [.one (.str a_s)] (.val (.agg (cV r))):=by
 unfold C_ at H
 refine po_ Tryz.func131 Tryz.ntmps131 ?_
 obtain ⟨r_1,c1,H⟩:=bd_ H
 replace c1:=Jh c1
 cases H
 exact af
def wY (a_b:Bool):Option (Val):=bif a_b then some (⟨(3:Int),(1:Int),ByteArray.empty⟩:Val) else
 some (⟨(3:Int),(0:Int),ByteArray.empty⟩:Val)
theorem si {a_b:Bool} {r:Val} (H:wY a_b=some r):Pure Tryz.prog 82 [.one (.bool a_b)] (.val (.agg (cV r))):=by
 unfold wY at H
 refine po_ Tryz.func82 Tryz.ntmps82 ?_
 rcases aa H with ⟨q_1,H⟩|⟨q_1,H⟩
 ·cases H
  exact af
 cases H
 exact af
set_option maxHeartbeats 8000000
def YK (a_p:aW):Option (Bool):=bif (decide ((0:Int)<=a_p.lo)) then bif (decide (a_p.lo<a_p.hi)) then some (decide (a_p.hi<=(1099511627776:Int))) else
 some false else
 some false
theorem FT {a_p:aW} {r:Bool} (H:YK a_p=some r):Pure Tryz.prog 58 [.agg (dP a_p)] (.val (.one (.bool r))):=by
 unfold YK at H
 refine po_ Tryz.func58 Tryz.ntmps58 ?_
 rcases aa H with ⟨q_1,H⟩|⟨q_1,H⟩
 ·rcases aa H with ⟨q_2,H⟩|⟨q_2,H⟩
  ·cases H
   exact af
  cases H
  exact af
 cases H
 exact af
section
variable {P:Program} {ti:TI} {N:Nat} {ds:List (Option Tmp)} {K:Tm->List Ob->Prop} {rest:List Oper} {o:Oper} {T:Tm} {L:List Ob}
theorem QI {a b:List SV} (h:b.length=a.length):splice a 0 b=b:=by
 unfold splice
 rw [List.take_zero,adN,aeo,List.drop_of_length_le (by omega),aeg]
theorem Tc {α:Type} {enc:α->List AC} {X:List α} {v:α} {t:TypeId} {p q:Operand} {id ver i k:Nat} (hd:o.dst=none) (hg:jX ds T o.guard=some true) (ho:o.op = .store t p q) (hp:look T p=some (.one (.ep id ver i 0))) (hL:L[id]?=some (.row ver ((X.map enc).map (List.map SV.c)) k)) (hx:i<X.length)
  (hq:(look T q).bind AV.cells=some ((enc v).map SV.c)) (hk : ∀ x,(enc x).length=k) (hsz:ti.size t=some k) (h:aN P ti N ds K rest T (L.set id (.row ver (((X.set i v).map enc).map (List.map SV.c)) k))):aN P ti N ds K (o::rest) T L:=by
 obtain ⟨x,hx⟩:=gol_ hx
 have hl:((enc v).map SV.c).length=((enc x).map SV.c).length:=by rw [adU,adU,hk,hk]
 have he:((X.map enc).map (List.map SV.c))[i]?=some ((enc x).map SV.c):=by rw [ad6,ad6,hx];rfl
 refine D6 hd hg ho hp hq hL he ⟨by rw [aeo,hl];exact adY _,by rw [adU,hk];exact hsz⟩ ?_ h
 rw [QI hl,List.map_set,List.map_set]
end
theorem Ji {α:Type} (n v k:Nat) (enc:α->List AC) (X:List α):(Ob.row v ((X.map enc).map (List.map SV.c)) k).below n:=by
 intro e he x hx
 rw [List.map_map] at he
 obtain ⟨y,_,rfl⟩:=aeh.1 he
 obtain ⟨z,_,rfl⟩:=aeh.1 hx
 trivial
set_option maxHeartbeats 8000000
def vH (a_op:Int) (a_n:Int):Option (Bool × Bool):=bif (decide (a_op=(1:Int))) then some ((decide (a_n=(0:Int))),true) else
 bif (decide (a_op=(2:Int))) then some ((decide (a_n=(0:Int))),true) else
 bif (decide (a_op=(4:Int))) then some ((decide (a_n=(1:Int))),true) else
 bif (decide (a_op=(18:Int))) then some ((decide (a_n=(1:Int))),true) else
 bif (decide (a_op=(20:Int))) then some ((decide (a_n=(1:Int))),true) else
 bif (decide (a_op=(21:Int))) then some ((decide (a_n=(1:Int))),true) else
 bif (decide (a_op=(7:Int))) then some ((decide (a_n=(2:Int))),true) else
 bif (decide (a_op=(8:Int))) then some ((decide (a_n=(2:Int))),true) else
 bif (decide (a_op=(9:Int))) then some ((decide (a_n=(2:Int))),true) else
 bif (decide (a_op=(10:Int))) then some ((decide (a_n=(2:Int))),true) else
 bif (decide (a_op=(11:Int))) then some ((decide (a_n=(2:Int))),true) else
 bif (decide (a_op=(12:Int))) then some ((decide (a_n=(2:Int))),true) else
 bif (decide (a_op=(13:Int))) then some ((decide (a_n=(2:Int))),true) else
 bif (decide (a_op=(14:Int))) then some ((decide (a_n=(2:Int))),true) else
 bif (decide (a_op=(15:Int))) then some ((decide (a_n=(2:Int))),true) else
 bif (decide (a_op=(16:Int))) then some ((decide (a_n=(2:Int))),true) else
 bif (decide (a_op=(17:Int))) then some ((decide (a_n=(2:Int))),true) else
 bif (decide (a_op=(19:Int))) then some ((decide (a_n=(2:Int))),true) else
 bif (decide (a_op=(5:Int))) then some ((decide ((2:Int)<=a_n)),true) else
 bif (decide (a_op=(6:Int))) then some ((decide ((2:Int)<=a_n)),true) else
 bif (decide (a_op=(22:Int))) then some ((decide (a_n=(3:Int))),true) else
 bif (decide (a_op=(23:Int))) then some ((decide ((1:Int)<=a_n)),true) else
 bif (decide (a_op=(24:Int))) then some ((decide (a_n=(4:Int))),true) else
 some (false,false)
theorem He {a_op:Int} {a_n:Int} {r:Bool × Bool} (H:vH a_op a_n=some r):Pure Tryz.prog 122 [.one (.int .i64 a_op), .one (.int .i64 a_n)] (.tup [.one (.bool r.1), .one (.bool r.2)]):=by
 unfold vH at H
 refine po_ Tryz.func122 Tryz.ntmps122 ?_
 rcases aa H with ⟨q_1,H⟩|⟨q_1,H⟩
 ·cases H
  exact af
 rcases aa H with ⟨q_2,H⟩|⟨q_2,H⟩
 ·cases H
  exact af
 refine bv ?_
 rcases aa H with ⟨q_3,H⟩|⟨q_3,H⟩
 ·cases H
  exact af
 rcases aa H with ⟨q_4,H⟩|⟨q_4,H⟩
 ·cases H
  exact af
 rcases aa H with ⟨q_5,H⟩|⟨q_5,H⟩
 ·cases H
  exact af
 refine bv ?_
 rcases aa H with ⟨q_6,H⟩|⟨q_6,H⟩
 ·cases H
  exact af
 rcases aa H with ⟨q_7,H⟩|⟨q_7,H⟩
 ·cases H
  exact af
 rcases aa H with ⟨q_8,H⟩|⟨q_8,H⟩
 ·cases H
  exact af
 refine bv ?_
 rcases aa H with ⟨q_9,H⟩|⟨q_9,H⟩
 ·cases H
  exact af
 rcases aa H with ⟨q_10,H⟩|⟨q_10,H⟩
 ·cases H
  exact af
 rcases aa H with ⟨q_11,H⟩|⟨q_11,H⟩
 ·cases H
  exact af
 refine bv ?_
 rcases aa H with ⟨q_12,H⟩|⟨q_12,H⟩
 ·cases H
  exact af
 rcases aa H with ⟨q_13,H⟩|⟨q_13,H⟩
 ·cases H
  exact af
 rcases aa H with ⟨q_14,H⟩|⟨q_14,H⟩
 ·cases H
  exact af
 refine bv ?_
 rcases aa H with ⟨q_15,H⟩|⟨q_15,H⟩
 ·cases H
  exact af
 rcases aa H with ⟨q_16,H⟩|⟨q_16,H⟩
 ·cases H
  exact af
 rcases aa H with ⟨q_17,H⟩|⟨q_17,H⟩
 ·cases H
  exact af
 refine bv ?_
 rcases aa H with ⟨q_18,H⟩|⟨q_18,H⟩
 ·cases H
  exact af
 rcases aa H with ⟨q_19,H⟩|⟨q_19,H⟩
 ·cases H
  exact af
 rcases aa H with ⟨q_20,H⟩|⟨q_20,H⟩
 ·cases H
  exact af
 refine bv ?_
 rcases aa H with ⟨q_21,H⟩|⟨q_21,H⟩
 ·cases H
  exact af
 rcases aa H with ⟨q_22,H⟩|⟨q_22,H⟩
 ·cases H
  exact af
 rcases aa H with ⟨q_23,H⟩|⟨q_23,H⟩
 ·cases H
  exact af
 cases H
 exact af
def qw (a_e:Ex):Option (Bool):=(vH a_e.op ((a_e.args.length:Nat):Int)).bind fun r_1=>bif (!r_1.1) then some false else
 bif (!(a_e.nm.toList==(⟨#[]⟩:ByteArray).toList)) then some false else
 bif (decide (a_e.op=(1:Int))) then bif (decide (a_e.int=(0:Int))) then (uF a_e.v).bind fun r_6=>some r_6 else
 some false else
 bif (decide (a_e.op=(24:Int))) then bif (decide (a_e.int<(0:Int))) then some false else
 bif (decide ((13:Int)<=a_e.int)) then some false else
 some (dw [.c (.int .i64 a_e.v.kind), .c (.int .i64 a_e.v.int), .c (.str a_e.v.text)] [.c (.int .i64 (0:Int)), .c (.int .i64 (0:Int)), .c (.str ByteArray.empty)]) else
 bif (decide (a_e.op=(2:Int))) then some (dw [.c (.int .i64 a_e.v.kind), .c (.int .i64 a_e.v.int), .c (.str a_e.v.text)] [.c (.int .i64 (0:Int)), .c (.int .i64 (0:Int)), .c (.str ByteArray.empty)]) else
 bif (decide (a_e.int=(0:Int))) then some (dw [.c (.int .i64 a_e.v.kind), .c (.int .i64 a_e.v.int), .c (.str a_e.v.text)] [.c (.int .i64 (0:Int)), .c (.int .i64 (0:Int)), .c (.str ByteArray.empty)]) else
 some false
theorem GG {a_e:Ex} {r:Bool} (H:qw a_e=some r):Pure Tryz.prog 78 [.agg (tE a_e)] (.val (.one (.bool r))):=by
 unfold qw at H
 rw [aj a_e]
 refine po_ Tryz.func78 Tryz.ntmps78 ?_
 obtain ⟨r_1,c1,H⟩:=bd_ H
 replace c1:=He c1
 rcases aa H with ⟨q_2,H⟩|⟨q_2,H⟩
 ·cases H
  exact af
 rcases aa H with ⟨q_3,H⟩|⟨q_3,H⟩
 ·cases H
  exact af
 refine bv ?_
 rcases aa H with ⟨q_4,H⟩|⟨q_4,H⟩
 ·rcases aa H with ⟨q_5,H⟩|⟨q_5,H⟩
  ·obtain ⟨r_6,c2,H⟩:=bd_ H
   replace c2:=Az c2
   cases H
   exact af
  cases H
  exact af
 rcases aa H with ⟨q_7,H⟩|⟨q_7,H⟩
 ·rcases aa H with ⟨q_8,H⟩|⟨q_8,H⟩
  ·cases H
   exact af
  refine bv ?_
  rcases aa H with ⟨q_9,H⟩|⟨q_9,H⟩
  ·cases H
   exact af
  cases H
  exact af
 rcases aa H with ⟨q_10,H⟩|⟨q_10,H⟩
 ·cases H
  exact af
 refine bv ?_
 rcases aa H with ⟨q_11,H⟩|⟨q_11,H⟩
 ·cases H
  exact af
 cases H
 exact af
set_option maxHeartbeats 8000000
def uU (a_a:Val) (a_b:Val) (a_is:Bool):Option (Int):=bif (decide (a_a.kind=(0:Int))) then some (1:Int) else
 bif (decide (a_a.kind≠a_b.kind)) then some (1:Int) else
 bif a_is then some (2:Int) else
 some (0:Int)
theorem Iw {a_a:Val} {a_b:Val} {a_is:Bool} {r:Int} (H:uU a_a a_b a_is=some r):Pure Tryz.prog 168 [.agg (cV a_a), .agg (cV a_b), .one (.bool a_is)] (.val (.one (.int .i64 r))):=by
 unfold uU at H
 refine po_ Tryz.func168 Tryz.ntmps168 ?_
 rcases aa H with ⟨q_1,H⟩|⟨q_1,H⟩
 ·cases H
  exact af
 rcases aa H with ⟨q_2,H⟩|⟨q_2,H⟩
 ·cases H
  exact af
 rcases aa H with ⟨q_3,H⟩|⟨q_3,H⟩
 ·cases H
  exact af
 cases H
 exact af
def U9 (a_a:Val) (a_b:Val):Option (Int):=(ya a_a a_b).bind fun r_1=>(uU a_a a_b (decide (r_1=(0:Int)))).bind fun r_2=>some r_2
theorem TL {a_a:Val} {a_b:Val} {r:Int} (H:U9 a_a a_b=some r):Pure Tryz.prog 134 [.agg (cV a_a), .agg (cV a_b)] (.val (.one (.int .i64 r))):=by
 unfold U9 at H
 refine po_ Tryz.func134 Tryz.ntmps134 ?_
 obtain ⟨r_1,c1,H⟩:=bd_ H
 replace c1:=Jd c1
 obtain ⟨r_2,c2,H⟩:=bd_ H
 replace c2:=Iw c2
 cases H
 exact af
def wR (a_a:Val) (a_b:Val):Option (Int):=(ya a_a a_b).bind fun r_1=>(uU a_a a_b (decide (r_1<(0:Int)))).bind fun r_2=>some r_2
theorem yR {a_a:Val} {a_b:Val} {r:Int} (H:wR a_a a_b=some r):Pure Tryz.prog 135 [.agg (cV a_a), .agg (cV a_b)] (.val (.one (.int .i64 r))):=by
 unfold wR at H
 refine po_ Tryz.func135 Tryz.ntmps135 ?_
 obtain ⟨r_1,c1,H⟩:=bd_ H
 replace c1:=Jd c1
 obtain ⟨r_2,c2,H⟩:=bd_ H
 replace c2:=Iw c2
 cases H
 exact af
def qH (a_t:Int):Option (Int):=bif (decide (a_t≠(0:Int))) then bif (decide (a_t≠(2:Int))) then some (1:Int) else
 some a_t else
 some a_t
theorem Ad {a_t:Int} {r:Int} (H:qH a_t=some r):Pure Tryz.prog 133 [.one (.int .i64 a_t)] (.val (.one (.int .i64 r))):=by
 unfold qH at H
 refine po_ Tryz.func133 Tryz.ntmps133 ?_
 rcases aa H with ⟨q_1,H⟩|⟨q_1,H⟩
 ·rcases aa H with ⟨q_2,H⟩|⟨q_2,H⟩
  ·cases H
   exact af
  cases H
  exact af
 cases H
 exact af
def JJ (a_a:Int):Option (Int):=(qH a_a).bind fun r_1=>some (IntKind.i64.wrap ((2:Int)-r_1))
theorem vV {a_a:Int} {r:Int} (H:JJ a_a=some r):Pure Tryz.prog 126 [.one (.int .i64 a_a)] (.val (.one (.int .i64 r))):=by
 unfold JJ at H
 refine po_ Tryz.func126 Tryz.ntmps126 ?_
 obtain ⟨r_1,c1,H⟩:=bd_ H
 replace c1:=Ad c1
 cases H
 exact af
def yu (a_l:(List Int)):(Int × Int)->Option (Step (Int × Int) (Int)):=fun s=>match s with
 | (t_1,v_2)=>bif (decide (v_2<((a_l.length:Nat):Int))) then (aA a_l v_2).bind fun x_4=>(qH x_4).bind fun r_5=>some (.next ((LB t_1 r_5),(IntKind.i64.wrap (v_2+(1:Int))))) else
 some (.exit (t_1,v_2))
def Db:Sum (Int × Int) (Int)->Option ((Int))
 | .inl (t_1,v_2)=>some t_1
 | .inr q=>some q
def DR (a_l:(List Int)):Option (Int):=(az (yu a_l) fuel ((2:Int),(0:Int))).bind (Db)
theorem Lt {a_l:(List Int)} {r:Int} (H:DR a_l=some r):Pure Tryz.prog 166 [.one (.lst (a_l.map (fun x=>[AC.int .i64 x])))] (.val (.one (.int .i64 r))):=by
 unfold DR at H
 refine po_ Tryz.func166 Tryz.ntmps166 ?_
 refine bv ?_
 refine alM_ (fun s:Int × Int=>match s with|(t_1,v_2)=>[(3, .one (.c (.int .i64 t_1))),(6, .one (.c (.lst (a_l.map (fun x=>[AC.int .i64 x]))))),(7, .one (.c (.int .i64 ((a_l.length:Nat):Int)))),(8, .one (.c (.int .i64 v_2)))]) (fun s=>match s with|(t_1,v_2)=>[]) H (fun _=>ad4 _)
  (fm_ dL [] rfl bL trivial) ?_
 rintro ⟨t_1,v_2⟩ st1 hb1 hk1
 unfold yu at hb1
 dsimp only at hb1 ⊢
 rcases aa hb1 with ⟨q_3,hb1⟩|⟨q_3,hb1⟩
 ·obtain ⟨x_4,i1z,i1,i1x,hb1⟩:=aR (f:=(fun x=>[AC.int .i64 x])) hb1
  obtain ⟨r_5,c2,hb1⟩:=bd_ hb1
  replace c2:=Ad c2
  cases hb1
  refine bv ?_
  exact ⟨_,rfl,fm_ dL [] rfl bL trivial⟩
 cases hb1
 have hx1:Db (.inl (t_1,v_2))=some _:=hk1
 unfold Db at hx1
 dsimp only at hx1
 cases hx1
 exact af
def QS (a_a:Int) (a_b:Int):Option (Int):=(DR [a_a,a_b]).bind fun r_1=>some r_1
theorem YO {a_a:Int} {a_b:Int} {r:Int} (H:QS a_a a_b=some r):Pure Tryz.prog 127 [.one (.int .i64 a_a), .one (.int .i64 a_b)] (.val (.one (.int .i64 r))):=by
 unfold QS at H
 refine po_ Tryz.func127 Tryz.ntmps127 ?_
 obtain ⟨r_1,c1,H⟩:=bd_ H
 replace c1:=Lt c1
 try simp only [adV,adT,adX,adN,aj] at c1
 cases H
 exact af
def IM (a_a:Int) (a_b:Int):Option (Int):=(JJ a_a).bind fun r_1=>(JJ a_b).bind fun r_2=>(DR [r_1,r_2]).bind fun r_3=>(JJ r_3).bind fun r_4=>some r_4
theorem XO {a_a:Int} {a_b:Int} {r:Int} (H:IM a_a a_b=some r):Pure Tryz.prog 128 [.one (.int .i64 a_a), .one (.int .i64 a_b)] (.val (.one (.int .i64 r))):=by
 unfold IM at H
 refine po_ Tryz.func128 Tryz.ntmps128 ?_
 obtain ⟨r_1,c1,H⟩:=bd_ H
 replace c1:=vV c1
 obtain ⟨r_2,c2,H⟩:=bd_ H
 replace c2:=vV c2
 obtain ⟨r_3,c3,H⟩:=bd_ H
 replace c3:=Lt c3
 try simp only [adV,adT,adX,adN,aj] at c3
 obtain ⟨r_4,c4,H⟩:=bd_ H
 replace c4:=vV c4
 cases H
 exact af
def lY (a_v:Val):Option (Int):=(wY true).bind fun r_1=>bif (dw [.c (.int .i64 a_v.kind), .c (.int .i64 a_v.int), .c (.str a_v.text)] [.c (.int .i64 r_1.kind), .c (.int .i64 r_1.int), .c (.str r_1.text)]) then some (2:Int) else
 (wY false).bind fun r_3=>bif (dw [.c (.int .i64 a_v.kind), .c (.int .i64 a_v.int), .c (.str a_v.text)] [.c (.int .i64 r_3.kind), .c (.int .i64 r_3.int), .c (.str r_3.text)]) then some (0:Int) else
 some (1:Int)
theorem pJ {a_v:Val} {r:Int} (H:lY a_v=some r):Pure Tryz.prog 73 [.agg (cV a_v)] (.val (.one (.int .i64 r))):=by
 unfold lY at H
 refine po_ Tryz.func73 Tryz.ntmps73 ?_
 obtain ⟨r_1,c1,H⟩:=bd_ H
 replace c1:=si c1
 rcases aa H with ⟨q_2,H⟩|⟨q_2,H⟩
 ·cases H
  exact af
 obtain ⟨r_3,c2,H⟩:=bd_ H
 replace c2:=si c2
 rcases aa H with ⟨q_4,H⟩|⟨q_4,H⟩
 ·cases H
  exact af
 cases H
 exact af
def Cf (a_t:Int):Option (Val):=(qH a_t).bind fun r_1=>bif (decide (r_1=(1:Int))) then (ma ).bind fun r_3=>some r_3 else
 (wY (decide (r_1=(2:Int)))).bind fun r_4=>some r_4
theorem BC {a_t:Int} {r:Val} (H:Cf a_t=some r):Pure Tryz.prog 86 [.one (.int .i64 a_t)] (.val (.agg (cV r))):=by
 unfold Cf at H
 refine po_ Tryz.func86 Tryz.ntmps86 ?_
 obtain ⟨r_1,c1,H⟩:=bd_ H
 replace c1:=Ad c1
 rcases aa H with ⟨q_2,H⟩|⟨q_2,H⟩
 ·obtain ⟨r_3,c2,H⟩:=bd_ H
  replace c2:=fG c2
  cases H
  exact af
 obtain ⟨r_4,c3,H⟩:=bd_ H
 replace c3:=si c3
 cases H
 exact af
end Go.Proofs.YtfccopdbgfdcdaaGreatDoor
