/- Parts of the proof, joined. No condition. -/
import Derived.Test.YtlcceppoloaecaaGreatDoorKAA
import Derived.Test.YtlcceppoloaecaaGreatDoorKAH
import Derived.Test.YtlcceppoloaecaaGreatDoorKAG
set_option linter.unusedSimpArgs false
set_option linter.unusedVariables false
namespace Go.Proofs.YtlcceppoloaecaaGreatDoor
open Go.RowKit Go.MapKept
inductive Step (σ ρ:Type) where
 | next (s:σ)
 | exit (s:σ)
 | ret (r:ρ)
def az {σ ρ:Type} (body:σ->Option (Step σ ρ)):Nat->σ->Option (Sum σ ρ)
 | 0,_=>none
 | n+1,s=>match body s with
  | none=>none
  | some (.next s')=>az body n s'
  | some (.exit s')=>some (.inl s')
  | some (.ret r)=>some (.inr r)
def fuel:Nat:=4611686018427387904
def aT {α:Type} (l:List α) (i:Int):Option α:=if 0<=i then l[i.toNat]? else none
theorem bd_ {α β:Type} {x:Option α} {f:α->Option β} {r:β} (h:x.bind f=some r) : ∃ a,x=some a/\f a=some r:=by
 cases x with
 | none=>cases h
 | some a=>exact ⟨a,rfl,h⟩
theorem JO {α:Type} {l:List α} {i:Int} {x:α} (h:aT l i=some x):0<=i/\l[i.toNat]?=some x:=by
 unfold aT at h
 by_cases h0:0<=i
 ·rw [if_pos h0] at h;exact ⟨h0,h⟩
 ·rw [if_neg h0] at h;cases h
theorem Es {c:Bool} {β:Type} {x:Option β} {r:β} (h:(bif c then x else none)=some r):c=true/\x=some r:=by
 cases c with
 | true=>exact ⟨rfl,h⟩
 | false=>cases h
theorem Um {α:Type} {l:List α} {f:α->List AC} {i:Int} {x:α} (h:l[i.toNat]?=some x):(l.map f)[i.toNat]?=some (f x):=by rw [Vz,h];rfl
theorem aZ {α:Type} {f:α->List AC} {k:Nat} (hf : ∀ x,(f x).length=k) (l:List α) : ∀ e∈l.map f,e.length=k:=by
 intro e he;simp only [VK] at he;obtain ⟨x,_,rfl⟩:=he;exact hf x
section
variable {P:Program} {ti:TI} {N n0:Nat} {Q:AX->Tm->List Ob->Prop} {T:Tm} {L:List Ob}
@[reducible] def After {σ ρ γ:Type} (K:Sum σ ρ->Option γ) (r:γ):Step σ ρ->Prop
 | .next _=>True
 | .exit s=>K (.inl s)=some r
 | .ret q=>K (.inr q)=some r
theorem alM_ {σ ρ γ:Type} {c:Code} {body:σ->Option (Step σ ρ)} {K:Sum σ ρ->Option γ} {r:γ} {s0:σ} (TT:σ->Tm) (LL:σ->List Ob) (h:(az body fuel s0).bind K=some r) (hn1 : ∀ s,n0<=(LL s).length) (hf:Fits T L (TT s0) (LL s0))
  (round : ∀ s st,body s=some st->After K r st->Aw P N n0 c (AX.then (fun T' L' => ∃ s',st = .next s'/\Fits T' L' (TT s') (LL s')) Q) (TT s) (LL s)):Aw P N n0 (.loop c) Q T L:=by
 refine nX (fun s:Nat × σ=>TT s.2) (fun s=>LL s.2) (fun s=>(az body s.1 s.2).bind K=some r) (fun s=>s.1) (fuel,s0) h (fun s _=>hn1 s.2) hf ?_
 rintro ⟨n,s⟩ hok
 dsimp only at hok ⊢
 cases n with
 | zero=>cases hok
 | succ n =>
  rw [az] at hok
  cases hb:body s with
  | none=>rw [hb] at hok;cases hok
  | some st =>
   rw [hb] at hok
   refine Aw.mono (round s st hb ?_) ?_
   ·cases st with
    | next s'=>trivial
    | exit s'=>exact hok
    | ret q=>exact hok
   ·intro x T' L' hq
    cases x with
    | normal =>
     obtain ⟨s',rfl,hfit⟩:=hq
     exact ⟨(n,s'),hok,Nat.lt_succ_self n,hfit⟩
    | exit id=>exact hq
    | ret=>exact hq
end
def Su (a b:Int):Int:=if b<a then b else a
def Rf (a b:Int):Int:=if b > a then b else a
theorem mn_norm (a b:Int):(if false=true then (if b > a then b else a) else (if b<a then b else a))=Su a b:=rfl
theorem mx_norm (a b:Int):(if true=true then (if b > a then b else a) else (if b<a then b else a))=Rf a b:=rfl
def Kr (n:Nat):SV->Bool
 | .c _=>true
 | .emp=>true
 | .own _ t=>Nat.blt t n
 | .ptr id _=>Nat.blt id n
 | _=>false
def FZ (n:Nat):List SV->Bool
 | []=>true
 | x::l=>and (Kr n x) (FZ n l)
theorem Ik {n:Nat} {x:SV} (h:Kr n x=true):x.below n:=by
 cases x with
 | c _=>trivial
 | emp=>trivial
 | own _ t=>exact Vm h
 | ptr id _=>exact Vm h
 | sl=>cases h
 | ep=>cases h
 | mp=>cases h
 | clo=>cases h
theorem EE {n:Nat} : ∀ {cs:List SV}, FZ n cs=true->(Ob.box cs).below n
 | [],_=>fun x hx=>by cases hx
 | c::cs,h=>fun x hx=>by
  rw [FZ,Vu] at h
  rcases Vt.1 hx with rfl|hx
  ·exact Ik h.1
  ·exact EE h.2 x hx
section
variable {P:Program} {ti:TI} {N n0:Nat} {ds:List (Option Tmp)} {K:Tm->List Ob->Prop} {rest:List Oper} {o:Oper} {T:Tm} {L:List Ob}
theorem jR {b:Bool} (h:b=true):(b==true)=true:=by rw [h];rfl
theorem jY {b:Bool} (h:b=false):(b==false)=true:=by rw [h];rfl
theorem LF {b:Bool} (h:b=false):(b==true)=false:=by rw [h];rfl
theorem LA {b:Bool} (h:b=true):(b==false)=false:=by rw [h];rfl
theorem jQ {e:Bool} (h:e=false):(!e)=true:=by rw [h];rfl
theorem jJ {e:Bool} (h:e=true):(!e)=false:=by rw [h];rfl
def Qq:Op->Bool
 | .pick _ _ _=>true
 | _=>false
theorem p_ {v:AV} {φ:Prop} {d:Nat} (_:Qq o.op=false) (hd:o.dst=some d) (hN:Nat.blt d N=true) {g0:Bool} (hg:fT ds T o.guard=some g0) (hp:pop ti (look T) L o.op=some (v,φ)) (h:aj P ti N ds K rest ((d,v)::T) L)
  (hφ:φ:=by repeat' (first|exact trivial|rfl|exact Vm rfl|omega|assumption|exact aZ (by intro _;rfl) _|exact aZ Cc _|(intro e he;simp at he;subst he;rfl)|(simp only [Vo];omega)|apply And.intro)) (hg1:g0=true:=by first|rfl|exact jR (by first|assumption|exact jQ (by assumption))|exact jY (by first|assumption|exact jJ (by assumption))):aj P ti N ds K (o::rest) T L:=aF hd hN (hg1▸hg) hp hφ h
theorem l_ {v:AV} {L':List Ob} {φ:Prop} {d:Nat} (hd:o.dst=some d) (hN:Nat.blt d N=true) {g0:Bool} (hg:fT ds T o.guard=some g0) (hp:yE ti (look T) L o.op=some (v,L',φ)) (h:aj P ti N ds K rest ((d,v)::T) L')
  (hφ:φ:=by repeat' (first|exact trivial|rfl|exact Vm rfl|omega|exact aZ (by intro _;rfl) _|exact aZ Cc _|(intro e he;simp at he;subst he;rfl)|exact Vo _|(simp only [Vo,Vk,Vy,List.length_nil,VQ]<;>omega)|apply And.intro)) (hg1:g0=true:=by first|rfl|exact jR (by first|assumption|exact jQ (by assumption))|exact jY (by first|assumption|exact jJ (by assumption))):aj P ti N ds K (o::rest) T L:=aK hd hN (hg1▸hg) hp hφ h
theorem s_ {v:AV} {L':List Ob} {φ:Prop} (hd:o.dst=none) {g0:Bool} (hg:fT ds T o.guard=some g0) (hp:yE ti (look T) L o.op=some (v,L',φ)) (h:aj P ti N ds K rest T L') (hφ:φ:=by repeat' (first|exact trivial|rfl|exact Vm rfl|omega|apply And.intro)) (hg1:g0=true:=by first|rfl|exact jR (by first|assumption|exact jQ (by assumption))|exact jY (by first|assumption|exact jJ (by assumption))):aj P ti N ds K (o::rest) T L:=sS_ hd (hg1▸hg) hp hφ h
theorem t_ {v:AV} {φ:Prop} {d:Nat} (hd:o.dst=some d) (hN:Nat.blt d N=true) {g0:Bool} (hg:fT ds T o.guard=some g0) (hp:o9 ti (look T) o.op=some (v,φ)) (h:aj P ti N ds K rest ((d,v)::T) L)
  (hφ:φ:=by repeat' (first|exact trivial|rfl|exact Vm rfl|omega|(intro e he;simp at he;subst he;rfl)|(intro e he;simp at he;rcases he with rfl|rfl<;>rfl)|(intro e he;simp at he;rcases he with rfl|rfl|rfl<;>rfl)|(intro e he;simp at he;rcases he with rfl|rfl|rfl|rfl<;>rfl)|apply And.intro)) (hg1:g0=true:=by first|rfl|exact jR (by first|assumption|exact jQ (by assumption))|exact jY (by first|assumption|exact jJ (by assumption))):aj P ti N ds K (o::rest) T L:=aI hd hN (hg1▸hg) hp hφ h
theorem c_ {g:FuncId} {ps:List PV} {r:CV} {d:Nat} {v:AV} (hd:o.dst=some d) (hN:Nat.blt d N=true) {g0:Bool} (hg:fT ds T o.guard=some g0) (hp:lH (look T) o.op=some (g,ps)) (h:aj P ti N ds K rest ((d,v)::T) L) (hc:Pure P g ps r:=by assumption) (hv:r.av=v:=by rfl) (hg1:g0=true:=by first|rfl|exact jR (by first|assumption|exact jQ (by assumption))|exact jY (by first|assumption|exact jJ (by assumption))):aj P ti N ds K (o::rest) T L:=dz hd hN (hg1▸hg) hp hc hv h
theorem x_ {t:TypeId} {x ix:Operand} {vx:AV} {es:List (List AC)} {k0:IntKind} {i:Int} {k d:Nat} {e:List AC} (hd:o.dst=some d) (hN:Nat.blt d N=true) {g0:Bool} (hg:fT ds T o.guard=some g0) (ho:o.op = .indexAddr t x ix) (hx:look T x=some vx) (hl:bW vx=some es) (hi:look T ix=some (.one (.c (.int k0 i))))
  (hk:(ti.elem t).bind ti.size=some k) (h:aj P ti N ds K rest ((d, .one (.c (.ref e)))::T) L) (he:es[i.toNat]?=some e:=by assumption) (h0:0<=i:=by assumption) (hl2:e.length=k:=by rfl) (hg1:g0=true:=by first|rfl|exact jR (by first|assumption|exact jQ (by assumption))|exact jY (by first|assumption|exact jJ (by assumption))):aj P ti N ds K (o::rest) T L:=tH hd hN (hg1▸hg) ho hx hl hi hk he ⟨h0,hl2⟩ h
theorem pick_t {c a b:Operand} {e:Bool} {va vb:AV} {d:Nat} (hd:o.dst=some d) (hN:Nat.blt d N=true) {g0:Bool} (hg:fT ds T o.guard=some g0) (ho:o.op = .pick c a b) (hc:look T c=some (.one (.c (.bool e)))) (ha:look T a=some va) (hb:look T b=some vb) (h:aj P ti N ds K rest ((d,va)::T) L)
  (he:e=true:=by first|rfl|assumption|exact jQ (by assumption)) (hg1:g0=true:=by first|rfl|exact jR (by first|assumption|exact jQ (by assumption))|exact jY (by first|assumption|exact jJ (by assumption))):aj P ti N ds K (o::rest) T L:=aF hd hN (hg1▸hg) (by rw [ho];simp only [pop,hc,ha,hb];rw [if_pos he]) trivial h
theorem pick_f {c a b:Operand} {e:Bool} {va vb:AV} {d:Nat} (hd:o.dst=some d) (hN:Nat.blt d N=true) {g0:Bool} (hg:fT ds T o.guard=some g0) (ho:o.op = .pick c a b) (hc:look T c=some (.one (.c (.bool e)))) (ha:look T a=some va) (hb:look T b=some vb) (h:aj P ti N ds K rest ((d,vb)::T) L)
  (he:e=false:=by first|rfl|assumption|exact jJ (by assumption)) (hg1:g0=true:=by first|rfl|exact jR (by first|assumption|exact jQ (by assumption))|exact jY (by first|assumption|exact jJ (by assumption))):aj P ti N ds K (o::rest) T L:=aF hd hN (hg1▸hg) (by rw [ho];simp only [pop,hc,ha,hb];rw [if_neg (by rw [he];decide)]) trivial h
theorem k_ {d:Nat} {g0:Bool} (hd:o.dst=some d) (hN:Nat.blt d N=true) (hg:fT ds T o.guard=some g0) (h:aj P ti N ds K rest ((d, .undef)::T) L) (hg1:g0=false:=by first|rfl|exact LF (by first|assumption|exact jJ (by assumption))|exact LA (by first|assumption|exact jQ (by assumption))):aj P ti N ds K (o::rest) T L:=aD hd hN (hg1▸hg) h
theorem k0_ {g0:Bool} (hd:o.dst=none) (hg:fT ds T o.guard=some g0) (h:aj P ti N ds K rest T L) (hg1:g0=false:=by first|rfl|exact LF (by first|assumption|exact jJ (by assumption))|exact LA (by first|assumption|exact jQ (by assumption))):aj P ti N ds K (o::rest) T L:=sk0_ hd (hg1▸hg) h
theorem aw_condT {Q:AX->Tm->List Ob->Prop} {c:Operand} {x y:Code} {b:Bool} (hc:look T c=some (.one (.c (.bool b)))) (h:Aw P N n0 x Q T L) (hb:b=true:=by first|rfl|assumption|exact jQ (by assumption)):Aw P N n0 (.cond c x y) Q T L:=aA hc (fun _=>h) (fun e=>by rw [hb] at e;cases e)
theorem aw_condF {Q:AX->Tm->List Ob->Prop} {c:Operand} {x y:Code} {b:Bool} (hc:look T c=some (.one (.c (.bool b)))) (h:Aw P N n0 y Q T L) (hb:b=false:=by first|rfl|assumption|exact jJ (by assumption)):Aw P N n0 (.cond c x y) Q T L:=aA hc (fun e=>by rw [hb] at e;cases e) (fun _=>h)
end
theorem ah {p:Prop} (h:p:=by
 repeat' (first
  | refine p_ rfl rfl rfl rfl rfl ?_|refine st_nil ?_|refine x_ rfl rfl rfl rfl rfl rfl rfl rfl ?_|refine l_ rfl rfl rfl rfl ?_|refine s_ rfl rfl rfl ?_|refine t_ rfl rfl rfl rfl ?_|refine k_ rfl rfl rfl ?_|refine k0_ rfl rfl ?_|refine c_ rfl rfl rfl rfl ?_|refine pick_t rfl rfl rfl rfl rfl rfl rfl ?_|refine pick_f rfl rfl rfl rfl rfl rfl rfl ?_|refine aw_seq ?_|refine aw_region tab_ok _ rfl ?_|refine aw_drawn2 tabS_ok _ rfl mixed (by decide +kernel) ?_|refine aw_condT rfl ?_|refine aw_condF rfl ?_|refine aw_block ?_|refine aw_exit ?_|refine aw_ret ?_|refine aw_skip ?_|rw [Vo]|rw [mn_norm]|rw [mx_norm])
 refine aQ (bf rfl ?_ ?_)
 ·repeat' (first|exact trivial|rfl|exact Vm rfl|omega|apply And.intro)
 ·first|rfl|(simp only [Vp,Vn,Vr,Vh]<;>rfl)):p:=h
structure Bx (q:Prop):Prop where
 out:q
theorem gs_ {p q:Prop} (k:q) (h:Bx q->p:=by
 intro hq
 first|refine p_ rfl rfl rfl rfl rfl ?_|refine st_nil ?_|refine x_ rfl rfl rfl rfl rfl rfl rfl rfl ?_|refine l_ rfl rfl rfl rfl ?_|refine s_ rfl rfl rfl ?_|refine t_ rfl rfl rfl rfl ?_|refine k_ rfl rfl rfl ?_|refine k0_ rfl rfl ?_|refine c_ rfl rfl rfl rfl ?_|refine pick_t rfl rfl rfl rfl rfl rfl rfl ?_|refine pick_f rfl rfl rfl rfl rfl rfl rfl ?_|refine aw_seq ?_|refine aw_region tab_ok _ rfl ?_|refine aw_drawn2 tabS_ok _ rfl mixed (by decide +kernel) ?_|refine aw_condT rfl ?_|refine aw_condF rfl ?_|refine aw_block ?_|refine aw_exit ?_|refine aw_ret ?_|refine aw_skip ?_|rw [Vo]|rw [mn_norm]|rw [mx_norm]
 exact hq.out):p:=h ⟨k⟩
theorem gs0_ {p q:Prop} (k:q) (h:Bx q->p:=by
 intro hq
 first|refine p_ rfl rfl rfl rfl rfl ?_|refine st_nil ?_|refine x_ rfl rfl rfl rfl rfl rfl rfl rfl ?_|refine l_ rfl rfl rfl rfl ?_|refine s_ rfl rfl rfl ?_|refine t_ rfl rfl rfl rfl ?_|refine k_ rfl rfl rfl ?_|refine k0_ rfl rfl ?_|refine c_ rfl rfl rfl rfl ?_|refine pick_t rfl rfl rfl rfl rfl rfl rfl ?_|refine pick_f rfl rfl rfl rfl rfl rfl rfl ?_|refine aw_seq ?_|refine aw_condT rfl ?_|refine aw_condF rfl ?_|refine aw_block ?_|refine aw_exit ?_|refine aw_ret ?_|refine aw_skip ?_|rw [Vo]|rw [mn_norm]|rw [mx_norm]
 exact hq.out):p:=h ⟨k⟩
theorem bv {p q:Prop} (k:q) (h:Bx q->p:=by
 intro hq
 repeat' (first
  | refine gs_ ?_)
 exact hq.out):p:=h ⟨k⟩
theorem aa {β:Type} {c:Bool} {x y:Option β} {r:β} (H:(bif c then x else y)=some r):(c=true/\x=some r)\/(c=false/\y=some r):=by
 cases c with
 | true=>exact .inl ⟨rfl,H⟩
 | false=>exact .inr ⟨rfl,H⟩
theorem dO {p:Prop} [Decidable p] {β:Type} {x:Option β} {r:β} (H:(bif decide p then x else none)=some r):p/\x=some r:=by
 obtain ⟨h,k⟩:=Es H
 exact ⟨VF h,k⟩
theorem aX {α β:Type} {l:List α} {f:α->List AC} {i:Int} {k:α->Option β} {r:β} (H:(aT l i).bind k=some r) : ∃ x,0<=i/\l[i.toNat]?=some x/\(l.map f)[i.toNat]?=some (f x)/\k x=some r:=by
 obtain ⟨x,h,K⟩:=bd_ H
 obtain ⟨h0,h1⟩:=JO h
 exact ⟨x,h0,h1,Um h1,K⟩
theorem U4 {a b:Nat} (h:Nat.blt a b=true:=by rfl):a<b:=Vm h
theorem fE {p:Prop} (h:p:=by repeat' (first|refine ⟨?_,?_⟩|exact trivial|rfl)):p:=h
theorem DJ {p:Prop} (h:p:=by repeat' (first|refine ⟨?_,?_⟩|exact trivial|rfl|(simp only [Vp,Vn,Vr,Vh]<;>rfl))):p:=h
theorem dC {p:Prop} (h:p:=by repeat' (first|refine ⟨?_,?_⟩|exact trivial|exact U4|omega)):p:=h
theorem kY {p:Prop} (h:p:=by repeat' (first|refine ⟨?_,?_⟩|exact trivial|exact EE (by rfl)|exact clo_below (Vm rfl))):p:=h
theorem D5 {p:Prop} (h:p:=by simp only [Vk,Vy,List.length_nil,VQ,Vp,Vn,Vr]<;>rfl):p:=h
theorem po_ {P : Program} {ti : TI} {N : Nat} {f : FuncId} {fn : Func} {c : Code} {args : List PV} {r : CV} (hf : P.funcs[f]? = some fn) (hN : fn.ntmps = N) {T : Tm} (h : Aw P N 0 c (fun x T L => (x = .normal \/ x = .ret) /\ Res ti fn.results.toList T L r) T []) (hti : TIok P ti := by exact tab_ok) (hb : fn.body = some c := by rfl) (hname : (fn.name == "runtime.NumGoroutine") = false := by rfl) (hlen : args.length <= N := by simp) (hT : argT 0 args = T := by simp only [argT, PV.av, Vn, Vr] <;> rfl) : Pure P f args r := pa_ hti hf hb hname hN hlen (hT ▸ h)
theorem gn_ {α:Type} {l:List α} {i:Nat} {x:α} (h:l[i]?=some x):aT l (i:Int)=some x:=by
 unfold aT;rw [if_pos (by omega)];exact h
theorem bM {α:Type} {l:List α} {i:Nat} {x:α} (h:l[i]?=some x):decide ((i:Int)<(l.length:Nat))=true:=by
 have:=(Vb.1 h).1;simp;exact this
theorem lF_ (n:Nat):decide ((n:Int)<(n:Nat))=false:=by simp
theorem wrapN {i:Nat} (h:i<=4611686018427387904):IntKind.i64.wrap ((i:Int)+1)=((i+1:Nat):Int):=dm (by omega) (by omega)
set_option maxRecDepth 100000
set_option maxHeartbeats 8000000
def fC (x y:Int):Int:=if x<y then -1 else if y<x then 1 else 0
def ny (v w:Val):Int:=if fC v.kind w.kind≠0 then fC v.kind w.kind else if fC v.int w.int≠0 then fC v.int w.int else mK v.text w.text
def bX:List Val->List Val->Int
 | [],[]=>0
 | [],_::_ => -1
 | _::_,[]=>1
 | a::xs,b::ys=>if ny a b≠0 then ny a b else bX xs ys
def sP (l:List Val):AC := .lst (l.map cV)
set_option maxHeartbeats 8000000
set_option maxHeartbeats 8000000
def MC (a_p:bD):Option (Bool):=bif (decide ((0:Int)<=a_p.lo)) then bif (decide (a_p.lo<a_p.hi)) then some (decide (a_p.hi<=(1099511627776:Int))) else
 some false else
 some false
theorem Cm {a_p:bD} {r:Bool} (H:MC a_p=some r):Pure Tryz.prog 38 [.agg (gm a_p)] (.val (.one (.bool r))):=by
 unfold MC at H
 refine po_ Tryz.func38 Tryz.ntmps38 ?_
 rcases aa H with ⟨q_1,H⟩|⟨q_1,H⟩
 ·rcases aa H with ⟨q_2,H⟩|⟨q_2,H⟩
  ·cases H
   exact ah
  cases H
  exact ah
 cases H
 exact ah
theorem pK {α:Type} (n v k:Nat) (enc:α->List AC) (X:List α):(Ob.row v ((X.map enc).map (List.map SV.c)) k).below n:=by
 intro e he x hx
 rw [List.map_map] at he
 obtain ⟨y,_,rfl⟩:=VK.1 he
 obtain ⟨z,_,rfl⟩:=VK.1 hx
 trivial
set_option maxHeartbeats 8000000
def Jz (a_p:bD) (a_q:bD):Option (Int × Bool):=(MC a_p).bind fun r_1=>bif (!r_1) then some ((0:Int),false) else
 (MC a_q).bind fun r_3=>bif (!r_3) then some ((0:Int),false) else
 bif (decide (a_p.hi<a_q.lo)) then some ((0:Int),true) else
 bif (decide (a_p.hi=a_q.lo)) then some ((1:Int),true) else
 bif (decide (a_q.hi<a_p.lo)) then some ((12:Int),true) else
 bif (decide (a_q.hi=a_p.lo)) then some ((11:Int),true) else
 bif (bz [.c (.int .i64 a_p.lo), .c (.int .i64 a_p.hi)] [.c (.int .i64 a_q.lo), .c (.int .i64 a_q.hi)]) then some ((6:Int),true) else
 bif (decide (a_p.lo=a_q.lo)) then bif (decide (a_p.hi<a_q.hi)) then some ((3:Int),true) else
 some ((9:Int),true) else
 bif (decide (a_p.hi=a_q.hi)) then bif (decide (a_q.lo<a_p.lo)) then some ((5:Int),true) else
 some ((7:Int),true) else
 bif (decide (a_p.lo<a_q.lo)) then bif (decide (a_q.hi<a_p.hi)) then some ((8:Int),true) else
 bif (decide (a_q.lo<a_p.lo)) then bif (decide (a_p.hi<a_q.hi)) then some ((4:Int),true) else
 some ((2:Int),true) else
 some ((2:Int),true) else
 bif (decide (a_q.lo<a_p.lo)) then bif (decide (a_p.hi<a_q.hi)) then some ((4:Int),true) else
 some ((10:Int),true) else
 some ((10:Int),true)
theorem Ga {a_p:bD} {a_q:bD} {r:Int × Bool} (H:Jz a_p a_q=some r):Pure Tryz.prog 84 [.agg (gm a_p), .agg (gm a_q)] (.tup [.one (.int .i64 r.1), .one (.bool r.2)]):=by
 unfold Jz at H
 refine po_ Tryz.func84 Tryz.ntmps84 ?_
 obtain ⟨r_1,c1,H⟩:=bd_ H
 replace c1:=Cm c1
 rcases aa H with ⟨q_2,H⟩|⟨q_2,H⟩
 ·cases H
  exact ah
 obtain ⟨r_3,c2,H⟩:=bd_ H
 replace c2:=Cm c2
 rcases aa H with ⟨q_4,H⟩|⟨q_4,H⟩
 ·cases H
  exact ah
 refine bv ?_
 rcases aa H with ⟨q_5,H⟩|⟨q_5,H⟩
 ·cases H
  exact ah
 rcases aa H with ⟨q_6,H⟩|⟨q_6,H⟩
 ·cases H
  exact ah
 rcases aa H with ⟨q_7,H⟩|⟨q_7,H⟩
 ·cases H
  exact ah
 refine bv ?_
 rcases aa H with ⟨q_8,H⟩|⟨q_8,H⟩
 ·cases H
  exact ah
 rcases aa H with ⟨q_9,H⟩|⟨q_9,H⟩
 ·cases H
  exact ah
 rcases aa H with ⟨q_10,H⟩|⟨q_10,H⟩
 ·refine bv ?_
  rcases aa H with ⟨q_11,H⟩|⟨q_11,H⟩
  ·cases H
   exact ah
  cases H
  exact ah
 refine bv ?_
 rcases aa H with ⟨q_12,H⟩|⟨q_12,H⟩
 ·rcases aa H with ⟨q_13,H⟩|⟨q_13,H⟩
  ·cases H
   exact ah
  cases H
  exact ah
 rcases aa H with ⟨q_14,H⟩|⟨q_14,H⟩
 ·rcases aa H with ⟨q_15,H⟩|⟨q_15,H⟩
  ·cases H
   exact ah
  refine bv ?_
  rcases aa H with ⟨q_16,H⟩|⟨q_16,H⟩
  ·rcases aa H with ⟨q_17,H⟩|⟨q_17,H⟩
   ·cases H
    exact ah
   cases H
   exact ah
  cases H
  exact ah
 rcases aa H with ⟨q_18,H⟩|⟨q_18,H⟩
 ·refine bv ?_
  rcases aa H with ⟨q_19,H⟩|⟨q_19,H⟩
  ·cases H
   exact ah
  cases H
  exact ah
 cases H
 exact ah
set_option maxHeartbeats 8000000
set_option maxHeartbeats 8000000
set_option maxHeartbeats 8000000
def dM (a_p:bD):Option (Bool):=bif (decide ((0:Int)<=a_p.lo)) then bif (decide (a_p.lo<a_p.hi)) then some (decide (a_p.hi<=(1099511627776:Int))) else
 some false else
 some false
theorem gH {a_p:bD} {r:Bool} (H:dM a_p=some r):Pure Tryz.prog 33 [.agg (gm a_p)] (.val (.one (.bool r))):=by
 unfold dM at H
 refine po_ Tryz.func33 Tryz.ntmps33 ?_
 rcases aa H with ⟨q_1,H⟩|⟨q_1,H⟩
 ·rcases aa H with ⟨q_2,H⟩|⟨q_2,H⟩
  ·cases H
   exact ah
  cases H
  exact ah
 cases H
 exact ah
set_option maxHeartbeats 8000000
set_option maxHeartbeats 8000000
def eU (a_rel:Int) (a_p:bD) (a_q:bD):Option (Bool):=bif (decide (a_rel=(0:Int))) then some (decide (a_p.hi<a_q.lo)) else
 bif (decide (a_rel=(1:Int))) then some (decide (a_p.hi=a_q.lo)) else
 bif (decide (a_rel=(2:Int))) then bif (decide (a_p.lo<a_q.lo)) then bif (decide (a_q.lo<a_p.hi)) then some (decide (a_p.hi<a_q.hi)) else
 some false else
 some false else
 bif (decide (a_rel=(3:Int))) then bif (decide (a_p.lo=a_q.lo)) then some (decide (a_p.hi<a_q.hi)) else
 some false else
 bif (decide (a_rel=(4:Int))) then bif (decide (a_q.lo<a_p.lo)) then some (decide (a_p.hi<a_q.hi)) else
 some false else
 bif (decide (a_rel=(5:Int))) then bif (decide (a_p.hi=a_q.hi)) then some (decide (a_q.lo<a_p.lo)) else
 some false else
 bif (decide (a_rel=(6:Int))) then some (bz [.c (.int .i64 a_p.lo), .c (.int .i64 a_p.hi)] [.c (.int .i64 a_q.lo), .c (.int .i64 a_q.hi)]) else
 bif (decide (a_rel=(7:Int))) then bif (decide (a_p.hi=a_q.hi)) then some (decide (a_p.lo<a_q.lo)) else
 some false else
 bif (decide (a_rel=(8:Int))) then bif (decide (a_p.lo<a_q.lo)) then some (decide (a_q.hi<a_p.hi)) else
 some false else
 bif (decide (a_rel=(9:Int))) then bif (decide (a_p.lo=a_q.lo)) then some (decide (a_q.hi<a_p.hi)) else
 some false else
 bif (decide (a_rel=(10:Int))) then bif (decide (a_q.lo<a_p.lo)) then bif (decide (a_p.lo<a_q.hi)) then some (decide (a_q.hi<a_p.hi)) else
 some false else
 some false else
 bif (decide (a_rel=(11:Int))) then some (decide (a_q.hi=a_p.lo)) else
 bif (decide (a_rel=(12:Int))) then some (decide (a_q.hi<a_p.lo)) else
 some false
theorem MW {a_rel:Int} {a_p:bD} {a_q:bD} {r:Bool} (H:eU a_rel a_p a_q=some r):Pure Tryz.prog 85 [.one (.int .i64 a_rel), .agg (gm a_p), .agg (gm a_q)] (.val (.one (.bool r))):=by
 unfold eU at H
 refine po_ Tryz.func85 Tryz.ntmps85 ?_
 rcases aa H with ⟨q_1,H⟩|⟨q_1,H⟩
 ·cases H
  exact ah
 rcases aa H with ⟨q_2,H⟩|⟨q_2,H⟩
 ·cases H
  exact ah
 refine bv ?_
 rcases aa H with ⟨q_3,H⟩|⟨q_3,H⟩
 ·rcases aa H with ⟨q_4,H⟩|⟨q_4,H⟩
  ·rcases aa H with ⟨q_5,H⟩|⟨q_5,H⟩
   ·cases H
    exact ah
   cases H
   exact ah
  cases H
  exact ah
 rcases aa H with ⟨q_6,H⟩|⟨q_6,H⟩
 ·rcases aa H with ⟨q_7,H⟩|⟨q_7,H⟩
  ·cases H
   exact ah
  cases H
  exact ah
 rcases aa H with ⟨q_8,H⟩|⟨q_8,H⟩
 ·refine bv ?_
  rcases aa H with ⟨q_9,H⟩|⟨q_9,H⟩
  ·cases H
   exact ah
  cases H
  exact ah
 refine bv ?_
 rcases aa H with ⟨q_10,H⟩|⟨q_10,H⟩
 ·rcases aa H with ⟨q_11,H⟩|⟨q_11,H⟩
  ·cases H
   exact ah
  cases H
  exact ah
 rcases aa H with ⟨q_12,H⟩|⟨q_12,H⟩
 ·cases H
  exact ah
 rcases aa H with ⟨q_13,H⟩|⟨q_13,H⟩
 ·refine bv ?_
  rcases aa H with ⟨q_14,H⟩|⟨q_14,H⟩
  ·cases H
   exact ah
  cases H
  exact ah
 refine bv ?_
 rcases aa H with ⟨q_15,H⟩|⟨q_15,H⟩
 ·rcases aa H with ⟨q_16,H⟩|⟨q_16,H⟩
  ·cases H
   exact ah
  cases H
  exact ah
 rcases aa H with ⟨q_17,H⟩|⟨q_17,H⟩
 ·rcases aa H with ⟨q_18,H⟩|⟨q_18,H⟩
  ·cases H
   exact ah
  cases H
  exact ah
 rcases aa H with ⟨q_19,H⟩|⟨q_19,H⟩
 ·refine bv ?_
  rcases aa H with ⟨q_20,H⟩|⟨q_20,H⟩
  ·rcases aa H with ⟨q_21,H⟩|⟨q_21,H⟩
   ·cases H
    exact ah
   cases H
   exact ah
  cases H
  exact ah
 refine bv ?_
 rcases aa H with ⟨q_22,H⟩|⟨q_22,H⟩
 ·cases H
  exact ah
 rcases aa H with ⟨q_23,H⟩|⟨q_23,H⟩
 ·cases H
  exact ah
 cases H
 exact ah
def lY (a_rel:Int) (a_p:bD) (a_q:bD):Option (Bool):=(dM a_p).bind fun r_1=>bif r_1 then (dM a_q).bind fun r_3=>bif r_3 then (eU a_rel a_p a_q).bind fun r_5=>some r_5 else
 some false else
 some false
theorem wY {a_rel:Int} {a_p:bD} {a_q:bD} {r:Bool} (H:lY a_rel a_p a_q=some r):Pure Tryz.prog 46 [.one (.int .i64 a_rel), .agg (gm a_p), .agg (gm a_q)] (.val (.one (.bool r))):=by
 unfold lY at H
 refine po_ Tryz.func46 Tryz.ntmps46 ?_
 obtain ⟨r_1,c1,H⟩:=bd_ H
 replace c1:=gH c1
 rcases aa H with ⟨q_2,H⟩|⟨q_2,H⟩
 ·obtain ⟨r_3,c2,H⟩:=bd_ H
  replace c2:=gH c2
  rcases aa H with ⟨q_4,H⟩|⟨q_4,H⟩
  ·obtain ⟨r_5,c3,H⟩:=bd_ H
   replace c3:=MW c3
   cases H
   exact ah
  cases H
  exact ah
 cases H
 exact ah
end Go.Proofs.YtlcceppoloaecaaGreatDoor
