/- Parts of the proof, joined. No condition. -/
import Derived.Test.YtfpbmfalamappaaGreatDoorKAA
import Derived.Test.YtfpbmfalamappaaGreatDoorKAH
import Derived.Test.YtfpbmfalamappaaGreatDoorKAI
import Derived.Test.YtfpbmfalamappaaGreatDoorKAF
import Derived.Shelf.LaysM
import Derived.Shelf.Strconv.Itoa3
import Derived.Ground.NamesProg
import Derived.Test.YtfpbmfalamappaaGreatDoorProg
import Derived.Lib.Walk
import Derived.Lib.ItoaMem
import Derived.WalkKit
import Derived.BigCall
import Derived.BigGuard
import Derived.Lib.AppendIntMem
import Derived.Test.YtfpbmfalamappaaGreatDoorKAG
set_option linter.unusedSimpArgs false
set_option linter.unusedVariables false
namespace Go.Proofs.YtfpbmfalamappaaGreatDoor
open Go.RowKit Go.MapKept
structure Val where
 kind:Int
 int:Int
 text:ByteArray
def cV (x:Val):List AC:=[.int .i64 x.kind, .int .i64 x.int, .str x.text]
inductive Ex where
 | mk (op:Int) (int:Int) (v:Val) (nm:ByteArray) (args:(List Ex))
mutual
def tE:Ex->List AC
 | .mk op int v nm args=>[.int .i64 op, .int .i64 int, .int .i64 v.kind, .int .i64 v.int, .str v.text, .str nm, .lst (Zy args)]
def Zy:List Ex->List (List AC)
 | []=>[]
 | e::l=>tE e::Zy l
end
theorem KM : ∀ (l:List Ex),Zy l=l.map tE
 | []=>by simp [Zy]
 | e::l=>by simp [Zy,KM l]
def Ex.op:Ex->Int | .mk a _ _ _ _=>a
def Ex.int:Ex->Int | .mk _ a _ _ _=>a
def Ex.v:Ex->Val | .mk _ _ a _ _=>a
def Ex.nm:Ex->ByteArray | .mk _ _ _ a _=>a
def Ex.args:Ex->(List Ex) | .mk _ _ _ _ a=>a
theorem tE_eq (e:Ex):tE e=[.int .i64 e.op, .int .i64 e.int, .int .i64 e.v.kind, .int .i64 e.v.int, .str e.v.text, .str e.nm, .lst (e.args.map tE)]:=by
 obtain ⟨_,_,_,_,_⟩:=e
 rw [tE,KM];rfl
theorem EQ (e:Ex):(tE e).length=7:=by rw [tE_eq];rfl
structure Ag where
 op:Int
 arg:Int
def JH (x:Ag):List AC:=[.int .i64 x.op, .int .i64 x.arg]
inductive Pl where
 | mk (op:Int) (int:Int) (kinds:(List Int)) (rows:(List (List Val))) (pred:Ex) (exprs:(List Ex)) (keys:(List Int)) (aggs:(List Ag)) (inputs:(List Pl))
mutual
def tP:Pl->List AC
 | .mk op int kinds rows pred exprs keys aggs inputs=>[.int .i64 op, .int .i64 int, .lst (kinds.map (fun x=>[AC.int .i64 x])), .lst (rows.map (fun x=>[AC.lst (x.map cV)]))]++tE pred++[.lst (exprs.map tE), .lst (keys.map (fun x=>[AC.int .i64 x])), .lst (aggs.map JH), .lst (Zb inputs)]
def Zb:List Pl->List (List AC)
 | []=>[]
 | e::l=>tP e::Zb l
end
theorem PZ : ∀ (l:List Pl),Zb l=l.map tP
 | []=>by simp [Zb]
 | e::l=>by simp [Zb,PZ l]
def Pl.op:Pl->Int | .mk a _ _ _ _ _ _ _ _=>a
def Pl.int:Pl->Int | .mk _ a _ _ _ _ _ _ _=>a
def Pl.kinds:Pl->(List Int) | .mk _ _ a _ _ _ _ _ _=>a
def Pl.rows:Pl->(List (List Val)) | .mk _ _ _ a _ _ _ _ _=>a
def Pl.pred:Pl->Ex | .mk _ _ _ _ a _ _ _ _=>a
def Pl.exprs:Pl->(List Ex) | .mk _ _ _ _ _ a _ _ _=>a
def Pl.keys:Pl->(List Int) | .mk _ _ _ _ _ _ a _ _=>a
def Pl.aggs:Pl->(List Ag) | .mk _ _ _ _ _ _ _ a _=>a
def Pl.inputs:Pl->(List Pl) | .mk _ _ _ _ _ _ _ _ a=>a
theorem tP_eq (e:Pl):tP e=[.int .i64 e.op, .int .i64 e.int, .lst (e.kinds.map (fun x=>[AC.int .i64 x])), .lst (e.rows.map (fun x=>[AC.lst (x.map cV)])), .int .i64 e.pred.op, .int .i64 e.pred.int, .int .i64 e.pred.v.kind, .int .i64 e.pred.v.int, .str e.pred.v.text, .str e.pred.nm, .lst (e.pred.args.map tE), .lst (e.exprs.map tE), .lst (e.keys.map (fun x=>[AC.int .i64 x])), .lst (e.aggs.map JH), .lst (e.inputs.map tP)]:=by
 obtain ⟨_,_,_,_,⟨_,_,_,_,_⟩,_,_,_,_⟩:=e
 rw [tP,PZ,tE,KM];rfl
theorem En (e:Pl):(tP e).length=15:=by rw [tP_eq];rfl
structure Bag where
 kinds:(List Int)
 rows:(List (List Val))
def cBag (x:Bag):List AC:=[.lst (x.kinds.map (fun x=>[AC.int .i64 x])), .lst (x.rows.map (fun x=>[AC.lst (x.map cV)]))]
structure iQ where
 lo:Int
 hi:Int
def yK (x:iQ):List AC:=[.int .i64 x.lo, .int .i64 x.hi]
structure Ic where
 column:Int
 desc:Bool
def E8 (x:Ic):List AC:=[.int .i64 x.column, .bool x.desc]
open Go.RowKit Go.MapKept
inductive Step (σ ρ:Type) where
 | next (s:σ)
 | exit (s:σ)
 | ret (r:ρ)
def ax {σ ρ:Type} (body:σ->Option (Step σ ρ)):Nat->σ->Option (Sum σ ρ)
 | 0,_=>none
 | n+1,s=>match body s with
  | none=>none
  | some (.next s')=>ax body n s'
  | some (.exit s')=>some (.inl s')
  | some (.ret r)=>some (.inr r)
def fuel:Nat:=4611686018427387904
def aL {α:Type} (l:List α) (i:Int):Option α:=if 0<=i then l[i.toNat]? else none
def jE {α:Type} (l:List α) (a b:Int):Option (List α):=if 0<=a/\a<=b/\b<=(l.length:Nat) then some ((l.take b.toNat).drop a.toNat) else none
theorem bd_ {α β:Type} {x:Option α} {f:α->Option β} {r:β} (h:x.bind f=some r) : ∃ a,x=some a/\f a=some r:=by
 cases x with
 | none=>cases h
 | some a=>exact ⟨a,rfl,h⟩
theorem Cq {α:Type} {l:List α} {i:Int} {x:α} (h:aL l i=some x):0<=i/\l[i.toNat]?=some x:=by
 unfold aL at h
 by_cases h0:0<=i
 ·rw [if_pos h0] at h;exact ⟨h0,h⟩
 ·rw [if_neg h0] at h;cases h
theorem eO {α:Type} {l r:List α} {a b:Int} (h:jE l a b=some r):(0<=a/\a<=b/\b<=(l.length:Nat))/\r=(l.take b.toNat).drop a.toNat:=by
 unfold jE at h
 by_cases h0:0<=a/\a<=b/\b<=(l.length:Nat)
 ·rw [if_pos h0] at h;exact ⟨h0,(abH h).symm⟩
 ·rw [if_neg h0] at h;cases h
theorem nP {c:Bool} {β:Type} {x:Option β} {r:β} (h:(bif c then x else none)=some r):c=true/\x=some r:=by
 cases c with
 | true=>exact ⟨rfl,h⟩
 | false=>cases h
theorem aaO {α:Type} {l:List α} {f:α->List AC} {i:Int} {x:α} (h:l[i.toNat]?=some x):(l.map f)[i.toNat]?=some (f x):=by rw [abx,h];rfl
theorem yo {α:Type} {f:α->List AC} {k:Nat} (hf : ∀ x,(f x).length=k) (l:List α) : ∀ e∈l.map f,e.length=k:=by
 intro e he;simp only [abK] at he;obtain ⟨x,_,rfl⟩:=he;exact hf x
section
variable {P:Program} {ti:TI} {N n0:Nat} {Q:AX->Tm->List Ob->Prop} {T:Tm} {L:List Ob}
@[reducible] def After {σ ρ γ:Type} (K:Sum σ ρ->Option γ) (r:γ):Step σ ρ->Prop
 | .next _=>True
 | .exit s=>K (.inl s)=some r
 | .ret q=>K (.inr q)=some r
theorem alM_ {σ ρ γ:Type} {c:Code} {body:σ->Option (Step σ ρ)} {K:Sum σ ρ->Option γ} {r:γ} {s0:σ} (TT:σ->Tm) (LL:σ->List Ob) (h:(ax body fuel s0).bind K=some r) (hn1 : ∀ s,n0<=(LL s).length) (hf:Fits T L (TT s0) (LL s0))
  (round : ∀ s st,body s=some st->After K r st->Aw P N n0 c (AX.then (fun T' L' => ∃ s',st = .next s'/\Fits T' L' (TT s') (LL s')) Q) (TT s) (LL s)):Aw P N n0 (.loop c) Q T L:=by
 refine df (fun s:Nat × σ=>TT s.2) (fun s=>LL s.2) (fun s=>(ax body s.1 s.2).bind K=some r) (fun s=>s.1) (fuel,s0) h (fun s _=>hn1 s.2) hf ?_
 rintro ⟨n,s⟩ hok
 dsimp only at hok ⊢
 cases n with
 | zero=>cases hok
 | succ n =>
  rw [ax] at hok
  cases hb:body s with
  | none=>rw [hb] at hok;cases hok
  | some st =>
   rw [hb] at hok
   refine Aw.mono (round s st hb ?_) ?_
   ·cases st with
    | next s'=>trivial
    | exit s'=>exact hok
    | ret q=>exact hok
   ·intro x T' L' hq
    cases x with
    | normal =>
     obtain ⟨s',rfl,hfit⟩:=hq
     exact ⟨(n,s'),hok,Nat.lt_succ_self n,hfit⟩
    | exit id=>exact hq
    | ret=>exact hq
end
def WV (a b:Int):Int:=if b<a then b else a
def SE (a b:Int):Int:=if b > a then b else a
theorem mn_norm (a b:Int):(if false=true then (if b > a then b else a) else (if b<a then b else a))=WV a b:=rfl
theorem mx_norm (a b:Int):(if true=true then (if b > a then b else a) else (if b<a then b else a))=SE a b:=rfl
theorem DD {α:Type} {f:α->List AC} {l r:List α} {a b:Int} (h:r=(l.take b.toNat).drop a.toNat):((l.map f).take b.toNat).drop a.toNat=r.map f:=by rw [h, <- List.map_take, <- List.map_drop]
def Un (n:Nat):SV->Bool
 | .c _=>true
 | .emp=>true
 | .own _ t=>Nat.blt t n
 | .ptr id _=>Nat.blt id n
 | _=>false
def OL (n:Nat):List SV->Bool
 | []=>true
 | x::l=>and (Un n x) (OL n l)
theorem Sq {n:Nat} {x:SV} (h:Un n x=true):x.below n:=by
 cases x with
 | c _=>trivial
 | emp=>trivial
 | own _ t=>exact abj h
 | ptr id _=>exact abj h
 | sl=>cases h
 | ep=>cases h
 | mp=>cases h
 | clo=>cases h
theorem rA {n:Nat} : ∀ {cs:List SV}, OL n cs=true->(Ob.box cs).below n
 | [],_=>fun x hx=>by cases hx
 | c::cs,h=>fun x hx=>by
  rw [OL,abr] at h
  rcases abq.1 hx with rfl|hx
  ·exact Sq h.1
  ·exact rA h.2 x hx
section
variable {P:Program} {ti:TI} {N n0:Nat} {ds:List (Option Tmp)} {K:Tm->List Ob->Prop} {rest:List Oper} {o:Oper} {T:Tm} {L:List Ob}
theorem lq {b:Bool} (h:b=true):(b==true)=true:=by rw [h];rfl
theorem kP {b:Bool} (h:b=false):(b==false)=true:=by rw [h];rfl
theorem UK {b:Bool} (h:b=false):(b==true)=false:=by rw [h];rfl
theorem TR {b:Bool} (h:b=true):(b==false)=false:=by rw [h];rfl
theorem lL {e:Bool} (h:e=false):(!e)=true:=by rw [h];rfl
theorem lV {e:Bool} (h:e=true):(!e)=false:=by rw [h];rfl
def Xi:Op->Bool
 | .pick _ _ _=>true
 | _=>false
theorem p_ {v:AV} {φ:Prop} {d:Nat} (_:Xi o.op=false) (hd:o.dst=some d) (hN:Nat.blt d N=true) {g0:Bool} (hg:jk ds T o.guard=some g0) (hp:pop ti (look T) L o.op=some (v,φ)) (h:aU P ti N ds K rest ((d,v)::T) L)
  (hφ:φ:=by repeat' (first|exact trivial|rfl|exact abj rfl|omega|assumption|exact yo (by intro _;rfl) _|exact yo EQ _|exact yo En _|(intro e he;simp at he;subst he;rfl)|(simp only [abl];omega)|apply And.intro)) (hg1:g0=true:=by first|rfl|exact lq (by first|assumption|exact lL (by assumption))|exact kP (by first|assumption|exact lV (by assumption))):aU P ti N ds K (o::rest) T L:=ay hd hN (hg1▸hg) hp hφ h
theorem l_ {v:AV} {L':List Ob} {φ:Prop} {d:Nat} (hd:o.dst=some d) (hN:Nat.blt d N=true) {g0:Bool} (hg:jk ds T o.guard=some g0) (hp:Ec ti (look T) L o.op=some (v,L',φ)) (h:aU P ti N ds K rest ((d,v)::T) L')
  (hφ:φ:=by repeat' (first|exact trivial|rfl|exact abj rfl|omega|exact yo (by intro _;rfl) _|exact yo EQ _|exact yo En _|(intro e he;simp at he;subst he;rfl)|exact abl _|(simp only [abl,abg,abw,abF,abR];omega)|apply And.intro)) (hg1:g0=true:=by first|rfl|exact lq (by first|assumption|exact lL (by assumption))|exact kP (by first|assumption|exact lV (by assumption))):aU P ti N ds K (o::rest) T L:=az hd hN (hg1▸hg) hp hφ h
theorem s_ {v:AV} {L':List Ob} {φ:Prop} (hd:o.dst=none) {g0:Bool} (hg:jk ds T o.guard=some g0) (hp:Ec ti (look T) L o.op=some (v,L',φ)) (h:aU P ti N ds K rest T L') (hφ:φ:=by repeat' (first|exact trivial|rfl|exact abj rfl|omega|apply And.intro)) (hg1:g0=true:=by first|rfl|exact lq (by first|assumption|exact lL (by assumption))|exact kP (by first|assumption|exact lV (by assumption))):aU P ti N ds K (o::rest) T L:=sS_ hd (hg1▸hg) hp hφ h
theorem t_ {v:AV} {φ:Prop} {d:Nat} (hd:o.dst=some d) (hN:Nat.blt d N=true) {g0:Bool} (hg:jk ds T o.guard=some g0) (hp:yj ti (look T) o.op=some (v,φ)) (h:aU P ti N ds K rest ((d,v)::T) L)
  (hφ:φ:=by repeat' (first|exact trivial|rfl|exact abj rfl|omega|(intro e he;simp at he;subst he;rfl)|(intro e he;simp at he;rcases he with rfl|rfl<;>rfl)|(intro e he;simp at he;rcases he with rfl|rfl|rfl<;>rfl)|(intro e he;simp at he;rcases he with rfl|rfl|rfl|rfl<;>rfl)|apply And.intro)) (hg1:g0=true:=by first|rfl|exact lq (by first|assumption|exact lL (by assumption))|exact kP (by first|assumption|exact lV (by assumption))):aU P ti N ds K (o::rest) T L:=aC hd hN (hg1▸hg) hp hφ h
theorem c_ {g:FuncId} {ps:List PV} {r:CV} {d:Nat} {v:AV} (hd:o.dst=some d) (hN:Nat.blt d N=true) {g0:Bool} (hg:jk ds T o.guard=some g0) (hp:sN (look T) o.op=some (g,ps)) (h:aU P ti N ds K rest ((d,v)::T) L) (hc:Pure P g ps r:=by assumption) (hv:r.av=v:=by rfl) (hg1:g0=true:=by first|rfl|exact lq (by first|assumption|exact lL (by assumption))|exact kP (by first|assumption|exact lV (by assumption))):aU P ti N ds K (o::rest) T L:=aG hd hN (hg1▸hg) hp hc hv h
theorem x_ {t:TypeId} {x ix:Operand} {vx:AV} {es:List (List AC)} {k0:IntKind} {i:Int} {k d:Nat} {e:List AC} (hd:o.dst=some d) (hN:Nat.blt d N=true) {g0:Bool} (hg:jk ds T o.guard=some g0) (ho:o.op = .indexAddr t x ix) (hx:look T x=some vx) (hl:eF vx=some es) (hi:look T ix=some (.one (.c (.int k0 i))))
  (hk:(ti.elem t).bind ti.size=some k) (h:aU P ti N ds K rest ((d, .one (.c (.ref e)))::T) L) (he:es[i.toNat]?=some e:=by assumption) (h0:0<=i:=by assumption) (hl2:e.length=k:=by rfl) (hg1:g0=true:=by first|rfl|exact lq (by first|assumption|exact lL (by assumption))|exact kP (by first|assumption|exact lV (by assumption))):aU P ti N ds K (o::rest) T L:=aW hd hN (hg1▸hg) ho hx hl hi hk he ⟨h0,hl2⟩ h
theorem pick_t {c a b:Operand} {e:Bool} {va vb:AV} {d:Nat} (hd:o.dst=some d) (hN:Nat.blt d N=true) {g0:Bool} (hg:jk ds T o.guard=some g0) (ho:o.op = .pick c a b) (hc:look T c=some (.one (.c (.bool e)))) (ha:look T a=some va) (hb:look T b=some vb) (h:aU P ti N ds K rest ((d,va)::T) L)
  (he:e=true:=by first|rfl|assumption|exact lL (by assumption)) (hg1:g0=true:=by first|rfl|exact lq (by first|assumption|exact lL (by assumption))|exact kP (by first|assumption|exact lV (by assumption))):aU P ti N ds K (o::rest) T L:=ay hd hN (hg1▸hg) (by rw [ho];simp only [pop,hc,ha,hb];rw [if_pos he]) trivial h
theorem pick_f {c a b:Operand} {e:Bool} {va vb:AV} {d:Nat} (hd:o.dst=some d) (hN:Nat.blt d N=true) {g0:Bool} (hg:jk ds T o.guard=some g0) (ho:o.op = .pick c a b) (hc:look T c=some (.one (.c (.bool e)))) (ha:look T a=some va) (hb:look T b=some vb) (h:aU P ti N ds K rest ((d,vb)::T) L)
  (he:e=false:=by first|rfl|assumption|exact lV (by assumption)) (hg1:g0=true:=by first|rfl|exact lq (by first|assumption|exact lL (by assumption))|exact kP (by first|assumption|exact lV (by assumption))):aU P ti N ds K (o::rest) T L:=ay hd hN (hg1▸hg) (by rw [ho];simp only [pop,hc,ha,hb];rw [if_neg (by rw [he];decide)]) trivial h
theorem k_ {d:Nat} {g0:Bool} (hd:o.dst=some d) (hN:Nat.blt d N=true) (hg:jk ds T o.guard=some g0) (h:aU P ti N ds K rest ((d, .undef)::T) L) (hg1:g0=false:=by first|rfl|exact UK (by first|assumption|exact lV (by assumption))|exact TR (by first|assumption|exact lL (by assumption))):aU P ti N ds K (o::rest) T L:=aj hd hN (hg1▸hg) h
theorem k0_ {g0:Bool} (hd:o.dst=none) (hg:jk ds T o.guard=some g0) (h:aU P ti N ds K rest T L) (hg1:g0=false:=by first|rfl|exact UK (by first|assumption|exact lV (by assumption))|exact TR (by first|assumption|exact lL (by assumption))):aU P ti N ds K (o::rest) T L:=sk0_ hd (hg1▸hg) h
theorem aw_condT {Q:AX->Tm->List Ob->Prop} {c:Operand} {x y:Code} {b:Bool} (hc:look T c=some (.one (.c (.bool b)))) (h:Aw P N n0 x Q T L) (hb:b=true:=by first|rfl|assumption|exact lL (by assumption)):Aw P N n0 (.cond c x y) Q T L:=ah hc (fun _=>h) (fun e=>by rw [hb] at e;cases e)
theorem aw_condF {Q:AX->Tm->List Ob->Prop} {c:Operand} {x y:Code} {b:Bool} (hc:look T c=some (.one (.c (.bool b)))) (h:Aw P N n0 y Q T L) (hb:b=false:=by first|rfl|assumption|exact lV (by assumption)):Aw P N n0 (.cond c x y) Q T L:=ah hc (fun e=>by rw [hb] at e;cases e) (fun _=>h)
end
theorem go_ {p:Prop} (h:p:=by
 repeat' (first
  | refine p_ rfl rfl rfl rfl rfl ?_|refine st_nil ?_|refine x_ rfl rfl rfl rfl rfl rfl rfl rfl ?_|refine l_ rfl rfl rfl rfl ?_|refine s_ rfl rfl rfl ?_|refine t_ rfl rfl rfl rfl ?_|refine k_ rfl rfl rfl ?_|refine k0_ rfl rfl ?_|refine c_ rfl rfl rfl rfl ?_|refine pick_t rfl rfl rfl rfl rfl rfl rfl ?_|refine pick_f rfl rfl rfl rfl rfl rfl rfl ?_|refine aw_seq ?_|refine aw_region tab_ok _ rfl ?_|refine aw_drawn2 tabS_ok _ rfl mixed (by decide +kernel) ?_|refine aw_condT rfl ?_|refine aw_condF rfl ?_|refine aw_block ?_|refine aw_exit ?_|refine aw_ret ?_|refine aw_skip ?_|rw [abl]|rw [mn_norm]|rw [mx_norm])
 refine aO (aR rfl ?_ ?_)
 ·repeat' (first|exact trivial|rfl|exact abj rfl|omega|apply And.intro)
 ·first|rfl|(simp only [abm,abk,abo,abd]<;>rfl)):p:=h
structure Bx (q:Prop):Prop where
 out:q
theorem gs_ {p q:Prop} (k:q) (h:Bx q->p:=by
 intro hq
 first|refine p_ rfl rfl rfl rfl rfl ?_|refine st_nil ?_|refine x_ rfl rfl rfl rfl rfl rfl rfl rfl ?_|refine l_ rfl rfl rfl rfl ?_|refine s_ rfl rfl rfl ?_|refine t_ rfl rfl rfl rfl ?_|refine k_ rfl rfl rfl ?_|refine k0_ rfl rfl ?_|refine c_ rfl rfl rfl rfl ?_|refine pick_t rfl rfl rfl rfl rfl rfl rfl ?_|refine pick_f rfl rfl rfl rfl rfl rfl rfl ?_|refine aw_seq ?_|refine aw_region tab_ok _ rfl ?_|refine aw_drawn2 tabS_ok _ rfl mixed (by decide +kernel) ?_|refine aw_condT rfl ?_|refine aw_condF rfl ?_|refine aw_block ?_|refine aw_exit ?_|refine aw_ret ?_|refine aw_skip ?_|rw [abl]|rw [mn_norm]|rw [mx_norm]
 exact hq.out):p:=h ⟨k⟩
theorem gs0_ {p q:Prop} (k:q) (h:Bx q->p:=by
 intro hq
 first|refine p_ rfl rfl rfl rfl rfl ?_|refine st_nil ?_|refine x_ rfl rfl rfl rfl rfl rfl rfl rfl ?_|refine l_ rfl rfl rfl rfl ?_|refine s_ rfl rfl rfl ?_|refine t_ rfl rfl rfl rfl ?_|refine k_ rfl rfl rfl ?_|refine k0_ rfl rfl ?_|refine c_ rfl rfl rfl rfl ?_|refine pick_t rfl rfl rfl rfl rfl rfl rfl ?_|refine pick_f rfl rfl rfl rfl rfl rfl rfl ?_|refine aw_seq ?_|refine aw_condT rfl ?_|refine aw_condF rfl ?_|refine aw_block ?_|refine aw_exit ?_|refine aw_ret ?_|refine aw_skip ?_|rw [abl]|rw [mn_norm]|rw [mx_norm]
 exact hq.out):p:=h ⟨k⟩
theorem bC {p q:Prop} (k:q) (h:Bx q->p:=by
 intro hq
 repeat' (first
  | refine gs_ ?_)
 exact hq.out):p:=h ⟨k⟩
theorem cnd_ {β:Type} {c:Bool} {x y:Option β} {r:β} (H:(bif c then x else y)=some r):(c=true/\x=some r)\/(c=false/\y=some r):=by
 cases c with
 | true=>exact .inl ⟨rfl,H⟩
 | false=>exact .inr ⟨rfl,H⟩
theorem aK {p:Prop} [Decidable p] {β:Type} {x:Option β} {r:β} (H:(bif decide p then x else none)=some r):p/\x=some r:=by
 obtain ⟨h,k⟩:=nP H
 exact ⟨abD h,k⟩
theorem aX {α β:Type} {l:List α} {f:α->List AC} {i:Int} {k:α->Option β} {r:β} (H:(aL l i).bind k=some r) : ∃ x,0<=i/\l[i.toNat]?=some x/\(l.map f)[i.toNat]?=some (f x)/\k x=some r:=by
 obtain ⟨x,h,K⟩:=bd_ H
 obtain ⟨h0,h1⟩:=Cq h
 exact ⟨x,h0,h1,aaO h1,K⟩
theorem lt_ {a b:Nat} (h:Nat.blt a b=true:=by rfl):a<b:=abj h
theorem bV {p:Prop} (h:p:=by repeat' (first|refine ⟨?_,?_⟩|exact trivial|rfl)):p:=h
theorem o8 {p:Prop} (h:p:=by repeat' (first|refine ⟨?_,?_⟩|exact trivial|rfl|(simp only [abm,abk,abo,abd]<;>rfl))):p:=h
theorem bE {p:Prop} (h:p:=by repeat' (first|refine ⟨?_,?_⟩|exact trivial|exact lt_|omega)):p:=h
theorem dw {p:Prop} (h:p:=by repeat' (first|refine ⟨?_,?_⟩|exact trivial|exact rA (by rfl)|exact clo_below (abj rfl))):p:=h
theorem kJ {p:Prop} (h:p:=by simp only [abg,abw,abF,abR,abm,abk,abo]<;>rfl):p:=h
theorem po_ {P : Program} {ti : TI} {N : Nat} {f : FuncId} {fn : Func} {c : Code} {args : List PV} {r : CV} (hf : P.funcs[f]? = some fn) (hN : fn.ntmps = N) {T : Tm} (h : Aw P N 0 c (fun x T L => (x = .normal \/ x = .ret) /\ Res ti fn.results.toList T L r) T []) (hti : TIok P ti := by exact tab_ok) (hb : fn.body = some c := by rfl) (hname : (fn.name == "runtime.NumGoroutine") = false := by rfl) (hlen : args.length <= N := by simp) (hT : argT 0 args = T := by simp only [argT, PV.av, abk, abo] <;> rfl) : Pure P f args r := pa_ hti hf hb hname hN hlen (hT ▸ h)
open Go.RowKit Go.MapKept
def dE {α σ ρ:Type} (f:σ->α->Option (Sum σ ρ)):σ->List α->Option (Sum σ ρ)
 | s,[]=>some (.inl s)
 | s,x::l=>match f s x with
  | none=>none
  | some (.inl s')=>dE f s' l
  | some (.inr r)=>some (.inr r)
section
variable {α σ ρ S:Type} {l:List α} {body:S->Option (Step S ρ)}
def G9 (mk:σ->Int->S) (n:Nat):Option (Sum σ ρ)->Option (Sum S ρ)
 | none=>none
 | some (.inl s')=>some (.inl (mk s' n))
 | some (.inr r)=>some (.inr r)
def rf (mk:σ->Int->S) (i:Nat):Option (Sum σ ρ)->Option (Step S ρ)
 | none=>none
 | some (.inl s')=>some (.next (mk s' (i:Nat)))
 | some (.inr r)=>some (.ret r)
theorem Ld (mk:σ->Int->S) (f:σ->α->Option (Sum σ ρ)) (h1 : ∀ (s:σ) (i:Nat) x,l[i]?=some x->body (mk s i)=rf mk (i+1) (f s x)) (h2 : ∀ s,body (mk s l.length)=some (.exit (mk s l.length))) :
  ∀ (n i:Nat) (s:σ),i<=l.length->l.length-i<n->ax body n (mk s i)=G9 mk l.length (dE f s (l.drop i))
 | 0,i,s,_,h=>by omega
 | n+1,i,s,hi,hn=>by
  rw [ax]
  by_cases hlt:i<l.length
  ·obtain ⟨x,hx⟩:=gol_ hlt
   have e1:=(aa9.1 hx).2
   rw [h1 s i x hx,abG hlt,e1,dE]
   cases hf:f s x with
   | none=>rfl
   | some st=>cases st with
    | inl s'=>exact Ld mk f h1 h2 n (i+1) s' (by omega) (by omega)
    | inr r=>rfl
  ·have:i=l.length:=by omega
   subst this
   rw [h2,ab1]
   rfl
theorem dx (mk:σ->Int->S) (f:σ->α->Option (Sum σ ρ)) (h1 : ∀ (s:σ) (i:Nat) x,l[i]?=some x->body (mk s i)=rf mk (i+1) (f s x)) (h2 : ∀ s,body (mk s l.length)=some (.exit (mk s l.length))) (hl:l.length<fuel) (s:σ) :
  ax body fuel (mk s 0)=G9 mk l.length (dE f s l):=Ld mk f h1 h2 fuel 0 s (abv _) (by omega)
end
theorem gn_ {α:Type} {l:List α} {i:Nat} {x:α} (h:l[i]?=some x):aL l (i:Int)=some x:=by
 unfold aL;rw [if_pos (by omega)];exact h
theorem aY {α:Type} {l:List α} {i:Nat} {x:α} (h:l[i]?=some x):decide ((i:Int)<(l.length:Nat))=true:=by
 have:=(aa9.1 h).1;simp;exact this
theorem lF_ (n:Nat):decide ((n:Int)<(n:Nat))=false:=by simp
theorem wrapN {i:Nat} (h:i<=4611686018427387904):IntKind.i64.wrap ((i:Int)+1)=((i+1:Nat):Int):=bu (by omega) (by omega)
open Go.RowKit Go.MapKept
set_option maxRecDepth 100000
set_option maxHeartbeats 8000000
def jI (x y:Int):Int:=if x<y then -1 else if y<x then 1 else 0
def ni (v w:Val):Int:=if jI v.kind w.kind≠0 then jI v.kind w.kind else if jI v.int w.int≠0 then jI v.int w.int else uI v.text w.text
def bD:List Val->List Val->Int
 | [],[]=>0
 | [],_::_ => -1
 | _::_,[]=>1
 | a::xs,b::ys=>if ni a b≠0 then ni a b else bD xs ys
def bO (l:List Val):AC := .lst (l.map cV)
def bB (l:List Int):AC := .lst (l.map fun x=>[.int .i64 x])
theorem Q8 (a b:ByteArray):Pure Tryz.prog 132 [.one (.str a), .one (.str b)] (.val (.one (.int .i64 (uI a b)))):=(Cn WQ 8).1 _ _ _ (by kernel_rfl)
def FC (a_x:Int):Option (Bool):=some (decide (a_x≠a_x))
theorem Ji {a_x:Int} {r:Bool} (H:FC a_x=some r):Pure Tryz.prog 170 [.one (.int .i64 a_x)] (.val (.one (.bool r))):=by
 unfold FC at H
 refine po_ Tryz.func170 Tryz.ntmps170 ?_
 cases H
 exact go_
def IA (a_x:Int) (a_y:Int):Option (Int):=(FC a_x).bind fun r_1=>(FC a_y).bind fun r_2=>bif r_1 then bif r_2 then some (0:Int) else
 some (-1:Int) else
 bif r_2 then some (1:Int) else
 bif (decide (a_x<a_y)) then some (-1:Int) else
 bif (decide (a_y<a_x)) then some (1:Int) else
 some (0:Int)
theorem Lj {a_x:Int} {a_y:Int} {r:Int} (H:IA a_x a_y=some r):Pure Tryz.prog 131 [.one (.int .i64 a_x), .one (.int .i64 a_y)] (.val (.one (.int .i64 r))):=by
 unfold IA at H
 refine po_ Tryz.func131 Tryz.ntmps131 ?_
 obtain ⟨r_1,c1,H⟩:=bd_ H
 replace c1:=Ji c1
 obtain ⟨r_2,c2,H⟩:=bd_ H
 replace c2:=Ji c2
 rcases cnd_ H with ⟨q_3,H⟩|⟨q_3,H⟩
 ·rcases cnd_ H with ⟨q_4,H⟩|⟨q_4,H⟩
  ·cases H
   exact go_
  cases H
  exact go_
 rcases cnd_ H with ⟨q_5,H⟩|⟨q_5,H⟩
 ·cases H
  exact go_
 rcases cnd_ H with ⟨q_6,H⟩|⟨q_6,H⟩
 ·cases H
  exact go_
 rcases cnd_ H with ⟨q_7,H⟩|⟨q_7,H⟩
 ·cases H
  exact go_
 cases H
 exact go_
def J6 (a_vals:(List Int)):(Int)->Option (Step (Int) (Int)):=fun s=>match s with
 | v_1=>bif (decide (v_1<((a_vals.length:Nat):Int))) then (aL a_vals v_1).bind fun x_3=>bif (decide (x_3≠(0:Int))) then some (.ret x_3) else
 some (.next (IntKind.i64.wrap (v_1+(1:Int)))) else
 some (.exit v_1)
def um:Sum (Int) (Int)->Option ((Int))
 | .inl v_1=>some (0:Int)
 | .inr q=>some q
def Zz (a_vals:(List Int)):Option (Int):=(ax (J6 a_vals) fuel (0:Int)).bind (um)
theorem Xn {a_vals:(List Int)} {r:Int} (H:Zz a_vals=some r):Pure Tryz.prog 130 [.one (.lst (a_vals.map (fun x=>[AC.int .i64 x])))] (.val (.one (.int .i64 r))):=by
 unfold Zz at H
 refine po_ Tryz.func130 Tryz.ntmps130 ?_
 refine bC ?_
 refine alM_ (fun s:Int=>match s with|v_1=>[(3, .one (.c (.int .i64 (0:Int)))),(6, .one (.c (.lst (a_vals.map (fun x=>[AC.int .i64 x]))))),(7, .one (.c (.int .i64 ((a_vals.length:Nat):Int)))),(8, .one (.c (.int .i64 v_1)))]) (fun s=>match s with|v_1=>[]) H (fun _=>abv _)
  (fm_ bV [] rfl bE trivial) ?_
 rintro v_1 st1 hb1 hk1
 unfold J6 at hb1
 dsimp only at hb1 ⊢
 rcases cnd_ hb1 with ⟨q_2,hb1⟩|⟨q_2,hb1⟩
 ·obtain ⟨x_3,i1z,i1,i1x,hb1⟩:=aX (f:=(fun x=>[AC.int .i64 x])) hb1
  rcases cnd_ hb1 with ⟨q_4,hb1⟩|⟨q_4,hb1⟩
  ·cases hb1
   have hx1:um (.inr x_3)=some _:=hk1
   unfold um at hx1
   dsimp only at hx1
   cases hx1
   exact go_
  cases hb1
  refine bC ?_
  exact ⟨_,rfl,fm_ bV [] rfl bE trivial⟩
 cases hb1
 have hx1:um (.inl v_1)=some _:=hk1
 unfold um at hx1
 dsimp only at hx1
 cases hx1
 exact go_
def ww (a_a:Val) (a_b:Val):Option (Int):=(IA a_a.kind a_b.kind).bind fun r_1=>(IA a_a.int a_b.int).bind fun r_2=>(Zz [r_1,r_2,(uI a_a.text a_b.text)]).bind fun r_4=>some r_4
theorem zR {a_a:Val} {a_b:Val} {r:Int} (H:ww a_a a_b=some r):Pure Tryz.prog 96 [.agg (cV a_a), .agg (cV a_b)] (.val (.one (.int .i64 r))):=by
 unfold ww at H
 refine po_ Tryz.func96 Tryz.ntmps96 ?_
 obtain ⟨r_1,c1,H⟩:=bd_ H
 replace c1:=Lj c1
 obtain ⟨r_2,c2,H⟩:=bd_ H
 replace c2:=Lj c2
 have hc_3:=Q8 a_a.text a_b.text
 try simp only [abm,abk,abo,abd,tE_eq,tP_eq] at hc_3
 obtain ⟨r_4,c3,H⟩:=bd_ H
 replace c3:=Xn c3
 try simp only [abm,abk,abo,abd,tE_eq,tP_eq] at c3
 cases H
 exact go_
def kN (a_s1:(List Val)) (a_s2:(List Val)) (a_cmp:Val->Val->Option (Int)):(Int)->Option (Step (Int) (Int)):=fun s=>match s with
 | v_1=>bif (decide (v_1<((a_s1.length:Nat):Int))) then (aL a_s1 v_1).bind fun x_3=>bif (decide (((a_s2.length:Nat):Int)<=v_1)) then some (.ret (1:Int)) else
 (aL a_s2 v_1).bind fun x_5=>(a_cmp x_3 x_5).bind fun r_6=>bif (decide (r_6≠(0:Int))) then some (.ret r_6) else
 some (.next (IntKind.i64.wrap (v_1+(1:Int)))) else
 some (.exit v_1)
def fJ (a_s1:(List Val)) (a_s2:(List Val)):Sum (Int) (Int)->Option ((Int))
 | .inl v_1=>bif (decide (((a_s1.length:Nat):Int)<((a_s2.length:Nat):Int))) then some (-1:Int) else
 some (0:Int)
 | .inr q=>some q
def Kh (a_s1:(List Val)) (a_s2:(List Val)) (a_cmp:Val->Val->Option (Int)):Option (Int):=(ax (kN a_s1 a_s2 a_cmp) fuel (0:Int)).bind (fJ a_s1 a_s2)
theorem RD {a_s1:(List Val)} {a_s2:(List Val)} {a_cmp:Val->Val->Option (Int)} {r:Int} {F_a_cmp:FuncId} {caps_a_cmp:List AC} (hf_a_cmp : ∀ (y0:Val) (y1:Val) (r:Int),a_cmp y0 y1=some r->Pure Tryz.prog F_a_cmp ([.agg (cV y0), .agg (cV y1)]++caps_a_cmp.map .one) (.val (.one (.int .i64 r)))) (H:Kh a_s1 a_s2 a_cmp=some r):Pure Tryz.prog 174 [.one (.lst (a_s1.map cV)), .one (.lst (a_s2.map cV)), .one (.fn F_a_cmp caps_a_cmp)] (.val (.one (.int .i64 r))):=by
 unfold Kh at H
 refine po_ Tryz.func174 Tryz.ntmps174 ?_
 refine bC ?_
 refine alM_ (fun s:Int=>match s with|v_1=>[(0, .one (.c (.lst (a_s1.map cV)))),(1, .one (.c (.lst (a_s2.map cV)))),(2, .one (.c (.fn F_a_cmp caps_a_cmp))),(11, .one (.c (.lst (a_s1.map cV)))),(12, .one (.c (.int .i64 ((a_s1.length:Nat):Int)))),(13, .one (.c (.int .i64 v_1)))]) (fun s=>match s with|v_1=>[]) H (fun _=>abv _)
  (fm_ bV [] rfl bE trivial) ?_
 rintro v_1 st1 hb1 hk1
 unfold kN at hb1
 dsimp only at hb1 ⊢
 rcases cnd_ hb1 with ⟨q_2,hb1⟩|⟨q_2,hb1⟩
 ·obtain ⟨x_3,i1z,i1,i1x,hb1⟩:=aX (f:=cV) hb1
  rcases cnd_ hb1 with ⟨q_4,hb1⟩|⟨q_4,hb1⟩
  ·cases hb1
   have hx1:fJ a_s1 a_s2 (.inr (1:Int))=some _:=hk1
   unfold fJ at hx1
   dsimp only at hx1
   cases hx1
   exact go_
  obtain ⟨x_5,i2z,i2,i2x,hb1⟩:=aX (f:=cV) hb1
  obtain ⟨r_6,c3,hb1⟩:=bd_ hb1
  replace c3:=hf_a_cmp _ _ _ c3
  try simp only [abm,abk,abo,abd,tE_eq,tP_eq] at c3
  rcases cnd_ hb1 with ⟨q_7,hb1⟩|⟨q_7,hb1⟩
  ·cases hb1
   have hx1:fJ a_s1 a_s2 (.inr r_6)=some _:=hk1
   unfold fJ at hx1
   dsimp only at hx1
   cases hx1
   exact go_
  cases hb1
  refine bC ?_
  exact ⟨_,rfl,fm_ bV [_,_] rfl bE trivial⟩
 cases hb1
 have hx1:fJ a_s1 a_s2 (.inl v_1)=some _:=hk1
 unfold fJ at hx1
 dsimp only at hx1
 rcases cnd_ hx1 with ⟨q_8,hx1⟩|⟨q_8,hx1⟩
 ·cases hx1
  exact go_
 cases hx1
 exact go_
def CK (a_a:(List Val)) (a_b:(List Val)):Option (Int):=(Kh a_a a_b (fun x0 x1=>ww x0 x1)).bind fun r_1=>some r_1
theorem M8 {a_a:(List Val)} {a_b:(List Val)} {r:Int} (H:CK a_a a_b=some r):Pure Tryz.prog 134 [.one (.lst (a_a.map cV)), .one (.lst (a_b.map cV))] (.val (.one (.int .i64 r))):=by
 unfold CK at H
 refine po_ Tryz.func134 Tryz.ntmps134 ?_
 obtain ⟨r_1,c1,H⟩:=bd_ H
 replace c1:=RD (F_a_cmp:=96) (caps_a_cmp:=[]) (fun x0 x1 r h=>zR h) c1
 try simp only [abm,abk,abo,abd,tE_eq,tP_eq] at c1
 cases H
 exact go_
open Go.RowKit Go.MapKept
set_option maxRecDepth 100000
theorem cz : ∀ {n:Nat} {L:List Ob}, GZ n L -> ∀ x∈L,x.below n
 | _,_::_,h,x,hx=>by
  rcases abq.1 hx with rfl|hx
  ·exact h.1
  ·exact cz h.2 x hx
def gC (x:AC):List SV:=[.c x]
theorem yz (n v k:Nat) (l:List AC):(Ob.row v (l.map gC) k).below n:=by
 intro e he x hx
 obtain ⟨y,_,rfl⟩:=abK.1 he
 rcases abq.1 hx with rfl|hx
 ·trivial
 ·cases hx
open Go.RowKit Go.MapKept
set_option maxRecDepth 100000
def Zu:TI := { TV with soft:=true }
theorem bK:TIok Tryz.prog Zu:=⟨au.size,au.agg,au.elem,au.field,au.zero,au.bytes,au.kind,au.struct,au.zok,au.eqs⟩
theorem P5 (σ:List Nat) (v k:Nat) (l:List AC):(Ob.row v (l.map gC) k).ren σ=Ob.row v (l.map gC) k:=by
 simp only [Ob.ren,List.map_map];rfl
theorem rf1 {L:List Ob} {v k:Nat} {l:List AC} {x:AV} {xs:List AV} (h0:L[0]?=some (Ob.row v (l.map gC) k)) (hx : ∀ y∈x::xs,y.below 1):qb [0] [Ob.row v (l.map gC) k] (x::xs) L:=by
 refine ⟨rfl,by simp,fun i y hy=>?_,cz ⟨yz _ _ _ _,trivial⟩,hx⟩
 match i,hy with
 | 0,hy=>simp at hy;subst hy;rw [P5];exact h0
 | i+1,hy=>simp at hy
theorem j1 {L L':List Ob} {v k:Nat} {l:List AC} (h:L.set 0 (Ob.row v (l.map gC) k)=L'):joinL [0] L [Ob.row v (l.map gC) k]=L':=by
 subst h
 simp [joinL,join,kX,fV,yH,P5]
theorem kU {n:Nat} {l:List AV} (h:KE n (l.map fun x=>(0,x))) : ∀ y∈l,y.below n:=by
 induction l with
 | nil=>intro y hy;cases hy
 | cons x l ih =>
  intro y hy
  rcases abq.1 hy with rfl|hy
  ·exact h.1
  ·exact ih h.2 y hy
theorem V4 (l:List Val) : ∀ e∈l.map cV,e.length=3:=yo (by intro _;rfl) l
def bM (l:List (List Val)):AC := .lst (l.map fun r=>[bO r])
theorem UL (l:List AC):lU (l.map gC)=some (l.map fun x=>[x]):=by
 have:=w_ (l.map fun x=>[x])
 rw [List.map_map] at this
 exact this
open Go.RowKit Go.MapKept
set_option maxRecDepth 100000
def dV (p:SV) (u:Nat) (s:ByteArray) (i:Nat):Ob := .row (111+65536) [[p, .sl (i+1) u 0 s.size]] 2
def dU (u:Nat) (s:ByteArray):Ob := .row u (bG s) 1
theorem Xc : ∃ fn, Tryz.prog.funcs[168]? = some fn /\ (fn.name == "runtime.NumGoroutine") = false /\ fn.body.isNone = true /\ Extern.findNext fn = none /\ Extern.find fn = some Extern.AbiNoEscape.same := ⟨_, Tryz.func168, by kernel_rfl, by kernel_rfl, by kernel_rfl, by kernel_rfl⟩
theorem PD : ∃ j,Tryz.prog.info? 111=some j/\j.size=2:=by
 have h:(Tryz.prog.info? 111).map (·.size)=some 2:=by kernel_rfl
 cases hi:Tryz.prog.info? 111 with
 | none=>rw [hi] at h;cases h
 | some j=>rw [hi] at h;exact ⟨j,rfl,by simpa using h⟩
theorem dC {n v k:Nat} {a b:SV} (ha:a.below n) (hb:b.below n):(Ob.row v [[a,b]] k).below n:=by
 intro e he x hx
 rcases abq.1 he with rfl|he
 ·rcases abq.1 hx with rfl|hx
  ·exact ha
  ·rcases abq.1 hx with rfl|hx
   ·exact hb
   ·cases hx
 ·cases he
theorem bF (n u:Nat) (s:ByteArray):(dU u s).below n:=by
 intro e he x hx
 obtain ⟨y,_,rfl⟩:=abK.1 he
 rcases abq.1 hx with rfl|hx
 ·trivial
 ·cases hx
theorem bX (s:ByteArray):(bG s).length=s.size:=by unfold bG;rw [abl];simp
theorem ko (s t:ByteArray):bG (s++t)=bG s++bG t:=by
 unfold bG
 rw [<- abm];congr 1
theorem Nr (σ:List Nat) (s:ByteArray):(bG s).map (List.map (SV.ren σ))=bG s:=by
 unfold bG
 rw [List.map_map];rfl
theorem iH (σ:List Nat) (u:Nat) (s:ByteArray):(dU u s).ren σ=dU u s:=by simp only [dU,Ob.ren,Nr]
theorem EN {i j:Nat} {L L':List Ob} {a b a' b':Ob} (ha:a.ren [i,j]=a') (hb:b.ren [i,j]=b') (h:(L.set i a').set j b'=L'):joinL [i,j] L [a,b]=L':=by
 subst ha hb h
 simp [joinL,join,kX,fV,yH]
theorem u7 {L:List Ob} {a b:Ob} {x:AV} {xs:List AV} {i j:Nat} (h0:L[i]?=some (a.ren [i,j])) (h1:L[j]?=some (b.ren [i,j])) (hne:i≠j) (ha:a.below 2) (hb:b.below 2) (hx : ∀ y∈x::xs,y.below 2):qb [i,j] [a,b] (x::xs) L:=by
 refine ⟨rfl,by simp [hne],fun k y hy=>?_,cz ⟨ha,hb,trivial⟩,hx⟩
 match k,hy with
 | 0,hy=>simp at hy;subst hy;exact h0
 | 1,hy=>simp at hy;subst hy;exact h1
 | k+2,hy=>simp at hy
theorem L6:Tryz.prog.cellsOf 111=2:=by kernel_rfl
theorem Ur:Tryz.prog.cellsOf 5=1:=by kernel_rfl
theorem uu (x:SV) (o:Ob) (hx:x.below 2) (ho:o.below 2):Run Tryz.prog 127 [.row (111+65536) [[(.c (.nul .ptr)),x]] 2,o] [.one (.ep 0 (111+65536) 0 0)] [.row (111+65536) [[(.ep 0 (111+65536) 0 0),x]] 2,o] (.tup []):=by
 obtain ⟨j,hj,hj2⟩:=PD
 obtain ⟨fn,hf,hnm,hbd,hnx,hfd⟩:=Xc
 refine bQ au Tryz.func127 rfl rfl Tryz.ntmps127 (by simp) ?_
 simp only [j4]
 repeat' (first
  | refine st_nil ?_
  | refine ay rfl rfl rfl rfl ph_ ?_
  | refine az rfl rfl rfl rfl ph_ ?_
  | refine sS_ rfl rfl rfl ph_ ?_
  | refine aC rfl rfl rfl rfl ph_ ?_
  | refine aj rfl rfl rfl ?_
  | refine sk0_ rfl rfl ?_
  | (refine aM rfl (fun hb=>?_) (fun hb=>?_)<;>(first|exact (fx_ hb).elim|rw [hb]))
  | refine aw_seq ?_
  | refine aw_region au _ rfl ?_
  | refine aw_drawn2 bK _ rfl mixed (by decide +kernel) ?_
  | (refine ah rfl (fun hb=>?_) (fun hb=>?_)<;>(try exact (fx_ hb).elim))
  | refine aw_block ?_
  | refine aw_exit ?_
  | refine aw_ret ?_
  | refine aw_skip ?_
  | (refine dB rfl rfl rfl rfl rfl (BB rfl rfl (au.kind 108 _ rfl)) ?_)
  | (refine dB rfl rfl rfl rfl rfl (wE rfl rfl rfl (au.kind 108 _ rfl)) ?_)
  | (refine dB rfl rfl rfl rfl rfl (wz rfl rfl rfl (au.kind 108 _ rfl) hj) ?_)
  | (refine dB rfl rfl rfl rfl rfl (nW rfl rfl (au.kind 108 _ rfl) (au.kind 161 _ rfl) hj (by rw [hj2];decide)) ?_)
  | (refine dB rfl rfl rfl rfl rfl (tX rfl rfl (au.kind 161 _ rfl) (au.kind 108 _ rfl) hj L6 rfl) ?_)
  | (refine cZ rfl rfl rfl rfl rfl (uh rfl hf hnm hbd hnx hfd) ?_))
 all_goals exact ⟨.inl rfl,⟨.inr ⟨.tup [],⟨trivial,rfl⟩,rfl⟩,⟨[],rfl⟩,by simp,cz ⟨dC (by show 0<2;omega) hx,ho,trivial⟩,by simp [CV.av,AV.below]⟩⟩
theorem vS (x:SV) (o:Ob) (hx:x.below 2) (ho:o.below 2):Run Tryz.prog 127 [.row (111+65536) [[(.ep 0 (111+65536) 0 0),x]] 2,o] [.one (.ep 0 (111+65536) 0 0)] [.row (111+65536) [[(.ep 0 (111+65536) 0 0),x]] 2,o] (.tup []):=by
 obtain ⟨j,hj,hj2⟩:=PD
 obtain ⟨fn,hf,hnm,hbd,hnx,hfd⟩:=Xc
 refine bQ au Tryz.func127 rfl rfl Tryz.ntmps127 (by simp) ?_
 simp only [j4]
 repeat' (first
  | refine st_nil ?_
  | refine ay rfl rfl rfl rfl ph_ ?_
  | refine az rfl rfl rfl rfl ph_ ?_
  | refine sS_ rfl rfl rfl ph_ ?_
  | refine aC rfl rfl rfl rfl ph_ ?_
  | refine aj rfl rfl rfl ?_
  | refine sk0_ rfl rfl ?_
  | (refine aM rfl (fun hb=>?_) (fun hb=>?_)<;>(first|exact (fx_ hb).elim|rw [hb]))
  | refine aw_seq ?_
  | refine aw_region au _ rfl ?_
  | refine aw_drawn2 bK _ rfl mixed (by decide +kernel) ?_
  | (refine ah rfl (fun hb=>?_) (fun hb=>?_)<;>(try exact (fx_ hb).elim))
  | refine aw_block ?_
  | refine aw_exit ?_
  | refine aw_ret ?_
  | refine aw_skip ?_
  | (refine dB rfl rfl rfl rfl rfl (BB rfl rfl (au.kind 108 _ rfl)) ?_)
  | (refine dB rfl rfl rfl rfl rfl (wE rfl rfl rfl (au.kind 108 _ rfl)) ?_)
  | (refine dB rfl rfl rfl rfl rfl (wz rfl rfl rfl (au.kind 108 _ rfl) hj) ?_)
  | (refine dB rfl rfl rfl rfl rfl (nW rfl rfl (au.kind 108 _ rfl) (au.kind 161 _ rfl) hj (by rw [hj2];decide)) ?_)
  | (refine dB rfl rfl rfl rfl rfl (tX rfl rfl (au.kind 161 _ rfl) (au.kind 108 _ rfl) hj L6 rfl) ?_)
  | (refine cZ rfl rfl rfl rfl rfl (uh rfl hf hnm hbd hnx hfd) ?_))
 all_goals exact ⟨.inl rfl,⟨.inr ⟨.tup [],⟨trivial,rfl⟩,rfl⟩,⟨[],rfl⟩,by simp,cz ⟨dC (by show 0<2;omega) hx,ho,trivial⟩,by simp [CV.av,AV.below]⟩⟩
theorem zD (u:Nat) (s:ByteArray) (t:ByteArray) (hu:u%65536=5) (hs:s.size<=100000000000000) (ht:t.size<=1000000000000):Run Tryz.prog 88 [dV (.c (.nul .ptr)) u s 0,dU u s] [.one (.ep 0 (111+65536) 0 0), .one (.c (.str t))] [dV (.ep 0 (111+65536) 0 0) (u+65536) (s++t) 0,dU (u+65536) (s++t)] (.tup [.one (.int .i64 t.size), .one (.nul .iface)]):=by
 refine bQ au Tryz.func88 rfl rfl Tryz.ntmps88 (by simp) ?_
 simp only [j4]
 unfold dV
 repeat' (first
  | refine st_nil ?_
  | (refine cZ rfl rfl rfl rfl rfl (lI au (k:=1) (by_:=1) (xs:=bG t) rfl rfl rfl rfl ⟨rfl,rfl⟩ rfl hu rfl rfl rfl (by omega) (by exact bX s) (by rw [bX];omega) (by rw [bX];omega)) ?_)
  | (refine ay rfl rfl rfl rfl ?_ ?_; · (repeat' (first|exact trivial|rfl|exact abj rfl|omega|(intro e he;simp at he;subst he;rfl)|apply And.intro)))
  | (refine az rfl rfl rfl rfl ?_ ?_; · (repeat' (first|exact trivial|rfl|exact abj rfl|omega|(intro e he;simp at he;subst he;rfl)|apply And.intro)))
  | (refine sS_ rfl rfl rfl ?_ ?_; · (repeat' (first|exact trivial|rfl|exact abj rfl|omega|(intro e he;simp at he;subst he;rfl)|apply And.intro)))
  | (refine aC rfl rfl rfl rfl ?_ ?_; · (repeat' (first|exact trivial|rfl|exact abj rfl|omega|(intro e he;simp at he;subst he;rfl)|apply And.intro)))
  | refine aj rfl rfl rfl ?_
  | refine sk0_ rfl rfl ?_
  | (refine dF [0,1] rfl rfl rfl rfl (uu (.sl 1 u 0 s.size) (dU u s) (by show 1<2;omega) (bF _ _ _)) rfl (u7 (by rfl) (by rw [iH];rfl) (by decide) (dC trivial (by show 1<2;omega)) (bF _ _ _) (fun y hy=>by rcases abq.1 hy with rfl|hy<;>first|(show 0<2;omega)|cases hy)) rfl (EN rfl (iH _ _ _) rfl) ?_)
  | (refine aM rfl (fun hb=>?_) (fun hb=>?_)<;>(first|exact (fx_ hb).elim|rw [hb]))
  | refine aw_seq ?_
  | refine aw_region au _ rfl ?_
  | refine aw_drawn2 bK _ rfl mixed (by decide +kernel) ?_
  | (refine ah rfl (fun hb=>?_) (fun hb=>?_)<;>(try exact (fx_ hb).elim))
  | refine aw_block ?_
  | refine aw_exit ?_
  | refine aw_ret ?_
  | refine aw_skip ?_)
 all_goals refine ⟨.inr rfl,⟨.inr ⟨.tup [.one (.int .i64 t.size), .one (.nul .iface)],⟨⟨trivial,trivial,trivial⟩,rfl⟩,rfl⟩,⟨[],?_⟩,by simp,cz ⟨dC (by show 0<2;omega) (by show 1<2;omega),bF _ _ _,trivial⟩,trivial⟩⟩
 all_goals (rw [abJ];show [Ob.row _ [[_,SV.sl (0+1) (u+65536) 0 (s.size+(bG t).length)]] 2,Ob.row (u+65536) (bG s++bG t) 1]=_;rw [bX, <- ko, <- ByteArray.size_append];rfl)
theorem fe (u:Nat) (s:ByteArray) (t:ByteArray) (hu:u%65536=5) (hs:s.size<=100000000000000) (ht:t.size<=1000000000000):Run Tryz.prog 88 [dV (.ep 0 (111+65536) 0 0) u s 0,dU u s] [.one (.ep 0 (111+65536) 0 0), .one (.c (.str t))] [dV (.ep 0 (111+65536) 0 0) (u+65536) (s++t) 0,dU (u+65536) (s++t)] (.tup [.one (.int .i64 t.size), .one (.nul .iface)]):=by
 refine bQ au Tryz.func88 rfl rfl Tryz.ntmps88 (by simp) ?_
 simp only [j4]
 unfold dV
 repeat' (first
  | refine st_nil ?_
  | (refine cZ rfl rfl rfl rfl rfl (lI au (k:=1) (by_:=1) (xs:=bG t) rfl rfl rfl rfl ⟨rfl,rfl⟩ rfl hu rfl rfl rfl (by omega) (by exact bX s) (by rw [bX];omega) (by rw [bX];omega)) ?_)
  | (refine ay rfl rfl rfl rfl ?_ ?_; · (repeat' (first|exact trivial|rfl|exact abj rfl|omega|(intro e he;simp at he;subst he;rfl)|apply And.intro)))
  | (refine az rfl rfl rfl rfl ?_ ?_; · (repeat' (first|exact trivial|rfl|exact abj rfl|omega|(intro e he;simp at he;subst he;rfl)|apply And.intro)))
  | (refine sS_ rfl rfl rfl ?_ ?_; · (repeat' (first|exact trivial|rfl|exact abj rfl|omega|(intro e he;simp at he;subst he;rfl)|apply And.intro)))
  | (refine aC rfl rfl rfl rfl ?_ ?_; · (repeat' (first|exact trivial|rfl|exact abj rfl|omega|(intro e he;simp at he;subst he;rfl)|apply And.intro)))
  | refine aj rfl rfl rfl ?_
  | refine sk0_ rfl rfl ?_
  | (refine dF [0,1] rfl rfl rfl rfl (vS (.sl 1 u 0 s.size) (dU u s) (by show 1<2;omega) (bF _ _ _)) rfl (u7 (by rfl) (by rw [iH];rfl) (by decide) (dC (by show 0<2;omega) (by show 1<2;omega)) (bF _ _ _) (fun y hy=>by rcases abq.1 hy with rfl|hy<;>first|(show 0<2;omega)|cases hy)) rfl (EN rfl (iH _ _ _) rfl) ?_)
  | (refine aM rfl (fun hb=>?_) (fun hb=>?_)<;>(first|exact (fx_ hb).elim|rw [hb]))
  | refine aw_seq ?_
  | refine aw_region au _ rfl ?_
  | refine aw_drawn2 bK _ rfl mixed (by decide +kernel) ?_
  | (refine ah rfl (fun hb=>?_) (fun hb=>?_)<;>(try exact (fx_ hb).elim))
  | refine aw_block ?_
  | refine aw_exit ?_
  | refine aw_ret ?_
  | refine aw_skip ?_)
 all_goals refine ⟨.inr rfl,⟨.inr ⟨.tup [.one (.int .i64 t.size), .one (.nul .iface)],⟨⟨trivial,trivial,trivial⟩,rfl⟩,rfl⟩,⟨[],?_⟩,by simp,cz ⟨dC (by show 0<2;omega) (by show 1<2;omega),bF _ _ _,trivial⟩,trivial⟩⟩
 all_goals (rw [abJ];show [Ob.row _ [[_,SV.sl (0+1) (u+65536) 0 (s.size+(bG t).length)]] 2,Ob.row (u+65536) (bG s++bG t) 1]=_;rw [bX, <- ko, <- ByteArray.size_append];rfl)
theorem ll (u:Nat) (s:ByteArray) (t:UInt8) (hu:u%65536=5) (hs:s.size<=100000000000000)  : Run Tryz.prog 90 [dV (.ep 0 (111+65536) 0 0) u s 0,dU u s] [.one (.ep 0 (111+65536) 0 0), .one (.c (.int .u8 t.toNat))] [dV (.ep 0 (111+65536) 0 0) (u+65536) (s++⟨#[t]⟩) 0,dU (u+65536) (s++⟨#[t]⟩)] (.one (.c (.nul .iface))):=by
 refine bQ au Tryz.func90 rfl rfl Tryz.ntmps90 (by simp) ?_
 simp only [j4]
 unfold dV
 repeat' (first
  | refine st_nil ?_
  | (refine cZ rfl rfl rfl rfl rfl (lI au (k:=1) (by_:=1) (xs:=bG ⟨#[t]⟩) rfl rfl rfl rfl ⟨rfl,_,rfl,by intro e he;simp at he;subst he;rfl⟩ rfl hu rfl rfl rfl (by omega) (by exact bX s) (by rw [bX];show (s.size+1)*1<=_;omega) (by rw [bX];show s.size+1<=_;omega)) ?_)
  | (refine ay rfl rfl rfl rfl ?_ ?_; · (repeat' (first|exact trivial|rfl|exact abj rfl|omega|(intro e he;simp at he;subst he;rfl)|apply And.intro)))
  | (refine az rfl rfl rfl rfl ?_ ?_; · (repeat' (first|exact trivial|rfl|exact abj rfl|omega|(intro e he;simp at he;subst he;rfl)|apply And.intro)))
  | (refine sS_ rfl rfl rfl ?_ ?_; · (repeat' (first|exact trivial|rfl|exact abj rfl|omega|(intro e he;simp at he;subst he;rfl)|apply And.intro)))
  | (refine aC rfl rfl rfl rfl ?_ ?_; · (repeat' (first|exact trivial|rfl|exact abj rfl|omega|(intro e he;simp at he;subst he;rfl)|apply And.intro)))
  | refine aj rfl rfl rfl ?_
  | refine sk0_ rfl rfl ?_
  | (refine dF [0,1] rfl rfl rfl rfl (vS (.sl 1 u 0 s.size) (dU u s) (by show 1<2;omega) (bF _ _ _)) rfl (u7 (by rfl) (by rw [iH];rfl) (by decide) (dC (by show 0<2;omega) (by show 1<2;omega)) (bF _ _ _) (fun y hy=>by rcases abq.1 hy with rfl|hy<;>first|(show 0<2;omega)|cases hy)) rfl (EN rfl (iH _ _ _) rfl) ?_)
  | (refine aM rfl (fun hb=>?_) (fun hb=>?_)<;>(first|exact (fx_ hb).elim|rw [hb]))
  | refine aw_seq ?_
  | refine aw_region au _ rfl ?_
  | refine aw_drawn2 bK _ rfl mixed (by decide +kernel) ?_
  | (refine ah rfl (fun hb=>?_) (fun hb=>?_)<;>(try exact (fx_ hb).elim))
  | refine aw_block ?_
  | refine aw_exit ?_
  | refine aw_ret ?_
  | refine aw_skip ?_)
 all_goals refine ⟨.inr rfl,⟨.inl ⟨4,rfl,rfl⟩,⟨[],?_⟩,by simp,cz ⟨dC (by show 0<2;omega) (by show 1<2;omega),bF _ _ _,trivial⟩,trivial⟩⟩
 all_goals (rw [abJ];show [Ob.row _ [[_,SV.sl (0+1) (u+65536) 0 (s.size+(bG ⟨#[t]⟩).length)]] 2,Ob.row (u+65536) (bG s++bG ⟨#[t]⟩) 1]=_;rw [bX, <- ko, <- ByteArray.size_append];rfl)
open Go.RowKit Go.MapKept
set_option maxRecDepth 100000
theorem Wi (u:Nat) (s:ByteArray) (hu:u%65536=5) (h0:0<s.size) (hs:s.size<=100000000000000):Run Tryz.prog 91 [dV (.ep 0 (111+65536) 0 0) u s 0,dU u s] [.one (.ep 0 (111+65536) 0 0)] [dV (.ep 0 (111+65536) 0 0) u s 0, .dead] (.one (.c (.str s))):=by
 refine bQ au Tryz.func91 rfl rfl Tryz.ntmps91 (by simp) ?_
 simp only [j4]
 unfold dV
 repeat' (first
  | refine st_nil ?_
  | (refine dB rfl rfl rfl rfl rfl (yh rfl rfl h0) ?_)
  | (refine Qr rfl rfl rfl rfl rfl (q9 rfl rfl rfl hu (bK.kind _ _ rfl) Ur h0 (by omega)) ?_)
  | refine ay rfl rfl rfl rfl ph_ ?_
  | refine az rfl rfl rfl rfl ph_ ?_
  | refine sS_ rfl rfl rfl ph_ ?_
  | refine aC rfl rfl rfl rfl ph_ ?_
  | refine aj rfl rfl rfl ?_
  | refine sk0_ rfl rfl ?_
  | (refine aM rfl (fun hb=>?_) (fun hb=>?_)<;>(first|exact (fx_ hb).elim|rw [hb]))
  | refine aw_seq ?_
  | refine aw_region au _ rfl ?_
  | refine aw_drawn2 bK _ rfl mixed (by decide +kernel) ?_
  | (refine ah rfl (fun hb=>?_) (fun hb=>?_)<;>(try exact (fx_ hb).elim))
  | refine aw_block ?_
  | refine aw_exit ?_
  | refine aw_ret ?_
  | refine aw_skip ?_)
 all_goals exact ⟨.inr rfl,⟨.inl ⟨2,rfl,rfl⟩,⟨[],rfl⟩,by simp,cz ⟨dC (by show 0<2;omega) (by show 1<2;omega),trivial,trivial⟩,trivial⟩⟩
theorem VN:Run Tryz.prog 91 [dV (.c (.nul .ptr)) 5 ⟨#[]⟩ 0,dU 5 ⟨#[]⟩] [.one (.ep 0 (111+65536) 0 0)] [dV (.c (.nul .ptr)) 5 ⟨#[]⟩ 0,dU 5 ⟨#[]⟩] (.one (.c (.str ⟨#[]⟩))):=by
 refine bQ au Tryz.func91 rfl rfl Tryz.ntmps91 (by simp) ?_
 simp only [j4]
 unfold dV
 repeat' (first
  | refine st_nil ?_
  | (refine dB rfl rfl rfl rfl rfl (wG rfl rfl (by decide)) ?_)
  | (refine Qr rfl rfl rfl rfl rfl (pF rfl rfl) ?_)
  | refine ay rfl rfl rfl rfl ph_ ?_
  | refine az rfl rfl rfl rfl ph_ ?_
  | refine sS_ rfl rfl rfl ph_ ?_
  | refine aC rfl rfl rfl rfl ph_ ?_
  | refine aj rfl rfl rfl ?_
  | refine sk0_ rfl rfl ?_
  | (refine aM rfl (fun hb=>?_) (fun hb=>?_)<;>(first|exact (fx_ hb).elim|rw [hb]))
  | refine aw_seq ?_
  | refine aw_region au _ rfl ?_
  | refine aw_drawn2 bK _ rfl mixed (by decide +kernel) ?_
  | (refine ah rfl (fun hb=>?_) (fun hb=>?_)<;>(try exact (fx_ hb).elim))
  | refine aw_block ?_
  | refine aw_exit ?_
  | refine aw_ret ?_
  | refine aw_skip ?_)
 all_goals exact ⟨.inr rfl,⟨.inl ⟨2,rfl,rfl⟩,⟨[],rfl⟩,by simp,cz ⟨dC trivial (by show 1<2;omega),bF _ _ _,trivial⟩,trivial⟩⟩
end Go.Proofs.YtfpbmfalamappaaGreatDoor
namespace Go.Proofs
open Go.Shelf
def Tryz.laysM171_ren:Go.Shelf.Ren:=⟨fun|171=>89|243=>128|246=>169|283=>193|284=>194|285=>195|286=>196|129=>204|317=>203|318=>205|319=>206|320=>207|337=>213|338=>214|n=>n,fun|3=>3|9=>9|2=>2|4=>4|171=>174|0=>0|53=>175|37=>109|5=>5|173=>178|212=>186|51=>187|20=>20|213=>188|46=>139|232=>194|233=>195|n=>n,fun|17=>1|18=>2|19=>3|n=>n⟩
theorem Tryz.laysM171:Go.Proofs.LaysM.n171 Tryz.prog Tryz.laysM171_ren := {
 mixed:=by kernel_rfl
 f129:=Tryz.func204.trans (congrArg some (by kernel_rfl))
 f171:=Tryz.func89.trans (congrArg some (by kernel_rfl))
 f243:=Tryz.func128.trans (congrArg some (by kernel_rfl))
 f246:=Tryz.func169.trans (congrArg some (by kernel_rfl))
 f283:=Tryz.func193.trans (congrArg some (by kernel_rfl))
 f284:=Tryz.func194.trans (congrArg some (by kernel_rfl))
 f285:=Tryz.func195.trans (congrArg some (by kernel_rfl))
 f286:=Tryz.func196.trans (congrArg some (by kernel_rfl))
 f317:=Tryz.func203.trans (congrArg some (by kernel_rfl))
 f318:=Tryz.func205.trans (congrArg some (by kernel_rfl))
 f319:=Tryz.func206.trans (congrArg some (by kernel_rfl))
 f320:=Tryz.func207.trans (congrArg some (by kernel_rfl))
 f337:=Tryz.func213.trans (congrArg some (by kernel_rfl))
 f338:=Tryz.func214.trans (congrArg some (by kernel_rfl))
 t0:=Tryz.underlying0
 a0:=Tryz.isAgg0
 z0:=Tryz.sizeOf0
 v0:=Tryz.zeroValue0
 t2:=Tryz.underlying2
 a2:=Tryz.isAgg2
 z2:=Tryz.sizeOf2
 v2:=Tryz.zeroValue2
 t3:=Tryz.underlying3
 a3:=Tryz.isAgg3
 z3:=Tryz.sizeOf3
 v3:=Tryz.zeroValue3
 t4:=Tryz.underlying4
 a4:=Tryz.isAgg4
 z4:=Tryz.sizeOf4
 v4:=Tryz.zeroValue4
 t5:=Tryz.underlying5
 a5:=Tryz.isAgg5
 z5:=Tryz.sizeOf5
 v5:=Tryz.zeroValue5
 t9:=Tryz.underlying9
 a9:=Tryz.isAgg9
 z9:=Tryz.sizeOf9
 v9:=Tryz.zeroValue9
 t20:=Tryz.underlying20
 a20:=Tryz.isAgg20
 z20:=Tryz.sizeOf20
 v20:=Tryz.zeroValue20
 t37:=Tryz.underlying109
 a37:=Tryz.isAgg109
 z37:=Tryz.sizeOf109
 v37:=Tryz.zeroValue109
 t46:=Tryz.underlying139
 a46:=Tryz.isAgg139
 z46:=Tryz.sizeOf139
 v46:=Tryz.zeroValue139
 t51:=Tryz.underlying187
 a51:=Tryz.isAgg187
 z51:=Tryz.sizeOf187
 v51:=Tryz.zeroValue187
 t53:=Tryz.underlying175
 a53:=Tryz.isAgg175
 z53:=Tryz.sizeOf175
 v53:=Tryz.zeroValue175
 t171:=Tryz.underlying174
 a171:=Tryz.isAgg174
 z171:=Tryz.sizeOf174
 v171:=Tryz.zeroValue174
 t173:=Tryz.underlying178
 a173:=Tryz.isAgg178
 z173:=Tryz.sizeOf178
 v173:=Tryz.zeroValue178
 t212:=Tryz.underlying186
 a212:=Tryz.isAgg186
 z212:=Tryz.sizeOf186
 v212:=Tryz.zeroValue186
 t213:=Tryz.underlying188
 a213:=Tryz.isAgg188
 z213:=Tryz.sizeOf188
 t232:=Tryz.underlying194
 a232:=Tryz.isAgg194
 z232:=Tryz.sizeOf194
 v232:=Tryz.zeroValue194
 t233:=Tryz.underlying195
 a233:=Tryz.isAgg195
 z233:=Tryz.sizeOf195
 v233:=Tryz.zeroValue195
 g17:=by kernel_rfl
 g18:=by kernel_rfl
 g19:=by kernel_rfl
 i0:=by kernel_rfl
 i2:=by kernel_rfl
 i3:=by kernel_rfl
 i4:=by kernel_rfl
 i5:=by kernel_rfl
 i9:=by kernel_rfl
 i20:=by kernel_rfl
 i37:=by kernel_rfl
 i46:=by kernel_rfl
 i51:=by kernel_rfl
 i53:=by kernel_rfl
 i171:=by kernel_rfl
 i173:=by kernel_rfl
 i212:=by kernel_rfl
 i232:=by kernel_rfl
 i233:=by kernel_rfl
 m17:=by kernel_rfl
 m18:=by kernel_rfl
 m19:=by kernel_rfl }
end Go.Proofs
namespace Go.Proofs.YtfpbmfalamappaaGreatDoor
open Go.Shelf Go.RowKit Go.Sort Go.Lib
set_option maxHeartbeats 6400000
set_option maxRecDepth 100000
section
variable {P:Program} {ρ:Ren}
def MU (g:Nat) (w:World):Prop := ∀ q,q<20->w.cell? ⟨g,q,none⟩=some (.int .u64 ((10 ^ q:Nat):Int))
theorem MU.alloc {g:Nat} {w:World} (h:MU g w) (o:Obj):MU g (w.alloc o):=fun q hq=>by
 rw [World.cell?_alloc_old]
 ·exact h q hq
 ·exact Nat.ne_of_lt (lt_of_cell (h q hq))
abbrev H_ (b:UInt8):Value:=Value.int .u8 (b.toNat:Int)
theorem LK (L:LaysM.n284 P ρ) (u:Nat) (h1:1<=u) (h2:u<18446744073709551616) (w:World) (hT:MU (ρ.g 17) w) :
  Calls P (ρ.f 284) #[.int .u64 u] w fun e w'=>e = .returned (.int .i64 (Lib.nDigits u))/\w'=w:=by
 have mixed:=L.mixed
 have t53:=L.t53;have a53:=L.a53;have z53:=L.z53;have v53:=L.v53
 have t3:=L.t3;have a3:=L.a3;have z3:=L.z3;have v3:=L.v3
 have t212:=L.t212;have a212:=L.a212;have z212:=L.z212;have v212:=L.v212
 have t0:=L.t0;have a0:=L.a0;have z0:=L.z0;have v0:=L.v0
 have t4:=L.t4;have a4:=L.a4;have z4:=L.z4;have v4:=L.v4
 have e129 : ∀ args w,(callFunc (ρ.f 129) args).run P w = .ok (.enter (ρ.f 129) args) w:=enters_of L.f129 (by kernel_rfl) rfl
 have e317 : ∀ args w,(callFunc (ρ.f 317) args).run P w = .ok (.enter (ρ.f 317) args) w:=enters_of L.f317 (by kernel_rfl) rfl
 have e318 : ∀ args w,(callFunc (ρ.f 318) args).run P w = .ok (.enter (ρ.f 318) args) w:=enters_of L.f318 (by kernel_rfl) rfl
 obtain ⟨hnd,h19⟩:=Lib.numDigits_eq u h1 h2
 have hL:Lib.bitLen u<=64:=Lib.bitLen_le u 64 (abp _) h2
 have hcell:=hT (Lib.l10 (Lib.bitLen u)) (by omega)
 have hto:((u:Int)).toNat=u:=by omega
 generalize hq:Lib.l10 (Lib.bitLen u)=q at hnd h19 hcell
 generalize hT2:10 ^ q=T at hnd hcell
 have h20:q<20:=by omega
 have Hnd:=Lib.hid hnd
 clear hnd hT
 go_enter L.f284,Body.n284_ntmps ρ
 go_wp2_with (first
  | (go_at_fn (ρ.f 129);refine (Any.bits_Len64 { L with } _ _ (by omega) (by omega)).mono ?_;rintro e w' ⟨rfl,rfl⟩)
  | (go_at_fn (ρ.f 317);refine (Any.internal_strconv_log10Pow2 { L with } _ (by first|exact hL|(rw [hto];exact hL)) _).mono ?_;rintro e w' ⟨rfl,rfl⟩)
  | (go_at_fn (ρ.f 318);refine (Any.internal_strconv_bool2_int { L with } _ _).mono ?_;rintro e w' ⟨rfl,rfl⟩))
 all_goals go_ret
 all_goals (
  refine ⟨?_,rfl⟩
  have hnd:=Hnd.out
  congr 2
  split at hnd<;>simp_all<;>omega)
theorem Mg (L:LaysM.n246 P ρ) (n:Int) (h0 : -9223372036854775808<=n) (h1:n<=9223372036854775807) (w:World) (hT:MU (ρ.g 17) w) :
  Calls P (ρ.f 246) #[.int .i64 n, .int .i64 10] w fun e w'=>e = .returned (.string ⟨(Lib.itoa n).toArray⟩) /\ ∃ k os,w'=grow (w.drewN k) os:=by
 by_cases hs:0<=n/\n<100
 ·obtain ⟨i,rfl⟩ : ∃ i:Nat,n=i:=⟨n.toNat,by omega⟩
  refine (Any.internal_strconv_FormatInt_10_small { L with } i (by omega) w).mono ?_
  rintro e w' ⟨rfl,rfl⟩
  exact ⟨by rw [Lib.itoa_nonneg],0, #[],by simp [World.drewN_zero]⟩
 have mixed:=L.mixed
 have t2:=L.t2;have a2:=L.a2;have z2:=L.z2;have v2:=L.v2
 have t3:=L.t3;have a3:=L.a3;have z3:=L.z3;have v3:=L.v3
 have t9:=L.t9;have a9:=L.a9;have z9:=L.z9;have v9:=L.v9
 have t4:=L.t4;have a4:=L.a4;have z4:=L.z4;have v4:=L.v4
 have t171:=L.t171;have a171:=L.a171;have z171:=L.z171;have v171:=L.v171
 have t0:=L.t0;have a0:=L.a0;have z0:=L.z0;have v0:=L.v0
 have t53:=L.t53;have a53:=L.a53;have z53:=L.z53;have v53:=L.v53
 have t37:=L.t37;have a37:=L.a37;have z37:=L.z37;have v37:=L.v37
 have t5:=L.t5;have a5:=L.a5;have z5:=L.z5;have v5:=L.v5
 have t173:=L.t173;have a173:=L.a173;have z173:=L.z173;have v173:=L.v173
 have e284 : ∀ args w,(callFunc (ρ.f 284) args).run P w = .ok (.enter (ρ.f 284) args) w:=enters_of L.f284 (by kernel_rfl) rfl
 have e285 : ∀ args w,(callFunc (ρ.f 285) args).run P w = .ok (.enter (ρ.f 285) args) w:=enters_of L.f285 (by kernel_rfl) rfl
 obtain ⟨u,hu⟩ : ∃ u:Nat,u=n.natAbs:=⟨_,rfl⟩
 have hu1:1<=u:=by omega
 have hu64:u<18446744073709551616:=by omega
 have hd20:Lib.nDigits u<=20:=by have:=Lib.numDigits_eq u hu1 hu64;split at this<;>omega
 have hb3:Lib.nDigits u<=23:=by omega
 have hal:P.arrayLen (ρ.t 171)=24:=by simp [Program.arrayLen,L.t171]
 have hel:P.underlying (ρ.t 171)=some (.array (P.arrayLen (ρ.t 171)) (P.elem (ρ.t 171))):=by simp [Program.arrayLen,Program.elem,L.t171]
 have hsl1 : ∀ W,(Instr.sliceAt (ρ.t 171) (.pointer (some ⟨w.heap.size,0,none⟩)) (some (.int .i64 1)) (some (.int .i64 (1+(Lib.nDigits u:Int)))) none).run P W = .ok (.slice (some ⟨w.heap.size,1,none⟩) (Lib.nDigits u) 23) W:=fun W=>by
  rw [run_sliceAt_array_lh W (ρ.t 171) ⟨w.heap.size,0,none⟩ hel .i64 .i64 1 (1+(Lib.nDigits u:Int)) (by omega) (by omega) (by rw [hal];omega)]
  go_simp
  omega
 have hsl2 : ∀ W,(Instr.sliceAt (ρ.t 171) (.pointer (some ⟨w.heap.size,0,none⟩)) none (some (.int .i64 (1+(Lib.nDigits u:Int)))) none).run P W = .ok (.slice (some ⟨w.heap.size,0,none⟩) (1+Lib.nDigits u) 24) W:=fun W=>by
  rw [run_sliceAt_array_h W (ρ.t 171) ⟨w.heap.size,0,none⟩ hel .i64 (1+(Lib.nDigits u:Int)) (by omega) (by rw [hal];omega)]
  go_simp
  omega
 have hH0:=Lib.holds_zero w (ρ.t 171) (Lib.nDigits u) (by omega)
 have hfmt:=Any.internal_strconv_formatBase10 { L with } w.heap.size 1 23 u (Array.replicate (Lib.nDigits u) 0) (w.alloc (.cells Lib.zeros24 (ρ.t 171))) hH0 (by rw [Array.size_replicate];exact Lib.lt_pow_nDigits u) hu64 (by rw [Array.size_replicate];omega)
 rw [Array.size_replicate] at hfmt
 have HH0:=Lib.hid hH0
 have hT1:=hT.alloc (.cells Lib.zeros24 (ρ.t 171))
 have hdig:=LK (ρ:=ρ) { L with } u hu1 hu64 _ hT1
 clear hH0 hT hT1 hal hel
 by_cases hn:n<0
 ·have hw:IntKind.u64.wrap (-IntKind.u64.wrap (-(u:Int)))=(u:Int):=by rw [IntKind.wrap_u64,IntKind.wrap_u64];omega
  obtain rfl:n = -(u:Int):=by omega
  clear hs hu
  go_enter L.f246,Body.n246_ntmps ρ
  go_wp2_with (go_at_fn (ρ.f 284);refine hdig.mono ?_;rintro e w' ⟨rfl,rfl⟩)
  go_at_fn (ρ.f 285)
  refine hfmt.mono ?_
  rintro e w' ⟨rfl,k,v',dk,rfl,hF⟩
  have hc0:((putRow H_ (w.alloc (.cells Lib.zeros24 (ρ.t 171))) w.heap.size 1 dk).drewN k).cell? ⟨w.heap.size,0,none⟩=some (.int .u8 0):=by
   rw [World.cell?_drewN,cell?_putRow_other _ _ _ _ _ _ (Or.inr (Or.inl (Nat.zero_lt_one))),World.cell?_alloc_new]
   exact Lib.zeros24_at 0 (by omega)
  have hf0:((putRow H_ (w.alloc (.cells Lib.zeros24 (ρ.t 171))) w.heap.size 1 dk).drewN k).frozen? ⟨w.heap.size,0,none⟩=false:=by
   rw [World.frozen?_drewN,frozen?_putRow]
   exact World.frozen?_alloc_new _ _ _ _
  have hcv:(convert (ρ.t 37) (ρ.t 9) (.slice (some ⟨w.heap.size,0,none⟩) (1+Lib.nDigits u) 24)).run P (((putRow H_ (w.alloc (.cells Lib.zeros24 (ρ.t 171))) w.heap.size 1 dk).drewN k).setCell ⟨w.heap.size,0,none⟩ (.int .u8 45)) = .ok (.string ⟨(45::Lib.decDigits u).toArray⟩) (((putRow H_ (w.alloc (.cells Lib.zeros24 (ρ.t 171))) w.heap.size 1 dk).drewN k).setCell ⟨w.heap.size,0,none⟩ (.int .u8 45)):=by
   have h:=run_convert_bytes_back (P:=P) (((putRow H_ (w.alloc (.cells Lib.zeros24 (ρ.t 171))) w.heap.size 1 dk).drewN k).setCell ⟨w.heap.size,0,none⟩ (.int .u8 45)) (ρ.t 37) (ρ.t 9) (ρ.t 5) ⟨w.heap.size,0,none⟩ 24 (45::Lib.decDigits u) L.t37 L.t5 L.t9 (fun j hj=>by
    rw [Lib.add_plain]
    cases j with
    | zero=>exact World.cell?_setCell_same _ _ _ hc0
    | succ i =>
     have hi:i<(Lib.decDigits u).length:=by simpa using hj
     rw [World.cell?_setCell_other _ _ _ _ (by simp),List.getElem_cons_succ,Lib.row_is_numeral hF i hi,World.cell?_drewN,show 0+(i+1)=1+i by omega]
     exact cell?_putRow H_ _ w.heap.size 1 _ dk HH0.out (by rw [hF.size,Array.size_replicate]) i (by rw [hF.size];rw [Lib.decDigits_length] at hi;exact hi))
   rw [abw,Lib.decDigits_length,Nat.add_comm] at h
   exact h
  go_wp2
  go_ret
  obtain ⟨os,eo⟩:=Lib.fin_neg w (.cells Lib.zeros24 (ρ.t 171)) dk k (.int .u8 45)
  exact ⟨by rw [Lib.itoa_neg u hu1];rfl,k,os,eo⟩
 ·obtain rfl:n=(u:Int):=by omega
  clear hu hsl2
  go_enter L.f246,Body.n246_ntmps ρ
  go_wp2_with (go_at_fn (ρ.f 284);refine hdig.mono ?_;rintro e w' ⟨rfl,rfl⟩)
  go_at_fn (ρ.f 285)
  refine hfmt.mono ?_
  rintro e w' ⟨rfl,k,v',dk,rfl,hF⟩
  have hcv:(convert (ρ.t 37) (ρ.t 9) (.slice (some ⟨w.heap.size,1,none⟩) (Lib.nDigits u) 23)).run P ((putRow H_ (w.alloc (.cells Lib.zeros24 (ρ.t 171))) w.heap.size 1 dk).drewN k) = .ok (.string ⟨(Lib.decDigits u).toArray⟩) ((putRow H_ (w.alloc (.cells Lib.zeros24 (ρ.t 171))) w.heap.size 1 dk).drewN k):=by
   have h:=run_convert_bytes_back (P:=P) ((putRow H_ (w.alloc (.cells Lib.zeros24 (ρ.t 171))) w.heap.size 1 dk).drewN k) (ρ.t 37) (ρ.t 9) (ρ.t 5) ⟨w.heap.size,1,none⟩ 23 (Lib.decDigits u) L.t37 L.t5 L.t9 (fun j hj=>by
    rw [Lib.row_is_numeral hF j hj,Lib.add_plain,World.cell?_drewN]
    exact cell?_putRow H_ _ w.heap.size 1 _ dk HH0.out (by rw [hF.size,Array.size_replicate]) j (by rw [hF.size];rw [Lib.decDigits_length] at hj;exact hj))
   rw [Lib.decDigits_length] at h
   exact h
  go_wp2
  go_ret
  obtain ⟨os,eo⟩:=Lib.fin_pos w (.cells Lib.zeros24 (ρ.t 171)) dk k
  exact ⟨by rw [Lib.itoa_nonneg];rfl,k,os,eo⟩
theorem Wp (L:LaysM.n243 P ρ) (n:Int) (h0 : -9223372036854775808<=n) (h1:n<=9223372036854775807) (w:World) (hT:MU (ρ.g 17) w) :
  Calls P (ρ.f 243) #[.int .i64 n] w fun e w'=>e = .returned (.string ⟨(Lib.itoa n).toArray⟩) /\ ∃ k os,w'=grow (w.drewN k) os:=by
 have mixed:=L.mixed
 have t3:=L.t3;have a3:=L.a3;have z3:=L.z3;have v3:=L.v3
 have t9:=L.t9;have a9:=L.a9;have z9:=L.z9;have v9:=L.v9
 have e246 : ∀ args w,(callFunc (ρ.f 246) args).run P w = .ok (.enter (ρ.f 246) args) w:=enters_of L.f246 (by kernel_rfl) rfl
 have hf:=Mg (ρ:=ρ) { L with } n h0 h1 w hT
 go_enter L.f243,Body.n243_ntmps ρ
 go_wp2_with (go_at_fn (ρ.f 246);refine hf.mono ?_;rintro e w' ⟨rfl,k,os,rfl⟩)
 go_ret
 exact ⟨rfl,k,os,rfl⟩
theorem Xm (L:LaysM.n171 P ρ) (n:Int) (h0 : -9223372036854775808<=n) (h1:n<=9223372036854775807) (w:World) (hT:MU (ρ.g 17) w) :
  Calls P (ρ.f 171) #[.int .i64 n] w fun e w'=>e = .returned (.string ⟨(Lib.itoa n).toArray⟩) /\ ∃ k os,w'=grow (w.drewN k) os:=by
 have mixed:=L.mixed
 have t3:=L.t3;have a3:=L.a3;have z3:=L.z3;have v3:=L.v3
 have t9:=L.t9;have a9:=L.a9;have z9:=L.z9;have v9:=L.v9
 have e243 : ∀ args w,(callFunc (ρ.f 243) args).run P w = .ok (.enter (ρ.f 243) args) w:=enters_of L.f243 (by kernel_rfl) rfl
 have hf:=Wp (ρ:=ρ) { L with } n h0 h1 w hT
 go_enter L.f171,Body.n171_ntmps ρ
 go_wp2_with (go_at_fn (ρ.f 243);refine hf.mono ?_;rintro e w' ⟨rfl,k,os,rfl⟩)
 go_ret
 exact ⟨rfl,k,os,rfl⟩
end
def dG (n:Int):ByteArray:=⟨(Lib.itoa n).toArray⟩
theorem Mi (R:PH) (w:World) (k:Nat) (os:Array Obj):Ext (· < w.heap.size) R R w (grow (w.drewN k) os):=by
 exact ⟨Kept.of (Lib.below_grow _ w (abp _) k os),PH.sub_refl _,fun _ _ _=>rfl⟩
theorem BX (n:Int) (h0 : -9223372036854775808<=n) (h1:n<=9223372036854775807):Pure Tryz.prog 89 [.one (.int .i64 n)] (.val (.one (.str (dG n)))):=by
 refine ⟨⟨_,Tryz.func89,by kernel_rfl,by kernel_rfl⟩,fun R w vs hR hs hv=>?_⟩
 obtain ⟨v,rfl⟩ : ∃ v,vs = #[v]:=by
  match vs,hs with
  | ⟨[v]⟩,_=>exact ⟨v,rfl⟩
 have:=hv 0 v _ rfl rfl
 cases this
 have hT:MU (Tryz.laysM171_ren.g 17) w:=fun q hq=>hR _ _ _ (R.tab q _ (by unfold tabCell;rw [if_pos hq];norm_cast))
 refine (show Calls Tryz.prog 89 #[.int .i64 n] w _ from Xm Tryz.laysM171 n h0 h1 w hT).mono ?_
 rintro e w' ⟨rfl,k,os,rfl⟩
 refine ⟨_,R,rfl,Mi R w k os,fun b o u h=>?_, .str _⟩
 have h1:=hR b o u h
 rw [<- h1];unfold World.cell?
 rw [show (grow (w.drewN k) os).heap[b]?=w.heap[b]? from (Mi R w k os).below.block b (lt_of_cell h1)]
open Go.RowKit Go.MapKept
set_option maxRecDepth 100000
def Dx:TI := { TV with dyn:=false }
theorem aN:TIok Tryz.prog Dx:=⟨au.size,au.agg,au.elem,au.field,au.zero,au.bytes,au.kind,au.struct,au.zok,au.eqs⟩
def ZR:TI := { Dx with soft:=true }
theorem aF:TIok Tryz.prog ZR:=⟨au.size,au.agg,au.elem,au.field,au.zero,au.bytes,au.kind,au.struct,au.zok,au.eqs⟩
def c32:ByteArray:=⟨#[32]⟩
def Uj (v:Val):Prop:=(-9223372036854775808<=v.kind/\v.kind<=9223372036854775807)/\(-9223372036854775808<=v.int/\v.int<=9223372036854775807)/\v.text.size<=10000000000
theorem tQ (n:Int) (h0 : -9223372036854775808<=n) (h1:n<=9223372036854775807):(dG n).size<=30/\0<(dG n).size:=by
 unfold dG
 show (Lib.itoa n).toArray.size<=30/\0<(Lib.itoa n).toArray.size
 rw [List.size_toArray]
 have key : ∀ u:Nat,u<18446744073709551616->Lib.nDigits u<=20:=by
  intro u h
  rcases Nat.eq_zero_or_pos u with rfl|h1
  ·rw [Lib.nDigits_small (by omega)];omega
  ·have:=Lib.numDigits_eq u h1 h;split at this<;>omega
 by_cases hn:n<0
 ·obtain ⟨u,rfl⟩ : ∃ u:Nat,n = -(u:Int):=⟨n.natAbs,by omega⟩
  rw [Lib.itoa_neg u (by omega),abw,Lib.decDigits_length]
  have:=key u (by omega);omega
 ·obtain ⟨u,rfl⟩ : ∃ u:Nat,n=(u:Int):=⟨n.toNat,by omega⟩
  rw [Lib.itoa_nonneg,Lib.decDigits_length]
  have:=key u (by omega);have:=Lib.nDigits_pos u;omega
def pB (fresh:Bool):SV:=if fresh then .c (.nul .ptr) else (.ep 0 (111+65536) 0 0)
theorem NQ {L:List Ob} {p:SV} {u:Nat} {s:ByteArray} {x:AV} {xs:List AV} (hL0:L[0]?=some (dV p u s 0)) (hL1:L[1]?=some (dU u s)) (hp:p.ren [0,1]=p) (hpb:p.below 2) (hx : ∀ y∈x::xs,y.below 2):qb [0,1] [dV p u s 0,dU u s] (x::xs) L:=by
 refine u7 ?_ (by rw [iH];exact hL1) (by decide) (dC hpb (by show 1<2;omega)) (bF _ _ _) hx
 rw [hL0]
 show some (Ob.row _ [[p,SV.sl 1 u 0 s.size]] 2)=some (Ob.row _ [[p.ren [0,1],SV.sl 1 u 0 s.size]] 2)
 rw [hp]
theorem j2 {L L':List Ob} {u:Nat} {s:ByteArray} (h:(L.set 0 (dV (.ep 0 (111+65536) 0 0) u s 0)).set 1 (dU u s)=L'):joinL [0,1] L [dV (.ep 0 (111+65536) 0 0) u s 0,dU u s]=L':=EN rfl (iH _ _ _) h
open Go.RowKit Go.MapKept
def RJ (s:ByteArray) (i:Int):Option UInt8:=if 0<=i then s[i.toNat]? else none
theorem JE {s:ByteArray} {i:Int} {x:UInt8} (h:RJ s i=some x):0<=i/\s[i.toNat]?=some x:=by
 unfold RJ at h
 by_cases h0:0<=i
 ·rw [if_pos h0] at h;exact ⟨h0,h⟩
 ·rw [if_neg h0] at h;cases h
section
variable {P:Program} {ti:TI} {N n0:Nat} {ds:List (Option Tmp)} {K:Tm->List Ob->Prop} {rest:List Oper} {o:Oper} {T:Tm} {L:List Ob}
theorem b_ {t:TypeId} {x ix:Operand} {s:ByteArray} {k0:IntKind} {i:Int} {b:UInt8} {d:Nat} (hd:o.dst=some d) (hN:Nat.blt d N=true) {g0:Bool} (hg:jk ds T o.guard=some g0) (ho:o.op = .index t x ix) (hx:look T x=some (.one (.c (.str s)))) (hi:look T ix=some (.one (.c (.int k0 i))))
  (hk:ti.kind t=some .string) (h:aU P ti N ds K rest ((d, .one (.c (.int .u8 ((b.toNat:Nat):Int))))::T) L) (hb:s[i.toNat]?=some b:=by assumption) (h0:0<=i:=by assumption) (hg1:g0=true:=by first|rfl|exact lq (by first|assumption|exact lL (by assumption))|exact kP (by first|assumption|exact lV (by assumption))):aU P ti N ds K (o::rest) T L :=
 ay (φ:=0<=i/\ti.kind t=some .string) hd hN (hg1▸hg) (by rw [ho];simp only [pop,hx,hi,ry,hb]) ⟨h0,hk⟩ h
theorem t5_ {v:AV} {φ:Prop} {d:Nat} (hd:o.dst=some d) (hN:Nat.blt d N=true) {g0:Bool} (hg:jk ds T o.guard=some g0) (hp:yj ti (look T) o.op=some (v,φ)) (h:aU P ti N ds K rest ((d,v)::T) L)
  (hφ:φ:=by repeat' (first|exact trivial|rfl|exact abj rfl|omega|refine List.forall_mem_cons.2 ⟨?_,?_⟩|exact fun _ h=>nomatch h|apply And.intro)) (hg1:g0=true:=by first|rfl|exact lq (by first|assumption|exact lL (by assumption))|exact kP (by first|assumption|exact lV (by assumption))):aU P ti N ds K (o::rest) T L:=aC hd hN (hg1▸hg) hp hφ h
end
theorem gs5_ {p q:Prop} (k:q) (h:Bx q->p:=by
 intro hq
 first|refine p_ rfl rfl rfl rfl rfl ?_|refine st_nil ?_|refine x_ rfl rfl rfl rfl rfl rfl rfl rfl ?_|refine l_ rfl rfl rfl rfl ?_|refine s_ rfl rfl rfl ?_|refine t5_ rfl rfl rfl rfl ?_|refine k_ rfl rfl rfl ?_|refine k0_ rfl rfl ?_|refine c_ rfl rfl rfl rfl ?_|refine pick_t rfl rfl rfl rfl rfl rfl rfl ?_|refine pick_f rfl rfl rfl rfl rfl rfl rfl ?_|refine aw_seq ?_|refine aw_region tab_ok _ rfl ?_|refine aw_drawn2 tabS_ok _ rfl mixed (by decide +kernel) ?_|refine aw_condT rfl ?_|refine aw_condF rfl ?_|refine aw_block ?_|refine aw_exit ?_|refine aw_ret ?_|refine aw_skip ?_|rw [abl]|rw [mn_norm]|rw [mx_norm]
 exact hq.out):p:=h ⟨k⟩
open Go.RowKit Go.MapKept
set_option maxRecDepth 100000
set_option maxHeartbeats 8000000
def kL:Option (Val):=some (⟨(0:Int),(0:Int),ByteArray.empty⟩:Val)
theorem ed {r:Val} (H:kL=some r):Pure Tryz.prog 94 [] (.val (.agg (cV r))):=by
 unfold kL at H
 refine po_ Tryz.func94 Tryz.ntmps94 ?_
 cases H
 exact go_
def uM (a_s:ByteArray):(Int)->Option (Step (Int) (Bool)):=fun s=>match s with
 | v_1=>bif (decide (v_1<((a_s.size:Nat):Int))) then (RJ a_s v_1).bind fun b_3=>bif (decide (((b_3.toNat:Nat):Int)<(32:Int))) then some (.ret false) else
 bif (decide ((126:Int)<((b_3.toNat:Nat):Int))) then some (.ret false) else
 some (.next (IntKind.i64.wrap (v_1+(1:Int)))) else
 some (.exit v_1)
def d_:Sum (Int) (Bool)->Option ((Bool))
 | .inl v_1=>some true
 | .inr q=>some q
def pV (a_s:ByteArray):Option (Bool):=(ax (uM a_s) fuel (0:Int)).bind (d_)
theorem F6 {a_s:ByteArray} {r:Bool} (H:pV a_s=some r):Pure Tryz.prog 187 [.one (.str a_s)] (.val (.one (.bool r))):=by
 unfold pV at H
 refine po_ Tryz.func187 Tryz.ntmps187 ?_
 repeat' (first|refine gs5_ ?_|refine b_ rfl rfl rfl rfl rfl rfl rfl ?_)
 refine alM_ (fun s:Int=>match s with|v_1=>[(0, .one (.c (.str a_s))),(5, .one (.c (.int .i64 ((a_s.size:Nat):Int)))),(6, .one (.c (.int .i64 v_1)))]) (fun s=>match s with|v_1=>[]) H (fun _=>abv _)
  (fm_ bV [] rfl bE trivial) ?_
 rintro v_1 st1 hb1 hk1
 unfold uM at hb1
 dsimp only at hb1 ⊢
 rcases cnd_ hb1 with ⟨q_2,hb1⟩|⟨q_2,hb1⟩
 ·obtain ⟨b_3,i1,hb1⟩:=bd_ hb1
  obtain ⟨i1z,i1⟩:=JE i1
  rcases cnd_ hb1 with ⟨q_4,hb1⟩|⟨q_4,hb1⟩
  ·cases hb1
   have hx1:d_ (.inr false)=some _:=hk1
   unfold d_ at hx1
   dsimp only at hx1
   cases hx1
   repeat' (first|refine gs5_ ?_|refine b_ rfl rfl rfl rfl rfl rfl rfl ?_)
   refine aO (aR rfl ?_ ?_)
   ·repeat' (first|exact trivial|rfl|exact abj rfl|omega|apply And.intro)
   ·first|rfl|(simp only [abm,abk,abo,abd]<;>rfl)
  rcases cnd_ hb1 with ⟨q_5,hb1⟩|⟨q_5,hb1⟩
  ·cases hb1
   have hx1:d_ (.inr false)=some _:=hk1
   unfold d_ at hx1
   dsimp only at hx1
   cases hx1
   repeat' (first|refine gs5_ ?_|refine b_ rfl rfl rfl rfl rfl rfl rfl ?_)
   refine aO (aR rfl ?_ ?_)
   ·repeat' (first|exact trivial|rfl|exact abj rfl|omega|apply And.intro)
   ·first|rfl|(simp only [abm,abk,abo,abd]<;>rfl)
  cases hb1
  repeat' (first|refine gs5_ ?_|refine b_ rfl rfl rfl rfl rfl rfl rfl ?_)
  exact ⟨_,rfl,fm_ bV [] rfl bE trivial⟩
 cases hb1
 have hx1:d_ (.inl v_1)=some _:=hk1
 unfold d_ at hx1
 dsimp only at hx1
 cases hx1
 repeat' (first|refine gs5_ ?_|refine b_ rfl rfl rfl rfl rfl rfl rfl ?_)
 refine aO (aR rfl ?_ ?_)
 ·repeat' (first|exact trivial|rfl|exact abj rfl|omega|apply And.intro)
 ·first|rfl|(simp only [abm,abk,abo,abd]<;>rfl)
def qa (a_v:Val):Option (Bool):=bif (decide (a_v.kind=(0:Int))) then bif (decide (a_v.int=(0:Int))) then some (a_v.text.toList==(⟨#[]⟩:ByteArray).toList) else
 some false else
 bif (decide (a_v.kind=(1:Int))) then bif (a_v.text.toList==(⟨#[]⟩:ByteArray).toList) then bif (decide ((-1125899906842624:Int)<=a_v.int)) then some (decide (a_v.int<=(1125899906842624:Int))) else
 some false else
 some false else
 bif (decide (a_v.kind=(2:Int))) then bif (decide (a_v.int=(0:Int))) then bif (decide (((a_v.text.size:Nat):Int)<=(200:Int))) then (pV a_v.text).bind fun r_9=>some r_9 else
 some false else
 some false else
 bif (decide (a_v.kind=(3:Int))) then bif (a_v.text.toList==(⟨#[]⟩:ByteArray).toList) then bif (decide (a_v.int=(0:Int))) then some true else
 some (decide (a_v.int=(1:Int))) else
 some false else
 some false
theorem yT {a_v:Val} {r:Bool} (H:qa a_v=some r):Pure Tryz.prog 153 [.agg (cV a_v)] (.val (.one (.bool r))):=by
 unfold qa at H
 refine po_ Tryz.func153 Tryz.ntmps153 ?_
 rcases cnd_ H with ⟨q_1,H⟩|⟨q_1,H⟩
 ·rcases cnd_ H with ⟨q_2,H⟩|⟨q_2,H⟩
  ·cases H
   exact go_
  cases H
  exact go_
 rcases cnd_ H with ⟨q_3,H⟩|⟨q_3,H⟩
 ·rcases cnd_ H with ⟨q_4,H⟩|⟨q_4,H⟩
  ·rcases cnd_ H with ⟨q_5,H⟩|⟨q_5,H⟩
   ·cases H
    exact go_
   cases H
   exact go_
  cases H
  exact go_
 rcases cnd_ H with ⟨q_6,H⟩|⟨q_6,H⟩
 ·rcases cnd_ H with ⟨q_7,H⟩|⟨q_7,H⟩
  ·rcases cnd_ H with ⟨q_8,H⟩|⟨q_8,H⟩
   ·obtain ⟨r_9,c1,H⟩:=bd_ H
    replace c1:=F6 c1
    cases H
    exact go_
   cases H
   exact go_
  cases H
  exact go_
 rcases cnd_ H with ⟨q_10,H⟩|⟨q_10,H⟩
 ·rcases cnd_ H with ⟨q_11,H⟩|⟨q_11,H⟩
  ·rcases cnd_ H with ⟨q_12,H⟩|⟨q_12,H⟩
   ·cases H
    exact go_
   cases H
   exact go_
  cases H
  exact go_
 cases H
 exact go_
def ug (a_v:Val):Option (Val):=(qa a_v).bind fun r_1=>bif (!r_1) then (kL ).bind fun r_3=>some r_3 else
 some a_v
theorem Es {a_v:Val} {r:Val} (H:ug a_v=some r):Pure Tryz.prog 129 [.agg (cV a_v)] (.val (.agg (cV r))):=by
 unfold ug at H
 refine po_ Tryz.func129 Tryz.ntmps129 ?_
 obtain ⟨r_1,c1,H⟩:=bd_ H
 replace c1:=yT c1
 rcases cnd_ H with ⟨q_2,H⟩|⟨q_2,H⟩
 ·obtain ⟨r_3,c2,H⟩:=bd_ H
  replace c2:=ed c2
  cases H
  exact go_
 cases H
 exact go_
def mK (a_n:Int):Option (Val):=(ug (⟨(1:Int),a_n,ByteArray.empty⟩:Val)).bind fun r_1=>some r_1
theorem j5 {a_n:Int} {r:Val} (H:mK a_n=some r):Pure Tryz.prog 93 [.one (.int .i64 a_n)] (.val (.agg (cV r))):=by
 unfold mK at H
 refine po_ Tryz.func93 Tryz.ntmps93 ?_
 obtain ⟨r_1,c1,H⟩:=bd_ H
 replace c1:=Es c1
 cases H
 exact go_
def BV (a_s:ByteArray):Option (Val):=(ug (⟨(2:Int),(0:Int),a_s⟩:Val)).bind fun r_1=>some r_1
theorem RY {a_s:ByteArray} {r:Val} (H:BV a_s=some r):Pure Tryz.prog 159 [.one (.str a_s)] (.val (.agg (cV r))):=by
 unfold BV at H
 refine po_ Tryz.func159 Tryz.ntmps159 ?_
 obtain ⟨r_1,c1,H⟩:=bd_ H
 replace c1:=Es c1
 cases H
 exact go_
def vL (a_b:Bool):Option (Val):=bif a_b then some (⟨(3:Int),(1:Int),ByteArray.empty⟩:Val) else
 some (⟨(3:Int),(0:Int),ByteArray.empty⟩:Val)
theorem rW {a_b:Bool} {r:Val} (H:vL a_b=some r):Pure Tryz.prog 114 [.one (.bool a_b)] (.val (.agg (cV r))):=by
 unfold vL at H
 refine po_ Tryz.func114 Tryz.ntmps114 ?_
 rcases cnd_ H with ⟨q_1,H⟩|⟨q_1,H⟩
 ·cases H
  exact go_
 cases H
 exact go_
open Go.RowKit Go.MapKept
set_option maxRecDepth 100000
set_option maxHeartbeats 8000000
def Yr (a_p:iQ):Option (Bool):=bif (decide ((0:Int)<=a_p.lo)) then bif (decide (a_p.lo<a_p.hi)) then some (decide (a_p.hi<=(1099511627776:Int))) else
 some false else
 some false
theorem U0 {a_p:iQ} {r:Bool} (H:Yr a_p=some r):Pure Tryz.prog 189 [.agg (yK a_p)] (.val (.one (.bool r))):=by
 unfold Yr at H
 refine po_ Tryz.func189 Tryz.ntmps189 ?_
 rcases cnd_ H with ⟨q_1,H⟩|⟨q_1,H⟩
 ·rcases cnd_ H with ⟨q_2,H⟩|⟨q_2,H⟩
  ·cases H
   exact go_
  cases H
  exact go_
 cases H
 exact go_
open Go.RowKit Go.MapKept
section
variable {P:Program} {ti:TI} {N:Nat} {ds:List (Option Tmp)} {K:Tm->List Ob->Prop} {rest:List Oper} {o:Oper} {T:Tm} {L:List Ob}
theorem NZ {a b:List SV} (h:b.length=a.length):splice a 0 b=b:=by
 unfold splice
 rw [List.take_zero,abd,abR,List.drop_of_length_le (by omega),abJ]
theorem D6 {α:Type} {enc:α->List AC} {X:List α} {v:α} {t:TypeId} {p q:Operand} {id ver i k:Nat} (hd:o.dst=none) (hg:jk ds T o.guard=some true) (ho:o.op = .store t p q) (hp:look T p=some (.one (.ep id ver i 0))) (hL:L[id]?=some (.row ver ((X.map enc).map (List.map SV.c)) k)) (hx:i<X.length)
  (hq:(look T q).bind AV.cells=some ((enc v).map SV.c)) (hk : ∀ x,(enc x).length=k) (hsz:ti.size t=some k) (h:aU P ti N ds K rest T (L.set id (.row ver (((X.set i v).map enc).map (List.map SV.c)) k))):aU P ti N ds K (o::rest) T L:=by
 obtain ⟨x,hx⟩:=gol_ hx
 have hl:((enc v).map SV.c).length=((enc x).map SV.c).length:=by rw [abl,abl,hk,hk]
 have he:((X.map enc).map (List.map SV.c))[i]?=some ((enc x).map SV.c):=by rw [abx,abx,hx];rfl
 refine vV hd hg ho hp hq hL he ⟨by rw [abR,hl];exact abp _,by rw [abl,hk];exact hsz⟩ ?_ h
 rw [NZ hl,List.map_set,List.map_set]
end
theorem lg {α:Type} (n v k:Nat) (enc:α->List AC) (X:List α):(Ob.row v ((X.map enc).map (List.map SV.c)) k).below n:=by
 intro e he x hx
 rw [List.map_map] at he
 obtain ⟨y,_,rfl⟩:=abK.1 he
 obtain ⟨z,_,rfl⟩:=abK.1 hx
 trivial
end Go.Proofs.YtfpbmfalamappaaGreatDoor
