/- Parts of the proof, joined. No condition. -/
import Derived.Test.YtnbnpnmkgemdeaaGreatDoorKAA
import Derived.Test.YtnbnpnmkgemdeaaGreatDoorKAH
import Derived.Test.YtnbnpnmkgemdeaaGreatDoorKAI
import Derived.Test.YtnbnpnmkgemdeaaGreatDoorKAG
set_option linter.unusedSimpArgs false
set_option linter.unusedVariables false
namespace Go.Proofs.YtnbnpnmkgemdeaaGreatDoor
open Go.RowKit Go.MapKept
structure Val where
 kind:Int
 int:Int
 text:ByteArray
def cV (x:Val):List AC:=[.int .i64 x.kind, .int .i64 x.int, .str x.text]
structure aW where
 kinds:(List Int)
 rows:(List (List Val))
def bJ (x:aW):List AC:=[.lst (x.kinds.map (fun x=>[AC.int .i64 x])), .lst (x.rows.map (fun x=>[AC.lst (x.map cV)]))]
structure eG where
 lo:Int
 hi:Int
def oC (x:eG):List AC:=[.int .i64 x.lo, .int .i64 x.hi]
structure zl where
 id:Int
 schema:Int
 row:(List Val)
 valid:eG
 system:eG
 by_:Int
 til:Int
def rY (x:zl):List AC:=[.int .i64 x.id, .int .i64 x.schema, .lst (x.row.map cV), .int .i64 x.valid.lo, .int .i64 x.valid.hi, .int .i64 x.system.lo, .int .i64 x.system.hi, .int .i64 x.by_, .int .i64 x.til]
inductive Ex where
 | mk (op:Int) (int:Int) (v:Val) (nm:ByteArray) (args:(List Ex))
mutual
def tE:Ex->List AC
 | .mk op int v nm args=>[.int .i64 op, .int .i64 int, .int .i64 v.kind, .int .i64 v.int, .str v.text, .str nm, .lst (Ww args)]
def Ww:List Ex->List (List AC)
 | []=>[]
 | e::l=>tE e::Ww l
end
theorem Im : ∀ (l:List Ex),Ww l=l.map tE
 | []=>by simp [Ww]
 | e::l=>by simp [Ww,Im l]
def Ex.op:Ex->Int | .mk a _ _ _ _=>a
def Ex.int:Ex->Int | .mk _ a _ _ _=>a
def Ex.v:Ex->Val | .mk _ _ a _ _=>a
def Ex.nm:Ex->ByteArray | .mk _ _ _ a _=>a
def Ex.args:Ex->(List Ex) | .mk _ _ _ _ a=>a
theorem aF (e:Ex):tE e=[.int .i64 e.op, .int .i64 e.int, .int .i64 e.v.kind, .int .i64 e.v.int, .str e.v.text, .str e.nm, .lst (e.args.map tE)]:=by
 obtain ⟨_,_,_,_,_⟩:=e
 rw [tE,Im];rfl
theorem GV (e:Ex):(tE e).length=7:=by rw [aF];rfl
structure Ag where
 op:Int
 arg:Int
def Km (x:Ag):List AC:=[.int .i64 x.op, .int .i64 x.arg]
inductive Pl where
 | mk (op:Int) (int:Int) (kinds:(List Int)) (rows:(List (List Val))) (pred:Ex) (exprs:(List Ex)) (keys:(List Int)) (aggs:(List Ag)) (inputs:(List Pl))
mutual
def tP:Pl->List AC
 | .mk op int kinds rows pred exprs keys aggs inputs=>[.int .i64 op, .int .i64 int, .lst (kinds.map (fun x=>[AC.int .i64 x])), .lst (rows.map (fun x=>[AC.lst (x.map cV)]))]++tE pred++[.lst (exprs.map tE), .lst (keys.map (fun x=>[AC.int .i64 x])), .lst (aggs.map Km), .lst (WL inputs)]
def WL:List Pl->List (List AC)
 | []=>[]
 | e::l=>tP e::WL l
end
theorem MX : ∀ (l:List Pl),WL l=l.map tP
 | []=>by simp [WL]
 | e::l=>by simp [WL,MX l]
def Pl.op:Pl->Int | .mk a _ _ _ _ _ _ _ _=>a
def Pl.int:Pl->Int | .mk _ a _ _ _ _ _ _ _=>a
def Pl.kinds:Pl->(List Int) | .mk _ _ a _ _ _ _ _ _=>a
def Pl.rows:Pl->(List (List Val)) | .mk _ _ _ a _ _ _ _ _=>a
def Pl.pred:Pl->Ex | .mk _ _ _ _ a _ _ _ _=>a
def Pl.exprs:Pl->(List Ex) | .mk _ _ _ _ _ a _ _ _=>a
def Pl.keys:Pl->(List Int) | .mk _ _ _ _ _ _ a _ _=>a
def Pl.aggs:Pl->(List Ag) | .mk _ _ _ _ _ _ _ a _=>a
def Pl.inputs:Pl->(List Pl) | .mk _ _ _ _ _ _ _ _ a=>a
theorem aQ (e:Pl):tP e=[.int .i64 e.op, .int .i64 e.int, .lst (e.kinds.map (fun x=>[AC.int .i64 x])), .lst (e.rows.map (fun x=>[AC.lst (x.map cV)])), .int .i64 e.pred.op, .int .i64 e.pred.int, .int .i64 e.pred.v.kind, .int .i64 e.pred.v.int, .str e.pred.v.text, .str e.pred.nm, .lst (e.pred.args.map tE), .lst (e.exprs.map tE), .lst (e.keys.map (fun x=>[AC.int .i64 x])), .lst (e.aggs.map Km), .lst (e.inputs.map tP)]:=by
 obtain ⟨_,_,_,_,⟨_,_,_,_,_⟩,_,_,_,_⟩:=e
 rw [tP,MX,tE,Im];rfl
theorem GY (e:Pl):(tP e).length=15:=by rw [aQ];rfl
structure Ip where
 kinds:(List Int)
 versions:(List zl)
def Aq (x:Ip):List AC:=[.lst (x.kinds.map (fun x=>[AC.int .i64 x])), .lst (x.versions.map rY)]
structure tZ where
 row:(List Val)
 valid:eG
def xV (x:tZ):List AC:=[.lst (x.row.map cV), .int .i64 x.valid.lo, .int .i64 x.valid.hi]
structure Az where
 a:Int
 b:Int
def OC (x:Az):List AC:=[.int .i64 x.a, .int .i64 x.b]
open Go.RowKit Go.MapKept
inductive Step (σ ρ:Type) where
 | next (s:σ)
 | exit (s:σ)
 | ret (r:ρ)
def ah {σ ρ:Type} (body:σ->Option (Step σ ρ)):Nat->σ->Option (Sum σ ρ)
 | 0,_=>none
 | n+1,s=>match body s with
  | none=>none
  | some (.next s')=>ah body n s'
  | some (.exit s')=>some (.inl s')
  | some (.ret r)=>some (.inr r)
def fuel:Nat:=4611686018427387904
def au {α:Type} (l:List α) (i:Int):Option α:=if 0<=i then l[i.toNat]? else none
def pK {α:Type} (l:List α) (a b:Int):Option (List α):=if 0<=a/\a<=b/\b<=(l.length:Nat) then some ((l.take b.toNat).drop a.toNat) else none
theorem bd_ {α β:Type} {x:Option α} {f:α->Option β} {r:β} (h:x.bind f=some r) : ∃ a,x=some a/\f a=some r:=by
 cases x with
 | none=>cases h
 | some a=>exact ⟨a,rfl,h⟩
theorem uV {α:Type} {l:List α} {i:Int} {x:α} (h:au l i=some x):0<=i/\l[i.toNat]?=some x:=by
 unfold au at h
 by_cases h0:0<=i
 ·rw [if_pos h0] at h;exact ⟨h0,h⟩
 ·rw [if_neg h0] at h;cases h
theorem iZ {α:Type} {l r:List α} {a b:Int} (h:pK l a b=some r):(0<=a/\a<=b/\b<=(l.length:Nat))/\r=(l.take b.toNat).drop a.toNat:=by
 unfold pK at h
 by_cases h0:0<=a/\a<=b/\b<=(l.length:Nat)
 ·rw [if_pos h0] at h;exact ⟨h0,(Zw h).symm⟩
 ·rw [if_neg h0] at h;cases h
theorem xg {c:Bool} {β:Type} {x:Option β} {r:β} (h:(bif c then x else none)=some r):c=true/\x=some r:=by
 cases c with
 | true=>exact ⟨rfl,h⟩
 | false=>cases h
theorem Yd {α:Type} {l:List α} {f:α->List AC} {i:Int} {x:α} (h:l[i.toNat]?=some x):(l.map f)[i.toNat]?=some (f x):=by rw [Zl,h];rfl
theorem D6 {α:Type} {f:α->List AC} {k:Nat} (hf : ∀ x,(f x).length=k) (l:List α) : ∀ e∈l.map f,e.length=k:=by
 intro e he;simp only [Zz] at he;obtain ⟨x,_,rfl⟩:=he;exact hf x
section
variable {P:Program} {ti:TI} {N n0:Nat} {Q:AX->Tm->List Ob->Prop} {T:Tm} {L:List Ob}
@[reducible] def After {σ ρ γ:Type} (K:Sum σ ρ->Option γ) (r:γ):Step σ ρ->Prop
 | .next _=>True
 | .exit s=>K (.inl s)=some r
 | .ret q=>K (.inr q)=some r
theorem alM_ {σ ρ γ:Type} {c:Code} {body:σ->Option (Step σ ρ)} {K:Sum σ ρ->Option γ} {r:γ} {s0:σ} (TT:σ->Tm) (LL:σ->List Ob) (h:(ah body fuel s0).bind K=some r) (hn1 : ∀ s,n0<=(LL s).length) (hf:Fits T L (TT s0) (LL s0))
  (round : ∀ s st,body s=some st->After K r st->Aw P N n0 c (AX.then (fun T' L' => ∃ s',st = .next s'/\Fits T' L' (TT s') (LL s')) Q) (TT s) (LL s)):Aw P N n0 (.loop c) Q T L:=by
 refine qU (fun s:Nat × σ=>TT s.2) (fun s=>LL s.2) (fun s=>(ah body s.1 s.2).bind K=some r) (fun s=>s.1) (fuel,s0) h (fun s _=>hn1 s.2) hf ?_
 rintro ⟨n,s⟩ hok
 dsimp only at hok ⊢
 cases n with
 | zero=>cases hok
 | succ n =>
  rw [ah] at hok
  cases hb:body s with
  | none=>rw [hb] at hok;cases hok
  | some st =>
   rw [hb] at hok
   refine Aw.mono (round s st hb ?_) ?_
   ·cases st with
    | next s'=>trivial
    | exit s'=>exact hok
    | ret q=>exact hok
   ·intro x T' L' hq
    cases x with
    | normal =>
     obtain ⟨s',rfl,hfit⟩:=hq
     exact ⟨(n,s'),hok,Nat.lt_succ_self n,hfit⟩
    | exit id=>exact hq
    | ret=>exact hq
end
def WS (a b:Int):Int:=if b<a then b else a
def M4 (a b:Int):Int:=if b > a then b else a
theorem mn_norm (a b:Int):(if false=true then (if b > a then b else a) else (if b<a then b else a))=WS a b:=rfl
theorem mx_norm (a b:Int):(if true=true then (if b > a then b else a) else (if b<a then b else a))=M4 a b:=rfl
theorem Jg {α:Type} {f:α->List AC} {l r:List α} {a b:Int} (h:r=(l.take b.toNat).drop a.toNat):((l.map f).take b.toNat).drop a.toNat=r.map f:=by rw [h, <- List.map_take, <- List.map_drop]
def QM (n:Nat):SV->Bool
 | .c _=>true
 | .emp=>true
 | .own _ t=>Nat.blt t n
 | .ptr id _=>Nat.blt id n
 | _=>false
def LH (n:Nat):List SV->Bool
 | []=>true
 | x::l=>and (QM n x) (LH n l)
theorem Od {n:Nat} {x:SV} (h:QM n x=true):x.below n:=by
 cases x with
 | c _=>trivial
 | emp=>trivial
 | own _ t=>exact Y8 h
 | ptr id _=>exact Y8 h
 | sl=>cases h
 | ep=>cases h
 | mp=>cases h
 | clo=>cases h
theorem gH {n:Nat} : ∀ {cs:List SV}, LH n cs=true->(Ob.box cs).below n
 | [],_=>fun x hx=>by cases hx
 | c::cs,h=>fun x hx=>by
  rw [LH,Zg] at h
  rcases Zf.1 hx with rfl|hx
  ·exact Od h.1
  ·exact gH h.2 x hx
section
variable {P:Program} {ti:TI} {N n0:Nat} {ds:List (Option Tmp)} {K:Tm->List Ob->Prop} {rest:List Oper} {o:Oper} {T:Tm} {L:List Ob}
theorem ll {b:Bool} (h:b=true):(b==true)=true:=by rw [h];rfl
theorem lg {b:Bool} (h:b=false):(b==false)=true:=by rw [h];rfl
theorem Ro {b:Bool} (h:b=false):(b==true)=false:=by rw [h];rfl
theorem QC {b:Bool} (h:b=true):(b==false)=false:=by rw [h];rfl
theorem lG {e:Bool} (h:e=false):(!e)=true:=by rw [h];rfl
theorem lH {e:Bool} (h:e=true):(!e)=false:=by rw [h];rfl
def UM:Op->Bool
 | .pick _ _ _=>true
 | _=>false
theorem p_ {v:AV} {φ:Prop} {d:Nat} (_:UM o.op=false) (hd:o.dst=some d) (hN:Nat.blt d N=true) {g0:Bool} (hg:iR ds T o.guard=some g0) (hp:pop ti (look T) L o.op=some (v,φ)) (h:aM P ti N ds K rest ((d,v)::T) L)
  (hφ:φ:=by repeat' (first|exact trivial|rfl|exact Y8 rfl|omega|assumption|exact D6 (by intro _;rfl) _|exact D6 GV _|exact D6 GY _|(intro e he;simp at he;subst he;rfl)|(simp only [Y_];omega)|apply And.intro)) (hg1:g0=true:=by first|rfl|exact ll (by first|assumption|exact lG (by assumption))|exact lg (by first|assumption|exact lH (by assumption))):aM P ti N ds K (o::rest) T L:=aL hd hN (hg1▸hg) hp hφ h
theorem l_ {v:AV} {L':List Ob} {φ:Prop} {d:Nat} (hd:o.dst=some d) (hN:Nat.blt d N=true) {g0:Bool} (hg:iR ds T o.guard=some g0) (hp:Ed ti (look T) L o.op=some (v,L',φ)) (h:aM P ti N ds K rest ((d,v)::T) L')
  (hφ:φ:=by repeat' (first|exact trivial|rfl|exact Y8 rfl|omega|exact D6 (by intro _;rfl) _|exact D6 GV _|exact D6 GY _|(intro e he;simp at he;subst he;rfl)|exact Y_ _|(simp only [Y_,Y6,Zk,Zu,ZG]<;>omega)|apply And.intro)) (hg1:g0=true:=by first|rfl|exact ll (by first|assumption|exact lG (by assumption))|exact lg (by first|assumption|exact lH (by assumption))):aM P ti N ds K (o::rest) T L:=aP hd hN (hg1▸hg) hp hφ h
theorem s_ {v:AV} {L':List Ob} {φ:Prop} (hd:o.dst=none) {g0:Bool} (hg:iR ds T o.guard=some g0) (hp:Ed ti (look T) L o.op=some (v,L',φ)) (h:aM P ti N ds K rest T L') (hφ:φ:=by repeat' (first|exact trivial|rfl|exact Y8 rfl|omega|apply And.intro)) (hg1:g0=true:=by first|rfl|exact ll (by first|assumption|exact lG (by assumption))|exact lg (by first|assumption|exact lH (by assumption))):aM P ti N ds K (o::rest) T L:=sS_ hd (hg1▸hg) hp hφ h
theorem t_ {v:AV} {φ:Prop} {d:Nat} (hd:o.dst=some d) (hN:Nat.blt d N=true) {g0:Bool} (hg:iR ds T o.guard=some g0) (hp:vN ti (look T) o.op=some (v,φ)) (h:aM P ti N ds K rest ((d,v)::T) L)
  (hφ:φ:=by repeat' (first|exact trivial|rfl|exact Y8 rfl|omega|(intro e he;simp at he;subst he;rfl)|(intro e he;simp at he;rcases he with rfl|rfl<;>rfl)|(intro e he;simp at he;rcases he with rfl|rfl|rfl<;>rfl)|(intro e he;simp at he;rcases he with rfl|rfl|rfl|rfl<;>rfl)|apply And.intro)) (hg1:g0=true:=by first|rfl|exact ll (by first|assumption|exact lG (by assumption))|exact lg (by first|assumption|exact lH (by assumption))):aM P ti N ds K (o::rest) T L:=aO hd hN (hg1▸hg) hp hφ h
theorem c_ {g:FuncId} {ps:List PV} {r:CV} {d:Nat} {v:AV} (hd:o.dst=some d) (hN:Nat.blt d N=true) {g0:Bool} (hg:iR ds T o.guard=some g0) (hp:qR (look T) o.op=some (g,ps)) (h:aM P ti N ds K rest ((d,v)::T) L) (hc:Pure P g ps r:=by assumption) (hv:r.av=v:=by rfl) (hg1:g0=true:=by first|rfl|exact ll (by first|assumption|exact lG (by assumption))|exact lg (by first|assumption|exact lH (by assumption))):aM P ti N ds K (o::rest) T L:=aJ hd hN (hg1▸hg) hp hc hv h
theorem x_ {t:TypeId} {x ix:Operand} {vx:AV} {es:List (List AC)} {k0:IntKind} {i:Int} {k d:Nat} {e:List AC} (hd:o.dst=some d) (hN:Nat.blt d N=true) {g0:Bool} (hg:iR ds T o.guard=some g0) (ho:o.op = .indexAddr t x ix) (hx:look T x=some vx) (hl:ed vx=some es) (hi:look T ix=some (.one (.c (.int k0 i))))
  (hk:(ti.elem t).bind ti.size=some k) (h:aM P ti N ds K rest ((d, .one (.c (.ref e)))::T) L) (he:es[i.toNat]?=some e:=by assumption) (h0:0<=i:=by assumption) (hl2:e.length=k:=by rfl) (hg1:g0=true:=by first|rfl|exact ll (by first|assumption|exact lG (by assumption))|exact lg (by first|assumption|exact lH (by assumption))):aM P ti N ds K (o::rest) T L:=eX hd hN (hg1▸hg) ho hx hl hi hk he ⟨h0,hl2⟩ h
theorem pick_t {c a b:Operand} {e:Bool} {va vb:AV} {d:Nat} (hd:o.dst=some d) (hN:Nat.blt d N=true) {g0:Bool} (hg:iR ds T o.guard=some g0) (ho:o.op = .pick c a b) (hc:look T c=some (.one (.c (.bool e)))) (ha:look T a=some va) (hb:look T b=some vb) (h:aM P ti N ds K rest ((d,va)::T) L)
  (he:e=true:=by first|rfl|assumption|exact lG (by assumption)) (hg1:g0=true:=by first|rfl|exact ll (by first|assumption|exact lG (by assumption))|exact lg (by first|assumption|exact lH (by assumption))):aM P ti N ds K (o::rest) T L:=aL hd hN (hg1▸hg) (by rw [ho];simp only [pop,hc,ha,hb];rw [if_pos he]) trivial h
theorem pick_f {c a b:Operand} {e:Bool} {va vb:AV} {d:Nat} (hd:o.dst=some d) (hN:Nat.blt d N=true) {g0:Bool} (hg:iR ds T o.guard=some g0) (ho:o.op = .pick c a b) (hc:look T c=some (.one (.c (.bool e)))) (ha:look T a=some va) (hb:look T b=some vb) (h:aM P ti N ds K rest ((d,vb)::T) L)
  (he:e=false:=by first|rfl|assumption|exact lH (by assumption)) (hg1:g0=true:=by first|rfl|exact ll (by first|assumption|exact lG (by assumption))|exact lg (by first|assumption|exact lH (by assumption))):aM P ti N ds K (o::rest) T L:=aL hd hN (hg1▸hg) (by rw [ho];simp only [pop,hc,ha,hb];rw [if_neg (by rw [he];decide)]) trivial h
theorem k_ {d:Nat} {g0:Bool} (hd:o.dst=some d) (hN:Nat.blt d N=true) (hg:iR ds T o.guard=some g0) (h:aM P ti N ds K rest ((d, .undef)::T) L) (hg1:g0=false:=by first|rfl|exact Ro (by first|assumption|exact lH (by assumption))|exact QC (by first|assumption|exact lG (by assumption))):aM P ti N ds K (o::rest) T L:=aH hd hN (hg1▸hg) h
theorem k0_ {g0:Bool} (hd:o.dst=none) (hg:iR ds T o.guard=some g0) (h:aM P ti N ds K rest T L) (hg1:g0=false:=by first|rfl|exact Ro (by first|assumption|exact lH (by assumption))|exact QC (by first|assumption|exact lG (by assumption))):aM P ti N ds K (o::rest) T L:=sk0_ hd (hg1▸hg) h
theorem aw_condT {Q:AX->Tm->List Ob->Prop} {c:Operand} {x y:Code} {b:Bool} (hc:look T c=some (.one (.c (.bool b)))) (h:Aw P N n0 x Q T L) (hb:b=true:=by first|rfl|assumption|exact lG (by assumption)):Aw P N n0 (.cond c x y) Q T L:=aG hc (fun _=>h) (fun e=>by rw [hb] at e;cases e)
theorem aw_condF {Q:AX->Tm->List Ob->Prop} {c:Operand} {x y:Code} {b:Bool} (hc:look T c=some (.one (.c (.bool b)))) (h:Aw P N n0 y Q T L) (hb:b=false:=by first|rfl|assumption|exact lH (by assumption)):Aw P N n0 (.cond c x y) Q T L:=aG hc (fun e=>by rw [hb] at e;cases e) (fun _=>h)
end
theorem aj {p:Prop} (h:p:=by
 repeat' (first
  | refine p_ rfl rfl rfl rfl rfl ?_|refine st_nil ?_|refine x_ rfl rfl rfl rfl rfl rfl rfl rfl ?_|refine l_ rfl rfl rfl rfl ?_|refine s_ rfl rfl rfl ?_|refine t_ rfl rfl rfl rfl ?_|refine k_ rfl rfl rfl ?_|refine k0_ rfl rfl ?_|refine c_ rfl rfl rfl rfl ?_|refine pick_t rfl rfl rfl rfl rfl rfl rfl ?_|refine pick_f rfl rfl rfl rfl rfl rfl rfl ?_|refine aw_seq ?_|refine aw_region tab_ok _ rfl ?_|refine aw_drawn2 tabS_ok _ rfl mixed (by decide +kernel) ?_|refine aw_condT rfl ?_|refine aw_condF rfl ?_|refine aw_block ?_|refine aw_exit ?_|refine aw_ret ?_|refine aw_skip ?_|rw [Y_]|rw [mn_norm]|rw [mx_norm])
 refine aV (aX rfl ?_ ?_)
 ·repeat' (first|exact trivial|rfl|exact Y8 rfl|omega|apply And.intro)
 ·first|rfl|(simp only [Zb,Y9,Zd,Y3]<;>rfl)):p:=h
structure Bx (q:Prop):Prop where
 out:q
theorem gs_ {p q:Prop} (k:q) (h:Bx q->p:=by
 intro hq
 first|refine p_ rfl rfl rfl rfl rfl ?_|refine st_nil ?_|refine x_ rfl rfl rfl rfl rfl rfl rfl rfl ?_|refine l_ rfl rfl rfl rfl ?_|refine s_ rfl rfl rfl ?_|refine t_ rfl rfl rfl rfl ?_|refine k_ rfl rfl rfl ?_|refine k0_ rfl rfl ?_|refine c_ rfl rfl rfl rfl ?_|refine pick_t rfl rfl rfl rfl rfl rfl rfl ?_|refine pick_f rfl rfl rfl rfl rfl rfl rfl ?_|refine aw_seq ?_|refine aw_region tab_ok _ rfl ?_|refine aw_drawn2 tabS_ok _ rfl mixed (by decide +kernel) ?_|refine aw_condT rfl ?_|refine aw_condF rfl ?_|refine aw_block ?_|refine aw_exit ?_|refine aw_ret ?_|refine aw_skip ?_|rw [Y_]|rw [mn_norm]|rw [mx_norm]
 exact hq.out):p:=h ⟨k⟩
theorem gs0_ {p q:Prop} (k:q) (h:Bx q->p:=by
 intro hq
 first|refine p_ rfl rfl rfl rfl rfl ?_|refine st_nil ?_|refine x_ rfl rfl rfl rfl rfl rfl rfl rfl ?_|refine l_ rfl rfl rfl rfl ?_|refine s_ rfl rfl rfl ?_|refine t_ rfl rfl rfl rfl ?_|refine k_ rfl rfl rfl ?_|refine k0_ rfl rfl ?_|refine c_ rfl rfl rfl rfl ?_|refine pick_t rfl rfl rfl rfl rfl rfl rfl ?_|refine pick_f rfl rfl rfl rfl rfl rfl rfl ?_|refine aw_seq ?_|refine aw_condT rfl ?_|refine aw_condF rfl ?_|refine aw_block ?_|refine aw_exit ?_|refine aw_ret ?_|refine aw_skip ?_|rw [Y_]|rw [mn_norm]|rw [mx_norm]
 exact hq.out):p:=h ⟨k⟩
theorem bf {p q:Prop} (k:q) (h:Bx q->p:=by
 intro hq
 repeat' (first
  | refine gs_ ?_)
 exact hq.out):p:=h ⟨k⟩
theorem aa {β:Type} {c:Bool} {x y:Option β} {r:β} (H:(bif c then x else y)=some r):(c=true/\x=some r)\/(c=false/\y=some r):=by
 cases c with
 | true=>exact .inl ⟨rfl,H⟩
 | false=>exact .inr ⟨rfl,H⟩
theorem az {p:Prop} [Decidable p] {β:Type} {x:Option β} {r:β} (H:(bif decide p then x else none)=some r):p/\x=some r:=by
 obtain ⟨h,k⟩:=xg H
 exact ⟨Zr h,k⟩
theorem aI {α β:Type} {l:List α} {f:α->List AC} {i:Int} {k:α->Option β} {r:β} (H:(au l i).bind k=some r) : ∃ x,0<=i/\l[i.toNat]?=some x/\(l.map f)[i.toNat]?=some (f x)/\k x=some r:=by
 obtain ⟨x,h,K⟩:=bd_ H
 obtain ⟨h0,h1⟩:=uV h
 exact ⟨x,h0,h1,Yd h1,K⟩
theorem YE {a b:Nat} (h:Nat.blt a b=true:=by rfl):a<b:=Y8 h
theorem bL {p:Prop} (h:p:=by repeat' (first|refine ⟨?_,?_⟩|exact trivial|rfl)):p:=h
theorem oH {p:Prop} (h:p:=by repeat' (first|refine ⟨?_,?_⟩|exact trivial|rfl|(simp only [Zb,Y9,Zd,Y3]<;>rfl))):p:=h
theorem bq {p:Prop} (h:p:=by repeat' (first|refine ⟨?_,?_⟩|exact trivial|exact YE|omega)):p:=h
theorem cO {p:Prop} (h:p:=by repeat' (first|refine ⟨?_,?_⟩|exact trivial|exact gH (by rfl)|exact uX (Y8 rfl))):p:=h
theorem kI {p:Prop} (h:p:=by simp only [Y6,Zk,Zu,ZG,Zb,Y9,Zd]<;>rfl):p:=h
theorem po_ {P : Program} {ti : TI} {N : Nat} {f : FuncId} {fn : Func} {c : Code} {args : List PV} {r : CV} (hf : P.funcs[f]? = some fn) (hN : fn.ntmps = N) {T : Tm} (h : Aw P N 0 c (fun x T L => (x = .normal \/ x = .ret) /\ Res ti fn.results.toList T L r) T []) (hti : TIok P ti := by exact tab_ok) (hb : fn.body = some c := by rfl) (hname : (fn.name == "runtime.NumGoroutine") = false := by rfl) (hlen : args.length <= N := by simp) (hT : argT 0 args = T := by simp only [argT, PV.av, Y9, Zd] <;> rfl) : Pure P f args r := pa_ hti hf hb hname hN hlen (hT ▸ h)
open Go.RowKit Go.MapKept
def bU {α σ ρ:Type} (f:σ->α->Option (Sum σ ρ)):σ->List α->Option (Sum σ ρ)
 | s,[]=>some (.inl s)
 | s,x::l=>match f s x with
  | none=>none
  | some (.inl s')=>bU f s' l
  | some (.inr r)=>some (.inr r)
section
variable {α σ ρ S:Type} {l:List α} {body:S->Option (Step S ρ)}
def DR (mk:σ->Int->S) (n:Nat):Option (Sum σ ρ)->Option (Sum S ρ)
 | none=>none
 | some (.inl s')=>some (.inl (mk s' n))
 | some (.inr r)=>some (.inr r)
def o7 (mk:σ->Int->S) (i:Nat):Option (Sum σ ρ)->Option (Step S ρ)
 | none=>none
 | some (.inl s')=>some (.next (mk s' (i:Nat)))
 | some (.inr r)=>some (.ret r)
theorem Ij (mk:σ->Int->S) (f:σ->α->Option (Sum σ ρ)) (h1 : ∀ (s:σ) (i:Nat) x,l[i]?=some x->body (mk s i)=o7 mk (i+1) (f s x)) (h2 : ∀ s,body (mk s l.length)=some (.exit (mk s l.length))) :
  ∀ (n i:Nat) (s:σ),i<=l.length->l.length-i<n->ah body n (mk s i)=DR mk l.length (bU f s (l.drop i))
 | 0,i,s,_,h=>by omega
 | n+1,i,s,hi,hn=>by
  rw [ah]
  by_cases hlt:i<l.length
  ·obtain ⟨x,hx⟩:=gol_ hlt
   have e1:=(YY.1 hx).2
   rw [h1 s i x hx,Zv hlt,e1,bU]
   cases hf:f s x with
   | none=>rfl
   | some st=>cases st with
    | inl s'=>exact Ij mk f h1 h2 n (i+1) s' (by omega) (by omega)
    | inr r=>rfl
  ·have:i=l.length:=by omega
   subst this
   rw [h2,ZO]
   rfl
theorem bE (mk:σ->Int->S) (f:σ->α->Option (Sum σ ρ)) (h1 : ∀ (s:σ) (i:Nat) x,l[i]?=some x->body (mk s i)=o7 mk (i+1) (f s x)) (h2 : ∀ s,body (mk s l.length)=some (.exit (mk s l.length))) (hl:l.length<fuel) (s:σ) :
  ah body fuel (mk s 0)=DR mk l.length (bU f s l):=Ij mk f h1 h2 fuel 0 s (Zj _) (by omega)
end
theorem gn_ {α:Type} {l:List α} {i:Nat} {x:α} (h:l[i]?=some x):au l (i:Int)=some x:=by
 unfold au;rw [if_pos (by omega)];exact h
theorem aU {α:Type} {l:List α} {i:Nat} {x:α} (h:l[i]?=some x):decide ((i:Int)<(l.length:Nat))=true:=by
 have:=(YY.1 h).1;simp;exact this
theorem lF_ (n:Nat):decide ((n:Int)<(n:Nat))=false:=by simp
theorem wrapN {i:Nat} (h:i<=4611686018427387904):IntKind.i64.wrap ((i:Int)+1)=((i+1:Nat):Int):=kF (by omega) (by omega)
open Go.RowKit Go.MapKept
set_option maxRecDepth 100000
set_option maxHeartbeats 8000000
def iL (x y:Int):Int:=if x<y then -1 else if y<x then 1 else 0
def sG (v w:Val):Int:=if iL v.kind w.kind≠0 then iL v.kind w.kind else if iL v.int w.int≠0 then iL v.int w.int else rQ v.text w.text
def dP:List Val->List Val->Int
 | [],[]=>0
 | [],_::_ => -1
 | _::_,[]=>1
 | a::xs,b::ys=>if sG a b≠0 then sG a b else dP xs ys
def fe (l:List Val):AC := .lst (l.map cV)
def CZ (l:List Int):AC := .lst (l.map fun x=>[.int .i64 x])
theorem NV (a b:ByteArray):Pure Tryz.prog 151 [.one (.str a), .one (.str b)] (.val (.one (.int .i64 (rQ a b)))):=(v_ Rf 8).1 _ _ _ (by kernel_rfl)
def DI (a_x:Int):Option (Bool):=some (decide (a_x≠a_x))
theorem Ga {a_x:Int} {r:Bool} (H:DI a_x=some r):Pure Tryz.prog 144 [.one (.int .i64 a_x)] (.val (.one (.bool r))):=by
 unfold DI at H
 refine po_ Tryz.func144 Tryz.ntmps144 ?_
 cases H
 exact aj
def FH (a_x:Int) (a_y:Int):Option (Int):=(DI a_x).bind fun r_1=>(DI a_y).bind fun r_2=>bif r_1 then bif r_2 then some (0:Int) else
 some (-1:Int) else
 bif r_2 then some (1:Int) else
 bif (decide (a_x<a_y)) then some (-1:Int) else
 bif (decide (a_y<a_x)) then some (1:Int) else
 some (0:Int)
theorem Kg {a_x:Int} {a_y:Int} {r:Int} (H:FH a_x a_y=some r):Pure Tryz.prog 101 [.one (.int .i64 a_x), .one (.int .i64 a_y)] (.val (.one (.int .i64 r))):=by
 unfold FH at H
 refine po_ Tryz.func101 Tryz.ntmps101 ?_
 obtain ⟨r_1,c1,H⟩:=bd_ H
 replace c1:=Ga c1
 obtain ⟨r_2,c2,H⟩:=bd_ H
 replace c2:=Ga c2
 rcases aa H with ⟨q_3,H⟩|⟨q_3,H⟩
 ·rcases aa H with ⟨q_4,H⟩|⟨q_4,H⟩
  ·cases H
   exact aj
  cases H
  exact aj
 rcases aa H with ⟨q_5,H⟩|⟨q_5,H⟩
 ·cases H
  exact aj
 rcases aa H with ⟨q_6,H⟩|⟨q_6,H⟩
 ·cases H
  exact aj
 rcases aa H with ⟨q_7,H⟩|⟨q_7,H⟩
 ·cases H
  exact aj
 cases H
 exact aj
def HY (a_vals:(List Int)):(Int)->Option (Step (Int) (Int)):=fun s=>match s with
 | v_1=>bif (decide (v_1<((a_vals.length:Nat):Int))) then (au a_vals v_1).bind fun x_3=>bif (decide (x_3≠(0:Int))) then some (.ret x_3) else
 some (.next (IntKind.i64.wrap (v_1+(1:Int)))) else
 some (.exit v_1)
def qQ:Sum (Int) (Int)->Option ((Int))
 | .inl v_1=>some (0:Int)
 | .inr q=>some q
def VO (a_vals:(List Int)):Option (Int):=(ah (HY a_vals) fuel (0:Int)).bind (qQ)
theorem U9 {a_vals:(List Int)} {r:Int} (H:VO a_vals=some r):Pure Tryz.prog 100 [.one (.lst (a_vals.map (fun x=>[AC.int .i64 x])))] (.val (.one (.int .i64 r))):=by
 unfold VO at H
 refine po_ Tryz.func100 Tryz.ntmps100 ?_
 refine bf ?_
 refine alM_ (fun s:Int=>match s with|v_1=>[(3, .one (.c (.int .i64 (0:Int)))),(6, .one (.c (.lst (a_vals.map (fun x=>[AC.int .i64 x]))))),(7, .one (.c (.int .i64 ((a_vals.length:Nat):Int)))),(8, .one (.c (.int .i64 v_1)))]) (fun s=>match s with|v_1=>[]) H (fun _=>Zj _)
  (fm_ bL [] rfl bq trivial) ?_
 rintro v_1 st1 hb1 hk1
 unfold HY at hb1
 dsimp only at hb1 ⊢
 rcases aa hb1 with ⟨q_2,hb1⟩|⟨q_2,hb1⟩
 ·obtain ⟨x_3,i1z,i1,i1x,hb1⟩:=aI (f:=(fun x=>[AC.int .i64 x])) hb1
  rcases aa hb1 with ⟨q_4,hb1⟩|⟨q_4,hb1⟩
  ·cases hb1
   have hx1:qQ (.inr x_3)=some _:=hk1
   unfold qQ at hx1
   dsimp only at hx1
   cases hx1
   exact aj
  cases hb1
  refine bf ?_
  exact ⟨_,rfl,fm_ bL [] rfl bq trivial⟩
 cases hb1
 have hx1:qQ (.inl v_1)=some _:=hk1
 unfold qQ at hx1
 dsimp only at hx1
 cases hx1
 exact aj
def tJ (a_a:Val) (a_b:Val):Option (Int):=(FH a_a.kind a_b.kind).bind fun r_1=>(FH a_a.int a_b.int).bind fun r_2=>(VO [r_1,r_2,(rQ a_a.text a_b.text)]).bind fun r_4=>some r_4
theorem CK {a_a:Val} {a_b:Val} {r:Int} (H:tJ a_a a_b=some r):Pure Tryz.prog 108 [.agg (cV a_a), .agg (cV a_b)] (.val (.one (.int .i64 r))):=by
 unfold tJ at H
 refine po_ Tryz.func108 Tryz.ntmps108 ?_
 obtain ⟨r_1,c1,H⟩:=bd_ H
 replace c1:=Kg c1
 obtain ⟨r_2,c2,H⟩:=bd_ H
 replace c2:=Kg c2
 have hc_3:=NV a_a.text a_b.text
 try simp only [Zb,Y9,Zd,Y3,aF,aQ] at hc_3
 obtain ⟨r_4,c3,H⟩:=bd_ H
 replace c3:=U9 c3
 try simp only [Zb,Y9,Zd,Y3,aF,aQ] at c3
 cases H
 exact aj
def jY (a_s1:(List Val)) (a_s2:(List Val)) (a_cmp:Val->Val->Option (Int)):(Int)->Option (Step (Int) (Int)):=fun s=>match s with
 | v_1=>bif (decide (v_1<((a_s1.length:Nat):Int))) then (au a_s1 v_1).bind fun x_3=>bif (decide (((a_s2.length:Nat):Int)<=v_1)) then some (.ret (1:Int)) else
 (au a_s2 v_1).bind fun x_5=>(a_cmp x_3 x_5).bind fun r_6=>bif (decide (r_6≠(0:Int))) then some (.ret r_6) else
 some (.next (IntKind.i64.wrap (v_1+(1:Int)))) else
 some (.exit v_1)
def fA (a_s1:(List Val)) (a_s2:(List Val)):Sum (Int) (Int)->Option ((Int))
 | .inl v_1=>bif (decide (((a_s1.length:Nat):Int)<((a_s2.length:Nat):Int))) then some (-1:Int) else
 some (0:Int)
 | .inr q=>some q
def GK (a_s1:(List Val)) (a_s2:(List Val)) (a_cmp:Val->Val->Option (Int)):Option (Int):=(ah (jY a_s1 a_s2 a_cmp) fuel (0:Int)).bind (fA a_s1 a_s2)
theorem O4 {a_s1:(List Val)} {a_s2:(List Val)} {a_cmp:Val->Val->Option (Int)} {r:Int} {F_a_cmp:FuncId} {caps_a_cmp:List AC} (hf_a_cmp : ∀ (y0:Val) (y1:Val) (r:Int),a_cmp y0 y1=some r->Pure Tryz.prog F_a_cmp ([.agg (cV y0), .agg (cV y1)]++caps_a_cmp.map .one) (.val (.one (.int .i64 r)))) (H:GK a_s1 a_s2 a_cmp=some r):Pure Tryz.prog 107 [.one (.lst (a_s1.map cV)), .one (.lst (a_s2.map cV)), .one (.fn F_a_cmp caps_a_cmp)] (.val (.one (.int .i64 r))):=by
 unfold GK at H
 refine po_ Tryz.func107 Tryz.ntmps107 ?_
 refine bf ?_
 refine alM_ (fun s:Int=>match s with|v_1=>[(0, .one (.c (.lst (a_s1.map cV)))),(1, .one (.c (.lst (a_s2.map cV)))),(2, .one (.c (.fn F_a_cmp caps_a_cmp))),(11, .one (.c (.lst (a_s1.map cV)))),(12, .one (.c (.int .i64 ((a_s1.length:Nat):Int)))),(13, .one (.c (.int .i64 v_1)))]) (fun s=>match s with|v_1=>[]) H (fun _=>Zj _)
  (fm_ bL [] rfl bq trivial) ?_
 rintro v_1 st1 hb1 hk1
 unfold jY at hb1
 dsimp only at hb1 ⊢
 rcases aa hb1 with ⟨q_2,hb1⟩|⟨q_2,hb1⟩
 ·obtain ⟨x_3,i1z,i1,i1x,hb1⟩:=aI (f:=cV) hb1
  rcases aa hb1 with ⟨q_4,hb1⟩|⟨q_4,hb1⟩
  ·cases hb1
   have hx1:fA a_s1 a_s2 (.inr (1:Int))=some _:=hk1
   unfold fA at hx1
   dsimp only at hx1
   cases hx1
   exact aj
  obtain ⟨x_5,i2z,i2,i2x,hb1⟩:=aI (f:=cV) hb1
  obtain ⟨r_6,c3,hb1⟩:=bd_ hb1
  replace c3:=hf_a_cmp _ _ _ c3
  try simp only [Zb,Y9,Zd,Y3,aF,aQ] at c3
  rcases aa hb1 with ⟨q_7,hb1⟩|⟨q_7,hb1⟩
  ·cases hb1
   have hx1:fA a_s1 a_s2 (.inr r_6)=some _:=hk1
   unfold fA at hx1
   dsimp only at hx1
   cases hx1
   exact aj
  cases hb1
  refine bf ?_
  exact ⟨_,rfl,fm_ bL [_,_] rfl bq trivial⟩
 cases hb1
 have hx1:fA a_s1 a_s2 (.inl v_1)=some _:=hk1
 unfold fA at hx1
 dsimp only at hx1
 rcases aa hx1 with ⟨q_8,hx1⟩|⟨q_8,hx1⟩
 ·cases hx1
  exact aj
 cases hx1
 exact aj
def D7 (a_a:(List Val)) (a_b:(List Val)):Option (Int):=(GK a_a a_b (fun x0 x1=>tJ x0 x1)).bind fun r_1=>some r_1
theorem PK {a_a:(List Val)} {a_b:(List Val)} {r:Int} (H:D7 a_a a_b=some r):Pure Tryz.prog 81 [.one (.lst (a_a.map cV)), .one (.lst (a_b.map cV))] (.val (.one (.int .i64 r))):=by
 unfold D7 at H
 refine po_ Tryz.func81 Tryz.ntmps81 ?_
 obtain ⟨r_1,c1,H⟩:=bd_ H
 replace c1:=O4 (F_a_cmp:=108) (caps_a_cmp:=[]) (fun x0 x1 r h=>CK h) c1
 try simp only [Zb,Y9,Zd,Y3,aF,aQ] at c1
 cases H
 exact aj
open Go.RowKit Go.MapKept
def NE (s:ByteArray) (i:Int):Option UInt8:=if 0<=i then s[i.toNat]? else none
theorem F3 {s:ByteArray} {i:Int} {x:UInt8} (h:NE s i=some x):0<=i/\s[i.toNat]?=some x:=by
 unfold NE at h
 by_cases h0:0<=i
 ·rw [if_pos h0] at h;exact ⟨h0,h⟩
 ·rw [if_neg h0] at h;cases h
section
variable {P:Program} {ti:TI} {N n0:Nat} {ds:List (Option Tmp)} {K:Tm->List Ob->Prop} {rest:List Oper} {o:Oper} {T:Tm} {L:List Ob}
theorem b_ {t:TypeId} {x ix:Operand} {s:ByteArray} {k0:IntKind} {i:Int} {b:UInt8} {d:Nat} (hd:o.dst=some d) (hN:Nat.blt d N=true) {g0:Bool} (hg:iR ds T o.guard=some g0) (ho:o.op = .index t x ix) (hx:look T x=some (.one (.c (.str s)))) (hi:look T ix=some (.one (.c (.int k0 i))))
  (hk:ti.kind t=some .string) (h:aM P ti N ds K rest ((d, .one (.c (.int .u8 ((b.toNat:Nat):Int))))::T) L) (hb:s[i.toNat]?=some b:=by assumption) (h0:0<=i:=by assumption) (hg1:g0=true:=by first|rfl|exact ll (by first|assumption|exact lG (by assumption))|exact lg (by first|assumption|exact lH (by assumption))):aM P ti N ds K (o::rest) T L :=
 aL (φ:=0<=i/\ti.kind t=some .string) hd hN (hg1▸hg) (by rw [ho];simp only [pop,hx,hi,pV,hb]) ⟨h0,hk⟩ h
theorem t5_ {v:AV} {φ:Prop} {d:Nat} (hd:o.dst=some d) (hN:Nat.blt d N=true) {g0:Bool} (hg:iR ds T o.guard=some g0) (hp:vN ti (look T) o.op=some (v,φ)) (h:aM P ti N ds K rest ((d,v)::T) L)
  (hφ:φ:=by repeat' (first|exact trivial|rfl|exact Y8 rfl|omega|refine List.forall_mem_cons.2 ⟨?_,?_⟩|exact fun _ h=>nomatch h|apply And.intro)) (hg1:g0=true:=by first|rfl|exact ll (by first|assumption|exact lG (by assumption))|exact lg (by first|assumption|exact lH (by assumption))):aM P ti N ds K (o::rest) T L:=aO hd hN (hg1▸hg) hp hφ h
end
theorem gs5_ {p q:Prop} (k:q) (h:Bx q->p:=by
 intro hq
 first|refine p_ rfl rfl rfl rfl rfl ?_|refine st_nil ?_|refine x_ rfl rfl rfl rfl rfl rfl rfl rfl ?_|refine l_ rfl rfl rfl rfl ?_|refine s_ rfl rfl rfl ?_|refine t5_ rfl rfl rfl rfl ?_|refine k_ rfl rfl rfl ?_|refine k0_ rfl rfl ?_|refine c_ rfl rfl rfl rfl ?_|refine pick_t rfl rfl rfl rfl rfl rfl rfl ?_|refine pick_f rfl rfl rfl rfl rfl rfl rfl ?_|refine aw_seq ?_|refine aw_region tab_ok _ rfl ?_|refine aw_drawn2 tabS_ok _ rfl mixed (by decide +kernel) ?_|refine aw_condT rfl ?_|refine aw_condF rfl ?_|refine aw_block ?_|refine aw_exit ?_|refine aw_ret ?_|refine aw_skip ?_|rw [Y_]|rw [mn_norm]|rw [mx_norm]
 exact hq.out):p:=h ⟨k⟩
open Go.RowKit Go.MapKept
set_option maxRecDepth 100000
set_option maxHeartbeats 8000000
def jM:Option (Val):=some (⟨(0:Int),(0:Int),ByteArray.empty⟩:Val)
theorem dY {r:Val} (H:jM=some r):Pure Tryz.prog 149 [] (.val (.agg (cV r))):=by
 unfold jM at H
 refine po_ Tryz.func149 Tryz.ntmps149 ?_
 cases H
 exact aj
def tH (a_s:ByteArray):(Int)->Option (Step (Int) (Bool)):=fun s=>match s with
 | v_1=>bif (decide (v_1<((a_s.size:Nat):Int))) then (NE a_s v_1).bind fun b_3=>bif (decide (((b_3.toNat:Nat):Int)<(32:Int))) then some (.ret false) else
 bif (decide ((126:Int)<((b_3.toNat:Nat):Int))) then some (.ret false) else
 some (.next (IntKind.i64.wrap (v_1+(1:Int)))) else
 some (.exit v_1)
def dJ:Sum (Int) (Bool)->Option ((Bool))
 | .inl v_1=>some true
 | .inr q=>some q
def oq (a_s:ByteArray):Option (Bool):=(ah (tH a_s) fuel (0:Int)).bind (dJ)
theorem BP {a_s:ByteArray} {r:Bool} (H:oq a_s=some r):Pure Tryz.prog 200 [.one (.str a_s)] (.val (.one (.bool r))):=by
 unfold oq at H
 refine po_ Tryz.func200 Tryz.ntmps200 ?_
 repeat' (first|refine gs5_ ?_|refine b_ rfl rfl rfl rfl rfl rfl rfl ?_)
 refine alM_ (fun s:Int=>match s with|v_1=>[(0, .one (.c (.str a_s))),(5, .one (.c (.int .i64 ((a_s.size:Nat):Int)))),(6, .one (.c (.int .i64 v_1)))]) (fun s=>match s with|v_1=>[]) H (fun _=>Zj _)
  (fm_ bL [] rfl bq trivial) ?_
 rintro v_1 st1 hb1 hk1
 unfold tH at hb1
 dsimp only at hb1 ⊢
 rcases aa hb1 with ⟨q_2,hb1⟩|⟨q_2,hb1⟩
 ·obtain ⟨b_3,i1,hb1⟩:=bd_ hb1
  obtain ⟨i1z,i1⟩:=F3 i1
  rcases aa hb1 with ⟨q_4,hb1⟩|⟨q_4,hb1⟩
  ·cases hb1
   have hx1:dJ (.inr false)=some _:=hk1
   unfold dJ at hx1
   dsimp only at hx1
   cases hx1
   repeat' (first|refine gs5_ ?_|refine b_ rfl rfl rfl rfl rfl rfl rfl ?_)
   refine aV (aX rfl ?_ ?_)
   ·repeat' (first|exact trivial|rfl|exact Y8 rfl|omega|apply And.intro)
   ·first|rfl|(simp only [Zb,Y9,Zd,Y3]<;>rfl)
  rcases aa hb1 with ⟨q_5,hb1⟩|⟨q_5,hb1⟩
  ·cases hb1
   have hx1:dJ (.inr false)=some _:=hk1
   unfold dJ at hx1
   dsimp only at hx1
   cases hx1
   repeat' (first|refine gs5_ ?_|refine b_ rfl rfl rfl rfl rfl rfl rfl ?_)
   refine aV (aX rfl ?_ ?_)
   ·repeat' (first|exact trivial|rfl|exact Y8 rfl|omega|apply And.intro)
   ·first|rfl|(simp only [Zb,Y9,Zd,Y3]<;>rfl)
  cases hb1
  repeat' (first|refine gs5_ ?_|refine b_ rfl rfl rfl rfl rfl rfl rfl ?_)
  exact ⟨_,rfl,fm_ bL [] rfl bq trivial⟩
 cases hb1
 have hx1:dJ (.inl v_1)=some _:=hk1
 unfold dJ at hx1
 dsimp only at hx1
 cases hx1
 repeat' (first|refine gs5_ ?_|refine b_ rfl rfl rfl rfl rfl rfl rfl ?_)
 refine aV (aX rfl ?_ ?_)
 ·repeat' (first|exact trivial|rfl|exact Y8 rfl|omega|apply And.intro)
 ·first|rfl|(simp only [Zb,Y9,Zd,Y3]<;>rfl)
def lT (a_v:Val):Option (Bool):=bif (decide (a_v.kind=(0:Int))) then bif (decide (a_v.int=(0:Int))) then some (a_v.text.toList==(⟨#[]⟩:ByteArray).toList) else
 some false else
 bif (decide (a_v.kind=(1:Int))) then bif (a_v.text.toList==(⟨#[]⟩:ByteArray).toList) then bif (decide ((-1125899906842624:Int)<=a_v.int)) then some (decide (a_v.int<=(1125899906842624:Int))) else
 some false else
 some false else
 bif (decide (a_v.kind=(2:Int))) then bif (decide (a_v.int=(0:Int))) then bif (decide (((a_v.text.size:Nat):Int)<=(200:Int))) then (oq a_v.text).bind fun r_9=>some r_9 else
 some false else
 some false else
 bif (decide (a_v.kind=(3:Int))) then bif (a_v.text.toList==(⟨#[]⟩:ByteArray).toList) then bif (decide (a_v.int=(0:Int))) then some true else
 some (decide (a_v.int=(1:Int))) else
 some false else
 some false
theorem qV {a_v:Val} {r:Bool} (H:lT a_v=some r):Pure Tryz.prog 148 [.agg (cV a_v)] (.val (.one (.bool r))):=by
 unfold lT at H
 refine po_ Tryz.func148 Tryz.ntmps148 ?_
 rcases aa H with ⟨q_1,H⟩|⟨q_1,H⟩
 ·rcases aa H with ⟨q_2,H⟩|⟨q_2,H⟩
  ·cases H
   exact aj
  cases H
  exact aj
 rcases aa H with ⟨q_3,H⟩|⟨q_3,H⟩
 ·rcases aa H with ⟨q_4,H⟩|⟨q_4,H⟩
  ·rcases aa H with ⟨q_5,H⟩|⟨q_5,H⟩
   ·cases H
    exact aj
   cases H
   exact aj
  cases H
  exact aj
 rcases aa H with ⟨q_6,H⟩|⟨q_6,H⟩
 ·rcases aa H with ⟨q_7,H⟩|⟨q_7,H⟩
  ·rcases aa H with ⟨q_8,H⟩|⟨q_8,H⟩
   ·obtain ⟨r_9,c1,H⟩:=bd_ H
    replace c1:=BP c1
    cases H
    exact aj
   cases H
   exact aj
  cases H
  exact aj
 rcases aa H with ⟨q_10,H⟩|⟨q_10,H⟩
 ·rcases aa H with ⟨q_11,H⟩|⟨q_11,H⟩
  ·rcases aa H with ⟨q_12,H⟩|⟨q_12,H⟩
   ·cases H
    exact aj
   cases H
   exact aj
  cases H
  exact aj
 cases H
 exact aj
def qp (a_v:Val):Option (Val):=(lT a_v).bind fun r_1=>bif (!r_1) then (jM ).bind fun r_3=>some r_3 else
 some a_v
theorem D9 {a_v:Val} {r:Val} (H:qp a_v=some r):Pure Tryz.prog 104 [.agg (cV a_v)] (.val (.agg (cV r))):=by
 unfold qp at H
 refine po_ Tryz.func104 Tryz.ntmps104 ?_
 obtain ⟨r_1,c1,H⟩:=bd_ H
 replace c1:=qV c1
 rcases aa H with ⟨q_2,H⟩|⟨q_2,H⟩
 ·obtain ⟨r_3,c2,H⟩:=bd_ H
  replace c2:=dY c2
  cases H
  exact aj
 cases H
 exact aj
def jN (a_n:Int):Option (Val):=(qp (⟨(1:Int),a_n,ByteArray.empty⟩:Val)).bind fun r_1=>some r_1
theorem jw {a_n:Int} {r:Val} (H:jN a_n=some r):Pure Tryz.prog 79 [.one (.int .i64 a_n)] (.val (.agg (cV r))):=by
 unfold jN at H
 refine po_ Tryz.func79 Tryz.ntmps79 ?_
 obtain ⟨r_1,c1,H⟩:=bd_ H
 replace c1:=D9 c1
 cases H
 exact aj
def y9 (a_s:ByteArray):Option (Val):=(qp (⟨(2:Int),(0:Int),a_s⟩:Val)).bind fun r_1=>some r_1
theorem NI {a_s:ByteArray} {r:Val} (H:y9 a_s=some r):Pure Tryz.prog 254 [.one (.str a_s)] (.val (.agg (cV r))):=by
 unfold y9 at H
 refine po_ Tryz.func254 Tryz.ntmps254 ?_
 obtain ⟨r_1,c1,H⟩:=bd_ H
 replace c1:=D9 c1
 cases H
 exact aj
def sw (a_b:Bool):Option (Val):=bif a_b then some (⟨(3:Int),(1:Int),ByteArray.empty⟩:Val) else
 some (⟨(3:Int),(0:Int),ByteArray.empty⟩:Val)
theorem o8 {a_b:Bool} {r:Val} (H:sw a_b=some r):Pure Tryz.prog 210 [.one (.bool a_b)] (.val (.agg (cV r))):=by
 unfold sw at H
 refine po_ Tryz.func210 Tryz.ntmps210 ?_
 rcases aa H with ⟨q_1,H⟩|⟨q_1,H⟩
 ·cases H
  exact aj
 cases H
 exact aj
open Go.RowKit Go.MapKept
set_option maxRecDepth 100000
set_option maxHeartbeats 8000000
def Tw (a_p:eG):Option (Bool):=bif (decide ((0:Int)<=a_p.lo)) then bif (decide (a_p.lo<a_p.hi)) then some (decide (a_p.hi<=(1099511627776:Int))) else
 some false else
 some false
theorem L6 {a_p:eG} {r:Bool} (H:Tw a_p=some r):Pure Tryz.prog 43 [.agg (oC a_p)] (.val (.one (.bool r))):=by
 unfold Tw at H
 refine po_ Tryz.func43 Tryz.ntmps43 ?_
 rcases aa H with ⟨q_1,H⟩|⟨q_1,H⟩
 ·rcases aa H with ⟨q_2,H⟩|⟨q_2,H⟩
  ·cases H
   exact aj
  cases H
  exact aj
 cases H
 exact aj
open Go.RowKit Go.MapKept
section
variable {P:Program} {ti:TI} {N:Nat} {ds:List (Option Tmp)} {K:Tm->List Ob->Prop} {rest:List Oper} {o:Oper} {T:Tm} {L:List Ob}
theorem Ll {a b:List SV} (h:b.length=a.length):splice a 0 b=b:=by
 unfold splice
 rw [List.take_zero,Y3,ZG,List.drop_of_length_le (by omega),Zy]
theorem Bg {α:Type} {enc:α->List AC} {X:List α} {v:α} {t:TypeId} {p q:Operand} {id ver i k:Nat} (hd:o.dst=none) (hg:iR ds T o.guard=some true) (ho:o.op = .store t p q) (hp:look T p=some (.one (.ep id ver i 0))) (hL:L[id]?=some (.row ver ((X.map enc).map (List.map SV.c)) k)) (hx:i<X.length)
  (hq:(look T q).bind AV.cells=some ((enc v).map SV.c)) (hk : ∀ x,(enc x).length=k) (hsz:ti.size t=some k) (h:aM P ti N ds K rest T (L.set id (.row ver (((X.set i v).map enc).map (List.map SV.c)) k))):aM P ti N ds K (o::rest) T L:=by
 obtain ⟨x,hx⟩:=gol_ hx
 have hl:((enc v).map SV.c).length=((enc x).map SV.c).length:=by rw [Y_,Y_,hk,hk]
 have he:((X.map enc).map (List.map SV.c))[i]?=some ((enc x).map SV.c):=by rw [Zl,Zl,hx];rfl
 refine U5 hd hg ho hp hq hL he ⟨by rw [ZG,hl];exact Ze _,by rw [Y_,hk];exact hsz⟩ ?_ h
 rw [Ll hl,List.map_set,List.map_set]
end
theorem jZ {α:Type} (n v k:Nat) (enc:α->List AC) (X:List α):(Ob.row v ((X.map enc).map (List.map SV.c)) k).below n:=by
 intro e he x hx
 rw [List.map_map] at he
 obtain ⟨y,_,rfl⟩:=Zz.1 he
 obtain ⟨z,_,rfl⟩:=Zz.1 hx
 trivial
open Go.RowKit Go.MapKept
set_option maxRecDepth 100000
set_option maxHeartbeats 8000000
def lK (a_op:Int) (a_n:Int):Option (Bool × Bool):=bif (decide (a_op=(1:Int))) then some ((decide (a_n=(0:Int))),true) else
 bif (decide (a_op=(2:Int))) then some ((decide (a_n=(0:Int))),true) else
 bif (decide (a_op=(4:Int))) then some ((decide (a_n=(1:Int))),true) else
 bif (decide (a_op=(18:Int))) then some ((decide (a_n=(1:Int))),true) else
 bif (decide (a_op=(20:Int))) then some ((decide (a_n=(1:Int))),true) else
 bif (decide (a_op=(21:Int))) then some ((decide (a_n=(1:Int))),true) else
 bif (decide (a_op=(7:Int))) then some ((decide (a_n=(2:Int))),true) else
 bif (decide (a_op=(8:Int))) then some ((decide (a_n=(2:Int))),true) else
 bif (decide (a_op=(9:Int))) then some ((decide (a_n=(2:Int))),true) else
 bif (decide (a_op=(10:Int))) then some ((decide (a_n=(2:Int))),true) else
 bif (decide (a_op=(11:Int))) then some ((decide (a_n=(2:Int))),true) else
 bif (decide (a_op=(12:Int))) then some ((decide (a_n=(2:Int))),true) else
 bif (decide (a_op=(13:Int))) then some ((decide (a_n=(2:Int))),true) else
 bif (decide (a_op=(14:Int))) then some ((decide (a_n=(2:Int))),true) else
 bif (decide (a_op=(15:Int))) then some ((decide (a_n=(2:Int))),true) else
 bif (decide (a_op=(16:Int))) then some ((decide (a_n=(2:Int))),true) else
 bif (decide (a_op=(17:Int))) then some ((decide (a_n=(2:Int))),true) else
 bif (decide (a_op=(19:Int))) then some ((decide (a_n=(2:Int))),true) else
 bif (decide (a_op=(5:Int))) then some ((decide ((2:Int)<=a_n)),true) else
 bif (decide (a_op=(6:Int))) then some ((decide ((2:Int)<=a_n)),true) else
 bif (decide (a_op=(22:Int))) then some ((decide (a_n=(3:Int))),true) else
 bif (decide (a_op=(23:Int))) then some ((decide ((1:Int)<=a_n)),true) else
 bif (decide (a_op=(24:Int))) then some ((decide (a_n=(4:Int))),true) else
 some (false,false)
theorem Db {a_op:Int} {a_n:Int} {r:Bool × Bool} (H:lK a_op a_n=some r):Pure Tryz.prog 249 [.one (.int .i64 a_op), .one (.int .i64 a_n)] (.tup [.one (.bool r.1), .one (.bool r.2)]):=by
 unfold lK at H
 refine po_ Tryz.func249 Tryz.ntmps249 ?_
 rcases aa H with ⟨q_1,H⟩|⟨q_1,H⟩
 ·cases H
  exact aj
 rcases aa H with ⟨q_2,H⟩|⟨q_2,H⟩
 ·cases H
  exact aj
 refine bf ?_
 rcases aa H with ⟨q_3,H⟩|⟨q_3,H⟩
 ·cases H
  exact aj
 rcases aa H with ⟨q_4,H⟩|⟨q_4,H⟩
 ·cases H
  exact aj
 rcases aa H with ⟨q_5,H⟩|⟨q_5,H⟩
 ·cases H
  exact aj
 refine bf ?_
 rcases aa H with ⟨q_6,H⟩|⟨q_6,H⟩
 ·cases H
  exact aj
 rcases aa H with ⟨q_7,H⟩|⟨q_7,H⟩
 ·cases H
  exact aj
 rcases aa H with ⟨q_8,H⟩|⟨q_8,H⟩
 ·cases H
  exact aj
 refine bf ?_
 rcases aa H with ⟨q_9,H⟩|⟨q_9,H⟩
 ·cases H
  exact aj
 rcases aa H with ⟨q_10,H⟩|⟨q_10,H⟩
 ·cases H
  exact aj
 rcases aa H with ⟨q_11,H⟩|⟨q_11,H⟩
 ·cases H
  exact aj
 refine bf ?_
 rcases aa H with ⟨q_12,H⟩|⟨q_12,H⟩
 ·cases H
  exact aj
 rcases aa H with ⟨q_13,H⟩|⟨q_13,H⟩
 ·cases H
  exact aj
 rcases aa H with ⟨q_14,H⟩|⟨q_14,H⟩
 ·cases H
  exact aj
 refine bf ?_
 rcases aa H with ⟨q_15,H⟩|⟨q_15,H⟩
 ·cases H
  exact aj
 rcases aa H with ⟨q_16,H⟩|⟨q_16,H⟩
 ·cases H
  exact aj
 rcases aa H with ⟨q_17,H⟩|⟨q_17,H⟩
 ·cases H
  exact aj
 refine bf ?_
 rcases aa H with ⟨q_18,H⟩|⟨q_18,H⟩
 ·cases H
  exact aj
 rcases aa H with ⟨q_19,H⟩|⟨q_19,H⟩
 ·cases H
  exact aj
 rcases aa H with ⟨q_20,H⟩|⟨q_20,H⟩
 ·cases H
  exact aj
 refine bf ?_
 rcases aa H with ⟨q_21,H⟩|⟨q_21,H⟩
 ·cases H
  exact aj
 rcases aa H with ⟨q_22,H⟩|⟨q_22,H⟩
 ·cases H
  exact aj
 rcases aa H with ⟨q_23,H⟩|⟨q_23,H⟩
 ·cases H
  exact aj
 cases H
 exact aj
def om (a_e:Ex):Option (Bool):=(lK a_e.op ((a_e.args.length:Nat):Int)).bind fun r_1=>bif (!r_1.1) then some false else
 bif (!(a_e.nm.toList==(⟨#[]⟩:ByteArray).toList)) then some false else
 bif (decide (a_e.op=(1:Int))) then bif (decide (a_e.int=(0:Int))) then (lT a_e.v).bind fun r_6=>some r_6 else
 some false else
 bif (decide (a_e.op=(24:Int))) then bif (decide (a_e.int<(0:Int))) then some false else
 bif (decide ((13:Int)<=a_e.int)) then some false else
 some (cB [.c (.int .i64 a_e.v.kind), .c (.int .i64 a_e.v.int), .c (.str a_e.v.text)] [.c (.int .i64 (0:Int)), .c (.int .i64 (0:Int)), .c (.str ByteArray.empty)]) else
 bif (decide (a_e.op=(2:Int))) then some (cB [.c (.int .i64 a_e.v.kind), .c (.int .i64 a_e.v.int), .c (.str a_e.v.text)] [.c (.int .i64 (0:Int)), .c (.int .i64 (0:Int)), .c (.str ByteArray.empty)]) else
 bif (decide (a_e.int=(0:Int))) then some (cB [.c (.int .i64 a_e.v.kind), .c (.int .i64 a_e.v.int), .c (.str a_e.v.text)] [.c (.int .i64 (0:Int)), .c (.int .i64 (0:Int)), .c (.str ByteArray.empty)]) else
 some false
theorem Cq {a_e:Ex} {r:Bool} (H:om a_e=some r):Pure Tryz.prog 207 [.agg (tE a_e)] (.val (.one (.bool r))):=by
 unfold om at H
 rw [aF a_e]
 refine po_ Tryz.func207 Tryz.ntmps207 ?_
 obtain ⟨r_1,c1,H⟩:=bd_ H
 replace c1:=Db c1
 rcases aa H with ⟨q_2,H⟩|⟨q_2,H⟩
 ·cases H
  exact aj
 rcases aa H with ⟨q_3,H⟩|⟨q_3,H⟩
 ·cases H
  exact aj
 refine bf ?_
 rcases aa H with ⟨q_4,H⟩|⟨q_4,H⟩
 ·rcases aa H with ⟨q_5,H⟩|⟨q_5,H⟩
  ·obtain ⟨r_6,c2,H⟩:=bd_ H
   replace c2:=qV c2
   cases H
   exact aj
  cases H
  exact aj
 rcases aa H with ⟨q_7,H⟩|⟨q_7,H⟩
 ·rcases aa H with ⟨q_8,H⟩|⟨q_8,H⟩
  ·cases H
   exact aj
  refine bf ?_
  rcases aa H with ⟨q_9,H⟩|⟨q_9,H⟩
  ·cases H
   exact aj
  cases H
  exact aj
 rcases aa H with ⟨q_10,H⟩|⟨q_10,H⟩
 ·cases H
  exact aj
 refine bf ?_
 rcases aa H with ⟨q_11,H⟩|⟨q_11,H⟩
 ·cases H
  exact aj
 cases H
 exact aj
open Go.RowKit Go.MapKept
set_option maxRecDepth 100000
set_option maxHeartbeats 8000000
def ry (a_a:Val) (a_b:Val) (a_is:Bool):Option (Int):=bif (decide (a_a.kind=(0:Int))) then some (1:Int) else
 bif (decide (a_a.kind≠a_b.kind)) then some (1:Int) else
 bif a_is then some (2:Int) else
 some (0:Int)
theorem BO {a_a:Val} {a_b:Val} {a_is:Bool} {r:Int} (H:ry a_a a_b a_is=some r):Pure Tryz.prog 285 [.agg (cV a_a), .agg (cV a_b), .one (.bool a_is)] (.val (.one (.int .i64 r))):=by
 unfold ry at H
 refine po_ Tryz.func285 Tryz.ntmps285 ?_
 rcases aa H with ⟨q_1,H⟩|⟨q_1,H⟩
 ·cases H
  exact aj
 rcases aa H with ⟨q_2,H⟩|⟨q_2,H⟩
 ·cases H
  exact aj
 rcases aa H with ⟨q_3,H⟩|⟨q_3,H⟩
 ·cases H
  exact aj
 cases H
 exact aj
def OP (a_a:Val) (a_b:Val):Option (Int):=(tJ a_a a_b).bind fun r_1=>(ry a_a a_b (decide (r_1=(0:Int)))).bind fun r_2=>some r_2
theorem MO {a_a:Val} {a_b:Val} {r:Int} (H:OP a_a a_b=some r):Pure Tryz.prog 257 [.agg (cV a_a), .agg (cV a_b)] (.val (.one (.int .i64 r))):=by
 unfold OP at H
 refine po_ Tryz.func257 Tryz.ntmps257 ?_
 obtain ⟨r_1,c1,H⟩:=bd_ H
 replace c1:=CK c1
 obtain ⟨r_2,c2,H⟩:=bd_ H
 replace c2:=BO c2
 cases H
 exact aj
def sH (a_a:Val) (a_b:Val):Option (Int):=(tJ a_a a_b).bind fun r_1=>(ry a_a a_b (decide (r_1<(0:Int)))).bind fun r_2=>some r_2
theorem uJ {a_a:Val} {a_b:Val} {r:Int} (H:sH a_a a_b=some r):Pure Tryz.prog 258 [.agg (cV a_a), .agg (cV a_b)] (.val (.one (.int .i64 r))):=by
 unfold sH at H
 refine po_ Tryz.func258 Tryz.ntmps258 ?_
 obtain ⟨r_1,c1,H⟩:=bd_ H
 replace c1:=CK c1
 obtain ⟨r_2,c2,H⟩:=bd_ H
 replace c2:=BO c2
 cases H
 exact aj
def nS (a_t:Int):Option (Int):=bif (decide (a_t≠(0:Int))) then bif (decide (a_t≠(2:Int))) then some (1:Int) else
 some a_t else
 some a_t
theorem vW {a_t:Int} {r:Int} (H:nS a_t=some r):Pure Tryz.prog 256 [.one (.int .i64 a_t)] (.val (.one (.int .i64 r))):=by
 unfold nS at H
 refine po_ Tryz.func256 Tryz.ntmps256 ?_
 rcases aa H with ⟨q_1,H⟩|⟨q_1,H⟩
 ·rcases aa H with ⟨q_2,H⟩|⟨q_2,H⟩
  ·cases H
   exact aj
  cases H
  exact aj
 cases H
 exact aj
def Er (a_a:Int):Option (Int):=(nS a_a).bind fun r_1=>some (IntKind.i64.wrap ((2:Int)-r_1))
theorem qy {a_a:Int} {r:Int} (H:Er a_a=some r):Pure Tryz.prog 250 [.one (.int .i64 a_a)] (.val (.one (.int .i64 r))):=by
 unfold Er at H
 refine po_ Tryz.func250 Tryz.ntmps250 ?_
 obtain ⟨r_1,c1,H⟩:=bd_ H
 replace c1:=vW c1
 cases H
 exact aj
def uB (a_l:(List Int)):(Int × Int)->Option (Step (Int × Int) (Int)):=fun s=>match s with
 | (t_1,v_2)=>bif (decide (v_2<((a_l.length:Nat):Int))) then (au a_l v_2).bind fun x_4=>(nS x_4).bind fun r_5=>some (.next ((WS t_1 r_5),(IntKind.i64.wrap (v_2+(1:Int))))) else
 some (.exit (t_1,v_2))
def zm:Sum (Int × Int) (Int)->Option ((Int))
 | .inl (t_1,v_2)=>some t_1
 | .inr q=>some q
def y_ (a_l:(List Int)):Option (Int):=(ah (uB a_l) fuel ((2:Int),(0:Int))).bind (zm)
theorem Fg {a_l:(List Int)} {r:Int} (H:y_ a_l=some r):Pure Tryz.prog 284 [.one (.lst (a_l.map (fun x=>[AC.int .i64 x])))] (.val (.one (.int .i64 r))):=by
 unfold y_ at H
 refine po_ Tryz.func284 Tryz.ntmps284 ?_
 refine bf ?_
 refine alM_ (fun s:Int × Int=>match s with|(t_1,v_2)=>[(3, .one (.c (.int .i64 t_1))),(6, .one (.c (.lst (a_l.map (fun x=>[AC.int .i64 x]))))),(7, .one (.c (.int .i64 ((a_l.length:Nat):Int)))),(8, .one (.c (.int .i64 v_2)))]) (fun s=>match s with|(t_1,v_2)=>[]) H (fun _=>Zj _)
  (fm_ bL [] rfl bq trivial) ?_
 rintro ⟨t_1,v_2⟩ st1 hb1 hk1
 unfold uB at hb1
 dsimp only at hb1 ⊢
 rcases aa hb1 with ⟨q_3,hb1⟩|⟨q_3,hb1⟩
 ·obtain ⟨x_4,i1z,i1,i1x,hb1⟩:=aI (f:=(fun x=>[AC.int .i64 x])) hb1
  obtain ⟨r_5,c2,hb1⟩:=bd_ hb1
  replace c2:=vW c2
  cases hb1
  refine bf ?_
  exact ⟨_,rfl,fm_ bL [] rfl bq trivial⟩
 cases hb1
 have hx1:zm (.inl (t_1,v_2))=some _:=hk1
 unfold zm at hx1
 dsimp only at hx1
 cases hx1
 exact aj
def KN (a_a:Int) (a_b:Int):Option (Int):=(y_ [a_a,a_b]).bind fun r_1=>some r_1
theorem S_ {a_a:Int} {a_b:Int} {r:Int} (H:KN a_a a_b=some r):Pure Tryz.prog 251 [.one (.int .i64 a_a), .one (.int .i64 a_b)] (.val (.one (.int .i64 r))):=by
 unfold KN at H
 refine po_ Tryz.func251 Tryz.ntmps251 ?_
 obtain ⟨r_1,c1,H⟩:=bd_ H
 replace c1:=Fg c1
 try simp only [Zb,Y9,Zd,Y3,aF,aQ] at c1
 cases H
 exact aj
def Dy (a_a:Int) (a_b:Int):Option (Int):=(Er a_a).bind fun r_1=>(Er a_b).bind fun r_2=>(y_ [r_1,r_2]).bind fun r_3=>(Er r_3).bind fun r_4=>some r_4
theorem Qz {a_a:Int} {a_b:Int} {r:Int} (H:Dy a_a a_b=some r):Pure Tryz.prog 252 [.one (.int .i64 a_a), .one (.int .i64 a_b)] (.val (.one (.int .i64 r))):=by
 unfold Dy at H
 refine po_ Tryz.func252 Tryz.ntmps252 ?_
 obtain ⟨r_1,c1,H⟩:=bd_ H
 replace c1:=qy c1
 obtain ⟨r_2,c2,H⟩:=bd_ H
 replace c2:=qy c2
 obtain ⟨r_3,c3,H⟩:=bd_ H
 replace c3:=Fg c3
 try simp only [Zb,Y9,Zd,Y3,aF,aQ] at c3
 obtain ⟨r_4,c4,H⟩:=bd_ H
 replace c4:=qy c4
 cases H
 exact aj
def kC (a_v:Val):Option (Int):=(sw true).bind fun r_1=>bif (cB [.c (.int .i64 a_v.kind), .c (.int .i64 a_v.int), .c (.str a_v.text)] [.c (.int .i64 r_1.kind), .c (.int .i64 r_1.int), .c (.str r_1.text)]) then some (2:Int) else
 (sw false).bind fun r_3=>bif (cB [.c (.int .i64 a_v.kind), .c (.int .i64 a_v.int), .c (.str a_v.text)] [.c (.int .i64 r_3.kind), .c (.int .i64 r_3.int), .c (.str r_3.text)]) then some (0:Int) else
 some (1:Int)
theorem mE {a_v:Val} {r:Int} (H:kC a_v=some r):Pure Tryz.prog 206 [.agg (cV a_v)] (.val (.one (.int .i64 r))):=by
 unfold kC at H
 refine po_ Tryz.func206 Tryz.ntmps206 ?_
 obtain ⟨r_1,c1,H⟩:=bd_ H
 replace c1:=o8 c1
 rcases aa H with ⟨q_2,H⟩|⟨q_2,H⟩
 ·cases H
  exact aj
 obtain ⟨r_3,c2,H⟩:=bd_ H
 replace c2:=o8 c2
 rcases aa H with ⟨q_4,H⟩|⟨q_4,H⟩
 ·cases H
  exact aj
 cases H
 exact aj
def x8 (a_t:Int):Option (Val):=(nS a_t).bind fun r_1=>bif (decide (r_1=(1:Int))) then (jM ).bind fun r_3=>some r_3 else
 (sw (decide (r_1=(2:Int)))).bind fun r_4=>some r_4
theorem xY {a_t:Int} {r:Val} (H:x8 a_t=some r):Pure Tryz.prog 214 [.one (.int .i64 a_t)] (.val (.agg (cV r))):=by
 unfold x8 at H
 refine po_ Tryz.func214 Tryz.ntmps214 ?_
 obtain ⟨r_1,c1,H⟩:=bd_ H
 replace c1:=vW c1
 rcases aa H with ⟨q_2,H⟩|⟨q_2,H⟩
 ·obtain ⟨r_3,c2,H⟩:=bd_ H
  replace c2:=dY c2
  cases H
  exact aj
 obtain ⟨r_4,c3,H⟩:=bd_ H
 replace c3:=o8 c3
 cases H
 exact aj
open Go.RowKit Go.MapKept
set_option maxRecDepth 100000
set_option maxHeartbeats 8000000
def kW (a_op:Int) (a_a:Val) (a_b:Val):Option (Int):=bif (decide (a_op=(7:Int))) then (OP a_a a_b).bind fun r_2=>some r_2 else
 bif (decide (a_op=(8:Int))) then (OP a_a a_b).bind fun r_4=>(Er r_4).bind fun r_5=>some r_5 else
 bif (decide (a_op=(9:Int))) then (sH a_a a_b).bind fun r_7=>some r_7 else
 bif (decide (a_op=(11:Int))) then (sH a_b a_a).bind fun r_9=>some r_9 else
 bif (decide (a_op=(10:Int))) then (sH a_b a_a).bind fun r_11=>(Er r_11).bind fun r_12=>some r_12 else
 (sH a_a a_b).bind fun r_13=>(Er r_13).bind fun r_14=>some r_14
theorem CJ {a_op:Int} {a_a:Val} {a_b:Val} {r:Int} (H:kW a_op a_a a_b=some r):Pure Tryz.prog 215 [.one (.int .i64 a_op), .agg (cV a_a), .agg (cV a_b)] (.val (.one (.int .i64 r))):=by
 unfold kW at H
 refine po_ Tryz.func215 Tryz.ntmps215 ?_
 rcases aa H with ⟨q_1,H⟩|⟨q_1,H⟩
 ·obtain ⟨r_2,c1,H⟩:=bd_ H
  replace c1:=MO c1
  cases H
  exact aj
 rcases aa H with ⟨q_3,H⟩|⟨q_3,H⟩
 ·obtain ⟨r_4,c2,H⟩:=bd_ H
  replace c2:=MO c2
  obtain ⟨r_5,c3,H⟩:=bd_ H
  replace c3:=qy c3
  cases H
  exact aj
 refine bf ?_
 rcases aa H with ⟨q_6,H⟩|⟨q_6,H⟩
 ·obtain ⟨r_7,c4,H⟩:=bd_ H
  replace c4:=uJ c4
  cases H
  exact aj
 rcases aa H with ⟨q_8,H⟩|⟨q_8,H⟩
 ·obtain ⟨r_9,c5,H⟩:=bd_ H
  replace c5:=uJ c5
  cases H
  exact aj
 rcases aa H with ⟨q_10,H⟩|⟨q_10,H⟩
 ·obtain ⟨r_11,c6,H⟩:=bd_ H
  replace c6:=uJ c6
  obtain ⟨r_12,c7,H⟩:=bd_ H
  replace c7:=qy c7
  cases H
  exact aj
 obtain ⟨r_13,c8,H⟩:=bd_ H
 replace c8:=uJ c8
 obtain ⟨r_14,c9,H⟩:=bd_ H
 replace c9:=qy c9
 cases H
 exact aj
def uz (a_l:(List Val)):(Int × ByteArray × Int)->Option (Step (Int × ByteArray × Int) (Val)):=fun s=>match s with
 | (n_1,s_2,v_3)=>bif (decide (v_3<((a_l.length:Nat):Int))) then (au a_l v_3).bind fun x_5=>bif (decide (x_5.kind≠(2:Int))) then (jM ).bind fun r_7=>some (.ret r_7) else
 bif (decide (s_2.size+x_5.text.size<=9223372036854775807)) then (some (.next ((IntKind.i64.wrap (n_1+((x_5.text.size:Nat):Int))),(s_2++x_5.text),(IntKind.i64.wrap (v_3+(1:Int)))))) else none else
 some (.exit (n_1,s_2,v_3))
def mi (a_op:Int):Sum (Int × ByteArray × Int) (Val)->Option ((Val))
 | .inl (n_1,s_2,v_3)=>bif (decide (a_op=(20:Int))) then (jN n_1).bind fun r_9=>some r_9 else
 (y9 s_2).bind fun r_10=>some r_10
 | .inr q=>some q
def tN (a_op:Int) (a_l:(List Val)):Option (Val):=(ah (uz a_l) fuel ((0:Int),(⟨#[]⟩:ByteArray),(0:Int))).bind (mi a_op)
theorem FY {a_op:Int} {a_l:(List Val)} {r:Val} (H:tN a_op a_l=some r):Pure Tryz.prog 212 [.one (.int .i64 a_op), .one (.lst (a_l.map cV))] (.val (.agg (cV r))):=by
 unfold tN at H
 refine po_ Tryz.func212 Tryz.ntmps212 ?_
 refine bf ?_
 refine alM_ (fun s:Int × ByteArray × Int=>match s with|(n_1,s_2,v_3)=>[(0, .one (.c (.int .i64 a_op))),(4, .one (.ptr 0 0)),(5, .one (.c (.int .i64 n_1))),(6, .one (.c (.str s_2))),(9, .one (.c (.lst (a_l.map cV)))),(10, .one (.c (.int .i64 ((a_l.length:Nat):Int)))),(11, .one (.c (.int .i64 v_3)))]) (fun s=>match s with|(n_1,s_2,v_3)=>[.box [.c (.int .i64 (0:Int)), .c (.int .i64 (0:Int)), .c (.str ByteArray.empty)]]) H (fun _=>Zj _)
  (fm_ bL [] rfl bq cO) ?_
 rintro ⟨n_1,s_2,v_3⟩ st1 hb1 hk1
 unfold uz at hb1
 dsimp only at hb1 ⊢
 rcases aa hb1 with ⟨q_4,hb1⟩|⟨q_4,hb1⟩
 ·obtain ⟨x_5,i1z,i1,i1x,hb1⟩:=aI (f:=cV) hb1
  rcases aa hb1 with ⟨q_6,hb1⟩|⟨q_6,hb1⟩
  ·obtain ⟨r_7,c2,hb1⟩:=bd_ hb1
   replace c2:=dY c2
   cases hb1
   have hx1:mi a_op (.inr r_7)=some _:=hk1
   unfold mi at hx1
   dsimp only at hx1
   cases hx1
   exact aj
  obtain ⟨g3,hb1⟩:=az hb1
  cases hb1
  refine bf ?_
  exact ⟨_,rfl,fm_ bL [_] rfl bq cO⟩
 cases hb1
 have hx1:mi a_op (.inl (n_1,s_2,v_3))=some _:=hk1
 unfold mi at hx1
 dsimp only at hx1
 rcases aa hx1 with ⟨q_8,hx1⟩|⟨q_8,hx1⟩
 ·obtain ⟨r_9,c4,hx1⟩:=bd_ hx1
  replace c4:=jw c4
  cases hx1
  exact aj
 obtain ⟨r_10,c5,hx1⟩:=bd_ hx1
 replace c5:=NI c5
 cases hx1
 exact aj
def uj (a_a:Int) (a_b:Int):Option (Val):=bif (decide (a_a≠(0:Int))) then bif (decide ((M4 a_a (IntKind.i64.wrap (0-a_a)))≠0)) then (bif (decide ((IntKind.i64.wrap ((1125899906842624:Int).tdiv (M4 a_a (IntKind.i64.wrap (0-a_a)))))<(M4 a_b (IntKind.i64.wrap (0-a_b))))) then (jM ).bind fun r_3=>some r_3 else
 (jN (IntKind.i64.wrap (a_a*a_b))).bind fun r_4=>some r_4) else none else
 (jN (IntKind.i64.wrap (a_a*a_b))).bind fun r_5=>some r_5
theorem I8 {a_a:Int} {a_b:Int} {r:Val} (H:uj a_a a_b=some r):Pure Tryz.prog 255 [.one (.int .i64 a_a), .one (.int .i64 a_b)] (.val (.agg (cV r))):=by
 unfold uj at H
 refine po_ Tryz.func255 Tryz.ntmps255 ?_
 rcases aa H with ⟨q_1,H⟩|⟨q_1,H⟩
 ·obtain ⟨g1,H⟩:=az H
  rcases aa H with ⟨q_2,H⟩|⟨q_2,H⟩
  ·obtain ⟨r_3,c2,H⟩:=bd_ H
   replace c2:=dY c2
   cases H
   exact aj
  obtain ⟨r_4,c3,H⟩:=bd_ H
  replace c3:=jw c3
  cases H
  exact aj
 obtain ⟨r_5,c4,H⟩:=bd_ H
 replace c4:=jw c4
 cases H
 exact aj
open Go.RowKit Go.MapKept
set_option maxRecDepth 100000
set_option maxHeartbeats 8000000
def pF (a_l:(List Val)):(Int)->Option (Step (Int) (Val)):=fun s=>match s with
 | v_1=>bif (decide (v_1<((a_l.length:Nat):Int))) then (au a_l v_1).bind fun x_3=>bif (decide (x_3.kind≠(1:Int))) then (jM ).bind fun r_5=>some (.ret r_5) else
 some (.next (IntKind.i64.wrap (v_1+(1:Int)))) else
 some (.exit v_1)
def lY (a_op:Int) (a_l:(List Val)):Sum (Int) (Val)->Option ((Val))
 | .inl v_1=>(au a_l (0:Int)).bind fun x_6=>(au a_l (IntKind.i64.wrap (((a_l.length:Nat):Int)-(1:Int)))).bind fun x_7=>bif (decide (a_op=(13:Int))) then (jN (IntKind.i64.wrap (x_6.int+x_7.int))).bind fun r_9=>some r_9 else
 bif (decide (a_op=(14:Int))) then (jN (IntKind.i64.wrap (x_6.int-x_7.int))).bind fun r_11=>some r_11 else
 bif (decide (a_op=(15:Int))) then (uj x_6.int x_7.int).bind fun r_13=>some r_13 else
 bif (decide (a_op=(18:Int))) then (jN (IntKind.i64.wrap (0-x_6.int))).bind fun r_15=>some r_15 else
 bif (decide (x_7.int=(0:Int))) then (jM ).bind fun r_17=>some r_17 else
 bif (decide (a_op=(16:Int))) then bif (decide (x_7.int≠0)) then ((jN (IntKind.i64.wrap (x_6.int.tdiv x_7.int))).bind fun r_19=>some r_19) else none else
 bif (decide (x_7.int≠0)) then ((jN (x_6.int.tmod x_7.int)).bind fun r_20=>some r_20) else none
 | .inr q=>some q
def lc (a_op:Int) (a_l:(List Val)):Option (Val):=(ah (pF a_l) fuel (0:Int)).bind (lY a_op a_l)
theorem mo {a_op:Int} {a_l:(List Val)} {r:Val} (H:lc a_op a_l=some r):Pure Tryz.prog 213 [.one (.int .i64 a_op), .one (.lst (a_l.map cV))] (.val (.agg (cV r))):=by
 unfold lc at H
 refine po_ Tryz.func213 Tryz.ntmps213 ?_
 refine bf ?_
 refine alM_ (fun s:Int=>match s with|v_1=>[(0, .one (.c (.int .i64 a_op))),(1, .one (.c (.lst (a_l.map cV)))),(4, .one (.ptr 0 0)),(9, .one (.c (.lst (a_l.map cV)))),(10, .one (.c (.int .i64 ((a_l.length:Nat):Int)))),(11, .one (.c (.int .i64 v_1)))]) (fun s=>match s with|v_1=>[.box [.c (.int .i64 (0:Int)), .c (.int .i64 (0:Int)), .c (.str ByteArray.empty)]]) H (fun _=>Zj _)
  (fm_ bL [] rfl bq cO) ?_
 rintro v_1 st1 hb1 hk1
 unfold pF at hb1
 dsimp only at hb1 ⊢
 rcases aa hb1 with ⟨q_2,hb1⟩|⟨q_2,hb1⟩
 ·obtain ⟨x_3,i1z,i1,i1x,hb1⟩:=aI (f:=cV) hb1
  rcases aa hb1 with ⟨q_4,hb1⟩|⟨q_4,hb1⟩
  ·obtain ⟨r_5,c2,hb1⟩:=bd_ hb1
   replace c2:=dY c2
   cases hb1
   have hx1:lY a_op a_l (.inr r_5)=some _:=hk1
   unfold lY at hx1
   dsimp only at hx1
   cases hx1
   exact aj
  cases hb1
  refine bf ?_
  exact ⟨_,rfl,fm_ bL [_] rfl bq cO⟩
 cases hb1
 have hx1:lY a_op a_l (.inl v_1)=some _:=hk1
 unfold lY at hx1
 dsimp only at hx1
 obtain ⟨x_6,i3z,i3,i3x,hx1⟩:=aI (f:=cV) hx1
 obtain ⟨x_7,i4z,i4,i4x,hx1⟩:=aI (f:=cV) hx1
 rcases aa hx1 with ⟨q_8,hx1⟩|⟨q_8,hx1⟩
 ·obtain ⟨r_9,c5,hx1⟩:=bd_ hx1
  replace c5:=jw c5
  cases hx1
  exact aj
 refine bf ?_
 rcases aa hx1 with ⟨q_10,hx1⟩|⟨q_10,hx1⟩
 ·obtain ⟨r_11,c6,hx1⟩:=bd_ hx1
  replace c6:=jw c6
  cases hx1
  exact aj
 rcases aa hx1 with ⟨q_12,hx1⟩|⟨q_12,hx1⟩
 ·obtain ⟨r_13,c7,hx1⟩:=bd_ hx1
  replace c7:=I8 c7
  cases hx1
  exact aj
 rcases aa hx1 with ⟨q_14,hx1⟩|⟨q_14,hx1⟩
 ·obtain ⟨r_15,c8,hx1⟩:=bd_ hx1
  replace c8:=jw c8
  cases hx1
  exact aj
 refine bf ?_
 rcases aa hx1 with ⟨q_16,hx1⟩|⟨q_16,hx1⟩
 ·obtain ⟨r_17,c9,hx1⟩:=bd_ hx1
  replace c9:=dY c9
  cases hx1
  exact aj
 rcases aa hx1 with ⟨q_18,hx1⟩|⟨q_18,hx1⟩
 ·obtain ⟨g10,hx1⟩:=az hx1
  obtain ⟨r_19,c11,hx1⟩:=bd_ hx1
  replace c11:=jw c11
  cases hx1
  exact aj
 obtain ⟨g12,hx1⟩:=az hx1
 obtain ⟨r_20,c13,hx1⟩:=bd_ hx1
 replace c13:=jw c13
 cases hx1
 exact aj
open Go.RowKit Go.MapKept
set_option maxRecDepth 100000
set_option maxHeartbeats 8000000
def uE (s_7:(List Val)):(Int × Int)->Option (Step (Int × Int) (Val)):=fun s=>match s with
 | (t_8,v_9)=>bif (decide (v_9<((s_7.length:Nat):Int))) then (au s_7 v_9).bind fun x_11=>(kC x_11).bind fun r_12=>(KN t_8 r_12).bind fun r_13=>some (.next (r_13,(IntKind.i64.wrap (v_9+(1:Int))))) else
 some (.exit (t_8,v_9))
def za:Sum (Int × Int) (Val)->Option ((Val))
 | .inl (t_8,v_9)=>(x8 t_8).bind fun r_14=>some r_14
 | .inr q=>some q
def vg (s_15:(List Val)):(Int × Int)->Option (Step (Int × Int) (Val)):=fun s=>match s with
 | (t_16,v_17)=>bif (decide (v_17<((s_15.length:Nat):Int))) then (au s_15 v_17).bind fun x_19=>(kC x_19).bind fun r_20=>(Dy t_16 r_20).bind fun r_21=>some (.next (r_21,(IntKind.i64.wrap (v_17+(1:Int))))) else
 some (.exit (t_16,v_17))
def yX:Sum (Int × Int) (Val)->Option ((Val))
 | .inl (t_16,v_17)=>(x8 t_16).bind fun r_22=>some r_22
 | .inr q=>some q
def nC (a_op:Int) (a_l:(List Val)):Option (Val):=(au a_l (0:Int)).bind fun x_1=>(kC x_1).bind fun r_2=>bif (decide (a_op=(4:Int))) then (Er r_2).bind fun r_4=>(x8 r_4).bind fun r_5=>some r_5 else
 bif (decide (a_op=(5:Int))) then (pK a_l (1:Int) ((a_l.length:Nat):Int)).bind fun s_7=>(ah (uE s_7) fuel (r_2,(0:Int))).bind (za) else
 (pK a_l (1:Int) ((a_l.length:Nat):Int)).bind fun s_15=>(ah (vg s_15) fuel (r_2,(0:Int))).bind (yX)
theorem zz {a_op:Int} {a_l:(List Val)} {r:Val} (H:nC a_op a_l=some r):Pure Tryz.prog 209 [.one (.int .i64 a_op), .one (.lst (a_l.map cV))] (.val (.agg (cV r))):=by
 unfold nC at H
 refine po_ Tryz.func209 Tryz.ntmps209 ?_
 obtain ⟨x_1,i1z,i1,i1x,H⟩:=aI (f:=cV) H
 obtain ⟨r_2,c2,H⟩:=bd_ H
 replace c2:=mE c2
 rcases aa H with ⟨q_3,H⟩|⟨q_3,H⟩
 ·obtain ⟨r_4,c3,H⟩:=bd_ H
  replace c3:=qy c3
  obtain ⟨r_5,c4,H⟩:=bd_ H
  replace c4:=xY c4
  cases H
  exact aj
 rcases aa H with ⟨q_6,H⟩|⟨q_6,H⟩
 ·obtain ⟨s_7,u5,H⟩:=bd_ H
  obtain ⟨⟨u5a,u5b,u5c⟩,u5⟩:=iZ u5
  have u5x:=Jg (f:=cV) u5
  repeat' (first|refine gs_ ?_|rw [u5x]|rw [show ((0:Nat):Int)=0 from rfl])
  refine alM_ (fun s:Int × Int=>match s with|(t_8,v_9)=>[(4, .one (.ptr 0 0)),(5, .one (.c (.int .i64 t_8))),(35, .one (.c (.lst (s_7.map cV)))),(36, .one (.c (.int .i64 ((s_7.length:Nat):Int)))),(37, .one (.c (.int .i64 v_9)))]) (fun s=>match s with|(t_8,v_9)=>[.box [.c (.int .i64 (0:Int)), .c (.int .i64 (0:Int)), .c (.str ByteArray.empty)]]) H (fun _=>Zj _)
   (fm_ bL [] rfl bq cO) ?_
  rintro ⟨t_8,v_9⟩ st1 hb1 hk1
  unfold uE at hb1
  dsimp only at hb1 ⊢
  repeat' (first|refine gs_ ?_|rw [u5x]|rw [show ((0:Nat):Int)=0 from rfl])
  rcases aa hb1 with ⟨q_10,hb1⟩|⟨q_10,hb1⟩
  ·obtain ⟨x_11,i6z,i6,i6x,hb1⟩:=aI (f:=cV) hb1
   obtain ⟨r_12,c7,hb1⟩:=bd_ hb1
   replace c7:=mE c7
   obtain ⟨r_13,c8,hb1⟩:=bd_ hb1
   replace c8:=S_ c8
   cases hb1
   repeat' (first|refine gs_ ?_|rw [u5x]|rw [show ((0:Nat):Int)=0 from rfl])
   exact ⟨_,rfl,fm_ bL [_] rfl bq cO⟩
  cases hb1
  have hx1:za (.inl (t_8,v_9))=some _:=hk1
  unfold za at hx1
  dsimp only at hx1
  obtain ⟨r_14,c9,hx1⟩:=bd_ hx1
  replace c9:=xY c9
  cases hx1
  repeat' (first|refine gs_ ?_|rw [u5x]|rw [show ((0:Nat):Int)=0 from rfl])
  refine aV (aX rfl ?_ ?_)
  ·repeat' (first|exact trivial|rfl|exact Y8 rfl|omega|apply And.intro)
  ·first|rfl|(simp only [Zb,Y9,Zd,Y3]<;>rfl)
 obtain ⟨s_15,u10,H⟩:=bd_ H
 obtain ⟨⟨u10a,u10b,u10c⟩,u10⟩:=iZ u10
 have u10x:=Jg (f:=cV) u10
 repeat' (first|refine gs_ ?_|rw [u10x]|rw [show ((0:Nat):Int)=0 from rfl])
 refine alM_ (fun s:Int × Int=>match s with|(t_16,v_17)=>[(4, .one (.ptr 0 0)),(5, .one (.c (.int .i64 t_16))),(16, .one (.c (.lst (s_15.map cV)))),(17, .one (.c (.int .i64 ((s_15.length:Nat):Int)))),(18, .one (.c (.int .i64 v_17)))]) (fun s=>match s with|(t_16,v_17)=>[.box [.c (.int .i64 (0:Int)), .c (.int .i64 (0:Int)), .c (.str ByteArray.empty)]]) H (fun _=>Zj _)
  (fm_ bL [] rfl bq cO) ?_
 rintro ⟨t_16,v_17⟩ st2 hb2 hk2
 unfold vg at hb2
 dsimp only at hb2 ⊢
 repeat' (first|refine gs_ ?_|rw [u10x]|rw [show ((0:Nat):Int)=0 from rfl])
 rcases aa hb2 with ⟨q_18,hb2⟩|⟨q_18,hb2⟩
 ·obtain ⟨x_19,i11z,i11,i11x,hb2⟩:=aI (f:=cV) hb2
  obtain ⟨r_20,c12,hb2⟩:=bd_ hb2
  replace c12:=mE c12
  obtain ⟨r_21,c13,hb2⟩:=bd_ hb2
  replace c13:=Qz c13
  cases hb2
  repeat' (first|refine gs_ ?_|rw [u10x]|rw [show ((0:Nat):Int)=0 from rfl])
  exact ⟨_,rfl,fm_ bL [_] rfl bq cO⟩
 cases hb2
 have hx2:yX (.inl (t_16,v_17))=some _:=hk2
 unfold yX at hx2
 dsimp only at hx2
 obtain ⟨r_22,c14,hx2⟩:=bd_ hx2
 replace c14:=xY c14
 cases hx2
 repeat' (first|refine gs_ ?_|rw [u10x]|rw [show ((0:Nat):Int)=0 from rfl])
 refine aV (aX rfl ?_ ?_)
 ·repeat' (first|exact trivial|rfl|exact Y8 rfl|omega|apply And.intro)
 ·first|rfl|(simp only [Zb,Y9,Zd,Y3]<;>rfl)
open Go.RowKit Go.MapKept
set_option maxRecDepth 100000
set_option maxHeartbeats 8000000
def Vy (a_row:(List Val)) (a_i:Int):Option (Val):=bif (decide (a_i<(0:Int))) then (jM ).bind fun r_2=>some r_2 else
 bif (decide (((a_row.length:Nat):Int)<=a_i)) then (jM ).bind fun r_4=>some r_4 else
 (au a_row a_i).bind fun x_5=>some x_5
theorem Ud {a_row:(List Val)} {a_i:Int} {r:Val} (H:Vy a_row a_i=some r):Pure Tryz.prog 216 [.one (.lst (a_row.map cV)), .one (.int .i64 a_i)] (.val (.agg (cV r))):=by
 unfold Vy at H
 refine po_ Tryz.func216 Tryz.ntmps216 ?_
 rcases aa H with ⟨q_1,H⟩|⟨q_1,H⟩
 ·obtain ⟨r_2,c1,H⟩:=bd_ H
  replace c1:=dY c1
  cases H
  exact aj
 rcases aa H with ⟨q_3,H⟩|⟨q_3,H⟩
 ·obtain ⟨r_4,c2,H⟩:=bd_ H
  replace c2:=dY c2
  cases H
  exact aj
 obtain ⟨x_5,i3z,i3,i3x,H⟩:=aI (f:=cV) H
 cases H
 exact aj
def ym (a_row:(List Val)) (a_l:(List Int)):((List Val) × Int)->Option (Step ((List Val) × Int) ((List Val))):=fun s=>match s with
 | (out_1,v_2)=>bif (decide (v_2<((a_l.length:Nat):Int))) then (au a_l v_2).bind fun x_4=>(Vy a_row x_4).bind fun r_5=>bif (decide (out_1.length+1<=4398046511104)) then (some (.next ((out_1++[r_5]),(IntKind.i64.wrap (v_2+(1:Int)))))) else none else
 some (.exit (out_1,v_2))
def CY:Sum ((List Val) × Int) ((List Val))->Option (((List Val)))
 | .inl (out_1,v_2)=>some out_1
 | .inr q=>some q
def Kl (a_row:(List Val)) (a_l:(List Int)):Option ((List Val)):=bif (decide (0<=((a_l.length:Nat):Int))) then (bif (decide ((32:Int)*((a_l.length:Nat):Int)<=281474976710656)) then (bif (decide (((a_l.length:Nat):Int)<=9223372036854775807)) then ((ah (ym a_row a_l) fuel ([],(0:Int))).bind (CY)) else none) else none) else none
theorem Nr {p q:Prop} (k:q) (h:Bx q->p:=by
 intro hq
 repeat' (first|refine fG rfl rfl rfl rfl rfl (rZ tab_ok (k:=3) (by_:=32) rfl rfl rfl rfl rfl rfl (by decide) (by omega) (by omega) (by omega)) ?_|refine gs_ ?_|fail)
 exact hq.out):p:=h ⟨k⟩
theorem Sd {p:Prop} (h:p:=by
 repeat' (first|refine fG rfl rfl rfl rfl rfl (rZ tab_ok (k:=3) (by_:=32) rfl rfl rfl rfl rfl rfl (by decide) (by omega) (by omega) (by omega)) ?_|refine gs_ ?_|fail)
 refine aV (aX rfl ?_ ?_)
 ·repeat' (first|exact trivial|rfl|exact Y8 rfl|omega|apply And.intro)
 ·first|rfl|(simp only [Zb,Y9,Zd,Y3]<;>rfl)):p:=h
theorem Qo {a_row:(List Val)} {a_l:(List Int)} {r:(List Val)} (H:Kl a_row a_l=some r):Pure Tryz.prog 165 [.one (.lst (a_row.map cV)), .one (.lst (a_l.map (fun x=>[AC.int .i64 x])))] (.val (.one (.lst (r.map cV)))):=by
 unfold Kl at H
 refine po_ Tryz.func165 Tryz.ntmps165 ?_
 obtain ⟨g1,H⟩:=az H
 obtain ⟨g2,H⟩:=az H
 obtain ⟨g3,H⟩:=az H
 refine Nr ?_
 refine alM_ (fun s:(List Val) × Int=>match s with|(out_1,v_2)=>[(0, .one (.c (.lst (a_row.map cV)))),(5, .one (.own (out_1.map cV) 0)),(11, .one (.c (.lst (a_l.map (fun x=>[AC.int .i64 x]))))),(12, .one (.c (.int .i64 ((a_l.length:Nat):Int)))),(13, .one (.c (.int .i64 v_2)))]) (fun s=>match s with|(out_1,v_2)=>[.spare out_1.length 3]) H (fun _=>Zj _)
  (fm_ bL [] rfl bq cO) ?_
 rintro ⟨out_1,v_2⟩ st1 hb1 hk1
 unfold ym at hb1
 dsimp only at hb1 ⊢
 rcases aa hb1 with ⟨q_3,hb1⟩|⟨q_3,hb1⟩
 ·obtain ⟨x_4,i4z,i4,i4x,hb1⟩:=aI (f:=(fun x=>[AC.int .i64 x])) hb1
  obtain ⟨r_5,c5,hb1⟩:=bd_ hb1
  replace c5:=Ud c5
  obtain ⟨g6,hb1⟩:=az hb1
  cases hb1
  refine Nr ?_
  exact ⟨_,rfl,fm_ oH [] kI bq cO⟩
 cases hb1
 have hx1:CY (.inl (out_1,v_2))=some _:=hk1
 unfold CY at hx1
 dsimp only at hx1
 cases hx1
 exact Sd
def xu (a_row:(List Val)) (a_i:Int):Option (Val):=(Kl a_row [a_i]).bind fun r_1=>(au r_1 (0:Int)).bind fun x_2=>(lT x_2).bind fun r_3=>bif (!r_3) then (jM ).bind fun r_5=>some r_5 else
 some x_2
theorem Kr {a_row:(List Val)} {a_i:Int} {r:Val} (H:xu a_row a_i=some r):Pure Tryz.prog 208 [.one (.lst (a_row.map cV)), .one (.int .i64 a_i)] (.val (.agg (cV r))):=by
 unfold xu at H
 refine po_ Tryz.func208 Tryz.ntmps208 ?_
 obtain ⟨r_1,c1,H⟩:=bd_ H
 replace c1:=Qo c1
 try simp only [Zb,Y9,Zd,Y3,aF,aQ] at c1
 obtain ⟨x_2,i2z,i2,i2x,H⟩:=aI (f:=cV) H
 obtain ⟨r_3,c3,H⟩:=bd_ H
 replace c3:=qV c3
 rcases aa H with ⟨q_4,H⟩|⟨q_4,H⟩
 ·obtain ⟨r_5,c4,H⟩:=bd_ H
  replace c4:=dY c4
  cases H
  exact aj
 cases H
 exact aj
open Go.RowKit Go.MapKept
set_option maxRecDepth 100000
set_option maxHeartbeats 8000000
def Ph (a_p:eG) (a_q:eG):Option (Int × Bool):=(Tw a_p).bind fun r_1=>bif (!r_1) then some ((0:Int),false) else
 (Tw a_q).bind fun r_3=>bif (!r_3) then some ((0:Int),false) else
 bif (decide (a_p.hi<a_q.lo)) then some ((0:Int),true) else
 bif (decide (a_p.hi=a_q.lo)) then some ((1:Int),true) else
 bif (decide (a_q.hi<a_p.lo)) then some ((12:Int),true) else
 bif (decide (a_q.hi=a_p.lo)) then some ((11:Int),true) else
 bif (cB [.c (.int .i64 a_p.lo), .c (.int .i64 a_p.hi)] [.c (.int .i64 a_q.lo), .c (.int .i64 a_q.hi)]) then some ((6:Int),true) else
 bif (decide (a_p.lo=a_q.lo)) then bif (decide (a_p.hi<a_q.hi)) then some ((3:Int),true) else
 some ((9:Int),true) else
 bif (decide (a_p.hi=a_q.hi)) then bif (decide (a_q.lo<a_p.lo)) then some ((5:Int),true) else
 some ((7:Int),true) else
 bif (decide (a_p.lo<a_q.lo)) then bif (decide (a_q.hi<a_p.hi)) then some ((8:Int),true) else
 bif (decide (a_q.lo<a_p.lo)) then bif (decide (a_p.hi<a_q.hi)) then some ((4:Int),true) else
 some ((2:Int),true) else
 some ((2:Int),true) else
 bif (decide (a_q.lo<a_p.lo)) then bif (decide (a_p.hi<a_q.hi)) then some ((4:Int),true) else
 some ((10:Int),true) else
 some ((10:Int),true)
theorem MQ {a_p:eG} {a_q:eG} {r:Int × Bool} (H:Ph a_p a_q=some r):Pure Tryz.prog 94 [.agg (oC a_p), .agg (oC a_q)] (.tup [.one (.int .i64 r.1), .one (.bool r.2)]):=by
 unfold Ph at H
 refine po_ Tryz.func94 Tryz.ntmps94 ?_
 obtain ⟨r_1,c1,H⟩:=bd_ H
 replace c1:=L6 c1
 rcases aa H with ⟨q_2,H⟩|⟨q_2,H⟩
 ·cases H
  exact aj
 obtain ⟨r_3,c2,H⟩:=bd_ H
 replace c2:=L6 c2
 rcases aa H with ⟨q_4,H⟩|⟨q_4,H⟩
 ·cases H
  exact aj
 refine bf ?_
 rcases aa H with ⟨q_5,H⟩|⟨q_5,H⟩
 ·cases H
  exact aj
 rcases aa H with ⟨q_6,H⟩|⟨q_6,H⟩
 ·cases H
  exact aj
 rcases aa H with ⟨q_7,H⟩|⟨q_7,H⟩
 ·cases H
  exact aj
 refine bf ?_
 rcases aa H with ⟨q_8,H⟩|⟨q_8,H⟩
 ·cases H
  exact aj
 rcases aa H with ⟨q_9,H⟩|⟨q_9,H⟩
 ·cases H
  exact aj
 rcases aa H with ⟨q_10,H⟩|⟨q_10,H⟩
 ·refine bf ?_
  rcases aa H with ⟨q_11,H⟩|⟨q_11,H⟩
  ·cases H
   exact aj
  cases H
  exact aj
 refine bf ?_
 rcases aa H with ⟨q_12,H⟩|⟨q_12,H⟩
 ·rcases aa H with ⟨q_13,H⟩|⟨q_13,H⟩
  ·cases H
   exact aj
  cases H
  exact aj
 rcases aa H with ⟨q_14,H⟩|⟨q_14,H⟩
 ·rcases aa H with ⟨q_15,H⟩|⟨q_15,H⟩
  ·cases H
   exact aj
  refine bf ?_
  rcases aa H with ⟨q_16,H⟩|⟨q_16,H⟩
  ·rcases aa H with ⟨q_17,H⟩|⟨q_17,H⟩
   ·cases H
    exact aj
   cases H
   exact aj
  cases H
  exact aj
 rcases aa H with ⟨q_18,H⟩|⟨q_18,H⟩
 ·refine bf ?_
  rcases aa H with ⟨q_19,H⟩|⟨q_19,H⟩
  ·cases H
   exact aj
  cases H
  exact aj
 cases H
 exact aj
end Go.Proofs.YtnbnpnmkgemdeaaGreatDoor
