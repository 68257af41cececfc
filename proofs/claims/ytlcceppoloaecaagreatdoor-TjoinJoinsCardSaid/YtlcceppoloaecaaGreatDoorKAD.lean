/- Parts. No condition. -/
import Derived.Test.YtlcceppoloaecaaGreatDoorKAC
import Derived.IntWalk
import Derived.MapFrom
import Derived.Laws.MakeOwn
import Derived.Lib.UnsafeStr
import Derived.Lib.Builder
import Derived.Laws.OwnMore
set_option linter.unusedSimpArgs false
set_option linter.unusedVariables false
namespace Go.Proofs.YtlcceppoloaecaaGreatDoor
open _root_.List (replicate)
open Go.RowKit
def gdb (ds:List (Option Tmp))(T:Tm):Option (Nat×Bool)->Option Bool
 |none=>none
 |some (j,_)=>match ds[j]? with
  |some (some d)=>match T.lookup d with
   |some (.one (.c (.bool b)))=>some b
   |_=>none
  |_=>none
section
variable {P:Program} {ti:TI} {N:Nat} {ds:List (Option Tmp)} {K:Tm->List Ob->Prop} {o:Oper} {rest:List Oper} {T:Tm} {L:List Ob}
theorem eT {A B:Prop}{g:Option (Nat×Bool)}(h:gg ds T g=some true)(ha:A):gd ds T A B g:=by
 cases g with
 |none=>exact ha
 |some p =>
  obtain⟨j,want⟩:=p;simp only[gg]at h;simp only[gd];split at h
  ·rename_i d hd
   try simp only[hd]
   split at h
   ·rename_i b hb
    try simp only[hb]
    refine⟨λ_=>ha,λe=>?_⟩;subst e
    cases want<;>simp at h
   ·cases h
   ·cases h
  ·cases h
theorem DC {A B:Prop}{g:Option (Nat×Bool)}(h:gg ds T g=some false)(hb:B):gd ds T A B g:=by
 cases g with
 |none=>cases h
 |some p =>
  obtain⟨j,want⟩:=p;simp only[gg]at h;simp only[gd];split at h
  ·rename_i d hd
   try simp only[hd]
   split at h
   ·rename_i b UT
    try simp only[UT]
    refine⟨λe=>?_,λ_=>hb⟩;subst e
    cases b<;>simp at h
   ·rename_i UT
    try simp only[UT]
    exact hb
   ·cases h
  ·cases h
theorem fN {d:Nat}(hd:o.dst=some d)(hN:Nat.blt d N=true):dOK N o.dst:=by
 rw[hd];show d<N;exact Nat.blt_eq▸hN
theorem st_nil (h:K T L):aI P ti N ds K [] T L:=h
theorem st_pop {v:AV}{φ:Prop}{d:Nat}(hd:o.dst=some d)(hN:Nat.blt d N=true)(hg:gg ds T o.guard=some true)(hp:pop ti (look T) L o.op=some (v,φ))(hφ:φ)(h:aI P ti N ds K rest ((d,v)::T) L):aI P ti N ds K (o::rest) T L :=
 ⟨fN hd hN,eT hg (.inl ⟨v,φ,hp,hφ,by rw[hd];exact h⟩)⟩
theorem st_lit {v:AV}{φ:Prop}{d:Nat}(hd:o.dst=some d)(hN:Nat.blt d N=true)(hg:gg ds T o.guard=some true)(hp:vm ti (look T) o.op=some (v,φ))(hφ:φ)(h:aI P ti N ds K rest ((d,v)::T) L):aI P ti N ds K (o::rest) T L :=
 ⟨fN hd hN,eT hg (.inr (.inl ⟨v,φ,hp,hφ,by rw[hd];exact h⟩))⟩
theorem st_lop {v:AV}{L':List Ob}{φ:Prop}{d:Nat}(hd:o.dst=some d)(hN:Nat.blt d N=true)(hg:gg ds T o.guard=some true)(hp:Gz ti (look T) L o.op=some (v,L',φ))(hφ:φ)(h:aI P ti N ds K rest ((d,v)::T) L'):aI P ti N ds K (o::rest) T L :=
 ⟨fN hd hN,eT hg (.inr (.inr (.inl ⟨v,L',φ,hp,hφ,by rw[hd];exact h⟩)))⟩
theorem sS_ {v:AV}{L':List Ob}{φ:Prop}(hd:o.dst=none)(hg:gg ds T o.guard=some true)(hp:Gz ti (look T) L o.op=some (v,L',φ))(hφ:φ)(h:aI P ti N ds K rest T L'):aI P ti N ds K (o::rest) T L :=
 ⟨by rw[hd];trivial,eT hg (.inr (.inr (.inl ⟨v,L',φ,hp,hφ,by rw[hd];exact h⟩)))⟩
theorem aN {g:FuncId}{ps:List PV}{r:CV}{d:Nat}{v:AV}(hd:o.dst=some d)(hN:Nat.blt d N=true)(hg:gg ds T o.guard=some true)(hp:qE (look T) o.op=some (g,ps))(hc:Pure P g ps r)(hv:r.av=v)(h:aI P ti N ds K rest ((d,v)::T) L):aI P ti N ds K (o::rest) T L :=
 ⟨fN hd hN,eT hg (.inr (.inr (.inr (.inl ⟨g,ps,r,hp,hc,by rw[hd,hv];exact h⟩))))⟩
theorem Ib {g:FuncId}{es PQ:List (List AC)}{t k d:Nat}{ps:List PV}(hd:o.dst=some d)(hN:Nat.blt d N=true)(hg:gg ds T o.guard=some true)(hp:eR ti (look T) o.op=some (g,es,some t,ps))(hL:L[t]?=some (.spare es.length k))(hc:Kv P g es k ps PQ)
  (h:aI P ti N ds K rest ((d,.one (.own PQ L.length))::T) (L.set t .dead++[.spare PQ.length k])):aI P ti N ds K (o::rest) T L :=
 ⟨fN hd hN,eT hg (.inr (.inr (.inr (.inr (.inl ⟨g,es,t,k,ps,PQ,hp,hL,hc,by rw[hd];exact h⟩)))))⟩
theorem cJ (σ:List Nat){g:FuncId}{L0 L1 L':List Ob}{args R7:List AV}{r r':AV}{d:Nat}(hd:o.dst=some d)(hN:Nat.blt d N=true)(hg:gg ds T o.guard=some true)(hp:cS ti (look T) o.op=some (g,R7))(hc:Run P g L0 args L1 r)(ha:R7=args.map (AV.ren σ))(hF:ge σ L0 args L)
  (hr:r.ren (bY σ L.length L1.length)=r') (hL:joinL σ L L1=L') (h:aI P ti N ds K rest ((d,r')::T) L'):aI P ti N ds K (o::rest) T L :=
 ⟨fN hd hN,eT hg (.inr (.inr (.inr (.inr (.inr (.inr (.inl ⟨σ,g,L0,args,L1,r,by rw[hp,ha],hF,hc,by rw[hd,hr,hL];exact h⟩)))))))⟩
theorem b9 {v:AV}{L':List Ob}{d:Nat}(hd:o.dst=some d)(hN:Nat.blt d N=true)(hg:gg ds T o.guard=some true)(hl:bW ti o.op=true)(Zp:ti.soft=false)(hs:sf P (look T) L o.op v L')(h:aI P ti N ds K rest ((d,v)::T) L'):aI P ti N ds K (o::rest) T L :=
 ⟨fN hd hN,eT hg (.inr (.inr (.inr (.inr (.inr (.inr (.inr ⟨v,L',⟨hl,λe=>by rw[Zp]at e;cases e⟩,hs,by rw[hd];exact h⟩)))))))⟩
theorem Iq {v:AV}{L':List Ob}(hd:o.dst=none)(hg:gg ds T o.guard=some true)(hl:bW ti o.op=true)(Zp:ti.soft=false)(hs:sf P (look T) L o.op v L')(h:aI P ti N ds K rest T L'):aI P ti N ds K (o::rest) T L :=
 ⟨by rw[hd];trivial,eT hg (.inr (.inr (.inr (.inr (.inr (.inr (.inr ⟨v,L',⟨hl,λe=>by rw[Zp]at e;cases e⟩,hs,by rw[hd];exact h⟩)))))))⟩
theorem dR {v:AV}{d:Nat}(hd:o.dst=some d)(hN:Nat.blt d N=true)(hg:gg ds T o.guard=some true)(hl:bW ti o.op=true)(hk:sk o.op=4)(hs:sf P (look T) L o.op v L)(h:aI P ti N ds K rest ((d,v)::T) L):aI P ti N ds K (o::rest) T L :=
 ⟨fN hd hN,eT hg (.inr (.inr (.inr (.inr (.inr (.inr (.inr ⟨v,L,⟨hl,λ_ => .inr ⟨hk,rfl⟩⟩,hs,by rw[hd];exact h⟩)))))))⟩
theorem acr {v:AV}{L':List Ob}{d:Nat}(hd:o.dst=some d)(hN:Nat.blt d N=true)(hg:gg ds T o.guard=some true)(hl:bW ti o.op=true)(hk:sk o.op=0)(hs:sf P (look T) L o.op v L')(h:aI P ti N ds K rest ((d,v)::T) L'):aI P ti N ds K (o::rest) T L :=
 ⟨fN hd hN,eT hg (.inr (.inr (.inr (.inr (.inr (.inr (.inr ⟨v,L',⟨hl,λ_ => .inl hk⟩,hs,by rw[hd];exact h⟩)))))))⟩
theorem st_skip {d:Nat}(hd:o.dst=some d)(hN:Nat.blt d N=true)(hg:gg ds T o.guard=some false)(h:aI P ti N ds K rest ((d,.undef)::T) L):aI P ti N ds K (o::rest) T L :=
 ⟨fN hd hN,DC hg (by rw[hd];exact h)⟩
theorem sk0_ (hd:o.dst=none)(hg:gg ds T o.guard=some false)(h:aI P ti N ds K rest T L):aI P ti N ds K (o::rest) T L :=
 ⟨by rw[hd];trivial,DC hg (by rw[hd];exact h)⟩
theorem st_if {b:Bool}(_:gdb ds T o.guard=some b)(h1:b=true->aI P ti N ds K (o::rest) T L)(h2:b=false->aI P ti N ds K (o::rest) T L):aI P ti N ds K (o::rest) T L:=by
 cases hb:b
 ·exact h2 hb
 ·exact h1 hb
end
theorem fE {β:Type}{l:List (Nat×β)}{Pr:Nat->β->Prop}(h:∀ p∈l,Pr p.1 p.2):∀ t v,l.lookup t=some v->Pr t v:=by
 intro t v hv
 induction l with
 |nil=>cases hv
 |cons p l ih =>
  obtain⟨k,x⟩:=p;rw[List.lookup_cons]at hv;by_cases e:t=k
  ·subst e;simp at hv;subst hv;exact h (t,x) m5
  ·have:(t==k)=false:=by simpa using e
   rw[this]at hv;exact ih (λp hp=>h p (aqO _ hp)) hv
theorem D4 {α:Type}{l:List α}{f:α->Bool}{Pr:α->Prop}(h:l.all f=true)(hf:∀ x,f x=true->Pr x):∀ x∈l,Pr x:=λx hx=>hf x (arf.1 h x hx)
def TI.of (sz:List (Nat×Nat))(ag:List (Nat×Bool))(el:List (Nat×Nat))(fl:List (Nat×List (Nat×Nat)))(ze:List (Nat×AV))(bt:List (Nat×Nat))(ki:List (Nat×TypeDesc))(st zo:List Nat)(eq:List (Nat×List Sc))(ow:List Nat):TI where
 size:=λt=>sz.lookup t
 agg:=λt=>ag.lookup t
 elem:=λt=>el.lookup t
 field:=λs i=>match fl.lookup s with
  |some fs=>fs[i]?
  |none=>none
 zero:=λt=>ze.lookup t
 bytes:=λt=>bt.lookup t
 kind:=λt=>ki.lookup t
 struct:=λt=>st.contains t
 zok:=λt=>zo.contains t
 eqs:=λt=>eq.lookup t
 owns:=λf=>ow.contains f
def al7 (P:Program)(t:TypeId):Bool :=
 match P.info? t with
 |some i=>match i.zero with
  |some z=>z.cells.size==i.size
  |none=>false
 |none=>false
theorem ak0 {P:Program}{t:TypeId}(h:al7 P t=true):∀ k,fg P t=some k->afs P t k:=by
 intro k hk;unfold al7 at h;unfold fg at hk;split at h
 ·rename_i i hi
  split at h
  ·rename_i z hz
   rw[hi]at hk;simp at hk;simp at h;exact⟨i,z,hi,hz,hk,by rw[h,hk]⟩
  ·cases h
 ·cases h
theorem TI.of_ok {P:Program}{sz:List (Nat×Nat)}{ag:List (Nat×Bool)}{el:List (Nat×Nat)}{fl:List (Nat×List (Nat×Nat))}{ze:List (Nat×AV)}{bt:List (Nat×Nat)}{ki:List (Nat×TypeDesc)}{st zo:List Nat}{eq:List (Nat×List Sc)}{ow:List Nat}
  (h1:(sz.all λp=>fg P p.1==some p.2)=true) (h2:(ag.all λp=>ab9 P p.1==some p.2)=true) (h3:(el.all λp=>pS P p.1==some p.2)=true)
  (h4:(fl.all λp=>(List.range p.2.length).all λi=>zf P p.1 i==p.2[i]?)=true) (h5:∀ p∈ze,zeroOf P p.1=some p.2) (h6:(bt.all λp=>ky P p.1==some p.2)=true) (h7:∀ p∈ki,P.underlying p.1=some p.2)
  (h8:(st.all λt=>Bm P t)=true) (h9:(zo.all λt=>al7 P t)=true)
  (Zt:∀ p∈eq,P.eqGuardType P.depth p.1=false /\ ∀ xs ys,e_ p.2 xs=true->e_ p.2 ys=true->ac1 P p.1 xs ys):TIok P (TI.of sz ag el fl ze bt ki st zo eq ow):=by
 refine⟨fE (D4 h1 λp hp=>by simpa using hp),fE (D4 h2 λp hp=>by simpa using hp),fE (D4 h3 λp hp=>by simpa using hp),λs i r h=>?_,fE h5,fE (D4 h6 λp hp=>by simpa using hp),fE h7,λt h=>?_,λt h=>?_,fE Zt⟩
 ·simp only[TI.of]at h
  split at h
  ·rename_i fs hf
   have:=fE (Pr:=λs fs=>((List.range fs.length).all λi=>zf P s i==fs[i]?)=true) (D4 h4 λp hp=>hp) s fs hf;have hi:i<fs.length:=(aqp.1 h).1;have h2:=arf.1 this i (by simpa using hi);rw[<- h];simpa using h2
  ·cases h
 ·exact arf.1 h8 t (by simpa[TI.of]using h)
 ·exact ak0 (arf.1 h9 t (by simpa[TI.of]using h))
section
variable {P:Program} {ti:TI} {N n0:Nat} {Q:AX->Tm->List Ob->Prop} {T:Tm} {L:List Ob}
theorem bg {rs:List ResultVar}{ps:List PV}{φ:Prop}{r:CV}(h:tW ti T L rs=some (ps,φ))(hφ:φ)(e:ajv ps=r):Res ti rs T L r:=by
 unfold Res;rw[h];exact⟨hφ,e⟩
theorem aX {rs:List ResultVar}{r:CV}(h:Res ti rs T L r):(AX.ret=AX.normal\/AX.ret=AX.ret)/\Res ti rs T L r:=⟨.inr rfl,h⟩
end
def Ce (T':Tm):Tm->Prop
 |[]=>True
 |(t,x)::T=>T'.lookup t=some x/\Ce T' T
def gQ (n:Nat):Tm->Prop
 |[]=>True
 |(_,x)::T=>x.below n/\gQ n T
def n_ (n:Nat):List Ob->Prop
 |[]=>True
 |x::L=>x.below n/\n_ n L
theorem fm_ {T' T:Tm}{L' L:List Ob}(h1:Ce T' T)(G:List Ob)(h2:L'=L++G)(h3:gQ L.length T)(h4:n_ L.length L):Fits T' L' T L:=by
 refine⟨λp hp=>?_,⟨G,h2⟩,λp hp=>?_,λx hx=>?_⟩
 ·clear h3 h2
  induction T with
  |nil=>cases hp
  |cons q T ih =>
   obtain rfl|hp:=aqH.1 hp
   ·exact h1.1
   ·exact ih h1.2 hp
 ·clear h1 h2
  induction T with
  |nil=>cases hp
  |cons q T ih =>
   obtain rfl|hp:=aqH.1 hp
   ·exact h3.1
   ·exact ih h3.2 hp
 ·clear h1 h2 h3
  generalize hn:L.length=n at h4;clear hn
  induction L with
  |nil=>cases hx
  |cons q L ih =>
   obtain rfl|hx:=aqH.1 hx
   ·exact h4.1
   ·exact ih hx h4.2
theorem aU {k:IntKind}{a b:Int}(h:a=b):some (AV.one (.c (.int k a)))=some (AV.one (.c (.int k b))):=by rw[h]
theorem lE {a b:List (List AC)}{t:Nat}(h:a=b):some (AV.one (.own a t))=some (AV.one (.own b t)):=by rw[h]
theorem dj {x:Int}(h : -9223372036854775808<=x/\x<=9223372036854775807):IntKind.i64.wrap x=x:=IntWalk.i64_in x m0
theorem aZ {x y:Int}(h:x=y)(hb : -9223372036854775808<=y/\y<=9223372036854775807):IntKind.i64.wrap x=y:=by rw[h];exact dj hb
theorem bu {α:Type}{l:List α}{f:α->List AC}{i:Nat}{x:α}(h:l[i]?=some x):(l.map f)[(i:Int).toNat]?=some (f x):=by
 rw[Int.toNat_natCast,aqN,h];rfl
theorem gol_ {α:Type}{l:List α}{i:Nat}(h:i<l.length):∃ x,l[i]?=some x:=⟨l[i],aqz h⟩
theorem bN {α:Type}{l:List α}{i:Nat}{x:α}(h:l[i]?=some x):l.take (i+1)=l.take i++[x]:=by
 obtain⟨hi,rfl⟩:=aqp.1 h;rw[List.take_succ_eq_append_getElem hi]
section
variable {P:Program} {ti:TI} {N n0:Nat} {ds:List (Option Tmp)} {K:Tm->List Ob->Prop} {o:Oper} {rest:List Oper} {T:Tm} {L:List Ob}
theorem ah_ {ρ:Operand->Option AV}{t:TypeId}{x ix:Operand}{vx:AV}{es:List (List AC)}{k0:IntKind}{i:Int}{k:Nat}{e:List AC}(hx:ρ x=some vx)(hl:dw vx=some es)(hi:ρ ix=some (.one (.c (.int k0 i))))(hk:(ti.elem t).bind ti.size=some k)(he:es[i.toNat]?=some e) :
  pop ti ρ L (.indexAddr t x ix)=some (.one (.c (.ref e)),0<=i/\e.length=k):=by
 simp only[pop,hx,hi];split
 ·rename_i h1 h2
  injection h1 with h1;subst h1;simp[dw]at hl
 ·rename_i h1 h2
  injection h1 with h1;injection h2 with h2;subst h1 h2
  simp only[em,hl,hk,he]
 ·rename_i h;exact(h _ _ rfl rfl).elim
theorem bw {t:TypeId}{x ix:Operand}{vx:AV}{es:List (List AC)}{k0:IntKind}{i:Int}{k d:Nat}{e:List AC}(hd:o.dst=some d)(hN:Nat.blt d N=true)(hg:gg ds T o.guard=some true)(ho:o.op = .indexAddr t x ix)(hx:look T x=some vx)(hl:dw vx=some es)(hi:look T ix=some (.one (.c (.int k0 i))))
  (hk:(ti.elem t).bind ti.size=some k) (he:es[i.toNat]?=some e) (hφ:0<=i/\e.length=k) (h:aI P ti N ds K rest ((d,.one (.c (.ref e)))::T) L):aI P ti N ds K (o::rest) T L :=
 st_pop hd hN hg (by rw[ho];exact ah_ hx hl hi hk he) hφ h
theorem ahC {ρ:Operand->Option AV}{t:TypeId}{p:Operand}{id O1 i off k:Nat}{es:List (List SV)}{e:List SV}{x:SV}(hp:ρ p=some (.one (.ep id O1 i off)))(hL:L[id]?=some (.row O1 es k))(ha:ti.agg t=some false)(he:es[i]?=some e)(hx:e[off]?=some x) :
  pop ti ρ L (.load t p)=some (.one x,O1=O1):=by
 simp only[pop,hp,aqo,fA,hL,he,ha,hx]
theorem mf {t:TypeId}{p:Operand}{id O1 i off k d:Nat}{es:List (List SV)}{e:List SV}{x:SV}(hd:o.dst=some d)(hN:Nat.blt d N=true)(hg:gg ds T o.guard=some true)(ho:o.op = .load t p)(hp:look T p=some (.one (.ep id O1 i off)))(hL:L[id]?=some (.row O1 es k))(ha:ti.agg t=some false)(he:es[i]?=some e)(hx:e[off]?=some x)
  (h:aI P ti N ds K rest ((d,.one x)::T) L):aI P ti N ds K (o::rest) T L :=
 st_pop hd hN hg (by rw[ho];exact ahC hp hL ha he hx) rfl h
theorem afu {ρ:Operand->Option AV}{t:TypeId}{p:Operand}{id O1 i off k n:Nat}{es:List (List SV)}{e:List SV}(hp:ρ p=some (.one (.ep id O1 i off)))(hL:L[id]?=some (.row O1 es k))(ha:ti.agg t=some true)(hn:ti.size t=some n)(he:es[i]?=some e) :
  pop ti ρ L (.load t p)=some (.agg ((e.drop off).take n),O1=O1/\off+n<=e.length):=by
 simp only[pop,hp,aqo,fA,hL,he,ha,hn]
theorem Io {t:TypeId}{p:Operand}{id O1 i off k d n:Nat}{es:List (List SV)}{e xs:List SV}(hd:o.dst=some d)(hN:Nat.blt d N=true)(hg:gg ds T o.guard=some true)(ho:o.op = .load t p)(hp:look T p=some (.one (.ep id O1 i off)))(hL:L[id]?=some (.row O1 es k))(ha:ti.agg t=some true)(hn:ti.size t=some n)(he:es[i]?=some e)(hx:(e.drop off).take n=xs)(hle:off+n<=e.length)
  (h:aI P ti N ds K rest ((d,.agg xs)::T) L):aI P ti N ds K (o::rest) T L :=
 st_pop hd hN hg (φ:=O1=O1/\off+n<=e.length) (by rw[ho];exact afu hp hL ha hn he) ⟨rfl,hle⟩ (by rw[hx];exact h)
theorem ahT {ρ:Operand->Option AV}{t:TypeId}{p q:Operand}{id O1 i off k:Nat}{es:List (List SV)}{e xs:List SV}(hp:ρ p=some (.one (.ep id O1 i off)))(hq:(ρ q).bind AV.cells=some xs)(hL:L[id]?=some (.row O1 es k))(he:es[i]?=some e) :
  Gz ti ρ L (.store t p q)=some (.undef,L.set id (.row O1 (es.set i (splice e off xs)) k),O1=O1/\off+xs.length<=e.length/\ti.size t=some xs.length):=by
 simp only[Gz,hp,hq,hL,he]
theorem oK {t:TypeId}{p q:Operand}{id O1 i off k:Nat}{es:List (List SV)}{e xs:List SV}{L':List Ob}(hd:o.dst=none)(hg:gg ds T o.guard=some true)(ho:o.op = .store t p q)(hp:look T p=some (.one (.ep id O1 i off)))(hq:(look T q).bind AV.cells=some xs)(hL:L[id]?=some (.row O1 es k))(he:es[i]?=some e)
  (hφ:off+xs.length<=e.length/\ti.size t=some xs.length) (WI:L.set id (.row O1 (es.set i (splice e off xs)) k)=L') (h:aI P ti N ds K rest T L'):aI P ti N ds K (o::rest) T L :=
 sS_ hd hg (φ:=O1=O1/\off+xs.length<=e.length/\ti.size t=some xs.length) (by rw[ho];exact ahT hp hq hL he) ⟨rfl,hφ⟩ (by rw[WI];exact h)
theorem aby {Q:AX->Tm->List Ob->Prop}{c:Code}(t:Nat){x:SV}{y:AC}(ht:T.lookup t=some (.one x))(hy:x.norm=some y)(h:Aw P N n0 c Q ((t,.one (.c y))::T) L):Aw P N n0 c Q T L:=by
 intro hn B R γ w a hi hT;refine h hn B R γ w a hi ⟨hT.size,hT.defers,λt' z hz=>?_⟩;rw[List.lookup_cons]at hz;by_cases e:t'=t
 ·subst e
  simp at hz;subst hz;obtain⟨u,h1,h2⟩:=hT.slot t' _ ht;exact⟨u,h1,SV.norm_rep h2 hy⟩
 ·have:(t'==t)=false:=by simpa using e
  rw[this]at hz;exact hT.slot t' z hz
end
open Go.RowKit Go.MapKept
def uZ (s:ByteArray):List (AC×AV)->Option Nat
 |[]=>none
 |p::r=>match p.1 with
  |.str t=>if s=t then some 0 else(uZ s r).map (· +1)
  |_=>(uZ s r).map (· +1)
def strKeys (Qe:List (AC×AV)):Prop :=∀ p∈Qe,∃ t,p.1 = .str t
def qn (Qe:List (AC×AV))(s:ByteArray)(z:AV):AV :=
 match uZ s Qe with
 |some i=>match Qe[i]? with
  |some p=>p.2
  |none=>z
 |none=>z
def K7 (Qe:List (AC×AV))(s:ByteArray)(v:AV):List (AC×AV) :=
 match uZ s Qe with
 |some i=>Qe.set i (.str s,v)
 |none=>Qe++[(.str s,v)]
section
variable {P:Program} {ti:TI} {B:Nat->Prop} {N:Nat} {R:PH} {γ:List Gh} {L:List Ob} {w:World} {ρ:Operand->Option AV}
theorem tw {s:ByteArray}:∀ {Qe:List (AC×AV)} {i:Nat},uZ s Qe=some i ->∃ p,Qe[i]?=some p/\p.1 = .str s
 |p::r,i,h=>by
  unfold uZ at h;split at h
  ·rename_i t ht
   split at h
   ·rename_i e;injection h with h;subst h e;exact⟨p,rfl,ht⟩
   ·cases hr:uZ s r with
    |none=>simp[hr]at h
    |some j=>simp[hr]at h;subst h;obtain⟨q,h1,h2⟩:=tw hr;exact⟨q,by simpa using h1,h2⟩
  ·cases hr:uZ s r with
   |none=>simp[hr]at h
   |some j=>simp[hr]at h;subst h;obtain⟨q,h1,h2⟩:=tw hr;exact⟨q,by simpa using h1,h2⟩
theorem nF {s:ByteArray}:∀ (l:List MapEntry) (Qe:List (AC×AV)) (i0:Nat),l.length=Qe.length->strKeys Qe->(∀ (j:Nat) e p,l[j]?=some e->Qe[j]?=some p->bD R e.key p.1) ->
  (uZ s Qe=none/\Instr.findNow .string (.string s) l i0=some none)\/(∃ i e,uZ s Qe=some i/\l[i]?=some e/\e.key = .string s/\Instr.findNow .string (.string s) l i0=some (some (i0+i,e.val)))
 |[],[],i0,_,_,_ => .inl ⟨rfl,rfl⟩
 |e::l,p::Qe,i0,hl,hs,hr=>by
  obtain⟨t,ht⟩:=hs p m5;have hk:=hr 0 e p rfl rfl;rw[ht]at hk;generalize UR:e.key=ek at hk
  cases hk;unfold uZ Instr.findNow;simp only[ht,UR,Instr.sameNow];by_cases e1:s=t
  ·subst e1
   refine .inr ⟨0,e,m5,rfl,UR,?_⟩;have:(s==s)=true:=(bytes_beq s s).2 rfl;simp[this]
  ·have:(s==t)=false:=by
    cases hb:(s==t)with
    |false=>rfl
    |true=>exact absurd ((bytes_beq s t).1 hb) e1
   simp only[this,e1,if_false];rcases nF l Qe (i0+1) (by simpa using hl) (λq hq=>hs q (aqO _ hq)) (λj e' q h1 h2=>hr (j+1) e' q (by simpa using h1) (by simpa using h2))with⟨h1,h2⟩|⟨i,e',h1,h2,h3,h4⟩
   ·exact .inl ⟨by simp[h1],h2⟩
   ·exact .inr ⟨i+1,e',by simp[h1],by simpa using h2,h3,by rw[h4];simp;omega⟩
theorem u_ {t:TypeId}:sf P ρ L (.makeMap t none) (.one (.mp L.length)) (L++[.map []]):=by
 intro B R γ w ev o ho hi hρ Rz;obtain⟨dst,op,type,pos,after,guard⟩:=o;simp only at ho;subst ho;refine⟨w.alloc (.map #[] 0),R,γ++[.box w.heap.size],.inl ⟨.map (some w.heap.size),?_,w.heap.size,rfl,?_⟩,?_,⟨Kept.alloc hi.bsz _,PH.sub_refl _,λ_ _ _=>rfl⟩,Mv.push _ _ hi.len⟩
 ·simp[execOp,Instr.makeMap]
 ·rw[aqx (by rw[hi.len];omega),hi.len];simp
 ·exact hi.push _ _ _ rfl ⟨⟨#[],dr w _,rfl,λj e p he _=>by simp at he⟩,λo=>hi.none_at o⟩
theorem Mv.turnMap {id:Nat}{Qe kvs':List (AC×AV)}(hL:L[id]?=some (.map Qe)):Mv R R γ γ L (L.set id (.map kvs')):=by
 have O0:id<L.length:=(aqp.1 hL).1;refine⟨PH.sub_refl _,m5,λt n k _ h=>⟨n,?_,aqG _,λ_=>rfl⟩,λt O1 es k _ h=>⟨O1,es,?_,aqG _,λ_=>⟨rfl,rfl⟩⟩,λ_ _ h=>h⟩
 ·by_cases e:t=id
  ·subst e;rw[aqJ O0]at h;cases h
  ·rw[aqK (Ne.symm e)]at h;exact h
 ·by_cases e:t=id
  ·subst e;rw[aqJ O0]at h;cases h
  ·rw[aqK (Ne.symm e)]at h;exact h
theorem E4 (hi:Inv B R γ L w){id b:Nat}{Qe:List (AC×AV)}(hL:L[id]?=some (.map Qe))(hg:γ[id]?=some (.box b)) :
  (∃ es,w.heap[b]?=some (.map es es.size)/\es.size=Qe.length /\ ∀ (j:Nat) e p,es[j]?=some e->Qe[j]?=some p->e.born=j/\bD R e.key p.1/\p.2.rep R γ L e.val):=(hi.obj id _ _ hL hg).1
theorem rW (hi:Inv B R γ L w){id b:Nat}{Qe kvs':List (AC×AV)}{es:Array MapEntry}(hL:L[id]?=some (.map Qe))(hg:γ[id]?=some (.box b))(hb:w.heap[b]?=some (.map es es.size))(PQ:Array MapEntry)(hs:PQ.size=kvs'.length)
  (h:∀ (j:Nat) e p,PQ[j]?=some e->kvs'[j]?=some p->e.born=j/\bD R e.key p.1/\p.2.rep R γ L e.val) :
  Inv B R γ (L.set id (.map kvs')) { w with heap:=w.heap.setIfInBounds b (.map PQ PQ.size) } /\ Ext B R R w { w with heap:=w.heap.setIfInBounds b (.map PQ PQ.size) } :=by
 have hh:=Go.MapKept.heap_set (o' := .map PQ PQ.size) hb;have hm:=Mv.turnMap (R:=R) (γ:=γ) (kvs':=kvs') hL;have Tv:=(hi.new id _ b hg rfl).1;have hR:∀ o,R b o=none:=(hi.obj id _ _ hL hg).2;refine⟨hi.turn hL hg rfl hm (λb' Pn=>hh.2 b' Pn) m5 (λ_ _ _=>rfl) (λo u e=>by rw[hR o]at e;cases e) ⟨⟨PQ,hh.1,hs,λj e p he hp=>?_⟩,hR⟩,⟨⟨rfl,rfl,rfl,m5,λb' Qq=>hh.2 b' (λe=>Tv (by rw[<- e];exact Qq))⟩,PH.sub_refl _,λ_ _ _=>rfl⟩⟩;obtain⟨a1,a2,a3⟩:=h j e p he hp;exact⟨a1,a2,AV.mv hm a3⟩
theorem pD {et:TypeId}{z:AV}(hz:zeroOf P et=some z):∃ u,(zeroValue et).run P w = .ok u w/\z.rep R γ L u:=by
 unfold zeroOf at hz
 cases P6:P.info? et with
 |none=>simp[P6]at hz
 |some inf =>
  simp only[P6,aqo]at hz
  cases R6:inf.zero with
  |none=>simp[R6]at hz
  |some u =>
   simp only[R6,aqo]at hz;exact⟨u,by simp[zeroValue,typeInfo,program,Sem.run,P6,R6],AV.ofVal_rep hz⟩
theorem mZ {v:AV}{p:PV}{u:Value}(h:v.norm=some p)(hu:v.rep R γ L u):p.rep R u:=AV.norm_rep hu h
theorem aj1 {p q:PV}{u v:Value}(hp:p.rep R u)(hq:q.rep R v):(AV.tup [p,q]).rep R γ L (.tuple #[u,v]):=by
 refine⟨#[u,v],rfl,rfl,λj x y hx hy=>?_⟩
 match j,hx,hy with
 |0,hx,hy=>simp at hx hy;subst hx hy;exact hp
 |1,hx,hy=>simp at hx hy;subst hx hy;exact hq
 |j+2,hx,hy=>simp at hx
theorem kZ {t kt et:TypeId}{x k:Operand}{s:ByteArray}{id:Nat}{Qe:List (AC×AV)}{z:AV}{p:PV}(hx:ρ x=some (.one (.mp id)))(hk:ρ k=some (.one (.c (.str s))))(hL:L[id]?=some (.map Qe))(VT:strKeys Qe)
  (ht:P.underlying t=some (.map kt et)) (X4:P.underlying kt=some .string) (hz:zeroOf P et=some z) (hp:(qn Qe s z).norm=some p):sf P ρ L (.lookup t x k true) (.tup [p,.one (.bool (uZ s Qe).isSome)]) L:=by
 intro B R γ w ev o ho hi hρ Rz;obtain⟨dst,op,type,pos,after,guard⟩:=o;simp only at ho;subst ho;obtain⟨b,Wi,hg⟩:=(hρ _ (by simp[Op.operands,Call.operands]) _ hx);have Zu:=(hρ _ (by simp[Op.operands,Call.operands]) _ hk);generalize Xu:ev k=kv at Zu
 cases Zu;obtain⟨es,hb,P2,TN⟩:=E4 hi hL hg;have VU:=λe=>Go.MapKept.run_checkKey (P:=P) (w:=w) (k := .string s) X4 trivial e 9999
 obtain⟨zu,hzr,Zv⟩:=pD (P:=P) (w:=w) (R:=R) (γ:=γ) (L:=L) hz;rcases nF (R:=R) (s:=s) es.toList Qe 0 (by simpa using P2) VT (λj e p he hp=>(TN j e p (by simpa using he) hp).2.1)with⟨h1,h2⟩|⟨i,e,h1,h2,h3,h4⟩
 ·refine⟨w,R,γ,.inl ⟨.tuple #[zu,.bool false],?_,?_⟩,hi,Ext.refl _ _ _,Mv.refl⟩
  ·simp[execOp,Instr.lookup,Wi,Xu,run_underlying ht,Go.MapKept.run_getObj_map hb,VU,Go.MapKept.run_findKey X4 h2,hzr,Result.andThen]
  ·unfold qn at hp;rw[h1]at hp ⊢;exact aj1 (mZ hp Zv) (.bool false)
 ·obtain⟨q,hq,Tz⟩:=tw h1
  refine⟨w,R,γ,.inl ⟨.tuple #[e.val,.bool true],?_,?_⟩,hi,Ext.refl _ _ _,Mv.refl⟩
  ·simp[execOp,Instr.lookup,Wi,Xu,run_underlying ht,Go.MapKept.run_getObj_map hb,VU,Go.MapKept.run_findKey X4 h4,Result.andThen]
  ·unfold qn at hp;rw[h1]at hp ⊢;simp only[hq]at hp;exact aj1 (mZ hp (TN i e q (by simpa using h2) hq).2.2) (.bool true)
theorem ua {es:Array MapEntry}{i j:Nat}{f:MapEntry->MapEntry}{e:MapEntry}(h:(es.modify i f)[j]?=some e):∃ e0,es[j]?=some e0/\e=if j=i then f e0 else e0:=by
 rw[Array.getElem?_modify]at h;split at h
 ·rename_i e1;subst e1
  cases h0:es[i]? with
  |none=>simp[h0]at h
  |some e0=>simp[h0]at h;exact⟨e0,rfl,by simp[h]⟩
 ·rename_i Pn;exact⟨e,h,by rw[if_neg (Ne.symm Pn)]⟩
theorem LQ {es:Array MapEntry}{Qe:List (AC×AV)}(P2:es.size=Qe.length)(TN:∀ (j:Nat) e p,es[j]?=some e->Qe[j]?=some p->e.born=j/\bD R e.key p.1/\p.2.rep R γ L e.val){key val:Value}{kx:AC}{v:AV}(hk:bD R key kx)(hv:v.rep R γ L val) :
  ∀ (j:Nat) e p,(es.push { key,val,born:=es.size })[j]?=some e->(Qe++[(kx,v)])[j]?=some p->e.born=j/\bD R e.key p.1/\p.2.rep R γ L e.val:=by
 intro j e p he hp;by_cases hj:j<es.size
 ·rw[Array.getElem?_push_lt hj]at he
  rw[aqE m0]at hp;exact TN j e p (by rw[aqP hj];exact he) hp
 ·have WH:j=es.size:=by
   have:=(aq_.1 he).1;simp at this;omega
  subst WH;rw[Array.getElem?_push_size]at he;rw[aqx m0,P2]at hp;simp at he hp;subst he hp;exact⟨rfl,hk,hv⟩
theorem ql {t kt et:TypeId}{x k y:Operand}{s:ByteArray}{id:Nat}{Qe:List (AC×AV)}{v:AV}(hx:ρ x=some (.one (.mp id)))(hk:ρ k=some (.one (.c (.str s))))(hy:ρ y=some v)(hL:L[id]?=some (.map Qe))(VT:strKeys Qe)
  (ht:P.underlying t=some (.map kt et)) (X4:P.underlying kt=some .string):sf P ρ L (.mapUpdate t x k y) .undef (L.set id (.map (K7 Qe s v))):=by
 intro B R γ w ev o ho hi hρ Rz;obtain⟨dst,op,type,pos,after,guard⟩:=o;simp only at ho;subst ho;obtain⟨b,Wi,hg⟩:=(hρ _ (by simp[Op.operands,Call.operands]) _ hx);have Zu:=(hρ _ (by simp[Op.operands,Call.operands]) _ hk);have hyv:=(hρ _ (by simp[Op.operands,Call.operands]) _ hy);generalize Xu:ev k=kv at Zu;generalize hye:ev y=yv at hyv
 cases Zu;obtain⟨es,hb,P2,TN⟩:=E4 hi hL hg;have VU:=λe=>Go.MapKept.run_checkKey (P:=P) (w:=w) (k := .string s) X4 trivial e 9999
 rcases nF (R:=R) (s:=s) es.toList Qe 0 (by simpa using P2) VT (λj e p he hp=>(TN j e p (by simpa using he) hp).2.1)with⟨h1,h2⟩|⟨i,e,h1,h2,h3,h4⟩
 ·obtain⟨i1,i2⟩:=rW hi (kvs':=Qe++[(.str s,v)]) hL hg hb (es.push { key := .string s,val:=yv,born:=es.size }) (by simp[P2]) (LQ P2 TN (.str s) hyv)
  refine⟨_,R,γ,.inr ⟨?_,rfl⟩,?_,i2,Mv.turnMap hL⟩
  ·simp[execOp,Instr.mapUpdate,Wi,Xu,hye,run_underlying ht,Go.MapKept.run_getObj_map hb,VU,Go.MapKept.run_findKey X4 h2,Go.MapKept.run_setObj_map _ hb,Result.andThen]
  ·unfold K7;rw[h1];exact i1
 ·have hj:es[i]?=some e:=by simpa using h2
  obtain⟨p,hp,Um⟩:=tw h1;obtain⟨i1,i2⟩:=rW hi (kvs':=Qe.set i (.str s,v)) hL hg hb (es.modify i λe =>{ e with key := .string s,val:=yv }) (by simp[P2]) (λj e' p' QP X5=>by
   obtain⟨e0,h5,h6⟩:=ua QP;by_cases XZ:j=i
   ·subst XZ
    rw[aqJ (aqp.1 hp).1]at X5;injection X5 with X5;subst X5
    rw[if_pos rfl]at h6;subst h6;exact⟨(TN j e0 p h5 hp).1,.str s,hyv⟩
   ·rw[aqK (Ne.symm XZ)]at X5
    rw[if_neg XZ]at h6;subst h6;exact TN j _ p' h5 X5)
  rw[Array.size_modify]at i1 i2;refine⟨_,R,γ,.inr ⟨?_,rfl⟩,?_,i2,Mv.turnMap hL⟩
  ·simp[execOp,Instr.mapUpdate,Wi,Xu,hye,run_underlying ht,Go.MapKept.run_getObj_map hb,VU,Go.MapKept.run_findKey X4 h4,hj,h3,run_keyThatStays (d := .string) (k := .string s) trivial,Go.MapKept.run_setObj_map _ hb,Result.andThen]
  ·unfold K7;rw[h1];exact i1
def capOf:AV->Option Cap
 |.one (.c x)=>some (.c x)
 |.one (.ptr id off)=>some (.ptr id off)
 |v=>match v.norm with
  |some (.one x)=>some (.c x)
  |_=>none
def xm (ρ:Operand->Option AV):List Operand->Option (List Cap)
 |[]=>some []
 |x::xs=>match (ρ x).bind capOf,xm ρ xs with
  |some c,some cs=>some (c::cs)
  |_,_=>none
theorem aak {v:AV}{c:Cap}{u:Value}(h:capOf v=some c)(hu:v.rep R γ L u):c.rep R γ u:=by
 unfold capOf at h;split at h
 ·injection h with h;subst h;exact hu
 ·injection h with h;subst h;exact hu
 ·split at h
  ·rename_i x hx;injection h with h;subst h;exact mZ hx hu
  ·cases h
theorem vS {ev:Operand->Value}:∀ {xs:List Operand} {cs:List Cap},(∀ x,x∈xs ->∀ v,ρ x=some v->v.rep R γ L (ev x))->xm ρ xs=some cs->xs.length=cs.length /\ ∀ (j:Nat) x c,xs[j]?=some x->cs[j]?=some c->c.rep R γ (ev x)
 |[],cs,_,h=>by injection h with h;subst h;exact⟨rfl,λj x c h=>by simp at h⟩
 |x::xs,cs,hρ,h=>by
  unfold xm at h;split at h
  ·rename_i c US hc TG
   injection h with h;subst h
   obtain⟨h1,h2⟩:=vS (λy hy=>hρ y (aqO _ hy)) TG;refine⟨by simp[h1],λj y d hy hd=>?_⟩
   cases j with
   |zero =>
    simp at hy hd;subst hy hd
    cases hx:ρ x with
    |none=>simp[hx]at hc
    |some v=>simp[hx]at hc;exact aak hc (hρ x m5 _ hx)
   |succ j=>exact h2 j y d (by simpa using hy) (by simpa using hd)
  ·cases h
theorem mL {f:FuncId}{captured:Array Operand}{Pj:List Cap}(hc:xm ρ captured.toList=some Pj):sf P ρ L (.makeFunc (.func f) #[] captured) (.one (.clo f Pj)) L:=by
 intro B R γ w ev o ho hi hρ Rz;obtain⟨dst,op,type,pos,after,guard⟩:=o;simp only at ho;subst ho;obtain⟨h1,h2⟩:=vS (λy hy=>hρ y (by simp[Op.operands];simpa using hy)) hc;refine⟨w,R,γ,.inl ⟨.func (.func f) #[] (captured.map ev),by simp[execOp,Instr.makeFunc],captured.map ev,rfl,by simpa using h1,λj u x hu hx=>?_⟩,hi,Ext.refl _ _ _,Mv.refl⟩;rw[Array.getElem?_map]at hu
 cases hq:captured[j]? with
 |none=>simp[hq]at hu
 |some y=>simp[hq]at hu;subst hu;exact h2 j y x (by simpa using hq) hx
end
structure fJ (R:PH)(γ:List Gh)(L:List Ob)(k:Nat)(xs:List (List SV))(news:List Value):Prop where
 len:news.length=xs.length*k
 wide:∀ e∈xs,e.length=k
 rep:∀ (i:Nat) e (j:Nat) u x,xs[i]?=some e->news[i*k+j]?=some u->e[j]?=some x->x.rep R γ L u
 one:∀ u∈news,u.oneCell'=true
def bq (s:ByteArray):List (List SV):=s.data.toList.map λb=>[.c (.int .u8 b.toNat)]
section
variable {P:Program} {ti:TI} {B:Nat->Prop} {N:Nat} {R:PH} {γ:List Gh} {L:List Ob} {w:World} {ρ:Operand->Option AV}
theorem Mv.setOb {id:Nat}{x x':Ob}{g':Gh}{R':PH}(hs:PH.sub R R')(hl:γ.length=L.length)(hx:L[id]?=some x)(Tv:∀ b,γ[id]?≠some (.box b))(htok:∀ n k,x' ≠ .spare n k)(X6:∀ Po PQ k,x' = .row Po PQ k ->∃ O1 es,x = .row O1 es k/\O1<Po) :
  Mv R R' γ (γ.set id g') L (L.set id x'):=by
 have O0:id<L.length:=(aqp.1 hx).1;refine⟨hs,m5,λt n k _ h=>?_,λt O1 es k _ h=>?_,λj b h=>?_⟩
 ·by_cases e:t=id
  ·subst e;rw[aqJ O0]at h;injection h with h;exact absurd h (htok n k)
  ·rw[aqK (Ne.symm e)]at h;exact⟨n,h,aqG _,λ_=>by rw[aqK (Ne.symm e)]⟩
 ·by_cases e:t=id
  ·subst e;rw[aqJ O0]at h;injection h with h
   obtain⟨v0,e0,h1,h2⟩:=X6 O1 es k h;exact⟨v0,e0,by rw[hx,h1],m0,λq=>by omega⟩
  ·rw[aqK (Ne.symm e)]at h;exact⟨O1,es,h,aqG _,λ_=>⟨rfl,by rw[aqK (Ne.symm e)]⟩⟩
 ·have:j≠id:=by rintro rfl;exact Tv b h
  rw[aqK (Ne.symm this)];exact h
theorem Inv.rehome (hi:Inv B R γ L w){id:Nat}{x x':Ob}{g':Gh}(hx:L[id]?=some x)(Rt:g'.block=some w.heap.size)(o:Obj)(hm:Mv R R γ (γ.set id g') L (L.set id x'))
  (QT:mr R (γ.set id g') (L.set id x') (w.drew.alloc o) x' g'):Inv B R (γ.set id g') (L.set id x') (w.drew.alloc o):=by
 have O0:id<L.length:=(aqp.1 hx).1;have Pv:∀ j h,(γ.set id g')[j]?=some h->(j=id/\h=g')\/(j≠id/\γ[j]?=some h):=by
  intro j h hh;by_cases hj:j=id
  ·subst hj
   rw[aqJ (by rw[hi.len];exact O0)]at hh;injection hh with hh
   exact .inl ⟨rfl,hh.symm⟩
  ·rw[aqK (Ne.symm hj)]at hh
   exact .inr ⟨hj,hh⟩
 have hold:∀ b,b<w.heap.size->(w.drew.alloc o).heap[b]?=w.heap[b]?:=λb hb=>eW w.drew _ hb
 have esz:(w.drew.alloc o).heap.size=w.heap.size+1:=by show(w.heap.push _).size=_;simp
 refine⟨by simp[hi.len],λb o' u h=>?_,λj y h hy hh=>?_,λj1 j2 g1 g2 h1 h2 Pn b hb=>?_,λj h b hh hb=>?_,λb hb=>by have:=hi.bsz b hb;omega⟩
 ·have:=hi.lt h
  rw[<- hi.val _ _ _ h];exact World.cell?_of_block (w:=w) (hold b this)
 ·obtain⟨rfl,rfl⟩|⟨Pn,Tq⟩:=Pv j h hh
  ·rw[aqJ O0]at hy
   injection hy with hy;subst hy
   exact QT
  ·rw[aqK (Ne.symm Pn)]at hy
   exact(hi.obj j y h hy Tq).mv hm (λb hb=>hold b (hi.new j h b Tq hb).2) (λ_ _ _ e=>e)
 ·rcases Pv j1 g1 h1 with⟨a1,rfl⟩|⟨a1,a2⟩<;>rcases Pv j2 g2 h2 with⟨b1,rfl⟩|⟨b1,b2⟩
  ·omega
  ·rw[Rt]at hb;injection hb with hb;subst hb
   intro e;have:=(hi.new j2 g2 _ b2 e).2;omega
  ·have:=(hi.new j1 g1 b a2 hb).2
   rw[Rt];simp;omega
  ·exact hi.inj j1 j2 g1 g2 a2 b2 Pn b hb
 ·obtain⟨_,rfl⟩|⟨_,b2⟩:=Pv j h hh
  ·rw[Rt]at hb;injection hb with hb;subst hb
   exact⟨λhB=>by have:=hi.bsz _ hB;omega,m0⟩
  ·have:=hi.new j h b b2 hb
   exact⟨this.1,m0⟩
theorem Inv.kill (hi:Inv B R γ L w){id:Nat}{x:Ob}{g:Gh}{b:Nat}(hx:L[id]?=some x)(hg:γ[id]?=some g)(hb:g.block=some b)(Tv:∀ b,g ≠ .box b){R':PH}{w':World}(hs:PH.sub R R')
  (hw:∀ b',b'≠b->w'.heap[b']?=w.heap[b']?) (P2:w'.heap.size=w.heap.size) (hR:∀ b' o,b'≠b->R' b' o=R b' o) (hv:∀ o u,R' b o=some u->w'.cell? ⟨b,o,none⟩=some u) :
  Inv B R' (γ.set id .none) (L.set id .dead) w'/\Mv R R' γ (γ.set id .none) L (L.set id .dead):=by
 have O0:id<L.length:=(aqp.1 hx).1;have hm:Mv R R' γ (γ.set id .none) L (L.set id .dead):=Mv.setOb hs hi.len hx (λb e=>by rw[hg]at e;injection e with e;exact Tv b e) (λ_ _ e=>by cases e) (λ_ _ _ e=>by cases e);have Pv:∀ j h,(γ.set id Gh.none)[j]?=some h->(j=id/\h = .none)\/(j≠id/\γ[j]?=some h):=by
  intro j h hh;by_cases hj:j=id
  ·subst hj
   rw[aqJ (by rw[hi.len];exact O0)]at hh;injection hh with hh
   exact .inl ⟨rfl,hh.symm⟩
  ·rw[aqK (Ne.symm hj)]at hh
   exact .inr ⟨hj,hh⟩
 refine⟨⟨by simp[hi.len],λb' o u h=>?_,λj y h hy hh=>?_,λj1 j2 g1 g2 h1 h2 Pn b' Qq=>?_,λj h b' hh Qq=>?_,λb' Qq=>by rw[P2];exact hi.bsz b' Qq⟩,hm⟩
 ·by_cases UT:b'=b
  ·subst UT;exact hv o u h
  ·rw[hR b' o UT]at h
   rw[<- hi.val _ _ _ h];exact World.cell?_of_block (w:=w) (hw b' UT)
 ·obtain⟨rfl,rfl⟩|⟨Pn,Tq⟩:=Pv j h hh
  ·rw[aqJ O0]at hy
   injection hy with hy;subst hy
   trivial
  ·rw[aqK (Ne.symm Pn)]at hy
   have Zw:∀ b',h.block=some b'->b'≠b:=λb' Qq e=>hi.inj j id h g Tq hg Pn b' Qq (by rw[hb,e])
   exact(hi.obj j y h hy Tq).mv hm (λb' Qq=>hw b' (Zw b' Qq)) (λb' o Qq e=>by rw[hR b' o (Zw b' Qq)];exact e)
 ·rcases Pv j1 g1 h1 with⟨a1,rfl⟩|⟨a1,a2⟩<;>rcases Pv j2 g2 h2 with⟨b1,rfl⟩|⟨b1,b2⟩
  ·omega
  ·cases Qq
  ·exact λe=>by cases e
  ·exact hi.inj j1 j2 g1 g2 a2 b2 Pn b' Qq
 ·obtain⟨_,rfl⟩|⟨_,b2⟩:=Pv j h hh
  ·cases Qq
  ·rw[P2];exact hi.new j h b' b2 Qq
theorem fJ.ofC {k:Nat}{xs:List (List AC)}{news:List Value}(h:Cells R k xs news):fJ R γ L k (xs.map (List.map SV.c)) news:=by
 refine⟨by rw[h.len];simp,λe he=>?_,λi e j u x he hu hx=>?_,h.one⟩
 ·obtain⟨y,hy,rfl⟩:=aq0.1 he;simpa using h.wide y hy
 ·rw[aqN]at he
  cases hq:xs[i]? with
  |none=>simp[hq]at he
  |some y =>
   simp[hq]at he;subst he;rw[aqN]at hx
   cases UU:y[j]? with
   |none=>simp[UU]at hx
   |some z =>
    simp[UU]at hx;subst hx;obtain⟨u',g1,g2⟩:=h.get i y j z hq UU;rw[hu]at g1;injection g1 with g1;subst g1
    exact g2
theorem fJ.ofStr (s:ByteArray):fJ R γ L 1 (bq s) (byteCells s):=by
 refine⟨by rw[byteCells_length];simp[bq],λe he=>?_,λi e j u x he hu hx=>?_,λu hu=>?_⟩
 ·obtain⟨y,hy,rfl⟩:=aq0.1 he;rfl
 ·unfold bq at he;unfold byteCells at hu
  rw[aqN]at he
  cases hq:s.data.toList[i]? with
  |none=>rw[hq]at he;simp at he
  |some y =>
   rw[hq]at he;simp at he;subst he;have hj:j=0:=by have:=(aqp.1 hx).1;simpa using this
   subst hj;simp at hx;subst hx;rw[Nat.mul_one,Nat.add_zero,aqN,hq]at hu;simp at hu;subst hu;exact .int _ _
 ·unfold byteCells at hu
  obtain⟨y,hy,rfl⟩:=aq0.1 hu;rfl
theorem fJ.mv {R':PH}{γ':List Gh}{L':List Ob}(h:Mv R R' γ γ' L L'){k:Nat}{xs:List (List SV)}{news:List Value}(hc:fJ R γ L k xs news):fJ R' γ' L' k xs news :=
 ⟨hc.len,hc.wide,λi e j u x he hu hx=>SV.mv h (hc.rep i e j u x he hu hx),hc.one⟩
theorem fJ.app {es xs:List (List SV)}{k:Nat}{olds news:List Value}(h:fJ R γ L k es olds)(g:fJ R γ L k xs news):fJ R γ L k (es++xs) (olds++news):=by
 refine⟨by rw[aqy,h.len,g.len,aqy,Nat.add_mul],λe he=>?_,λi e j u x he hu hx=>?_,λu hu=>?_⟩
 ·obtain he|he:=aqS.1 he
  ·exact h.wide e he
  ·exact g.wide e he
 ·by_cases hi:i<es.length
  ·rw[aqE hi]at he
   have Uk:j<k:=by rw[<- h.wide e (aqw he)];exact(aqp.1 hx).1
   rw[aqE (by rw[h.len];exact qA hi Uk)]at hu;exact h.rep i e j u x he hu hx
  ·rw[aqx m0]at he
   have hle:es.length*k<=i*k:=aq2 _ m0;rw[aqx (by rw[h.len];omega),h.len]at hu;refine g.rep (i-es.length) e j u x he ?_ hx;rw[Nat.mul_sub_right_distrib];have:i*k-es.length*k+j=i*k+j-es.length*k:=m0
   rw[this];exact hu
 ·obtain hu|hu:=aqS.1 hu
  ·exact h.one u hu
  ·exact g.one u hu
theorem SV.one_cell {x:SV}{u:Value}(h:x.rep R γ L u):u.oneCell'=true:=(SV.rep_one h).2
theorem fX (hi:Inv B R γ L w){id O1 k b c:Nat}{es:List (List SV)}(hL:L[id]?=some (.row O1 es k))(hg:γ[id]?=some (.arr b c)) :
  ∃ vs E,w.heap[b]?=some (.cells vs E (0,0))/\(E=O1%65536/\65536<=O1)/\vs.size=c*k/\es.length<=c/\0<k/\fJ R γ L k es (vs.toList.take (es.length*k)) /\ ∀ o,R b o=none:=by
 obtain⟨⟨vs,E,h1,h2,h3⟩,h4,h5,h6,h7⟩:=hi.obj id _ _ hL hg;have hle:es.length*k<=c*k:=aq2 _ h4;have get:∀ (i:Nat) e (j:Nat) u,es[i]?=some e->j<k->(vs.toList.take (es.length*k))[i*k+j]?=some u->vs[i*k+j]?=some u:=by
  intro i e j u he hj hu;rw[aqU,if_pos (qA (aqp.1 he).1 hj)]at hu;simpa using hu
 refine⟨vs,E,h1.1,h1.2,h2,h4,h5,⟨by simp;omega,h6,λi e j u x he hu hx=>?_,λu hu=>?_⟩,h7⟩
 ·have Uk:j<k:=by rw[<- h6 e (aqw he)];exact(aqp.1 hx).1
  exact h3 i e j u x he (get i e j u he Uk hu) hx
 ·obtain⟨q,hq⟩:=List.mem_iff_getElem?.1 hu
  have O0:=(aqp.1 hq).1;have Tz:q<es.length*k:=by rw[ari]at O0;omega
  have RL:q/k<es.length:=by rw[Nat.div_lt_iff_lt_mul h5];exact Tz
  have VH:q%k<k:=Nat.mod_lt _ h5;have he:=aqz RL;have hx:=aqz (l:=es[q/k]) (i:=q%k) (by rw[h6 _ (aqw he)];exact VH);have hqe:q/k*k+q%k=q:=by rw[Nat.mul_comm];exact Nat.div_add_mod q k
  exact SV.one_cell (h3 (q/k) _ (q%k) u _ he (by
   rw[hqe];rw[aqU,if_pos Tz]at hq;simpa using hq) hx)
theorem aiG (hi:Inv B R γ L w){t tx ty E:TypeId}{k by_:Nat}{es xs:List (List SV)}{id O1 n:Nat}{v x:Value}(ht:P.underlying t=some (.slice E))(VB:0<k)(hz:afs P E k)(S3:ky P E=some by_)(hE:O1%65536=E)
  (hL:L[id]?=some (.row O1 es k)) (hv:(SV.sl id O1 0 n).rep R γ L v) (hn:es.length=n) {news:List Value} (TJ:Src P k tx x xs.length news w) (RP:fJ R γ L k xs news)
  (OU:(n+xs.length)*by_<=140737488355328) (PP:n+xs.length<=140737488355328) :
  ∃ u w' γ',(Builtin.append_ #[t,tx] ty #[v,x]).run P w = .ok u w'/\Inv B R γ' (L.set id (.row (O1+65536) (es++xs) k)) w'/\Ext B R R w w'/\Mv R R γ γ' L (L.set id (.row (O1+65536) (es++xs) k)) /\
   (SV.sl id (O1+65536) 0 (n+xs.length)).rep R γ' (L.set id (.row (O1+65536) (es++xs) k)) u:=by
 obtain⟨inf,z,P6,R6,QX,U7⟩:=hz;have Qs:inf.bytes=by_:=by unfold ky at S3;rw[P6]at S3;simpa using S3
 obtain⟨hvc,O0,P4⟩:=hv;obtain⟨hle,g,hg,PR⟩:=(P4 _ es k hL).2 rfl;have Re:Src P inf.size tx x xs.length news w:=by rw[QX];exact TJ
 have Xp:news.length=xs.length*k:=RP.len;have X7:id<γ.length:=by rw[hi.len];exact O0
 have T8:∀ g',(∀ b,g ≠ .box b)->Mv R R γ (γ.set id g') L (L.set id (.row (O1+65536) (es++xs) k)):=λg' Tv =>
  Mv.setOb (PH.sub_refl _) hi.len hL (λb e=>by rw[hg]at e;injection e with e;exact Tv b e) (λ_ _ e=>by cases e) (λPo PQ k' e=>by injection e with e1 e2 e3;subst e1 e2 e3;exact⟨O1,es,rfl,m0⟩)

 have grow:∀ (a:Option Addr) (c:Nat) (olds:List Value),v = .slice a n c->c<n+xs.length->(∀ b,g ≠ .box b)->fJ R γ L k es olds->(Builtin.firstCells inf.size n (.slice a n c)).run P w.drew = .ok olds.toArray w.drew ->
   ∃ u w' γ',(Builtin.append_ #[t,tx] ty #[v,x]).run P w = .ok u w'/\Inv B R γ' (L.set id (.row (O1+65536) (es++xs) k)) w'/\Ext B R R w w'/\Mv R R γ γ' L (L.set id (.row (O1+65536) (es++xs) k)) /\
   (SV.sl id (O1+65536) 0 (n+xs.length)).rep R γ' (L.set id (.row (O1+65536) (es++xs) k)) u:=by
  intro a c olds Ua hc Tv holds Zi;have Pl:=run_append_grow_src (P:=P) (w:=w) t tx ty E inf z ht P6 R6 a n c olds Zi x xs.length news Re hc m0 (by
   have h2:=nextslicecap_le hc;have h3:Builtin.nextslicecap (n+xs.length) c*inf.bytes<=2*(n+xs.length)*inf.bytes:=aq2 _ h2;rw[Qs]at h3 ⊢;rw[Nat.mul_assoc]at h3;omega)
  have SH:=grownCap_ge w (n+xs.length) c E;generalize grownCap w (n+xs.length) c E=cap at Pl SH;have hm:=T8 (.arr w.heap.size cap) Tv;have RR:=(holds.app RP).mv hm;have Zx:(olds++news).length=(n+xs.length)*k:=by rw[RR.len,aqy,hn]
  have hI:=hi.rehome hL (g' := .arr w.heap.size cap) rfl (.cells ((olds++news).toArray++Builtin.zeroCells z.cells (cap-(n+xs.length))) E) hm (by
   refine⟨⟨_,E,⟨dr w.drew _,by rw[<- hE];show O1%65536=(O1+65536)%65536;omega,m0⟩,?_,λi e j u x he hu hx=>?_⟩,by rw[aqy,hn];exact SH,VB,RR.wide,λo=>hi.none_at o⟩
   ·rw[Array.size_append,size_zeroCells,U7];simp only[List.size_toArray];rw[Zx,<- Nat.add_mul];congr 1;omega
   ·have Uk:j<k:=by rw[<- RR.wide e (aqw he)];exact(aqp.1 hx).1
    have VC:i<n+xs.length:=by have:=(aqp.1 he).1;simpa[hn]using this
    rw[Array.getElem?_append_left (by simp only[List.size_toArray];rw[Zx];exact qA VC Uk)]at hu;exact RR.rep i e j u x he (by simpa using hu) hx)
  refine⟨_,_,_,by rw[Ua];exact Pl,hI,?_,hm,⟨rfl,rfl⟩,by simpa using O0,λQ5 TZ k2 e2=>?_⟩
  ·exact⟨⟨rfl,rfl,rfl,by show w.heap.size<=(w.heap.push _).size;simp,λb hb=>eW w.drew _ (hi.bsz b hb)⟩,PH.sub_refl _,λ_ _ _=>rfl⟩
  ·rw[aqJ O0]at e2;injection e2 with e2;injection e2 with q1 q2 q3;subst q1 q2 q3
   refine⟨aqG _,λ_=>⟨by simp[hn],.arr w.heap.size cap,aqJ X7,.inl ?_⟩⟩;simp
 match g,hg,PR with
 |.none,hg,⟨⟨a0,Ua,_⟩,SA,_⟩ =>
  have YU:es=[]:=hi.obj id _ _ hL hg;subst YU SA;by_cases hm:xs.length=0
  ·have Zj:xs=[]:=aqQ hm
   subst Zj;have YV:news=[]:=aqQ (by rw[Xp];simp);rw[YV]at Re;have Pl:=run_append_nothing (P:=P) w t tx ty E inf ht P6 a0 0 0 (aqG _) x Re;have Vq:=T8 .none (λb e=>by cases e);have Zy:γ.set id .none=γ:=by
    apply List.ext_getElem?;intro j;by_cases hj:j=id
    ·subst hj;rw[aqJ X7,hg]
    ·rw[aqK (Ne.symm hj)]
   rw[Zy]at Vq;refine⟨v,w,γ,by rw[Ua];exact Pl,?_,Ext.refl _ _ _,Vq,hvc,by simpa using O0,λQ5 TZ k2 e2=>?_⟩
   ·refine⟨by simp[hi.len],hi.val,λj y h hy hh=>?_,hi.inj,hi.new,hi.bsz⟩
    by_cases hj:j=id
    ·subst hj
     rw[aqJ O0]at hy;injection hy with hy;subst hy
     rw[hg]at hh;injection hh with hh;subst hh
     rfl
    ·rw[aqK (Ne.symm hj)]at hy
     exact(hi.obj j y h hy hh).mv Vq (λ_ _=>rfl) (λ_ _ _ e=>e)
   ·rw[aqJ O0]at e2;injection e2 with e2;injection e2 with q1 q2 q3;subst q1 q2 q3
    exact⟨aqG _,λ_=>⟨m5,.none,hg,⟨a0,Ua,λh=>by omega⟩,rfl,rfl⟩⟩
  ·refine grow a0 0 [] Ua m0 (λb e=>by cases e) ⟨m5,m5,λi e j u x he=>by simp at he,m5⟩ ?_
   cases a0 with
   |none=>exact run_firstCells_none w.drew inf.size 0 0 0
   |some ad=>exact run_firstCells_some w.drew inf.size 0 ad 0 0 [] m5 (λj u hu=>by simp at hu)
 |.arr b c,hg,PR =>
  obtain⟨vs,E2,hb,Xw,P2,Xn,hk,PU,U8⟩:=fX hi hL hg;have hc0:v = .slice (some ⟨b,0,none⟩) n c\/(c=0/\n=0 /\ ∃ a,v = .slice a 0 0):=by
   obtain PR|⟨q1,q2,q3⟩:=PR
   ·left;rw[PR];simp
   ·exact .inr ⟨q1,q2,q3⟩
  by_cases SD:n+xs.length<=c
  ·have X8:(n+xs.length)*k<=c*k:=aq2 _ SD
   have Rf:n*k+news.length=(n+xs.length)*k:=by rw[Xp,Nat.add_mul]
   obtain⟨US,g1,g2,g3⟩:=fY b E2 (0,0) news (n*k) w vs hb m0;have Zy:γ.set id (.arr b c)=γ:=by
    apply List.ext_getElem?;intro j;by_cases hj:j=id
    ·subst hj;rw[aqJ X7,hg]
    ·rw[aqK (Ne.symm hj)]
   have Vq:=T8 (.arr b c) (λb e=>by cases e);rw[Zy]at Vq;have TG:vs.toList.take (es.length*k)=vs.toList.take (n*k):=by rw[hn]
   rw[TG]at PU;have RR:=(PU.app RP).mv Vq;have hI:Inv B R γ (L.set id (.row (O1+65536) (es++xs) k)) (w.setCells b (n*k) news):=by
    refine hi.turn hL hg rfl Vq (λb' Pn=>dJ b Pn _ _ _) (eZ _ _ _ _) (λ_ _ _=>rfl) (λo u h=>by rw[U8 o]at h;cases h) ?_;refine⟨⟨US,E2,⟨g1,by rw[Xw.1];show O1%65536=(O1+65536)%65536;omega,m0⟩,by rw[g2];exact P2,λi e j u x he hu hx=>?_⟩,by rw[aqy,hn];exact SD,hk,RR.wide,U8⟩;have Uk:j<k:=by rw[<- RR.wide e (aqw he)];exact(aqp.1 hx).1
    have VC:i<n+xs.length:=by have:=(aqp.1 he).1;simpa[hn]using this
    have QL:=qA VC Uk;refine RR.rep i e j u x he ?_ hx;rw[g3]at hu;have htl:(vs.toList.take (n*k)).length=n*k:=by simp;omega
    by_cases T0:n*k<=i*k+j
    ·rw[if_pos m0]at hu
     rw[aqx m0,htl];exact hu
    ·rw[if_neg m0]at hu
     rw[aqE m0,aqU,if_pos m0];simpa using hu
   have hE:Ext B R R w (w.setCells b (n*k) news):=⟨dX (hi.new id _ b hg rfl).1 _ _ _,PH.sub_refl _,λ_ _ _=>rfl⟩;obtain Uj|⟨q1,q2,a,q3⟩:=hc0
   ·have Pl:=run_append_room_src (P:=P) (w:=w) t tx ty E inf ht P6 b 0 n c x xs.length news Re SD
     (λj hj=>by
      rw[QX,cob_ hb];have:0+n*k+j<vs.size:=m0
      rw[aqP this];rfl)
     (λj hj=>by simp[World.frozen?,hb])
    rw[QX,aq8]at Pl;refine⟨_,_,γ,by rw[Uj];exact Pl,hI,hE,Vq,⟨rfl,rfl⟩,by simpa using O0,λQ5 TZ k2 e2=>?_⟩;rw[aqJ O0]at e2;injection e2 with e2;injection e2 with p1 p2 p3;subst p1 p2 p3
    refine⟨aqG _,λ_=>⟨by simp[hn],.arr b c,hg,.inl ?_⟩⟩;simp
   ·have X9:xs.length=0:=m0
    have YV:news=[]:=aqQ (by rw[Xp,X9];simp);rw[YV,X9]at Re;have Pl:=run_append_nothing (P:=P) w t tx ty E inf ht P6 a 0 0 (aqG _) x Re;rw[YV]at hI hE;refine⟨v,_,γ,by rw[q3];exact Pl,hI,hE,Vq,hvc,by simpa using O0,λQ5 TZ k2 e2=>?_⟩;rw[aqJ O0]at e2;injection e2 with e2;injection e2 with p1 p2 p3;subst p1 p2 p3
    exact⟨aqG _,λ_=>⟨by simp[hn],.arr b c,hg,.inr ⟨q1,m0,a,q3⟩⟩⟩
  ·obtain Uj|⟨q1,q2,a,q3⟩:=hc0
   ·refine grow _ c _ Uj m0 (λb e=>by cases e) PU ?_
    rw[QX];refine run_firstCells_some w.drew k n ⟨b,0,none⟩ n c _ (by rw[PU.len,hn]) (λj u hu=>?_);rw[Addr.add_mid,aq8];have X_:w.cell? ⟨b,j,none⟩=some u:=by
     rw[cob_ hb];have hj:=(aqp.1 hu).1;rw[aqU]at hu;split at hu
     ·simpa using hu
     ·cases hu
    exact X_
   ·have YU:es=[]:=aqQ m0
    subst YU q2;refine grow a 0 [] q3 m0 (λb e=>by cases e) ⟨m5,m5,λi e j u x he=>by simp at he,m5⟩ ?_
    cases a with
    |none=>exact run_firstCells_none w.drew inf.size 0 0 0
    |some ad=>exact run_firstCells_some w.drew inf.size 0 ad 0 0 [] m5 (λj u hu=>by simp at hu)
end
def ab7 (L:List Ob):AV->Option (List (List SV))
 |.one (.c (.str s))=>some (bq s)
 |.one (.sl id _ lo n)=>match L[id]? with
  |some (.row _ es _)=>some ((es.drop lo).take n)
  |_=>none
 |x=>(dw x).map λes=>es.map (List.map SV.c)
def Gj (ti:TI)(L:List Ob)(k:Nat)(tx:TypeId):AV->Prop
 |.one (.c (.str _))=>k=1/\ti.kind tx=some .string
 |.one (.sl id O1 lo n)=>(ti.elem tx).isSome /\ ∃ es,L[id]?=some (.row O1 es k)/\lo+n<=es.length
 |x=>(ti.elem tx).isSome /\ ∃ es,dw x=some es /\ ∀ e∈es,e.length=k
section
variable {P:Program} {ti:TI} {B:Nat->Prop} {N:Nat} {R:PH} {γ:List Gh} {L:List Ob} {w:World} {ρ:Operand->Option AV}
theorem aaS {k:Nat}{tx:TypeId}(O_:TIok P ti)(hi:Inv B R γ L w){x:AV}{u:Value}(hx:x.rep R γ L u){es:List (List AC)}(he:dw x=some es)(hw:∀ e∈es,e.length=k)(ht:(ti.elem tx).isSome) :
  ∃ news,Src P k tx u (es.map (List.map SV.c)).length news w/\fJ R γ L k (es.map (List.map SV.c)) news:=by
 obtain⟨E,hE⟩:=aq7.1 ht;have S1:=O_.elem _ _ hE;have:P.underlying tx=some (.slice E):=by
  unfold pS at S1;split at S1
  ·rename_i e h;injection S1 with S1;rw[h,S1]
  ·cases S1
 obtain⟨news,h1,h2⟩:=agN (P:=P) this hi (iQ hx he) hw;exact⟨news,by simpa using h1,fJ.ofC h2⟩
theorem abQ {k:Nat}{tx:TypeId}(O_:TIok P ti)(hi:Inv B R γ L w){x:AV}{u:Value}(hx:x.rep R γ L u){xs:List (List SV)}(h:ab7 L x=some xs)(Qy:Gj ti L k tx x) :
  ∃ news,Src P k tx u xs.length news w/\fJ R γ L k xs news:=by
 unfold ab7 at h;split at h
 ·rename_i s
  injection h with h;subst h
  obtain⟨rfl,hk⟩:=Qy
  cases hx;have hl:(bq s).length=s.size:=by unfold bq;rw[aqC];simp
  exact⟨byteCells s,by rw[hl];exact Src.ofString w (O_.kind _ _ hk) s,fJ.ofStr s⟩
 ·rename_i id O1 lo n
  obtain⟨ht,es,hL,hle⟩:=Qy;rw[hL]at h;injection h with h;subst h
  obtain⟨E,hE⟩:=aq7.1 ht;have S1:=O_.elem _ _ hE;have VW:P.underlying tx=some (.slice E):=by
   unfold pS at S1;split at S1
   ·rename_i e h;injection S1 with S1;rw[h,S1]
   ·cases S1
  obtain⟨_,O0,P4⟩:=hx;obtain⟨_,g,hg,PR⟩:=(P4 _ es k hL).2 rfl;have hlen:((es.drop lo).take n).length=n:=by simp;omega
  match g,hg,PR with
  |.none,hg,⟨⟨a,hu,_⟩,hn,PG⟩ =>
   subst hu hn PG;refine⟨[],?_,⟨m5,m5,λi e j u x he=>by simp at he,m5⟩⟩
   cases a with
   |none=>simpa using Src.ofNil w VW 0
   |some ad=>simpa using Src.ofSlice w VW ad 0 0 [] m5 (λj u hu=>by simp at hu) m5
  |.arr b c,hg,PR =>
   obtain⟨vs,E2,hb,Xw,P2,Xn,hk,PU,U8⟩:=fX hi hL hg;by_cases SA:n=0
   ·subst SA
    refine⟨[],?_,⟨m5,m5,λi e j u x he=>by simp at he,m5⟩⟩;have:∃ a c',u = .slice a 0 c':=by
     obtain PR|⟨_,_,a,PR⟩:=PR
     ·exact⟨_,_,PR⟩
     ·exact⟨_,_,PR⟩
    obtain⟨a,c',rfl⟩:=this
    cases a with
    |none=>simpa using Src.ofNil w VW c'
    |some ad=>simpa using Src.ofSlice w VW ad 0 c' [] m5 (λj u hu=>by simp at hu) m5
   ·have PR:u = .slice (some ⟨b,lo*k,none⟩) n (c-lo):=by
     obtain PR|⟨_,h0,_⟩:=PR
     ·exact PR
     ·exact absurd h0 SA
    subst PR;have h1:lo*k+n*k<=es.length*k:=by rw[<- Nat.add_mul];exact aq2 _ hle
    have h2:es.length*k<=c*k:=aq2 _ Xn;have Zz:∀ (j:Nat) u,(((vs.toList.take (es.length*k)).drop (lo*k)).take (n*k))[j]?=some u->j<n*k/\(vs.toList.take (es.length*k))[lo*k+j]?=some u:=by
     intro j u hu;rw[aqU]at hu;split at hu
     ·rename_i hj;rw[arb]at hu;exact⟨hj,hu⟩
     ·cases hu
    have Xp:(((vs.toList.take (es.length*k)).drop (lo*k)).take (n*k)).length=n*k:=by simp;omega
    refine⟨((vs.toList.take (es.length*k)).drop (lo*k)).take (n*k),?_,⟨by rw[hlen];exact Xp,λe he=>PU.wide e (List.mem_of_mem_drop (arp he)),λi e j u x he hu hx=>?_,λu hu=>PU.one u (List.mem_of_mem_drop (arp hu))⟩⟩
    ·rw[hlen]
     refine Src.ofSlice w VW ⟨b,lo*k,none⟩ n (c-lo) _ Xp (λj u hu=>?_) (λu hu=>PU.one u (List.mem_of_mem_drop (arp hu)));obtain⟨hj,hu⟩:=Zz j u hu;rw[Addr.add_mid,cob_ hb];rw[aqU]at hu;split at hu
     ·simpa using hu
     ·cases hu
    ·obtain⟨hj,hu⟩:=Zz _ u hu
     rw[aqU]at he;split at he
     ·rw[arb]at he
      refine PU.rep (lo+i) e j u x he ?_ hx;rw[Nat.add_mul,Nat.add_assoc];exact hu
     ·cases he
 ·cases he:dw x with
  |none=>simp[he]at h
  |some es =>
   rw[he]at h;injection h with h;subst h
   unfold Gj at Qy;split at Qy
   ·rename_i x1 _;exact absurd rfl (x1 _)
   ·rename_i h2;exact absurd rfl (h2 _ _ _ _)
   ·obtain⟨ht,PQ,h1,h2⟩:=Qy
    rw[he]at h1;injection h1 with h1;subst h1
    exact aaS O_ hi hx he h2 ht
theorem jU (O_:TIok P ti){t E:TypeId}(h:ti.elem t=some E):P.underlying t=some (.slice E):=by
 have S1:=O_.elem _ _ h;unfold pS at S1;split at S1
 ·rename_i e h';injection S1 with S1;rw[h',S1]
 ·cases S1
theorem ee (O_:TIok P ti){s x:Operand}{t tx E:TypeId}{k by_ id O1 n:Nat}{vx:AV}{es xs:List (List SV)}(hs:ρ s=some (.one (.sl id O1 0 n)))(hx:ρ x=some vx)(hL:L[id]?=some (.row O1 es k))(TJ:ab7 L vx=some xs)(Qy:Gj ti L k tx vx)
  (ht:ti.elem t=some E) (hE:O1%65536=E) (P2:ti.size E=some k) (WP:ti.zok E=true) (S3:ti.bytes E=some by_) (hk:0<k) (hn:es.length=n) (OU:(n+xs.length)*by_<=140737488355328) (PP:n+xs.length<=140737488355328) :
  sf P ρ L (.call { callee := .builtin .append,args :=#[s,x],argTypes :=#[t,tx] }) (.one (.sl id (O1+65536) 0 (n+xs.length))) (L.set id (.row (O1+65536) (es++xs) k)):=by
 intro B R γ w ev o ho hi hρ Rz;obtain⟨dst,op,type,pos,after,guard⟩:=o;simp only at ho;subst ho;obtain⟨news,h1,h2⟩:=abQ (P:=P) (w:=w) (B:=B) O_ hi (hρ _ (by simp[Op.operands,Call.operands]) _ hx) TJ Qy;obtain⟨u,w',γ',g1,g2,g3,g4,g5⟩:=aiG (P:=P) (ty:=type) hi (jU O_ ht) hk (O_.zok _ WP _ (O_.size _ _ P2)) (O_.bytes _ _ S3) hE hL (hρ _ (by simp[Op.operands,Call.operands]) _ hs) hn h1 h2 OU PP;refine⟨w',R,γ',.inl ⟨u,?_,g5⟩,g2,g3,g4⟩;simp[execOp,resolve,invoke,builtin,g1]
theorem Inv.rowTok (hi:Inv B R γ L w)(O1 k:Nat):Inv B R (γ++[.none]) (L++[.row O1 [] k]) w:=by
 have it:=hi.tok k;refine⟨by simp[hi.len],hi.val,λi y g hy hg=>?_,it.inj,it.new,hi.bsz⟩;by_cases hid:i<L.length
 ·rw[aqE hid]at hy
  rw[aqE (by rw[hi.len];exact hid)]at hg;exact(hi.obj i y g hy hg).mv (Mv.push _ _ hi.len) (λ_ _=>rfl) (λ_ _ _ h=>h)
 ·have:i=L.length:=by have:=(aqp.1 hy).1;simp at this;omega
  subst this;rw[aqx m0]at hy;rw[aqx (by rw[hi.len];omega),hi.len]at hg;simp at hy hg;subst hy hg;rfl
theorem IY (O_:TIok P ti){s x:Operand}{t tx:TypeId}{E:Nat}{k by_:Nat}{vx:AV}{xs:List (List SV)}(hs:ρ s=some (.one .emp))(hx:ρ x=some vx)(TJ:ab7 L vx=some xs)(Qy:Gj ti L k tx vx)
  (ht:ti.elem t=some E) (hE:E<65536) (P2:ti.size E=some k) (WP:ti.zok E=true) (S3:ti.bytes E=some by_) (hk:0<k) (h0:0<xs.length) (OU:xs.length*by_<=140737488355328) (PP:xs.length<=140737488355328) :
  sf P ρ L (.call { callee := .builtin .append,args :=#[s,x],argTypes :=#[t,tx] }) (.one (.sl L.length (E+65536) 0 xs.length)) (L++[.row (E+65536) xs k]):=by
 intro B R γ w ev o ho hi hρ Rz;obtain⟨dst,op,type,pos,after,guard⟩:=o;simp only at ho;subst ho;obtain⟨news,h1,h2⟩:=abQ (P:=P) (w:=w) (B:=B) O_ hi (hρ _ (by simp[Op.operands,Call.operands]) _ hx) TJ Qy;obtain⟨a,Ua⟩:=(hρ _ (by simp[Op.operands,Call.operands]) _ hs);obtain⟨inf,z,P6,R6,QX,U7⟩:=O_.zok _ WP _ (O_.size _ _ P2);have Qs:inf.bytes=by_:=by have RB:=O_.bytes _ _ S3;unfold ky at RB;rw[P6]at RB;simpa using RB
 have Zi:(Builtin.firstCells inf.size 0 (.slice a 0 0)).run P w.drew = .ok ([]:List Value).toArray w.drew:=by
  cases a with
  |none=>exact run_firstCells_none w.drew inf.size 0 0 0
  |some ad=>exact run_firstCells_some w.drew inf.size 0 ad 0 0 [] m5 (λj u hu=>by simp at hu)
 have Pl:=run_append_grow_src (P:=P) (w:=w) t tx type E inf z (jU O_ ht) P6 R6 a 0 0 [] Zi (ev x) xs.length news (by rw[QX];exact h1) m0 m0 (by
   have h2:=nextslicecap_le (need:=0+xs.length) (old:=0) m0;have h3:Builtin.nextslicecap (0+xs.length) 0*inf.bytes<=2*(0+xs.length)*inf.bytes:=aq2 _ h2;rw[Qs]at h3 ⊢;rw[Nat.mul_assoc,aq8]at h3;rw[aq8];omega)
 have SH:=grownCap_ge w (0+xs.length) 0 E;generalize grownCap w (0+xs.length) 0 E=cap at Pl SH;rw[aq8]at Pl SH;have hm:Mv R R γ (γ++[.arr w.heap.size cap]) L (L++[.row (E+65536) xs k]):=Mv.push _ _ hi.len;have RR:=h2.mv hm;have Vd:Inv B R (γ++[.arr w.heap.size cap]) (L++[.row (E+65536) xs k]) (w.alloc (.cells (([]++news).toArray++Builtin.zeroCells z.cells (cap-xs.length)) E)):=by
  refine hi.push _ _ _ rfl ⟨⟨_,E,⟨dr w _,by show(E:Nat)=(E+65536)%65536;omega,by show 65536<=(E:Nat)+65536;omega⟩,?_,λi e j u x he hu hx=>?_⟩,SH,hk,RR.wide,λo=>hi.none_at o⟩
  ·rw[Array.size_append,size_zeroCells,U7];simp only[List.size_toArray,aqv];rw[RR.len,<- Nat.add_mul];congr 1;omega
  ·have Uk:j<k:=by rw[<- RR.wide e (aqw he)];exact(aqp.1 hx).1
   have VC:=(aqp.1 he).1;rw[Array.getElem?_append_left (by simp only[List.size_toArray,aqv];rw[RR.len];exact qA VC Uk)]at hu;exact RR.rep i e j u x he (by simpa using hu) hx
 refine⟨w.drew.alloc (.cells (([]++news).toArray++Builtin.zeroCells z.cells (cap-xs.length)) E),R,_,.inl ⟨.slice (some ⟨w.heap.size,0,none⟩) xs.length cap,by simp[execOp,resolve,invoke,builtin,Ua,Pl],⟨rfl,rfl⟩,m5,λQ5 TZ k2 e2=>?_⟩,?_,⟨⟨rfl,rfl,rfl,by show w.heap.size<=(w.heap.push _).size;simp,λb hb=>eW w.drew _ (hi.bsz b hb)⟩,PH.sub_refl _,λ_ _ _=>rfl⟩,hm⟩
 ·rw[aqx m0]at e2
  simp at e2;obtain⟨q1,q2,q3⟩:=e2;subst q1 q2 q3;refine⟨aqG _,λ_=>⟨m5,.arr w.heap.size cap,by rw[<- hi.len];simp,.inl ?_⟩⟩;simp
 ·exact⟨Vd.len,λb o u h=>Vd.val b o u h,λi x g h1 h2=>(Vd.obj i x g h1 h2).mv Mv.refl (λ_ _=>rfl) (λ_ _ _ h=>h),Vd.inj,Vd.new,Vd.bsz⟩
theorem pY (O_:TIok P ti){l c:Operand}{t:TypeId}{E k by_:Nat}{m:Int}{kl kc:IntKind}(hl:ρ l=some (.one (.c (.int kl 0))))(hc:ρ c=some (.one (.c (.int kc m))))(ht:ti.elem t=some E)(P2:ti.size E=some k)(WP:ti.zok E=true)(S3:ti.bytes E=some by_)
  (hk:0<k) (h0:0<=m) (OU:(by_:Int)*m<=281474976710656) (PP:m<=9223372036854775807) :
  sf P ρ L (.makeSlice t l c) (.one (.own [] L.length)) (L++[.spare 0 k]):=by
 intro B R γ w ev o ho hi hρ Rz;obtain⟨dst,op,type,pos,after,guard⟩:=o;simp only at ho;subst ho;obtain⟨inf,z,P6,R6,QX,U7⟩:=O_.zok _ WP _ (O_.size _ _ P2);have Qs:inf.bytes=by_:=by have RB:=O_.bytes _ _ S3;unfold ky at RB;rw[P6]at RB;simpa using RB
 have Xx:=(hρ _ (by simp[Op.operands,Call.operands]) _ hl);have SB:=(hρ _ (by simp[Op.operands,Call.operands]) _ hc);generalize hle:ev l=lv at Xx;generalize Ve:ev c=cv at SB
 cases Xx;cases SB;have Pl:=run_make (P:=P) w t E inf z (jU O_ ht) P6 R6 kl kc 0 m (Int.le_refl _) h0 (by rw[Qs];exact OU) PP;have hm:Mv R R γ (γ++[.arr w.heap.size m.toNat]) L (L++[.spare 0 k]):=Mv.push _ _ hi.len;refine⟨w.alloc (.cells (madeCells z.cells (m.toNat*inf.size)) E),R,_,.inl ⟨.slice (some ⟨w.heap.size,0,none⟩) 0 m.toNat,by simp[execOp,hle,Ve,Pl],dq _ _ _,m5,λn2 k2 e2=>?_⟩,?_,⟨Kept.alloc hi.bsz _,PH.sub_refl _,λ_ _ _=>rfl⟩,hm⟩
 ·rw[aqx m0]at e2
  simp at e2;obtain⟨q1,q2⟩:=e2;subst q1 q2;exact⟨m5,m5,λ_=>⟨.arr w.heap.size m.toNat,by rw[<- hi.len];simp,rfl⟩⟩
 ·exact hi.push _ _ _ rfl ⟨⟨_,E,dr w _,by rw[size_madeCells,QX]⟩,m5,hk,λo _=>hi.none_at o⟩
end
section
variable {P:Program} {ti:TI} {B:Nat->Prop} {N:Nat} {R:PH} {γ:List Gh} {L:List Ob} {w:World} {ρ:Operand->Option AV}
theorem kA {E Eb k:Nat}{inf:TypeInfo}(P6:P.info? E=some inf)(hz:inf.zero=some (.agg #[.pointer none,.slice none 0 0]))(hE:E<65536)(hEb:Eb<65536)(hk:0<k) :
  sf P ρ L (.alloc E) (.one (.ep L.length (E+65536) 0 0)) (L++[.row (E+65536) [[.c (.nul .ptr),.sl (L.length+1) Eb 0 0]] 2,.row Eb [] k]):=by
 intro B R γ w ev o ho hi hρ Rz;obtain⟨dst,op,type,pos,after,guard⟩:=o;simp only at ho;subst ho;have S0:=hi.rowTok Eb k;have Pl:(execOp ev { dst,op := .alloc E,type,pos,after,guard }).run P w = .ok (.value (.pointer (some ⟨w.heap.size,0,none⟩))) (w.alloc (.cells #[.pointer none,.slice none 0 0] E)):=by
  simp[execOp,Instr.alloc,zeroValue,typeInfo,program,Sem.run,P6,hz,newVar,newRow,Value.cells]
 have Vq:Mv R R γ (γ++[.arr w.heap.size 1,.none]) L (L++[.row (E+65536) [[.c (.nul .ptr),.sl (L.length+1) Eb 0 0]] 2,.row Eb [] k]):=by
  have h1:Mv R R γ (γ++[.arr w.heap.size 1]) L (L++[.row (E+65536) [[.c (.nul .ptr),.sl (L.length+1) Eb 0 0]] 2]):=Mv.push _ _ hi.len;have h2:Mv R R (γ++[.arr w.heap.size 1]) ((γ++[.arr w.heap.size 1])++[.none]) (L++[.row (E+65536) [[.c (.nul .ptr),.sl (L.length+1) Eb 0 0]] 2]) ((L++[.row (E+65536) [[.c (.nul .ptr),.sl (L.length+1) Eb 0 0]] 2])++[.row Eb [] k]):=Mv.push _ _ (by simp[hi.len]);have:=h1.trans h2;simpa using this
 have Pv:∀ j h,(γ++[Gh.arr w.heap.size 1,Gh.none])[j]?=some h->(j<L.length/\γ[j]?=some h)\/(j=L.length/\h = .arr w.heap.size 1)\/(j=L.length+1/\h = .none):=by
  intro j h hh;by_cases hj:j<γ.length
  ·rw[aqE hj]at hh;exact .inl ⟨by rw[<- hi.len];exact hj,hh⟩
  ·rw[aqx m0]at hh
   have O0:=(aqp.1 hh).1;simp at O0;have:j-γ.length=0\/j-γ.length=1:=m0
   rcases this with e|e<;>rw[e]at hh<;>simp at hh
   ·exact .inr (.inl ⟨by rw[<- hi.len];omega,hh.symm⟩)
   ·exact .inr (.inr ⟨by rw[<- hi.len];omega,hh.symm⟩)
 have hold:∀ b,b<w.heap.size->(w.alloc (.cells #[.pointer none,.slice none 0 0] E)).heap[b]?=w.heap[b]?:=λb hb=>eW w _ hb
 have esz:(w.alloc (.cells #[.pointer none,.slice none 0 0] E)).heap.size=w.heap.size+1:=by show(w.heap.push _).size=_;simp
 have VP:(SV.sl (L.length+1) Eb 0 0).rep R (γ++[Gh.arr w.heap.size 1,Gh.none]) (L++[.row (E+65536) [[.c (.nul .ptr),.sl (L.length+1) Eb 0 0]] 2,.row Eb [] k]) (.slice none 0 0):=by
  refine⟨⟨rfl,rfl⟩,m5,λQ5 TZ k2 e2=>?_⟩;rw[aqx m0]at e2;simp at e2;obtain⟨q1,q2,q3⟩:=e2;subst q1 q2 q3;exact⟨aqG _,λ_=>⟨m5,.none,by rw[aqx (by rw[hi.len];omega),hi.len];simp,⟨none,rfl,λ_=>rfl⟩,rfl,rfl⟩⟩
 refine⟨_,R,γ++[.arr w.heap.size 1,.none],.inl ⟨_,Pl,⟨rfl,rfl⟩,m5,λQ5 TZ k2 e2=>?_⟩,?_,⟨Kept.alloc hi.bsz _,PH.sub_refl _,λ_ _ _=>rfl⟩,Vq⟩
 ·rw[aqx m0]at e2
  simp at e2;obtain⟨q1,q2,q3⟩:=e2;subst q1 q2 q3;exact⟨aqG _,λ_=>⟨m5,.arr w.heap.size 1,by rw[aqx (by rw[hi.len];omega),hi.len];simp,rfl⟩⟩
 ·refine⟨by simp[hi.len],λb o' u h=>?_,λj y h hy hh=>?_,λj1 j2 g1 g2 h1 h2 Pn b hb=>?_,λj h b hh hb=>?_,λb hb=>by have:=hi.bsz b hb;omega⟩
  ·have:=hi.lt h
   rw[<- hi.val _ _ _ h];exact World.cell?_of_block (w:=w) (hold b this)
  ·obtain⟨hj,Tq⟩|⟨rfl,rfl⟩|⟨rfl,rfl⟩:=Pv j h hh
   ·rw[aqE hj]at hy
    exact(hi.obj j y h hy Tq).mv Vq (λb hb=>hold b (hi.new j h b Tq hb).2) (λ_ _ _ e=>e)
   ·rw[aqx m0]at hy
    simp at hy;subst hy;refine⟨⟨_,E,⟨dr w _,by show(E:Nat)=(E+65536)%65536;omega,m0⟩,rfl,λi e j' u x he hu hx=>?_⟩,m5,m0,m5,λo=>hi.none_at o⟩;have:i=0:=by have:=(aqp.1 he).1;simpa using this
    subst this;simp at he;subst he
    match j',hx with
    |0,hx=>simp at hx hu;subst hx hu;exact .nul .ptr _ rfl
    |1,hx=>simp at hx hu;subst hx hu;exact VP
    |j'+2,hx=>simp at hx
   ·rw[aqx m0]at hy
    simp at hy;subst hy;rfl
  ·rcases Pv j1 g1 h1 with⟨a1,a2⟩|⟨a1,rfl⟩|⟨a1,rfl⟩<;>rcases Pv j2 g2 h2 with⟨b1,b2⟩|⟨b1,rfl⟩|⟨b1,rfl⟩
   ·exact hi.inj j1 j2 g1 g2 a2 b2 Pn b hb
   ·have:=(hi.new j1 g1 b a2 hb).2
    simp only[Gh.block,ne_eq,Option.some.injEq];omega
   ·exact λe=>by cases e
   ·simp only[Gh.block,Option.some.injEq]at hb
    intro e;have:=(hi.new j2 g2 _ b2 e).2;omega
   ·omega
   ·exact λe=>by cases e
   ·cases hb
   ·cases hb
   ·cases hb
  ·obtain⟨_,b2⟩|⟨_,rfl⟩|⟨_,rfl⟩:=Pv j h hh
   ·have:=hi.new j h b b2 hb
    exact⟨this.1,m0⟩
   ·simp only[Gh.block,Option.some.injEq]at hb;subst hb
    exact⟨λhB=>by have:=hi.bsz _ hB;omega,m0⟩
   ·cases hb
theorem JS {id O1 i off k:Nat}{es:List (List SV)}{u:Value}(hL:L[id]?=some (.row O1 es k))(h:(SV.ep id O1 i off).rep R γ L u):i<es.length /\ ∃ b c,γ[id]?=some (.arr b c)/\u = .pointer (some ⟨b,i*k+off,none⟩):=by
 obtain⟨_,_,P4⟩:=h;obtain⟨h1,g,hg,PR⟩:=(P4 _ es k hL).2 rfl
 match g,hg,PR with
 |.arr b c,hg,PR=>exact⟨h1,b,c,hg,PR⟩
theorem GK {e:TypeId}{s:Nat}(hs:P.cellsOf e=s)(h0:0<s)(count:Nat)(hn:1<=count):liesAt P P.depth e count 0 e 1=true:=by
 have hd:P.depth=(2*(P.types.size+Made.depth)+1)+1:=rfl;rw[hd];simp only[liesAt,Bool.or_eq_true];left;rw[hd];have:s≠0:=m0
 simp[rowAt,hs,hn,sameLayout,this]
theorem jy {s d t:TypeId}{x:Operand}{id O1 k:Nat}{es:List (List SV)}{j:TypeInfo}(hx:ρ x=some (.one (.ep id O1 0 0)))(hL:L[id]?=some (.row O1 es k))(hs:P.underlying s=some (.pointer t))(hd:P.underlying d=some .unsafePointer)(ht:P.info? t=some j)(hj:j.size≠0) :
  sf P ρ L (.convert s d x) (.one (.ep id O1 0 0)) L:=by
 intro B R γ w ev o ho hi hρ Rz;obtain⟨dst,op,type,pos,after,guard⟩:=o;simp only at ho;subst ho;have SL:=(hρ _ (by simp[Op.operands,Call.operands]) _ hx);obtain⟨O0,b,c,hg,hu⟩:=JS (R:=R) hL SL;obtain⟨vs,E,hb,hE,P2,hle,hk,_,_⟩:=fX hi hL hg;have WC:w.shape? b=some (E,c*k):=by simp[World.shape?,hb,P2]
 have h1:1*k<=c*k:=aq2 _ m0;rw[hu]at SL;refine⟨w,R,γ,.inl ⟨_,?_,SL⟩,hi,Ext.refl _ _ _,Mv.refl⟩;have:=Lib.run_to_unsafe (P:=P) w (⟨b,0*k+0,none⟩:Addr) hs hd ht hj WC (by show 0*k+0<c*k;omega);simp only[Nat.zero_mul,aq8,Nat.add_zero]at this hu ⊢;simp[execOp,hu,this]
theorem mD {s d:TypeId}{t:Nat}{x:Operand}{id O1 k:Nat}{es:List (List SV)}{j:TypeInfo}(hx:ρ x=some (.one (.ep id O1 0 0)))(hL:L[id]?=some (.row O1 es k))(hs:P.underlying s=some .unsafePointer)(hd:P.underlying d=some (.pointer t))(ht:P.info? t=some j)(hc:P.cellsOf t=k)(hE:O1%65536=t) :
  sf P ρ L (.convert s d x) (.one (.ep id O1 0 0)) L:=by
 intro B R γ w ev o ho hi hρ Rz;obtain⟨dst,op,type,pos,after,guard⟩:=o;simp only at ho;subst ho;have SL:=(hρ _ (by simp[Op.operands,Call.operands]) _ hx);obtain⟨O0,b,c,hg,hu⟩:=JS (R:=R) hL SL;obtain⟨vs,E,hb,Xw,P2,hle,hk,_,_⟩:=fX hi hL hg;have hEt:E=t:=by rw[Xw.1];exact hE
 subst hEt;have WC:w.shape? b=some (E,c*k):=by simp[World.shape?,hb,P2]
 rw[hu]at SL;refine⟨w,R,γ,.inl ⟨_,?_,SL⟩,hi,Ext.refl _ _ _,Mv.refl⟩;have ZA:liesAt P P.depth E (c*k/P.cellsOf E) 0 E 1=true:=by
  rw[hc,Nat.mul_div_cancel _ hk];exact GK hc hk c m0
 have:=Lib.run_from_unsafe (P:=P) w (⟨b,0*k+0,none⟩:Addr) hs hd ht WC (by simpa using ZA);simp only[Nat.zero_mul,aq8,Nat.add_zero]at this hu ⊢;simp[execOp,hu,this]
theorem mJ {f : FuncId} {fn : Func} {x : Operand} {ts : Array TypeId} {v : AV} (hx : ρ x = some v) (hf : P.funcs[f]? = some fn) (P_ : (fn.name == "runtime.NumGoroutine") = false)
  (hb:fn.body.isNone=true) (hn:Extern.findNext fn=none) (he:Extern.find fn=some Extern.AbiNoEscape.same) :
  sf P ρ L (.call { callee := .value (.func f),args :=#[x],argTypes:=ts }) v L:=by
 intro B R γ w ev o ho hi hρ Rz;obtain⟨dst,op,type,pos,after,guard⟩:=o;simp only at ho;subst ho;refine⟨w,R,γ,.inl ⟨ev x,?_,(hρ _ (by simp[Op.operands,Call.operands]) _ hx)⟩,hi,Ext.refl _ _ _,Mv.refl⟩;have:=run_callFunc_extern hf P_ hb hn he #[ev x] w;rw[Lib.run_noEscape]at this;simp[execOp,resolve,Deferred.ofValue,Rz.1,invoke,this,Result.andThen]
theorem wh {t te:TypeId}(b:Option Addr)(ht:P.underlying t=some (.pointer te)):(binOp .eql t (.pointer b) (.pointer none)).run P w = .ok (.bool b.isNone) w:=by
 have h:∀ d:Nat,(Op.equalIn (d+1) t (.pointer b) (.pointer none)).run P w = .ok b.isNone w:=λd=>by
  cases b<;>simp[Op.equalIn,run_underlying ht]
 simp only[binOp];rw[Sem.run_bind,show Op.equal t (.pointer b) (.pointer none)=Op.equalIn (9999+1) t (.pointer b) (.pointer none)from rfl,h];simp
theorem xP {t t' te:TypeId}{x y:Operand}(hx:ρ x=some (.one (.c (.nul .ptr))))(hy:ρ y=some (.one (.c (.nul .ptr))))(ht:P.underlying t=some (.pointer te)) :
  sf P ρ L (.binOp .eql t x y t') (.one (.c (.bool true))) L:=by
 intro B R γ w ev o ho hi hρ Rz;obtain⟨dst,WE,type,pos,after,guard⟩:=o;simp only at ho;subst ho;have h1:=(hρ _ (by simp[Op.operands,Call.operands]) _ hx);have h2:=(hρ _ (by simp[Op.operands,Call.operands]) _ hy);generalize hex:ev x=ux at h1;generalize WQ:ev y=uy at h2
 cases h1 with|nul _ _ e1=>cases h2 with|nul _ _ e2 =>
 subst e1 e2;have:=wh (P:=P) (w:=w) none ht;exact⟨w,R,γ,.inl ⟨.bool true,by simp[execOp,hex,WQ,eqGuard,Nul.val,this],.bool true⟩,hi,Ext.refl _ _ _,Mv.refl⟩
theorem pm {t t' te:TypeId}{x y:Operand}{id O1 i off k:Nat}{es:List (List SV)}(hx:ρ x=some (.one (.ep id O1 i off)))(hL:L[id]?=some (.row O1 es k))(hy:ρ y=some (.one (.c (.nul .ptr))))(ht:P.underlying t=some (.pointer te)) :
  sf P ρ L (.binOp .eql t x y t') (.one (.c (.bool false))) L:=by
 intro B R γ w ev o ho hi hρ Rz;obtain⟨dst,WE,type,pos,after,guard⟩:=o;simp only at ho;subst ho;obtain⟨_,b,c,_,hu⟩:=JS (R:=R) hL (hρ _ (by simp[Op.operands,Call.operands]) _ hx);have h2:=(hρ _ (by simp[Op.operands,Call.operands]) _ hy);generalize WQ:ev y=uy at h2
 cases h2 with|nul _ _ e2 =>
 subst e2;have:=wh (P:=P) (w:=w) (some ⟨b,i*k+off,none⟩) ht;exact⟨w,R,γ,.inl ⟨.bool false,by simp[execOp,hu,WQ,eqGuard,Nul.val,this],.bool false⟩,hi,Ext.refl _ _ _,Mv.refl⟩
theorem pL {t t' te:TypeId}{x y:Operand}{id O1 i off k:Nat}{es:List (List SV)}{j:TypeInfo}(hx:ρ x=some (.one (.ep id O1 i off)))(hL:L[id]?=some (.row O1 es k))(hy:ρ y=some (.one (.ep id O1 i off)))(ht:P.underlying t=some (.pointer te))(S1:P.info? te=some j) :
  sf P ρ L (.binOp .neq t x y t') (.one (.c (.bool false))) L:=by
 intro B R γ w ev o ho hi hρ Rz;obtain⟨dst,WE,type,pos,after,guard⟩:=o;simp only at ho;subst ho;obtain⟨_,b,c,hg,hu⟩:=JS (R:=R) hL (hρ _ (by simp[Op.operands,Call.operands]) _ hx);obtain⟨_,b',c',Rt,YS⟩:=JS (R:=R) hL (hρ _ (by simp[Op.operands,Call.operands]) _ hy);rw[hg]at Rt;injection Rt with Rt;injection Rt with e1 e2;subst e1 e2
 refine⟨w,R,γ,.inl ⟨.bool false,?_,.bool false⟩,hi,Ext.refl _ _ _,Mv.refl⟩;have:=Lib.run_neq_ptr_same (P:=P) w (⟨b,i*k+off,none⟩:Addr) ht S1;simp[execOp,hu,YS,eqGuard,this]
theorem Av {t t' te:TypeId}{x:Operand}{vx:AV}{e:List AC}{es:List (List AC)}(hx:ρ x=some vx)(hl:dw vx=some (e::es))(ht:P.underlying t=some (.slice te)) :
  sf P ρ L (.binOp .eql t x (.const (.slice none 0 0)) t') (.one (.c (.bool false))) L:=by
 intro B R γ w ev o ho hi hρ Rz;obtain⟨dst,WE,type,pos,after,guard⟩:=o;simp only at ho;subst ho;have h1:=iQ (hρ x (by simp[Op.operands]) _ hx) hl;generalize hex:ev x=ux at h1
 cases h1 with
 |lst a n c _ k cv b o hn hc hk ha hr he =>
  have h0:0<n:=by rw[<- hn];simp
  have ha':=ha h0;subst ha';refine⟨w,R,γ,.inl ⟨.bool false,?_,.bool false⟩,hi,Ext.refl _ _ _,Mv.refl⟩;have h:∀ d:Nat,(Op.equalIn (d+1) t (.slice (some ⟨b,o,none⟩) n c) (.slice none 0 0)).run P w = .ok false w:=λd=>by
   simp[Op.equalIn,run_underlying ht]
  have h2:(binOp .eql t (.slice (some ⟨b,o,none⟩) n c) (.slice none 0 0)).run P w = .ok (.bool false) w:=by
   simp only[binOp];rw[Sem.run_bind,show Op.equal t (.slice (some ⟨b,o,none⟩) n c) (.slice none 0 0)=Op.equalIn (9999+1) t (.slice (some ⟨b,o,none⟩) n c) (.slice none 0 0)from rfl,h];simp
  simp[execOp,hex,Rz.2,eqGuard,h2]
theorem qC {x:Operand}{ts:Array TypeId}{id O1 n k:Nat}{es:List (List SV)}(hx:ρ x=some (.one (.sl id O1 0 n)))(hL:L[id]?=some (.row O1 es k))(hn:0<n) :
  sf P ρ L (.call { callee := .builtin .unsafeSliceData,args :=#[x],argTypes:=ts }) (.one (.ep id O1 0 0)) L:=by
 intro B R γ w ev o ho hi hρ Rz;obtain⟨dst,WE,type,pos,after,guard⟩:=o;simp only at ho;subst ho;obtain⟨hvc,O0,P4⟩:=(hρ _ (by simp[Op.operands,Call.operands]) _ hx);obtain⟨hle,g,hg,PR⟩:=(P4 _ es k hL).2 rfl
 match g,hg,PR with
 |.none,hg,⟨_,h0,_⟩=>omega
 |.arr b c,hg,PR =>
  have PR:ev x = .slice (some ⟨b,0*k,none⟩) n (c-0):=by
   obtain PR|⟨_,h0,_⟩:=PR
   ·exact PR
   ·omega
  obtain⟨vs,E,hb,Xw,P2,X8,hk,_,_⟩:=fX hi hL hg;have hc:c≠0:=m0
  refine⟨w,R,γ,.inl ⟨.pointer (some ⟨b,0,none⟩),?_,⟨rfl,rfl⟩,O0,λQ5 TZ k2 e2=>?_⟩,hi,Ext.refl _ _ _,Mv.refl⟩
  ·have:=Lib.run_unsafeSliceData_row (P:=P) w ts type (⟨b,0,none⟩:Addr) n c hc
   simp only[Nat.zero_mul,Nat.sub_zero]at PR;simp[execOp,resolve,invoke,builtin,PR,this]
  ·rw[hL]at e2;injection e2 with e2;injection e2 with q1 q2 q3;subst q1 q2 q3
   refine⟨aqG _,λ_=>⟨m0,.arr b c,hg,?_⟩⟩;simp[am_]
theorem oF {x:Operand}{ts:Array TypeId}{id O1 k:Nat}(hx:ρ x=some (.one (.sl id O1 0 0)))(hL:L[id]?=some (.row O1 [] k))(hv:O1<65536) :
  sf P ρ L (.call { callee := .builtin .unsafeSliceData,args :=#[x],argTypes:=ts }) (.one (.c (.nul .ptr))) L:=by
 intro B R γ w ev o ho hi hρ Rz;obtain⟨dst,WE,type,pos,after,guard⟩:=o;simp only at ho;subst ho;obtain⟨hvc,O0,P4⟩:=(hρ _ (by simp[Op.operands,Call.operands]) _ hx);obtain⟨hle,g,hg,PR⟩:=(P4 _ [] k hL).2 rfl
 match g,hg,PR with
 |.none,hg,⟨⟨a,hu,ha⟩,h0,_⟩ =>
  have ha':=ha hv;subst ha';exact⟨w,R,γ,.inl ⟨.pointer none,by have:=Lib.run_unsafeSliceData_nil (P:=P) w ts type 0 0;simp[execOp,resolve,invoke,builtin,hu,this],.nul .ptr _ rfl⟩,hi,Ext.refl _ _ _,Mv.refl⟩
 |.arr b c,hg,PR =>
  obtain⟨vs,E,hb,Xw,P2,X8,hk,_,_⟩:=fX hi hL hg;omega
theorem jv {x y:Operand}{pt it:TypeId}(hx:ρ x=some (.one (.c (.nul .ptr))))(hy:ρ y=some (.one (.c (.int .i64 0)))) :
  sf P ρ L (.call { callee := .builtin .unsafeString,args :=#[x,y],argTypes :=#[pt,it] }) (.one (.c (.str .empty))) L:=by
 intro B R γ w ev o ho hi hρ Rz;obtain⟨dst,WE,type,pos,after,guard⟩:=o;simp only at ho;subst ho;have h1:=(hρ _ (by simp[Op.operands,Call.operands]) _ hx);have h2:=(hρ _ (by simp[Op.operands,Call.operands]) _ hy);generalize hex:ev x=ux at h1;generalize WQ:ev y=uy at h2
 cases h1 with|nul _ _ e1 =>
 cases h2;subst e1;have:=Lib.run_unsafeString_none (P:=P) w pt it type none;exact⟨w,R,γ,.inl ⟨.string .empty,by simp[execOp,resolve,invoke,builtin,hex,WQ,Nul.val,this],.str _⟩,hi,Ext.refl _ _ _,Mv.refl⟩
theorem km {x y:Operand}{pt it:TypeId}{E id O1:Nat}{s:ByteArray}(hx:ρ x=some (.one (.ep id O1 0 0)))(hy:ρ y=some (.one (.c (.int .i64 s.size))))(hL:L[id]?=some (.row O1 (bq s) 1))(hE:O1%65536=E)(hp:P.underlying pt=some (.pointer E))(hc:P.cellsOf E=1)
  (h0:0<s.size) (h63:s.size<=9223372036854775807) :
  sf P ρ L (.call { callee := .builtin .unsafeString,args :=#[x,y],argTypes :=#[pt,it] }) (.one (.c (.str s))) (L.set id .dead):=by
 intro B R γ w ev o ho hi hρ Rz;obtain⟨dst,WE,type,pos,after,guard⟩:=o;simp only at ho;subst ho;obtain⟨_,b,c,hg,hu⟩:=JS (R:=R) hL (hρ _ (by simp[Op.operands,Call.operands]) _ hx);have h2:=(hρ _ (by simp[Op.operands,Call.operands]) _ hy);generalize WQ:ev y=uy at h2
 cases h2;obtain⟨vs,E2,hb,Xw,P2,hle,hk,PU,U8⟩:=fX hi hL hg;have hEt:E2=E:=by rw[Xw.1];exact hE
 subst hEt;have hlen:(bq s).length=s.size:=by unfold bq;rw[aqC];simp
 have Wp:s.data.toList.length=s.size:=by simp
 have WC:w.shape? b=some (E2,c*1):=by simp[World.shape?,hb,P2]
 have Pl:=Lib.run_unsafeString_row (P:=P) w pt it type E2 hp hc b (c*1) WC s.data.toList (by intro e;rw[e]at Wp;simp at Wp;omega) (by rw[Wp];omega) (by rw[Wp];omega) (λj x hj=>by
  have WR:=(aqp.1 hj).1;rw[Addr.add_mid,aq8,cob_ hb];have Wn:j<vs.size:=by rw[P2];omega
  have hbr:(bq s)[j]?=some [.c (.int .u8 x.toNat)]:=by unfold bq;rw[aqN,hj];rfl
  have:=PU.rep j _ 0 vs[j] _ hbr (by
   rw[Nat.mul_one,Nat.add_zero,aqU,if_pos m0];simp[Wn]) rfl
  rw[aqP Wn];generalize vs[j]=vj at this
  cases this;rfl)
 rw[Wp]at Pl;have hfr:∀ m,0<m->((∀ b',b'≠b->(w.freeze ⟨b,0,none⟩ m).heap[b']?=w.heap[b']?)/\(w.freeze ⟨b,0,none⟩ m).heap.size=w.heap.size)/\(w.freeze ⟨b,0,none⟩ m).os=w.os/\(w.freeze ⟨b,0,none⟩ m).tape=w.tape/\(w.freeze ⟨b,0,none⟩ m).output=w.output:=by
  intro m hm;have:m≠0:=m0
  refine⟨⟨λb' Pn=>?_,?_⟩,?_,?_,?_⟩<;>simp only[World.freeze,hb]<;>simp[this];rw[Array.getElem?_modify];simp[Ne.symm Pn]
 obtain⟨⟨WF,hfs⟩,f1,f2,f3⟩:=hfr s.size h0;obtain⟨i1,i2⟩:=hi.kill hL hg rfl (λb e=>by cases e) (R':=R) (w':=w.freeze ⟨b,0,none⟩ s.size) (PH.sub_refl _) WF hfs (λ_ _ _=>rfl) (λo u e=>by rw[U8 o]at e;cases e);have Tv:=(hi.new id _ b hg rfl).1;refine⟨_,R,_,.inl ⟨.string s,?_,.str s⟩,i1,⟨⟨?_,?_,?_,m0,λb' Qq=>WF b' (λe=>Tv (by rw[<- e];exact Qq))⟩,PH.sub_refl _,λ_ _ _=>rfl⟩,i2⟩
 ·have hs:(⟨s.data.toList.toArray⟩:ByteArray)=s:=by cases s;simp
  rw[hs]at Pl;simp only[Nat.zero_mul,aq8,Nat.add_zero]at hu;simp[execOp,resolve,invoke,builtin,hu,WQ,Pl]
 ·exact f1
 ·exact f2
 ·exact f3
end
def d_:List (List SV)->Option (List (List AC))
 |[]=>some []
 |e::es=>match iv e,d_ es with
  |some x,some xs=>some (x::xs)
  |_,_=>none
theorem nI:∀ {es:List (List SV)} {cs:List (List AC)},d_ es=some cs->es.length=cs.length
 |[],cs,h=>by injection h with h;subst h;rfl
 |e::es,cs,h=>by
  unfold d_ at h;split at h
  ·rename_i x xs hx S4;injection h with h;subst h;simp[nI S4]
  ·cases h
theorem jn:∀ {es:List (List SV)} {cs:List (List AC)},d_ es=some cs ->∀ (i:Nat) c,cs[i]?=some c ->∃ e,es[i]?=some e/\iv e=some c
 |[],cs,h=>by injection h with h;subst h;intro i c hc;simp at hc
 |e::es,cs,h=>by
  unfold d_ at h;split at h
  ·rename_i x xs hx S4
   injection h with h;subst h
   intro i c hc
   cases i with
   |zero=>simp at hc;subst hc;exact⟨e,rfl,hx⟩
   |succ i=>simp at hc;obtain⟨e',h1,h2⟩:=jn S4 i c hc;exact⟨e',by simpa using h1,h2⟩
  ·cases h
theorem iK:∀ (cs:List (List AC)),d_ (cs.map (List.map SV.c))=some cs
 |[]=>rfl
 |c::cs=>by
  have h1:∀ l:List AC,iv (l.map SV.c)=some l:=by
   intro l
   induction l with
   |nil=>rfl
   |cons x l ih=>simp[iv,SV.norm,ih]
  simp[d_,h1,iK cs]
section
variable {P:Program} {ti:TI} {B:Nat->Prop} {N n0:Nat} {R:PH} {γ:List Gh} {L:List Ob} {T:Tm} {w:World} {Q:AX->Tm->List Ob->Prop}
end
section
variable {P:Program} {ti:TI} {N n0:Nat} {L:List Ob} {T:Tm} {Q:AX->Tm->List Ob->Prop}
theorem lK {B:Nat->Prop}{R:PH}{γ:List Gh}{w:World}(hi:Inv B R γ L w){id O1 k:Nat}{es:List (List SV)}{cs:List (List AC)}(hL:L[id]?=some (.row O1 es k))(hn:d_ es=some cs) :
  ∃ R' γ',Inv B R' γ' (L.set id .dead) w/\Ext B R R' w w/\Mv R R' γ γ' L (L.set id .dead) /\ ∀ lo n u,(SV.sl id O1 lo n).rep R γ L u->bD R' u (.lst ((cs.drop lo).take n)):=by
 have O0:id<L.length:=(aqp.1 hL).1;obtain⟨g,hg⟩:∃ g,γ[id]?=some g:=⟨_,aqz (by rw[hi.len];exact O0)⟩;have QY:=hi.obj id _ _ hL hg;have hlc:=nI hn
 match g,hg,QY with
 |.none,hg,QY =>
  have he:es=[]:=QY;subst he;injection hn with hn;subst hn
  have hm:Mv R R γ (γ.set id .none) L (L.set id .dead):=Mv.setOb (PH.sub_refl _) hi.len hL (λb e=>by rw[hg]at e;cases e) (λ_ _ e=>by cases e) (λ_ _ _ e=>by cases e);have Zy:γ.set id .none=γ:=by
   apply List.ext_getElem?;intro j;by_cases hj:j=id
   ·subst hj;rw[aqJ (by rw[hi.len];exact O0),hg]
   ·rw[aqK (Ne.symm hj)]
  rw[Zy]at hm;refine⟨R,γ,⟨by simp[hi.len],hi.val,λj y h hy hh=>?_,hi.inj,hi.new,hi.bsz⟩,Ext.refl _ _ _,hm,λlo n u hu=>?_⟩
  ·by_cases hj:j=id
   ·subst hj
    rw[aqJ O0]at hy;injection hy with hy;subst hy
    rw[hg]at hh;injection hh with hh;subst hh
    trivial
   ·rw[aqK (Ne.symm hj)]at hy
    exact(hi.obj j y h hy hh).mv hm (λ_ _=>rfl) (λ_ _ _ e=>e)
  ·obtain⟨_,_,P4⟩:=hu
   obtain⟨_,g',Rt,PR⟩:=(P4 _ [] k hL).2 rfl;rw[hg]at Rt;injection Rt with Rt;subst Rt
   obtain⟨⟨a0,rfl,_⟩,rfl,rfl⟩:=PR;exact dq _ _ _
 |.arr b c,hg,QY =>
  obtain⟨vs,E,hb,hE,P2,hle,hk,PU,U8⟩:=fX hi hL hg;have X8:es.length*k<=c*k:=aq2 _ hle;have Ry:∀ b' o u,R b' o=some u->(if b'=b/\o<es.length*k then vs[o]? else R b' o)=some u:=by
   intro b' o u h;by_cases hc:b'=b/\o<es.length*k
   ·exfalso;rw[hc.1,U8]at h;cases h
   ·rw[if_neg hc];exact h
  let R':PH:=R.put (λb' o=>if b'=b/\o<es.length*k then vs[o]? else R b' o) Ry
  have SG:PH.sub R R':=Ry;obtain⟨i1,i2⟩:=hi.kill hL hg rfl (λb e=>by cases e) (R':=R') (w':=w) SG (λ_ _=>rfl) rfl (λb' o Pn=>by show(if b'=b/\o<es.length*k then vs[o]? else R b' o)=R b' o;rw[if_neg (λh=>Pn h.1)])
   (λo u h=>by
    have h:(if b=b/\o<es.length*k then vs[o]? else R b o)=some u:=h;rw[cob_ hb];by_cases hc:b=b/\o<es.length*k
    ·rw[if_pos hc]at h;exact h
    ·rw[if_neg hc,U8]at h;cases h)
  have Tv:=(hi.new id _ b hg rfl).1;refine⟨R',γ.set id .none,i1,⟨Kept.refl _ _,SG,λb' o Qq=>?_⟩,i2,λlo n u hu=>?_⟩
  ·show(if b'=b/\o<es.length*k then vs[o]? else R b' o)=R b' o
   rw[if_neg (λh=>Tv (by rw[<- h.1];exact Qq))]
  ·obtain⟨_,_,P4⟩:=hu
   obtain⟨Ya,g',Rt,PR⟩:=(P4 _ es k hL).2 rfl;rw[hg]at Rt;injection Rt with Rt;subst Rt
   have hlen:((cs.drop lo).take n).length=n:=by simp;omega
   have SB:∃ a c',u = .slice a n c'/\n<=c'/\(0<n->a=some ⟨b,lo*k,none⟩):=by
    obtain PR|⟨q1,q2,a,q3⟩:=PR
    ·exact⟨_,_,PR,m0,λ_=>rfl⟩
    ·exact⟨a,0,by rw[q3,q2],m0,λh=>by omega⟩
   obtain⟨a,c',rfl,Xn,ha⟩:=SB;have h1:lo*k+n*k<=es.length*k:=by rw[<- Nat.add_mul];exact aq2 _ Ya
   have ZB:∀ (i:Nat) e,((cs.drop lo).take n)[i]?=some e->i<n /\ ∃ y,es[lo+i]?=some y/\iv y=some e:=by
    intro i e he;rw[aqU]at he;split at he
    ·rename_i S7
     rw[arb]at he;obtain⟨y,g1,g2⟩:=jn hn (lo+i) e he;exact⟨S7,y,g1,g2⟩
    ·cases he
   refine .lst a n c' _ k (λj=>(vs[lo*k+j]?).getD Go.undef) b (lo*k) hlen Xn (λe he=>?_) ha (λj hj=>?_) (λi e j x he hx=>?_)
   ·obtain⟨i,RJ⟩:=List.mem_iff_getElem?.1 he
    obtain⟨_,y,g1,g2⟩:=ZB i e RJ;rw[dW g2];exact PU.wide y (aqw g1)
   ·have QL:lo*k+j<vs.size:=m0
    show(if b=b/\lo*k+j<es.length*k then vs[lo*k+j]? else R b (lo*k+j))=_;rw[if_pos ⟨rfl,m0⟩,aqP QL];rfl
   ·obtain⟨S7,y,g1,g2⟩:=ZB i e he
    have Uk:j<k:=by rw[<- PU.wide y (aqw g1),<- dW g2];exact(aqp.1 hx).1
    have hlt3:=qA S7 Uk;have QL:lo*k+(i*k+j)<vs.size:=m0
    have hyj:j<y.length:=by rw[PU.wide y (aqw g1)];exact Uk
    have hr:=PU.rep (lo+i) y j vs[lo*k+(i*k+j)] _ g1 (by
     rw[aqU,if_pos (by rw[Nat.add_mul];omega),Nat.add_mul,Nat.add_assoc];simp[QL]) (aqz hyj)
    have:=SV.norm_rep hr (i_ g2 j _ _ (aqz hyj) hx);show bD R' ((vs[lo*k+(i*k+j)]?).getD Go.undef) x;rw[aqP QL];exact bD.mono SG this
theorem iL {c:Code}(id t:Nat){O1 k n:Nat}{es:List (List SV)}{cs:List (List AC)}(hL:L[id]?=some (.row O1 es k))(hn:d_ es=some cs)(ht:T.lookup t=some (.one (.sl id O1 0 n)))(hlen:cs.length=n)(h:Aw P N n0 c Q ((t,.one (.c (.lst cs)))::T) (L.set id .dead)):Aw P N n0 c Q T L:=by
 intro SA B R γ w a hi hT;obtain⟨R',γ',hI,hE,hM,hS⟩:=lK hi hL hn;refine wp_mono (h (by simpa using SA) B R' γ' w a hI ?_) λ_ _ _ hh=>hh.ext hE hi.len (qF.of SA hM)
 refine⟨hT.size,hT.defers,λt' x hx=>?_⟩;rw[List.lookup_cons]at hx;by_cases e:t'=t
 ·subst e
  simp at hx;subst hx;obtain⟨u,h1,h2⟩:=hT.slot t' _ ht;refine⟨u,h1,?_⟩;have:=hS 0 n u h2;rw[List.drop_zero,<- hlen,List.take_length]at this;exact this
 ·have:(t'==t)=false:=by simpa using e
  rw[this]at hx;obtain⟨u,h1,h2⟩:=hT.slot t' x hx;exact⟨u,h1,AV.mv hM h2⟩
end
section
variable {P:Program} {ti:TI} {B:Nat->Prop} {N n0:Nat} {R:PH} {γ:List Gh} {L:List Ob} {w:World} {ρ:Operand->Option AV} {T:Tm} {Q:AX->Tm->List Ob->Prop}
theorem C0 (O_:TIok P ti){l c:Operand}{t:TypeId}{E by_ n:Nat}{kl kc:IntKind}(hl:ρ l=some (.one (.c (.int kl (n:Int)))))(hc:ρ c=some (.one (.c (.int kc (n:Int)))))(ht:ti.elem t=some E)(hE:E<65536)(P2:ti.size E=some 1)(hz:ti.zero E=some (.one .emp))(WP:ti.zok E=true)(S3:ti.bytes E=some by_)
  (OU:(by_:Int)*(n:Int)<=281474976710656) (PP:(n:Int)<=9223372036854775807) :
  sf P ρ L (.makeSlice t l c) (.one (.sl L.length (E+65536) 0 n)) (L++[.row (E+65536) (replicate n [.emp]) 1]):=by
 intro B R γ w ev o ho hi hρ Rz;obtain⟨dst,op,type,pos,after,guard⟩:=o;simp only at ho;subst ho;obtain⟨inf,z,P6,R6,QX,U7⟩:=O_.zok _ WP _ (O_.size _ _ P2);have YN:=O_.zero _ _ hz;have hzv:∃ a,z = .slice a 0 0:=by
  unfold zeroOf at YN;rw[P6,aqo,R6,aqo]at YN;exact AV.ofVal_rep (R:=R) (γ:=γ) (L:=L) YN
 obtain⟨za,rfl⟩:=hzv;have Qs:inf.bytes=by_:=by have RB:=O_.bytes _ _ S3;unfold ky at RB;rw[P6]at RB;simpa using RB
 have Xx:=(hρ _ (by simp[Op.operands,Call.operands]) _ hl);have SB:=(hρ _ (by simp[Op.operands,Call.operands]) _ hc);generalize hle:ev l=lv at Xx;generalize Ve:ev c=cv at SB
 cases Xx;cases SB;have Pl:=run_make (P:=P) w t E inf _ (jU O_ ht) P6 R6 kl kc (n:Int) (n:Int) m0 (Int.le_refl _) (by rw[Qs];exact OU) PP;have hm:Mv R R γ (γ++[.arr w.heap.size n]) L (L++[.row (E+65536) (replicate n [.emp]) 1]):=Mv.push _ _ hi.len;rw[Int.toNat_natCast,QX,Nat.mul_one]at Pl;refine⟨w.alloc (.cells (madeCells (Value.slice za 0 0).cells n) E),R,_,.inl ⟨.slice (some ⟨w.heap.size,0,none⟩) n n,by simp[execOp,hle,Ve,Pl],⟨rfl,rfl⟩,m5,λQ5 TZ k2 e2=>?_⟩,?_,⟨Kept.alloc hi.bsz _,PH.sub_refl _,λ_ _ _=>rfl⟩,hm⟩
 ·rw[aqx m0]at e2
  simp at e2;obtain⟨q1,q2,q3⟩:=e2;subst q1 q2 q3;refine⟨aqG _,λ_=>⟨m5,.arr w.heap.size n,by rw[<- hi.len];simp,.inl ?_⟩⟩;simp
 ·refine hi.push _ _ _ rfl ⟨⟨_,E,⟨dr w _,by show(E:Nat)=(E+65536)%65536;omega,by show 65536<=(E:Nat)+65536;omega⟩,by rw[size_madeCells,Nat.mul_one],λi e j u x he hu hx=>?_⟩,m5,m0,by intro e he;rw[List.eq_of_mem_replicate he];rfl,λo=>hi.none_at o⟩
  have he2:=List.eq_of_mem_replicate (aqw he);subst he2;have hj:j=0:=by have:=(aqp.1 hx).1;simp at this;omega
  subst hj;simp at hx;subst hx;have UQ:u∈(madeCells (Value.slice za 0 0).cells n).toList:=by
   rw[aq_]at hu;obtain⟨h1,h2⟩:=hu;rw[<- h2];simp
  rw[show(Value.slice za 0 0).cells=#[Value.slice za 0 0]from rfl,toList_madeCells_one]at UQ;rw[List.eq_of_mem_replicate UQ];exact⟨za,rfl⟩
theorem aeL {c:Code}(id i k:Nat){O1:Nat}{es:List (List SV)}(hid:L[id]?=some (.row O1 es 1))(he:es[i]?=some [.emp])(h:Aw P N n0 c Q T (L.set id (.row O1 (es.set i [.own [] L.length]) 1)++[.spare 0 k])):Aw P N n0 c Q T L:=by
 intro hn B R γ w a hi hT;have O0:=(aqp.1 hid).1;have hm:Mv R R γ (γ++[.none]) L (L.set id (.row O1 (es.set i [.own [] L.length]) 1)++[.spare 0 k]):=by
  refine⟨PH.sub_refl _,m5,λt n k' P3 e=>⟨n,?_,aqG _,λ_=>?_⟩,λt Po Ut k' P3 e=>?_,λi b e=>?_⟩
  ·rw[aqE (by simpa using P3)]at e
   have Pn:t≠id:=by rintro rfl;rw[aqJ P3]at e;cases e
   rw[aqK (Ne.symm Pn)]at e;exact e
  ·rw[aqE (by rw[hi.len];exact P3)]
  ·rw[aqE (by simpa using P3)]at e
   by_cases Pn:t=id
   ·subst Pn
    rw[aqJ P3]at e;injection e with e
    injection e with e1 e2 e3
    subst e1 e2 e3;exact⟨O1,es,hid,aqG _,λ_=>⟨m5,aqE (by rw[hi.len];exact P3)⟩⟩
   ·rw[aqK (Ne.symm Pn)]at e
    exact⟨Po,Ut,e,aqG _,λ_=>⟨rfl,aqE (by rw[hi.len];exact P3)⟩⟩
  ·rw[aqE (aqp.1 e).1];exact e
 refine wp_mono (h m8 B R (γ++[.none]) w a ?_ (hT.mv hm)) λ_ _ _ hh=>hh.ext (Ext.refl _ _ _) hi.len (qF.of hn hm)
 have Pv:∀ j h,(γ++[Gh.none])[j]?=some h->(j=γ.length/\h = .none)\/(j<γ.length/\γ[j]?=some h):=by
  intro j h hh;by_cases hid:j<γ.length
  ·rw[aqE hid]at hh;exact .inr ⟨hid,hh⟩
  ·have:j=γ.length:=by have:=(aqp.1 hh).1;simp at this;omega
   subst this;rw[aqx m0]at hh;simp at hh;exact .inl ⟨rfl,hh.symm⟩
 have it:=hi.tok k;refine⟨by simp[hi.len],hi.val,λq y g hy hg=>?_,it.inj,it.new,hi.bsz⟩;obtain⟨rfl,rfl⟩|⟨VL,Rt⟩:=Pv q g hg
 ·rw[aqx (by simp[hi.len])]at hy
  simp[hi.len]at hy;subst hy;rfl
 ·rw[aqE (by simp;rw[<- hi.len];exact VL)]at hy
  by_cases Us:q=id
  ·subst Us
   rw[aqJ O0]at hy;injection hy with hy;subst hy
   have QY:=hi.obj q _ _ hid Rt
   match g,QY with
   |.arr b cp,⟨⟨vs,E,h1,h2,h3⟩,h4,h5,h6,h7⟩ =>
    refine⟨⟨vs,E,h1,h2,λi' e j u x QP hu hx=>?_⟩,by simpa using h4,h5,?_,h7⟩
    ·by_cases hq:i'=i
     ·subst hq
      rw[aqJ (aqp.1 he).1]at QP;injection QP with QP;subst QP
      have hj:j=0:=by have:=(aqp.1 hx).1;simp at this;omega
      subst hj;simp at hx;subst hx;obtain⟨ad,rfl⟩:=h3 i' _ 0 u .emp he hu rfl;exact⟨dq _ _ _,m5,λn2 k2 _=>⟨m5,m5,λ_=>⟨.none,by rw[<- hi.len];simp,ad,m5⟩⟩⟩
     ·rw[aqK (Ne.symm hq)]at QP
      exact SV.mv hm (h3 i' e j u x QP hu hx)
    ·intro e QP
     obtain h8|h8:=List.mem_or_eq_of_mem_set QP
     ·exact h6 e h8
     ·subst h8;rfl
   |.none,QY =>
    have XT:es=[]:=QY;subst XT;simp at he
  ·rw[aqK (Ne.symm Us)]at hy
   exact(hi.obj q y g hy Rt).mv hm (λ_ _=>rfl) (λ_ _ _ h=>h)
def l7:Nat->List (List (List AC))->List (List SV)
 |_,[]=>[]
 |t,es::ps=>[.own es t]::l7 (t+1) ps
def AO (k:Nat)(ps:List (List (List AC))):List Ob:=ps.map λes => .spare es.length k
theorem LX:∀ (ps:List (List (List AC))) (t i:Nat) (es:List (List AC)),ps[i]?=some es->(l7 t ps)[i]?=some [.own es (t+i)]
 |[],t,i,es,h=>by simp at h
 |p::ps,t,0,es,h=>by simp at h;subst h;rfl
 |p::ps,t,i+1,es,h=>by
  have:=LX ps (t+1) i es (by simpa using h);show(l7 (t+1) ps)[i]?=_;rw[this,show t+1+i=t+(i+1)by omega]
theorem Jd:∀ (ps:List (List (List AC))) (t i:Nat) (es:List (List AC)),(l7 t ps).set i [.own es (t+i)]=l7 t (ps.set i es)
 |[],t,i,es=>by simp[l7]
 |p::ps,t,0,es=>rfl
 |p::ps,t,i+1,es=>by
  have:=Jd ps (t+1) i es;show [.own p t]::(l7 (t+1) ps).set i _=[.own p t]::l7 (t+1) (ps.set i es);rw[<- this,show t+(i+1)=t+1+i by omega]
theorem ID:∀ (ps:List (List (List AC))) (t:Nat) (e:List SV),e∈l7 t ps ->∃ es i,i<ps.length/\e=[.own es (t+i)]
 |[],t,e,h=>by cases h
 |p::ps,t,e,h=>by
  obtain h|h:=aqH.1 h
  ·exact⟨p,0,m5,h⟩
  ·obtain⟨es,i,hi,h2⟩:=ID ps (t+1) e h
   exact⟨es,i+1,by simp;omega,by rw[h2,show t+1+i=t+(i+1)by omega]⟩
theorem D_:∀ (ps:List (List (List AC))) (t:Nat),d_ (l7 t ps)=some (ps.map λes=>[.lst es])
 |[],t=>rfl
 |p::ps,t=>by
  have:=D_ ps (t+1);show d_ ([.own p t]::l7 (t+1) ps)=_;simp only[d_,this,iv,SV.norm,aqB]
theorem J3 (v:Nat)(ps:List (List (List AC)))(t n:Nat)(h:t+ps.length<=n):(Ob.row v (l7 t ps) 1).below n:=by
 intro e he x hx;obtain⟨es,i,hi,rfl⟩:=ID ps t e he;simp at hx;subst hx;show t+i<n;omega
theorem adn {c:Code}(id k O1:Nat):∀ (n:Nat) (pre:List (List SV)) (L:List Ob),L[id]?=some (.row O1 (pre++replicate n [.emp]) 1) ->
  Aw P N n0 c Q T (L.set id (.row O1 (pre++l7 L.length (replicate n [])) 1)++AO k (replicate n []))->Aw P N n0 c Q T L
 |0,pre,L,hL,h=>by
  have e:L.set id (.row O1 (pre++l7 L.length (replicate 0 [])) 1)++AO k (replicate 0 [])=L:=by
   obtain⟨h1,h2⟩:=aqp.1 hL;have:pre++l7 L.length (replicate 0 [])=pre++replicate 0 [SV.emp]:=rfl;rw[this,show AO k (replicate 0 [])=[]from rfl,aqZ,<- h2,List.set_getElem_self]
  rw[e]at h;exact h
 |n+1,pre,L,hL,h=>by
  have O0:=(aqp.1 hL).1;refine aeL id pre.length k hL (by simp[List.replicate_succ]) ?_;refine adn id k O1 n (pre++[[.own [] L.length]]) _ (by
   rw[aqE (by simpa using O0),aqJ O0,List.replicate_succ,List.set_append_right _ _ (aqG _),Nat.sub_self,List.set_cons_zero,aqR];rfl) ?_
  have e1:(L.set id (.row O1 ((pre++replicate (n+1) [SV.emp]).set pre.length [.own [] L.length]) 1)++[Ob.spare 0 k]).length=L.length+1:=by simp
  rw[e1,List.set_append_left _ _ (by simpa using O0),List.set_set,aqR,aqR];exact h
end
section
variable {P:Program} {ti:TI} {N:Nat} {ds:List (Option Tmp)} {K:Tm->List Ob->Prop} {rest:List Oper} {o:Oper} {T:Tm} {L:List Ob}
theorem ahs {t tx:TypeId}{s x:Operand}{es xs:List (List AC)}{i n k E by_ d:Nat}{vx:AV}{L':List Ob}(hd:o.dst=some d)(hN:Nat.blt d N=true)(hg:gg ds T o.guard=some true)(ho:o.op = .call { callee := .builtin .append,args :=#[s,x],argTypes :=#[t,tx] })
  (hs:look T s=some (.one (.own es i))) (hx:look T x=some vx) (hl:dw vx=some xs) (ht:ti.elem t=some E) (hk:ti.size E=some k) (hb:ti.bytes E=some by_) (hL:L[i]?=some (.spare n k))
  (hφ:(ti.elem tx).isSome/\k=k/\es.length=n/\(ti.zok E=true/\0<k)/\(∀ e∈xs,e.length=k)/\(n+xs.length)*by_<=140737488355328/\n+xs.length<=140737488355328) (WI:L.set i (.spare (n+xs.length) k)=L')
  (h:aI P ti N ds K rest ((d,.one (.own (es++xs) i))::T) L'):aI P ti N ds K (o::rest) T L:=by
 refine st_lop (v := .one (.own (es++xs) i)) hd hN hg ?_ hφ h;rw[ho];simp only[Gz,hs,hx,su,hl,ht,hk,hb,hL,WI]
end
