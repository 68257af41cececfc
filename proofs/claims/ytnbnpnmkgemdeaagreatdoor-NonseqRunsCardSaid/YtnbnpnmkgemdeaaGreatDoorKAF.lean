/- Parts. No condition. -/
import Derived.Test.YtnbnpnmkgemdeaaGreatDoorKAE
set_option linter.unusedSimpArgs false
set_option linter.unusedVariables false
namespace Go.Proofs.YtnbnpnmkgemdeaaGreatDoor
open Go.RowKit Go.MapKept Tryz
def ag9 (f:FuncId):Bool:=Nat.beq f 184||Nat.beq f 186||Nat.beq f 187||Nat.beq f 228||Nat.beq f 274||Nat.beq f 246||Nat.beq f 219||Nat.beq f 165||Nat.beq f 147||Nat.beq f 117||Nat.beq f 106||Nat.beq f 150||Nat.beq f 140||Nat.beq f 188||Nat.beq f 98||Nat.beq f 145||Nat.beq f 234||Nat.beq f 201||Nat.beq f 202||Nat.beq f 245||Nat.beq f 281||Nat.beq f 230||Nat.beq f 231||Nat.beq f 276||Nat.beq f 299||Nat.beq f 142||Nat.beq f 189||Nat.beq f 190||Nat.beq f 191||Nat.beq f 192||Nat.beq f 193||Nat.beq f 194||Nat.beq f 195||Nat.beq f 196||Nat.beq f 232||Nat.beq f 235||Nat.beq f 236||Nat.beq f 199||Nat.beq f 237||Nat.beq f 238||Nat.beq f 239||Nat.beq f 240||Nat.beq f 241||Nat.beq f 242||Nat.beq f 243||Nat.beq f 244||Nat.beq f 278||Nat.beq f 279||Nat.beq f 280
def ahd (f:FuncId)(d:Nat):Bool:=Nat.beq f 102||Nat.beq f 97||Nat.beq f 80||Nat.beq f 164||Nat.beq f 139||Nat.beq f 184||Nat.beq f 186||(Nat.beq f 124&&Nat.beq d 27)||(Nat.beq f 124&&Nat.beq d 28)||(Nat.beq f 124&&Nat.beq d 55)||(Nat.beq f 124&&Nat.beq d 56)||(Nat.beq f 96&&Nat.beq d 41)||(Nat.beq f 96&&Nat.beq d 42)
def ag0 (f:FuncId)(id:Nat):List Nat :=
 if (Nat.beq f 42&&Nat.beq id 5)=true then [1]else
 if (Nat.beq f 42&&Nat.beq id 7)=true then [1]else
 if (Nat.beq f 42&&Nat.beq id 9)=true then [1]else
 if (Nat.beq f 90&&Nat.beq id 4)=true then [3]else
 []
def ahp (f:FuncId)(id:Nat):Bool×Bool :=
 (false,true)
def ahf (f:FuncId):Bool:=Nat.beq f 253
def OQ:TI :={ tab with owns:=ag9 }
theorem aj:TIok prog OQ:=⟨tab_ok.size,tab_ok.agg,tab_ok.elem,tab_ok.field,tab_ok.zero,tab_ok.bytes,tab_ok.kind,tab_ok.struct,tab_ok.zok,tab_ok.eqs⟩
def ahe:FuncId->List PV->Option CV:=λ_ _=>none
noncomputable def cx:Cx :={ P:=prog,ti:=OQ,xs:=⟨274,246⟩,row:=ahd,frz:=ag0,flg:=ahp,orc:=ahe,bad:=ahf }
theorem afI:adR prog 274:=⟨_,func274,k7,k7,k7,k7⟩
theorem afJ:agh prog 246:=⟨_,func246,k7,k7,k7,k7⟩
theorem aan:vY prog.funcs.toList=true:=k7
theorem OR:wM cx prog.funcs.toList 0=true:=k7
theorem adQ:FG cx:=FG.of aj ⟨afI,afJ⟩ mixed aan OR (λg ps r h=>by cases h)
theorem N2:(evF cx 64).1 11 []=some (.val (.one (.bool true))):=k7
theorem zx:PTz 11 [] (.val (.one (.bool true))):=(wd adQ 64).1 _ _ _ N2
structure Val where
 kind:Int
 int:Int
 text:ByteArray
def cV (x:Val):List AC:=[.int .i64 x.kind,.int .i64 x.int,.str x.text]
structure aJ where
 kinds:(List Int)
 rows:(List (List Val))
def bn (x:aJ):List AC:=[.lst (x.kinds.map (λx=>[AC.int .i64 x])),.lst (x.rows.map (λx=>[AC.lst (x.map cV)]))]
structure dV where
 lo:Int
 hi:Int
def mb (x:dV):List AC:=[.int .i64 x.lo,.int .i64 x.hi]
structure pY where
 id:Int
 schema:Int
 row:(List Val)
 valid:dV
 system:dV
 by_:Int
 til:Int
def lu (x:pY):List AC:=[.int .i64 x.id,.int .i64 x.schema,.lst (x.row.map cV),.int .i64 x.valid.lo,.int .i64 x.valid.hi,.int .i64 x.system.lo,.int .i64 x.system.hi,.int .i64 x.by_,.int .i64 x.til]
inductive Ex where
 |mk (op:Int) (int:Int) (v:Val) (nm:ByteArray) (args:(List Ex))
mutual
def tE:Ex->List AC
 |.mk op int v nm args=>[.int .i64 op,.int .i64 int,.int .i64 v.kind,.int .i64 v.int,.str v.text,.str nm,.lst (tEs args)]
def tEs:List Ex->List (List AC)
 |[]=>[]
 |e::l=>tE e::tEs l
end
theorem Fo:∀ (l:List Ex),tEs l=l.map tE
 |[]=>by simp[tEs]
 |e::l=>by simp[tEs,Fo l]
def Ex.op:Ex->Int |.mk a _ _ _ _=>a
def Ex.int:Ex->Int |.mk _ a _ _ _=>a
def Ex.v:Ex->Val |.mk _ _ a _ _=>a
def Ex.nm:Ex->ByteArray |.mk _ _ _ a _=>a
def Ex.args:Ex->(List Ex) |.mk _ _ _ _ a=>a
theorem ay (e:Ex):tE e=[.int .i64 e.op,.int .i64 e.int,.int .i64 e.v.kind,.int .i64 e.v.int,.str e.v.text,.str e.nm,.lst (e.args.map tE)]:=by
 obtain⟨_,_,_,_,_⟩:=e;rw[tE,Fo];rfl
theorem Ab (e:Ex):(tE e).length=7:=by rw[ay];rfl
structure Ag where
 op:Int
 arg:Int
def ol (x:Ag):List AC:=[.int .i64 x.op,.int .i64 x.arg]
inductive Pl where
 |mk (op:Int) (int:Int) (kinds:(List Int)) (rows:(List (List Val))) (pred:Ex) (exprs:(List Ex)) (keys:(List Int)) (aggs:(List Ag)) (inputs:(List Pl))
mutual
def tP:Pl->List AC
 |.mk op int kinds rows pred exprs keys aggs inputs=>[.int .i64 op,.int .i64 int,.lst (kinds.map (λx=>[AC.int .i64 x])),.lst (rows.map (λx=>[AC.lst (x.map cV)]))]++tE pred++[.lst (exprs.map tE),.lst (keys.map (λx=>[AC.int .i64 x])),.lst (aggs.map ol),.lst (tPs inputs)]
def tPs:List Pl->List (List AC)
 |[]=>[]
 |e::l=>tP e::tPs l
end
theorem LJ:∀ (l:List Pl),tPs l=l.map tP
 |[]=>by simp[tPs]
 |e::l=>by simp[tPs,LJ l]
def Pl.op:Pl->Int |.mk a _ _ _ _ _ _ _ _=>a
def Pl.int:Pl->Int |.mk _ a _ _ _ _ _ _ _=>a
def Pl.kinds:Pl->(List Int) |.mk _ _ a _ _ _ _ _ _=>a
def Pl.rows:Pl->(List (List Val)) |.mk _ _ _ a _ _ _ _ _=>a
def Pl.pred:Pl->Ex |.mk _ _ _ _ a _ _ _ _=>a
def Pl.exprs:Pl->(List Ex) |.mk _ _ _ _ _ a _ _ _=>a
def Pl.keys:Pl->(List Int) |.mk _ _ _ _ _ _ a _ _=>a
def Pl.aggs:Pl->(List Ag) |.mk _ _ _ _ _ _ _ a _=>a
def Pl.inputs:Pl->(List Pl) |.mk _ _ _ _ _ _ _ _ a=>a
theorem aD (e:Pl):tP e=[.int .i64 e.op,.int .i64 e.int,.lst (e.kinds.map (λx=>[AC.int .i64 x])),.lst (e.rows.map (λx=>[AC.lst (x.map cV)])),.int .i64 e.pred.op,.int .i64 e.pred.int,.int .i64 e.pred.v.kind,.int .i64 e.pred.v.int,.str e.pred.v.text,.str e.pred.nm,.lst (e.pred.args.map tE),.lst (e.exprs.map tE),.lst (e.keys.map (λx=>[AC.int .i64 x])),.lst (e.aggs.map ol),.lst (e.inputs.map tP)]:=by
 obtain⟨_,_,_,_,⟨_,_,_,_,_⟩,_,_,_,_⟩:=e;rw[tP,LJ,tE,Fo];rfl
theorem zU (e:Pl):(tP e).length=15:=by rw[aD];rfl
structure xP where
 kinds:(List Int)
 versions:(List pY)
def sW (x:xP):List AC:=[.lst (x.kinds.map (λx=>[AC.int .i64 x])),.lst (x.versions.map lu)]
structure nB where
 row:(List Val)
 valid:dV
def oe (x:nB):List AC:=[.lst (x.row.map cV),.int .i64 x.valid.lo,.int .i64 x.valid.hi]
structure CB where
 column:Int
 desc:Bool
def A_ (x:CB):List AC:=[.int .i64 x.column,.bool x.desc]
structure aN where
 key:(List Val)
 row:(List Val)
def bV (x:aN):List AC:=[.lst (x.key.map cV),.lst (x.row.map cV)]
open Go.RowKit Go.MapKept
inductive Step (σ ρ:Type) where
 |next (s:σ)
 |exit (s:σ)
 |ret (r:ρ)
def af {σ ρ:Type}(body:σ->Option (Step σ ρ)):Nat->σ->Option (Sum σ ρ)
 |0,_=>none
 |n+1,s=>match body s with
  |none=>none
  |some (.next s')=>af body n s'
  |some (.exit s')=>some (.inl s')
  |some (.ret r)=>some (.inr r)
def fuel:Nat:=4611686018427387904
def al {α:Type}(l:List α)(i:Int):Option α:=if 0<=i then l[i.toNat]? else none
def gE {α:Type}(l:List α)(a b:Int):Option (List α):=if 0<=a/\a<=b/\b<=(l.length:Nat)then some ((l.take b.toNat).drop a.toNat)else none
theorem bd_ {α β:Type}{x:Option α}{f:α->Option β}{r:β}(h:x.bind f=some r):∃ a,x=some a/\f a=some r:=by
 cases x with
 |none=>cases h
 |some a=>exact⟨a,rfl,h⟩
theorem kw {α:Type}{l:List α}{i:Int}{x:α}(h:al l i=some x):0<=i/\l[i.toNat]?=some x:=by
 unfold al at h;by_cases h0:0<=i
 .rw[if_pos h0]at h;exact⟨h0,h⟩
 .rw[if_neg h0]at h;cases h
theorem cY {α:Type}{l r:List α}{a b:Int}(h:gE l a b=some r):(0<=a/\a<=b/\b<=(l.length:Nat))/\r=(l.take b.toNat).drop a.toNat:=by
 unfold gE at h;by_cases h0:0<=a/\a<=b/\b<=(l.length:Nat)
 .rw[if_pos h0]at h;exact⟨h0,(aim h).symm⟩
 .rw[if_neg h0]at h;cases h
theorem ie {c:Bool}{β:Type}{x:Option β}{r:β}(h:(bif c then x else none)=some r):c=true/\x=some r:=by
 cases c with
 |true=>exact⟨rfl,h⟩
 |false=>cases h
theorem ag' {α:Type}{l:List α}{f:α->List AC}{i:Int}{x:α}(h:l[i.toNat]?=some x):(l.map f)[i.toNat]?=some (f x):=by rw[aic,h];rfl
theorem wideI {α:Type}{f:α->List AC}{k:Nat}(hf:∀ x,(f x).length=k)(l:List α):∀ e∈l.map f,e.length=k:=by
 intro e he;simp only[aip]at he;obtain⟨x,_,rfl⟩:=he;exact hf x
section
variable {P:Program} {ti:TI} {N n0:Nat} {Q:AX->Tm->List Ob->Prop} {T:Tm} {L:List Ob}
@[reducible] def After {σ ρ γ:Type}(K:Sum σ ρ->Option γ)(r:γ):Step σ ρ->Prop
 |.next _=>True
 |.exit s=>K (.inl s)=some r
 |.ret q=>K (.inr q)=some r
theorem alM_ {σ ρ γ:Type}{c:Code}{body:σ->Option (Step σ ρ)}{K:Sum σ ρ->Option γ}{r:γ}{s0:σ}(TT:σ->Tm)(LL:σ->List Ob)(h:(af body fuel s0).bind K=some r)(X6:∀ s,n0<=(LL s).length)(hf:Fits T L (TT s0) (LL s0))
  (round:∀ s st,body s=some st->After K r st->Aw P N n0 c (AX.then (λT' L' =>∃ s',st = .next s'/\Fits T' L' (TT s') (LL s')) Q) (TT s) (LL s)):Aw P N n0 (.loop c) Q T L:=by
 refine b7 (λs:Nat×σ=>TT s.2) (λs=>LL s.2) (λs=>(af body s.1 s.2).bind K=some r) (λs=>s.1) (fuel,s0) h (λs _=>X6 s.2) hf ?_;rintro⟨n,s⟩ Rb;dsimp only at Rb ⊢
 cases n with
 |zero=>cases Rb
 |succ n =>
  rw[af]at Rb
  cases hb:body s with
  |none=>rw[hb]at Rb;cases Rb
  |some st =>
   rw[hb]at Rb;refine Aw.mono (round s st hb ?_) ?_
   .cases st with
    |next s'=>trivial
    |exit s'=>exact Rb
    |ret q=>exact Rb
   .intro x T' L' hq
    cases x with
    |normal =>
     obtain⟨s',rfl,QZ⟩:=hq;exact⟨(n,s'),Rb,Nat.lt_succ_self n,QZ⟩
    |exit id=>exact hq
    |ret=>exact hq
end
def pe (a b:Int):Int:=if b<a then b else a
def wZ (a b:Int):Int:=if b>a then b else a
theorem mn_norm (a b:Int):(if false=true then(if b>a then b else a)else(if b<a then b else a))=pe a b:=rfl
theorem mx_norm (a b:Int):(if true=true then(if b>a then b else a)else(if b<a then b else a))=wZ a b:=rfl
theorem xT {α:Type}{f:α->List AC}{l r:List α}{a b:Int}(h:r=(l.take b.toNat).drop a.toNat):((l.map f).take b.toNat).drop a.toNat=r.map f:=by rw[h,<- List.map_take,<- List.map_drop]
def aa' (n:Nat):SV->Bool
 |.c _=>true
 |.emp=>true
 |.own _ t=>Nat.blt t n
 |.ptr id _=>Nat.blt id n
 |_=>false
def Kv (n:Nat):List SV->Bool
 |[]=>true
 |x::l=>and (aa' n x) (Kv n l)
theorem Of {n:Nat}{x:SV}(h:aa' n x=true):x.below n:=by
 cases x with
 |c _=>trivial
 |emp=>trivial
 |own _ t=>exact ah1 h
 |ptr id _=>exact ah1 h
 |sl=>cases h
 |ep=>cases h
 |mp=>cases h
 |clo=>cases h
theorem fi {n:Nat}:∀ {cs:List SV},Kv n cs=true->(Ob.box cs).below n
 |[],_=>λx hx=>by cases hx
 |c::cs,h=>λx hx=>by
  rw[Kv,ah9]at h;obtain rfl|hx:=ah8.1 hx
  .exact Of h.1
  .exact fi h.2 x hx
section
variable {P:Program} {ti:TI} {N n0:Nat} {ds:List (Option Tmp)} {K:Tm->List Ob->Prop} {rest:List Oper} {o:Oper} {T:Tm} {L:List Ob}
theorem iP {b:Bool}(h:b=true):(b==true)=true:=by rw[h];rfl
theorem iS {b:Bool}(h:b=false):(b==false)=true:=by rw[h];rfl
theorem aav {b:Bool}(h:b=false):(b==true)=false:=by rw[h];rfl
theorem abo {b:Bool}(h:b=true):(b==false)=false:=by rw[h];rfl
theorem jo {e:Bool}(h:e=false):(!e)=true:=by rw[h];rfl
theorem js {e:Bool}(h:e=true):(!e)=false:=by rw[h];rfl
def ae4:Op->Bool
 |.pick _ _ _=>true
 |_=>false
theorem p_ {v:AV}{φ:Prop}{d:Nat}(_:ae4 o.op=false)(hd:o.dst=some d)(hN:Nat.blt d N=true){g0:Bool}(hg:fN ds T o.guard=some g0)(hp:pop ti (look T) L o.op=some (v,φ))(h:aK P ti N ds K rest ((d,v)::T) L)
  (hφ:φ:=by repeat' (first|exact t7|rfl|exact ah1 rfl|omega|assumption|exact wideI (by intro _;rfl) _|exact wideI Ab _|exact wideI zU _|(intro e he;simp at he;subst he;rfl)|(simp only[ah3];omega)|apply And.intro)) (R6:g0=true:=by first|rfl|exact iP (by first|assumption|exact jo (by assumption))|exact iS (by first|assumption|exact js (by assumption))):aK P ti N ds K (o::rest) T L:=st_pop hd hN (R6▸hg) hp hφ h
theorem l_ {v:AV}{L':List Ob}{φ:Prop}{d:Nat}(hd:o.dst=some d)(hN:Nat.blt d N=true){g0:Bool}(hg:fN ds T o.guard=some g0)(hp:yb ti (look T) L o.op=some (v,L',φ))(h:aK P ti N ds K rest ((d,v)::T) L')
  (hφ:φ:=by repeat' (first|exact t7|rfl|exact ah1 rfl|omega|exact wideI (by intro _;rfl) _|exact wideI Ab _|exact wideI zU _|(intro e he;simp at he;subst he;rfl)|exact ah3 _|(simp only[ah3,ahZ,aib,aik,aiw]<;>omega)|apply And.intro)) (R6:g0=true:=by first|rfl|exact iP (by first|assumption|exact jo (by assumption))|exact iS (by first|assumption|exact js (by assumption))):aK P ti N ds K (o::rest) T L:=st_lop hd hN (R6▸hg) hp hφ h
theorem s_ {v:AV}{L':List Ob}{φ:Prop}(hd:o.dst=none){g0:Bool}(hg:fN ds T o.guard=some g0)(hp:yb ti (look T) L o.op=some (v,L',φ))(h:aK P ti N ds K rest T L')(hφ:φ:=by repeat' (first|exact t7|rfl|exact ah1 rfl|omega|apply And.intro))(R6:g0=true:=by first|rfl|exact iP (by first|assumption|exact jo (by assumption))|exact iS (by first|assumption|exact js (by assumption))):aK P ti N ds K (o::rest) T L:=sS_ hd (R6▸hg) hp hφ h
theorem t_ {v:AV}{φ:Prop}{d:Nat}(hd:o.dst=some d)(hN:Nat.blt d N=true){g0:Bool}(hg:fN ds T o.guard=some g0)(hp:sD ti (look T) o.op=some (v,φ))(h:aK P ti N ds K rest ((d,v)::T) L)
  (hφ:φ:=by repeat' (first|exact t7|rfl|exact ah1 rfl|omega|(intro e he;simp at he;subst he;rfl)|(intro e he;simp at he;rcases he with rfl|rfl<;>rfl)|(intro e he;simp at he;rcases he with rfl|rfl|rfl<;>rfl)|(intro e he;simp at he;rcases he with rfl|rfl|rfl|rfl<;>rfl)|apply And.intro)) (R6:g0=true:=by first|rfl|exact iP (by first|assumption|exact jo (by assumption))|exact iS (by first|assumption|exact js (by assumption))):aK P ti N ds K (o::rest) T L:=st_lit hd hN (R6▸hg) hp hφ h
theorem c_ {g:FuncId}{ps:List PV}{r:CV}{d:Nat}{v:AV}(hd:o.dst=some d)(hN:Nat.blt d N=true){g0:Bool}(hg:fN ds T o.guard=some g0)(hp:oL (look T) o.op=some (g,ps))(h:aK P ti N ds K rest ((d,v)::T) L)(hc:Pure P g ps r:=by assumption)(hv:r.av=v:=by rfl)(R6:g0=true:=by first|rfl|exact iP (by first|assumption|exact jo (by assumption))|exact iS (by first|assumption|exact js (by assumption))):aK P ti N ds K (o::rest) T L:=au hd hN (R6▸hg) hp hc hv h
theorem x_ {t:TypeId}{x ix:Operand}{vx:AV}{es:List (List AC)}{k0:IntKind}{i:Int}{k d:Nat}{e:List AC}(hd:o.dst=some d)(hN:Nat.blt d N=true){g0:Bool}(hg:fN ds T o.guard=some g0)(ho:o.op = .indexAddr t x ix)(hx:look T x=some vx)(hl:cX vx=some es)(hi:look T ix=some (.one (.c (.int k0 i))))
  (hk:(ti.elem t).bind ti.size=some k) (h:aK P ti N ds K rest ((d,.one (.c (.ref e)))::T) L) (he:es[i.toNat]?=some e:=by assumption) (h0:0<=i:=by assumption) (ZE:e.length=k:=by rfl) (R6:g0=true:=by first|rfl|exact iP (by first|assumption|exact jo (by assumption))|exact iS (by first|assumption|exact js (by assumption))):aK P ti N ds K (o::rest) T L:=aO hd hN (R6▸hg) ho hx hl hi hk he ⟨h0,ZE⟩ h
theorem pick_t {c a b:Operand}{e:Bool}{va vb:AV}{d:Nat}(hd:o.dst=some d)(hN:Nat.blt d N=true){g0:Bool}(hg:fN ds T o.guard=some g0)(ho:o.op = .pick c a b)(hc:look T c=some (.one (.c (.bool e))))(ha:look T a=some va)(hb:look T b=some vb)(h:aK P ti N ds K rest ((d,va)::T) L)
  (he:e=true:=by first|rfl|assumption|exact jo (by assumption)) (R6:g0=true:=by first|rfl|exact iP (by first|assumption|exact jo (by assumption))|exact iS (by first|assumption|exact js (by assumption))):aK P ti N ds K (o::rest) T L:=st_pop hd hN (R6▸hg) (by rw[ho];simp only[pop,hc,ha,hb];rw[if_pos he]) trivial h
theorem pick_f {c a b:Operand}{e:Bool}{va vb:AV}{d:Nat}(hd:o.dst=some d)(hN:Nat.blt d N=true){g0:Bool}(hg:fN ds T o.guard=some g0)(ho:o.op = .pick c a b)(hc:look T c=some (.one (.c (.bool e))))(ha:look T a=some va)(hb:look T b=some vb)(h:aK P ti N ds K rest ((d,vb)::T) L)
  (he:e=false:=by first|rfl|assumption|exact js (by assumption)) (R6:g0=true:=by first|rfl|exact iP (by first|assumption|exact jo (by assumption))|exact iS (by first|assumption|exact js (by assumption))):aK P ti N ds K (o::rest) T L:=st_pop hd hN (R6▸hg) (by rw[ho];simp only[pop,hc,ha,hb];rw[if_neg (by rw[he];decide)]) trivial h
theorem k_ {d:Nat}{g0:Bool}(hd:o.dst=some d)(hN:Nat.blt d N=true)(hg:fN ds T o.guard=some g0)(h:aK P ti N ds K rest ((d,.undef)::T) L)(R6:g0=false:=by first|rfl|exact aav (by first|assumption|exact js (by assumption))|exact abo (by first|assumption|exact jo (by assumption))):aK P ti N ds K (o::rest) T L:=st_skip hd hN (R6▸hg) h
theorem k0_ {g0:Bool}(hd:o.dst=none)(hg:fN ds T o.guard=some g0)(h:aK P ti N ds K rest T L)(R6:g0=false:=by first|rfl|exact aav (by first|assumption|exact js (by assumption))|exact abo (by first|assumption|exact jo (by assumption))):aK P ti N ds K (o::rest) T L:=sk0_ hd (R6▸hg) h
theorem aw_condT {Q:AX->Tm->List Ob->Prop}{c:Operand}{x y:Code}{b:Bool}(hc:look T c=some (.one (.c (.bool b))))(h:Aw P N n0 x Q T L)(hb:b=true:=by first|rfl|assumption|exact jo (by assumption)):Aw P N n0 (.cond c x y) Q T L:=aw_cond hc (λ_=>h) (λe=>by rw[hb]at e;cases e)
theorem aw_condF {Q:AX->Tm->List Ob->Prop}{c:Operand}{x y:Code}{b:Bool}(hc:look T c=some (.one (.c (.bool b))))(h:Aw P N n0 y Q T L)(hb:b=false:=by first|rfl|assumption|exact js (by assumption)):Aw P N n0 (.cond c x y) Q T L:=aw_cond hc (λe=>by rw[hb]at e;cases e) (λ_=>h)
end
theorem ao {p:Prop}(h:p:=by
 repeat' (first
  |refine p_ rfl rfl rfl rfl rfl ?_|refine st_nil ?_|refine x_ rfl rfl rfl rfl rfl rfl rfl rfl ?_|refine l_ rfl rfl rfl rfl ?_|refine s_ rfl rfl rfl ?_|refine t_ rfl rfl rfl rfl ?_|refine k_ rfl rfl rfl ?_|refine k0_ rfl rfl ?_|refine c_ rfl rfl rfl rfl ?_|refine pick_t rfl rfl rfl rfl rfl rfl rfl ?_|refine pick_f rfl rfl rfl rfl rfl rfl rfl ?_|refine aw_seq ?_|refine aw_region tab_ok _ rfl ?_|refine aw_drawn2 tabS_ok _ rfl mixed (by decide +kernel) ?_|refine aw_condT rfl ?_|refine aw_condF rfl ?_|refine aw_block ?_|refine aw_exit ?_|refine aw_ret ?_|refine aw_skip ?_|rw[ah3]|rw[mn_norm]|rw[mx_norm])
 refine az (aE rfl ?_ ?_)
 .repeat' (first|exact t7|rfl|exact ah1 rfl|omega|apply And.intro)
 .first|rfl|(simp only[ah4,ah2,ah6,ahW]<;>rfl)):p:=h
structure Bx (q:Prop):Prop where
 out:q
theorem gs_ {p q:Prop}(k:q)(h:Bx q->p:=by
 intro hq
 first|refine p_ rfl rfl rfl rfl rfl ?_|refine st_nil ?_|refine x_ rfl rfl rfl rfl rfl rfl rfl rfl ?_|refine l_ rfl rfl rfl rfl ?_|refine s_ rfl rfl rfl ?_|refine t_ rfl rfl rfl rfl ?_|refine k_ rfl rfl rfl ?_|refine k0_ rfl rfl ?_|refine c_ rfl rfl rfl rfl ?_|refine pick_t rfl rfl rfl rfl rfl rfl rfl ?_|refine pick_f rfl rfl rfl rfl rfl rfl rfl ?_|refine aw_seq ?_|refine aw_region tab_ok _ rfl ?_|refine aw_drawn2 tabS_ok _ rfl mixed (by decide +kernel) ?_|refine aw_condT rfl ?_|refine aw_condF rfl ?_|refine aw_block ?_|refine aw_exit ?_|refine aw_ret ?_|refine aw_skip ?_|rw[ah3]|rw[mn_norm]|rw[mx_norm]
 exact hq.out):p:=h ⟨k⟩
theorem gs0_ {p q:Prop}(k:q)(h:Bx q->p:=by
 intro hq
 first|refine p_ rfl rfl rfl rfl rfl ?_|refine st_nil ?_|refine x_ rfl rfl rfl rfl rfl rfl rfl rfl ?_|refine l_ rfl rfl rfl rfl ?_|refine s_ rfl rfl rfl ?_|refine t_ rfl rfl rfl rfl ?_|refine k_ rfl rfl rfl ?_|refine k0_ rfl rfl ?_|refine c_ rfl rfl rfl rfl ?_|refine pick_t rfl rfl rfl rfl rfl rfl rfl ?_|refine pick_f rfl rfl rfl rfl rfl rfl rfl ?_|refine aw_seq ?_|refine aw_condT rfl ?_|refine aw_condF rfl ?_|refine aw_block ?_|refine aw_exit ?_|refine aw_ret ?_|refine aw_skip ?_|rw[ah3]|rw[mn_norm]|rw[mx_norm]
 exact hq.out):p:=h ⟨k⟩
theorem aS {p q:Prop}(k:q)(h:Bx q->p:=by
 intro hq
 repeat' (first
  |refine gs_ ?_)
 exact hq.out):p:=h ⟨k⟩
theorem ae {β:Type}{c:Bool}{x y:Option β}{r:β}(H:(bif c then x else y)=some r):(c=true/\x=some r)\/(c=false/\y=some r):=by
 cases c with
 |true=>exact .inl ⟨rfl,H⟩
 |false=>exact .inr ⟨rfl,H⟩
theorem aq {p:Prop}[Decidable p]{β:Type}{x:Option β}{r:β}(H:(bif decide p then x else none)=some r):p/\x=some r:=by
 obtain⟨h,k⟩:=ie H;exact⟨aii h,k⟩
theorem aw {α β:Type}{l:List α}{f:α->List AC}{i:Int}{k:α->Option β}{r:β}(H:(al l i).bind k=some r):∃ x,0<=i/\l[i.toNat]?=some x/\(l.map f)[i.toNat]?=some (f x)/\k x=some r:=by
 obtain⟨x,h,K⟩:=bd_ H;obtain⟨h0,h1⟩:=kw h;exact⟨x,h0,h1,ag' h1,K⟩
theorem lt_ {a b:Nat}(h:Nat.blt a b=true:=by rfl):a<b:=ah1 h
theorem bg {p:Prop}(h:p:=by repeat' (first|refine⟨?_,?_⟩|exact t7|rfl)):p:=h
theorem fO {p:Prop}(h:p:=by repeat' (first|refine⟨?_,?_⟩|exact t7|rfl|(simp only[ah4,ah2,ah6,ahW]<;>rfl))):p:=h
theorem aQ {p:Prop}(h:p:=by repeat' (first|refine⟨?_,?_⟩|exact t7|exact lt_|omega)):p:=h
theorem bq {p:Prop}(h:p:=by repeat' (first|refine⟨?_,?_⟩|exact t7|exact fi r5|exact rz (ah1 rfl))):p:=h
theorem dU {p:Prop}(h:p:=by simp only[ahZ,aib,aik,aiw,ah4,ah2,ah6]<;>rfl):p:=h
theorem po_ {P : Program} {ti : TI} {N : Nat} {f : FuncId} {fn : Func} {c : Code} {args : List PV} {r : CV} (hf : P.funcs[f]? = some fn) (hN : fn.ntmps = N) {T : Tm} (h : Aw P N 0 c (λx T L => (x = .normal \/ x = .ret) /\ Res ti fn.results.toList T L r) T []) (Pm : TIok P ti := by exact tab_ok) (hb : fn.body = some c := by rfl) (Qy : (fn.name == "runtime.NumGoroutine") = false := by rfl) (hlen : args.length <= N := by simp) (hT : argT 0 args = T := by simp only [argT, PV.av, ah2, ah6] <;> rfl) : Pure P f args r := pa_ Pm hf hb Qy hN hlen (hT ▸ h)
theorem qp_ {p:Prop}(h:p:=by repeat' (first|exact t7|rfl|exact ah1 rfl|omega|decide|exact ah3 .. |(simp only[aib,aik];omega)|exact wideI (by intro _;rfl) _|(intro e he;simp at he;subst he;rfl)|(intro e he;obtain⟨q,_,rfl⟩:=aip.1 he;rfl)|(simp only[ah3];omega)|(simp only[ah3,ahZ,aib,aik];omega)|(intro e he;simp at he;rcases he with rfl|rfl<;>rfl)|refine List.forall_mem_cons.2 ⟨?_,?_⟩|exact λ_ h=>nomatch h|(intro e he;obtain⟨q,_,rfl⟩:=aip.1 (List.mem_of_mem_take he);rfl)|(simp only[ah3,aiD];omega)|(simp only[ah3,ahZ,aiD,aib,aik];omega)|(simp only[aib,aik,aiw];decide)|(show _<_+1;omega)|apply And.intro)):p:=h
theorem gw_ {A B p q:Prop}(a:A)(b:B)(k:q)(h:Bx q->A->B->p:=by
 intro hq ha hb0
 first|refine st_nil ?_|refine st_pop rfl rfl rfl rfl qp_ ?_|refine st_lop rfl rfl rfl rfl qp_ ?_|refine sS_ rfl rfl rfl qp_ ?_|refine st_lit rfl rfl rfl rfl qp_ ?_|refine st_skip rfl rfl rfl ?_|refine sk0_ rfl rfl ?_|(refine st_if rfl (λhb=>?_) (λhb=>?_)<;>(first|exact(fx_ hb).elim|rw[hb]))|refine aw_seq ?_|refine aw_region ha _ rfl ?_|refine aw_drawn2 hb0 _ rfl mixed (by decide +kernel) ?_|(refine aw_cond rfl (λhb=>?_) (λhb=>?_)<;>(try exact(fx_ hb).elim))|refine aw_block ?_|refine aw_exit ?_|refine aw_ret ?_|refine aw_skip ?_
 exact hq.out):p:=h ⟨k⟩ a b
theorem gi_ {p q1 q2 c1 c2:Prop}(k1:c1->q1)(k2:c2->q2)(h:Bx (c1->q1)->Bx (c2->q2)->p:=by
 intro h1 h2
 first|(refine st_if rfl (λhb=>?_) (λhb=>?_);· (rw[hb];exact h1.out hb);· (rw[hb];exact h2.out hb))|exact aw_cond rfl h1.out h2.out):p:=h ⟨k1⟩ ⟨k2⟩
open Go.RowKit Go.MapKept
def cb {α σ ρ:Type}(f:σ->α->Option (Sum σ ρ)):σ->List α->Option (Sum σ ρ)
 |s,[]=>some (.inl s)
 |s,x::l=>match f s x with
  |none=>none
  |some (.inl s')=>cb f s' l
  |some (.inr r)=>some (.inr r)
section
variable {α σ ρ S:Type} {l:List α} {body:S->Option (Step S ρ)}
def zl (mk:σ->Int->S)(n:Nat):Option (Sum σ ρ)->Option (Sum S ρ)
 |none=>none
 |some (.inl s')=>some (.inl (mk s' n))
 |some (.inr r)=>some (.inr r)
def mT (mk:σ->Int->S)(i:Nat):Option (Sum σ ρ)->Option (Step S ρ)
 |none=>none
 |some (.inl s')=>some (.next (mk s' (i:Nat)))
 |some (.inr r)=>some (.ret r)
theorem EC (mk:σ->Int->S)(f:σ->α->Option (Sum σ ρ))(h1:∀ (s:σ) (i:Nat) x,l[i]?=some x->body (mk s i)=mT mk (i+1) (f s x))(h2:∀ s,body (mk s l.length)=some (.exit (mk s l.length))) :
  ∀ (n i:Nat) (s:σ),i<=l.length->l.length-i<n->af body n (mk s i)=zl mk l.length (cb f s (l.drop i))
 |0,i,s,_,h=>by omega
 |n+1,i,s,hi,hn=>by
  rw[af];by_cases O8:i<l.length
  .obtain⟨x,hx⟩:=gol_ O8
   have e1:=(ahR.1 hx).2;rw[h1 s i x hx,ail O8,e1,cb]
   cases hf:f s x with
   |none=>rfl
   |some st=>cases st with
    |inl s'=>exact EC mk f h1 h2 n (i+1) s' m0 m0
    |inr r=>rfl
  .have:i=l.length:=m0
   subst this;rw[h2,aiG];rfl
theorem bP (mk:σ->Int->S)(f:σ->α->Option (Sum σ ρ))(h1:∀ (s:σ) (i:Nat) x,l[i]?=some x->body (mk s i)=mT mk (i+1) (f s x))(h2:∀ s,body (mk s l.length)=some (.exit (mk s l.length)))(hl:l.length<fuel)(s:σ) :
  af body fuel (mk s 0)=zl mk l.length (cb f s l):=EC mk f h1 h2 fuel 0 s (aia _) m0
end
theorem gn_ {α:Type}{l:List α}{i:Nat}{x:α}(h:l[i]?=some x):al l (i:Int)=some x:=by
 unfold al;rw[if_pos m0];exact h
theorem aG {α:Type}{l:List α}{i:Nat}{x:α}(h:l[i]?=some x):decide ((i:Int)<(l.length:Nat))=true:=by
 have:=(ahR.1 h).1;simp;exact this
theorem lF_ (n:Nat):decide ((n:Int)<(n:Nat))=false:=by simp
theorem wrapN {i:Nat}(h:i<=4611686018427387904):IntKind.i64.wrap ((i:Int)+1)=((i+1:Nat):Int):=a8 m0 m0
