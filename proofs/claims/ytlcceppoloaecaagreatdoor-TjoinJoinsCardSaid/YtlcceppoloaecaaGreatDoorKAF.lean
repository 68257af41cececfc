/- Parts. No condition. -/
import Derived.Test.YtlcceppoloaecaaGreatDoorKAE
import Derived.WalkSpells
import Derived.WalkLawsBesides
import Derived.Deep.QuietTactic
import Derived.Deep.RegionHeld3
set_option maxHeartbeats 8000000
set_option maxRecDepth 100000
set_option linter.unusedSimpArgs false
set_option linter.unusedVariables false
namespace Go.Proofs.YtlcceppoloaecaaGreatDoor
open Go.RowKit Go.Shelf Go.Lib Go.Sort
theorem ltC {α:Type}(f:α->Int)(x y:α):ltOf (λx y=>Lib.compareInt (f x) (f y)) x y=decide (f x<f y):=by
 unfold ltOf Lib.compareInt;by_cases h1:f x<f y
 ·simp[h1]
 ·by_cases h2:f y<f x<;>simp[h1,h2]
theorem am' {α:Type}(f:α->Int):SWO (ltOf λx y=>Lib.compareInt (f x) (f y)) where
 irrefl x:=by rw[ltC];simp
 trans x y z h1 h2:=by rw[ltC]at *;simp at *;omega
 ntrans x y z h1 h2:=by rw[ltC]at *;simp at *;omega
def alY:Flat cD:=⟨2,λp=>[p.a,p.b],λ_=>rfl,m0⟩
theorem ag5 {cb:Array Value}(h:cb.size=([]:List AC).length):cb=#[]:=by
 apply Array.eq_empty_of_size_eq_zero;simpa using h
theorem ae0:abq Tryz.prog alY 43 [] (λx => .agg (alY.enc x).toArray) (λx y=>Lib.compareInt x.b y.b):=by
 intro R W cb _ hs _ x y;obtain rfl:=ag5 hs;show Calls Tryz.prog 43 #[.agg #[.int .i64 x.a,.int .i64 x.b],.agg #[.int .i64 y.a,.int .i64 y.b]] W λe w'=>e = .returned (.int .i64 (Lib.compareInt x.b y.b)) /\ ∃ q Yc,w'=grow (W.drewN q) Yc
 have R8:=λW=>AnyG.cmp_Compare_int Tryz.cmpInt x.b y.b W
 change ∀ W,Calls Tryz.prog 41 _ _ _ at R8;generalize Lib.compareInt x.b y.b=r at R8 ⊢
 go_enter Tryz.func43,Tryz.ntmps43
 go_wp2_with (go_at_call 41;refine(R8 _).mono ?_;rintro e w' ⟨rfl,rfl⟩)
 go_ret
 exact⟨rfl,0,_,by rw[alloc_eq_grow,alloc_eq_grow,grow_grow];rfl⟩
def agP (n:Nat):Type :={ x:Int // 0<=x/\(x<(n:Int)\/x=0) }
instance (n : Nat) : Inhabited (agP n) := ⟨⟨0, Int.le_refl _, .inr rfl⟩⟩
def akI (n:Nat):Flat (agP n):=⟨1,λx=>[x.1],λ_=>rfl,m0⟩
def qo (b:List ap)(k:Int):Int:=match b[k.toNat]? with
 |some y=>y.valid.lo
 |none=>0
theorem aln {cb:Array Value}{x:AC}(h:cb.size=[x].length):∃ v,cb=#[v]:=by
 obtain⟨l⟩:=cb
 match l,h with
 |[v],_=>exact⟨v,rfl⟩
theorem JF (W:World)(b0 o0 b1 o1 n c i j:Nat)(p q:Int)(hi:i<n)(hj:j<n)(hn:n<=1000)(h0:W.cell? ⟨b0,o0,none⟩=some (.slice (some ⟨b1,o1,none⟩) n c))(h1:W.cell? ⟨b1,o1+i*3+1,none⟩=some (.int .i64 p))(h2:W.cell? ⟨b1,o1+j*3+1,none⟩=some (.int .i64 q)) :
  Calls Tryz.prog 40 #[.int .i64 (i:Int),.int .i64 (j:Int),.pointer (some ⟨b0,o0,none⟩)] W λe w'=>e = .returned (.int .i64 (Lib.compareInt p q)) /\ ∃ q Yc,w'=grow (W.drewN q) Yc:=by
 have R8:=λW=>AnyG.cmp_Compare_int Tryz.cmpInt p q W
 change ∀ W,Calls Tryz.prog 41 _ _ _ at R8;generalize Lib.compareInt p q=r at R8 ⊢
 go_enter Tryz.func40,Tryz.ntmps40
 go_wp2_with fail
 go_region_held3 (λw'=>w'.cell? ⟨b0,o0,none⟩=some (.slice (some ⟨b1,o1,none⟩) n c)/\w'.cell? ⟨b1,o1+i*3+1,none⟩=some (.int .i64 p)/\w'.cell? ⟨b1,o1+j*3+1,none⟩=some (.int .i64 q))
  (first|go_keep)
  (first|(go_at_call 41;((with_reducible refine(R8 _).mono ?_);rintro e w' ⟨rfl,rfl⟩)))
 go_wp2_with fail
 go_ret
 exact⟨rfl,1,#[],by rw[grow_empty];rfl⟩
theorem NH {b:List ap}(h0:0<b.length)(hb:b.length<=1000):abq Tryz.prog (akI b.length) 40 [.ref [.lst (b.map aH)]] (akI b.length).one (λx y=>Lib.compareInt (qo b x.1) (qo b y.1)):=by
 intro R W cb hR hs hc x y;obtain⟨v,rfl⟩:=aln hs;have hv:=hc 0 v _ rfl rfl;obtain⟨x,O2,Rx⟩:=x;obtain⟨y,hy1,YP⟩:=y;obtain⟨i,rfl⟩:=Int.eq_ofNat_of_zero_le O2;obtain⟨j,rfl⟩:=Int.eq_ofNat_of_zero_le hy1;have X9:i<b.length:=m0
 have hyl:j<b.length:=m0
 cases hv with
 |ref b0 o0 _ cv hr he =>
  have Uz:=hR _ _ _ (hr 0 m5);rw[Nat.add_zero]at Uz;have hp:=he 0 _ rfl;generalize cv 0=sv at Uz hp
  cases hp with
  |lst a n c _ k cw b1 o1 hn Xn hk ha Un he2 =>
   have R3:k=3:=by
    have:=hk (aH b[i]) (aq0.2 ⟨_,List.getElem_mem X9,rfl⟩);rw[<- this];rfl
   subst R3;have Qx:b.length=n:=by simpa using hn
   subst Qx;obtain rfl:=ha h0;have cell:∀ (i:Nat) (hi:i<b.length),W.cell? ⟨b1,o1+i*3+1,none⟩=some (.int .i64 b[i].valid.lo):=λi hi=>by
    have h1:=hR _ _ _ (Un (i*3+1) m0);have h2:=he2 i (aH b[i]) 1 (.int .i64 b[i].valid.lo) (by rw[aqN,aqz hi];rfl) rfl
    cases h3:cw (i*3+1)<;>rw[h3]at h2 h1<;>cases h2;rw[Nat.add_assoc];exact h1
   have cx:=cell i X9;have cy:=cell j hyl;have lx:qo b (i:Int)=b[i].valid.lo:=by unfold qo;rw[Int.toNat_natCast,aqz X9]
   have ly:qo b (j:Int)=b[j].valid.lo:=by unfold qo;rw[Int.toNat_natCast,aqz hyl]
   show Calls Tryz.prog 40 #[.int .i64 (i:Int),.int .i64 (j:Int),.pointer (some ⟨b0,o0,none⟩)] W λe w'=>e = .returned (.int .i64 (Lib.compareInt (qo b (i:Int)) (qo b (j:Int)))) /\ ∃ q Yc,w'=grow (W.drewN q) Yc
   rw[lx,ly];exact JF W b0 o0 b1 o1 b.length c i j _ _ X9 hyl hb Uz cx cy
open Go.RowKit Go.MapKept
def anw (f:FuncId):Bool:=Nat.beq f 248||Nat.beq f 250||Nat.beq f 252||Nat.beq f 253||Nat.beq f 274||Nat.beq f 293||Nat.beq f 292||Nat.beq f 179||Nat.beq f 244||Nat.beq f 238||Nat.beq f 254||Nat.beq f 204||Nat.beq f 242||Nat.beq f 193||Nat.beq f 276||Nat.beq f 277||Nat.beq f 295||Nat.beq f 305||Nat.beq f 241||Nat.beq f 256||Nat.beq f 257||Nat.beq f 258||Nat.beq f 259||Nat.beq f 260||Nat.beq f 261||Nat.beq f 262||Nat.beq f 263||Nat.beq f 278||Nat.beq f 279||Nat.beq f 280||Nat.beq f 264||Nat.beq f 281||Nat.beq f 282||Nat.beq f 283||Nat.beq f 284||Nat.beq f 285||Nat.beq f 286||Nat.beq f 287||Nat.beq f 288||Nat.beq f 297||Nat.beq f 298||Nat.beq f 299||Nat.beq f 92||Nat.beq f 145||Nat.beq f 54||Nat.beq f 18||Nat.beq f 52||Nat.beq f 53||Nat.beq f 99||Nat.beq f 62||Nat.beq f 58||Nat.beq f 156||Nat.beq f 39||Nat.beq f 42||Nat.beq f 212||Nat.beq f 80||Nat.beq f 121||Nat.beq f 122||Nat.beq f 123||Nat.beq f 124||Nat.beq f 125||Nat.beq f 126||Nat.beq f 127||Nat.beq f 128||Nat.beq f 191||Nat.beq f 194||Nat.beq f 195||Nat.beq f 83||Nat.beq f 131||Nat.beq f 132||Nat.beq f 133||Nat.beq f 134||Nat.beq f 135||Nat.beq f 136||Nat.beq f 137||Nat.beq f 138||Nat.beq f 196||Nat.beq f 197||Nat.beq f 198||Nat.beq f 246||Nat.beq f 265||Nat.beq f 266||Nat.beq f 267||Nat.beq f 268||Nat.beq f 269||Nat.beq f 270||Nat.beq f 271||Nat.beq f 272||Nat.beq f 289||Nat.beq f 290||Nat.beq f 291
def api (f:FuncId)(d:Nat):Bool:=Nat.beq f 74||Nat.beq f 207||Nat.beq f 237||Nat.beq f 250||Nat.beq f 252||Nat.beq f 100||Nat.beq f 60||Nat.beq f 12||Nat.beq f 156||Nat.beq f 62||(Nat.beq f 202&&Nat.beq d 41)||(Nat.beq f 202&&Nat.beq d 42)
def aos (f:FuncId)(id:Nat):List Nat :=
 if (Nat.beq f 12&&Nat.beq id 8)=true then [3]else
 if (Nat.beq f 35&&Nat.beq id 1)=true then [3]else
 if (Nat.beq f 74&&Nat.beq id 18)=true then [5]else
 if (Nat.beq f 52&&Nat.beq id 4)=true then [4,5,9]else
 []
def aot (f:FuncId)(id:Nat):Bool×Bool :=
 (false,true)
def fzT (f:FuncId)(id:Nat):List Nat :=
 if (Nat.beq f 52&&Nat.beq id 4)=true then [4,5,9]else
 []
def swT (f:FuncId)(id:Nat):Option (Nat×List Nat) :=
 if (Nat.beq f 52&&Nat.beq id 4)=true then some (12,[10,11])else
 none
def aoy (f:FuncId):Bool:=Nat.beq f 183||Nat.beq f 4||Nat.beq f 6||Nat.beq f 9
def ae7:TI :={ tab with owns:=anw }
theorem am:TIok Tryz.prog ae7:=⟨tab_ok.size,tab_ok.agg,tab_ok.elem,tab_ok.field,tab_ok.zero,tab_ok.bytes,tab_ok.kind,tab_ok.struct,tab_ok.zok,tab_ok.eqs⟩
def aoi:FuncId->List PV->Option CV:=λ_ _=>none
noncomputable def cx:Cx :={ P:=Tryz.prog,ti:=ae7,xs:=⟨293,292⟩,row:=api,frz:=aos,flg:=aot,orc:=aoi,bad:=aoy,fz:=fzT,sw:=swT }
inductive Step (σ ρ:Type) where
 |next (s:σ)
 |exit (s:σ)
 |ret (r:ρ)
def ao {σ ρ:Type}(body:σ->Option (Step σ ρ)):Nat->σ->Option (Sum σ ρ)
 |0,_=>none
 |n+1,s=>match body s with
  |none=>none
  |some (.next s')=>ao body n s'
  |some (.exit s')=>some (.inl s')
  |some (.ret r)=>some (.inr r)
def fuel:Nat:=4611686018427387904
def aF {α:Type}(l:List α)(i:Int):Option α:=if 0<=i then l[i.toNat]? else none
def gU {α:Type}(l:List α)(a b:Int):Option (List α):=if 0<=a/\a<=b/\b<=(l.length:Nat)then some ((l.take b.toNat).drop a.toNat)else none
theorem bd_ {α β:Type}{x:Option α}{f:α->Option β}{r:β}(h:x.bind f=some r):∃ a,x=some a/\f a=some r:=by
 cases x with
 |none=>cases h
 |some a=>exact⟨a,rfl,h⟩
theorem jd {α:Type}{l:List α}{i:Int}{x:α}(h:aF l i=some x):0<=i/\l[i.toNat]?=some x:=by
 unfold aF at h;by_cases h0:0<=i
 ·rw[if_pos h0]at h;exact⟨h0,h⟩
 ·rw[if_neg h0]at h;cases h
theorem cQ {α:Type}{l r:List α}{a b:Int}(h:gU l a b=some r):(0<=a/\a<=b/\b<=(l.length:Nat))/\r=(l.take b.toNat).drop a.toNat:=by
 unfold gU at h;by_cases h0:0<=a/\a<=b/\b<=(l.length:Nat)
 ·rw[if_pos h0]at h;exact⟨h0,(aqX h).symm⟩
 ·rw[if_neg h0]at h;cases h
theorem fS {c:Bool}{β:Type}{x:Option β}{r:β}(h:(bif c then x else none)=some r):c=true/\x=some r:=by
 cases c with
 |true=>exact⟨rfl,h⟩
 |false=>cases h
theorem akC {α:Type}{l:List α}{f:α->List AC}{i:Int}{x:α}(h:l[i.toNat]?=some x):(l.map f)[i.toNat]?=some (f x):=by rw[aqN,h];rfl
theorem wideI {α:Type}{f:α->List AC}{k:Nat}(hf:∀ x,(f x).length=k)(l:List α):∀ e∈l.map f,e.length=k:=by
 intro e he;simp only[aq0]at he;obtain⟨x,_,rfl⟩:=he;exact hf x
section
variable {P:Program} {ti:TI} {N n0:Nat} {Q:AX->Tm->List Ob->Prop} {T:Tm} {L:List Ob}
@[reducible] def After {σ ρ γ:Type}(K:Sum σ ρ->Option γ)(r:γ):Step σ ρ->Prop
 |.next _=>True
 |.exit s=>K (.inl s)=some r
 |.ret q=>K (.inr q)=some r
theorem alM_ {σ ρ γ:Type}{c:Code}{body:σ->Option (Step σ ρ)}{K:Sum σ ρ->Option γ}{r:γ}{s0:σ}(TT:σ->Tm)(LL:σ->List Ob)(h:(ao body fuel s0).bind K=some r)(SI:∀ s,n0<=(LL s).length)(hf:Fits T L (TT s0) (LL s0))
  (round:∀ s st,body s=some st->After K r st->Aw P N n0 c (AX.then (λT' L' =>∃ s',st = .next s'/\Fits T' L' (TT s') (LL s')) Q) (TT s) (LL s)):Aw P N n0 (.loop c) Q T L:=by
 refine cu (λs:Nat×σ=>TT s.2) (λs=>LL s.2) (λs=>(ao body s.1 s.2).bind K=some r) (λs=>s.1) (fuel,s0) h (λs _=>SI s.2) hf ?_;rintro⟨n,s⟩ Qy;dsimp only at Qy ⊢
 cases n with
 |zero=>cases Qy
 |succ n =>
  rw[ao]at Qy
  cases hb:body s with
  |none=>rw[hb]at Qy;cases Qy
  |some st =>
   rw[hb]at Qy;refine Aw.mono (round s st hb ?_) ?_
   ·cases st with
    |next s'=>trivial
    |exit s'=>exact Qy
    |ret q=>exact Qy
   ·intro x T' L' hq
    cases x with
    |normal =>
     obtain⟨s',rfl,RO⟩:=hq;exact⟨(n,s'),Qy,Nat.lt_succ_self n,RO⟩
    |exit id=>exact hq
    |ret=>exact hq
end
def mnI (a b:Int):Int:=if b<a then b else a
def EE (a b:Int):Int:=if b>a then b else a
theorem mn_norm (a b:Int):(if false=true then(if b>a then b else a)else(if b<a then b else a))=mnI a b:=rfl
theorem mx_norm (a b:Int):(if true=true then(if b>a then b else a)else(if b<a then b else a))=EE a b:=rfl
theorem zm {α:Type}{f:α->List AC}{l r:List α}{a b:Int}(h:r=(l.take b.toNat).drop a.toNat):((l.map f).take b.toNat).drop a.toNat=r.map f:=by rw[h,<- List.map_take,<- List.map_drop]
def af1 (n:Nat):SV->Bool
 |.c _=>true
 |.emp=>true
 |.own _ t=>Nat.blt t n
 |.ptr id _=>Nat.blt id n
 |_=>false
def ac_ (n:Nat):List SV->Bool
 |[]=>true
 |x::l=>and (af1 n x) (ac_ n l)
theorem aaz {n:Nat}{x:SV}(h:af1 n x=true):x.below n:=by
 cases x with
 |c _=>trivial
 |emp=>trivial
 |own _ t=>exact aqA h
 |ptr id _=>exact aqA h
 |sl=>cases h
 |ep=>cases h
 |mp=>cases h
 |clo=>cases h
theorem gG {n:Nat}:∀ {cs:List SV},ac_ n cs=true->(Ob.box cs).below n
 |[],_=>λx hx=>by cases hx
 |c::cs,h=>λx hx=>by
  rw[ac_,aqI]at h;obtain rfl|hx:=aqH.1 hx
  ·exact aaz h.1
  ·exact gG h.2 x hx
section
variable {P:Program} {ti:TI} {N n0:Nat} {ds:List (Option Tmp)} {K:Tm->List Ob->Prop} {rest:List Oper} {o:Oper} {T:Tm} {L:List Ob}
theorem jK {b:Bool}(h:b=true):(b==true)=true:=by rw[h];rfl
theorem jq {b:Bool}(h:b=false):(b==false)=true:=by rw[h];rfl
theorem agT {b:Bool}(h:b=false):(b==true)=false:=by rw[h];rfl
theorem agl {b:Bool}(h:b=true):(b==false)=false:=by rw[h];rfl
theorem j8 {e:Bool}(h:e=false):(!e)=true:=by rw[h];rfl
theorem j7 {e:Bool}(h:e=true):(!e)=false:=by rw[h];rfl
def ajY:Op->Bool
 |.pick _ _ _=>true
 |_=>false
theorem p_ {v:AV}{φ:Prop}{d:Nat}(_:ajY o.op=false)(hd:o.dst=some d)(hN:Nat.blt d N=true){g0:Bool}(hg:gg ds T o.guard=some g0)(hp:pop ti (look T) L o.op=some (v,φ))(h:aI P ti N ds K rest ((d,v)::T) L)
  (hφ:φ:=by repeat' (first|exact t7|rfl|exact aqA rfl|omega|assumption|exact wideI (by intro _;rfl) _|exact wideI IE _|(intro e he;simp at he;subst he;rfl)|(simp only[aqC];omega)|apply And.intro)) (RQ:g0=true:=by first|rfl|exact jK (by first|assumption|exact j8 (by assumption))|exact jq (by first|assumption|exact j7 (by assumption))):aI P ti N ds K (o::rest) T L:=st_pop hd hN (RQ▸hg) hp hφ h
theorem l_ {v:AV}{L':List Ob}{φ:Prop}{d:Nat}(hd:o.dst=some d)(hN:Nat.blt d N=true){g0:Bool}(hg:gg ds T o.guard=some g0)(hp:Gz ti (look T) L o.op=some (v,L',φ))(h:aI P ti N ds K rest ((d,v)::T) L')
  (hφ:φ:=by repeat' (first|exact t7|rfl|exact aqA rfl|omega|exact wideI (by intro _;rfl) _|exact wideI IE _|(intro e he;simp at he;subst he;rfl)|exact aqC _|(simp only[aqC,aqy,aqM,aqV,aq8]<;>omega)|apply And.intro)) (RQ:g0=true:=by first|rfl|exact jK (by first|assumption|exact j8 (by assumption))|exact jq (by first|assumption|exact j7 (by assumption))):aI P ti N ds K (o::rest) T L:=st_lop hd hN (RQ▸hg) hp hφ h
theorem s_ {v:AV}{L':List Ob}{φ:Prop}(hd:o.dst=none){g0:Bool}(hg:gg ds T o.guard=some g0)(hp:Gz ti (look T) L o.op=some (v,L',φ))(h:aI P ti N ds K rest T L')(hφ:φ:=by repeat' (first|exact t7|rfl|exact aqA rfl|omega|apply And.intro))(RQ:g0=true:=by first|rfl|exact jK (by first|assumption|exact j8 (by assumption))|exact jq (by first|assumption|exact j7 (by assumption))):aI P ti N ds K (o::rest) T L:=sS_ hd (RQ▸hg) hp hφ h
theorem t_ {v:AV}{φ:Prop}{d:Nat}(hd:o.dst=some d)(hN:Nat.blt d N=true){g0:Bool}(hg:gg ds T o.guard=some g0)(hp:vm ti (look T) o.op=some (v,φ))(h:aI P ti N ds K rest ((d,v)::T) L)
  (hφ:φ:=by repeat' (first|exact t7|rfl|exact aqA rfl|omega|(intro e he;simp at he;subst he;rfl)|(intro e he;simp at he;rcases he with rfl|rfl<;>rfl)|(intro e he;simp at he;rcases he with rfl|rfl|rfl<;>rfl)|(intro e he;simp at he;rcases he with rfl|rfl|rfl|rfl<;>rfl)|apply And.intro)) (RQ:g0=true:=by first|rfl|exact jK (by first|assumption|exact j8 (by assumption))|exact jq (by first|assumption|exact j7 (by assumption))):aI P ti N ds K (o::rest) T L:=st_lit hd hN (RQ▸hg) hp hφ h
theorem c_ {g:FuncId}{ps:List PV}{r:CV}{d:Nat}{v:AV}(hd:o.dst=some d)(hN:Nat.blt d N=true){g0:Bool}(hg:gg ds T o.guard=some g0)(hp:qE (look T) o.op=some (g,ps))(h:aI P ti N ds K rest ((d,v)::T) L)(hc:Pure P g ps r:=by assumption)(hv:r.av=v:=by rfl)(RQ:g0=true:=by first|rfl|exact jK (by first|assumption|exact j8 (by assumption))|exact jq (by first|assumption|exact j7 (by assumption))):aI P ti N ds K (o::rest) T L:=aN hd hN (RQ▸hg) hp hc hv h
theorem x_ {t:TypeId}{x ix:Operand}{vx:AV}{es:List (List AC)}{k0:IntKind}{i:Int}{k d:Nat}{e:List AC}(hd:o.dst=some d)(hN:Nat.blt d N=true){g0:Bool}(hg:gg ds T o.guard=some g0)(ho:o.op = .indexAddr t x ix)(hx:look T x=some vx)(hl:dw vx=some es)(hi:look T ix=some (.one (.c (.int k0 i))))
  (hk:(ti.elem t).bind ti.size=some k) (h:aI P ti N ds K rest ((d,.one (.c (.ref e)))::T) L) (he:es[i.toNat]?=some e:=by assumption) (h0:0<=i:=by assumption) (VL:e.length=k:=by rfl) (RQ:g0=true:=by first|rfl|exact jK (by first|assumption|exact j8 (by assumption))|exact jq (by first|assumption|exact j7 (by assumption))):aI P ti N ds K (o::rest) T L:=bw hd hN (RQ▸hg) ho hx hl hi hk he ⟨h0,VL⟩ h
theorem pick_t {c a b:Operand}{e:Bool}{va vb:AV}{d:Nat}(hd:o.dst=some d)(hN:Nat.blt d N=true){g0:Bool}(hg:gg ds T o.guard=some g0)(ho:o.op = .pick c a b)(hc:look T c=some (.one (.c (.bool e))))(ha:look T a=some va)(hb:look T b=some vb)(h:aI P ti N ds K rest ((d,va)::T) L)
  (he:e=true:=by first|rfl|assumption|exact j8 (by assumption)) (RQ:g0=true:=by first|rfl|exact jK (by first|assumption|exact j8 (by assumption))|exact jq (by first|assumption|exact j7 (by assumption))):aI P ti N ds K (o::rest) T L:=st_pop hd hN (RQ▸hg) (by rw[ho];simp only[pop,hc,ha,hb];rw[if_pos he]) trivial h
theorem pick_f {c a b:Operand}{e:Bool}{va vb:AV}{d:Nat}(hd:o.dst=some d)(hN:Nat.blt d N=true){g0:Bool}(hg:gg ds T o.guard=some g0)(ho:o.op = .pick c a b)(hc:look T c=some (.one (.c (.bool e))))(ha:look T a=some va)(hb:look T b=some vb)(h:aI P ti N ds K rest ((d,vb)::T) L)
  (he:e=false:=by first|rfl|assumption|exact j7 (by assumption)) (RQ:g0=true:=by first|rfl|exact jK (by first|assumption|exact j8 (by assumption))|exact jq (by first|assumption|exact j7 (by assumption))):aI P ti N ds K (o::rest) T L:=st_pop hd hN (RQ▸hg) (by rw[ho];simp only[pop,hc,ha,hb];rw[if_neg (by rw[he];decide)]) trivial h
theorem k_ {d:Nat}{g0:Bool}(hd:o.dst=some d)(hN:Nat.blt d N=true)(hg:gg ds T o.guard=some g0)(h:aI P ti N ds K rest ((d,.undef)::T) L)(RQ:g0=false:=by first|rfl|exact agT (by first|assumption|exact j7 (by assumption))|exact agl (by first|assumption|exact j8 (by assumption))):aI P ti N ds K (o::rest) T L:=st_skip hd hN (RQ▸hg) h
theorem k0_ {g0:Bool}(hd:o.dst=none)(hg:gg ds T o.guard=some g0)(h:aI P ti N ds K rest T L)(RQ:g0=false:=by first|rfl|exact agT (by first|assumption|exact j7 (by assumption))|exact agl (by first|assumption|exact j8 (by assumption))):aI P ti N ds K (o::rest) T L:=sk0_ hd (RQ▸hg) h
theorem aw_condT {Q:AX->Tm->List Ob->Prop}{c:Operand}{x y:Code}{b:Bool}(hc:look T c=some (.one (.c (.bool b))))(h:Aw P N n0 x Q T L)(hb:b=true:=by first|rfl|assumption|exact j8 (by assumption)):Aw P N n0 (.cond c x y) Q T L:=aw_cond hc (λ_=>h) (λe=>by rw[hb]at e;cases e)
theorem aw_condF {Q:AX->Tm->List Ob->Prop}{c:Operand}{x y:Code}{b:Bool}(hc:look T c=some (.one (.c (.bool b))))(h:Aw P N n0 y Q T L)(hb:b=false:=by first|rfl|assumption|exact j7 (by assumption)):Aw P N n0 (.cond c x y) Q T L:=aw_cond hc (λe=>by rw[hb]at e;cases e) (λ_=>h)
end
theorem LI {p:Prop}(h:p:=by
 repeat' (first
  |refine p_ rfl rfl rfl rfl rfl ?_|refine st_nil ?_|refine x_ rfl rfl rfl rfl rfl rfl rfl rfl ?_|refine l_ rfl rfl rfl rfl ?_|refine s_ rfl rfl rfl ?_|refine t_ rfl rfl rfl rfl ?_|refine k_ rfl rfl rfl ?_|refine k0_ rfl rfl ?_|refine c_ rfl rfl rfl rfl ?_|refine pick_t rfl rfl rfl rfl rfl rfl rfl ?_|refine pick_f rfl rfl rfl rfl rfl rfl rfl ?_|refine aw_seq ?_|refine aw_region tab_ok _ rfl ?_|refine aw_drawn2 tabS_ok _ rfl mixed (by decide +kernel) ?_|refine aw_condT rfl ?_|refine aw_condF rfl ?_|refine aw_block ?_|refine aw_exit ?_|refine aw_ret ?_|refine aw_skip ?_|rw[aqC]|rw[mn_norm]|rw[mx_norm])
 refine aX (bg rfl ?_ ?_)
 ·repeat' (first|exact t7|rfl|exact aqA rfl|omega|apply And.intro)
 ·first|rfl|(simp only[aqD,aqB,aqF,aqv]<;>rfl)):p:=h
structure Bx (q:Prop):Prop where
 out:q
theorem gs_ {p q:Prop}(k:q)(h:Bx q->p:=by
 intro hq
 first|refine p_ rfl rfl rfl rfl rfl ?_|refine st_nil ?_|refine x_ rfl rfl rfl rfl rfl rfl rfl rfl ?_|refine l_ rfl rfl rfl rfl ?_|refine s_ rfl rfl rfl ?_|refine t_ rfl rfl rfl rfl ?_|refine k_ rfl rfl rfl ?_|refine k0_ rfl rfl ?_|refine c_ rfl rfl rfl rfl ?_|refine pick_t rfl rfl rfl rfl rfl rfl rfl ?_|refine pick_f rfl rfl rfl rfl rfl rfl rfl ?_|refine aw_seq ?_|refine aw_region tab_ok _ rfl ?_|refine aw_drawn2 tabS_ok _ rfl mixed (by decide +kernel) ?_|refine aw_condT rfl ?_|refine aw_condF rfl ?_|refine aw_block ?_|refine aw_exit ?_|refine aw_ret ?_|refine aw_skip ?_|rw[aqC]|rw[mn_norm]|rw[mx_norm]
 exact hq.out):p:=h ⟨k⟩
theorem gs0_ {p q:Prop}(k:q)(h:Bx q->p:=by
 intro hq
 first|refine p_ rfl rfl rfl rfl rfl ?_|refine st_nil ?_|refine x_ rfl rfl rfl rfl rfl rfl rfl rfl ?_|refine l_ rfl rfl rfl rfl ?_|refine s_ rfl rfl rfl ?_|refine t_ rfl rfl rfl rfl ?_|refine k_ rfl rfl rfl ?_|refine k0_ rfl rfl ?_|refine c_ rfl rfl rfl rfl ?_|refine pick_t rfl rfl rfl rfl rfl rfl rfl ?_|refine pick_f rfl rfl rfl rfl rfl rfl rfl ?_|refine aw_seq ?_|refine aw_condT rfl ?_|refine aw_condF rfl ?_|refine aw_block ?_|refine aw_exit ?_|refine aw_ret ?_|refine aw_skip ?_|rw[aqC]|rw[mn_norm]|rw[mx_norm]
 exact hq.out):p:=h ⟨k⟩
theorem a6 {p q:Prop}(k:q)(h:Bx q->p:=by
 intro hq
 repeat' (first
  |refine gs_ ?_)
 exact hq.out):p:=h ⟨k⟩
theorem aj {β:Type}{c:Bool}{x y:Option β}{r:β}(H:(bif c then x else y)=some r):(c=true/\x=some r)\/(c=false/\y=some r):=by
 cases c with
 |true=>exact .inl ⟨rfl,H⟩
 |false=>exact .inr ⟨rfl,H⟩
theorem aL {p:Prop}[Decidable p]{β:Type}{x:Option β}{r:β}(H:(bif decide p then x else none)=some r):p/\x=some r:=by
 obtain⟨h,k⟩:=fS H;exact⟨aqT h,k⟩
theorem br {α β:Type}{l:List α}{f:α->List AC}{i:Int}{k:α->Option β}{r:β}(H:(aF l i).bind k=some r):∃ x,0<=i/\l[i.toNat]?=some x/\(l.map f)[i.toNat]?=some (f x)/\k x=some r:=by
 obtain⟨x,h,K⟩:=bd_ H;obtain⟨h0,h1⟩:=jd h;exact⟨x,h0,h1,akC h1,K⟩
theorem lt_ {a b:Nat}(h:Nat.blt a b=true:=by rfl):a<b:=aqA h
theorem bE {p:Prop}(h:p:=by repeat' (first|refine⟨?_,?_⟩|exact t7|rfl)):p:=h
theorem sg {p:Prop}(h:p:=by repeat' (first|refine⟨?_,?_⟩|exact t7|rfl|(simp only[aqD,aqB,aqF,aqv]<;>rfl))):p:=h
theorem bm {p:Prop}(h:p:=by repeat' (first|refine⟨?_,?_⟩|exact t7|exact lt_|omega)):p:=h
theorem cm {p:Prop}(h:p:=by repeat' (first|refine⟨?_,?_⟩|exact t7|exact gG r5|exact clo_below (aqA rfl))):p:=h
theorem qG {p:Prop}(h:p:=by simp only[aqy,aqM,aqV,aq8,aqD,aqB,aqF]<;>rfl):p:=h
class EncC (α:Type) (f:outParam (α->List AC)):Prop where
 ok:True
class OkC (p:Prop) (q:outParam Prop):Prop where
 ok:p->q
instance {p q : Prop} : CoeFun (OkC p q) (λ_ => p -> q) := ⟨λh => h.ok⟩
instance : EncC Int (λx => [AC.int .i64 x]) := ⟨t7⟩
instance {α : Type} {f : α -> List AC} [EncC α f] : EncC (List α) (λx => [AC.lst (x.map f)]) := ⟨t7⟩
instance : EncC Val cV := ⟨t7⟩
instance : EncC ax aP := ⟨t7⟩
instance : EncC ap aH := ⟨t7⟩
instance : EncC Ex tE := ⟨t7⟩
instance : EncC cD iF := ⟨t7⟩
instance : EncC Stp gK := ⟨t7⟩
instance : EncC tm uC := ⟨t7⟩
instance : EncC ac af := ⟨t7⟩
instance : EncC La D1 := ⟨t7⟩
theorem afM {α β:Type}{l:List α}{f:α->List AC}[EncC α f]{i:Int}{k:α->Option β}{r:β}(H:(aF l i).bind k=some r):∃ x,0<=i/\l[i.toNat]?=some x/\(l.map f)[i.toNat]?=some (f x)/\k x=some r:=br H
theorem ay {α:Type}{x:Option α}{r:α}{p:Prop}(H:x=some r)(h:x=some r->p:=by
 intro H
 try dsimp only at H ⊢
 repeat' (first
  |(obtain⟨_,_,_,i,H⟩:=afM H;try simp only[aqD,aqB,aqF,aqv,aC]at i)
  |(obtain⟨_,c,H⟩:=bd_ H;replace c:=OkC.ok c;try simp only[aqD,aqB,aqF,aqv,aC]at c)
  |(obtain⟨_,H⟩:=aL H)
  |(rcases aj H with⟨_,H⟩|⟨_,H⟩))
 all_goals cases H
 all_goals (first|exact LI|(refine a6 ?_;exact⟨_,rfl,fm_ sg [] qG bm cm⟩))):p:=h H
theorem ajm {α:Type}{x:Option α}{r:α}{p:Prop}(H:x=some r)(h:x=some r->p:=by
 intro H
 try dsimp only at H ⊢
 repeat' (first
  |(obtain⟨_,_,_,i,H⟩:=afM H;try simp only[aqD,aqB,aqF,aqv,aC]at i)
  |(obtain⟨_,c,H⟩:=bd_ H;replace c:=OkC.ok c;try simp only[aqD,aqB,aqF,aqv,aC]at c)
  |(obtain⟨_,H⟩:=aL H)
  |(rcases aj H with⟨_,H⟩|⟨_,H⟩))
 all_goals cases H
 all_goals (refine a6 ?_;exact⟨_,rfl,fm_ sg [] qG bm cm⟩)):p:=h H
theorem bA {α:Type}{x:Option α}{r:α}{p:Prop}{A0:Prop}(H:x=some r)(k0:A0)(h:x=some r->A0->p:=by
 intro H k0
 try dsimp only at H ⊢
 repeat' (first
  |(obtain⟨_,_,_,i,H⟩:=afM H;try simp only[aqD,aqB,aqF,aqv,aC]at i)
  |(obtain⟨_,c,H⟩:=bd_ H;replace c:=OkC.ok c;try simp only[aqD,aqB,aqF,aqv,aC]at c)
  |(obtain⟨_,H⟩:=aL H)
  |(rcases aj H with⟨_,H⟩|⟨_,H⟩))
 all_goals cases H
 all_goals first
  |(have H:_=some _:=k0
    try dsimp only at H
    repeat' (first
     |(obtain⟨_,_,_,i,H⟩:=afM H;try simp only[aqD,aqB,aqF,aqv,aC]at i)
     |(obtain⟨_,c,H⟩:=bd_ H;replace c:=OkC.ok c;try simp only[aqD,aqB,aqF,aqv,aC]at c)
     |(obtain⟨_,H⟩:=aL H)
     |(rcases aj H with⟨_,H⟩|⟨_,H⟩))
    all_goals cases H
    all_goals (first|exact LI|(refine a6 ?_;exact⟨_,rfl,fm_ sg [] qG bm cm⟩)))
  |(refine a6 ?_;exact⟨_,rfl,fm_ sg [] qG bm cm⟩)):p:=h H k0
theorem po_ {P : Program} {ti : TI} {N : Nat} {f : FuncId} {fn : Func} {c : Code} {args : List PV} {r : CV} (hf : P.funcs[f]? = some fn) (hN : fn.ntmps = N) {T : Tm} (h : Aw P N 0 c (λx T L => (x = .normal \/ x = .ret) /\ Res ti fn.results.toList T L r) T []) (O_ : TIok P ti := by exact tab_ok) (hb : fn.body = some c := by rfl) (P_ : (fn.name == "runtime.NumGoroutine") = false := by rfl) (hlen : args.length <= N := by simp) (hT : argT 0 args = T := by simp only [argT, PV.av, aqB, aqF] <;> rfl) : Pure P f args r := pa_ O_ hf hb P_ hN hlen (hT ▸ h)
theorem qp_ {p:Prop}(h:p:=by repeat' (first|exact t7|rfl|exact aqA rfl|omega|decide|exact aqC .. |(simp only[aqM,aqV];omega)|exact wideI (by intro _;rfl) _|(intro e he;simp at he;subst he;rfl)|(intro e he;obtain⟨q,_,rfl⟩:=aq0.1 he;rfl)|(simp only[aqC];omega)|(simp only[aqC,aqy,aqM,aqV];omega)|(intro e he;simp at he;rcases he with rfl|rfl<;>rfl)|refine arl.2 ⟨?_,?_⟩|exact λ_ h=>nomatch h|(intro e he;obtain⟨q,_,rfl⟩:=aq0.1 (arp he);rfl)|(simp only[aqC,ari];omega)|(simp only[aqC,aqy,ari,aqM,aqV];omega)|(simp only[aqM,aqV,aq8];decide)|(show _<_+1;omega)|apply And.intro)):p:=h
theorem gw_ {A B p q:Prop}(a:A)(b:B)(k:q)(h:Bx q->A->B->p:=by
 intro hq ha hb0
 first|refine st_nil ?_|refine st_pop rfl rfl rfl rfl qp_ ?_|refine st_lop rfl rfl rfl rfl qp_ ?_|refine sS_ rfl rfl rfl qp_ ?_|refine st_lit rfl rfl rfl rfl qp_ ?_|refine st_skip rfl rfl rfl ?_|refine sk0_ rfl rfl ?_|(refine st_if rfl (λhb=>?_) (λhb=>?_)<;>(first|exact(fx_ hb).elim|rw[hb]))|refine aw_seq ?_|refine aw_region ha _ rfl ?_|refine aw_drawn2 hb0 _ rfl mixed (by decide +kernel) ?_|(refine aw_cond rfl (λhb=>?_) (λhb=>?_)<;>(try exact(fx_ hb).elim))|refine aw_block ?_|refine aw_exit ?_|refine aw_ret ?_|refine aw_skip ?_
 exact hq.out):p:=h ⟨k⟩ a b
theorem gi_ {p q1 q2 c1 c2:Prop}(k1:c1->q1)(k2:c2->q2)(h:Bx (c1->q1)->Bx (c2->q2)->p:=by
 intro h1 h2
 first|(refine st_if rfl (λhb=>?_) (λhb=>?_);· (rw[hb];exact h1.out hb);· (rw[hb];exact h2.out hb))|exact aw_cond rfl h1.out h2.out):p:=h ⟨k1⟩ ⟨k2⟩
def cA {α σ ρ:Type}(f:σ->α->Option (Sum σ ρ)):σ->List α->Option (Sum σ ρ)
 |s,[]=>some (.inl s)
 |s,x::l=>match f s x with
  |none=>none
  |some (.inl s')=>cA f s' l
  |some (.inr r)=>some (.inr r)
section
variable {α σ ρ S:Type} {l:List α} {body:S->Option (Step S ρ)}
def GU (mk:σ->Int->S)(n:Nat):Option (Sum σ ρ)->Option (Sum S ρ)
 |none=>none
 |some (.inl s')=>some (.inl (mk s' n))
 |some (.inr r)=>some (.inr r)
def qf (mk:σ->Int->S)(i:Nat):Option (Sum σ ρ)->Option (Step S ρ)
 |none=>none
 |some (.inl s')=>some (.next (mk s' (i:Nat)))
 |some (.inr r)=>some (.ret r)
theorem Ir (mk:σ->Int->S)(f:σ->α->Option (Sum σ ρ))(h1:∀ (s:σ) (i:Nat) x,l[i]?=some x->body (mk s i)=qf mk (i+1) (f s x))(h2:∀ s,body (mk s l.length)=some (.exit (mk s l.length))) :
  ∀ (n i:Nat) (s:σ),i<=l.length->l.length-i<n->ao body n (mk s i)=GU mk l.length (cA f s (l.drop i))
 |0,i,s,_,h=>by omega
 |n+1,i,s,hi,hn=>by
  rw[ao];by_cases O0:i<l.length
  ·obtain⟨x,hx⟩:=gol_ O0
   have e1:=(aqp.1 hx).2;rw[h1 s i x hx,aqW O0,e1,cA]
   cases hf:f s x with
   |none=>rfl
   |some st=>cases st with
    |inl s'=>exact Ir mk f h1 h2 n (i+1) s' m0 m0
    |inr r=>rfl
  ·have:i=l.length:=m0
   subst this;rw[h2,arn];rfl
theorem bX (mk:σ->Int->S)(f:σ->α->Option (Sum σ ρ))(h1:∀ (s:σ) (i:Nat) x,l[i]?=some x->body (mk s i)=qf mk (i+1) (f s x))(h2:∀ s,body (mk s l.length)=some (.exit (mk s l.length)))(hl:l.length<fuel)(s:σ) :
  ao body fuel (mk s 0)=GU mk l.length (cA f s l):=Ir mk f h1 h2 fuel 0 s (aqL _) m0
end
theorem gn_ {α:Type}{l:List α}{i:Nat}{x:α}(h:l[i]?=some x):aF l (i:Int)=some x:=by
 unfold aF;rw[if_pos m0];exact h
theorem aO {α:Type}{l:List α}{i:Nat}{x:α}(h:l[i]?=some x):decide ((i:Int)<(l.length:Nat))=true:=by
 have:=(aqp.1 h).1;simp;exact this
theorem lF_ (n:Nat):decide ((n:Int)<(n:Nat))=false:=by simp
theorem wrapN {i:Nat}(h:i<=4611686018427387904):IntKind.i64.wrap ((i:Int)+1)=((i+1:Nat):Int):=aZ m0 m0
