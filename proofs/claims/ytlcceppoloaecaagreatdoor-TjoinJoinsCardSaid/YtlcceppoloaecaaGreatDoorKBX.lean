/- Parts of the proof, joined. No condition. -/
import Derived.Test.YtlcceppoloaecaaGreatDoorKAA
import Derived.Test.YtlcceppoloaecaaGreatDoorKAH
import Derived.Test.YtlcceppoloaecaaGreatDoorKBT
import Derived.Test.YtlcceppoloaecaaGreatDoorKBH
import Derived.Test.YtlcceppoloaecaaGreatDoorKBU
import Derived.Test.YtlcceppoloaecaaGreatDoorKBK
import Derived.Test.YtlcceppoloaecaaGreatDoorKBW
set_option linter.unusedSimpArgs false
set_option linter.unusedVariables false
namespace Go.Proofs.YtlcceppoloaecaaGreatDoor
open Go.RowKit Go.MapKept
set_option maxRecDepth 100000
def apv:TI := { We with dyn:=true }
theorem Lu:TIok Tryz.prog apv:=⟨tab_ok.size,tab_ok.agg,tab_ok.elem,tab_ok.field,tab_ok.zero,tab_ok.bytes,tab_ok.kind,tab_ok.struct,tab_ok.zok,tab_ok.eqs⟩
def xE (e:Ex):List AC:=[.int .i64 e.op, .int .i64 e.int, .int .i64 e.v.kind, .int .i64 e.v.int, .str e.v.text, .str e.nm, .lst (e.args.map tE)]
def am9:TI := { We with soft:=true }
theorem Yu:TIok Tryz.prog am9:=⟨tab_ok.size,tab_ok.agg,tab_ok.elem,tab_ok.field,tab_ok.zero,tab_ok.bytes,tab_ok.kind,tab_ok.struct,tab_ok.zok,tab_ok.eqs⟩
theorem SN : ∀ {T' T:Tm}, LD T' T -> ∀ p∈T,T'.lookup p.1=some p.2
 | T',[],_,p,hp=>by cases hp
 | T',q::T,h,p,hp=>by
  rcases aqf.1 hp with rfl|hp
  ·exact h.1
  ·exact SN h.2 p hp
theorem o_.slots {N n0:Nat} {T T':Tm} {L:List Ob} (h:LD T T'):o_ N n0 T L T' L:=o_.less fun t x hx=>SN h _ (tQ hx)
theorem aaj {p q:aP} (h:nQ p q=true):LJ p q=some (vO p q,true):=by
 obtain ⟨h1,h2,h3,h4⟩:=(Dm p q).1 h
 unfold LJ Ve
 rw [lm,apZ,h1,ap2,lm,apZ,h2,ap2,ap4 h3,ap2,ap4 h4]
 show some ((⟨PW p.lo q.lo,mnI p.hi q.hi⟩:aP),true)=_
 rw [L_,acC];rfl
theorem KG {x y:List Val} (h0:0<x.length+y.length) (h1:x.length+y.length<=1000000):FX x y=some (x++y):=by
 unfold FX ZV
 rw [ap4 h0,ap4 h1];rfl
def ZF (e:Ex) (a b:List aC) (p:eF):Option (Nat × List Val × aP):=match a[p.a.toNat]?,b[p.b.toNat]? with
 | some f,some g=>bif lY e (f.row++g.row) then some (p.a.toNat,f.row++g.row,vO f.valid g.valid) else none
 | _,_=>none
def abY {σ:Type} (nxt:σ->Nat->List Val->aP->σ) (s:σ):Option (Nat × List Val × aP)->σ
 | some (i,row,p)=>nxt s i row p
 | none=>s
def xD {σ:Type} (nxt:σ->Nat->List Val->aP->σ) (e:Ex) (a b:List aC) (l:List eF) (s:σ):σ:=l.foldl (fun s p=>abY nxt s (ZF e a b p)) s
theorem adY {σ:Type} (nxt:σ->Nat->List Val->aP->σ) (e:Ex) (a b:List aC) (l:List eF) (p:eF) (s:σ):xD nxt e a b (l++[p]) s=abY nxt (xD nxt e a b l s) (ZF e a b p):=by
 unfold xD;rw [List.foldl_append];rfl
theorem aca {α:Type} {q:α->α->Bool} {a0 b:List α} : ∀ {a pre:List α} {p:eF}, a0=pre++a->p∈fG q b a pre.length -> ∃ (i k:Nat) (x y:α),p=⟨(i:Int),(k:Int)⟩/\a0[i]?=some x/\b[k]?=some y/\q x y=true
 | [],pre,p,_,h=>by cases h
 | x::a,pre,p,h0,h=>by
  rw [fG,aqr] at h
  rcases h with h|h
  ·unfold sH at h
   obtain ⟨j,hj,rfl⟩:=aqz.1 h
   obtain ⟨y,hy,hq,h0j⟩:=acj (q x) b b [] rfl j (by simpa using hj)
   refine ⟨pre.length,j.toNat,x,y,?_,by rw [h0];simp,hy,hq⟩
   rw [Int.toNat_of_nonneg h0j]
  ·exact aca (a:=a) (pre:=pre++[x]) (by rw [h0];simp) (by simpa using h)
def GT (a b:bH) (e:Ex) (g:FuncId) (prs:List eF) (k:Nat):Tm:=[(3, .one (.clo g [.ptr 4 0])),(4, .one (.c (.ref (bD a)))),(5, .one (.c (.ref (bD b)))),(6, .one (.c (.ref (xE e)))),(19, .one (.c (.lst (prs.map m_)))),(20, .one (.c (.int .i64 prs.length))),(21, .one (.c (.int .i64 k)))]
theorem O8 (a b:bH) (e:Ex) (g:FuncId) (prs:List eF) (k:Nat):mh 20 (GT a b e g prs k):=⟨(by intro x hx;simp at hx;subst hx;show 4<20;omega),trivial,trivial,trivial,trivial,trivial,trivial,trivial⟩
def GL {σ:Type} (O:Nat->σ->Ob) (s:σ):List Ob:=K7 O s++[.dead, .dead, .dead]
theorem ao_ {x:Cap} {m n:Nat} (h:x.below m) (hn:m<=n):x.below n:=by
 cases x with
 | c _=>trivial
 | ptr id _=>exact aqD h hn
theorem svb {x:SV} {m n:Nat} (h:x.below m) (hn:m<=n):x.below n:=by
 cases x with
 | c _=>trivial
 | emp=>trivial
 | own _ _=>exact aqD h hn
 | ptr _ _=>exact aqD h hn
 | sl _ _ _ _=>exact aqD h hn
 | ep _ _ _ _=>exact aqD h hn
 | mp _=>exact aqD h hn
 | clo _ caps=>exact fun y hy=>ao_ (h y hy) hn
theorem avb {x:AV} {m n:Nat} (h:x.below m) (hn:m<=n):x.below n:=by
 cases x with
 | one _=>exact svb h hn
 | agg _=>exact fun y hy=>svb (h y hy) hn
 | tup _=>trivial
 | tupS _=>exact fun y hy=>svb (h y hy) hn
 | undef=>trivial
theorem aoq {x:Ob} {n:Nat} (h:x.below 17) (hn:17<=n):x.below n:=by
 cases x with
 | box cs=>exact fun y hy=>svb (h y hy) hn
 | spare _ _=>trivial
 | row _ es _=>exact fun e he y hy=>svb (h e he y hy) hn
 | map kvs=>exact fun p hp=>avb (h p hp) hn
 | dead=>trivial
theorem Qi {σ:Type} {O:Nat->σ->Ob} (hb : ∀ s i,i<17->(O i s).below 17) (s:σ):vJ 20 (GL O s):=by
 refine Cv fun x hx=>?_
 rcases aqr.1 hx with hx|hx
 ·exact aoq (jB (hb s) x hx) (by omega)
 ·simp at hx;subst hx;trivial
set_option maxHeartbeats 8000000 in
theorem YE {σ:Type} (O:Nat->σ->Ob) (g:FuncId) (nxt:σ->Nat->List Val->aP->σ) (ok:Nat->σ->Prop) (a b:bH) (e:Ex) (hbO : ∀ s i,i<17->(O i s).below 17)
  (hstep : ∀ n s i row p,ok n s->n<=1000000->i<a.facts.length->Run Tryz.prog g (K7 O s) [.one (.c (.int .i64 (i:Int))), .one (.c (.lst (row.map cV))), .agg ((bv p).map SV.c), .one (.ptr 4 0)] (K7 O (nxt s i row p)) (.tup [])/\ok (n+1) (nxt s i row p))
  (hmono : ∀ n s,ok n s->ok (n+1) s) (ha:a.facts.length<=1000) (hbl:b.facts.length<=1000) (hra : ∀ f∈a.facts,0<f.row.length/\f.row.length<=1000) (hrb : ∀ f∈b.facts,f.row.length<=1000) (he:lF fuel e) (s0:σ) (h0:ok 0 s0) :
  Run Tryz.prog 52 (K7 O s0) [.agg ((bD a).map SV.c), .agg ((bD b).map SV.c), .agg ((tE e).map SV.c), .one (.clo g [.ptr 4 0])] (K7 O (xD nxt e a.facts b.facts (fG (fun x y:aC=>nQ x.valid y.valid) b.facts a.facts 0) s0)) (.tup []):=by
 have hpairs:=MG a.facts b.facts ha hbl
 have hpl:(fG (fun x y:aC=>nQ x.valid y.valid) b.facts a.facts 0).length<=1000000:=Nat.le_trans (F_ _ _ _ _) (by have:=Nat.mul_le_mul ha hbl;omega)
 have hpm:=fun p=>aca (q:=fun x y:aC=>nQ x.valid y.valid) (a0:=a.facts) (b:=b.facts) (a:=a.facts) (pre:=[]) (p:=p) rfl
 generalize fG (fun x y:aC=>nQ x.valid y.valid) b.facts a.facts 0=prs at hpairs hpl hpm ⊢
 have htr : ∀ row,Pure Tryz.prog 90 [.agg (xE e), .one (.lst (row.map cV))] (.val (.one (.int .i64 (tF_ (JF e row))))):=fun row=>by
  have:=aag (Zt he row)
  rw [aL e] at this
  exact this
 rw [aL e]
 refine bP aj Tryz.func52 rfl rfl Tryz.ntmps52 (by simp) ?_
 simp only [iH,bD,ap',aqd]
 show Aw _ _ _ _ _ _ (K7 O s0)
 unfold K7
 repeat' (first
  | refine st_nil ?_
  | (refine bu 17 (ts:=bD a) rfl rfl ?_)
  | (refine bu 18 (ts:=bD b) rfl rfl ?_)
  | (refine bu 19 (ts:=xE e) rfl rfl ?_)
  | (refine aM rfl rfl rfl rfl ?_ ?_; · (repeat' (first|exact trivial|rfl|exact ap_ rfl|omega|exact aF (by intro _;rfl) _|(intro e he;simp at he;subst he;rfl)|apply And.intro)))
  | (refine aN rfl rfl rfl rfl ?_ ?_; · (repeat' (first|exact trivial|rfl|exact ap_ rfl|omega|exact aF (by intro _;rfl) _|(intro e he;simp at he;subst he;rfl)|apply And.intro)))
  | (refine sS_ rfl rfl rfl ?_ ?_; · (repeat' (first|exact trivial|rfl|exact ap_ rfl|omega|exact aF (by intro _;rfl) _|(intro e he;simp at he;subst he;rfl)|apply And.intro)))
  | (refine aO rfl rfl rfl rfl ?_ ?_; · (repeat' (first|exact trivial|rfl|exact ap_ rfl|omega|exact aF (by intro _;rfl) _|(intro e he;simp at he;subst he;rfl)|apply And.intro)))
  | refine aH rfl rfl rfl ?_
  | refine sk0_ rfl rfl ?_
  | refine aZ rfl rfl rfl rfl hpairs rfl ?_
  | (refine aV rfl (fun hb=>?_) (fun hb=>?_)<;>(first|exact (fx_ hb).elim|rw [hb]))
  | refine aw_seq ?_
  | refine aw_region Lu _ rfl ?_
  | refine aw_drawn2 tabS_ok _ rfl mixed (by decide +kernel) ?_
  | (refine aG rfl (fun hb=>?_) (fun hb=>?_)<;>(try exact (fx_ hb).elim))
  | refine aw_block ?_
  | refine aw_exit ?_
  | refine aw_ret ?_
  | refine aw_skip ?_)
 refine eH (fun k:Nat=>GT a b e g prs k) (fun k=>GL O (xD nxt e a.facts b.facts (prs.take k) s0)) (fun k=>k<=prs.length/\ok k (xD nxt e a.facts b.facts (prs.take k) s0)) (fun k=>prs.length-k) 0 ⟨aqj _,h0⟩ (fun _ _=>(by show 17<=20;omega))
  (fm_ ⟨rfl,rfl,rfl,rfl,rfl,bB (by simp),rfl,trivial⟩ [] rfl (O8 _ _ _ _ _ _) (Qi hbO _)) ?_
 rintro k ⟨hk,hok⟩
 by_cases hlt:k<prs.length
 ·obtain ⟨pr,hpr⟩:=gol_ hlt
  have hvs:xD nxt e a.facts b.facts (prs.take (k+1)) s0=abY nxt (xD nxt e a.facts b.facts (prs.take k) s0) (ZF e a.facts b.facts pr):=by rw [dw hpr,adY]
  obtain ⟨i,j,x,y,rfl,hx,hy,hov⟩:=hpm pr (ap6 hpr)
  generalize xD nxt e a.facts b.facts (prs.take k) s0=s at hok hvs ⊢
  have hix:i<a.facts.length:=(ap0.1 hx).1
  have hxr:=hra x (ap6 hx)
  have hyr:=hrb y (ap6 hy)
  have hconc:=KP (KG (x:=x.row) (y:=y.row) (by omega) (by omega))
  have hint:=aal (aaj hov)
  have htr:=htr (x.row++y.row)
  have hvf:ZF e a.facts b.facts ⟨(i:Int),(j:Int)⟩=bif lY e (x.row++y.row) then some (i,x.row++y.row,vO x.valid y.valid) else none:=by
   unfold ZF;simp only [Int.toNat_natCast,hx,hy]
  rw [hvf] at hvs
  have hst:=hstep k s i (x.row++y.row) (vO x.valid y.valid) hok (by omega) hix
  unfold lY at hvs
  unfold GT GL K7
  cases hsel:decide (tF_ (JF e (x.row++y.row))=2) with
  | false =>
   have hne:decide (tF_ (JF e (x.row++y.row))≠2)=true:=by have:=of_decide_eq_false hsel;exact ap4 this
   rw [hsel,ap1] at hvs
   repeat' (first
    | refine st_nil ?_
    | (refine bu 20 (ts:=m_ ⟨i,j⟩) rfl rfl ?_;refine alj [4,5,9] Yu [(3, .one (.clo g [.ptr 4 0])),(4, .one (.c (.ref (bD a)))),(5, .one (.c (.ref (bD b)))),(6, .one (.c (.ref (xE e)))),(9, .one (.c (.ref (m_ ⟨i,j⟩)))),(10, .one (.c (.ref (aU x)))),(11, .one (.c (.ref (aU y)))),(19, .one (.c (.lst (prs.map m_)))),(20, .one (.c (.int .i64 prs.length))),(21, .one (.c (.int .i64 k)))] (K7 O s++[.dead, .dead, .dead, .dead, .dead, .dead]) 12 (by decide) (by decide) mixed (by decide +kernel) (by decide +kernel) rfl ?_ ?_ ?_)
    | (refine (o_.box 21 rfl rfl).trans ((o_.box 22 rfl rfl).trans (o_.slots ?_));exact ⟨rfl,rfl,rfl,rfl,rfl,rfl,rfl,rfl,rfl,rfl,trivial⟩)
    | (refine dm rfl rfl rfl rfl rfl rfl rfl rfl (cZ hx) ?_ ?_; · exact ⟨Int.natCast_nonneg _,rfl⟩)
    | (refine dm rfl rfl rfl rfl rfl rfl rfl rfl (cZ hy) ?_ ?_; · exact ⟨Int.natCast_nonneg _,rfl⟩)
    | rw [hne]
    | (refine aM rfl rfl rfl rfl ?_ ?_; · (repeat' (first|exact trivial|rfl|exact ap_ rfl|omega|exact aF (by intro _;rfl) _|(intro e he;simp at he;subst he;rfl)|apply And.intro)))
    | (refine dm rfl rfl rfl rfl rfl rfl rfl rfl (cZ hpr) ?_ ?_; · exact ⟨by omega,rfl⟩)
    | (refine aN rfl rfl rfl rfl ?_ ?_; · (repeat' (first|exact trivial|rfl|exact ap_ rfl|omega|exact aF (by intro _;rfl) _|(intro e he;simp at he;subst he;rfl)|apply And.intro)))
    | (refine sS_ rfl rfl rfl ?_ ?_; · (repeat' (first|exact trivial|rfl|exact ap_ rfl|omega|exact aF (by intro _;rfl) _|(intro e he;simp at he;subst he;rfl)|apply And.intro)))
    | (refine aO rfl rfl rfl rfl ?_ ?_; · (repeat' (first|exact trivial|rfl|exact ap_ rfl|omega|exact aF (by intro _;rfl) _|(intro e he;simp at he;subst he;rfl)|apply And.intro)))
    | refine aH rfl rfl rfl ?_
    | refine sk0_ rfl rfl ?_
    | refine aZ rfl rfl rfl rfl hconc rfl ?_
    | refine aZ rfl rfl rfl rfl htr rfl ?_
    | refine aZ rfl rfl rfl rfl hint rfl ?_
    | (refine aV rfl (fun hb=>?_) (fun hb=>?_)<;>(first|exact (fx_ hb).elim|rw [hb]))
    | refine aw_seq ?_
    | refine aw_region Lu _ rfl ?_
    | refine aw_drawn2 tabS_ok _ rfl mixed (by decide +kernel) ?_
    | (refine aG rfl (fun hb=>?_) (fun hb=>?_)<;>(try exact (fx_ hb).elim))
    | refine aw_block ?_
    | refine aw_exit ?_
    | refine aw_ret ?_
    | refine aw_skip ?_)
   exact ⟨k+1,⟨by omega,by rw [hvs];exact hmono _ _ hok⟩,by omega,fm_ ⟨rfl,rfl,rfl,rfl,rfl,rfl,bB (bF (by omega) (by omega)),trivial⟩ [_,_,_] (by rw [hvs];rfl) (O8 _ _ _ _ _ _) (Qi hbO _)⟩
  | true =>
   have hne:decide (tF_ (JF e (x.row++y.row))≠2)=false:=by have:=aqs hsel;rw [this];rfl
   rw [hsel,ap2] at hvs
   have hvs:xD nxt e a.facts b.facts (prs.take (k+1)) s0=nxt s i (x.row++y.row) (vO x.valid y.valid):=hvs
   repeat' (first
    | refine st_nil ?_
    | (refine bu 20 (ts:=m_ ⟨i,j⟩) rfl rfl ?_;refine alj [4,5,9] Yu [(3, .one (.clo g [.ptr 4 0])),(4, .one (.c (.ref (bD a)))),(5, .one (.c (.ref (bD b)))),(6, .one (.c (.ref (xE e)))),(9, .one (.c (.ref (m_ ⟨i,j⟩)))),(10, .one (.c (.ref (aU x)))),(11, .one (.c (.ref (aU y)))),(19, .one (.c (.lst (prs.map m_)))),(20, .one (.c (.int .i64 prs.length))),(21, .one (.c (.int .i64 k)))] (K7 O s++[.dead, .dead, .dead, .dead, .dead, .dead]) 12 (by decide) (by decide) mixed (by decide +kernel) (by decide +kernel) rfl ?_ ?_ ?_)
    | (refine (o_.box 21 rfl rfl).trans ((o_.box 22 rfl rfl).trans (o_.slots ?_));exact ⟨rfl,rfl,rfl,rfl,rfl,rfl,rfl,rfl,rfl,rfl,trivial⟩)
    | (refine dm rfl rfl rfl rfl rfl rfl rfl rfl (cZ hx) ?_ ?_; · exact ⟨Int.natCast_nonneg _,rfl⟩)
    | (refine dm rfl rfl rfl rfl rfl rfl rfl rfl (cZ hy) ?_ ?_; · exact ⟨Int.natCast_nonneg _,rfl⟩)
    | rw [hne]
    | (refine Jy 17 (K7 O s) (K7 O (nxt s i (x.row++y.row) (vO x.valid y.valid))) [.dead, .dead, .dead, .dead, .dead, .dead, .box ((bv (vO x.valid y.valid)).map SV.c)] rfl rfl rfl rfl rfl hst.1 rfl rfl (jB (hbO _)) (jB (hbO _)) (dE ⟨trivial,trivial,(fun z hz=>by have hz:z∈(bv (vO x.valid y.valid)).map SV.c:=hz;obtain ⟨w,_,rfl⟩:=aqz.1 hz;trivial),(by show 4<17;omega),trivial⟩) ?_)
    | (refine aM rfl rfl rfl rfl ?_ ?_; · (repeat' (first|exact trivial|rfl|exact ap_ rfl|omega|exact aF (by intro _;rfl) _|(intro e he;simp at he;subst he;rfl)|apply And.intro)))
    | (refine dm rfl rfl rfl rfl rfl rfl rfl rfl (cZ hpr) ?_ ?_; · exact ⟨by omega,rfl⟩)
    | (refine aN rfl rfl rfl rfl ?_ ?_; · (repeat' (first|exact trivial|rfl|exact ap_ rfl|omega|exact aF (by intro _;rfl) _|(intro e he;simp at he;subst he;rfl)|apply And.intro)))
    | (refine sS_ rfl rfl rfl ?_ ?_; · (repeat' (first|exact trivial|rfl|exact ap_ rfl|omega|exact aF (by intro _;rfl) _|(intro e he;simp at he;subst he;rfl)|apply And.intro)))
    | (refine aO rfl rfl rfl rfl ?_ ?_; · (repeat' (first|exact trivial|rfl|exact ap_ rfl|omega|exact aF (by intro _;rfl) _|(intro e he;simp at he;subst he;rfl)|apply And.intro)))
    | refine aH rfl rfl rfl ?_
    | refine sk0_ rfl rfl ?_
    | refine aZ rfl rfl rfl rfl hconc rfl ?_
    | refine aZ rfl rfl rfl rfl htr rfl ?_
    | refine aZ rfl rfl rfl rfl hint rfl ?_
    | (refine aV rfl (fun hb=>?_) (fun hb=>?_)<;>(first|exact (fx_ hb).elim|rw [hb]))
    | refine aw_seq ?_
    | refine aw_region Lu _ rfl ?_
    | refine aw_drawn2 tabS_ok _ rfl mixed (by decide +kernel) ?_
    | (refine aG rfl (fun hb=>?_) (fun hb=>?_)<;>(try exact (fx_ hb).elim))
    | refine aw_block ?_
    | refine aw_exit ?_
    | refine aw_ret ?_
    | refine aw_skip ?_)
   exact ⟨k+1,⟨by omega,by rw [hvs];exact hst.2⟩,by omega,fm_ ⟨rfl,rfl,rfl,rfl,rfl,rfl,bB (bF (by omega) (by omega)),trivial⟩ [_,_,_,_] (by rw [hvs];rfl) (O8 _ _ _ _ _ _) (Qi hbO _)⟩
 ·have hk2:k=prs.length:=by omega
  subst hk2
  rw [List.take_length]
  unfold GT GL
  repeat' (first
   | refine st_nil ?_
   | (refine aM rfl rfl rfl rfl ?_ ?_; · (repeat' (first|exact trivial|rfl|exact ap_ rfl|omega|exact aF (by intro _;rfl) _|(intro e he;simp at he;subst he;rfl)|apply And.intro)))
   | (refine aN rfl rfl rfl rfl ?_ ?_; · (repeat' (first|exact trivial|rfl|exact ap_ rfl|omega|exact aF (by intro _;rfl) _|(intro e he;simp at he;subst he;rfl)|apply And.intro)))
   | (refine sS_ rfl rfl rfl ?_ ?_; · (repeat' (first|exact trivial|rfl|exact ap_ rfl|omega|exact aF (by intro _;rfl) _|(intro e he;simp at he;subst he;rfl)|apply And.intro)))
   | (refine aO rfl rfl rfl rfl ?_ ?_; · (repeat' (first|exact trivial|rfl|exact ap_ rfl|omega|exact aF (by intro _;rfl) _|(intro e he;simp at he;subst he;rfl)|apply And.intro)))
   | refine aH rfl rfl rfl ?_
   | refine sk0_ rfl rfl ?_
   | (refine aV rfl (fun hb=>?_) (fun hb=>?_)<;>(first|exact (fx_ hb).elim|rw [hb]))
   | refine aw_seq ?_
   | refine aw_region Lu _ rfl ?_
   | refine aw_drawn2 tabS_ok _ rfl mixed (by decide +kernel) ?_
   | (refine aG rfl (fun hb=>?_) (fun hb=>?_)<;>(try exact (fx_ hb).elim))
   | refine aw_block ?_
   | refine aw_exit ?_
   | refine aw_ret ?_
   | refine aw_skip ?_)
  exact ⟨.inl rfl,⟨.inr ⟨.tup [],⟨trivial,rfl⟩,rfl⟩,⟨_,rfl⟩,aqe _,fun x hx=>jB (hbO _) x hx,trivial⟩⟩
end Go.Proofs.YtlcceppoloaecaaGreatDoor
