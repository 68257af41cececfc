/- Parts of the proof, joined. No condition. -/
import Derived.Test.YtngehibfdjdejaaGreatDoorKAH
import Derived.Maps.RangeRun
set_option linter.unusedSimpArgs false
set_option linter.unusedVariables false
namespace Go.Proofs.YtngehibfdjdejaaGreatDoor
open Go.RowKit
def yCall (ρ:Operand→Option AV):Op→Option (Nat × AV)
 | .call { callee := .value f,args, .. } => match ρ f,args.toList with
  | some (.one (.c (.nul (.yld l)))),[x]=>match ρ x with
   | some v=>some (l,v)
   | none=>none
  | _,_=>none
 | _=>none
def evY (cx:Cx) (ti:TI) (cp:CP) (cr:CR) (f:FuncId) (N:Nat) (rd:AV→List Ob→Option (List Ob)):List Oper→Tm→List Ob→Option (Tm × List Ob × List Nat)
 | [],T,L=>some (T,L,[])
 | o::rest,T,L=>match dOKb N o.dst,o.guard,ndB o.op with
  | true,none,true=>match yCall (look T) o.op with
   | some (l,v)=>match rd v L with
    | some L'=>match evY cx ti cp cr f N rd rest (putT T o.dst (.one (.c (.bool true)))) L' with
     | some (T2,L2,ls)=>some (T2,L2,l::ls)
     | none=>none
    | none=>none
   | none=>match evOp cx ti cp cr (rowOf cx f o.dst) (look T) L o.op with
    | some (v,L')=>evY cx ti cp cr f N rd rest (putT T o.dst v) L'
    | none=>none
  | _,_,_=>none
def RdOK (P:Program) (l:Nat) (Φ:(Nat→Prop)→List Gh→World→Prop) (rd:AV→List Ob→Option (List Ob)):Prop :=
 ∀ v L L',rd v L=some L' → ∀ B R γ w u,Φ B γ w→Inv B R γ L w→v.rep R γ L u →
  ∃ fn tmps assign body,(Instr.yield l #[u]).run P w = .ok (.round l fn tmps assign body) w ∧
   RoundIn Fence.wide 0 P l fn tmps assign body w (fun e w'=>e = .returned (.bool true) ∧ ∃ R' γ',Inv B R' γ' L' w'∧Ext B R R' w w'∧Mv R R' γ γ' L L')
section
variable {cx:Cx} {ti:TI} {cp:CP} {cr:CR} {f:FuncId} {N n0 l:Nat} {rd:AV→List Ob→Option (List Ob)} {Φ:(Nat→Prop)→List Gh→World→Prop}
theorem evY_ok (hti:TIok cx.P ti) (hne:ExtsOK cx.P cx.xs) (hcp : ∀ g ps r,cp g ps=some r→Pure cx.P g ps r) (hcr : ∀ g L asx L1 r,cr g L asx=some (L1,r)→RunAll cx.P g L asx L1 r)
  (hrd:RdOK cx.P l Φ rd) (hΦ:Stay n0 Φ) {ops:Array Oper} {B:Nat→Prop} {T':Tm} {L':List Ob} {Q:Exit→Act→World→Prop} : ∀ (os:List Oper) (ls:List Nat) (R:PH) (γ:List Gh) (L:List Ob) (T:Tm) (a:Act) (w:World),
  evY cx ti cp cr f N rd os T L=some (T',L',ls)→(∀ y∈ls,y=l)→n0≤L.length→Φ B γ w→Inv B R γ L w→TRep N R γ L T a →
  (∀ R' γ' w' a',Inv B R' γ' L' w'→TRep N R' γ' L' T' a'→Ext B R R' w w'→Mv R R' γ γ' L L'→Q .normal a' w')→wpListIn Fence.wide 0 cx.P ops Q os a w
 | [],ls,R,γ,L,T,a,w,h,_,_,_,hi,hT,hQ=>by cases h;exact hQ R γ w a hi hT (Ext.refl _ _ _) Mv.refl
 | o::rest,ls,R,γ,L,T,a,w,h,hl,hn,h0,hi,hT,hQ=>by
  unfold evY at h
  split at h
  ·rename_i hd hg hnd
   unfold wpListIn
   rw [if_pos (show Region.wanted o (yielded ops a.tmps)=true by simp [Region.wanted,hg])]
   split at h
   ·rename_i l' v hy
    split at h
    ·rename_i L1 hr
     split at h
     ·rename_i T2 L2 ls2 h2
      cases h
      have hll:l'=l:=hl _ (List.mem_cons_self ..)
      obtain ⟨dst,op,type,pos,after,guard⟩:=o
      simp only at hy hd hg hnd h2
      rw [hll] at hy
      unfold yCall at hy
      split at hy
      ·rename_i fv args argTypes
       split at hy
       ·rename_i l2 x hf hargs
        split at hy
        ·rename_i v2 hx
         injection hy with hy
         injection hy with e1 e2
         rw [e1] at hf
         subst e2
         have hfv:=look_rep hT hf
         have hxv:=look_rep hT hx
         obtain ⟨fn,tmps,assign,body,hy,hR⟩:=hrd _ _ _ hr B R γ w (a.eval x) h0 hi hxv
         have hev:a.eval fv = .func (.yield l) #[] #[]:=by
          generalize a.eval fv=z at hfv
          cases hfv with
          | nul _ _ e=>exact e
         have ha:args = #[x]:=by cases args;simp at hargs;rw [hargs]
         subst ha
         refine ⟨fun _ _=>trivial,?_⟩
         have hrun:(execOp a.eval { dst,op := .call { callee := .value fv,args := #[x],argTypes }, type,pos,after,guard }).run cx.P w = .ok (.round l fn tmps assign body) w:=by
          simp only [execOp,resolve,hev,Deferred.ofValue,Sem.run_bind,Sem.run_pure,Result.andThen_ok,invoke,callFunc,program,Sem.run]
          simpa using hy
         rw [show Fence.wide.round=none from rfl,Oper.semAt_none,hrun]
         refine ⟨fun e=>(by cases e),hR.mono ?_⟩
         rintro e w' ⟨rfl,R',γ',i',x',m'⟩
         refine evY_ok hti hne hcp hcr hrd hΦ rest ls2 R' γ' L1 _ _ w' h2 (fun y hy=>hl y (List.mem_cons_of_mem _ hy)) (Nat.le_trans hn m'.len) (hΦ _ _ _ _ _ _ _ _ _ _ h0 (fun _ h=>h) x' (MvN.of hn m')) i' (trep_put (hT.mv m') (dOKb_of hd) (PRep.bool true)) ?_
         exact fun R2 γ2 w2 a2 k2 k3 k4 k5=>hQ R2 γ2 w2 a2 k2 k3 (x'.trans k4) (m'.trans k5)
        ·cases hy
       ·cases hy
      ·cases hy
     ·cases h
    ·cases h
   ·split at h
    ·rename_i v L1 h1
     have hop:=evOp_ok (K:=fun v' L'=>v'=v∧L'=L1) hti hne hcp hcr h1 ⟨rfl,rfl⟩
     have:=op_in (F:=Fence.wide) (n:=0) (ds:=a.defers) (Q:=Q) (next:=wpListIn Fence.wide 0 cx.P ops Q rest) (.inl rfl) hnd (awOp_sound hti hi (fun x v hx=>look_rep hT hx) hop (next:=fun a' w'=>(∃ u,a'=a.put o.dst u)∧wpListIn Fence.wide 0 cx.P ops Q rest { a' with defers:=a.defers } w') (Q:=fun _ _ _=>False) fun v' L'' R' γ' w' u hk h1' h2 h3 h4=>⟨⟨u,rfl⟩,?_⟩)
     ·exact this
     ·obtain ⟨rfl,rfl⟩:=hk
      have e:({ a.put o.dst u with defers:=a.defers } : Act)=a.put o.dst u:=by cases o.dst<;>rfl
      rw [e]
      exact evY_ok hti hne hcp hcr hrd hΦ rest ls R' γ' _ _ _ w' h hl (Nat.le_trans hn h3.len) (hΦ _ _ _ _ _ _ _ _ _ _ h0 (fun _ h=>h) h2 (MvN.of hn h3)) h1' (trep_put (hT.mv h3) (dOKb_of hd) h4) fun R2 γ2 w2 a2 k2 k3 k4 k5=>hQ R2 γ2 w2 a2 k2 k3 (h2.trans k4) (h3.trans k5)
    ·cases h
  ·cases h
end
def pslT (N:Nat) (T:Tm):Tm:=(List.range N).filterMap fun t=>match T.lookup t with
 | some (.one (.ptr id off))=>some (t, .one (.ptr id off))
 | _=>none
theorem pslT_spec {N:Nat} {T:Tm} {t:Nat} {x:AV} (h:(pslT N T).lookup t=some x):T.lookup t=some x ∧ ∃ id off,x = .one (.ptr id off):=by
 have h1:=lookup_mem h
 unfold pslT at h1
 rw [List.mem_filterMap] at h1
 obtain ⟨i,_,h2⟩:=h1
 split at h2
 ·rename_i id off h3;cases h2;exact ⟨h3,id,off,rfl⟩
 ·cases h2
def noSP:SP Nat:=fun _ _ _=>none
def rdE (cx:Cx) (cp:CP) (cr:CR) (f:FuncId) (N:Nat) (p:Tmp) (assign body:Code) (T0:Tm):AV→List Ob→Option (List Ob):=fun v L =>
 match evG cx cp cr false noSP f N assign ((p,v)::T0) L with
 | some (.normal,T1,L1,_)=>match evG cx cp cr false noSP f N body T1 L1 with
  | some (.normal,_,L2,_)=>some L2
  | _=>none
 | _=>none
def PhiY (n0 l:Nat) (r:Loop) (T0:Tm):(Nat→Prop)→List Gh→World→Prop:=fun B γ w =>
 B l∧w.heap[l]?=some (.loop r) ∧ ∀ t id off,T0.lookup t=some (.one (.ptr id off))→id<n0 ∧ ∃ b,r.tmps[t]?=some (.pointer (some ⟨b,off,none⟩))∧γ[id]?=some (.box b)
theorem phiY_stay {n0 l:Nat} {r:Loop} {T0:Tm} : Stay n0 (PhiY n0 l r T0):=by
 rintro B B' R R' γ γ' L L' w w' ⟨h1,h2,h3⟩ hB he hm
 refine ⟨hB _ h1,(he.below.block l h1).trans h2,fun t id off ht=>?_⟩
 obtain ⟨h4,b,h5,h6⟩:=h3 t id off ht
 exact ⟨h4,b,h5,hm.mv.ptr id b (by rw [List.getElem?_take,if_pos h4];exact h6)⟩
theorem stay_true {n0:Nat} : Stay n0 (fun _ _ _=>True):=fun _ _ _ _ _ _ _ _ _ _ _ _ _ _=>trivial
section
variable {cx:Cx} {cp:CP} {cr:CR}
theorem rdE_ok (hx:CxOK cx) (hcp : ∀ g ps r,cp g ps=some r→Pure cx.P g ps r) (hcr : ∀ g L asx L1 r,cr g L asx=some (L1,r)→RunAll cx.P g L asx L1 r)
  {f fn:FuncId} {N n0 l D:Nat} {p:Tmp} {assign body:Code} {T0:Tm} {tmps:Array Value} (hsz:tmps.size=N) (hp:p<N) (hT0 : ∀ t x,T0.lookup t=some x → ∃ id off,x = .one (.ptr id off)) :
  RdOK cx.P l (PhiY n0 l { state := .ready,pending:=none,fn,tmps,params := #[p],assign,body,defers:=D } T0) (rdE cx cp cr f N p assign body T0):=by
 intro v L L' h B R γ w u hΦ hi hu
 unfold rdE at h
 split at h
 ·rename_i T1 L1 g1 h1
  split at h
  ·rename_i T2 L2 g2 h2
   cases h
   obtain ⟨hB,hl,hptr⟩:=hΦ
   have hFW:FW (Fence.wide.inRound l) := .inr ⟨l,rfl⟩
   have hsp : ∀ (n0:Nat) c T L x T' L' (g:List Nat),noSP c T L=some (x,T',L',g)→(∀ e∈g,True)→AwG (Fence.wide.inRound l) cx.P false N n0 (fun _ _ _=>True) c (AtE x T' L') T L:=fun _ _ _ _ _ _ _ _ e=>by cases e
   have hA:=evG_ok (F:=Fence.wide.inRound l) (D:=false) (n0:=L.length) (Φ:=fun _ _ _=>True) (Ok:=fun _:Nat=>True) hFW stay_true (fun e=>by cases e) hx hcp hcr (hsp _) (fun e=>by cases e) h1 (fun _ _=>trivial)
   have hC:=evG_ok (F:=Fence.wide.inRound l) (D:=false) (n0:=L.length) (Φ:=fun _ _ _=>True) (Ok:=fun _:Nat=>True) hFW stay_true (fun e=>by cases e) hx hcp hcr (hsp _) (fun e=>by cases e) h2 (fun _ _=>trivial)
   refine ⟨_,_,_,_,run_yield hl rfl,roundIn_of_wpIn trivial ?_⟩
   have hTr:TRep N R γ L ((p,v)::T0) { tmps:=((#[p]:Array Tmp).zip #[u]).foldl (fun tmps (t,a)=>tmps.setIfInBounds t a) tmps,defers:=[] } := by
    have h0:TRep N R γ L T0 { tmps:=tmps,defers:=[] } := by
     refine ⟨hsz,rfl,fun t x ht=>?_⟩
     obtain ⟨id,off,rfl⟩:=hT0 t x ht
     obtain ⟨_,b,h5,h6⟩:=hptr t id off ht
     exact ⟨_,h5,b,rfl,h6⟩
    have hz:((#[p]:Array Tmp).zip #[u]).foldl (fun tmps (t,a)=>tmps.setIfInBounds t a) tmps=tmps.setIfInBounds p u:=by first|rfl|simp
    rw [hz]
    exact trep_put (d:=some p) h0 hp hu
   refine wpIn_mono (hA (Nat.le_refl _) w.heap.size B R γ w _ trivial hi hTr ⟨fun _=>rfl,Nat.le_refl _,List.nodup_nil,fun d h=>by cases h⟩) ?_
   rintro e a1 w1 ⟨x,T1',L1',R1,γ1,B1,rfl,⟨rfl,rfl,rfl⟩,b1,i1,t1,d1,e1,m1⟩
   have hl1:=(e1.below.block l hB).trans hl
   refine ⟨_,run_beginRound hl1 rfl,?_⟩
   refine wpIn_mono (hC m1.lo' w.heap.size B1 R1 γ1 _ a1 trivial (i1.putObj (nocell_loop hl1) (b1 l hB)) t1 ⟨d1.no,by rw [World.putObj_size];exact d1.le,d1.nd,fun d hd=>by rw [d1.no rfl] at hd;cases hd⟩) ?_
   rintro e a2 w3 ⟨x,T2',L2',R2,γ2,B2,rfl,⟨rfl,rfl,rfl⟩,b2,i3,t3,d3,e3,m3⟩
   have hl3:=(e3.below.block l (b1 l hB)).trans (World.putObj_heap_same (Array.getElem?_eq_some_iff.1 hl1).1)
   refine ⟨_,_,run_endRound none hl3,rfl,R2,γ2,(i3.putObj (nocell_loop hl3) (b2 l (b1 l hB))).anti (fun b hb=>b2 b (b1 b hb)),⟨⟨?_,?_,?_,?_,?_⟩,PH.sub_trans e1.sub e3.sub,fun b o hb=>(e3.old b o (b1 b hb)).trans (e1.old b o hb)⟩,?_⟩
   ·exact e3.below.os.trans e1.below.os
   ·exact e3.below.tape.trans e1.below.tape
   ·exact e3.below.output.trans e1.below.output
   ·have h1:=e1.below.size;have h2:=e3.below.size;rw [World.putObj_size] at h2 ⊢;omega
   ·intro b hb
    by_cases e:b=l
    ·subst e
     exact (World.putObj_heap_same (Array.getElem?_eq_some_iff.1 hl3).1).trans hl.symm
    ·exact (World.putObj_heap_other e).trans ((e3.below.block b (b1 b hb)).trans ((World.putObj_heap_other e).trans (e1.below.block b hb)))
   ·have:=(m1.trans hi.len m3).mv
    rw [List.take_of_length_le (Nat.le_refl _),List.take_of_length_le (by rw [hi.len];exact Nat.le_refl _)] at this
    exact this
  ·cases h
 ·cases h
def isY0:List Oper→Bool
 | o::_=>match o.op with
  | .move (.tmp t)=>Nat.beq t 0
  | _=>false
 | []=>false
def spY (cx:Cx) (cp:CP) (cr:CR) (f:FuncId) (N:Nat) (rd:AV→List Ob→Option (List Ob)):SP Nat:=fun c T L=>match c with
 | .region id ops false=>match isY0 ops.toList with
  | true=>match evY cx (tiOf cx f id false) cp cr f N rd ops.toList T L with
   | some (T',L',ls)=>some (.normal,T',L',ls)
   | none=>none
  | false=>none
 | _=>none
theorem spY_ok (hx:CxOK cx) (hcp : ∀ g ps r,cp g ps=some r→Pure cx.P g ps r) (hcr : ∀ g L asx L1 r,cr g L asx=some (L1,r)→RunAll cx.P g L asx L1 r)
  {f:FuncId} {N n0 l:Nat} {rd:AV→List Ob→Option (List Ob)} {Φ:(Nat→Prop)→List Gh→World→Prop} (hrd:RdOK cx.P l Φ rd) (hΦ:Stay n0 Φ) :
  ∀ c T L x T' L' g,spY cx cp cr f N rd c T L=some (x,T',L',g)→(∀ e∈g,e=l)→AwG Fence.wide cx.P false N n0 Φ c (AtE x T' L') T L:=by
 intro c T L x T' L' g h hg
 unfold spY at h
 split at h
 ·rename_i id ops
  split at h
  ·split at h
   ·rename_i h1
    cases h
    intro hn s B R γ w a h0 hi hT hd
    have ha:({ a with defers:=[] } : Act)=a:=by have:=hd.no rfl;cases a;simp_all
    rw [ha] at hT
    refine wpIn_region_list (evY_ok (tiOf_ok hx f id false) hx.ne hcp hcr hrd hΦ _ _ R γ L T a w h1 hg hn h0 hi hT ?_)
    intro R' γ' w' a' k1 k2 k3 k4
    exact ⟨.normal,_,_,R',γ',B,rfl,⟨rfl,rfl,rfl⟩,fun _ h=>h,k1,⟨k2.size,rfl,k2.slot⟩,by rw [k2.defers];exact ⟨fun _=>rfl,Nat.le_trans hd.le k3.below.size,List.nodup_nil,fun d h=>by cases h⟩,k3,MvN.of hn k4⟩
   ·cases h
  ·cases h
 ·cases h
def cutO (n:Nat) (L:List Ob):Option (List Ob) :=
 match obsBB n (L.take n) with
 | true=>some (L.take n)
 | false=>match obsBB L.length L with
  | true=>some L
  | false=>none
theorem cutO_spec {n:Nat} {L L':List Ob} (h:cutO n L=some L') (hn:n≤L.length):(∃ G,L=L'++G)∧n≤L'.length ∧ ∀ x∈L',x.below L'.length:=by
 unfold cutO at h
 split at h
 ·rename_i hb
  cases h
  have e:(L.take n).length=n:=by rw [List.length_take];omega
  exact ⟨⟨L.drop n,(List.take_append_drop _ _).symm⟩,Nat.le_of_eq e.symm,by rw [e];exact obsBB_of hb⟩
 ·split at h
  ·rename_i hb;cases h;exact ⟨⟨[],by simp⟩,hn,obsBB_of hb⟩
  ·cases h
def itE (cx:Cx) (cp:CP) (cr:CR) (f:FuncId) (e:Ent) (l:Nat):Option (List Ob × List Nat) :=
 match look e.T e.g,e.ps.toList with
 | some (.one (.clo gf caps)),[p]=>match cx.P.funcs[gf]? with
  | some fn=>match fn.body,fn.results.toList,cx.bad gf,Nat.ble (caps.length+1) fn.ntmps,Nat.blt p e.N with
   | some c,[],false,true,true =>
    match evG cx cp cr true (spY cx cp cr gf fn.ntmps (rdE cx cp cr f e.N p e.assign e.body (pslT e.N e.T))) gf fn.ntmps c (argA 0 (.one (.c (.nul (.yld l)))::caps.map Cap.av)) e.L with
    | some (x,_,L1,ls)=>match isEnd x,Nat.ble e.L.length L1.length,cutO e.L.length L1 with
     | true,true,some L'=>some (L',ls)
     | _,_,_=>none
    | none=>none
   | _,_,_,_,_=>none
  | none=>none
 | _,_=>none
end
section
variable {cx:Cx} {cp:CP} {cr:CR}
theorem Cap.av_rep {R:PH} {γ:List Gh} {L:List Ob} {x:Cap} {v:Value} (h:x.rep R γ v):x.av.rep R γ L v:=by
 cases x with
 | c x=>exact h
 | ptr id off=>exact h
theorem awG_range (hx:CxOK cx) (hcp : ∀ g ps r,cp g ps=some r→Pure cx.P g ps r) (hcr : ∀ g L asx L1 r,cr g L asx=some (L1,r)→RunAll cx.P g L asx L1 r)
  {e:Ent} {f:FuncId} {n0 k:Nat} {L':List Ob} {Φ:(Nat→Prop)→List Gh→World→Prop} (hit : ∀ l,itE cx cp cr f e l=some (L',List.replicate k l)) :
  AwG Fence.wide cx.P true e.N n0 Φ (.rangeFunc e.g e.ps e.assign e.body) (AtE .normal e.T L') e.T e.L:=by
 intro hn s B R γ w a _ hi hT hd
 have h:=hit (w.heap.size+1)
 unfold itE at h
 split at h
 ·rename_i gf caps p hlook hps
  split at h
  ·rename_i fn hf
   split at h
   ·rename_i c hb hres hbad hle hp
    split at h
    ·rename_i x T1 L1 ls hev
     split at h
     ·rename_i L3 hend hlen hbb
      injection h with h
      injection h with hL hls
      rw [hL] at hbb
      have hv:=look_rep hT hlook
      obtain ⟨vs,hvv,hsz,hcap⟩:=hv
      have hev':a.eval e.g = .func (.func gf) #[] vs:=by
       rw [← hvv];cases e.g<;>rfl
      have hps':e.ps = #[p]:=by cases hq:e.ps;rw [hq] at hps;simp at hps;rw [hps]
      refine wpIn_rangeFunc ?_
      intro fnid _
      obtain ⟨r,hr⟩ : ∃ r:Loop,r = { state := .ready,pending:=none,fn:=fnid,tmps:=a.tmps,params := #[p],assign:=e.assign,body:=e.body,defers:=w.heap.size } := ⟨_,rfl⟩
      obtain ⟨W1,hW1⟩ : ∃ W1,(w.alloc (.deferred (some []))).alloc (.loop r)=W1:=⟨_,rfl⟩
      have hS1:W1.heap.size=w.heap.size+2:=by rw [← hW1];simp
      have hL1:W1.heap[w.heap.size+1]?=some (.loop r):=by
       rw [← hW1];have:=World.alloc_heap_new (w.alloc (.deferred (some []))) (.loop r);rwa [World.size_alloc] at this
      have hK1:W1.heap[w.heap.size]?=some (.deferred (some [])):=by
       rw [← hW1];exact (heap_old _ _ (by simp)).trans (World.alloc_heap_new w _)
      have hE1:Ext (· < w.heap.size) R R w W1:=by
       rw [← hW1]
       exact ⟨(Kept.alloc (fun _ h=>h) _).trans (Kept.alloc (fun b h=>by simp at h ⊢;omega) _),PH.sub_refl _,fun _ _ _=>rfl⟩
      obtain ⟨i1,x1⟩:=hi.later hE1 (fun b o u hu=>(World.cell?_of_block (hE1.below.block b (lt_of_cell (hi.val b o u hu)))).trans (hi.val b o u hu))
      have i2:Inv (fun b=>B b∨b=w.heap.size∨b=w.heap.size+1) R γ e.L W1 :=
       ⟨i1.len,i1.val,i1.obj,i1.inj,fun i g b hg hb=>⟨fun h=>by have h1:=hi.new i g b hg hb;rcases h with h|h|h<;>first|exact h1.1 h|omega,(i1.new i g b hg hb).2⟩,
        fun b h=>by rcases h with h|h|h<;>first|(have:=i1.bsz b h;omega)|omega⟩
      refine ⟨w.heap.size+1,[{ target := .collected w.heap.size,args := #[] }],W1, { target := .fn (.func gf) vs,args := #[.func (.yield (w.heap.size+1)) #[] #[]] }, W1,gf,
       #[.func (.yield (w.heap.size+1)) #[] #[]]++vs,W1,?_,?_,fun _ _=>trivial,?_,fun e=>(by cases e),?_⟩
      ·rw [← hW1,hr,hps'];exact run_enterLoop_outer _ _ _ _ _
      ·simp only [resolve,hev']
       simp [go_sem,Act.eval]
      ·have hname : fn.name ≠ "runtime.NumGoroutine" := by simpa using hx.name _ _ hf
       simp [invoke,callFunc,hf,hname,hb,mark,go_sem]
      ·refine callsIn_of_wp hf hb trivial ?_
       have hpl:p<e.N:=Nat.le_of_ble_eq_true hp
       have hT0 : ∀ t x,(pslT e.N e.T).lookup t=some x → ∃ id off,x = .one (.ptr id off):=fun t x h=>(pslT_spec h).2
       have hrd:=rdE_ok (l:=w.heap.size+1) (n0:=e.L.length) (D:=w.heap.size) (fn:=fnid) (f:=f) (assign:=e.assign) (body:=e.body) (T0:=pslT e.N e.T) (tmps:=a.tmps) hx hcp hcr hT.size hpl hT0
       rw [← hr] at hrd
       have hA:=evG_ok (F:=Fence.wide) (D:=false) (n0:=e.L.length) (Φ:=PhiY e.L.length (w.heap.size+1) r (pslT e.N e.T)) (Ok:=fun y=>y=w.heap.size+1) (.inl rfl) phiY_stay (fun _=>⟨rfl,rfl⟩) hx hcp hcr
        (spY_ok hx hcp hcr hrd phiY_stay) (fun _=>hx.code gf fn c hf hb hbad) hev (by intro y hy;rw [hls] at hy;exact List.eq_of_mem_replicate hy)
       have hT1:TRep fn.ntmps R γ e.L (argA 0 (.one (.c (.nul (.yld (w.heap.size+1))))::caps.map Cap.av)) { tmps:=(#[.func (.yield (w.heap.size+1)) #[] #[]]++vs)++Array.replicate (fn.ntmps-(#[Value.func (.yield (w.heap.size+1)) #[] #[]]++vs).size) Go.undef,defers:=[] } := by
        have hle:=Nat.le_of_ble_eq_true hle
        refine ⟨by simp;omega,rfl,fun t x ht=>?_⟩
        obtain ⟨h1,_⟩:=argA_lookup _ 0 t x ht
        rw [Nat.sub_zero] at h1
        have hlt:t<(#[Value.func (.yield (w.heap.size+1)) #[] #[]]++vs).size:=by
         have:=(List.getElem?_eq_some_iff.1 h1).1
         simp at this ⊢;omega
        rw [Array.getElem?_append_left hlt]
        cases t with
        | zero =>
         simp at h1;subst h1
         exact ⟨.func (.yield (w.heap.size+1)) #[] #[],by rw [Array.getElem?_append_left (by simp)];rfl,PRep.nul _ _ rfl⟩
        | succ t =>
         rw [List.getElem?_cons_succ,List.getElem?_map] at h1
         cases hc:caps[t]? with
         | none=>rw [hc] at h1;cases h1
         | some y =>
          rw [hc] at h1;injection h1 with h1;subst h1
          have hlt2:t<vs.size:=by rw [hsz];exact (List.getElem?_eq_some_iff.1 hc).1
          refine ⟨vs[t],?_,Cap.av_rep (hcap t _ _ (Array.getElem?_eq_getElem hlt2) hc)⟩
          rw [Array.getElem?_append_right (by simp)];simp [hlt2]
       have hΦ:PhiY e.L.length (w.heap.size+1) r (pslT e.N e.T) (fun b=>B b∨b=w.heap.size∨b=w.heap.size+1) γ W1:=by
        refine ⟨.inr (.inr rfl),hL1,fun t id off ht=>?_⟩
        obtain ⟨u,h1,b,h2,h3⟩:=hT.slot t _ (pslT_spec ht).1
        exact ⟨by rw [← hi.len];exact (List.getElem?_eq_some_iff.1 h3).1,b,by rw [hr];rw [h2] at h1;exact h1,h3⟩
       refine wpIn_mono (hA (Nat.le_refl _) W1.heap.size _ R γ W1 _ hΦ i2 hT1 ⟨fun _=>rfl,Nat.le_refl _,List.nodup_nil,fun d h=>by cases h⟩) ?_
       rintro e1 a1 w1 ⟨y,T2,L2,R2,γ2,B2,rfl,⟨rfl,rfl,rfl⟩,b2,j2,t2,d2,x2,m2⟩
       have hl1:=(x2.below.block _ (.inr (.inr rfl))).trans hL1
       have hk1:=(x2.below.block _ (.inr (.inl rfl))).trans hK1
       obtain ⟨hpre,hlen',hobb⟩:=cutO_spec hbb (Nat.le_of_ble_eq_true hlen)
       have hfit:Fits ([]:Tm) L2 [] L':=⟨fun p hp=>(by cases hp),hpre,fun p hp=>(by cases hp),hobb⟩
       have hnil:TRep fn.ntmps R2 γ2 L2 ([]:Tm) { a1 with defers:=[] } := ⟨t2.size,rfl,fun t x hx=>by simp at hx⟩
       obtain ⟨j3,_⟩:=hfit.sound j2 hnil
       have hmv:Mv R R2 γ (γ2.take L'.length) e.L L':=by
        have:=(m2.trans i2.len (hfit.mvn j2 hlen')).mv
        rw [List.take_of_length_le (Nat.le_refl _),List.take_of_length_le (by rw [hi.len];exact Nat.le_refl _)] at this
        exact this
       have hpost:PostG true s e.N n0 B (AtE .normal e.T L') R w γ e.L .normal { a with defers:=[{ target := .collected w.heap.size,args := #[] }]++a.defers } (w1.putObj (w.heap.size+1) (.loop { r with state := .exhausted })):=by
        have hnB : ¬ B (w.heap.size+1):=fun h=>by have:=hi.bsz _ h;omega
        have xB:Ext B R R2 w (w1.putObj (w.heap.size+1) (.loop { r with state := .exhausted })):=(x1.trans (x2.mono fun b hb => .inl hb)).trans (Ext.putObj hnB)
        refine ⟨.normal,e.T,L',R2,_,fun b=>B b∨b=w.heap.size,rfl,⟨rfl,rfl,rfl⟩,fun b h => .inl h,(j3.putObj (nocell_loop hl1) (b2 _ (.inr (.inr rfl)))).anti (fun b h=>b2 b (by rcases h with h|h<;>simp [h])),hT.mv hmv,⟨fun e=>(by cases e),?_,?_,?_⟩,xB,MvN.of hn hmv⟩
        ·exact Nat.le_trans hd.le xB.below.size
        ·refine List.nodup_cons.2 ⟨fun hm=>?_,hd.nd⟩
         obtain ⟨b,h1,_,h3,_⟩:=hd.at_ _ hm
         have:=hi.bsz b h3
         injection h1 with h1 _
         injection h1 with h1
         omega
        ·intro d hdm
         rcases List.mem_cons.1 hdm with rfl|hdm
         ·exact ⟨w.heap.size,rfl,hd.le, .inr rfl,(World.putObj_heap_other (by omega)).trans hk1⟩
         ·obtain ⟨b,h1,h2,h3,h4⟩:=hd.at_ d hdm
          exact ⟨b,h1,h2, .inl h3,(xB.below.block b h3).trans h4⟩
       have hfin : ∃ v,(results fn a1.tmps).run cx.P w1 = .ok v w1∧rangePost Fence.wide 0 cx.P (w.heap.size+1) (PostG true s e.N n0 B (AtE .normal e.T L') R w γ e.L) { a with defers:=[{ target := .collected w.heap.size,args := #[] }]++a.defers } (.returned v) w1:=by
        refine ⟨_,results_none (by cases hq:fn.results;rw [hq] at hres;simp at hres;rw [hres]) _ _ _,?_⟩
        have hre:=run_endLoop (P:=cx.P) hl1 (by rw [hr];simp)
        have hpe:r.pending=none:=by rw [hr]
        have hre':(Instr.endLoop (w.heap.size+1)).run cx.P w1 = .ok none (w1.putObj (w.heap.size+1) (.loop { r with state := .exhausted })):=by rw [hre];rw [hpe]
        exact ⟨none,_,hre',hpost⟩
       obtain ⟨v,hv1,hv2⟩:=hfin
       rcases isEnd_of hend with rfl|rfl
       ·exact ⟨d2.no rfl,v,hv1,hv2⟩
       ·exact ⟨d2.no rfl,v,hv1,hv2⟩
     ·cases h
    ·cases h
   ·cases h
  ·cases h
 ·cases h
def OkE (cx:Cx) (cp:CP) (cr:CR) (f:FuncId) (e:Ent):Prop := ∃ L' k, ∀ l,itE cx cp cr f e l=some (L',List.replicate k l)
def itR:Option (List Ob × List Nat)→Nat→Option (List Ob × List Nat)
 | some (L,ls),l=>some (L,List.replicate ls.length l)
 | none,_=>none
theorem okE_of {f:FuncId} {g:List Ent} (hs:g.all (fun e=>(itE cx cp cr f e 0).isSome)=true) (h : ∀ l,g.map (fun e=>itE cx cp cr f e l)=g.map (fun e=>itR (itE cx cp cr f e 0) l)) : ∀ e∈g,OkE cx cp cr f e:=by
 intro e he
 have h1:=List.all_eq_true.1 hs e he
 obtain ⟨⟨L',ls⟩,h2⟩:=Option.isSome_iff_exists.1 h1
 refine ⟨L',ls.length,fun l=>?_⟩
 have:=List.map_inj_left.1 (h l) e he
 rw [h2] at this
 exact this
def spN (cx:Cx) (cp:CP) (cr:CR) (f:FuncId) (N:Nat):SP Ent:=fun c T L=>match c with
 | .rangeFunc g ps assign body=>match itE cx cp cr f ⟨g,ps,assign,body,N,T,L⟩ 0 with
  | some (L',_)=>some (.normal,T,L',[⟨g,ps,assign,body,N,T,L⟩])
  | none=>none
 | _=>none
theorem spN_ok (hx:CxOK cx) (hcp : ∀ g ps r,cp g ps=some r→Pure cx.P g ps r) (hcr : ∀ g L asx L1 r,cr g L asx=some (L1,r)→RunAll cx.P g L asx L1 r)
  {f:FuncId} {N n0:Nat} {Φ:(Nat→Prop)→List Gh→World→Prop} : ∀ c T L x T' L' g,spN cx cp cr f N c T L=some (x,T',L',g)→(∀ e∈g,OkE cx cp cr f e)→AwG Fence.wide cx.P true N n0 Φ c (AtE x T' L') T L:=by
 intro c T L x T' L' g h hg
 unfold spN at h
 split at h
 ·split at h
  ·rename_i L2 ls h1
   cases h
   obtain ⟨L3,k,hl⟩:=hg _ (List.mem_cons_self ..)
   have e:=hl 0
   rw [h1] at e
   cases e
   exact awG_range hx hcp hcr hl
  ·cases h
 ·cases h
theorem leave_marks {P:Program} {fn:Func} {tmps:Array Value} {Rr:Ending→World→Prop} {s:Nat} {L:List Ob} {R0 R:PH} {γ:List Gh} {B B0:Nat→Prop} {w0:World} (hB0 : ∀ b,B0 b→b<s) :
  ∀ (ds:List Deferred) (w:World),Inv B R γ L w→DOK true s B w ds→Ext B0 R0 R w0 w →
   (∀ w',Inv B R γ L w'→Ext B0 R0 R w0 w' → ∃ v,(results fn tmps).run P w' = .ok v w'∧Rr (.returned v) w')→LeavesInM Fence.wide 0 P fn tmps Rr ds .returning w
 | [],w,hi,_,he,hR=>hR w hi he
 | d::ds,w,hi,hd,he,hR=>by
  obtain ⟨b,rfl,hs,hb,hw⟩:=hd.at_ d (List.mem_cons_self ..)
  refine ⟨by simp, .inl ⟨b,_,rfl,run_takeDeferred hw,?_⟩⟩
  have hnd:=List.nodup_cons.1 hd.nd
  refine leave_marks hB0 ds _ (hi.putObj (nocell_def hw) hb) ⟨fun e=>(by cases e),by rw [World.putObj_size];exact hd.le,hnd.2,fun d' hd'=>?_⟩ (he.trans (Ext.putObj (fun h=>by have:=hB0 b h;omega))) hR
  obtain ⟨b',rfl,h2,h3,h4⟩:=hd.at_ d' (List.mem_cons_of_mem _ hd')
  exact ⟨b',rfl,h2,h3,(World.putObj_heap_other (fun e=>hnd.1 (by rw [← e];exact hd'))).trans h4⟩
theorem pure_of_awG {P : Program} {ti : TI} (hti : TIok P ti) {N : Nat} {f : FuncId} {fn : Func} {c : Code} {args : List PV} {r : CV} (hf : P.funcs[f]? = some fn) (hb : fn.body = some c) (hname : (fn.name == "runtime.NumGoroutine") = false) (hN : fn.ntmps = N) (hlen : args.length ≤ N)
  (h:AwG Fence.wide P true N 0 (fun _ _ _=>True) c (fun x T L=>(x = .normal∨x = .ret)∧Res ti fn.results.toList T L r) (argT 0 args) []):Pure P f args r:=by
 refine ⟨⟨fn,hf,by rw [hb];rfl,hname⟩,fun R w vs hR hs hv=>?_⟩
 refine (callsIn_wide (n:=0)).1 (callsIn_of_wp_marks hf hb trivial ?_)
 have hi:Inv (· < w.heap.size) R [] [] w:=⟨rfl,hR,fun id x g hx=>by simp at hx,fun i j gi gj h=>by simp at h,fun i g b h=>by simp at h,fun _ h=>h⟩
 have hT:TRep N R [] [] (argT 0 args) { tmps:=vs++Array.replicate (fn.ntmps-vs.size) Go.undef,defers:=[] } := by
  refine ⟨by simp;omega,rfl,fun t x ht=>?_⟩
  obtain ⟨p,h1,rfl,_⟩:=argT_lookup args 0 t x ht
  rw [Nat.sub_zero] at h1
  have hlt:t<vs.size:=by rw [hs];exact (List.getElem?_eq_some_iff.1 h1).1
  have hu:vs[t]?=some vs[t]:=Array.getElem?_eq_getElem hlt
  exact ⟨vs[t],by rw [Array.getElem?_append_left hlt];exact hu,PV.av_rep (hv t _ p hu h1)⟩
 refine wpIn_mono (h (Nat.zero_le _) w.heap.size (· < w.heap.size) R [] w _ trivial hi hT ⟨fun _=>rfl,Nat.le_refl _,List.nodup_nil,fun d h=>by cases h⟩) ?_
 rintro e a' w' ⟨x,T',L',R',γ',B',rfl,⟨hx,hres⟩,hB,i1,t1,d1,e1,_⟩
 have key:=leave_marks (Rr:=fun e w' => ∃ v R',e = .returned v∧Ext (· < w.heap.size) R R' w w'∧(∀ b o u,R' b o=some u→w'.cell? ⟨b,o,none⟩=some u)∧r.rep R' v) (fn:=fn) (tmps:=a'.tmps) (P:=P) (fun _ h=>h) a'.defers w' i1 d1 e1 (fun w'' i2 e2=>by
  obtain ⟨v,h1,h2⟩:=Res.sound (fn:=fn) (r:=r) hti i2 t1 hres
  exact ⟨v,h1,v,R',rfl,e2,i2.val,h2⟩)
 rcases hx with rfl|rfl
 ·exact key
 ·exact key
theorem run_of_awG {P : Program} {ti : TI} (hti : TIok P ti) {N : Nat} {f : FuncId} {fn : Func} {c : Code} {args : List AV} {L0 L1 : List Ob} {r : AV} (hf : P.funcs[f]? = some fn) (hb : fn.body = some c) (hname : (fn.name == "runtime.NumGoroutine") = false) (hN : fn.ntmps = N) (hlen : args.length ≤ N)
  (h:AwG Fence.wide P true N L0.length (fun _ _ _=>True) c (fun x T L=>(x = .normal∨x = .ret)∧L=L1∧RunVal ti fn.results.toList T L r) (argA 0 args) L0):Run P f L0 args L1 r:=by
 refine ⟨⟨fn,hf,by rw [hb];rfl,hname⟩,fun B R γ w vs hi hs hv=>?_⟩
 refine (callsIn_wide (n:=0)).1 (callsIn_of_wp_marks hf hb trivial ?_)
 have hT:TRep N R γ L0 (argA 0 args) { tmps:=vs++Array.replicate (fn.ntmps-vs.size) Go.undef,defers:=[] } := by
  refine ⟨by simp;omega,rfl,fun t x ht=>?_⟩
  obtain ⟨h1,_⟩:=argA_lookup args 0 t x ht
  rw [Nat.sub_zero] at h1
  have hlt:t<vs.size:=by rw [hs];exact (List.getElem?_eq_some_iff.1 h1).1
  have hu:vs[t]?=some vs[t]:=Array.getElem?_eq_getElem hlt
  exact ⟨vs[t],by rw [Array.getElem?_append_left hlt];exact hu,hv t _ x hu h1⟩
 refine wpIn_mono (h (Nat.le_refl _) w.heap.size B R γ w _ trivial hi hT ⟨fun _=>rfl,Nat.le_refl _,List.nodup_nil,fun d h=>by cases h⟩) ?_
 rintro e a' w' ⟨x,T',L',R',γ',B',rfl,⟨hx,rfl,hres⟩,hB,i1,t1,d1,e1,m1⟩
 have hmv:Mv R R' γ γ' L0 L':=by
  have:=m1.mv
  rw [List.take_of_length_le (Nat.le_refl _),List.take_of_length_le (by rw [hi.len];exact Nat.le_refl _)] at this
  exact this
 have key:=leave_marks (Rr:=fun e w' => ∃ v R' γ',e = .returned v∧Inv B R' γ' L' w'∧Ext B R R' w w'∧Mv R R' γ γ' L0 L'∧r.rep R' γ' L' v) (fn:=fn) (tmps:=a'.tmps) (P:=P) hi.bsz a'.defers w' i1 d1 e1 (fun w'' i2 e2=>by
  obtain ⟨v,h1,h2⟩:=RunVal.sound (fn:=fn) hti i2 t1 hres
  exact ⟨v,h1,v,R',γ',rfl,i2.anti hB,e2,hmv,h2⟩)
 rcases hx with rfl|rfl
 ·exact key
 ·exact key
def pureG (cx:Cx) (cp:CP) (cr:CR) (f:FuncId) (ps:List PV):Option (CV × List Ent) :=
 match cx.P.funcs[f]? with
 | some fn=>match fn.body,Nat.ble ps.length fn.ntmps with
  | some c,true=>match evG cx cp cr false (spN cx cp cr f fn.ntmps) f fn.ntmps c (argT 0 ps) [] with
   | some (x,T,L,g)=>match isEnd x,resAllB cx.ti T L fn.results.toList with
    | true,some rs=>some (cvOf rs,g)
    | _,_=>none
   | none=>none
  | _,_=>none
 | none=>none
theorem pureG_ok (hx:CxOK cx) (hcp : ∀ g ps r,cp g ps=some r→Pure cx.P g ps r) (hcr : ∀ g L asx L1 r,cr g L asx=some (L1,r)→RunAll cx.P g L asx L1 r)
  {f:FuncId} {ps:List PV} {r:CV} {g:List Ent} (h:pureG cx cp cr f ps=some (r,g)) (hg : ∀ e∈g,OkE cx cp cr f e):Pure cx.P f ps r:=by
 unfold pureG at h
 split at h
 ·rename_i fn hf
  split at h
  ·rename_i c hb hle
   split at h
   ·rename_i x T L g' he
    split at h
    ·rename_i rs hend hres
     cases h
     obtain ⟨φ,h2,h3⟩:=resAllB_ok hres
     refine pure_of_awG hx.ti hf hb (hx.name _ _ hf) rfl (Nat.le_of_ble_eq_true hle) ?_
     refine AwG.mono (evG_ok (.inl rfl) stay_true (fun e=>by cases e) hx hcp hcr (spN_ok hx hcp hcr) (fun e=>by cases e) he hg) ?_
     rintro y S M ⟨rfl,rfl,rfl⟩
     exact ⟨isEnd_of hend,res_of h2 h3 rfl⟩
    ·cases h
   ·cases h
  ·cases h
 ·cases h
def runG (cx:Cx) (cp:CP) (cr:CR) (f:FuncId) (L:List Ob) (asx:List AV):Option (List Ob × AV × List Ent) :=
 match cx.P.funcs[f]? with
 | some fn=>match fn.body,Nat.ble asx.length fn.ntmps,(obsBB L.length L&&avsBB L.length asx) with
  | some c,true,true=>match evG cx cp cr false (spN cx cp cr f fn.ntmps) f fn.ntmps c (argA 0 asx) L with
   | some (x,T,L1,g)=>match isEnd x,runVal0 cx.ti T L1 fn.results.toList,Nat.ble L.length L1.length with
    | true,some r,true=>match avBB L1.length r&&obsBB L1.length L1 with
     | true=>some (L1,r,g)
     | false=>none
    | _,_,_=>none
   | none=>none
  | _,_,_=>none
 | none=>none
theorem runG_ok (hx:CxOK cx) (hcp : ∀ g ps r,cp g ps=some r→Pure cx.P g ps r) (hcr : ∀ g L asx L1 r,cr g L asx=some (L1,r)→RunAll cx.P g L asx L1 r)
  {f:FuncId} {L:List Ob} {asx:List AV} {L1:List Ob} {r:AV} {g:List Ent} (h:runG cx cp cr f L asx=some (L1,r,g)) (hg : ∀ e∈g,OkE cx cp cr f e):RunAll cx.P f L asx L1 r:=by
 unfold runG at h
 split at h
 ·rename_i fn hf
  split at h
  ·rename_i c hb hle hbb
   split at h
   ·rename_i x T L2 g' he
    split at h
    ·rename_i r' hend hres hlen
     split at h
     ·rename_i hb2
      cases h
      rw [Bool.and_eq_true] at hbb hb2
      refine ⟨?_,obsBB_of hbb.1,avsBB_of hbb.2,Nat.le_of_ble_eq_true hlen,obsBB_of hb2.2,avBB_of hb2.1⟩
      refine run_of_awG hx.ti hf hb (hx.name _ _ hf) rfl (Nat.le_of_ble_eq_true hle) ?_
      refine AwG.mono (evG_ok (.inl rfl) stay_true (fun e=>by cases e) hx hcp hcr (spN_ok hx hcp hcr) (fun e=>by cases e) he hg) ?_
      rintro y S M ⟨rfl,rfl,rfl⟩
      exact ⟨isEnd_of hend,rfl,runVal0_ok hres⟩
     ·cases h
    ·cases h
   ·cases h
  ·cases h
 ·cases h
end
def colM {α β:Type} (f:α→Option (List β)):List α→Option (List β)
 | []=>some []
 | a::l=>match f a,colM f l with
  | some x,some y=>some (x++y)
  | _,_=>none
theorem colM_mem {α β:Type} {f:α→Option (List β)} : ∀ {l:List α} {outs:List β}, colM f l=some outs → ∀ a∈l, ∃ x,f a=some x ∧ ∀ b∈x,b∈outs
 | [],_,_,_,ha=>by cases ha
 | b::l,outs,h,a,ha=>by
  unfold colM at h
  split at h
  ·rename_i x y hx hy
   cases h
   rcases List.mem_cons.1 ha with rfl|ha
   ·exact ⟨x,hx,fun b hb=>List.mem_append_left _ hb⟩
   ·obtain ⟨z,h1,h2⟩:=colM_mem hy a ha
    exact ⟨z,h1,fun b hb=>List.mem_append_right _ (h2 b hb)⟩
  ·cases h
structure MP where
 i9:Nat
 i10:Nat
 i11:Nat
 i12:Nat
 out:Nat
 nb:Nat
 lo:Oper
 rng:Oper
 nxt:Oper
 ext:Oper
 ent:Oper
 rest:List Oper
 o12:List Oper
 t:TypeId
 m:Tmp
 it:Tmp
 nx:Tmp
 more:Tmp
 pr:Tmp
def MP.body (p:MP):Code := .seq (.region p.i10 [p.nxt,p.ext].toArray false) (.seq (.cond (.tmp p.more) .skip (.exit p.out)) (.block p.nb (.seq (.region p.i11 (p.ent::p.rest).toArray false) (.region p.i12 p.o12.toArray false))))
def MP.code (p:MP):Code := .seq (.region p.i9 [p.lo,p.rng].toArray false) (.block p.out (.loop p.body))
def dfr (it:Tmp) (o:Oper):Bool:=match o.dst with
 | some d => !Nat.beq d it
 | none=>true
def dfL (it:Tmp):List Oper→Bool
 | []=>true
 | o::l=>dfr it o&&dfL it l
theorem dfL_of {it:Tmp} : ∀ {l:List Oper}, dfL it l=true → ∀ o∈l,o.dst≠some it
 | [],_,_,ho=>by cases ho
 | o::l,h,o',ho=>by
  rw [dfL,Bool.and_eq_true] at h
  rcases List.mem_cons.1 ho with rfl|ho
  ·intro e
   have h1:=h.1
   unfold dfr at h1
   rw [e] at h1
   simp at h1
  ·exact dfL_of h.2 o' ho
structure MP.Good (p:MP) (N:Nat):Prop where
 lg:p.lo.guard=none
 ln:ndB p.lo.op=true
 rng:p.rng.op = .range p.t (.tmp p.m)∧p.rng.dst=some p.it∧p.rng.guard=none
 nxt:p.nxt.op = .next (.tmp p.it) false∧p.nxt.dst=some p.nx∧p.nxt.guard=none
 ext:p.ext.op = .extract (.tmp p.nx) 0∧p.ext.dst=some p.more∧p.ext.guard=none
 ent:p.ent.op = .entry (.tmp p.it)∧p.ent.dst=some p.pr∧p.ent.guard=none
 lt:p.it<N∧p.nx<N∧p.more<N∧p.pr<N
 ne:p.nx≠p.it∧p.more≠p.it∧p.pr≠p.it
 fr:dfL p.it p.rest=true∧dfL p.it p.o12=true
 nd:ndL p.rest=true∧ndL p.o12=true
def mapParts (N:Nat):Code→Option MP
 | .seq (.region i9 o9 false) (.block out (.loop (.seq (.region i10 o10 false) (.seq (.cond (.tmp more) .skip (.exit out')) (.block nb (.seq (.region i11 o11 false) (.region i12 o12 false))))))) =>
  match o9.toList,o10.toList,o11.toList with
  | [lo,⟨some it, .range t (.tmp m),y1,s1,a1,none⟩],[⟨some nx, .next (.tmp it2) false,y2,s2,a2,none⟩,⟨some more2, .extract (.tmp nx2) 0,y3,s3,a3,none⟩],⟨some pr, .entry (.tmp it3),y4,s4,a4,none⟩::rest =>
   match decide (lo.guard=none∧out'=out∧it2=it∧it3=it∧nx2=nx∧more2=more∧it<N∧nx<N∧more<N∧pr<N∧nx≠it∧more≠it∧pr≠it),(ndB lo.op&&(dfL it rest&&(dfL it o12.toList&&(ndL rest&&ndL o12.toList)))) with
   | true,true=>some ⟨i9,i10,i11,i12,out,nb,lo,⟨some it, .range t (.tmp m),y1,s1,a1,none⟩,⟨some nx, .next (.tmp it) false,y2,s2,a2,none⟩,⟨some more, .extract (.tmp nx) 0,y3,s3,a3,none⟩,⟨some pr, .entry (.tmp it),y4,s4,a4,none⟩,rest,o12.toList,t,m,it,nx,more,pr⟩
   | _,_=>none
  | _,_,_=>none
 | _=>none
theorem arr_of {α:Type} {a:Array α} {l:List α} (h:a.toList=l):a=l.toArray:=by cases a;simp at h;rw [h]
theorem mapParts_ok {N:Nat} {c:Code} {p:MP} (h:mapParts N c=some p):c=p.code∧p.Good N:=by
 unfold mapParts at h
 split at h
 ·split at h
  ·rename_i h9 h10 h11
   split at h
   ·rename_i h1 h2
    cases h
    obtain ⟨e1,rfl,rfl,rfl,rfl,rfl,e2⟩:=of_decide_eq_true h1
    simp only [Bool.and_eq_true] at h2
    refine ⟨?_,⟨e1,h2.1,⟨rfl,rfl,rfl⟩,⟨rfl,rfl,rfl⟩,⟨rfl,rfl,rfl⟩,⟨rfl,rfl,rfl⟩,⟨e2.1,e2.2.1,e2.2.2.1,e2.2.2.2.1⟩,e2.2.2.2.2,⟨h2.2.1,h2.2.2.1⟩,h2.2.2.2⟩⟩
    rw [arr_of h9,arr_of h10,arr_of h11]
    rfl
   ·cases h
  ·cases h
 ·cases h
def stepM (cx:Cx) (cp:CP) (cr:CR) (f:FuncId) (N:Nat) (p:MP) (k:AC) (sv:SV) (T:Tm) (L:List Ob):Option (Tm × List Ob) :=
 match evOps cx (tiOf cx f p.i11 false) cp cr f N ((p.ent::p.rest).map (·.dst)) p.rest ((p.pr, .tupS [.c k,sv])::(p.more, .one (.c (.bool true)))::(p.nx, .tupS [.c (.bool true), .c k,sv])::T) L with
 | some (T1,L1)=>evOps cx (tiOf cx f p.i12 false) cp cr f N (p.o12.map (·.dst)) p.o12 T1 L1
 | none=>none
def evMap (cx:Cx) (cp:CP) (cr:CR) (f:FuncId) (N:Nat) (p:MP) (id n:Nat):Nat→List Nat→Tm→List Ob→Option (List (Tm × List Ob))
 | 0,_,_,_=>none
 | fuel+1,seen,T,L=>match L[id]? with
  | some (.map kvs)=>match Nat.beq kvs.length n,(List.range n).filter (fun j => !seen.contains j) with
   | true,[]=>some [((p.more, .one (.c (.bool false)))::(p.nx, .tupS [.c (.bool false)])::T,L)]
   | true,j::js=>colM (β:=Tm × List Ob) (fun j=>match (kvs[j]?:Option (AC × AV)) with
    | some (k, .one sv)=>match stepM cx cp cr f N p k sv (clean N T) L with
     | some (T',L')=>evMap cx cp cr f N p id n fuel (seen++[j]) T' L'
     | none=>none
    | _=>none) (j::js)
   | false,_=>none
  | _=>none
theorem valueIn {P:Program} {o:Oper} {a:Act} {w w':World} {v:Value} {next:Act→World→Prop} {Q:Exit→Act→World→Prop} (h:(execOp a.eval o).run P w = .ok (.value v) w') (hk:next (a.put o.dst v) w'):o.wpIn Fence.wide 0 P a w next Q :=
 ⟨fun _ _=>trivial,by rw [show Fence.wide.round=none from rfl,Oper.semAt_none,h];exact hk⟩
theorem opsIn_cons {P:Program} {ops:Array Oper} {o:Oper} {rest:List Oper} {a:Act} {w:World} {Q:Exit→Act→World→Prop} (hg:o.guard=none) (h:o.wpIn Fence.wide 0 P a w (wpListIn Fence.wide 0 P ops Q rest) Q):wpListIn Fence.wide 0 P ops Q (o::rest) a w:=by
 unfold wpListIn
 rw [if_pos (show Region.wanted o (yielded ops a.tmps)=true by simp [Region.wanted,hg])]
 exact h
theorem nocell_iter {w:World} {l:Nat} {m:Option Nat} {s c:Nat} {se:Array Nat} (h:w.heap[l]?=some (.mapIter m s se c)) (o:Nat):w.cell? ⟨l,o,none⟩=none:=by simp [World.cell?,h]
theorem eval_tmp {a:Act} {t:Tmp} {v:Value} (h:a.tmps[t]?=some v):a.eval (.tmp t)=v:=by simp [Act.eval,Array.getD_eq_getD_getElem?,h]
theorem put_slot {a:Act} {d t:Tmp} {u:Value} (h:d≠t):(a.put (some d) u).tmps[t]?=a.tmps[t]?:=by simp only [Act.put];exact Array.getElem?_setIfInBounds_ne h
theorem tupS_rep {R:PH} {γ:List Gh} {L:List Ob} : ∀ (xs:List SV) (vs:List Value),vs.length=xs.length→(∀ (j:Nat) u x,vs[j]?=some u→xs[j]?=some x→x.rep R γ L u)→(AV.tupS xs).rep R γ L (.tuple vs.toArray) :=
 fun xs vs h1 h2=>⟨vs.toArray,rfl,by simpa using h1,fun j u x hu hx=>h2 j u x (by simpa using hu) hx⟩
section
variable {cx:Cx} {cp:CP} {cr:CR} {f:FuncId} {N n0:Nat}
theorem eqD {a:Act} (h:a.defers=[]):({ a with defers:=[] } : Act)=a:=by cases a;simp_all
theorem evMap_ok (hx:CxOK cx) (hcp : ∀ g ps r,cp g ps=some r→Pure cx.P g ps r) (hcr : ∀ g L asx L1 r,cr g L asx=some (L1,r)→RunAll cx.P g L asx L1 r)
  {p:MP} (hp:p.Good N) {id n r bm:Nat} {B0:Nat→Prop} {R0:PH} {γ0:List Gh} {L0:List Ob} {w0:World} (hn0:γ0.length=L0.length) (hid:id<n0∨True) {Q:Exit→Act→World→Prop} :
  ∀ (fuel:Nat) (seen:List Nat) (T:Tm) (L:List Ob) (outs:List (Tm × List Ob)),evMap cx cp cr f N p id n fuel seen T L=some outs →
   (∀ q∈outs, ∀ R' γ' a' w',Inv B0 R' γ' q.2 w'→TRep N R' γ' q.2 q.1 a'→Ext B0 R0 R' w0 w'→Mv R0 R' γ0 γ' L0 q.2→Q (.exit p.out) a' w') →
   ∀ (R:PH) (γ:List Gh) (w:World) (a:Act) (c0:Nat),w.heap[r]?=some (.mapIter (some bm) n seen.toArray c0)→n≤c0→γ[id]?=some (.box bm) → ¬ B0 r→Inv (fun b=>B0 b∨b=r) R γ L w→TRep N R γ L T a→a.tmps[p.it]?=some (.pointer (some ⟨r,0,none⟩)) →
    Ext B0 R0 R w0 w→Mv R0 R γ0 γ L0 L→Code.roundsIn Fence.wide 0 cx.P p.body Q fuel a w
 | 0,_,_,_,_,h,_,_,_,_,_,_,_,_,_,_,_,_,_,_,_=>by cases h
 | fuel+1,seen,T,L,outs,h,hQ,R,γ,w,a,c0,hr,hc0,hg,hrB,hi,hT,hit,hE,hM=>by
  rw [roundsIn_succ]
  unfold evMap at h
  split at h
  ·rename_i kvs hL
   obtain ⟨⟨es,hb,hsz,hes⟩,_⟩:=hi.obj id _ _ hL hg
   have hlen:kvs.length=n:=by
    split at h
    ·rename_i h1 _;exact Nat.eq_of_beq_eq_true h1
    ·rename_i h1 _;exact Nat.eq_of_beq_eq_true h1
    ·cases h
   have hborn : ∀ x∈es.toList, ∃ j,es[j]?=some x∧x.born=j∧j<n:=by
    intro x hx
    obtain ⟨j,hj⟩:=List.getElem?_of_mem hx
    have hj':es[j]?=some x:=by rw [← Array.getElem?_toList];exact hj
    have hlt:j<es.size:=(Array.getElem?_eq_some_iff.1 hj').1
    have hlt2:j<kvs.length:=by omega
    exact ⟨j,hj',(hes j x _ hj' (List.getElem?_eq_getElem hlt2)).1,by omega⟩
   have hold : ∀ x∈es.toList,x.born<n:=fun x hx=>let ⟨j,_,h1,h2⟩:=hborn x hx;by omega
   have hnodup:(es.toList.map (·.born)).Nodup:=by
    have:es.toList.map (·.born)=List.range es.size:=by
     apply List.ext_getElem?
     intro j
     rw [List.getElem?_map]
     by_cases hj:j<es.size
     ·rw [List.getElem?_range hj,Array.getElem?_toList,Array.getElem?_eq_getElem hj]
      have hlt2:j<kvs.length:=by omega
      simp [(hes j _ _ (Array.getElem?_eq_getElem hj) (List.getElem?_eq_getElem hlt2)).1]
     ·rw [List.getElem?_eq_none (by simp;omega),List.getElem?_eq_none (by simp;omega)];rfl
    rw [this];exact List.nodup_range
   have hev:a.eval (.tmp p.it) = .pointer (some ⟨r,0,none⟩):=eval_tmp hit
   have hbr:bm≠r:=fun e=>by rw [e,hr] at hb;cases hb
   refine wpIn_seq (wpIn_region_lit (opsIn_cons hp.nxt.2.2 ?_))
   rcases run_next_at (P:=cx.P) w p.nxt.type r bm n c0 seen.toArray es es.size hr hb hold hc0 with ⟨h0,hrun⟩|⟨e,he,w1,hw1,hrun⟩
   ·
    refine valueIn (v := .tuple #[.bool false]) (w':=w) (by simp [execOp,hp.nxt.1,hev,hrun,Result.andThen]) ?_
    rw [hp.nxt.2.1]
    have hT1:=trep_put (d:=some p.nx) (v := .tupS [.c (.bool false)]) hT hp.lt.2.1 (tupS_rep [.c (.bool false)] [.bool false] rfl (fun j u x hu hx=>by cases j with|zero=>simp at hu hx;subst hu hx;exact PRep.bool _|succ j=>simp at hu))
    refine opsIn_cons hp.ext.2.2 (valueIn (v := .bool false) (w':=w) ?_ ?_)
    ·have:(a.put (some p.nx) (.tuple #[.bool false])).eval (.tmp p.nx) = .tuple #[.bool false]:=eval_tmp (by simp only [Act.put];exact Array.getElem?_setIfInBounds_self_of_lt (by rw [hT.size];exact hp.lt.2.1))
     simp [execOp,hp.ext.1,this,Instr.extract]
    rw [hp.ext.2.1]
    have hT2:=trep_put (d:=some p.more) (v := .one (.c (.bool false))) (u := .bool false) hT1 hp.lt.2.2.1 (PRep.bool _)
    refine wpIn_seq (wpIn_cond_false (eval_tmp (v := .bool false) (by simp only [Act.put];exact Array.getElem?_setIfInBounds_self_of_lt (by rw [Array.size_setIfInBounds,hT.size];exact hp.lt.2.2.1))) (wpIn_exit ?_))
    split at h
    ·cases h
     exact hQ _ (List.mem_cons_self ..) R γ _ w (hi.anti fun b h => .inl h) hT2 hE hM
    ·rename_i j js hbq hfl
     exfalso
     have hj:j∈(List.range n).filter (fun j => !seen.contains j):=by rw [hfl];exact List.mem_cons_self ..
     obtain ⟨hj1,hj2⟩:=List.mem_filter.1 hj
     have hj1:=List.mem_range.1 hj1
     have hjs:j<es.size:=by omega
     have hlt2:j<kvs.length:=by omega
     have hm:es[j]∈(leftOf es seen.toArray):=by
      unfold leftOf
      rw [Array.mem_filter]
      refine ⟨Array.getElem_mem hjs,?_⟩
      rw [(hes j _ _ (Array.getElem?_eq_getElem hjs) (List.getElem?_eq_getElem hlt2)).1]
      simpa using hj2
     rw [Array.eq_empty_of_size_eq_zero h0] at hm
     simp at hm
    ·cases h
   ·
    have hmem:e∈es.toList∧seen.contains e.born=false:=by
     unfold leftOf at he
     simp at he
     exact ⟨by simpa using he.1,by simpa using he.2⟩
    obtain ⟨j,hj,hbj,hjn⟩:=hborn e hmem.1
    have hlt2:j<kvs.length:=by omega
    obtain ⟨_,hkey,hval⟩:=hes j e _ hj (List.getElem?_eq_getElem hlt2)
    have hi1:Inv (fun b=>B0 b∨b=r) R γ L w1∧Ext B0 R R w w1∧w1.heap=w.heap:=by
     rcases hw1 with rfl|rfl
     ·exact ⟨hi,Ext.refl _ _ _,rfl⟩
     ·exact ⟨⟨hi.len,hi.val,hi.obj,hi.inj,hi.new,hi.bsz⟩,⟨⟨rfl,rfl,rfl,Nat.le_refl _,fun _ _=>rfl⟩,PH.sub_refl _,fun _ _ _=>rfl⟩,rfl⟩
    obtain ⟨hi1,hE1,hh1⟩:=hi1
    have hr1:w1.heap[r]?=some (.mapIter (some bm) n seen.toArray c0):=by rw [hh1];exact hr
    obtain ⟨w2,hw2⟩ : ∃ w2,w2=w1.putObj r (.mapIter (some bm) n (seen.toArray.push e.born) es.size):=⟨_,rfl⟩
    have hi2:Inv (fun b=>B0 b∨b=r) R γ L w2:=by rw [hw2];exact hi1.putObj (nocell_iter hr1) (.inr rfl)
    have hE2:Ext B0 R R w w2:=by rw [hw2];exact hE1.trans (Ext.putObj hrB)
    have hr2:w2.heap[r]?=some (.mapIter (some bm) n (seen.toArray.push e.born) es.size):=by rw [hw2];exact World.putObj_heap_same (Array.getElem?_eq_some_iff.1 hr1).1
    have hb2:w2.heap[bm]?=some (.map es es.size):=by rw [hw2];exact (World.putObj_heap_other hbr).trans (by rw [hh1];exact hb)
    have hrun':(Instr.next (.pointer (some ⟨r,0,none⟩)) false p.nxt.type).run cx.P w = .ok (.tuple #[.bool true,e.key,e.val]) w2:=by rw [hrun,hw2];rfl
    have hpart : ∃ k sv T' L' x,kvs[j]?=some (k, .one sv)∧stepM cx cp cr f N p k sv (clean N T) L=some (T',L')∧evMap cx cp cr f N p id n fuel (seen++[j]) T' L'=some x ∧ ∀ b∈x,b∈outs:=by
     have hjm:j∈(List.range n).filter (fun j => !seen.contains j):=List.mem_filter.2 ⟨List.mem_range.2 hjn,by rw [← hbj,hmem.2];rfl⟩
     split at h
     ·rename_i hfl;rw [hfl] at hjm;cases hjm
     ·rename_i j0 js hbq hfl
      rw [hfl] at hjm
      obtain ⟨x,h1,h2⟩:=colM_mem h j hjm
      split at h1
      ·rename_i k sv hk
       split at h1
       ·rename_i T' L' hs
        exact ⟨k,sv,T',L',x,hk,hs,h1,h2⟩
       ·cases h1
      ·cases h1
     ·cases h
    obtain ⟨k,sv,T',L',x,hk,hst,hev2,hsub⟩:=hpart
    rw [List.getElem?_eq_getElem hlt2] at hk
    injection hk with hk
    rw [hk] at hkey hval
    refine valueIn (v := .tuple #[.bool true,e.key,e.val]) (w':=w2) (by simp [execOp,hp.nxt.1,hev,hrun',Result.andThen]) ?_
    rw [hp.nxt.2.1]
    have hTc:TRep N R γ L (clean N T) a:=⟨hT.size,hT.defers,fun t x hx=>hT.slot t x (clean_sub hx)⟩
    have hT1:=trep_put (d:=some p.nx) (v := .tupS [.c (.bool true), .c k,sv]) (u := .tuple #[.bool true,e.key,e.val]) hTc hp.lt.2.1 (tupS_rep [.c (.bool true), .c k,sv] [.bool true,e.key,e.val] rfl (fun j u x hu hx=>by
     match j,hu,hx with
     | 0,hu,hx=>simp at hu hx;subst hu hx;exact PRep.bool _
     | 1,hu,hx=>simp at hu hx;subst hu hx;exact hkey
     | 2,hu,hx=>simp at hu hx;subst hu hx;exact hval
     | j+3,hu,hx=>simp at hu))
    refine opsIn_cons hp.ext.2.2 (valueIn (v := .bool true) (w':=w2) ?_ ?_)
    ·have:(a.put (some p.nx) (.tuple #[.bool true,e.key,e.val])).eval (.tmp p.nx) = .tuple #[.bool true,e.key,e.val]:=eval_tmp (by simp only [Act.put];exact Array.getElem?_setIfInBounds_self_of_lt (by rw [hT.size];exact hp.lt.2.1))
     simp [execOp,hp.ext.1,this,Instr.extract]
    rw [hp.ext.2.1]
    have hT2:=trep_put (d:=some p.more) (v := .one (.c (.bool true))) (u := .bool true) hT1 hp.lt.2.2.1 (PRep.bool _)
    refine wpIn_seq (wpIn_cond_true (eval_tmp (v := .bool true) (by simp only [Act.put];exact Array.getElem?_setIfInBounds_self_of_lt (by rw [Array.size_setIfInBounds,hT.size];exact hp.lt.2.2.1))) (wpIn_skip ?_))
    refine wpIn_block (wpIn_seq (wpIn_region_lit (opsIn_cons hp.ent.2.2 ?_)))
    have hit2:((a.put (some p.nx) (.tuple #[.bool true,e.key,e.val])).put (some p.more) (.bool true)).tmps[p.it]?=some (.pointer (some ⟨r,0,none⟩)):=by
     rw [put_slot hp.ne.2.1,put_slot hp.ne.1];exact hit
    refine valueIn (v := .tuple #[e.key,e.val]) (w':=w2) (by simp [execOp,hp.ent.1,eval_tmp hit2,run_entry_at w2 r bm n seen.toArray es es.size e hr2 hb2 hmem.1 hnodup,Result.andThen]) ?_
    rw [hp.ent.2.1]
    have hT3:=trep_put (d:=some p.pr) (v := .tupS [.c k,sv]) (u := .tuple #[e.key,e.val]) hT2 hp.lt.2.2.2 (tupS_rep [.c k,sv] [e.key,e.val] rfl (fun j u x hu hx=>by
     match j,hu,hx with
     | 0,hu,hx=>simp at hu hx;subst hu hx;exact hkey
     | 1,hu,hx=>simp at hu hx;subst hu hx;exact hval
     | j+2,hu,hx=>simp at hu))
    have hit3:=(put_slot (a:=(a.put (some p.nx) (.tuple #[.bool true,e.key,e.val])).put (some p.more) (.bool true)) (u := .tuple #[e.key,e.val]) hp.ne.2.2).trans hit2
    generalize ((a.put (some p.nx) (.tuple #[.bool true,e.key,e.val])).put (some p.more) (.bool true)).put (some p.pr) (.tuple #[e.key,e.val])=a3 at hT3 hit3
    unfold stepM at hst
    split at hst
    ·rename_i T1 L1 h1
     have hA:=evOps_ok (K:=fun T L=>T=T1∧L=L1) (tiOf_ok hx f p.i11 false) hx.ne hcp hcr h1 ⟨rfl,rfl⟩
     rw [← eqD hT3.defers]
     refine awOpsIn (.inl rfl) (tiOf_ok hx f p.i11 false) (dsts rfl) [] p.rest R γ L _ a3 w2 hp.nd.1 hA hi2 hT3 ?_
     rintro T1' L1' R4 γ4 w4 a4 ⟨rfl,rfl⟩ i4 t4 x4 m4 s4
     rw [eqD t4.defers]
     have hC:=evOps_ok (K:=fun T L=>T=T'∧L=L') (tiOf_ok hx f p.i12 false) hx.ne hcp hcr hst ⟨rfl,rfl⟩
     refine wpIn_region_lit ?_
     rw [← eqD t4.defers]
     refine awOpsIn (.inl rfl) (tiOf_ok hx f p.i12 false) (dsts rfl) [] p.o12 R4 γ4 _ _ a4 w4 hp.nd.2 hC i4 t4 ?_
     rintro T2' L2' R5 γ5 w5 a5 ⟨rfl,rfl⟩ i5 t5 x5 m5 s5
     rw [eqD t5.defers]
     have hr5:w5.heap[r]?=some (.mapIter (some bm) n (seen++[j]).toArray es.size):=by
      rw [(x5.below.block r (.inr rfl)),(x4.below.block r (.inr rfl)),hr2,hbj];simp
     have x45:Ext B0 R R5 w w5:=hE2.trans ((x4.trans x5).mono fun b h => .inl h)
     exact evMap_ok hx hcp hcr hp hn0 hid fuel (seen++[j]) _ _ x hev2 (fun q hq=>hQ q (hsub q hq)) R5 γ5 w5 a5 es.size hr5 (by omega) (m5.ptr id bm (m4.ptr id bm hg)) hrB i5 t5
      ((s5 _ (dfL_of hp.fr.2)).trans ((s4 _ (dfL_of hp.fr.1)).trans hit3)) (hE.trans x45) (hM.trans (m4.trans m5))
    ·cases hst
  ·cases h
end
def evNode (cx:Cx) (cp:CP) (cr:CR) (f:FuncId) (N:Nat) (p:MP) (T:Tm) (L:List Ob):Option (List (Tm × List Ob)) :=
 match dOKb N p.lo.dst,evOp cx (tiOf cx f p.i9 false) cp cr (rowOf cx f p.lo.dst) (look T) L p.lo.op,cx.ti.kind p.t with
 | true,some (v,L1),some (.map _ _)=>match look (putT T p.lo.dst v) (.tmp p.m) with
  | some (.one (.mp id))=>match L1[id]? with
   | some (.map kvs)=>evMap cx cp cr f N p id kvs.length (kvs.length+1) [] ((putT T p.lo.dst v).filter fun q => !Nat.beq q.1 p.it) L1
   | _=>none
  | _=>none
 | _,_,_=>none
theorem lookup_filter {it t:Nat} {x:AV} : ∀ {T:Tm}, (T.filter fun q => !Nat.beq q.1 it).lookup t=some x→T.lookup t=some x∧t≠it
 | [],h=>by cases h
 | q::T,h=>by
  rw [List.filter_cons] at h
  split at h
  ·rename_i hq
   rw [List.lookup_cons] at h ⊢
   split at h
   ·rename_i he
    refine ⟨h,fun e=>?_⟩
    have:t=q.1:=by simpa using he
    rw [← this,e] at hq
    simp at hq
   ·exact lookup_filter h
  ·rename_i hq
   obtain ⟨h1,h2⟩:=lookup_filter h
   refine ⟨?_,h2⟩
   rw [List.lookup_cons]
   have:(t==q.1)=false:=by
    cases hc:t==q.1 with
    | false=>rfl
    | true =>
     exfalso
     have e:t=q.1:=by simpa using hc
     have:q.1=it:=by simpa using hq
     exact h2 (e.trans this)
   rw [this]
   exact h1
section
variable {cx:Cx} {cp:CP} {cr:CR} {f:FuncId} {N n0:Nat}
theorem evNode_ok (hx:CxOK cx) (hcp : ∀ g ps r,cp g ps=some r→Pure cx.P g ps r) (hcr : ∀ g L asx L1 r,cr g L asx=some (L1,r)→RunAll cx.P g L asx L1 r)
  {p:MP} (hp:p.Good N) {T:Tm} {L:List Ob} {outs:List (Tm × List Ob)} (h:evNode cx cp cr f N p T L=some outs):Aw cx.P N n0 p.code (fun x T' L'=>x = .normal∧(T',L')∈outs) T L:=by
 unfold evNode at h
 split at h
 ·rename_i v L1 k e hd h1 hkind
  split at h
  ·rename_i id hm
   split at h
   ·rename_i kvs hL
    intro hn B R γ w a hi hT
    refine (wpIn_wide (n:=0)).1 ?_
    refine wpIn_seq (wpIn_region_lit (opsIn_cons hp.lg ?_))
    have hop:=evOp_ok (K:=fun v' L'=>v'=v∧L'=L1) (tiOf_ok hx f p.i9 false) hx.ne hcp hcr h1 ⟨rfl,rfl⟩
    rw [← eqD hT.defers]
    refine op_in (.inl rfl) hp.ln (awOp_sound (tiOf_ok hx f p.i9 false) hi (fun x v hx=>look_rep hT hx) hop fun v' L'' R1 γ1 w1 u hk i1 x1 m1 r1=>⟨⟨u,rfl⟩,?_⟩)
    obtain ⟨rfl,rfl⟩:=hk
    have hT1:=trep_put (hT.mv m1) (dOKb_of hd) r1
    generalize a.put p.lo.dst u=a1 at hT1
    rw [eqD hT1.defers]
    obtain ⟨bm,hbm,hg⟩:=look_rep hT1 hm
    obtain ⟨⟨es,hb,hsz,hes⟩,_⟩:=i1.obj id _ _ hL hg
    have hrun:=run_range_map (P:=cx.P) w1 p.t k e bm es es.size (hx.ti.kind _ _ hkind) hb
    refine opsIn_cons hp.rng.2.2 (valueIn (v := .pointer (some ⟨w1.heap.size,0,none⟩)) (w':=w1.alloc (.mapIter (some bm) es.size #[] es.size)) (by simp [execOp,hp.rng.1,hbm,hrun,Result.andThen]) ?_)
    rw [hp.rng.2.1]
    obtain ⟨w2,hw2⟩ : ∃ w2,w2=w1.alloc (.mapIter (some bm) es.size #[] es.size):=⟨_,rfl⟩
    rw [← hw2]
    have hE1:Ext (· < w1.heap.size) R1 R1 w1 w2:=by rw [hw2];exact ⟨Kept.alloc (fun _ h=>h) _,PH.sub_refl _,fun _ _ _=>rfl⟩
    obtain ⟨i2,x2⟩:=i1.later hE1 (fun b o u hu=>(World.cell?_of_block (hE1.below.block b (lt_of_cell (i1.val b o u hu)))).trans (i1.val b o u hu))
    have hS2:w2.heap.size=w1.heap.size+1:=by rw [hw2];simp
    have hr2:w2.heap[w1.heap.size]?=some (.mapIter (some bm) kvs.length ([]:List Nat).toArray es.size):=by rw [hw2, ← hsz];exact World.alloc_heap_new w1 _
    have i3:Inv (fun b=>B b∨b=w1.heap.size) R1 γ1 L'' w2 :=
     ⟨i2.len,i2.val,i2.obj,i2.inj,fun i g b hg hb=>⟨fun h=>by have h1:=i1.new i g b hg hb;rcases h with h|h<;>first|exact h1.1 h|omega,(i2.new i g b hg hb).2⟩,
      fun b h=>by rcases h with h|h<;>first|(have:=i2.bsz b h;omega)|omega⟩
    have hnB : ¬ B w1.heap.size:=fun h=>by have:=i1.bsz _ h;omega
    have hT2:TRep N R1 γ1 L'' ((putT T p.lo.dst v').filter fun q => !Nat.beq q.1 p.it) (a1.put (some p.it) (.pointer (some ⟨w1.heap.size,0,none⟩))):=by
     refine ⟨by simp [Act.put,hT1.size],hT1.defers,fun t x hx=>?_⟩
     obtain ⟨h3,h4⟩:=lookup_filter hx
     obtain ⟨u,h5,h6⟩:=hT1.slot t x h3
     exact ⟨u,(put_slot (Ne.symm h4)).trans h5,h6⟩
    have hit:(a1.put (some p.it) (.pointer (some ⟨w1.heap.size,0,none⟩))).tmps[p.it]?=some (.pointer (some ⟨w1.heap.size,0,none⟩)):=by
     simp only [Act.put];exact Array.getElem?_setIfInBounds_self_of_lt (by rw [hT1.size];exact hp.lt.1)
    refine wpIn_block (wpIn_loop_rounds _ (evMap_ok (B0:=B) (R0:=R) (γ0:=γ) (L0:=L) (w0:=w) (n0:=0) hx hcp hcr hp hi.len (.inr trivial) _ _ _ _ outs h ?_ R1 γ1 w2 _ es.size hr2 (by omega) hg hnB i3 hT2 hit (x1.trans x2) m1))
    intro q hq R' γ' a' w' j1 j2 j3 j4
    show Exit.inBlock p.out _ (.exit p.out) a' w'
    simp only [Exit.inBlock,if_true]
    exact ⟨.normal,q.1,q.2,R',γ',rfl,⟨rfl,hq⟩,j1,j2,j3,MvN.of hn j4⟩
   ·cases h
  ·cases h
 ·cases h
def RunM (P:Program) (g:FuncId) (L:List Ob) (asx:List AV) (outs:List (List Ob × AV)):Prop :=
 (∃ fn, P.funcs[g]? = some fn ∧ fn.body.isSome = true ∧ (fn.name == "runtime.NumGoroutine") = false) ∧
 ∀ (B:Nat→Prop) (R:PH) (γ:List Gh) (w:World) (vs:Array Value),Inv B R γ L w→vs.size=asx.length→(∀ (j:Nat) v p,vs[j]?=some v→asx[j]?=some p→p.rep R γ L v) →
  Calls P g vs w fun e w' => ∃ q∈outs, ∃ v R' γ',e = .returned v∧Inv B R' γ' q.1 w'∧Ext B R R' w w'∧Mv R R' γ γ' L q.1∧q.2.rep R' γ' q.1 v
abbrev MC:=FuncId→List Ob→List AV→Option (List (List Ob × AV))
def mCall (ρ:Operand→Option AV):Op→Option (FuncId × List AV)
 | .call { callee := .value (.func g),args, .. } => match avs ρ args.toList with
  | some vs=>some (g,vs)
  | none=>none
 | _=>none
def evZ (cx:Cx) (ti:TI) (cp:CP) (cr:CR) (mc:MC) (f:FuncId) (N:Nat):List Oper→Tm→List Ob→Option (List (Tm × List Ob))
 | [],T,L=>some [(T,L)]
 | o::rest,T,L=>match dOKb N o.dst,o.guard with
  | true,none=>match (match mCall (look T) o.op with
    | some (g,vs)=>mc g L vs
    | none=>none) with
   | some outs=>colM (fun q=>evZ cx ti cp cr mc f N rest (putT T o.dst q.2) q.1) outs
   | none=>match evOp cx ti cp cr (rowOf cx f o.dst) (look T) L o.op with
    | some (v,L')=>evZ cx ti cp cr mc f N rest (putT T o.dst v) L'
    | none=>none
  | _,_=>none
theorem avs_len {ρ:Operand→Option AV} : ∀ {xs:List Operand} {vs:List AV}, avs ρ xs=some vs→xs.length=vs.length ∧ ∀ (j:Nat) x v,xs[j]?=some x→vs[j]?=some v→ρ x=some v
 | [],vs,h=>by cases h;exact ⟨rfl,fun j x v h=>by simp at h⟩
 | x::xs,vs,h=>by
  unfold avs at h
  split at h
  ·rename_i v vs' h1 h2
   cases h
   obtain ⟨h3,h4⟩:=avs_len h2
   refine ⟨by simp [h3],fun j y z hy hz=>?_⟩
   cases j with
   | zero=>simp at hy hz;subst hy hz;exact h1
   | succ j=>exact h4 j y z (by simpa using hy) (by simpa using hz)
  ·cases h
theorem evZ_ok (hx:CxOK cx) {ti:TI} (hti:TIok cx.P ti) (hcp : ∀ g ps r,cp g ps=some r→Pure cx.P g ps r) (hcr : ∀ g L asx L1 r,cr g L asx=some (L1,r)→RunAll cx.P g L asx L1 r)
  {mc:MC} (hmc : ∀ g L asx outs,mc g L asx=some outs→RunM cx.P g L asx outs) {ops:Array Oper} {B:Nat→Prop} {Q:Exit→Act→World→Prop} : ∀ (os:List Oper) (outs:List (Tm × List Ob)) (R:PH) (γ:List Gh) (L:List Ob) (T:Tm) (a:Act) (w:World),
  evZ cx ti cp cr mc f N os T L=some outs→Inv B R γ L w→TRep N R γ L T a →
  (∀ q∈outs, ∀ R' γ' w' a',Inv B R' γ' q.2 w'→TRep N R' γ' q.2 q.1 a'→Ext B R R' w w'→Mv R R' γ γ' L q.2→Q .normal a' w')→wpList cx.P ops Q os a w
 | [],outs,R,γ,L,T,a,w,h,hi,hT,hQ=>by cases h;exact hQ _ (List.mem_cons_self ..) R γ w a hi hT (Ext.refl _ _ _) Mv.refl
 | o::rest,outs,R,γ,L,T,a,w,h,hi,hT,hQ=>by
  unfold evZ at h
  split at h
  ·rename_i hd hg
   unfold wpList
   rw [if_pos (show Region.wanted o (yielded ops a.tmps)=true by simp [Region.wanted,hg])]
   refine .inl ?_
   split at h
   ·rename_i outs1 hm
    split at hm
    ·rename_i g vs hc
     obtain ⟨⟨fn,hfn,hbody,hname⟩,hcall⟩:=hmc _ _ _ _ hm
     obtain ⟨dst,op,type,pos,after,guard⟩:=o
     simp only at hc hd hg h
     unfold mCall at hc
     split at hc
     ·rename_i g' args argTypes
      split at hc
      ·rename_i vs' hvs
       injection hc with hc
       injection hc with e1 e2
       subst e1 e2
       obtain ⟨hl,hrep⟩:=avs_len hvs
       have hr:=run_enter (P:=cx.P) (w:=w) (a:=a) (dst:=dst) (type:=type) (pos:=pos) (after:=after) (guard:=guard) (args:=args) (argTypes:=argTypes) hfn hbody hname
       unfold Oper.wp
       rw [hr]
       refine (hcall B R γ w (args.map a.eval) hi (by simpa using hl) (fun j v p hv hp=>?_)).mono (fun e w' hh=>?_)
       ·rw [Array.getElem?_map] at hv
        cases hq:args[j]? with
        | none=>rw [hq] at hv;cases hv
        | some y=>rw [hq] at hv;injection hv with hv;subst hv;exact look_rep hT (hrep j y p (by simpa using hq) hp)
       ·obtain ⟨q,hq,v,R',γ',rfl,i1,x1,m1,r1⟩:=hh
        obtain ⟨x,h1,h2⟩:=colM_mem h q hq
        refine evZ_ok hx hti hcp hcr hmc rest x R' γ' q.1 _ _ w' h1 i1 (trep_put (hT.mv m1) (dOKb_of hd) r1) fun q' hq' R2 γ2 w2 a2 k2 k3 k4 k5=>hQ q' (h2 q' hq') R2 γ2 w2 a2 k2 k3 (x1.trans k4) (m1.trans k5)
      ·cases hc
     ·cases hc
    ·cases hm
   ·split at h
    ·rename_i v L1 h1
     have hop:=evOp_ok (K:=fun v' L'=>v'=v∧L'=L1) hti hx.ne hcp hcr h1 ⟨rfl,rfl⟩
     refine awOp_sound hti hi (fun x v hx=>look_rep hT hx) hop fun v' L'' R' γ' w' u hk h1' h2 h3 h4=>?_
     obtain ⟨rfl,rfl⟩:=hk
     exact evZ_ok hx hti hcp hcr hmc rest outs R' γ' _ _ _ w' h h1' (trep_put (hT.mv h3) (dOKb_of hd) h4) fun q' hq' R2 γ2 w2 a2 k2 k3 k4 k5=>hQ q' hq' R2 γ2 w2 a2 k2 k3 (h2.trans k4) (h3.trans k5)
    ·cases h
  ·cases h
def evW (cx:Cx) (cp:CP) (cr:CR) (mc:MC) (f:FuncId) (N:Nat) (rs:List Nat):Code→Tm→List Ob→Option (List (AX × Tm × List Ob))
 | .seq x y,T,L=>match mapParts N (.seq x y) with
  | some p=>match evNode cx cp cr f N p T L with
   | some outs=>some (outs.map fun q=>(.normal,q.1,q.2))
   | none=>none
  | none=>match evW cx cp cr mc f N rs x T L with
   | some outs=>colM (fun q=>match q with
    | (.normal,T',L')=>evW cx cp cr mc f N rs y T' L'
    | q=>some [q]) outs
   | none=>none
 | .region id ops false,T,L=>match evC cx cp cr f N rs (.region id ops false) T L with
  | some q=>some [q]
  | none=>match evZ cx (tiOf cx f id false) cp cr mc f N ops.toList T L with
   | some outs=>some (outs.map fun q=>(.normal,q.1,q.2))
   | none=>none
 | c,T,L=>match evC cx cp cr f N rs c T L with
  | some q=>some [q]
  | none=>none
theorem evW_ok (hx:CxOK cx) (hcp : ∀ g ps r,cp g ps=some r→Pure cx.P g ps r) (hcr : ∀ g L asx L1 r,cr g L asx=some (L1,r)→RunAll cx.P g L asx L1 r)
  {mc:MC} (hmc : ∀ g L asx outs,mc g L asx=some outs→RunM cx.P g L asx outs) {rs:List Nat} :
  ∀ {c:Code} {T:Tm} {L:List Ob} {outs:List (AX × Tm × List Ob)}, codeOK cx f c=true→evW cx cp cr mc f N rs c T L=some outs→Aw cx.P N n0 c (fun x T' L'=>(x,T',L')∈outs) T L:=by
 intro c
 have one : ∀ {c:Code} {T:Tm} {L:List Ob} {q:AX × Tm × List Ob}, codeOK cx f c=true→evC cx cp cr f N rs c T L=some q→Aw cx.P N n0 c (fun x T' L'=>(x,T',L')∈[q]) T L:=by
  rintro c T L ⟨x,T',L'⟩ hc h
  exact (evC_ok hx hcp hcr hc h).mono fun y S M ⟨e1,e2,e3⟩=>by rw [e1,e2,e3];exact List.mem_cons_self ..
 induction c with
 | seq a b iha ihb =>
  intro T L outs hc h
  unfold evW at h
  split at h
  ·rename_i p hp
   obtain ⟨e,hg⟩:=mapParts_ok hp
   split at h
   ·rename_i outs1 h1
    cases h
    rw [e]
    exact (evNode_ok hx hcp hcr hg h1).mono fun y S M ⟨e1,e2⟩=>by rw [e1];exact List.mem_map.2 ⟨_,e2,rfl⟩
   ·cases h
  ·rw [codeOK,Bool.and_eq_true] at hc
   split at h
   ·rename_i outs1 h1
    refine aw_seq ((iha hc.1 h1).mono fun y S M hm=>?_)
    obtain ⟨x,h2,h3⟩:=colM_mem h _ hm
    cases y with
    | normal=>exact (ihb hc.2 h2).mono fun z U V hz=>h3 _ hz
    | exit id=>cases h2;exact h3 _ (List.mem_cons_self ..)
    | ret=>cases h2;exact h3 _ (List.mem_cons_self ..)
   ·cases h
 | region id ops d =>
  intro T L outs hc h
  cases d with
  | true =>
   unfold evW at h
   split at h
   ·rename_i q h1;cases h;exact one hc h1
   ·cases h
  | false =>
   unfold evW at h
   split at h
   ·rename_i q h1;cases h;exact one hc h1
   ·split at h
    ·rename_i outs1 h1
     cases h
     intro hn B R γ w a hi hT
     refine wp_region_list (evZ_ok hx (tiOf_ok hx f id false) hcp hcr hmc _ _ R γ L T a w h1 hi hT ?_)
     intro q hq R' γ' w' a' k1 k2 k3 k4
     exact ⟨.normal,q.1,q.2,R',γ',rfl,List.mem_map.2 ⟨q,hq,rfl⟩,k1,k2,k3,MvN.of hn k4⟩
    ·cases h
 | _ =>
  intro T L outs hc h
  unfold evW at h
  split at h
  ·rename_i q h1;cases h;exact one hc h1
  ·cases h
def runW (cx:Cx) (cp:CP) (cr:CR):MC:=fun g L asx =>
 match cx.P.funcs[g]? with
 | some fn=>match fn.body,Nat.ble asx.length fn.ntmps with
  | some c,true=>match codeOK cx g c,evW cx cp cr (fun _ _ _=>none) g fn.ntmps [] c (argA 0 asx) L with
   | true,some outs=>colM (fun q=>match isEnd q.1,runVal0 cx.ti q.2.1 q.2.2 fn.results.toList with
    | true,some r=>some [(q.2.2,r)]
    | _,_=>none) outs
   | _,_=>none
  | _,_=>none
 | none=>none
theorem runW_ok (hx:CxOK cx) (hcp : ∀ g ps r,cp g ps=some r→Pure cx.P g ps r) (hcr : ∀ g L asx L1 r,cr g L asx=some (L1,r)→RunAll cx.P g L asx L1 r)
  {g:FuncId} {L:List Ob} {asx:List AV} {outs:List (List Ob × AV)} (h:runW cx cp cr g L asx=some outs):RunM cx.P g L asx outs:=by
 unfold runW at h
 split at h
 ·rename_i fn hf
  split at h
  ·rename_i c hb hle
   split at h
   ·rename_i outs1 hc he
    refine ⟨⟨fn,hf,by rw [hb];rfl,hx.name _ _ hf⟩,fun B R γ w vs hi hs hv=>?_⟩
    refine calls_of_wp hf hb ?_
    have hle:=Nat.le_of_ble_eq_true hle
    have hT:TRep fn.ntmps R γ L (argA 0 asx) { tmps:=vs++Array.replicate (fn.ntmps-vs.size) Go.undef,defers:=[] } := by
     refine ⟨by simp;omega,rfl,fun t x ht=>?_⟩
     obtain ⟨h1,_⟩:=argA_lookup asx 0 t x ht
     rw [Nat.sub_zero] at h1
     have hlt:t<vs.size:=by rw [hs];exact (List.getElem?_eq_some_iff.1 h1).1
     have hu:vs[t]?=some vs[t]:=Array.getElem?_eq_getElem hlt
     exact ⟨vs[t],by rw [Array.getElem?_append_left hlt];exact hu,hv t _ x hu h1⟩
    refine wp_mono (evW_ok hx hcp hcr (fun _ _ _ _ h=>by cases h) hc he (Nat.le_refl _) B R γ w _ hi hT) ?_
    rintro e a' w' ⟨x,T',L',R',γ',rfl,hm,i1,t1,e1,m1⟩
    obtain ⟨y,h1,h2⟩:=colM_mem h _ hm
    split at h1
    ·rename_i r hend hr
     cases h1
     obtain ⟨v,h3,h4⟩:=RunVal.sound (fn:=fn) hx.ti i1 t1 (runVal0_ok hr)
     have hmv:Mv R R' γ γ' L L':=by
      have:=m1.mv
      rw [List.take_of_length_le (Nat.le_refl _),List.take_of_length_le (by rw [hi.len];exact Nat.le_refl _)] at this
      exact this
     have hq:=h2 _ (List.mem_cons_self ..)
     rcases isEnd_of hend with rfl|rfl
     ·exact ⟨t1.defers,v,h3,_,hq,v,R',γ',rfl,i1,e1,hmv,h4⟩
     ·exact ⟨t1.defers,v,h3,_,hq,v,R',γ',rfl,i1,e1,hmv,h4⟩
    ·cases h1
   ·cases h
  ·cases h
 ·cases h
def pureW (cx:Cx) (cp:CP) (cr:CR) (mc:MC) (g:FuncId) (ps:List PV):Option (List (Option CV)) :=
 match cx.P.funcs[g]? with
 | some fn=>match fn.body,Nat.ble ps.length fn.ntmps with
  | some c,true=>match codeOK cx g c,evW cx cp cr mc g fn.ntmps (resSlots fn.results.toList) c (argT 0 ps) [] with
   | true,some outs=>some (outs.map fun q=>match isEnd q.1,resAllB cx.ti q.2.1 q.2.2 fn.results.toList with
    | true,some rs=>some (cvOf rs)
    | _,_=>none)
   | _,_=>none
  | _,_=>none
 | none=>none
theorem pureW_ok (hx:CxOK cx) (hcp : ∀ g ps r,cp g ps=some r→Pure cx.P g ps r) (hcr : ∀ g L asx L1 r,cr g L asx=some (L1,r)→RunAll cx.P g L asx L1 r)
  {mc:MC} (hmc : ∀ g L asx outs,mc g L asx=some outs→RunM cx.P g L asx outs) {g:FuncId} {ps:List PV} {r:CV} {l:List (Option CV)} (h:pureW cx cp cr mc g ps=some l) (hl : ∀ x∈l,x=some r):Pure cx.P g ps r:=by
 unfold pureW at h
 split at h
 ·rename_i fn hf
  split at h
  ·rename_i c hb hle
   split at h
   ·rename_i outs1 hc he
    cases h
    refine pa_ hx.ti hf hb (hx.name _ _ hf) rfl (Nat.le_of_ble_eq_true hle) ?_
    refine Aw.mono (evW_ok hx hcp hcr hmc hc he) ?_
    intro y S M hm
    have h1:=hl _ (List.mem_map.2 ⟨_,hm,rfl⟩)
    simp only at h1
    split at h1
    ·rename_i rs hend hres
     cases h1
     obtain ⟨φ,h2,h3⟩:=resAllB_ok hres
     exact ⟨isEnd_of hend,res_of h2 h3 rfl⟩
    ·cases h1
   ·cases h
  ·cases h
 ·cases h
end
mutual
def eqAc:AC→AC→Bool
 | .nul k, .nul k'=>decide (k=k')
 | .bool b, .bool b'=>decide (b=b')
 | .int k n, .int k' n'=>decide (k=k')&&decide (n=n')
 | .str s, .str s'=>decide (s=s')
 | .lst es, .lst es'=>eqAll es es'
 | .ref cs, .ref cs'=>eqAl cs cs'
 | .fn f cs, .fn f' cs'=>decide (f=f')&&eqAl cs cs'
 | _,_=>false
def eqAl:List AC→List AC→Bool
 | [],[]=>true
 | x::l,y::m=>eqAc x y&&eqAl l m
 | _,_=>false
def eqAll:List (List AC)→List (List AC)→Bool
 | [],[]=>true
 | x::l,y::m=>eqAl x y&&eqAll l m
 | _,_=>false
end
mutual
theorem eqAc_ok : ∀ (x y:AC),eqAc x y=true→x=y
 | .nul k,y,h=>by cases y<;>first|(simp [eqAc] at h;done)|(simp [eqAc] at h;rw [h])
 | .bool k,y,h=>by cases y<;>first|(simp [eqAc] at h;done)|(simp [eqAc] at h;rw [h])
 | .int k n,y,h=>by cases y<;>first|(simp [eqAc] at h;done)|(simp [eqAc] at h;rw [h.1,h.2])
 | .str k,y,h=>by cases y<;>first|(simp [eqAc] at h;done)|(simp [eqAc] at h;rw [h])
 | .lst k,y,h=>by cases y<;>first|(simp [eqAc] at h;done)|(simp [eqAc] at h;rw [eqAll_ok _ _ h])
 | .ref k,y,h=>by cases y<;>first|(simp [eqAc] at h;done)|(simp [eqAc] at h;rw [eqAl_ok _ _ h])
 | .fn k n,y,h=>by cases y<;>first|(simp [eqAc] at h;done)|(simp [eqAc] at h;rw [h.1,eqAl_ok _ _ h.2])
theorem eqAl_ok : ∀ (x y:List AC),eqAl x y=true→x=y
 | [],y,h=>by cases y<;>first|rfl|(simp [eqAl] at h;done)
 | x::l,y,h=>by
  cases y with
  | nil=>simp [eqAl] at h
  | cons y m=>simp [eqAl] at h;rw [eqAc_ok _ _ h.1,eqAl_ok _ _ h.2]
theorem eqAll_ok : ∀ (x y:List (List AC)),eqAll x y=true→x=y
 | [],y,h=>by cases y<;>first|rfl|(simp [eqAll] at h;done)
 | x::l,y,h=>by
  cases y with
  | nil=>simp [eqAll] at h
  | cons y m=>simp [eqAll] at h;rw [eqAl_ok _ _ h.1,eqAll_ok _ _ h.2]
end
def eqLs {α:Type} (e:α→α→Bool):List α→List α→Bool
 | [],[]=>true
 | x::l,y::m=>e x y&&eqLs e l m
 | _,_=>false
theorem eqLs_ok {α:Type} {e:α→α→Bool} (he : ∀ x y,e x y=true→x=y) : ∀ (l m:List α),eqLs e l m=true→l=m
 | [],m,h=>by cases m<;>first|rfl|(simp [eqLs] at h;done)
 | x::l,m,h=>by
  cases m with
  | nil=>simp [eqLs] at h
  | cons y m=>simp [eqLs] at h;rw [he _ _ h.1,eqLs_ok he _ _ h.2]
def eqCap:Cap→Cap→Bool
 | .c x, .c y=>eqAc x y
 | .ptr a b, .ptr c d=>decide (a=c)&&decide (b=d)
 | _,_=>false
theorem eqCap_ok : ∀ (x y:Cap),eqCap x y=true→x=y
 | .c x,y,h=>by cases y<;>first|(simp [eqCap] at h;done)|(simp [eqCap] at h;rw [eqAc_ok _ _ h])
 | .ptr a b,y,h=>by cases y<;>first|(simp [eqCap] at h;done)|(simp [eqCap] at h;rw [h.1,h.2])
def eqSv:SV→SV→Bool
 | .c x, .c y=>eqAc x y
 | .emp, .emp=>true
 | .own es t, .own es' t'=>eqAll es es'&&decide (t=t')
 | .ptr a b, .ptr c d=>decide (a=c)&&decide (b=d)
 | .sl a b c d, .sl a' b' c' d'=>decide (a=a')&&(decide (b=b')&&(decide (c=c')&&decide (d=d')))
 | .ep a b c d, .ep a' b' c' d'=>decide (a=a')&&(decide (b=b')&&(decide (c=c')&&decide (d=d')))
 | .mp a, .mp b=>decide (a=b)
 | .clo f cs, .clo g ds=>decide (f=g)&&eqLs eqCap cs ds
 | _,_=>false
theorem eqSv_ok : ∀ (x y:SV),eqSv x y=true→x=y
 | .c x,y,h=>by cases y<;>first|(simp [eqSv] at h;done)|(simp [eqSv] at h;rw [eqAc_ok _ _ h])
 | .emp,y,h=>by cases y<;>first|rfl|(simp [eqSv] at h;done)
 | .own a b,y,h=>by cases y<;>first|(simp [eqSv] at h;done)|(simp [eqSv] at h;rw [eqAll_ok _ _ h.1,h.2])
 | .ptr a b,y,h=>by cases y<;>first|(simp [eqSv] at h;done)|(simp [eqSv] at h;rw [h.1,h.2])
 | .sl a b c d,y,h=>by cases y<;>first|(simp [eqSv] at h;done)|(simp [eqSv] at h;rw [h.1,h.2.1,h.2.2.1,h.2.2.2])
 | .ep a b c d,y,h=>by cases y<;>first|(simp [eqSv] at h;done)|(simp [eqSv] at h;rw [h.1,h.2.1,h.2.2.1,h.2.2.2])
 | .mp a,y,h=>by cases y<;>first|(simp [eqSv] at h;done)|(simp [eqSv] at h;rw [h])
 | .clo f cs,y,h=>by cases y<;>first|(simp [eqSv] at h;done)|(simp [eqSv] at h;rw [h.1,eqLs_ok eqCap_ok _ _ h.2])
def eqPv:PV→PV→Bool
 | .one x, .one y=>eqAc x y
 | .agg x, .agg y=>eqAl x y
 | _,_=>false
theorem eqPv_ok : ∀ (x y:PV),eqPv x y=true→x=y
 | .one x,y,h=>by cases y<;>first|(simp [eqPv] at h;done)|(simp [eqPv] at h;rw [eqAc_ok _ _ h])
 | .agg x,y,h=>by cases y<;>first|(simp [eqPv] at h;done)|(simp [eqPv] at h;rw [eqAl_ok _ _ h])
def eqAv:AV→AV→Bool
 | .one x, .one y=>eqSv x y
 | .agg x, .agg y=>eqLs eqSv x y
 | .tup x, .tup y=>eqLs eqPv x y
 | .tupS x, .tupS y=>eqLs eqSv x y
 | .undef, .undef=>true
 | _,_=>false
theorem eqAv_ok : ∀ (x y:AV),eqAv x y=true→x=y
 | .one x,y,h=>by cases y<;>first|(simp [eqAv] at h;done)|(simp [eqAv] at h;rw [eqSv_ok _ _ h])
 | .agg x,y,h=>by cases y<;>first|(simp [eqAv] at h;done)|(simp [eqAv] at h;rw [eqLs_ok eqSv_ok _ _ h])
 | .tup x,y,h=>by cases y<;>first|(simp [eqAv] at h;done)|(simp [eqAv] at h;rw [eqLs_ok eqPv_ok _ _ h])
 | .tupS x,y,h=>by cases y<;>first|(simp [eqAv] at h;done)|(simp [eqAv] at h;rw [eqLs_ok eqSv_ok _ _ h])
 | .undef,y,h=>by cases y<;>first|rfl|(simp [eqAv] at h;done)
open Go.RowKit Go.MapKept
structure Per where
 lo:Int
 hi:Int
def cPer (x:Per):List AC:=[.int .i64 x.lo, .int .i64 x.hi]
structure Val where
 kind:Int
 int:Int
 text:ByteArray
def cV (x:Val):List AC:=[.int .i64 x.kind, .int .i64 x.int, .str x.text]
structure Vio where
 kind:Int
 table:ByteArray
 index:Int
 row:(List Val)
 valid:Per
def cVio (x:Vio):List AC:=[.int .i64 x.kind, .str x.table, .int .i64 x.index, .lst (x.row.map cV), .int .i64 x.valid.lo, .int .i64 x.valid.hi]
inductive Ex where
 | mk (op:Int) (int:Int) (v:Val) (nm:ByteArray) (args:(List Ex))
mutual
def tE:Ex→List AC
 | .mk op int v nm args=>[.int .i64 op, .int .i64 int, .int .i64 v.kind, .int .i64 v.int, .str v.text, .str nm, .lst (tEs args)]
def tEs:List Ex→List (List AC)
 | []=>[]
 | e::l=>tE e::tEs l
end
theorem tEs_map : ∀ (l:List Ex),tEs l=l.map tE
 | []=>by simp [tEs]
 | e::l=>by simp [tEs,tEs_map l]
def Ex.op:Ex→Int | .mk a _ _ _ _=>a
def Ex.int:Ex→Int | .mk _ a _ _ _=>a
def Ex.v:Ex→Val | .mk _ _ a _ _=>a
def Ex.nm:Ex→ByteArray | .mk _ _ _ a _=>a
def Ex.args:Ex→(List Ex) | .mk _ _ _ _ a=>a
theorem tE_eq (e:Ex):tE e=[.int .i64 e.op, .int .i64 e.int, .int .i64 e.v.kind, .int .i64 e.v.int, .str e.v.text, .str e.nm, .lst (e.args.map tE)]:=by
 obtain ⟨_,_,_,_,_⟩:=e
 rw [tE,tEs_map];rfl
theorem tE_len (e:Ex):(tE e).length=7:=by rw [tE_eq];rfl
end Go.Proofs.YtngehibfdjdejaaGreatDoor
