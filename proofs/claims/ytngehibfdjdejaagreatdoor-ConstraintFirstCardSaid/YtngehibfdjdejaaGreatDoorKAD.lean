/- Parts of the proof, joined. No condition. -/
import Derived.Test.YtngehibfdjdejaaGreatDoorKAC
import Derived.LoopN
set_option linter.unusedSimpArgs false
set_option linter.unusedVariables false
namespace Go.Proofs.YtngehibfdjdejaaGreatDoor
open Go.RowKit
inductive AX where
 | normal
 | exit (id:Nat)
 | ret
 deriving DecidableEq
def AX.ex:AX→Exit
 | .normal => .normal
 | .exit id => .exit id
 | .ret => .ret
structure MvN (n0:Nat) (R R':PH) (γ γ':List Gh) (L L':List Ob):Prop where
 lo:n0≤L.length
 lo':n0≤L'.length
 mv:Mv R R' (γ.take n0) γ' (L.take n0) L'
theorem Mv.cutL {n0:Nat} {R R':PH} {γ γ':List Gh} {L L':List Ob} (h:Mv R R' γ γ' L L'):Mv R R' (γ.take n0) γ' (L.take n0) L':=by
 refine ⟨h.sub,by simp;have:=h.len;omega,fun t n k hlt e=>?_,fun t ver es k hlt e=>?_,fun id b e=>?_⟩
 ·have hlt':t<n0∧t<L.length:=by rw [List.length_take] at hlt;omega
  obtain ⟨m,a,b,c⟩:=h.tok t n k hlt'.2 e
  exact ⟨m,by rw [List.getElem?_take,if_pos hlt'.1];exact a,b,fun q=>by rw [List.getElem?_take,if_pos hlt'.1];exact c q⟩
 ·have hlt':t<n0∧t<L.length:=by rw [List.length_take] at hlt;omega
  obtain ⟨v0,m,a,b,c⟩:=h.row t ver es k hlt'.2 e
  exact ⟨v0,m,by rw [List.getElem?_take,if_pos hlt'.1];exact a,b,fun q=>⟨(c q).1,by rw [List.getElem?_take,if_pos hlt'.1];exact (c q).2⟩⟩
 ·rw [List.getElem?_take] at e
  split at e
  ·exact h.ptr id b e
  ·cases e
theorem Mv.cutR {n:Nat} {R R':PH} {γ γ':List Gh} {L L':List Ob} (h:Mv R R' γ γ' L L') (hg:γ.length=L.length) (hn:L.length≤n):Mv R R' γ (γ'.take n) L (L'.take n):=by
 refine ⟨h.sub,by simp;have:=h.len;omega,fun t m k hlt e=>?_,fun t ver es k hlt e=>?_,fun id b e=>?_⟩
 ·rw [List.getElem?_take,if_pos (by omega)] at e
  rw [List.getElem?_take,if_pos (by omega)]
  exact h.tok t m k hlt e
 ·rw [List.getElem?_take,if_pos (by omega)] at e
  rw [List.getElem?_take,if_pos (by omega)]
  exact h.row t ver es k hlt e
 ·have:=(List.getElem?_eq_some_iff.1 e).1
  rw [List.getElem?_take,if_pos (by omega)]
  exact h.ptr id b e
theorem MvN.of {n0:Nat} {R R':PH} {γ γ':List Gh} {L L':List Ob} (hn:n0≤L.length) (h:Mv R R' γ γ' L L'):MvN n0 R R' γ γ' L L':=⟨hn,Nat.le_trans hn h.len,h.cutL⟩
theorem MvN.trans {n0:Nat} {R R' R'':PH} {γ γ' γ'':List Gh} {L L' L'':List Ob} (hg:γ.length=L.length) (h:MvN n0 R R' γ γ' L L') (g:MvN n0 R' R'' γ' γ'' L' L''):MvN n0 R R'' γ γ'' L L'':=by
 refine ⟨h.lo,g.lo',Mv.trans (h.mv.cutR (n:=n0) (by simp [hg]) (by simp;omega)) g.mv⟩
theorem MvN.cut {n0:Nat} {R:PH} {γ:List Gh} {L G:List Ob} (hg:γ.length=(L++G).length) (hn:n0≤L.length):MvN n0 R R γ (γ.take L.length) (L++G) L:=by
 refine ⟨by simp;omega,hn,?_⟩
 have:=(Mv.refl (R:=R) (γ:=γ) (L:=L++G)).cutL (n0:=n0)
 have:=this.cutR (n:=L.length) (by simp at hg ⊢;omega) (by simp;omega)
 simpa using this
def AwPost (N n0:Nat) (B:Nat→Prop) (Q:AX→Tm→List Ob→Prop) (R:PH) (w:World) (γ:List Gh) (L:List Ob) (e:Exit) (a':Act) (w':World):Prop :=
 ∃ x T' L' R' γ',e=x.ex∧Q x T' L'∧Inv B R' γ' L' w'∧TRep N R' γ' L' T' a'∧Ext B R R' w w'∧MvN n0 R R' γ γ' L L'
def Aw (P:Program) (N n0:Nat) (c:Code) (Q:AX→Tm→List Ob→Prop) (T:Tm) (L:List Ob):Prop :=
 n0≤L.length → ∀ B R γ w a,Inv B R γ L w→TRep N R γ L T a→c.wp P (AwPost N n0 B Q R w γ L) a w
@[reducible] def AX.then (A:Tm→List Ob→Prop) (Q:AX→Tm→List Ob→Prop):AX→Tm→List Ob→Prop
 | .normal,T,L=>A T L
 | e,T,L=>Q e T L
@[reducible] def AX.inBlock (id:Nat) (Q:AX→Tm→List Ob→Prop):AX→Tm→List Ob→Prop
 | .exit j,T,L=>if j=id then Q .normal T L else Q (.exit j) T L
 | e,T,L=>Q e T L
section
variable {P:Program} {ti:TI} {N n0:Nat} {Q:AX→Tm→List Ob→Prop} {T:Tm} {L:List Ob}
theorem Aw.mono {c:Code} {Q':AX→Tm→List Ob→Prop} (h:Aw P N n0 c Q T L) (hq : ∀ x T L,Q x T L→Q' x T L):Aw P N n0 c Q' T L :=
 fun hn B R γ w a hi hT=>wp_mono (h hn B R γ w a hi hT) fun _ _ _ ⟨x,T',L',R',γ',e,q,r⟩=>⟨x,T',L',R',γ',e,hq _ _ _ q,r⟩
theorem AwPost.ext {B:Nat→Prop} {R R1:PH} {w w1:World} {γ γ1:List Gh} {L1:List Ob} {e:Exit} {a':Act} {w':World} (h:AwPost N n0 B Q R1 w1 γ1 L1 e a' w') (he:Ext B R R1 w w1) (hg:γ.length=L.length) (hm:MvN n0 R R1 γ γ1 L L1):AwPost N n0 B Q R w γ L e a' w' :=
 let ⟨x,T',L',R',γ',h1,h2,h3,h4,h5,h6⟩:=h;⟨x,T',L',R',γ',h1,h2,h3,h4,he.trans h5,hm.trans hg h6⟩
theorem aw_skip (h:Q .normal T L):Aw P N n0 .skip Q T L:=fun hn _ R γ w a hi hT=>wp_skip ⟨.normal,T,L,R,γ,rfl,h,hi,hT,Ext.refl _ _ _,MvN.of hn Mv.refl⟩
theorem aw_label {l:Nat} (h:Q .normal T L):Aw P N n0 (.label l) Q T L:=fun hn _ R γ w a hi hT=>wp_label ⟨.normal,T,L,R,γ,rfl,h,hi,hT,Ext.refl _ _ _,MvN.of hn Mv.refl⟩
theorem aw_ret (h:Q .ret T L):Aw P N n0 .ret Q T L:=fun hn _ R γ w a hi hT=>wp_ret ⟨.ret,T,L,R,γ,rfl,h,hi,hT,Ext.refl _ _ _,MvN.of hn Mv.refl⟩
theorem aw_exit {id:Nat} (h:Q (.exit id) T L):Aw P N n0 (.exit id) Q T L:=fun hn _ R γ w a hi hT=>wp_exit ⟨.exit id,T,L,R,γ,rfl,h,hi,hT,Ext.refl _ _ _,MvN.of hn Mv.refl⟩
theorem aw_seq {x y:Code} (h:Aw P N n0 x (AX.then (Aw P N n0 y Q) Q) T L):Aw P N n0 (.seq x y) Q T L:=by
 intro hn B R γ w a hi hT
 refine wp_seq (wp_mono (h hn B R γ w a hi hT) ?_)
 rintro e a1 w1 ⟨x,T1,L1,R1,γ1,rfl,q,i1,t1,e1,m1⟩
 cases x with
 | normal=>exact wp_mono (q m1.lo' B R1 γ1 w1 a1 i1 t1) fun _ _ _ hh=>hh.ext e1 hi.len m1
 | exit id=>exact ⟨.exit id,T1,L1,R1,γ1,rfl,q,i1,t1,e1,m1⟩
 | ret=>exact ⟨.ret,T1,L1,R1,γ1,rfl,q,i1,t1,e1,m1⟩
theorem aw_cond {c:Operand} {x y:Code} {b:Bool} (hc:look T c=some (.one (.c (.bool b)))) (h1:b=true→Aw P N n0 x Q T L) (h2:b=false→Aw P N n0 y Q T L):Aw P N n0 (.cond c x y) Q T L:=by
 intro hn B R γ w a hi hT
 have hv:=look_rep hT hc
 have he:a.eval c = .bool b:=by
  generalize a.eval c=v at hv
  cases hv;rfl
 exact wp_cond_split he (fun e=>h1 e hn B R γ w a hi hT) (fun e=>h2 e hn B R γ w a hi hT)
theorem aw_block {id:Nat} {c:Code} (h:Aw P N n0 c (AX.inBlock id Q) T L):Aw P N n0 (.block id c) Q T L:=by
 intro hn B R γ w a hi hT
 refine wp_block (wp_mono (h hn B R γ w a hi hT) ?_)
 rintro e a1 w1 ⟨x,T1,L1,R1,γ1,rfl,q,i1,t1,e1,m1⟩
 cases x with
 | normal=>exact ⟨.normal,T1,L1,R1,γ1,rfl,q,i1,t1,e1,m1⟩
 | ret=>exact ⟨.ret,T1,L1,R1,γ1,rfl,q,i1,t1,e1,m1⟩
 | exit j =>
  simp only [AX.inBlock] at q
  by_cases hj:j=id
  ·subst hj
   rw [if_pos rfl] at q
   show Exit.inBlock j _ (.exit j) a1 w1
   simp only [Exit.inBlock,if_true]
   exact ⟨.normal,T1,L1,R1,γ1,rfl,q,i1,t1,e1,m1⟩
  ·rw [if_neg hj] at q
   show Exit.inBlock id _ (.exit j) a1 w1
   simp only [Exit.inBlock,if_neg hj]
   exact ⟨.exit j,T1,L1,R1,γ1,rfl,q,i1,t1,e1,m1⟩
theorem dsts {l:List Oper} {ds:List (Option Tmp)} (hds:l.map (·.dst)=ds) (j:Nat):(l.toArray[j]?).map (·.dst)=ds[j]?:=by rw [← hds];simp
theorem aw_region (hti:TIok P ti) {id:Nat} {l:List Oper} (ds:List (Option Tmp)) (hds:l.map (·.dst)=ds) (h:awOps P ti N ds (Q .normal) l T L):Aw P N n0 (.region id l.toArray false) Q T L:=by
 intro hn B R γ w a hi hT
 refine wp_region_lit (awOps_sound hti (dsts hds) l R γ L T a w h hi hT ?_)
 intro T' L' R' γ' w' a' hk h1 h2 h3 h4
 exact ⟨.normal,T',L',R',γ',rfl,hk,h1,h2,h3,MvN.of hn h4⟩
structure Fits (T':Tm) (L':List Ob) (T:Tm) (L:List Ob):Prop where
 slots : ∀ p∈T,T'.lookup p.1=some p.2
 pre : ∃ G,L'=L++G
 below : ∀ p∈T,p.2.below L.length
 objs : ∀ x∈L,x.below L.length
theorem SV.cut {R:PH} {γ:List Gh} {L G:List Ob} (hl:γ.length=(L++G).length) {x:SV} {v:Value} (h:x.rep R γ (L++G) v) (hb:x.below L.length):x.rep R (γ.take L.length) L v:=by
 cases x with
 | c y=>exact h
 | emp=>exact h
 | own es t =>
  obtain ⟨h1,_,h2⟩:=h
  have ht:t<L.length:=hb
  refine ⟨h1,ht,fun n k e0=>?_⟩
  obtain ⟨h3,h4,h5⟩:=h2 n k (by rw [List.getElem?_append_left ht];exact e0)
  refine ⟨h3,h4,fun e=>?_⟩
  obtain ⟨g,g1,g2⟩:=h5 e
  exact ⟨g,by rw [List.getElem?_take,if_pos ht];exact g1,g2⟩
 | ptr id off =>
  obtain ⟨b,h1,h2⟩:=h
  have ht:id<L.length:=hb
  exact ⟨b,h1,by rw [List.getElem?_take,if_pos ht];exact h2⟩
 | sl id ver lo n =>
  obtain ⟨h0,_,h2⟩:=h
  have ht:id<L.length:=hb
  refine ⟨h0,ht,fun ver' es k e0=>?_⟩
  rw [List.getElem?_take,if_pos ht]
  exact h2 ver' es k (by rw [List.getElem?_append_left ht];exact e0)
 | ep id ver i o =>
  obtain ⟨h0,_,h2⟩:=h
  have ht:id<L.length:=hb
  refine ⟨h0,ht,fun ver' es k e0=>?_⟩
  rw [List.getElem?_take,if_pos ht]
  exact h2 ver' es k (by rw [List.getElem?_append_left ht];exact e0)
 | mp id =>
  obtain ⟨b,h1,h2⟩:=h
  have ht:id<L.length:=hb
  exact ⟨b,h1,by rw [List.getElem?_take,if_pos ht];exact h2⟩
 | clo f caps =>
  obtain ⟨vs,h1,h2,h3⟩:=h
  refine ⟨vs,h1,h2,fun j u x hu hx=>?_⟩
  have hr:=h3 j u x hu hx
  have hbx:x.below L.length:=hb x (List.mem_of_getElem? hx)
  cases x with
  | c y=>exact hr
  | ptr id off =>
   obtain ⟨b,g1,g2⟩:=hr
   have ht:id<L.length:=hbx
   exact ⟨b,g1,by rw [List.getElem?_take,if_pos ht];exact g2⟩
theorem AV.cut {R:PH} {γ:List Gh} {L G:List Ob} (hl:γ.length=(L++G).length) {x:AV} {v:Value} (h:x.rep R γ (L++G) v) (hb:x.below L.length):x.rep R (γ.take L.length) L v:=by
 cases x with
 | one x=>exact SV.cut hl h hb
 | agg xs =>
  obtain ⟨vs,h1,h2,h3⟩:=h
  exact ⟨vs,h1,h2,fun j u x hu hx=>SV.cut hl (h3 j u x hu hx) (hb x (List.mem_of_getElem? hx))⟩
 | tup ps=>exact h
 | tupS xs =>
  obtain ⟨vs,h1,h2,h3⟩:=h
  exact ⟨vs,h1,h2,fun j u x hu hx=>SV.cut hl (h3 j u x hu hx) (hb x (List.mem_of_getElem? hx))⟩
 | undef=>exact h
theorem lookup_mem : ∀ {T:Tm} {t:Nat} {x:AV}, T.lookup t=some x→(t,x)∈T
 | (k,y)::T,t,x,h=>by
  rw [List.lookup_cons] at h
  by_cases e:t=k
  ·subst e;simp at h;subst h;exact List.mem_cons_self ..
  ·have:(t==k)=false:=by simpa using e
   rw [this] at h
   exact List.mem_cons_of_mem _ (lookup_mem h)
theorem Fits.sound {T':Tm} {L':List Ob} (hf:Fits T' L' T L) {B:Nat→Prop} {R:PH} {γ:List Gh} {w:World} {a:Act} (hi:Inv B R γ L' w) (hT:TRep N R γ L' T' a):Inv B R (γ.take L.length) L w∧TRep N R (γ.take L.length) L T a:=by
 obtain ⟨G,rfl⟩:=hf.pre
 have hl:γ.length=(L++G).length:=hi.len
 have hlen:(γ.take L.length).length=L.length:=by rw [List.length_take,hl];simp
 have get : ∀ (i:Nat) g,(γ.take L.length)[i]?=some g→i<L.length∧γ[i]?=some g:=by
  intro i g hg
  rw [List.getElem?_take] at hg
  split at hg
  ·rename_i h;exact ⟨h,hg⟩
  ·cases hg
 refine ⟨⟨hlen,hi.val,fun id x g hx hg=>?_,fun i j gi gj h1 h2=>hi.inj i j gi gj (get i gi h1).2 (get j gj h2).2,fun i g b hg=>hi.new i g b (get i g hg).2,hi.bsz⟩,⟨hT.size,hT.defers,fun t x h=>?_⟩⟩
 ·obtain ⟨hlt,hg'⟩:=get id g hg
  have hobj:=hi.obj id x g (by rw [List.getElem?_append_left hlt];exact hx) hg'
  have hb:=hf.objs x (List.mem_of_getElem? hx)
  match x,g,hobj,hb with
  | .box cs, .box b,⟨⟨vs,E,h1,h2,h3⟩,h4⟩,hb=>exact ⟨⟨vs,E,h1,h2,fun j u x hu hx=>SV.cut hl (h3 j u x hu hx) (hb x (List.mem_of_getElem? hx))⟩,h4⟩
  | .spare n k, .arr b c,hobj,_=>exact hobj
  | .spare n k, .none,hobj,_=>exact hobj
  | .row ver es k, .arr b c,⟨⟨vs,E,h1,h2,h3⟩,h4⟩,hb=>exact ⟨⟨vs,E,h1,h2,fun i e j u x he hu hx=>SV.cut hl (h3 i e j u x he hu hx) (hb e (List.mem_of_getElem? he) x (List.mem_of_getElem? hx))⟩,h4⟩
  | .row ver es k, .none,hobj,_=>exact hobj
  | .map kvs, .box b,⟨⟨es,h1,h2,h3⟩,h4⟩,hb=>exact ⟨⟨es,h1,h2,fun j e p he hp=>⟨(h3 j e p he hp).1,(h3 j e p he hp).2.1,AV.cut hl (h3 j e p he hp).2.2 (hb p (List.mem_of_getElem? hp))⟩⟩,h4⟩
  | .dead, .none,hobj,_=>exact hobj
  | .dead, .box _,hobj,_=>exact hobj
 ·have hm:=lookup_mem h
  obtain ⟨u,h1,h2⟩:=hT.slot t x (hf.slots (t,x) hm)
  exact ⟨u,h1,AV.cut hl h2 (hf.below (t,x) hm)⟩
theorem Fits.mvn {T':Tm} {L':List Ob} (hf:Fits T' L' T L) {B:Nat→Prop} {R:PH} {γ:List Gh} {w:World} (hi:Inv B R γ L' w) (hn:n0≤L.length):MvN n0 R R γ (γ.take L.length) L' L:=by
 obtain ⟨G,rfl⟩:=hf.pre
 exact MvN.cut hi.len hn
def resOne (ti:TI) (T:Tm) (L:List Ob):ResultVar→Option (PV × Prop)
 | .tmp t=>((T.lookup t).bind AV.norm).map fun p=>(p,True)
 | .cell a t=>match T.lookup a with
  | some (.one (.ptr id off))=>match popLoad ti L t (.one (.ptr id off)) with
   | some (v,φ)=>v.norm.map fun p=>(p,φ)
   | none=>none
  | _=>none
def resAll (ti:TI) (T:Tm) (L:List Ob):List ResultVar→Option (List PV × Prop)
 | []=>some ([],True)
 | r::rs=>match resOne ti T L r,resAll ti T L rs with
  | some (p,φ),some (ps,ψ)=>some (p::ps,φ∧ψ)
  | _,_=>none
def cvOf:List PV→CV
 | [p] => .val p
 | ps => .tup ps
def Res (ti:TI) (rs:List ResultVar) (T:Tm) (L:List Ob) (r:CV):Prop :=
 match resAll ti T L rs with
 | some (ps,φ)=>φ∧cvOf ps=r
 | none=>False
def resSem (tmps:Array Value):ResultVar→Sem Value
 | .tmp t=>pure (tmps.getD t Go.undef)
 | .cell ad t=>do loadVar t (← asAddr (tmps.getD ad Go.undef))
theorem results_eq (fn:Func) (tmps:Array Value):results fn tmps=(do let vs ← fn.results.mapM (resSem tmps);pure (if h:vs.size=1 then vs[0] else .tuple vs)):=by
 unfold results
 congr
theorem resOne_sound (hti:TIok P ti) {B:Nat→Prop} {R:PH} {γ:List Gh} {w:World} {a:Act} (hi:Inv B R γ L w) (hT:TRep N R γ L T a) {rv:ResultVar} {p:PV} {φ:Prop} (h:resOne ti T L rv=some (p,φ)) (hφ:φ) :
  ∃ u,(resSem a.tmps rv).run P w = .ok u w∧p.rep R u:=by
 cases rv with
 | tmp t =>
  simp only [resOne] at h
  cases hl:T.lookup t with
  | none=>simp [hl] at h
  | some x =>
   simp only [hl,Option.bind_some] at h
   cases hn:x.norm with
   | none=>simp [hn] at h
   | some q =>
    simp only [hn,Option.map_some,Option.some.injEq,Prod.mk.injEq] at h
    obtain ⟨rfl,_⟩:=h
    obtain ⟨u,h1,h2⟩:=hT.slot t x hl
    exact ⟨u,by simp [resSem,Array.getD_eq_getD_getElem?,h1],AV.norm_rep h2 hn⟩
 | cell ad t =>
  simp only [resOne] at h
  split at h
  ·rename_i id off hl
   split at h
   ·rename_i v ψ hp
    cases hn:v.norm with
    | none=>simp [hn] at h
    | some q =>
     simp only [hn,Option.map_some,Option.some.injEq,Prod.mk.injEq] at h
     obtain ⟨rfl,h2⟩:=h
     subst h2
     obtain ⟨u,h1,hu⟩:=hT.slot ad _ hl
     obtain ⟨b,rfl,hg⟩:=hu
     obtain ⟨u',r1,r2⟩:=popLoad_sound hti hi (va := .one (.ptr id off)) (u1 := .pointer (some ⟨b,off,none⟩)) ⟨b,rfl,hg⟩ hp hφ
     refine ⟨u',?_,AV.norm_rep r2 hn⟩
     simp only [Instr.loadAt,Instr.sureAddr] at r1
     simpa [resSem,Array.getD_eq_getD_getElem?,h1,asAddr] using r1
   ·cases h
  ·cases h
theorem resAll_sound (hti:TIok P ti) {B:Nat→Prop} {R:PH} {γ:List Gh} {w:World} {a:Act} (hi:Inv B R γ L w) (hT:TRep N R γ L T a) : ∀ {rs:List ResultVar} {ps:List PV} {φ:Prop}, resAll ti T L rs=some (ps,φ)→φ →
  ∃ us:List Value,(rs.mapM (resSem a.tmps)).run P w = .ok us w∧us.length=ps.length ∧ ∀ (j:Nat) u p,us[j]?=some u→ps[j]?=some p→p.rep R u
 | [],ps,φ,h,_=>by
  simp only [resAll,Option.some.injEq,Prod.mk.injEq] at h
  obtain ⟨rfl,_⟩:=h
  exact ⟨[],rfl,rfl,fun j u p hu=>by simp at hu⟩
 | r::rs,ps,φ,h,hφ=>by
  unfold resAll at h
  split at h
  ·rename_i p ψ ps' χ h1 h2
   simp only [Option.some.injEq,Prod.mk.injEq] at h
   obtain ⟨rfl,rfl⟩:=h
   obtain ⟨u,r1,r2⟩:=resOne_sound hti hi hT h1 hφ.1
   obtain ⟨us,s1,s2,s3⟩:=resAll_sound hti hi hT h2 hφ.2
   refine ⟨u::us,?_,by simp [s2],fun j v q hv hq=>?_⟩
   ·rw [List.mapM_cons]
    simp only [Sem.run_bind,r1,Result.andThen_ok,s1,Sem.run_pure]
   ·cases j with
    | zero=>simp at hv hq;subst hv hq;exact r2
    | succ j=>exact s3 j v q (by simpa using hv) (by simpa using hq)
  ·cases h
theorem Res.sound (hti:TIok P ti) {B:Nat→Prop} {R:PH} {γ:List Gh} {w:World} {a:Act} (hi:Inv B R γ L w) (hT:TRep N R γ L T a) {fn:Func} {r:CV} (h:Res ti fn.results.toList T L r) :
  ∃ v,(results fn a.tmps).run P w = .ok v w∧r.rep R v:=by
 unfold Res at h
 split at h
 ·rename_i ps φ hp
  obtain ⟨hφ,rfl⟩:=h
  obtain ⟨us,s1,s2,s3⟩:=resAll_sound hti hi hT hp hφ
  have hm:(fn.results.mapM (resSem a.tmps)).run P w = .ok us.toArray w:=by
   rw [Array.mapM_eq_mapM_toList]
   simp only [Sem.run_map,s1,Result.andThen_ok]
  refine ⟨if h:us.toArray.size=1 then us.toArray[0] else .tuple us.toArray,?_,?_⟩
  ·rw [results_eq]
   simp only [Sem.run_bind]
   rw [hm]
   rfl
  ·match us,ps,s2,s3 with
   | [u],[p],_,s3=>exact s3 0 u p rfl rfl
   | [],[],_,_=>exact ⟨#[],rfl,rfl,fun j u p hu=>by simp at hu⟩
   | u1::u2::us,p1::p2::ps,s2,s3 =>
    rw [dif_neg (by simp)]
    exact ⟨_,rfl,by simpa using s2,fun j u p hu hp=>s3 j u p (by simpa using hu) hp⟩
 ·exact h.elim
def argT:Nat→List PV→Tm
 | _,[]=>[]
 | i,p::ps=>(i,p.av)::argT (i+1) ps
theorem argT_lookup : ∀ (ps:List PV) (i t:Nat) (x:AV),(argT i ps).lookup t=some x → ∃ p,ps[t-i]?=some p∧x=p.av∧i≤t
 | [],i,t,x,h=>by simp [argT] at h
 | p::ps,i,t,x,h=>by
  rw [argT,List.lookup_cons] at h
  by_cases e:t=i
  ·subst e
   simp at h;subst h
   exact ⟨p,by simp,rfl,Nat.le_refl _⟩
  ·have:(t==i)=false:=by simpa using e
   rw [this] at h
   obtain ⟨q,h1,h2,h3⟩:=argT_lookup ps (i+1) t x h
   refine ⟨q,?_,h2,by omega⟩
   have:t-i=(t-(i+1))+1:=by omega
   rw [this,List.getElem?_cons_succ];exact h1
theorem pa_ (hti : TIok P ti) {f : FuncId} {fn : Func} {c : Code} {args : List PV} {r : CV} (hf : P.funcs[f]? = some fn) (hb : fn.body = some c) (hname : (fn.name == "runtime.NumGoroutine") = false) (hN : fn.ntmps = N) (hlen : args.length ≤ N)
  (h:Aw P N 0 c (fun x T L=>(x = .normal∨x = .ret)∧Res ti fn.results.toList T L r) (argT 0 args) []):Pure P f args r:=by
 refine ⟨⟨fn,hf,by rw [hb];rfl,hname⟩,fun R w vs hR hs hv=>?_⟩
 refine calls_of_wp hf hb ?_
 have hi:Inv (· < w.heap.size) R [] [] w:=⟨rfl,hR,fun id x g hx=>by simp at hx,fun i j gi gj h=>by simp at h,fun i g b h=>by simp at h,fun _ h=>h⟩
 have hT:TRep N R [] [] (argT 0 args) { tmps:=vs++Array.replicate (fn.ntmps-vs.size) Go.undef,defers:=[] } := by
  refine ⟨by simp;omega,rfl,fun t x ht=>?_⟩
  obtain ⟨p,h1,rfl,_⟩:=argT_lookup args 0 t x ht
  rw [Nat.sub_zero] at h1
  have hlt:t<vs.size:=by rw [hs];exact (List.getElem?_eq_some_iff.1 h1).1
  have hu:vs[t]?=some vs[t]:=Array.getElem?_eq_getElem hlt
  exact ⟨vs[t],by rw [Array.getElem?_append_left hlt];exact hu,PV.av_rep (hv t _ p hu h1)⟩
 refine wp_mono (h (Nat.zero_le _) (· < w.heap.size) R [] w _ hi hT) ?_
 rintro e a' w' ⟨x,T',L',R',γ',rfl,⟨hx,hres⟩,i1,t1,e1,_⟩
 obtain ⟨v,h1,h2⟩:=Res.sound hti i1 t1 hres
 rcases hx with rfl|rfl
 ·exact ⟨t1.defers,v,h1,v,R',rfl,e1,i1.val,h2⟩
 ·exact ⟨t1.defers,v,h1,v,R',rfl,e1,i1.val,h2⟩
end
section
variable {P:Program} {ti:TI} {N n0:Nat} {T:Tm} {L:List Ob}
def RunVal (ti:TI) (rs:List ResultVar) (T:Tm) (L:List Ob) (r:AV):Prop :=
 (∃ t,rs=[.tmp t]∧T.lookup t=some r)∨(∃ q,Res ti rs T L q∧r=q.av)
structure RunRes (ti:TI) (rs:List ResultVar) (n0:Nat) (L1:List Ob) (r:AV) (T:Tm) (L:List Ob):Prop where
 val:RunVal ti rs T L r
 pre : ∃ G,L=L1++G
 lo:n0≤L1.length
 obb : ∀ x∈L1,x.below L1.length
 vb:r.below L1.length
theorem RunVal.sound (hti:TIok P ti) {B:Nat→Prop} {R:PH} {γ:List Gh} {w:World} {a:Act} (hi:Inv B R γ L w) (hT:TRep N R γ L T a) {fn:Func} {r:AV} (h:RunVal ti fn.results.toList T L r) :
  ∃ v,(results fn a.tmps).run P w = .ok v w∧r.rep R γ L v:=by
 rcases h with ⟨t,hr,ht⟩|⟨q,hr,rfl⟩
 ·obtain ⟨u,h1,h2⟩:=hT.slot t r ht
  refine ⟨u,?_,h2⟩
  have e:fn.results = #[.tmp t]:=by cases h:fn.results;rw [h] at hr;simp at hr;rw [hr]
  rw [results_eq,e]
  simp [resSem,h1]
 ·obtain ⟨v,h1,h2⟩:=Res.sound hti hi hT hr
  exact ⟨v,h1,CV.av_rep h2⟩
def argA:Nat→List AV→Tm
 | _,[]=>[]
 | i,p::ps=>(i,p)::argA (i+1) ps
theorem argA_lookup : ∀ (ps:List AV) (i t:Nat) (x:AV),(argA i ps).lookup t=some x→ps[t-i]?=some x∧i≤t
 | [],i,t,x,h=>by simp [argA] at h
 | p::ps,i,t,x,h=>by
  rw [argA,List.lookup_cons] at h
  by_cases e:t=i
  ·subst e
   simp at h;subst h
   exact ⟨by simp,Nat.le_refl _⟩
  ·have:(t==i)=false:=by simpa using e
   rw [this] at h
   obtain ⟨h1,h3⟩:=argA_lookup ps (i+1) t x h
   refine ⟨?_,by omega⟩
   have:t-i=(t-(i+1))+1:=by omega
   rw [this,List.getElem?_cons_succ];exact h1
theorem run_of_aw (hti : TIok P ti) {f : FuncId} {fn : Func} {c : Code} {args : List AV} {L0 L1 : List Ob} {r : AV} (hf : P.funcs[f]? = some fn) (hb : fn.body = some c) (hname : (fn.name == "runtime.NumGoroutine") = false) (hN : fn.ntmps = N) (hlen : args.length ≤ N)
  (h:Aw P N L0.length c (fun x T L=>(x = .normal∨x = .ret)∧RunRes ti fn.results.toList L0.length L1 r T L) (argA 0 args) L0):Run P f L0 args L1 r:=by
 refine ⟨⟨fn,hf,by rw [hb];rfl,hname⟩,fun B R γ w vs hi hs hv=>?_⟩
 refine calls_of_wp hf hb ?_
 have hT:TRep N R γ L0 (argA 0 args) { tmps:=vs++Array.replicate (fn.ntmps-vs.size) Go.undef,defers:=[] } := by
  refine ⟨by simp;omega,rfl,fun t x ht=>?_⟩
  obtain ⟨h1,_⟩:=argA_lookup args 0 t x ht
  rw [Nat.sub_zero] at h1
  have hlt:t<vs.size:=by rw [hs];exact (List.getElem?_eq_some_iff.1 h1).1
  have hu:vs[t]?=some vs[t]:=Array.getElem?_eq_getElem hlt
  exact ⟨vs[t],by rw [Array.getElem?_append_left hlt];exact hu,hv t _ x hu h1⟩
 refine wp_mono (h (Nat.le_refl _) B R γ w _ hi hT) ?_
 rintro e a' w' ⟨x,T',L',R',γ',rfl,⟨hx,hres⟩,i1,t1,e1,m1⟩
 obtain ⟨v,h1,h2⟩:=RunVal.sound hti i1 t1 hres.val
 obtain ⟨G,rfl⟩:=hres.pre
 have hfit:Fits ([]:Tm) (L1++G) [] L1:=⟨fun p hp=>(by cases hp),⟨G,rfl⟩,fun p hp=>(by cases hp),hres.obb⟩
 have hnil:TRep N R' γ' (L1++G) ([]:Tm) a':=⟨t1.size,t1.defers,fun t x hx=>by simp at hx⟩
 obtain ⟨j1,_⟩:=hfit.sound i1 hnil
 have hmv:=m1.trans hi.len (hfit.mvn i1 hres.lo)
 have hmv':Mv R R' γ (γ'.take L1.length) L0 L1:=by
  have:=hmv.mv
  rw [List.take_of_length_le (Nat.le_refl _),List.take_of_length_le (by rw [hi.len];exact Nat.le_refl _)] at this
  exact this
 have hrep:=AV.cut i1.len h2 hres.vb
 rcases hx with rfl|rfl
 ·exact ⟨t1.defers,v,h1,v,R',_,rfl,j1,e1,hmv',hrep⟩
 ·exact ⟨t1.defers,v,h1,v,R',_,rfl,j1,e1,hmv',hrep⟩
def RunVal2 (rs:List ResultVar) (T:Tm) (r:AV):Prop :=
 ∃ s t x y,rs=[.tmp s, .tmp t]∧T.lookup s=some (.one x)∧T.lookup t=some (.one y)∧r = .tupS [x,y]
structure RunRes2 (rs:List ResultVar) (n0:Nat) (L1:List Ob) (r:AV) (T:Tm) (L:List Ob):Prop where
 val:RunVal2 rs T r
 pre : ∃ G,L=L1++G
 lo:n0≤L1.length
 obb : ∀ x∈L1,x.below L1.length
 vb:r.below L1.length
theorem RunVal2.sound {R:PH} {γ:List Gh} {w:World} {a:Act} (hT:TRep N R γ L T a) {fn:Func} {r:AV} (h:RunVal2 fn.results.toList T r) :
  ∃ v,(results fn a.tmps).run P w = .ok v w∧r.rep R γ L v:=by
 obtain ⟨s,t,x,y,hr,hs,ht,rfl⟩:=h
 obtain ⟨u,h1,h2⟩:=hT.slot s _ hs
 obtain ⟨v,h3,h4⟩:=hT.slot t _ ht
 refine ⟨.tuple #[u,v],?_, #[u,v],rfl,rfl,fun j z p hz hp=>?_⟩
 ·have e:fn.results = #[.tmp s, .tmp t]:=by cases h:fn.results;rw [h] at hr;simp at hr;rw [hr]
  rw [results_eq,e]
  simp [resSem,h1,h3]
 ·match j,hz,hp with
  | 0,hz,hp=>simp at hz hp;subst hz hp;exact h2
  | 1,hz,hp=>simp at hz hp;subst hz hp;exact h4
  | j+2,hz,hp=>simp at hp
theorem run_of_aw2 (hti : TIok P ti) {f : FuncId} {fn : Func} {c : Code} {args : List AV} {L0 L1 : List Ob} {r : AV} (hf : P.funcs[f]? = some fn) (hb : fn.body = some c) (hname : (fn.name == "runtime.NumGoroutine") = false) (hN : fn.ntmps = N) (hlen : args.length ≤ N)
  (h:Aw P N L0.length c (fun x T L=>(x = .normal∨x = .ret)∧RunRes2 fn.results.toList L0.length L1 r T L) (argA 0 args) L0):Run P f L0 args L1 r:=by
 refine ⟨⟨fn,hf,by rw [hb];rfl,hname⟩,fun B R γ w vs hi hs hv=>?_⟩
 refine calls_of_wp hf hb ?_
 have hT:TRep N R γ L0 (argA 0 args) { tmps:=vs++Array.replicate (fn.ntmps-vs.size) Go.undef,defers:=[] } := by
  refine ⟨by simp;omega,rfl,fun t x ht=>?_⟩
  obtain ⟨h1,_⟩:=argA_lookup args 0 t x ht
  rw [Nat.sub_zero] at h1
  have hlt:t<vs.size:=by rw [hs];exact (List.getElem?_eq_some_iff.1 h1).1
  have hu:vs[t]?=some vs[t]:=Array.getElem?_eq_getElem hlt
  exact ⟨vs[t],by rw [Array.getElem?_append_left hlt];exact hu,hv t _ x hu h1⟩
 refine wp_mono (h (Nat.le_refl _) B R γ w _ hi hT) ?_
 rintro e a' w' ⟨x,T',L',R',γ',rfl,⟨hx,hres⟩,i1,t1,e1,m1⟩
 obtain ⟨v,h1,h2⟩:=RunVal2.sound t1 hres.val
 obtain ⟨G,rfl⟩:=hres.pre
 have hfit:Fits ([]:Tm) (L1++G) [] L1:=⟨fun p hp=>(by cases hp),⟨G,rfl⟩,fun p hp=>(by cases hp),hres.obb⟩
 have hnil:TRep N R' γ' (L1++G) ([]:Tm) a':=⟨t1.size,t1.defers,fun t x hx=>by simp at hx⟩
 obtain ⟨j1,_⟩:=hfit.sound i1 hnil
 have hmv:=m1.trans hi.len (hfit.mvn i1 hres.lo)
 have hmv':Mv R R' γ (γ'.take L1.length) L0 L1:=by
  have:=hmv.mv
  rw [List.take_of_length_le (Nat.le_refl _),List.take_of_length_le (by rw [hi.len];exact Nat.le_refl _)] at this
  exact this
 have hrep:=AV.cut i1.len h2 hres.vb
 rcases hx with rfl|rfl
 ·exact ⟨t1.defers,v,h1,v,R',_,rfl,j1,e1,hmv',hrep⟩
 ·exact ⟨t1.defers,v,h1,v,R',_,rfl,j1,e1,hmv',hrep⟩
end
section
variable {P:Program} {ti:TI} {L:List Ob}
theorem elemsOf_congr {ρ ρ':Operand→Option AV} : ∀ (ps:List (Nat × Operand)) (j:Nat),(∀ p∈ps,ρ p.2=ρ' p.2)→elemsOf ρ ps j=elemsOf ρ' ps j
 | [],_,_=>rfl
 | (i,x)::ps,j,h=>by
  have h1:ρ x=ρ' x:=h (i,x) (by simp)
  have h2:=elemsOf_congr ps (j+1) fun p hp=>h p (List.mem_cons_of_mem _ hp)
  simp only [elemsOf,h1,h2]
theorem normArgs_congr {ρ ρ':Operand→Option AV} : ∀ (xs:List Operand),(∀ x∈xs,ρ x=ρ' x)→normArgs ρ xs=normArgs ρ' xs
 | [],_=>rfl
 | x::xs,h=>by
  have h1:ρ x=ρ' x:=h x (by simp)
  have h2:=normArgs_congr xs fun y hy=>h y (List.mem_cons_of_mem _ hy)
  simp only [normArgs,h1,h2]
theorem pop_congr {ρ ρ':Operand→Option AV} {op:Op} (h : ∀ x,x∈op.operands→ρ x=ρ' x):pop ti ρ L op=pop ti ρ' L op:=by
 unfold pop
 split
 ·rename_i x;rw [h x (by simp [Op.operands])]
 ·rename_i x;rw [h x (by simp [Op.operands])]
 ·rename_i c x y;rw [h c (by simp [Op.operands]),h x (by simp [Op.operands]),h y (by simp [Op.operands])]
 ·rename_i o t x y yt;rw [h x (by simp [Op.operands]),h y (by simp [Op.operands])]
 ·rename_i o t x;rw [h x (by simp [Op.operands])]
 ·rename_i s d x;rw [h x (by simp [Op.operands])]
 ·rename_i t x;rw [h x (by simp [Op.operands])]
 ·rename_i s x i;rw [h x (by simp [Op.operands])]
 ·rename_i s x i;rw [h x (by simp [Op.operands])]
 ·rename_i t x y;rw [h x (by simp [Op.operands]),h y (by simp [Op.operands])]
 ·rename_i t x y;rw [h x (by simp [Op.operands]),h y (by simp [Op.operands])]
 ·rename_i x i;rw [h x (by simp [Op.operands])]
 ·rename_i x;rw [h x (by simp [Op.operands])]
 ·rename_i t x lo hi
  have h1:lo.map ρ=lo.map ρ':=by cases lo with|none=>rfl|some y=>simp [h y (by simp [Op.operands])]
  have h2:hi.map ρ=hi.map ρ':=by cases hi with|none=>rfl|some y=>simp [h y (by simp [Op.operands])]
  rw [h x (by simp [Op.operands]),h1,h2]
 ·rename_i args ts
  split
  ·rename_i x t hx ht
   rw [h x (by simp [Op.operands,Call.operands];rw [← Array.mem_toList_iff,hx];simp)]
  ·rfl
 ·rename_i args ts
  have:args.toList.map ρ=args.toList.map ρ':=List.map_congr_left fun x hx=>h x (by simp [Op.operands,Call.operands];simpa using hx)
  rw [this]
 ·rename_i args ts
  have:args.toList.map ρ=args.toList.map ρ':=List.map_congr_left fun x hx=>h x (by simp [Op.operands,Call.operands];simpa using hx)
  rw [this]
 ·rename_i t parts
  have:(parts.toList.map fun p=>(p.1,ρ p.2))=parts.toList.map fun p=>(p.1,ρ' p.2):=List.map_congr_left fun p hp=>by
   rw [h p.2 (by simp only [Op.operands,List.mem_toArray];exact List.mem_map_of_mem hp)]
  rw [this]
 ·rename_i f first captured
  have:captured.toList.map ρ=captured.toList.map ρ':=List.map_congr_left fun x hx=>h x (by simp [Op.operands];exact .inr (by simpa using hx))
  rw [this]
 ·rfl
theorem lop_kind {ρ:Operand→Option AV} {op:Op} {r:AV × List Ob × Prop} (h:lop ti ρ L op=some r):lKind ti op=true:=by
 unfold lop at h
 split at h
 ·rfl
 ·rfl
 ·rfl
 ·rfl
 ·cases h
theorem callOpO_kind {ρ:Operand→Option AV} {op:Op} {r:FuncId × List (List AC) × Option Nat × List PV} (h:callOpO ti ρ op=some r):lKind ti op=true:=by
 unfold callOpO at h
 split at h
 ·rename_i f args ts
  split at h
  ·rename_i x xs ho hxs;exact ho
  ·cases h
 ·cases h
theorem litOp_congr {ρ ρ':Operand→Option AV} {op:Op} (h : ∀ x,x∈op.operands→ρ x=ρ' x):litOp ti ρ op=litOp ti ρ' op:=by
 unfold litOp
 split
 ·rename_i t len parts
  unfold popLit
  rw [elemsOf_congr parts.toList 0 fun p hp=>h p.2 (by simp only [Op.operands,List.mem_toArray];exact List.mem_map_of_mem hp)]
 ·rfl
theorem callOp_congr {ρ ρ':Operand→Option AV} {op:Op} (h : ∀ x,x∈op.operands→ρ x=ρ' x):callOp ρ op=callOp ρ' op:=by
 unfold callOp
 split
 ·rename_i f args ts
  have h1:ρ f=ρ' f:=h f (by simp [Op.operands,Call.operands])
  have h2:normArgs ρ args.toList=normArgs ρ' args.toList:=normArgs_congr _ fun x hx=>h x (by simp [Op.operands,Call.operands];exact .inr (by simpa using hx))
  rw [h1,h2]
 ·rfl
theorem callOpR_kind {ρ:Operand→Option AV} {op:Op} {r:FuncId × List AV} (h:callOpR ti ρ op=some r):lKind ti op=true:=by
 unfold callOpR at h
 split at h
 case h_2=>cases h
 split at h
 ·rename_i hc _ _;exact hc
 ·rename_i hc _ _;exact hc
 ·cases h
theorem awOp_val {ρ:Operand→Option AV} {op:Op} {K:AV→List Ob→Prop} (hl:lKind ti op=false) (ha:awOp P ti ρ L K op) : ∃ v,awOp P ti ρ L (fun v' L'=>v'=v∧L'=L) op∧K v L:=by
 rcases ha with ⟨v,φ,hp,hφ,hk⟩|⟨v,φ,hp,hφ,hk⟩|⟨v,L',φ,hp,_⟩|⟨g,ps,r,hc,hP,hk⟩|⟨g,es,t,k,ps,es',hc,_⟩|⟨g,k,ps,es',hc,_⟩|⟨σ,g,L0,asx,L1,r,hc,_⟩|⟨v,L',hk,_⟩
 ·exact ⟨v, .inl ⟨v,φ,hp,hφ,rfl,rfl⟩,hk⟩
 ·exact ⟨v, .inr (.inl ⟨v,φ,hp,hφ,rfl,rfl⟩),hk⟩
 ·rw [lop_kind hp] at hl;cases hl
 ·exact ⟨r.av, .inr (.inr (.inr (.inl ⟨g,ps,r,hc,hP,rfl,rfl⟩))),hk⟩
 ·rw [callOpO_kind hc] at hl;cases hl
 ·rw [callOpO_kind hc] at hl;cases hl
 ·rw [callOpR_kind hc] at hl;cases hl
 ·rw [hk.1] at hl;cases hl
end
def maskOf (acc:List Nat) (o:Oper):Nat:=o.after.toList.foldl (fun s e=>if Region.binds .any e then s ||| 2 ^ e.on ||| acc.getD e.on 0 else s) 0
def masks:List Oper→List Nat→List Nat
 | [],acc=>acc
 | o::rest,acc=>masks rest (acc++[maskOf acc o])
def namesOf (ops:Array Oper) (o:Oper):List Tmp:=o.looksAt ops++o.dst.toList
inductive Anc (l:List Oper):Nat→Nat→Prop
 | edge {i:Nat} {o:Oper} {e:Edge} (h:l[i]?=some o) (he:e∈o.after.toList) (hb:Region.binds .any e=true):Anc l i e.on
 | step {i j:Nat} {o:Oper} {e:Edge} (h:l[i]?=some o) (he:e∈o.after.toList) (hb:Region.binds .any e=true) (h2:Anc l e.on j):Anc l i j
theorem foldl_bit (acc:List Nat) (j:Nat) : ∀ (es:List Edge) (s:Nat),(es.foldl (fun s e=>if Region.binds .any e then s ||| 2 ^ e.on ||| acc.getD e.on 0 else s) s).testBit j=true →
  s.testBit j=true ∨ ∃ e∈es,Region.binds .any e=true∧(e.on=j∨(acc.getD e.on 0).testBit j=true)
 | [],s,h => .inl h
 | e::es,s,h=>by
  rw [List.foldl_cons] at h
  rcases foldl_bit acc j es _ h with h1|⟨e',h1,h2⟩
  ·by_cases hb:Region.binds .any e=true
   ·rw [if_pos hb,Nat.testBit_or,Nat.testBit_or] at h1
    simp only [Bool.or_eq_true,Nat.testBit_two_pow,decide_eq_true_eq] at h1
    rcases h1 with (h1|h1)|h1
    ·exact .inl h1
    ·exact .inr ⟨e,by simp,hb, .inl h1⟩
    ·exact .inr ⟨e,by simp,hb, .inr h1⟩
   ·rw [if_neg hb] at h1;exact .inl h1
  ·exact .inr ⟨e',List.mem_cons_of_mem _ h1,h2⟩
theorem masks_spec (l:List Oper) : ∀ (rest:List Oper) (acc:List Nat),(∀ q,l[acc.length+q]?=rest[q]?)→(∀ i j,i<acc.length→(acc.getD i 0).testBit j=true→Anc l i j) →
  ∀ i j,((masks rest acc).getD i 0).testBit j=true→Anc l i j
 | [],acc,_,h,i,j,hb=>by
  by_cases hi:i<acc.length
  ·exact h i j hi hb
  ·have hb':(acc.getD i 0).testBit j=true:=hb
   rw [List.getD_eq_getElem?_getD,List.getElem?_eq_none (by omega)] at hb'
   simp at hb'
 | o::rest,acc,hl,h,i,j,hb=>by
  refine masks_spec l rest (acc++[maskOf acc o]) (fun q=>?_) (fun i j hi hb=>?_) i j hb
  ·have:=hl (q+1)
   simp only [List.getElem?_cons_succ] at this
   rw [← this];congr 1;simp;omega
  ·by_cases hi2:i<acc.length
   ·rw [List.getD_eq_getElem?_getD,List.getElem?_append_left hi2, ← List.getD_eq_getElem?_getD] at hb
    exact h i j hi2 hb
   ·have:i=acc.length:=by simp at hi;omega
    subst this
    rw [List.getD_eq_getElem?_getD,List.getElem?_append_right (by omega)] at hb
    simp only [Nat.sub_self,List.getElem?_cons_zero,Option.getD_some] at hb
    have ho:l[acc.length]?=some o:=by simpa using hl 0
    rcases foldl_bit acc j _ _ hb with h0|⟨e,he,hbd,h1|h1⟩
    ·simp at h0
    ·subst h1;exact .edge ho he hbd
    ·by_cases hlt:e.on<acc.length
     ·exact .step ho he hbd (h e.on j hlt h1)
     ·rw [List.getD_eq_getElem?_getD,List.getElem?_eq_none (by omega)] at h1
      simp at h1
structure Done (l:List Oper) (listed:Array Bool):Prop where
 size:listed.size=l.length
 down : ∀ (i:Nat) o,l[i]?=some o→listed[i]?=some true → ∀ e∈o.after.toList,Region.binds .any e=true→listed[e.on]?=some true
theorem Done.anc {l:List Oper} {listed:Array Bool} (h:Done l listed) {i j:Nat} (ha:Anc l i j) (hd : ∀ o,l[i]?=some o → ∀ e∈o.after.toList,Region.binds .any e=true→listed[e.on]?=some true):listed[j]?=some true:=by
 induction ha with
 | edge ho he hb=>exact hd _ ho _ he hb
 | step ho he hb _ ih=>exact ih fun o ho'=>h.down _ o ho' (hd _ ho _ he hb)
theorem Done.put {l:List Oper} {listed:Array Bool} (h:Done l listed) {i:Nat} (hi : ∀ o,l[i]?=some o → ∀ e∈o.after.toList,Region.binds .any e=true→listed[e.on]?=some true):Done l (listed.setIfInBounds i true):=by
 refine ⟨by simp [h.size],fun j o ho hj e he hb=>?_⟩
 have key:listed[e.on]?=some true:=by
  by_cases hij:j=i
  ·subst hij;exact hi o ho e he hb
  ·rw [Array.getElem?_setIfInBounds_ne (Ne.symm hij)] at hj
   exact h.down j o ho hj e he hb
 by_cases hx:e.on=i
 ·rw [hx,Array.getElem?_setIfInBounds_self_of_lt (by rw [hx] at key;exact (Array.getElem?_eq_some_iff.1 key).1)]
 ·rw [Array.getElem?_setIfInBounds_ne (Ne.symm hx)];exact key
def gdv (ds:List (Option Tmp)) (T:Tm):Option (Nat × Bool)→Option Bool
 | none=>some true
 | some (j,want)=>match ds[j]? with
  | some (some d)=>match T.lookup d with
   | some (.one (.c (.bool b)))=>some (b==want)
   | some .undef=>some false
   | _=>none
  | _=>none
theorem gd_gdv {ds:List (Option Tmp)} {T:Tm} {A B:Prop} {g:Option (Nat × Bool)} (h:gd ds T A B g):(gdv ds T g=some true∧A)∨(gdv ds T g=some false∧B):=by
 cases g with
 | none=>exact .inl ⟨rfl,h⟩
 | some p =>
  obtain ⟨j,want⟩:=p
  simp only [gd] at h
  simp only [gdv]
  split at h
  ·rename_i d hd
   try simp only [hd]
   split at h
   ·rename_i b hb
    try simp only [hb]
    by_cases hbw:b=want
    ·exact .inl ⟨by simp [hbw],h.1 hbw⟩
    ·exact .inr ⟨by simp [hbw],h.2 (by cases b<;>cases want<;>simp_all)⟩
   ·rename_i hb
    try simp only [hb]
    exact .inr ⟨by simp,h⟩
   ·exact h.elim
  ·exact h.elim
def tat:List Oper→List AV→Tm→Nat→Tm
 | o::l,v::vs,T,i+1=>tat l vs (putT T o.dst v) i
 | _,_,T,_=>T
theorem putT_lookup_ne {T:Tm} {d:Option Tmp} {v:AV} {t:Nat} (h:d≠some t):(putT T d v).lookup t=T.lookup t:=by
 cases d with
 | none=>rfl
 | some d =>
  have:(t==d)=false:=by simp;intro e;exact h (by rw [e])
  simp [putT,List.lookup_cons,this]
theorem tat_old {t:Nat} : ∀ (l:List Oper) (vs:List AV) (T:Tm) (i:Nat),(∀ j o,j<i→l[j]?=some o→o.dst≠some t)→(tat l vs T i).lookup t=T.lookup t
 | o::l,v::vs,T,i+1,h=>by
  rw [tat,tat_old l vs _ i fun j o' hj ho=>h (j+1) o' (by omega) (by simpa using ho),putT_lookup_ne (h 0 o (by omega) rfl)]
 | [],_,_,_,_=>by simp [tat]
 | _::_,[],_,_,_=>by simp [tat]
 | _::_,_::_,_,0,_=>by simp [tat]
theorem tat_new {t:Nat} : ∀ (l:List Oper) (vs:List AV) (T:Tm) (i j:Nat) (o:Oper) (v:AV),j<i→l[j]?=some o→o.dst=some t→vs[j]?=some v→(∀ k o',j<k→k<i→l[k]?=some o'→o'.dst≠some t)→(∀ k,k<i→k≤j→k<vs.length)→(tat l vs T i).lookup t=some v
 | [],_,_,_,_,_,_,_,h,_,_,_,_=>by simp at h
 | _::_,[],_,_,_,_,_,_,_,_,h,_,_=>by simp at h
 | _::_,_::_,_,0,_,_,_,h,_,_,_,_,_=>by omega
 | o0::l,v0::vs,T,i+1,0,o,v,_,ho,hd,hv,hk,_=>by
  simp at ho hv;subst ho hv
  rw [tat,tat_old l vs _ i fun j o' hj ho'=>hk (j+1) o' (by omega) (by omega) (by simpa using ho'),hd]
  simp [putT,List.lookup_cons]
 | o0::l,v0::vs,T,i+1,j+1,o,v,hj,ho,hd,hv,hk,hl=>by
  rw [tat]
  exact tat_new l vs _ i j o v (by omega) (by simpa using ho) hd (by simpa using hv) (fun k o' h1 h2 h3=>hk (k+1) o' (by omega) (by omega) (by simpa using h3)) (fun k h1 h2=>by have:=hl (k+1) (by omega) (by omega);simpa using this)
section
variable {P:Program} {ti:TI} {B:Nat→Prop} {N n0:Nat} {γ:List Gh} {L:List Ob}
theorem gdv_sound {ops:Array Oper} {ds:List (Option Tmp)} (hds : ∀ j:Nat,(ops[j]?).map (·.dst)=ds[j]?) {T:Tm} {R:PH} {a:Act} {o:Oper} {b:Bool} (hs : ∀ d x,d∈o.looksAt ops→T.lookup d=some x → ∃ u,a.tmps[d]?=some u∧x.rep R γ L u) (h:gdv ds T o.guard=some b):Region.wanted o (yielded ops a.tmps)=b:=by
 cases hg:o.guard with
 | none=>rw [hg] at h;injection h with h;subst h;simp [Region.wanted,hg]
 | some p =>
  obtain ⟨j,want⟩:=p
  rw [hg] at h
  simp only [gdv] at h
  split at h
  ·rename_i d hd0
   have hd:(ops[j]?).bind (·.dst)=some d:=by
    have:=hds j
    rw [hd0] at this
    cases ho:ops[j]? with
    | none=>simp [ho] at this
    | some o'=>simpa [ho] using this
   have hmem:d∈o.looksAt ops:=by
    unfold Oper.looksAt
    rw [hg]
    simp [hd]
   split at h
   ·rename_i b' hb
    injection h with h;subst h
    obtain ⟨u,h1,h2⟩:=hs d _ hmem hb
    cases h2
    have hy:yielded ops a.tmps j=some b':=by simp [yielded,hd,h1]
    simp [Region.wanted,hg,hy]
   ·rename_i hb
    injection h with h;subst h
    obtain ⟨u,h1,h2⟩:=hs d _ hmem hb
    have h2':u=Go.undef:=h2
    subst h2'
    have hy:yielded ops a.tmps j=none:=by simp [yielded,hd,h1,Go.undef]
    simp [Region.wanted,hg,hy]
   ·cases h
  ·cases h
theorem countP_lt {α:Type} {p q:α→Bool} : ∀ (l:List α),(∀ x∈l,q x=true→p x=true)→(∃ x∈l,p x=true∧q x=false)→l.countP q<l.countP p
 | [],_,⟨x,hx,_⟩=>by cases hx
 | y::l,h,⟨x,hx,h1,h2⟩=>by
  have hle:l.countP q≤l.countP p:=List.countP_mono_left fun z hz=>h z (List.mem_cons_of_mem _ hz)
  rw [List.countP_cons,List.countP_cons]
  rcases List.mem_cons.1 hx with rfl|hx
  ·rw [h1,h2];simp;omega
  ·have:=countP_lt l (fun z hz=>h z (List.mem_cons_of_mem _ hz)) ⟨x,hx,h1,h2⟩
   have hy:=h y (by simp)
   cases hq:q y<;>cases hp:p y<;>simp_all<;>omega
def cntB (n:Nat) (listed:Array Bool):Nat:=(List.range n).countP fun i=>listed[i]?==some false
end
def insens:Op→Bool
 | .load _ _=>false
 | .fieldAddr _ _ _=>false
 | .indexAddr _ _ _=>false
 | .nilCheck _=>false
 | .slice _ _ _ _ _=>false
 | .call { callee := .builtin .len, .. } => false
 | _=>true
def isLoad:Op→Bool
 | .load _ _=>true
 | _=>false
def loadF (F:List Nat):Op→Bool
 | .load _ (.tmp t)=>F.contains t
 | _=>false
def okX (F:List Nat) (ti:TI) (i c:Nat) (oi oc:Op):Bool :=
 insens oi||(loadF F oi||(ti.soft&&match sk oc with
  | 1=>decide (i<c)
  | 2=>true
  | 3 => !isLoad oi
  | 4=>true
  | _=>false))
def der1 (ti:TI) (o:Oper) (F:List Nat):List Nat:=match F,o.guard,o.dst,o.op with
 | [],_,_,_=>[]
 | F,none,some d, .fieldAddr _ (.tmp t) _=>if F.contains t=true then d::F else F
 | F,none,some d, .indexAddr _ (.tmp t) _=>if F.contains t=true then d::F else F
 | F,none,some d, .load ty (.tmp t)=>if F.contains t=true∧ti.agg ty=some false then d::F else F
 | F,_,_,_=>F
def derF (ti:TI):List Oper→Nat→List Nat→List Nat
 | _,_,[]=>[]
 | o::l,n+1,F=>derF ti l n (der1 ti o F)
 | _,_,F=>F
def drawOK3 (F:List Nat) (ti:TI) (l:List Oper):Bool :=
 let ms:=masks l []
 (F.all fun t=>l.all fun o=>o.dst != some t) &&
 (l.zipIdx.all fun p=>p.1.after.toList.all fun e => !Region.binds .any e||decide (e.on<p.2)) &&
 (l.zipIdx.all fun p => !lKind ti p.1.op||l.zipIdx.all fun q => !lKind ti q.1.op||decide (p.2≤q.2)||(ms.getD p.2 0).testBit q.2) &&
 (l.zipIdx.all fun p=>l.zipIdx.all fun q=>decide (p.2=q.2)||(match p.1.dst with
  | some d => !(namesOf l.toArray q.1).contains d||(p.1.dst != q.1.dst&&(if p.2<q.2 then (ms.getD q.2 0).testBit p.2 else (ms.getD p.2 0).testBit q.2))
  | none=>true)) &&
 (l.zipIdx.all fun p=>lKind ti p.1.op||l.zipIdx.all fun q => !lKind ti q.1.op||(ms.getD p.2 0).testBit q.2||(ms.getD q.2 0).testBit p.2||okX (derF ti l p.2 F) ti p.2 q.2 p.1.op q.1.op)
def drawOK2 (ti:TI) (l:List Oper):Bool:=drawOK3 [] ti l
structure Draw2 (F:List Nat) (ti:TI) (l:List Oper):Prop where
 fz : ∀ t∈F, ∀ o∈l,o.dst≠some t
 back : ∀ (i:Nat) o,l[i]?=some o → ∀ e∈o.after.toList,Region.binds .any e=true→e.on<i
 chain : ∀ (i j:Nat) o o',l[i]?=some o→l[j]?=some o'→lKind ti o.op=true→lKind ti o'.op=true→j<i→Anc l i j
 apart : ∀ (i j:Nat) o o' d,i≠j→l[i]?=some o→l[j]?=some o'→o.dst=some d→d∈namesOf l.toArray o'→o'.dst≠some d∧(if i<j then Anc l j i else Anc l i j)
 cross : ∀ (i c:Nat) o oc,l[i]?=some o→l[c]?=some oc→lKind ti o.op=false→lKind ti oc.op=true → ¬ Anc l i c → ¬ Anc l c i→okX (derF ti l i F) ti i c o.op oc.op=true
theorem draw2_of {F:List Nat} {ti:TI} {l:List Oper} (h:drawOK3 F ti l=true):Draw2 F ti l:=by
 unfold drawOK3 at h
 simp only [Bool.and_eq_true] at h
 obtain ⟨⟨⟨⟨h0,h1⟩,h2⟩,h3⟩,h4⟩:=h
 have hspec:=masks_spec l l [] (fun q=>by simp) (fun i j hi=>by simp at hi)
 have zi : ∀ {l':List Oper} (i:Nat) o,l'[i]?=some o→(o,i)∈l'.zipIdx:=by
  intro l' i o ho
  rw [List.mem_iff_getElem?]
  exact ⟨i,by simp [List.getElem?_zipIdx,ho]⟩
 refine ⟨fun t ht o ho e=>by have:=List.all_eq_true.1 (List.all_eq_true.1 h0 t ht) o ho;rw [e] at this;simp at this,fun i o ho e he hb=>?_,fun i j o o' ho ho' hk hk' hj=>?_,fun i j o o' d hne ho ho' hd hn=>?_,fun i c o oc ho hoc hk hk' n1 n2=>?_⟩
 ·have:=List.all_eq_true.1 (List.all_eq_true.1 h1 (o,i) (zi i o ho)) e he
  simpa [hb] using this
 ·have:=List.all_eq_true.1 h2 (o,i) (zi i o ho)
  simp only [hk,Bool.not_true,Bool.false_or] at this
  have:=List.all_eq_true.1 this (o',j) (zi j o' ho')
  simp only [hk',Bool.not_true,Bool.false_or,Bool.or_eq_true,decide_eq_true_eq] at this
  rcases this with this|this
  ·omega
  ·exact hspec i j this
 ·have:=List.all_eq_true.1 (List.all_eq_true.1 h3 _ (zi i o ho)) _ (zi j o' ho')
  simp only [hne,decide_false,Bool.false_or,hd] at this
  have hc:(namesOf l.toArray o').contains d=true:=by simpa using hn
  rw [hc] at this
  simp only [Bool.not_true,Bool.false_or,Bool.and_eq_true,bne_iff_ne,ne_eq] at this
  refine ⟨fun e=>this.1 e.symm,?_⟩
  by_cases hij:i<j
  ·rw [if_pos hij] at this ⊢
   exact hspec j i this.2
  ·rw [if_neg hij] at this ⊢
   exact hspec i j this.2
 ·have:=List.all_eq_true.1 h4 (o,i) (zi i o ho)
  simp only [hk,Bool.false_or] at this
  have:=List.all_eq_true.1 this (oc,c) (zi c oc hoc)
  simp only [hk',Bool.not_true,Bool.false_or,Bool.or_eq_true] at this
  rcases this with (this|this)|this
  ·exact absurd (hspec i c this) n1
  ·exact absurd (hspec c i this) n2
  ·exact this
section
variable {P:Program} {ti:TI} {ρ:Operand→Option AV} {L L':List Ob}
theorem pop_fz {F:List Nat} {op:Op} (h:loadF F op=true) (hF : ∀ t∈F, ∃ x,ρ (.tmp t)=some (.one (.c x))):pop ti ρ L op=pop ti ρ L' op:=by
 unfold loadF at h
 split at h
 ·rename_i ty t
  obtain ⟨x,hx⟩:=hF t (by simpa using h)
  simp only [pop,hx,Option.bind_some]
  unfold popLoad
  cases x<;>rfl
 ·cases h
def Ob.vis:Ob→Bool
 | .box _=>true
 | .row _ _ _=>true
 | _=>false
def RelA (L L':List Ob):Prop := ∀ (id:Nat) x,L[id]?=some x→x.vis=true→L'[id]?=some x
def RelB (L L':List Ob):Prop := ∀ (id:Nat) ver es k,L[id]?=some (.row ver es k) → ∃ es',L'[id]?=some (.row ver es' k)
theorem RelA.toB (h:RelA L L'):RelB L L':=fun id ver es k e=>⟨es,h id _ e rfl⟩
theorem pop_ins {op:Op} (h:insens op=true):pop ti ρ L op=pop ti ρ L' op:=by
 cases op with
 | call c =>
  obtain ⟨callee,args,ts⟩:=c
  cases callee with
  | builtin b=>cases b<;>first|(cases h;done)|rfl
  | _=>rfl
 | makeFunc f first captured=>cases f<;>rfl
 | _=>first|(cases h;done)|rfl
theorem popFieldRow_B (h:RelB L L') {s:TypeId} {i0 id ver i off:Nat} {r:AV × Prop} (e:popFieldRow ti L s i0 id ver i off=some r):popFieldRow ti L' s i0 id ver i off=some r:=by
 unfold popFieldRow at e ⊢
 split at e
 ·rename_i ver' es k o t hL hf
  obtain ⟨es',h'⟩:=h id _ _ _ hL
  rw [h',hf];exact e
 ·cases e
theorem popLenRow_B (h:RelB L L') {t:TypeId} {id ver n:Nat} {r:AV × Prop} (e:popLenRow ti L t id ver n=some r):popLenRow ti L' t id ver n=some r:=by
 unfold popLenRow at e ⊢
 split at e
 ·rename_i ver' es k hL
  obtain ⟨es',h'⟩:=h id _ _ _ hL
  rw [h'];exact e
 ·cases e
theorem popIndexRow_B (h:RelB L L') {t:TypeId} {id ver lo n:Nat} {ix:AV} {r:AV × Prop} (e:popIndexRow ti L t id ver lo n ix=some r):popIndexRow ti L' t id ver lo n ix=some r:=by
 unfold popIndexRow at e ⊢
 split at e
 ·rename_i ver' es k' kk i k hL hk
  obtain ⟨es',h'⟩:=h id _ _ _ hL
  rw [h',hk];exact e
 ·cases e
theorem popSlice_B (h:RelB L L') {t:TypeId} {x:AV} {lo hi:Option AV} {r:AV × Prop} (e:popSlice ti L t x lo hi=some r):popSlice ti L' t x lo hi=some r:=by
 unfold popSlice at e ⊢
 split at e
 ·exact e
 ·rename_i id ver lo0 n
  split at e
  ·rename_i ver' es k' k hL hk
   obtain ⟨es',h'⟩:=h id _ _ _ hL
   simp only [h',hk]
   exact e
  ·cases e
 ·exact e
theorem pop_B (h:RelB L L') {op:Op} (hl:isLoad op=false) {r:AV × Prop} (e:pop ti ρ L op=some r):pop ti ρ L' op=some r:=by
 by_cases hins:insens op=true
 ·rw [← pop_ins hins (L:=L)];exact e
 unfold pop at e ⊢
 split at e
 all_goals first
  | exact e
  | (cases hl;done)
  | skip
 ·split at e
  ·exact popFieldRow_B h e
  ·exact e
  ·cases e
 ·split at e
  ·exact popIndexRow_B h e
  ·exact e
  ·cases e
 ·split at e
  ·exact e
  ·exact e
  ·rename_i id ver i o hx
   split at e
   ·rename_i ver' es k hL
    obtain ⟨es',h'⟩:=h id _ _ _ hL
    simp only [h'];exact e
   ·cases e
  ·exact e
  ·exact e
  ·cases e
 ·split at e
  ·exact popSlice_B h e
  ·exact popSlice_B h e
  ·exact popSlice_B h e
  ·exact popSlice_B h e
  ·cases e
 ·split at e
  ·split at e
   ·exact popLenRow_B h e
   ·exact e
   ·cases e
  ·cases e
theorem popLoad_A (h:RelA L L') {t:TypeId} {x:AV} {r:AV × Prop} (e:popLoad ti L t x=some r):popLoad ti L' t x=some r:=by
 unfold popLoad at e ⊢
 split at e
 ·exact e
 ·rename_i id off
  split at e
  ·rename_i cs hL
   simp only [h id _ hL rfl];exact e
  ·cases e
 ·rename_i id ver i o
  split at e
  ·rename_i ver' es k hL
   simp only [h id _ hL rfl];exact e
  ·cases e
 ·cases e
theorem pop_A (h:RelA L L') {op:Op} {r:AV × Prop} (e:pop ti ρ L op=some r):pop ti ρ L' op=some r:=by
 cases hl:isLoad op with
 | false=>exact pop_B h.toB hl e
 | true =>
  cases op<;>first|(cases hl;done)|skip
  rename_i t p
  simp only [pop] at e ⊢
  cases hp:ρ p with
  | none=>simp [hp] at e
  | some v=>simp only [hp,Option.bind_some] at e ⊢;exact popLoad_A h e
theorem lop_rel {op:Op} {v:AV} {φ:Prop} (h:lop ti ρ L op=some (v,L',φ)):(sk op=1→RelA L L')∧(sk op=2→RelA L L'∧RelA L' L)∧(sk op=3→RelB L L'∧RelB L' L):=by
 have grow : ∀ x,RelA L (L++[x]):=fun x id y hy _=>by rw [List.getElem?_append_left (List.getElem?_eq_some_iff.1 hy).1];exact hy
 have setA : ∀ (i:Nat) (x y:Ob),L[i]?=some x→x.vis=false→y.vis=false→RelA L (L.set i y)∧RelA (L.set i y) L:=by
  intro i x y hx hv hv'
  have hlt:=(List.getElem?_eq_some_iff.1 hx).1
  refine ⟨fun id z hz hvz=>?_,fun id z hz hvz=>?_⟩
  ·by_cases e:id=i
   ·subst e;rw [hx] at hz;injection hz with hz;subst hz;rw [hv] at hvz;cases hvz
   ·rw [List.getElem?_set_ne (Ne.symm e)];exact hz
  ·by_cases e:id=i
   ·subst e;rw [List.getElem?_set_self hlt] at hz;injection hz with hz;subst hz;rw [hv'] at hvz;cases hvz
   ·rw [List.getElem?_set_ne (Ne.symm e)] at hz;exact hz
 unfold lop at h
 split at h
 ·split at h
  ·injection h with h;injection h with e1 e2;injection e2 with e2 e3;subst e2
   exact ⟨fun _=>grow _,fun e=>(by cases e),fun e=>by cases e⟩
  ·cases h
 ·split at h
  ·injection h with h;injection h with e1 e2;injection e2 with e2 e3;subst e2
   exact ⟨fun _=>grow _,fun e=>(by cases e),fun e=>by cases e⟩
  ·cases h
 ·refine ⟨fun e=>(by cases e),fun e=>(by cases e),fun _=>?_⟩
  split at h
  ·rename_i id off xs hp hx
   split at h
   ·rename_i cs hL
    injection h with h;injection h with e1 e2;injection e2 with e2 e3;subst e2
    have hlt:=(List.getElem?_eq_some_iff.1 hL).1
    refine ⟨fun id' ver es k e=>?_,fun id' ver es k e=>?_⟩
    ·by_cases hid:id'=id
     ·subst hid;rw [hL] at e;cases e
     ·exact ⟨es,by rw [List.getElem?_set_ne (Ne.symm hid)];exact e⟩
    ·by_cases hid:id'=id
     ·subst hid;rw [List.getElem?_set_self hlt] at e;cases e
     ·exact ⟨es,by rw [List.getElem?_set_ne (Ne.symm hid)] at e;exact e⟩
   ·cases h
  ·rename_i id ver i o xs hp hx
   split at h
   ·rename_i ver' es k hL
    split at h
    ·rename_i e0 he0
     injection h with h;injection h with e1 e2;injection e2 with e2 e3;subst e2
     have hlt:=(List.getElem?_eq_some_iff.1 hL).1
     refine ⟨fun id' ver2 es2 k2 e=>?_,fun id' ver2 es2 k2 e=>?_⟩
     ·by_cases hid:id'=id
      ·subst hid;rw [hL] at e;injection e with e;injection e with q1 q2 q3;subst q1 q2 q3
       exact ⟨_,List.getElem?_set_self hlt⟩
      ·exact ⟨es2,by rw [List.getElem?_set_ne (Ne.symm hid)];exact e⟩
     ·by_cases hid:id'=id
      ·subst hid;rw [List.getElem?_set_self hlt] at e;injection e with e;injection e with q1 q2 q3;subst q1 q2 q3
       exact ⟨es,hL⟩
      ·exact ⟨es2,by rw [List.getElem?_set_ne (Ne.symm hid)] at e;exact e⟩
    ·cases h
   ·cases h
  ·cases h
 ·refine ⟨fun e=>(by cases e),fun _=>?_,fun e=>by cases e⟩
  split at h
  ·split at h
   ·unfold lopApp at h
    split at h
    ·split at h
     ·split at h
      ·injection h with h;injection h with e1 e2;injection e2 with e2 e3;subst e2
       refine ⟨grow _,fun id x hx hv=>?_⟩
       by_cases hid:id<L.length
       ·rw [List.getElem?_append_left hid] at hx;exact hx
       ·rw [List.getElem?_append_right (by omega)] at hx
        have:=(List.getElem?_eq_some_iff.1 hx).1
        have h0:id-L.length=0:=by simp at this;omega
        rw [h0] at hx;simp at hx;subst hx;cases hv
      ·split at h
       ·rename_i hL
        injection h with h;injection h with e1 e2;injection e2 with e2 e3;subst e2
        exact setA _ _ _ hL rfl rfl
       ·cases h
      ·cases h
     ·cases h
    ·cases h
   ·cases h
  ·cases h
 ·cases h
theorem lop_congr {ρ':Operand→Option AV} {op:Op} (h : ∀ x,x∈op.operands→ρ x=ρ' x):lop ti ρ L op=lop ti ρ' L op:=by
 unfold lop
 split
 ·rfl
 ·rename_i t x;rw [h x (by simp [Op.operands])]
 ·rename_i t p x;rw [h p (by simp [Op.operands]),h x (by simp [Op.operands])]
 ·rename_i args ts
  split
  ·rename_i s x t tx hs hx
   rw [h s (by simp [Op.operands,Call.operands];rw [← Array.mem_toList_iff,hs];simp),h x (by simp [Op.operands,Call.operands];rw [← Array.mem_toList_iff,hs];simp)]
  ·rfl
 ·rfl
theorem avs_congr {ρ':Operand→Option AV} : ∀ (xs:List Operand),(∀ x∈xs,ρ x=ρ' x)→avs ρ xs=avs ρ' xs
 | [],_=>rfl
 | x::xs,h=>by
  have h1:ρ x=ρ' x:=h x (by simp)
  have h2:=avs_congr xs fun y hy=>h y (List.mem_cons_of_mem _ hy)
  simp only [avs,h1,h2]
theorem callOpO_congr {ρ':Operand→Option AV} {op:Op} (h : ∀ x,x∈op.operands→ρ x=ρ' x):callOpO ti ρ op=callOpO ti ρ' op:=by
 unfold callOpO
 split
 ·rename_i f args ts
  split
  ·rename_i x xs ho hxs
   have hm : ∀ y,y∈x::xs→ρ y=ρ' y:=fun y hy=>h y (by simp [Op.operands,Call.operands];exact .inr (by rw [← Array.mem_toList_iff,hxs];exact hy))
   rw [hm x (by simp),normArgs_congr xs fun y hy=>hm y (List.mem_cons_of_mem _ hy)]
  ·rfl
 ·rfl
theorem callOpR_congr {ρ':Operand→Option AV} {op:Op} (h : ∀ x,x∈op.operands→ρ x=ρ' x):callOpR ti ρ op=callOpR ti ρ' op:=by
 unfold callOpR
 split
 ·rename_i f args ts
  have h1:ρ f=ρ' f:=h f (by simp [Op.operands,Call.operands])
  have h2:avs ρ args.toList=avs ρ' args.toList:=avs_congr _ fun x hx=>h x (by simp [Op.operands,Call.operands];exact .inr (by simpa using hx))
  rw [h1,h2]
 ·rfl
theorem sop_congr {ρ':Operand→Option AV} {op:Op} {v:AV} (h : ∀ x,x∈op.operands→ρ x=ρ' x) (hs:Sop P ρ L op v L'):Sop P ρ' L op v L' :=
 fun B R γ w ev o ho hi hρ hfv=>hs B R γ w ev o ho hi (fun x hx v hv=>hρ x hx v (by rw [← h x hx];exact hv)) hfv
theorem awOp_congr2 {ρ':Operand→Option AV} {op:Op} {K:AV→List Ob→Prop} (h : ∀ x,x∈op.operands→ρ x=ρ' x) (ha:awOp P ti ρ L K op):awOp P ti ρ' L K op:=by
 rcases ha with ha|ha|ha|ha|ha|ha|ha|⟨v,L',h1,h2,h3⟩
 ·rw [pop_congr h] at ha;exact .inl ha
 ·rw [litOp_congr h] at ha;exact .inr (.inl ha)
 ·rw [lop_congr h] at ha;exact .inr (.inr (.inl ha))
 ·rw [callOp_congr h] at ha;exact .inr (.inr (.inr (.inl ha)))
 ·rw [callOpO_congr h] at ha;exact .inr (.inr (.inr (.inr (.inl ha))))
 ·rw [callOpO_congr h] at ha;exact .inr (.inr (.inr (.inr (.inr (.inl ha)))))
 ·rw [callOpR_congr h] at ha;exact .inr (.inr (.inr (.inr (.inr (.inr (.inl ha))))))
 ·exact .inr (.inr (.inr (.inr (.inr (.inr (.inr ⟨v,L',h1,sop_congr h h2,h3⟩))))))
theorem awOp_pick {op:Op} {K:AV→List Ob→Prop} (ha:awOp P ti ρ L K op) : ∃ v L1,awOp P ti ρ L (fun v' L'=>v'=v∧L'=L1) op∧K v L1:=by
 rcases ha with ⟨v,φ,hp,hφ,hk⟩|⟨v,φ,hp,hφ,hk⟩|⟨v,L',φ,hp,hφ,hk⟩|⟨g,ps,r,hc,hP,hk⟩|⟨g,es,t,k,ps,es',hc,h1,h2,hk⟩|⟨g,k,ps,es',hc,h1,hk⟩|⟨σ,g,L0,asx,L1,r,hc,h1,h2,hk⟩|⟨v,L',h1,h2,hk⟩
 ·exact ⟨v,_, .inl ⟨v,φ,hp,hφ,rfl,rfl⟩,hk⟩
 ·exact ⟨v,_, .inr (.inl ⟨v,φ,hp,hφ,rfl,rfl⟩),hk⟩
 ·exact ⟨v,_, .inr (.inr (.inl ⟨v,L',φ,hp,hφ,rfl,rfl⟩)),hk⟩
 ·exact ⟨_,_, .inr (.inr (.inr (.inl ⟨g,ps,r,hc,hP,rfl,rfl⟩))),hk⟩
 ·exact ⟨_,_, .inr (.inr (.inr (.inr (.inl ⟨g,es,t,k,ps,es',hc,h1,h2,rfl,rfl⟩)))),hk⟩
 ·exact ⟨_,_, .inr (.inr (.inr (.inr (.inr (.inl ⟨g,k,ps,es',hc,h1,rfl,rfl⟩))))),hk⟩
 ·exact ⟨_,_, .inr (.inr (.inr (.inr (.inr (.inr (.inl ⟨σ,g,L0,asx,L1,r,hc,h1,h2,rfl,rfl⟩)))))),hk⟩
 ·exact ⟨_,_, .inr (.inr (.inr (.inr (.inr (.inr (.inr ⟨v,L',h1,h2,rfl,rfl⟩)))))),hk⟩
theorem quiet_move {op:Op} {v:AV} {L1:List Ob} (hl:lKind ti op=false) (ha:awOp P ti ρ L (fun v' L'=>v'=v∧L'=L1) op) (hr : ∀ r,pop ti ρ L op=some r→pop ti ρ L' op=some r):awOp P ti ρ L' (fun v' L''=>v'=v∧L''=L') op:=by
 rcases ha with ⟨v',φ,hp,hφ,hk⟩|⟨v',φ,hp,hφ,hk⟩|⟨v',L',φ,hp,_⟩|⟨g,ps,r,hc,hP,hk⟩|⟨g,es,t,k,ps,es',hc,_⟩|⟨g,k,ps,es',hc,_⟩|⟨σ,g,L0,asx,L1,r,hc,_⟩|⟨v',L',hk,_⟩
 ·exact .inl ⟨v',φ,hr _ hp,hφ,hk.1,rfl⟩
 ·exact .inr (.inl ⟨v',φ,hp,hφ,hk.1,rfl⟩)
 ·rw [lop_kind hp] at hl;cases hl
 ·exact .inr (.inr (.inr (.inl ⟨g,ps,r,hc,hP,hk.1,rfl⟩)))
 ·rw [callOpO_kind hc] at hl;cases hl
 ·rw [callOpO_kind hc] at hl;cases hl
 ·rw [callOpR_kind hc] at hl;cases hl
 ·rw [hk.1] at hl;cases hl
theorem quiet_same {op:Op} {v:AV} {L1:List Ob} (hl:lKind ti op=false) (ha:awOp P ti ρ L (fun v' L'=>v'=v∧L'=L1) op):L1=L:=by
 obtain ⟨v',_,h1,h2⟩:=awOp_val hl ha
 exact h2.symm
theorem soft_rel {op:Op} {v:AV} {L1:List Ob} (hs:ti.soft=true) (h0:sk op≠0) (ha:awOp P ti ρ L (fun v' L'=>v'=v∧L'=L1) op):(sk op=1→RelA L L1)∧(sk op=2→RelA L L1∧RelA L1 L)∧(sk op=3→RelB L L1∧RelB L1 L)∧(sk op=4→RelA L L1∧RelA L1 L):=by
 have self:RelA L L∧RelB L L:=⟨fun _ _ h _=>h,fun _ _ es _ h=>⟨es,h⟩⟩
 have hcall : ∀ c,op = .call c→(∀ f,c.callee = .value f→False):=by
  intro c e f hf
  subst e
  obtain ⟨callee,args,ts⟩:=c
  simp only at hf;subst hf
  exact h0 rfl
 rcases ha with ⟨v',φ,hp,hφ,rfl,rfl⟩|⟨v',φ,hp,hφ,rfl,rfl⟩|⟨v',L',φ,hp,hφ,rfl,rfl⟩|⟨g,ps,r,hc,hP,rfl,rfl⟩|⟨g,es,t,k,ps,es',hc,_⟩|⟨g,k,ps,es',hc,_⟩|⟨σ,g,L0,asx,L2,r,hc,_⟩|⟨v',L',hk,hh⟩
 ·exact ⟨fun _=>self.1,fun _=>⟨self.1,self.1⟩,fun _=>⟨self.2,self.2⟩,fun _=>⟨self.1,self.1⟩⟩
 ·exact ⟨fun _=>self.1,fun _=>⟨self.1,self.1⟩,fun _=>⟨self.2,self.2⟩,fun _=>⟨self.1,self.1⟩⟩
 ·obtain ⟨q1,q2,q3⟩:=lop_rel hp
  refine ⟨q1,q2,q3,fun e4=>?_⟩
  exfalso
  unfold lop at hp
  split at hp<;>first|(cases e4;done)|(cases hp;done)
 ·exact ⟨fun _=>self.1,fun _=>⟨self.1,self.1⟩,fun _=>⟨self.2,self.2⟩,fun _=>⟨self.1,self.1⟩⟩
 ·exfalso
  unfold callOpO at hc
  split at hc
  ·exact hcall _ rfl _ rfl
  ·cases hc
 ·exfalso
  unfold callOpO at hc
  split at hc
  ·exact hcall _ rfl _ rfl
  ·cases hc
 ·exfalso
  unfold callOpR at hc
  split at hc
  ·exact hcall _ rfl _ rfl
  ·cases hc
 ·rcases hk.2 hs with e|⟨e4,rfl⟩
  ·exact absurd e h0
  ·obtain ⟨_,_,rfl⟩:=hh
   exact ⟨fun _=>self.1,fun _=>⟨self.1,self.1⟩,fun _=>⟨self.2,self.2⟩,fun _=>⟨self.1,self.1⟩⟩
end
end Go.Proofs.YtngehibfdjdejaaGreatDoor
