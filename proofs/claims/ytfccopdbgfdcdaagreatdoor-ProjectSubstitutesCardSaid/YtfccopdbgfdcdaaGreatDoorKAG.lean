/- Parts of the proof, joined. No condition. -/
import Derived.Test.YtfccopdbgfdcdaaGreatDoorKAA
import Derived.Test.YtfccopdbgfdcdaaGreatDoorKAF
set_option linter.unusedSimpArgs false
set_option linter.unusedVariables false
namespace Go.Proofs.YtfccopdbgfdcdaaGreatDoor
open Go.RowKit
def Ii:Op->Bool
 | .load _ _=>false
 | .fieldAddr _ _ _=>false
 | .indexAddr _ _ _=>false
 | .nilCheck _=>false
 | .slice _ _ _ _ _=>false
 | .call { callee := .builtin .len, .. } => false
 | _=>true
def isLoad:Op->Bool
 | .load _ _=>true
 | _=>false
def okX (ti:TI) (i c:Nat) (oi oc:Op):Bool :=
 Ii oi||(ti.soft&&match sk oc with
  | 1=>decide (i<c)
  | 2=>true
  | 3 => !isLoad oi
  | 4=>true
  | _=>false)
def EX (ti:TI) (l:List Oper):Bool :=
 let ms:=masks l []
 (l.zipIdx.all fun p=>p.1.after.toList.all fun e => !Region.binds .any e||decide (e.on<p.2)) &&
 (l.zipIdx.all fun p => !bU ti p.1.op||l.zipIdx.all fun q => !bU ti q.1.op||decide (p.2<=q.2)||(ms.getD p.2 0).testBit q.2) &&
 (l.zipIdx.all fun p=>l.zipIdx.all fun q=>decide (p.2=q.2)||(match p.1.dst with
  | some d => !(jD l.toArray q.1).contains d||(p.1.dst != q.1.dst&&(if p.2<q.2 then (ms.getD q.2 0).testBit p.2 else (ms.getD p.2 0).testBit q.2))
  | none=>true)) &&
 (l.zipIdx.all fun p=>bU ti p.1.op||l.zipIdx.all fun q => !bU ti q.1.op||(ms.getD p.2 0).testBit q.2||(ms.getD q.2 0).testBit p.2||okX ti p.2 q.2 p.1.op q.1.op)
structure aar (ti:TI) (l:List Oper):Prop where
 back : ∀ (i:Nat) o,l[i]?=some o -> ∀ e∈o.after.toList,Region.binds .any e=true->e.on<i
 chain : ∀ (i j:Nat) o o',l[i]?=some o->l[j]?=some o'->bU ti o.op=true->bU ti o'.op=true->j<i->Qo l i j
 apart : ∀ (i j:Nat) o o' d,i≠j->l[i]?=some o->l[j]?=some o'->o.dst=some d->d∈jD l.toArray o'->o'.dst≠some d/\(if i<j then Qo l j i else Qo l i j)
 cross : ∀ (i c:Nat) o oc,l[i]?=some o->l[c]?=some oc->bU ti o.op=false->bU ti oc.op=true -> ¬ Qo l i c -> ¬ Qo l c i->okX ti i c o.op oc.op=true
theorem WB {ti:TI} {l:List Oper} (h:EX ti l=true):aar ti l:=by
 unfold EX at h
 simp only [ad1] at h
 obtain ⟨⟨⟨h1,h2⟩,h3⟩,h4⟩:=h
 have hspec:=Bi l l [] (fun q=>by simp) (fun i j hi=>by simp at hi)
 have zi : ∀ {l':List Oper} (i:Nat) o,l'[i]?=some o->(o,i)∈l'.zipIdx:=by
  intro l' i o ho
  rw [List.mem_iff_getElem?]
  exact ⟨i,by simp [List.getElem?_zipIdx,ho]⟩
 refine ⟨fun i o ho e he hb=>?_,fun i j o o' ho ho' hk hk' hj=>?_,fun i j o o' d hne ho ho' hd hn=>?_,fun i c o oc ho hoc hk hk' n1 n2=>?_⟩
 ·have:=aev.1 (aev.1 h1 (o,i) (zi i o ho)) e he
  simpa [hb] using this
 ·have:=aev.1 h2 (o,i) (zi i o ho)
  simp only [hk,Bool.not_true,Bool.false_or] at this
  have:=aev.1 this (o',j) (zi j o' ho')
  simp only [hk',Bool.not_true,Bool.false_or,Bool.or_eq_true,decide_eq_true_eq] at this
  rcases this with this|this
  ·omega
  ·exact hspec i j this
 ·have:=aev.1 (aev.1 h3 _ (zi i o ho)) _ (zi j o' ho')
  simp only [hne,decide_false,Bool.false_or,hd] at this
  have hc:(jD l.toArray o').contains d=true:=by simpa using hn
  rw [hc] at this
  simp only [Bool.not_true,Bool.false_or,ad1,bne_iff_ne,ne_eq] at this
  refine ⟨fun e=>this.1 e.symm,?_⟩
  by_cases hij:i<j
  ·rw [if_pos hij] at this ⊢
   exact hspec j i this.2
  ·rw [if_neg hij] at this ⊢
   exact hspec i j this.2
 ·have:=aev.1 h4 (o,i) (zi i o ho)
  simp only [hk,Bool.false_or] at this
  have:=aev.1 this (oc,c) (zi c oc hoc)
  simp only [hk',Bool.not_true,Bool.false_or,Bool.or_eq_true] at this
  rcases this with (this|this)|this
  ·exact absurd (hspec i c this) n1
  ·exact absurd (hspec c i this) n2
  ·exact this
section
variable {P:Program} {ti:TI} {ρ:Operand->Option AV} {L L':List Ob}
def Ob.vis:Ob->Bool
 | .box _=>true
 | .row _ _ _=>true
 | _=>false
def RelA (L L':List Ob):Prop := ∀ (id:Nat) x,L[id]?=some x->x.vis=true->L'[id]?=some x
def RelB (L L':List Ob):Prop := ∀ (id:Nat) ver es k,L[id]?=some (.row ver es k) -> ∃ es',L'[id]?=some (.row ver es' k)
theorem RelA.toB (h:RelA L L'):RelB L L':=fun id ver es k e=>⟨es,h id _ e rfl⟩
theorem Sr {op:Op} (h:Ii op=true):pop ti ρ L op=pop ti ρ L' op:=by
 cases op with
 | call c =>
  obtain ⟨callee,args,ts⟩:=c
  cases callee with
  | builtin b=>cases b<;>first|(cases h;done)|rfl
  | _=>rfl
 | makeFunc f first captured=>cases f<;>rfl
 | _=>first|(cases h;done)|rfl
theorem Jv (h:RelB L L') {s:TypeId} {i0 id ver i off:Nat} {r:AV × Prop} (e:gB ti L s i0 id ver i off=some r):gB ti L' s i0 id ver i off=some r:=by
 unfold gB at e ⊢
 split at e
 ·rename_i ver' es k o t hL hf
  obtain ⟨es',h'⟩:=h id _ _ _ hL
  rw [h',hf];exact e
 ·cases e
theorem OZ (h:RelB L L') {t:TypeId} {id ver n:Nat} {r:AV × Prop} (e:jO ti L t id ver n=some r):jO ti L' t id ver n=some r:=by
 unfold jO at e ⊢
 split at e
 ·rename_i ver' es k hL
  obtain ⟨es',h'⟩:=h id _ _ _ hL
  rw [h'];exact e
 ·cases e
theorem Jo (h:RelB L L') {t:TypeId} {id ver lo n:Nat} {ix:AV} {r:AV × Prop} (e:gu ti L t id ver lo n ix=some r):gu ti L' t id ver lo n ix=some r:=by
 unfold gu at e ⊢
 split at e
 ·rename_i ver' es k' kk i k hL hk
  obtain ⟨es',h'⟩:=h id _ _ _ hL
  rw [h',hk];exact e
 ·cases e
theorem uY (h:RelB L L') {t:TypeId} {x:AV} {lo hi:Option AV} {r:AV × Prop} (e:gp ti L t x lo hi=some r):gp ti L' t x lo hi=some r:=by
 unfold gp at e ⊢
 split at e
 ·exact e
 ·rename_i id ver lo0 n
  split at e
  ·rename_i ver' es k' k hL hk
   obtain ⟨es',h'⟩:=h id _ _ _ hL
   simp only [h',hk]
   exact e
  ·cases e
 ·exact e
theorem XT (h:RelB L L') {op:Op} (hl:isLoad op=false) {r:AV × Prop} (e:pop ti ρ L op=some r):pop ti ρ L' op=some r:=by
 by_cases hins:Ii op=true
 ·rw [<- Sr hins (L:=L)];exact e
 unfold pop at e ⊢
 split at e
 all_goals first
  | exact e
  | (cases hl;done)
  | skip
 ·split at e
  ·exact Jv h e
  ·exact e
  ·cases e
 ·split at e
  ·exact Jo h e
  ·exact e
  ·cases e
 ·split at e
  ·exact e
  ·exact e
  ·rename_i id ver i o hx
   split at e
   ·rename_i ver' es k hL
    obtain ⟨es',h'⟩:=h id _ _ _ hL
    simp only [h'];exact e
   ·cases e
  ·exact e
  ·exact e
  ·cases e
 ·split at e
  ·exact uY h e
  ·exact uY h e
  ·exact uY h e
  ·exact uY h e
  ·cases e
 ·split at e
  ·split at e
   ·exact OZ h e
   ·exact e
   ·cases e
  ·cases e
theorem VH (h:RelA L L') {t:TypeId} {x:AV} {r:AV × Prop} (e:kg ti L t x=some r):kg ti L' t x=some r:=by
 unfold kg at e ⊢
 split at e
 ·exact e
 ·rename_i id off
  split at e
  ·rename_i cs hL
   simp only [h id _ hL rfl];exact e
  ·cases e
 ·rename_i id ver i o
  split at e
  ·rename_i ver' es k hL
   simp only [h id _ hL rfl];exact e
  ·cases e
 ·cases e
theorem P8 (h:RelA L L') {op:Op} {r:AV × Prop} (e:pop ti ρ L op=some r):pop ti ρ L' op=some r:=by
 cases hl:isLoad op with
 | false=>exact XT h.toB hl e
 | true =>
  cases op<;>first|(cases hl;done)|skip
  rename_i t p
  simp only [pop] at e ⊢
  cases hp:ρ p with
  | none=>simp [hp] at e
  | some v=>simp only [hp,adH] at e ⊢;exact VH h e
theorem YN {op:Op} {v:AV} {φ:Prop} (h:FE ti ρ L op=some (v,L',φ)):(sk op=1->RelA L L')/\(sk op=2->RelA L L'/\RelA L' L)/\(sk op=3->RelB L L'/\RelB L' L):=by
 have grow : ∀ x,RelA L (L++[x]):=fun x id y hy _=>by rw [adW (adI.1 hy).1];exact hy
 have setA : ∀ (i:Nat) (x y:Ob),L[i]?=some x->x.vis=false->y.vis=false->RelA L (L.set i y)/\RelA (L.set i y) L:=by
  intro i x y hx hv hv'
  have hlt:=(adI.1 hx).1
  refine ⟨fun id z hz hvz=>?_,fun id z hz hvz=>?_⟩
  ·by_cases e:id=i
   ·subst e;rw [hx] at hz;injection hz with hz;subst hz;rw [hv] at hvz;cases hvz
   ·rw [ad3 (Ne.symm e)];exact hz
  ·by_cases e:id=i
   ·subst e;rw [ad2 hlt] at hz;injection hz with hz;subst hz;rw [hv'] at hvz;cases hvz
   ·rw [ad3 (Ne.symm e)] at hz;exact hz
 unfold FE at h
 split at h
 ·split at h
  ·injection h with h;injection h with e1 e2;injection e2 with e2 e3;subst e2
   exact ⟨fun _=>grow _,fun e=>(by cases e),fun e=>by cases e⟩
  ·cases h
 ·split at h
  ·injection h with h;injection h with e1 e2;injection e2 with e2 e3;subst e2
   exact ⟨fun _=>grow _,fun e=>(by cases e),fun e=>by cases e⟩
  ·cases h
 ·refine ⟨fun e=>(by cases e),fun e=>(by cases e),fun _=>?_⟩
  split at h
  ·rename_i id off xs hp hx
   split at h
   ·rename_i cs hL
    injection h with h;injection h with e1 e2;injection e2 with e2 e3;subst e2
    have hlt:=(adI.1 hL).1
    refine ⟨fun id' ver es k e=>?_,fun id' ver es k e=>?_⟩
    ·by_cases hid:id'=id
     ·subst hid;rw [hL] at e;cases e
     ·exact ⟨es,by rw [ad3 (Ne.symm hid)];exact e⟩
    ·by_cases hid:id'=id
     ·subst hid;rw [ad2 hlt] at e;cases e
     ·exact ⟨es,by rw [ad3 (Ne.symm hid)] at e;exact e⟩
   ·cases h
  ·rename_i id ver i o xs hp hx
   split at h
   ·rename_i ver' es k hL
    split at h
    ·rename_i e0 he0
     injection h with h;injection h with e1 e2;injection e2 with e2 e3;subst e2
     have hlt:=(adI.1 hL).1
     refine ⟨fun id' ver2 es2 k2 e=>?_,fun id' ver2 es2 k2 e=>?_⟩
     ·by_cases hid:id'=id
      ·subst hid;rw [hL] at e;injection e with e;injection e with q1 q2 q3;subst q1 q2 q3
       exact ⟨_,ad2 hlt⟩
      ·exact ⟨es2,by rw [ad3 (Ne.symm hid)];exact e⟩
     ·by_cases hid:id'=id
      ·subst hid;rw [ad2 hlt] at e;injection e with e;injection e with q1 q2 q3;subst q1 q2 q3
       exact ⟨es,hL⟩
      ·exact ⟨es2,by rw [ad3 (Ne.symm hid)] at e;exact e⟩
    ·cases h
   ·cases h
  ·cases h
 ·refine ⟨fun e=>(by cases e),fun _=>?_,fun e=>by cases e⟩
  split at h
  ·split at h
   ·unfold Bl at h
    split at h
    ·split at h
     ·split at h
      ·injection h with h;injection h with e1 e2;injection e2 with e2 e3;subst e2
       refine ⟨grow _,fun id x hx hv=>?_⟩
       by_cases hid:id<L.length
       ·rw [adW hid] at hx;exact hx
       ·rw [adP (by omega)] at hx
        have:=(adI.1 hx).1
        have h0:id-L.length=0:=by simp at this;omega
        rw [h0] at hx;simp at hx;subst hx;cases hv
      ·split at h
       ·rename_i hL
        injection h with h;injection h with e1 e2;injection e2 with e2 e3;subst e2
        exact setA _ _ _ hL rfl rfl
       ·cases h
      ·cases h
     ·cases h
    ·cases h
   ·cases h
  ·cases h
 ·cases h
theorem Ub {ρ':Operand->Option AV} {op:Op} (h : ∀ x,x∈op.operands->ρ x=ρ' x):FE ti ρ L op=FE ti ρ' L op:=by
 unfold FE
 split
 ·rfl
 ·rename_i t x;rw [h x (by simp [Op.operands])]
 ·rename_i t p x;rw [h p (by simp [Op.operands]),h x (by simp [Op.operands])]
 ·rename_i args ts
  split
  ·rename_i s x t tx hs hx
   rw [h s (by simp [Op.operands,Call.operands];rw [<- Array.mem_toList_iff,hs];simp),h x (by simp [Op.operands,Call.operands];rw [<- Array.mem_toList_iff,hs];simp)]
  ·rfl
 ·rfl
theorem K8 {ρ':Operand->Option AV} : ∀ (xs:List Operand),(∀ x∈xs,ρ x=ρ' x)->VW ρ xs=VW ρ' xs
 | [],_=>rfl
 | x::xs,h=>by
  have h1:ρ x=ρ' x:=h x (by simp)
  have h2:=K8 xs fun y hy=>h y (ad7 _ hy)
  simp only [VW,h1,h2]
theorem zO {ρ':Operand->Option AV} {op:Op} (h : ∀ x,x∈op.operands->ρ x=ρ' x):gH ti ρ op=gH ti ρ' op:=by
 unfold gH
 split
 ·rename_i f args ts
  split
  ·rename_i x xs ho hxs
   have hm : ∀ y,y∈x::xs->ρ y=ρ' y:=fun y hy=>h y (by simp [Op.operands,Call.operands];exact .inr (by rw [<- Array.mem_toList_iff,hxs];exact hy))
   rw [hm x (by simp),oL xs fun y hy=>hm y (ad7 _ hy)]
  ·rfl
 ·rfl
theorem JO {ρ':Operand->Option AV} {op:Op} (h : ∀ x,x∈op.operands->ρ x=ρ' x):ig ti ρ op=ig ti ρ' op:=by
 unfold ig
 split
 ·rename_i f args ts
  have h1:ρ f=ρ' f:=h f (by simp [Op.operands,Call.operands])
  have h2:VW ρ args.toList=VW ρ' args.toList:=K8 _ fun x hx=>h x (by simp [Op.operands,Call.operands];exact .inr (by simpa using hx))
  rw [h1,h2]
 ·rfl
theorem Vo {ρ':Operand->Option AV} {op:Op} {v:AV} (h : ∀ x,x∈op.operands->ρ x=ρ' x) (hs:wu P ρ L op v L'):wu P ρ' L op v L' :=
 fun B R γ w ev o ho hi hρ hfv=>hs B R γ w ev o ho hi (fun x hx v hv=>hρ x hx v (by rw [<- h x hx];exact hv)) hfv
theorem EJ {ρ':Operand->Option AV} {op:Op} {K:AV->List Ob->Prop} (h : ∀ x,x∈op.operands->ρ x=ρ' x) (ha:lD P ti ρ L K op):lD P ti ρ' L K op:=by
 rcases ha with ha|ha|ha|ha|ha|ha|ha|⟨v,L',h1,h2,h3⟩
 ·rw [KC h] at ha;exact .inl ha
 ·rw [Eh h] at ha;exact .inr (.inl ha)
 ·rw [Ub h] at ha;exact .inr (.inr (.inl ha))
 ·rw [CB h] at ha;exact .inr (.inr (.inr (.inl ha)))
 ·rw [zO h] at ha;exact .inr (.inr (.inr (.inr (.inl ha))))
 ·rw [zO h] at ha;exact .inr (.inr (.inr (.inr (.inr (.inl ha)))))
 ·rw [JO h] at ha;exact .inr (.inr (.inr (.inr (.inr (.inr (.inl ha))))))
 ·exact .inr (.inr (.inr (.inr (.inr (.inr (.inr ⟨v,L',h1,Vo h h2,h3⟩))))))
theorem VO {op:Op} {K:AV->List Ob->Prop} (ha:lD P ti ρ L K op) : ∃ v L1,lD P ti ρ L (fun v' L'=>v'=v/\L'=L1) op/\K v L1:=by
 rcases ha with ⟨v,φ,hp,hφ,hk⟩|⟨v,φ,hp,hφ,hk⟩|⟨v,L',φ,hp,hφ,hk⟩|⟨g,ps,r,hc,hP,hk⟩|⟨g,es,t,k,ps,es',hc,h1,h2,hk⟩|⟨g,k,ps,es',hc,h1,hk⟩|⟨σ,g,L0,asx,L1,r,hc,h1,h2,hk⟩|⟨v,L',h1,h2,hk⟩
 ·exact ⟨v,_, .inl ⟨v,φ,hp,hφ,rfl,rfl⟩,hk⟩
 ·exact ⟨v,_, .inr (.inl ⟨v,φ,hp,hφ,rfl,rfl⟩),hk⟩
 ·exact ⟨v,_, .inr (.inr (.inl ⟨v,L',φ,hp,hφ,rfl,rfl⟩)),hk⟩
 ·exact ⟨_,_, .inr (.inr (.inr (.inl ⟨g,ps,r,hc,hP,rfl,rfl⟩))),hk⟩
 ·exact ⟨_,_, .inr (.inr (.inr (.inr (.inl ⟨g,es,t,k,ps,es',hc,h1,h2,rfl,rfl⟩)))),hk⟩
 ·exact ⟨_,_, .inr (.inr (.inr (.inr (.inr (.inl ⟨g,k,ps,es',hc,h1,rfl,rfl⟩))))),hk⟩
 ·exact ⟨_,_, .inr (.inr (.inr (.inr (.inr (.inr (.inl ⟨σ,g,L0,asx,L1,r,hc,h1,h2,rfl,rfl⟩)))))),hk⟩
 ·exact ⟨_,_, .inr (.inr (.inr (.inr (.inr (.inr (.inr ⟨v,L',h1,h2,rfl,rfl⟩)))))),hk⟩
theorem quiet_move {op:Op} {v:AV} {L1:List Ob} (hl:bU ti op=false) (ha:lD P ti ρ L (fun v' L'=>v'=v/\L'=L1) op) (hr : ∀ r,pop ti ρ L op=some r->pop ti ρ L' op=some r):lD P ti ρ L' (fun v' L''=>v'=v/\L''=L') op:=by
 rcases ha with ⟨v',φ,hp,hφ,hk⟩|⟨v',φ,hp,hφ,hk⟩|⟨v',L',φ,hp,_⟩|⟨g,ps,r,hc,hP,hk⟩|⟨g,es,t,k,ps,es',hc,_⟩|⟨g,k,ps,es',hc,_⟩|⟨σ,g,L0,asx,L1,r,hc,_⟩|⟨v',L',hk,_⟩
 ·exact .inl ⟨v',φ,hr _ hp,hφ,hk.1,rfl⟩
 ·exact .inr (.inl ⟨v',φ,hp,hφ,hk.1,rfl⟩)
 ·rw [Gd hp] at hl;cases hl
 ·exact .inr (.inr (.inr (.inl ⟨g,ps,r,hc,hP,hk.1,rfl⟩)))
 ·rw [iX hc] at hl;cases hl
 ·rw [iX hc] at hl;cases hl
 ·rw [vP hc] at hl;cases hl
 ·rw [hk.1] at hl;cases hl
theorem Be {op:Op} {v:AV} {L1:List Ob} (hl:bU ti op=false) (ha:lD P ti ρ L (fun v' L'=>v'=v/\L'=L1) op):L1=L:=by
 obtain ⟨v',_,h1,h2⟩:=Pt hl ha
 exact h2.symm
theorem WA {op:Op} {v:AV} {L1:List Ob} (hs:ti.soft=true) (h0:sk op≠0) (ha:lD P ti ρ L (fun v' L'=>v'=v/\L'=L1) op):(sk op=1->RelA L L1)/\(sk op=2->RelA L L1/\RelA L1 L)/\(sk op=3->RelB L L1/\RelB L1 L)/\(sk op=4->RelA L L1/\RelA L1 L):=by
 have self:RelA L L/\RelB L L:=⟨fun _ _ h _=>h,fun _ _ es _ h=>⟨es,h⟩⟩
 have hcall : ∀ c,op = .call c->(∀ f,c.callee = .value f->False):=by
  intro c e f hf
  subst e
  obtain ⟨callee,args,ts⟩:=c
  simp only at hf;subst hf
  exact h0 rfl
 rcases ha with ⟨v',φ,hp,hφ,rfl,rfl⟩|⟨v',φ,hp,hφ,rfl,rfl⟩|⟨v',L',φ,hp,hφ,rfl,rfl⟩|⟨g,ps,r,hc,hP,rfl,rfl⟩|⟨g,es,t,k,ps,es',hc,_⟩|⟨g,k,ps,es',hc,_⟩|⟨σ,g,L0,asx,L2,r,hc,_⟩|⟨v',L',hk,hh⟩
 ·exact ⟨fun _=>self.1,fun _=>⟨self.1,self.1⟩,fun _=>⟨self.2,self.2⟩,fun _=>⟨self.1,self.1⟩⟩
 ·exact ⟨fun _=>self.1,fun _=>⟨self.1,self.1⟩,fun _=>⟨self.2,self.2⟩,fun _=>⟨self.1,self.1⟩⟩
 ·obtain ⟨q1,q2,q3⟩:=YN hp
  refine ⟨q1,q2,q3,fun e4=>?_⟩
  exfalso
  unfold FE at hp
  split at hp<;>first|(cases e4;done)|(cases hp;done)
 ·exact ⟨fun _=>self.1,fun _=>⟨self.1,self.1⟩,fun _=>⟨self.2,self.2⟩,fun _=>⟨self.1,self.1⟩⟩
 ·exfalso
  unfold gH at hc
  split at hc
  ·exact hcall _ rfl _ rfl
  ·cases hc
 ·exfalso
  unfold gH at hc
  split at hc
  ·exact hcall _ rfl _ rfl
  ·cases hc
 ·exfalso
  unfold ig at hc
  split at hc
  ·exact hcall _ rfl _ rfl
  ·cases hc
 ·rcases hk.2 hs with e|⟨e4,rfl⟩
  ·exact absurd e h0
  ·obtain ⟨_,_,rfl⟩:=hh
   exact ⟨fun _=>self.1,fun _=>⟨self.1,self.1⟩,fun _=>⟨self.2,self.2⟩,fun _=>⟨self.1,self.1⟩⟩
end
section
variable {P:Program} {ti:TI} {B:Nat->Prop} {N n0:Nat}
theorem XJ {ds:List (Option Tmp)} {K:Tm->List Ob->Prop} : ∀ (l:List Oper) (T:Tm) (L:List Ob),aN P ti N ds K l T L ->
  ∃ (vs:List AV) (Ls:Nat->List Ob),vs.length=l.length/\Ls 0=L/\(∀ (i:Nat) o,l[i]?=some o->YI N o.dst /\ ∃ v,vs[i]?=some v /\
   ((jX ds (jW l vs T i) o.guard=some true/\lD P ti (look (jW l vs T i)) (Ls i) (fun v' L'=>v'=v/\L'=Ls (i+1)) o.op)\/(jX ds (jW l vs T i) o.guard=some false/\v = .undef/\Ls (i+1)=Ls i))) /\
   K (jW l vs T l.length) (Ls l.length)
 | [],T,L,h=>⟨[],fun _=>L,rfl,rfl,fun i o ho=>by simp at ho,by have h:K T L:=h;simpa [jW] using h⟩
 | o::l,T,L,h=>by
  obtain ⟨hd,hg⟩:=h
  have go : ∀ v L1,((jX ds T o.guard=some true/\lD P ti (look T) L (fun v' L'=>v'=v/\L'=L1) o.op)\/(jX ds T o.guard=some false/\v = .undef/\L1=L))->aN P ti N ds K l (BZ T o.dst v) L1 -> ∃ (vs:List AV) (Ls:Nat->List Ob),vs.length=(o::l).length/\Ls 0=L/\(∀ (i:Nat) o',(o::l)[i]?=some o'->YI N o'.dst /\ ∃ v,vs[i]?=some v /\
   ((jX ds (jW (o::l) vs T i) o'.guard=some true/\lD P ti (look (jW (o::l) vs T i)) (Ls i) (fun v' L'=>v'=v/\L'=Ls (i+1)) o'.op)\/(jX ds (jW (o::l) vs T i) o'.guard=some false/\v = .undef/\Ls (i+1)=Ls i))) /\
   K (jW (o::l) vs T (o::l).length) (Ls (o::l).length):=by
   intro v L1 hv hr
   obtain ⟨vs,Ls,h1,h0,h2,h3⟩:=XJ l (BZ T o.dst v) L1 hr
   refine ⟨v::vs,fun i=>match i with|0=>L|i+1=>Ls i,by simp [h1],rfl,fun i o' ho=>?_,by simpa [jW] using h3⟩
   cases i with
   | zero =>
    simp at ho;subst ho
    exact ⟨hd,v,rfl,by simpa [jW,h0] using hv⟩
   | succ i =>
    obtain ⟨g1,v',g2,g3⟩:=h2 i o' (by simpa using ho)
    exact ⟨g1,v',by simpa using g2,by simpa [jW] using g3⟩
  rcases V7 hg with ⟨h1,h2⟩|⟨h1,h2⟩
  ·obtain ⟨v,L1,g1,g2⟩:=VO h2
   exact go v L1 (.inl ⟨h1,g1⟩) g2
  ·exact go .undef L (.inr ⟨h1,rfl,rfl⟩) h2
structure Zr (ti:TI) (l:List Oper) (N:Nat) (B:Nat->Prop) (Ls:Nat->List Ob) (T:Tm) (vs:List AV) (R0:PH) (γ0:List Gh) (w0:World) (listed:Array Bool) (e:Nat) (R:PH) (γ:List Gh) (a:Act) (w:World):Prop where
 inv:Inv B R γ (Ls e) w
 size:a.tmps.size=N
 defers:a.defers=[]
 done:Done l listed
 le:e<=l.length
 lo : ∀ (c:Nat) o,c<e->l[c]?=some o->bU ti o.op=true->listed[c]?=some true
 hi : ∀ (c:Nat) o,e<=c->l[c]?=some o->bU ti o.op=true->listed[c]?=some false
 fresh : ∀ (i:Nat) o d v,listed[i]?=some true->l[i]?=some o->o.dst=some d->vs[i]?=some v -> ∃ u,a.tmps[d]?=some u/\v.rep R γ (Ls e) u
 old : ∀ t x,T.lookup t=some x->(∀ (i:Nat) o,listed[i]?=some true->l[i]?=some o->o.dst≠some t) -> ∃ u,a.tmps[t]?=some u/\x.rep R γ (Ls e) u
 ext:Ext B R0 R w0 w
 mv:Mv R0 R γ0 γ (Ls 0) (Ls e)
theorem Ag {l:List Oper} {listed:Array Bool} (hback : ∀ (i:Nat) o,l[i]?=some o -> ∀ e∈o.after.toList,Region.binds .any e=true->e.on<i) (h:Done l listed) (i:Nat):i∈Region.ready .any l.toArray listed↔i<l.length/\listed[i]?=some false /\ ∀ o,l[i]?=some o -> ∀ e∈o.after.toList,Region.binds .any e=true->listed[e.on]?=some true:=by
 unfold Region.ready
 rw [List.mem_filter,List.mem_range]
 simp only [List.size_toArray,ad1]
 constructor
 ·rintro ⟨hi,h1,h2⟩
  have hlt:i<listed.size:=by rw [h.size];exact hi
  have e1:listed[i]?=some listed[i]:=ad8 hlt
  refine ⟨hi,?_,fun o ho e he hb=>?_⟩
  ·rw [Array.getD_eq_getD_getElem?,e1] at h1
   simp at h1
   rw [e1,h1]
  ·simp only [List.getElem?_toArray,ho,Option.map_some,Option.getD_some] at h2
   have:=Array.all_eq_true'.1 h2 e (by simpa using he)
   rw [hb] at this
   have hlt2:e.on<listed.size:=by rw [h.size];have:=hback i o ho e he hb;omega
   have e2:listed[e.on]?=some listed[e.on]:=ad8 hlt2
   rw [Array.getD_eq_getD_getElem?,e2] at this
   simp at this
   rw [e2,this]
 ·rintro ⟨hi,h1,h2⟩
  refine ⟨hi,by simp [Array.getD_eq_getD_getElem?,h1],?_⟩
  have ho:l[i]?=some l[i]:=adR hi
  simp only [List.getElem?_toArray,ho,Option.map_some,Option.getD_some]
  rw [Array.all_eq_true']
  intro e he
  by_cases hb:Region.binds .any e=true
  ·simp [hb,Array.getD_eq_getD_getElem?,h2 _ ho e (by simpa using he) hb]
  ·simp [hb]
open Classical in
theorem adi (hti:TIok P ti) {l:List Oper} {ds:List (Option Tmp)} (hds:l.map (·.dst)=ds) (hD:aar ti l) {K:Tm->List Ob->Prop} {Q:Exit->Act->World->Prop} {T:Tm} {vs:List AV} {Ls:Nat->List Ob} {R0:PH} {γ0:List Gh} {w0:World} (hvl:vs.length=l.length)
  (htr : ∀ (i:Nat) o,l[i]?=some o->YI N o.dst /\ ∃ v,vs[i]?=some v /\
   ((jX ds (jW l vs T i) o.guard=some true/\lD P ti (look (jW l vs T i)) (Ls i) (fun v' L'=>v'=v/\L'=Ls (i+1)) o.op)\/(jX ds (jW l vs T i) o.guard=some false/\v = .undef/\Ls (i+1)=Ls i)))
  (hK:K (jW l vs T l.length) (Ls l.length))
  (hQ : ∀ T' L' R' γ' w' a',K T' L'->Inv B R' γ' L' w'->kL N R' γ' L' T' a'->Ext B R0 R' w0 w'->Mv R0 R' γ0 γ' (Ls 0) L'->Q .normal a' w') :
  ∀ (fuel:Nat) (listed:Array Bool) (e:Nat) (R:PH) (γ:List Gh) (a:Act) (w:World),wS l.length listed<=fuel->Zr ti l N B Ls T vs R0 γ0 w0 listed e R γ a w->wpAny P .any l.toArray Q fuel listed a w:=by
 have uniq : ∀ (i j:Nat) o o' d,l[i]?=some o->l[j]?=some o'->o.dst=some d->o'.dst=some d->i=j:=by
  intro i j o o' d ho ho' hd hd'
  by_cases hne:i=j
  ·exact hne
  ·exfalso
   exact (hD.apart i j o o' d hne ho ho' hd (by unfold jD;simp [hd'])).1 hd'

 have flat : ∀ n e,(∀ (c:Nat) o,e<=c->c<e+n->l[c]?=some o->bU ti o.op=false)->e+n<=l.length->Ls (e+n)=Ls e:=by
  intro n
  induction n with
  | zero=>intro e _ _;rfl
  | succ n ih =>
   intro e h hle
   have h1:=ih e (fun c o h1 h2=>h c o h1 (by omega)) (by omega)
   have hlt:e+n<l.length:=by omega
   have ho:l[e+n]?=some l[e+n]:=adR hlt
   obtain ⟨_,v,_,hs⟩:=htr _ _ ho
   rw [<- h1]
   show Ls (e+n+1)=Ls (e+n)
   rcases hs with ⟨_,hop⟩|⟨_,_,hop⟩
   ·exact Be (h _ _ (by omega) (by omega) ho) hop
   ·exact hop

 have pass : ∀ (i:Nat) o v,l[i]?=some o->bU ti o.op=false->lD P ti (look (jW l vs T i)) (Ls i) (fun v' L'=>v'=v/\L'=Ls (i+1)) o.op -> ∀ e,e<=l.length ->
   (∀ (c:Nat) oc,l[c]?=some oc->bU ti oc.op=true->(i<c/\c<e)\/(e<=c/\c<i)->okX ti i c o.op oc.op=true)->lD P ti (look (jW l vs T i)) (Ls e) (fun v' L'=>v'=v/\L'=Ls e) o.op:=by
  intro i o v ho hk hop e hel hx
  have hil:=(adI.1 ho).1
  refine quiet_move hk hop ?_
  by_cases hins:Ii o.op=true
  ·intro r hr;rw [<- Sr hins (L:=Ls i)];exact hr
  have hins':Ii o.op=false:=by simpa using hins
  have step : ∀ c,c<l.length->(∀ oc,l[c]?=some oc->bU ti oc.op=true->okX ti i c o.op oc.op=true)->(i<c -> ∀ r,pop ti (look (jW l vs T i)) (Ls c) o.op=some r->pop ti (look (jW l vs T i)) (Ls (c+1)) o.op=some r)/\(c<i -> ∀ r,pop ti (look (jW l vs T i)) (Ls (c+1)) o.op=some r->pop ti (look (jW l vs T i)) (Ls c) o.op=some r):=by
   intro c hc hok
   have hoc:l[c]?=some l[c]:=adR hc
   obtain ⟨_,vc,_,hs⟩:=htr c _ hoc
   rcases hs with ⟨_,hopc⟩|⟨_,_,hopc⟩
   ·cases hkc:bU ti l[c].op with
    | false=>rw [Be hkc hopc];exact ⟨fun _ r h=>h,fun _ r h=>h⟩
    | true =>
     have h1:=hok _ hoc hkc
     unfold okX at h1
     rw [hins'] at h1
     simp only [Bool.false_or,ad1] at h1
     obtain ⟨hsf,h1⟩:=h1
     have h0:sk l[c].op≠0:=by intro e0;rw [e0] at h1;cases h1
     obtain ⟨r1,r2,r3,r4⟩:=WA hsf h0 hopc
     split at h1
     ·rename_i hsk
      have hlt:i<c:=aea h1
      exact ⟨fun _ r h=>P8 (r1 hsk) h,fun hci=>by omega⟩
     ·rename_i hsk
      exact ⟨fun _ r h=>P8 (r2 hsk).1 h,fun _ r h=>P8 (r2 hsk).2 h⟩
     ·rename_i hsk
      have hl:isLoad o.op=false:=by simpa using h1
      exact ⟨fun _ r h=>XT (r3 hsk).1 hl h,fun _ r h=>XT (r3 hsk).2 hl h⟩
     ·rename_i hsk
      exact ⟨fun _ r h=>P8 (r4 hsk).1 h,fun _ r h=>P8 (r4 hsk).2 h⟩
     ·cases h1
   ·rw [hopc];exact ⟨fun _ r h=>h,fun _ r h=>h⟩

  have hsame:Ls (i+1)=Ls i:=Be hk hop
  by_cases hei:e<=i
  ·
   have : ∀ n,n<=i-e -> ∀ r,pop ti (look (jW l vs T i)) (Ls i) o.op=some r->pop ti (look (jW l vs T i)) (Ls (i-n)) o.op=some r:=by
    intro n
    induction n with
    | zero=>intro _ r h;exact h
    | succ n ih =>
     intro hn r h
     have h2:=ih (by omega) r h
     have h3:=(step (i-(n+1)) (by omega) (fun oc hoc hkc=>hx _ oc hoc hkc (.inr ⟨by omega,by omega⟩))).2 (by omega) r
     have e1:i-(n+1)+1=i-n:=by omega
     rw [e1] at h3
     exact h3 h2
   intro r h
   have h2:=this (i-e) (adY _) r h
   have e1:i-(i-e)=e:=by omega
   rw [e1] at h2;exact h2
  ·have : ∀ n,i+1+n<=e -> ∀ r,pop ti (look (jW l vs T i)) (Ls i) o.op=some r->pop ti (look (jW l vs T i)) (Ls (i+1+n)) o.op=some r:=by
    intro n
    induction n with
    | zero=>intro _ r h;show pop ti (look (jW l vs T i)) (Ls (i+1)) o.op=some r;rw [hsame];exact h
    | succ n ih =>
     intro hn r h
     have h2:=ih (by omega) r h
     exact (step (i+1+n) (by omega) (fun oc hoc hkc=>hx _ oc hoc hkc (.inl ⟨by omega,by omega⟩))).1 (by omega) r h2
   intro r h
   have h2:=this (e-(i+1)) (by omega) r h
   have e1:i+1+(e-(i+1))=e:=by omega
   rw [e1] at h2;exact h2

 have slots : ∀ (listed:Array Bool) (e:Nat) (R:PH) (γ:List Gh) (a:Act) (w:World),Zr ti l N B Ls T vs R0 γ0 w0 listed e R γ a w -> ∀ (i:Nat) o,l[i]?=some o->listed[i]?=some false ->
   (∀ o',l[i]?=some o' -> ∀ e∈o'.after.toList,Region.binds .any e=true->listed[e.on]?=some true) -> ∀ t x,t∈jD l.toArray o->(jW l vs T i).lookup t=some x -> ∃ u,a.tmps[t]?=some u/\x.rep R γ (Ls e) u:=by
  intro listed e R γ a w M i o ho hli hed t x hmem hx
  have hil:=(adI.1 ho).1
  by_cases hex : ∃ (j:Nat) (o':Oper),j<i/\l[j]?=some o'/\o'.dst=some t
  ·obtain ⟨j,o',hj,ho',hd'⟩:=hex
   have hanc:=(hD.apart j i o' o t (by omega) ho' ho hd' hmem).2
   rw [if_pos hj] at hanc
   have hlj:=M.done.anc hanc hed
   have hjv:vs[j]?=some vs[j]:=adR (by omega)
   have:=yj l vs T i j o' vs[j] hj ho' hd' hjv (fun k o2 h1 h2 h3 hd2=>by
    have:=uniq j k o' o2 t ho' h3 hd' hd2
    omega) (fun k _ _=>by omega)
   rw [hx] at this
   injection this with this
   subst this
   exact M.fresh j o' t _ hlj ho' hd' hjv
  ·have hno : ∀ j o',j<i->l[j]?=some o'->o'.dst≠some t:=fun j o' h1 h2 h3=>hex ⟨j,o',h1,h2,h3⟩
   rw [vQ l vs T i hno] at hx
   refine M.old t x hx fun k o' hlk hok hdk=>?_
   by_cases hki:k<i
   ·exact hno k o' hki hok hdk
   ·by_cases hke:k=i
    ·subst hke;rw [hli] at hlk;cases hlk
    ·have hanc:=(hD.apart k i o' o t hke hok ho hdk hmem).2
     rw [if_neg hki] at hanc
     have:=M.done.anc hanc (fun o2 h2=>M.done.down k o2 h2 hlk)
     rw [hli] at this;cases this
 have hbool : ∀ (listed:Array Bool),Done l listed -> ∀ i,i<l.length->listed[i]?=some true\/listed[i]?=some false:=by
  intro listed hd i hi
  have hlt:i<listed.size:=by rw [hd.size];exact hi
  rw [ad8 hlt]
  cases listed[i]<;>simp

 have fin : ∀ (listed:Array Bool) (e:Nat) (R:PH) (γ:List Gh) (a:Act) (w:World),Zr ti l N B Ls T vs R0 γ0 w0 listed e R γ a w->(∀ i,i<l.length->listed[i]?=some true)->Q .normal a w:=by
  intro listed e R γ a w M hall
  have hle:Ls l.length=Ls e:=by
   have:=flat (l.length-e) e (fun c o h1 h2 ho=>by
    cases hk:bU ti o.op with
    | false=>rfl
    | true=>have:=M.hi c o h1 ho hk;rw [hall c (adI.1 ho).1] at this;cases this) (by have:=M.le;omega)
   have e1:e+(l.length-e)=l.length:=by have:=M.le;omega
   rw [e1] at this;exact this
  rw [hle] at hK
  refine hQ _ _ R γ w a hK M.inv ⟨M.size,M.defers,fun t x hx=>?_⟩ M.ext M.mv
  by_cases hex : ∃ (j:Nat) (o':Oper),j<l.length/\l[j]?=some o'/\o'.dst=some t
  ·obtain ⟨j,o',hj,ho',hd'⟩:=hex
   have hjv:vs[j]?=some vs[j]:=adR (by omega)
   have:=yj l vs T l.length j o' vs[j] hj ho' hd' hjv (fun k o2 h1 h2 h3 hd2=>by
    have:=uniq j k o' o2 t ho' h3 hd' hd2
    omega) (fun k _ _=>by omega)
   rw [hx] at this
   injection this with this
   subst this
   exact M.fresh j o' t _ (hall j hj) ho' hd' hjv
  ·have hno : ∀ j o',j<l.length->l[j]?=some o'->o'.dst≠some t:=fun j o' h1 h2 h3=>hex ⟨j,o',h1,h2,h3⟩
   rw [vQ l vs T l.length hno] at hx
   exact M.old t x hx fun k o' _ hok hdk=>hno k o' (adI.1 hok).1 hok hdk
 have allDone : ∀ (listed:Array Bool),Done l listed->Region.ready .any l.toArray listed=[] -> ∀ i,i<l.length->listed[i]?=some true:=by
  intro listed hd hnil i
  induction i using Nat.strongRecOn with
  | ind i ihi =>
   intro hi
   rcases hbool listed hd i hi with h|h
   ·exact h
   ·exfalso
    have:i∈Region.ready .any l.toArray listed:=(Ag hD.back hd i).2 ⟨hi,h,fun o ho e he hb=>ihi e.on (hD.back i o ho e he hb) (by have:=hD.back i o ho e he hb;omega)⟩
    rw [hnil] at this;cases this
 intro fuel
 induction fuel with
 | zero =>
  intro listed e R γ a w hc M
  have hall : ∀ i,i<l.length->listed[i]?=some true:=by
   intro i hi
   rcases hbool listed M.done i hi with h|h
   ·exact h
   ·exfalso
    have:0<wS l.length listed:=List.countP_pos_iff.2 ⟨i,by simpa using hi,by rw [h];rfl⟩
    omega
  refine ⟨?_,fin listed e R γ a w M hall⟩
  apply List.eq_nil_iff_forall_not_mem.2
  intro i hmem
  obtain ⟨h1,h2,_⟩:=(Ag hD.back M.done i).1 hmem
  rw [hall i h1] at h2;cases h2
 | succ fuel ih =>
  intro listed e R γ a w hc M
  refine ⟨fun hnil=>fin listed e R γ a w M (allDone listed M.done hnil),fun i hmem=>?_⟩
  obtain ⟨h1,h2,h3⟩:=(Ag hD.back M.done i).1 hmem
  have ho:l[i]?=some l[i]:=adR h1
  obtain ⟨hd,v,hv,hstep⟩:=htr i _ ho
  have hsl:=slots listed e R γ a w M i _ ho h2 h3
  have hcnt:wS l.length (listed.setIfInBounds i true)<=fuel:=by
   have:wS l.length (listed.setIfInBounds i true)<wS l.length listed:=by
    unfold wS
    refine Dx _ (fun x hx hq=>?_) ⟨i,by simpa using h1,by rw [h2];rfl,by rw [aez (by rw [M.done.size];exact h1)];rfl⟩
    by_cases hxi:x=i
    ·subst hxi;rw [h2];rfl
    ·rw [aep (Ne.symm hxi)] at hq;exact hq
   omega
  have hput : ∀ (e':Nat) (R':PH) (γ':List Gh) (w':World) (u:Value),e'<=l.length->(∀ (c:Nat) o,c<e'->l[c]?=some o->bU ti o.op=true->(listed.setIfInBounds i true)[c]?=some true)->(∀ (c:Nat) o,e'<=c->l[c]?=some o->bU ti o.op=true->(listed.setIfInBounds i true)[c]?=some false) ->
    Inv B R' γ' (Ls e') w'->Ext B R R' w w'->Mv R R' γ γ' (Ls e) (Ls e')->v.rep R' γ' (Ls e') u->Zr ti l N B Ls T vs R0 γ0 w0 (listed.setIfInBounds i true) e' R' γ' (a.put l[i].dst u) w':=by
   intro e' R' γ' w' u hle' hlo hhi hi' he' hmv hu
   have hsz:(a.put l[i].dst u).tmps.size=N:=by cases hdd:l[i].dst<;>simp [Act.put,M.size]
   have keep : ∀ t,l[i].dst≠some t->(a.put l[i].dst u).tmps[t]?=a.tmps[t]?:=by
    intro t ht
    cases hdd:l[i].dst with
    | none=>rfl
    | some d=>simp only [Act.put];rw [aep (by intro e;exact ht (by rw [hdd,e]))]
   refine ⟨hi',hsz,by cases hdd:l[i].dst<;>exact M.defers,M.done.put h3,hle',hlo,hhi,fun j o d v' hlj hoj hdj hvj=>?_,fun t x hx hno=>?_,M.ext.trans he',M.mv.trans hmv⟩
   ·by_cases hji:j=i
    ·subst hji
     rw [ho] at hoj;injection hoj with hoj;subst hoj
     rw [hv] at hvj;injection hvj with hvj;subst hvj
     have hdN:d<N:=by have:=hd;rw [hdj] at this;exact this
     refine ⟨u,?_,hu⟩
     rw [hdj]
     simp only [Act.put]
     exact aez (by rw [M.size];exact hdN)
    ·rw [aep (Ne.symm hji)] at hlj
     obtain ⟨u',g1,g2⟩:=M.fresh j o d v' hlj hoj hdj hvj
     refine ⟨u',?_,AV.mv hmv g2⟩
     rw [keep d (fun e=>hji (uniq j i o _ d hoj ho hdj e))]
     exact g1
   ·have hni:l[i].dst≠some t:=hno i _ (aez (by rw [M.done.size];exact h1)) ho
    obtain ⟨u',g1,g2⟩:=M.old t x hx fun k o hlk hok=>hno k o (by
     by_cases hki:k=i
     ·subst hki;rw [h2] at hlk;cases hlk
     ·rw [aep (Ne.symm hki)];exact hlk) hok
    exact ⟨u',by rw [keep t hni];exact g1,AV.mv hmv g2⟩
  have hlook : ∀ d x,d∈l[i].looksAt l.toArray->(jW l vs T i).lookup d=some x -> ∃ u,a.tmps[d]?=some u/\x.rep R γ (Ls e) u:=fun d x hd hx=>hsl d x (by unfold jD;exact List.mem_append_left _ hd) hx

  have quietLo:bU ti l[i].op=false->(∀ (c:Nat) o,c<e->l[c]?=some o->bU ti o.op=true->(listed.setIfInBounds i true)[c]?=some true)/\(∀ (c:Nat) o,e<=c->l[c]?=some o->bU ti o.op=true->(listed.setIfInBounds i true)[c]?=some false):=by
   intro hk
   have hne : ∀ (c:Nat) o,l[c]?=some o->bU ti o.op=true->c≠i:=by
    rintro c o hoc hkc rfl
    rw [ho] at hoc;injection hoc with hoc;subst hoc;rw [hk] at hkc;cases hkc
   exact ⟨fun c o hc hoc hkc=>by rw [aep (Ne.symm (hne c o hoc hkc))];exact M.lo c o hc hoc hkc,fun c o hc hoc hkc=>by rw [aep (Ne.symm (hne c o hoc hkc))];exact M.hi c o hc hoc hkc⟩
  have chainAt:bU ti l[i].op=true->e<=i/\Ls i=Ls e/\(∀ (c:Nat) o,c<i+1->l[c]?=some o->bU ti o.op=true->(listed.setIfInBounds i true)[c]?=some true)/\(∀ (c:Nat) o,i+1<=c->l[c]?=some o->bU ti o.op=true->(listed.setIfInBounds i true)[c]?=some false):=by
   intro hk
   have hei:e<=i:=by
    rcases Nat.lt_or_ge i e with h|h
    ·have:=M.lo i _ h ho hk;rw [h2] at this;cases this
    ·exact h
   have hbelow : ∀ (c:Nat) o,c<i->l[c]?=some o->bU ti o.op=true->listed[c]?=some true:=fun c o hc hoc hkc=>M.done.anc (hD.chain i c _ o ho hoc hk hkc hc) h3
   refine ⟨hei,?_,fun c o hc hoc hkc=>?_,fun c o hc hoc hkc=>?_⟩
   ·have:=flat (i-e) e (fun c o c1 c2 hoc=>by
     cases hkc:bU ti o.op with
     | false=>rfl
     | true=>have q:=M.hi c o c1 hoc hkc;rw [hbelow c o (by omega) hoc hkc] at q;cases q) (by omega)
    have e1:e+(i-e)=i:=by omega
    rw [e1] at this;exact this
   ·by_cases hci:c=i
    ·subst hci;exact aez (by rw [M.done.size];exact h1)
    ·rw [aep (Ne.symm hci)];exact hbelow c o (by omega) hoc hkc
   ·rw [aep (by omega)];exact M.hi c o (by omega) hoc hkc
  unfold wpOp
  simp only [List.getElem?_toArray,ho]
  rcases hstep with ⟨hw,hop⟩|⟨hw,rfl,hLs⟩
  ·rw [if_pos (zf (U7 hds) hlook hw)]
   refine .inl ?_
   have operand : ∀ x v',(fun x=>if x∈l[i].op.operands then look (jW l vs T i) x else none) x=some v'->v'.rep R γ (Ls e) (a.eval x):=by
    intro x v' hx
    by_cases hxo:x∈l[i].op.operands
    ·simp only [hxo,if_true] at hx
     cases x with
     | tmp t =>
      obtain ⟨u,g1,g2⟩:=hlook t v' (by unfold Oper.looksAt;exact List.mem_append_left _ (List.mem_filterMap.2 ⟨.tmp t,by simpa using hxo,rfl⟩)) hx
      have:a.eval (.tmp t)=u:=by simp [Act.eval,Array.getD_eq_getD_getElem?,g1]
      rw [this];exact g2
     | const c=>exact AV.ofVal_rep hx
     | global g=>cases hx
     | func f =>
      injection hx with hx;subst hx
      exact .fn f #[] [] rfl (fun j v x hv=>by simp at hv)
    ·simp only [hxo,if_false] at hx;cases hx
   cases hk:bU ti l[i].op with
   | false =>
    have hop2:=pass i _ v ho hk hop e M.le (fun c oc hoc hkc hcc=>by
     refine hD.cross i c _ oc ho hoc hk hkc (fun ha=>?_) (fun ha=>?_)
     ·have q:=M.done.anc ha h3
      rcases hcc with ⟨c1,c2⟩|⟨c1,c2⟩
      ·
       have back : ∀ i j,Qo l i j->j<i:=by
        intro i j h
        induction h with
        | edge ho he hb=>exact hD.back _ _ ho _ he hb
        | step ho he hb _ ih=>have:=hD.back _ _ ho _ he hb;omega
       have:=back i c ha;omega
      ·rw [M.hi c oc c1 hoc hkc] at q;cases q
     ·rcases hcc with ⟨c1,c2⟩|⟨c1,c2⟩
      ·have q:=M.done.anc ha (fun o2 h2'=>M.done.down c o2 h2' (M.lo c oc c2 hoc hkc))
       rw [h2] at q;cases q
      ·have back : ∀ i j,Qo l i j->j<i:=by
        intro i j h
        induction h with
        | edge ho he hb=>exact hD.back _ _ ho _ he hb
        | step ho he hb _ ih=>have:=hD.back _ _ ho _ he hb;omega
       have:=back c i ha;omega)
    have hop':=EJ (ρ':=fun x=>if x∈l[i].op.operands then look (jW l vs T i) x else none) (fun x hx=>by simp only [hx,if_true]) hop2
    refine pY hti M.inv operand hop' ?_
    rintro v' L' R' γ' w' u ⟨rfl,rfl⟩ k1 k2 k3 k4
    obtain ⟨q1,q2⟩:=quietLo hk
    exact ih _ e R' γ' _ w' hcnt (hput e R' γ' w' u M.le q1 q2 k1 k2 k3 k4)
   | true =>
    obtain ⟨hei,hLe,q1,q2⟩:=chainAt hk
    rw [hLe] at hop
    have hop':=EJ (ρ':=fun x=>if x∈l[i].op.operands then look (jW l vs T i) x else none) (fun x hx=>by simp only [hx,if_true]) hop
    refine pY hti M.inv operand hop' ?_
    rintro v' L' R' γ' w' u ⟨rfl,rfl⟩ k1 k2 k3 k4
    exact ih _ (i+1) R' γ' _ w' hcnt (hput (i+1) R' γ' w' u (by omega) q1 q2 k1 k2 k3 k4)
  ·rw [if_neg (by rw [zf (U7 hds) hlook hw];decide)]
   cases hk:bU ti l[i].op with
   | false =>
    obtain ⟨q1,q2⟩:=quietLo hk
    exact ih _ e R γ _ w hcnt (hput e R γ w Go.undef M.le q1 q2 M.inv (Ext.refl _ _ _) Mv.refl rfl)
   | true =>
    obtain ⟨hei,hLe,q1,q2⟩:=chainAt hk
    have hLi:Ls (i+1)=Ls e:=hLs.trans hLe
    refine ih _ (i+1) R γ _ w hcnt (hput (i+1) R γ w Go.undef (by omega) q1 q2 ?_ (Ext.refl _ _ _) ?_ rfl)
    ·rw [hLi];exact M.inv
    ·rw [hLi];exact Mv.refl
theorem aw_drawn2 (hti:TIok P ti) {Q:AX->Tm->List Ob->Prop} {T:Tm} {L:List Ob} {id:Nat} {l:List Oper} (ds:List (Option Tmp)) (hds:l.map (·.dst)=ds) (hmix:P.follows .mixedOrders=true) (hc:EX ti l=true) (h:aN P ti N ds (Q .normal) l T L):Aw P N n0 (.region id l.toArray true) Q T L:=by
 intro hn B R γ w a hi hT
 have hD:=WB hc
 obtain ⟨vs,Ls,h1,h0,h2,h3⟩:=XJ l T L h
 subst h0
 have hiD:Inv B R γ (Ls 0) { w with drawn:=w.drawn+1 } := ⟨hi.len,hi.val,fun id x g hx hg=>(hi.obj id x g hx hg).mv Mv.refl (fun _ _=>rfl) (fun _ _ _ h=>h),hi.inj,hi.new,hi.bsz⟩
 have heD:Ext B R R w { w with drawn:=w.drawn+1 } := ⟨⟨rfl,rfl,rfl,adY _,fun _ _=>rfl⟩,PH.sub_refl _,fun _ _ _=>rfl⟩
 refine wp_region_any hmix ?_
 have hsz:l.toArray.size=l.length:=by simp
 rw [hsz]
 refine adi hti hds (B:=B) hD h1 h2 h3 (R0:=R) (γ0:=γ) (w0:=w) ?_ l.length (Array.replicate l.length false) 0 R γ a { w with drawn:=w.drawn+1 } ?_ ?_
 ·intro T' L' R' γ' w' a' q1 q2 q3 q4 q5
  exact ⟨.normal,T',L',R',γ',rfl,q1,q2,q3,q4,Bw.of hn q5⟩
 ·unfold wS
  exact Nat.le_trans List.countP_le_length (by simp)
 ·have hf : ∀ i:Nat,i<l.length->(Array.replicate l.length false)[i]?=some false:=fun i hi=>by simp [hi]
  have ht : ∀ i:Nat,(Array.replicate l.length false)[i]?≠some true:=by
   intro i e
   by_cases hi:i<l.length
   ·rw [hf i hi] at e;cases e
   ·rw [Array.getElem?_eq_none (by simp;omega)] at e;cases e
  exact ⟨hiD,hT.size,hT.defers,⟨by simp,fun i o _ e=>absurd e (ht i)⟩,by omega,fun c _ hc=>by omega,fun c o _ hoc _=>hf c (adI.1 hoc).1,fun i o d v e=>absurd e (ht i),fun t x hx _=>hT.slot t x hx,heD,Mv.refl⟩
end
def gdb (ds:List (Option Tmp)) (T:Tm):Option (Nat × Bool)->Option Bool
 | none=>none
 | some (j,_)=>match ds[j]? with
  | some (some d)=>match T.lookup d with
   | some (.one (.c (.bool b)))=>some b
   | _=>none
  | _=>none
section
variable {P:Program} {ti:TI} {N:Nat} {ds:List (Option Tmp)} {K:Tm->List Ob->Prop} {o:Oper} {rest:List Oper} {T:Tm} {L:List Ob}
theorem gI {A B:Prop} {g:Option (Nat × Bool)} (h:jX ds T g=some true) (ha:A):gd ds T A B g:=by
 cases g with
 | none=>exact ha
 | some p =>
  obtain ⟨j,want⟩:=p
  simp only [jX] at h
  simp only [gd]
  split at h
  ·rename_i d hd
   simp only [hd]
   split at h
   ·rename_i b hb
    simp only [hb]
    refine ⟨fun _=>ha,fun e=>?_⟩
    subst e
    cases want<;>simp at h
   ·cases h
   ·cases h
  ·cases h
theorem Ie {A B:Prop} {g:Option (Nat × Bool)} (h:jX ds T g=some false) (hb:B):gd ds T A B g:=by
 cases g with
 | none=>cases h
 | some p =>
  obtain ⟨j,want⟩:=p
  simp only [jX] at h
  simp only [gd]
  split at h
  ·rename_i d hd
   simp only [hd]
   split at h
   ·rename_i b hbb
    simp only [hbb]
    refine ⟨fun e=>?_,fun _=>hb⟩
    subst e
    cases b<;>simp at h
   ·rename_i hbb
    simp only [hbb]
    exact hb
   ·cases h
  ·cases h
theorem iM {d:Nat} (hd:o.dst=some d) (hN:Nat.blt d N=true):YI N o.dst:=by
 rw [hd];show d<N;exact Nat.blt_eq▸hN
theorem st_nil (h:K T L):aN P ti N ds K [] T L:=h
theorem aP {v:AV} {φ:Prop} {d:Nat} (hd:o.dst=some d) (hN:Nat.blt d N=true) (hg:jX ds T o.guard=some true) (hp:pop ti (look T) L o.op=some (v,φ)) (hφ:φ) (h:aN P ti N ds K rest ((d,v)::T) L):aN P ti N ds K (o::rest) T L :=
 ⟨iM hd hN,gI hg (.inl ⟨v,φ,hp,hφ,by rw [hd];exact h⟩)⟩
theorem aS {v:AV} {φ:Prop} {d:Nat} (hd:o.dst=some d) (hN:Nat.blt d N=true) (hg:jX ds T o.guard=some true) (hp:zM ti (look T) o.op=some (v,φ)) (hφ:φ) (h:aN P ti N ds K rest ((d,v)::T) L):aN P ti N ds K (o::rest) T L :=
 ⟨iM hd hN,gI hg (.inr (.inl ⟨v,φ,hp,hφ,by rw [hd];exact h⟩))⟩
theorem aT {v:AV} {L':List Ob} {φ:Prop} {d:Nat} (hd:o.dst=some d) (hN:Nat.blt d N=true) (hg:jX ds T o.guard=some true) (hp:FE ti (look T) L o.op=some (v,L',φ)) (hφ:φ) (h:aN P ti N ds K rest ((d,v)::T) L'):aN P ti N ds K (o::rest) T L :=
 ⟨iM hd hN,gI hg (.inr (.inr (.inl ⟨v,L',φ,hp,hφ,by rw [hd];exact h⟩)))⟩
theorem sS_ {v:AV} {L':List Ob} {φ:Prop} (hd:o.dst=none) (hg:jX ds T o.guard=some true) (hp:FE ti (look T) L o.op=some (v,L',φ)) (hφ:φ) (h:aN P ti N ds K rest T L'):aN P ti N ds K (o::rest) T L :=
 ⟨by rw [hd];trivial,gI hg (.inr (.inr (.inl ⟨v,L',φ,hp,hφ,by rw [hd];exact h⟩)))⟩
theorem cK {g:FuncId} {ps:List PV} {r:CV} {d:Nat} {v:AV} (hd:o.dst=some d) (hN:Nat.blt d N=true) (hg:jX ds T o.guard=some true) (hp:vR (look T) o.op=some (g,ps)) (hc:Pure P g ps r) (hv:r.av=v) (h:aN P ti N ds K rest ((d,v)::T) L):aN P ti N ds K (o::rest) T L :=
 ⟨iM hd hN,gI hg (.inr (.inr (.inr (.inl ⟨g,ps,r,hp,hc,by rw [hd,hv];exact h⟩))))⟩
theorem lH (σ:List Nat) {g:FuncId} {L0 L1 L':List Ob} {args asx:List AV} {r r':AV} {d:Nat} (hd:o.dst=some d) (hN:Nat.blt d N=true) (hg:jX ds T o.guard=some true) (hp:ig ti (look T) o.op=some (g,asx)) (hc:Run P g L0 args L1 r) (ha:asx=args.map (AV.ren σ)) (hF:nE σ L0 args L)
  (hr:r.ren (fV σ L.length L1.length)=r') (hL:joinL σ L L1=L') (h:aN P ti N ds K rest ((d,r')::T) L'):aN P ti N ds K (o::rest) T L :=
 ⟨iM hd hN,gI hg (.inr (.inr (.inr (.inr (.inr (.inr (.inl ⟨σ,g,L0,args,L1,r,by rw [hp,ha],hF,hc,by rw [hd,hr,hL];exact h⟩)))))))⟩
theorem iy {v:AV} {L':List Ob} {d:Nat} (hd:o.dst=some d) (hN:Nat.blt d N=true) (hg:jX ds T o.guard=some true) (hl:bU ti o.op=true) (hsf:ti.soft=false) (hs:wu P (look T) L o.op v L') (h:aN P ti N ds K rest ((d,v)::T) L'):aN P ti N ds K (o::rest) T L :=
 ⟨iM hd hN,gI hg (.inr (.inr (.inr (.inr (.inr (.inr (.inr ⟨v,L',⟨hl,fun e=>by rw [hsf] at e;cases e⟩,hs,by rw [hd];exact h⟩)))))))⟩
theorem ML {v:AV} {L':List Ob} (hd:o.dst=none) (hg:jX ds T o.guard=some true) (hl:bU ti o.op=true) (hsf:ti.soft=false) (hs:wu P (look T) L o.op v L') (h:aN P ti N ds K rest T L'):aN P ti N ds K (o::rest) T L :=
 ⟨by rw [hd];trivial,gI hg (.inr (.inr (.inr (.inr (.inr (.inr (.inr ⟨v,L',⟨hl,fun e=>by rw [hsf] at e;cases e⟩,hs,by rw [hd];exact h⟩)))))))⟩
theorem fw {v:AV} {d:Nat} (hd:o.dst=some d) (hN:Nat.blt d N=true) (hg:jX ds T o.guard=some true) (hl:bU ti o.op=true) (hk:sk o.op=4) (hs:wu P (look T) L o.op v L) (h:aN P ti N ds K rest ((d,v)::T) L):aN P ti N ds K (o::rest) T L :=
 ⟨iM hd hN,gI hg (.inr (.inr (.inr (.inr (.inr (.inr (.inr ⟨v,L,⟨hl,fun _ => .inr ⟨hk,rfl⟩⟩,hs,by rw [hd];exact h⟩)))))))⟩
theorem Sm {v:AV} {L':List Ob} {d:Nat} (hd:o.dst=some d) (hN:Nat.blt d N=true) (hg:jX ds T o.guard=some true) (hl:bU ti o.op=true) (hk:sk o.op=0) (hs:wu P (look T) L o.op v L') (h:aN P ti N ds K rest ((d,v)::T) L'):aN P ti N ds K (o::rest) T L :=
 ⟨iM hd hN,gI hg (.inr (.inr (.inr (.inr (.inr (.inr (.inr ⟨v,L',⟨hl,fun _ => .inl hk⟩,hs,by rw [hd];exact h⟩)))))))⟩
theorem aK {d:Nat} (hd:o.dst=some d) (hN:Nat.blt d N=true) (hg:jX ds T o.guard=some false) (h:aN P ti N ds K rest ((d, .undef)::T) L):aN P ti N ds K (o::rest) T L :=
 ⟨iM hd hN,Ie hg (by rw [hd];exact h)⟩
theorem sk0_ (hd:o.dst=none) (hg:jX ds T o.guard=some false) (h:aN P ti N ds K rest T L):aN P ti N ds K (o::rest) T L :=
 ⟨by rw [hd];trivial,Ie hg (by rw [hd];exact h)⟩
theorem bF {b:Bool} (_:gdb ds T o.guard=some b) (h1:b=true->aN P ti N ds K (o::rest) T L) (h2:b=false->aN P ti N ds K (o::rest) T L):aN P ti N ds K (o::rest) T L:=by
 cases hb:b
 ·exact h2 hb
 ·exact h1 hb
end
theorem iJ {β:Type} {l:List (Nat × β)} {Pr:Nat->β->Prop} (h : ∀ p∈l,Pr p.1 p.2) : ∀ t v,l.lookup t=some v->Pr t v:=by
 intro t v hv
 induction l with
 | nil=>cases hv
 | cons p l ih =>
  obtain ⟨k,x⟩:=p
  rw [List.lookup_cons] at hv
  by_cases e:t=k
  ·subst e;simp at hv;subst hv;exact h (t,x) (by simp)
  ·have:(t==k)=false:=by simpa using e
   rw [this] at hv
   exact ih (fun p hp=>h p (ad7 _ hp)) hv
theorem IX {α:Type} {l:List α} {f:α->Bool} {Pr:α->Prop} (h:l.all f=true) (hf : ∀ x,f x=true->Pr x) : ∀ x∈l,Pr x:=fun x hx=>hf x (aev.1 h x hx)
def TI.of (sz:List (Nat × Nat)) (ag:List (Nat × Bool)) (el:List (Nat × Nat)) (fl:List (Nat × List (Nat × Nat))) (ze:List (Nat × AV)) (bt:List (Nat × Nat)) (ki:List (Nat × TypeDesc)) (st zo:List Nat) (eq:List (Nat × List Sc)) (ow:List Nat):TI where
 size:=fun t=>sz.lookup t
 agg:=fun t=>ag.lookup t
 elem:=fun t=>el.lookup t
 field:=fun s i=>match fl.lookup s with
  | some fs=>fs[i]?
  | none=>none
 zero:=fun t=>ze.lookup t
 bytes:=fun t=>bt.lookup t
 kind:=fun t=>ki.lookup t
 struct:=fun t=>st.contains t
 zok:=fun t=>zo.contains t
 eqs:=fun t=>eq.lookup t
 owns:=fun f=>ow.contains f
def abd (P:Program) (t:TypeId):Bool :=
 match P.info? t with
 | some i=>match i.zero with
  | some z=>z.cells.size==i.size
  | none=>false
 | none=>false
theorem abp {P:Program} {t:TypeId} (h:abd P t=true) : ∀ k,gT P t=some k->TW P t k:=by
 intro k hk
 unfold abd at h
 unfold gT at hk
 split at h
 ·rename_i i hi
  split at h
  ·rename_i z hz
   rw [hi] at hk
   simp at hk
   simp at h
   exact ⟨i,z,hi,hz,hk,by rw [h,hk]⟩
  ·cases h
 ·cases h
theorem TI.of_ok {P:Program} {sz:List (Nat × Nat)} {ag:List (Nat × Bool)} {el:List (Nat × Nat)} {fl:List (Nat × List (Nat × Nat))} {ze:List (Nat × AV)} {bt:List (Nat × Nat)} {ki:List (Nat × TypeDesc)} {st zo:List Nat} {eq:List (Nat × List Sc)} {ow:List Nat}
  (h1:(sz.all fun p=>gT P p.1==some p.2)=true) (h2:(ag.all fun p=>OM P p.1==some p.2)=true) (h3:(el.all fun p=>sF P p.1==some p.2)=true)
  (h4:(fl.all fun p=>(List.range p.2.length).all fun i=>zX P p.1 i==p.2[i]?)=true) (h5 : ∀ p∈ze,zeroOf P p.1=some p.2) (h6:(bt.all fun p=>rA P p.1==some p.2)=true) (h7 : ∀ p∈ki,P.underlying p.1=some p.2)
  (h8:(st.all fun t=>E_ P t)=true) (h9:(zo.all fun t=>abd P t)=true)
  (h10 : ∀ p∈eq,P.eqGuardType P.depth p.1=false /\ ∀ xs ys,gy p.2 xs=true->gy p.2 ys=true->QC P p.1 xs ys):TIok P (TI.of sz ag el fl ze bt ki st zo eq ow):=by
 refine ⟨iJ (IX h1 fun p hp=>by simpa using hp),iJ (IX h2 fun p hp=>by simpa using hp),iJ (IX h3 fun p hp=>by simpa using hp),fun s i r h=>?_,iJ h5,iJ (IX h6 fun p hp=>by simpa using hp),iJ h7,fun t h=>?_,fun t h=>?_,iJ h10⟩
 ·simp only [TI.of] at h
  split at h
  ·rename_i fs hf
   have:=iJ (Pr:=fun s fs=>((List.range fs.length).all fun i=>zX P s i==fs[i]?)=true) (IX h4 fun p hp=>hp) s fs hf
   have hi:i<fs.length:=(adI.1 h).1
   have h2:=aev.1 this i (by simpa using hi)
   rw [<- h];simpa using h2
  ·cases h
 ·exact aev.1 h8 t (by simpa [TI.of] using h)
 ·exact abp (aev.1 h9 t (by simpa [TI.of] using h))
section
variable {P:Program} {ti:TI} {N n0:Nat} {Q:AX->Tm->List Ob->Prop} {T:Tm} {L:List Ob}
theorem bR {rs:List ResultVar} {ps:List PV} {φ:Prop} {r:CV} (h:xL ti T L rs=some (ps,φ)) (hφ:φ) (e:WJ ps=r):Res ti rs T L r:=by
 unfold Res
 rw [h]
 exact ⟨hφ,e⟩
theorem bE {rs:List ResultVar} {r:CV} (h:Res ti rs T L r):(AX.ret=AX.normal\/AX.ret=AX.ret)/\Res ti rs T L r:=⟨.inr rfl,h⟩
end
def YQ (n:Int):CV := .val (.one (.int .i64 n))
end Go.Proofs.YtfccopdbgfdcdaaGreatDoor
