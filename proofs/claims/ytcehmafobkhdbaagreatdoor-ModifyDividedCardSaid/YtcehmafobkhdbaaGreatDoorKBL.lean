/- Parts of the proof, joined. No condition. -/
import Derived.Test.YtcehmafobkhdbaaGreatDoorKBK
set_option linter.unusedSimpArgs false
set_option linter.unusedVariables false
namespace Go.Proofs.YtcehmafobkhdbaaGreatDoor
open Go.RowKit Go.MapKept
set_option maxRecDepth 100000
theorem Qr {α β ρ:Type} {l:List α} {body:(List β × Int)->Option (Step (List β × Int) ρ)} (g:α->β) (h1 : ∀ (c:List β) (i:Nat) x,l[i]?=some x->i<c.length->body (c,(i:Int))=some (.next (c.set i (g x),((i+1:Nat):Int)))) (h2 : ∀ c:List β,body (c,((l.length:Nat):Int))=some (.exit (c,((l.length:Nat):Int)))) :
  ∀ (n i:Nat) (c:List β),c.length=l.length->i<=l.length->l.length-i<n->ax body n (c,(i:Int))=some (.inl (c.take i++(l.drop i).map g,((l.length:Nat):Int)))
 | 0,i,c,_,_,h=>by omega
 | n+1,i,c,hc,hi,hn=>by
  rw [ax]
  by_cases hlt:i<l.length
  ·obtain ⟨x,hx⟩:=gol_ hlt
   have e1:=(agV.1 hx).2
   rw [h1 c i x hx (by omega)]
   show ax body n (c.set i (g x),((i+1:Nat):Int))=_
   rw [Qr g h1 h2 n (i+1) (c.set i (g x)) (by rw [List.length_set];exact hc) (by omega) (by omega),ahp hlt,e1,ag6]
   congr 3
   rw [List.take_succ_eq_append_getElem (by rw [List.length_set];omega),List.getElem_set_self,ahk,List.take_set_of_le (ag' i)]
   rfl
  ·have:i=l.length:=by omega
   subst this
   rw [h2,ahO,ag_,ahs, <- hc,List.take_length]
def fH:Nat->Ex->Prop
 | 0,_=>False
 | n+1,e=>e.args.length<=100000 /\ ∀ x∈e.args,fH n x
theorem uZ : ∀ {n m:Nat} {e:Ex}, n<=m->fH n e->fH m e
 | 0,_,_,_,h=>h.elim
 | n+1,0,_,h,_=>by omega
 | n+1,m+1,e,h,k=>⟨k.1,fun x hx=>uZ (by omega) (k.2 x hx)⟩
def El (l:List Val):Val:=(l.find? fun v=>decide (v.kind≠0)).getD mX
theorem E9 : ∀ l:List Val,dF (ρ:=Val) (fun (_:Unit) (v:Val)=>some (if v.kind≠0 then .inr v else .inl ())) () l=some (match l.find? fun v=>decide (v.kind≠0) with|some v => .inr v|none => .inl ())
 | []=>rfl
 | v::l=>by
  rw [dF]
  by_cases h:v.kind=0
  ·simp only [ne_eq,h,not_true_eq_false,if_false]
   rw [E9 l,List.find?_cons_of_neg (by simp [h])]
  ·rw [List.find?_cons_of_pos (by simp [h])]
   simp [h]
theorem Od (l:List Val) (hl:l.length<=100000):ww 23 l=some (El l):=by
 unfold ww
 rw [show decide ((23:Int)=22)=false from rfl,agW]
 rw [di (l:=l) (mk:=fun (_:Unit) i=>i) (f:=fun _ v=>some (if v.kind≠0 then .inr v else .inl ())) ?_ ?_ (by unfold fuel;omega) ()]
 ·rw [E9]
  unfold El
  cases l.find? fun v=>decide (v.kind≠0) with
  | none=>exact congrArg (fun o:Option Val=>o.bind fun r=>some r) dn
  | some v=>rfl
 ·intro s i x hx
  have hi:=(agV.1 hx).1
  unfold xy
  dsimp only
  rw [aV hx,agX,gn_ hx,wrapN (by omega)]
  simp only [agU]
  by_cases h:x.kind=0
  ·simp [h,uw]
  ·simp [h,uw]
 ·intro s
  unfold xy
  dsimp only
  rw [lF_,agW]
theorem Uu (l:List Val) (hl:l.length<=100000):(ax (uS l) fuel (0:Int)).bind qh=some (El l):=by
 rw [di (l:=l) (mk:=fun (_:Unit) i=>i) (f:=fun _ v=>some (if v.kind≠0 then .inr v else .inl ())) ?_ ?_ (by unfold fuel;omega) ()]
 ·rw [E9]
  unfold El
  cases l.find? fun v=>decide (v.kind≠0) with
  | none=>exact congrArg (fun o:Option Val=>o.bind fun r=>some r) oK
  | some v=>rfl
 ·intro s i x hx
  have hi:=(agV.1 hx).1
  unfold uS
  dsimp only
  rw [aV hx,agX,gn_ hx,wrapN (by omega)]
  simp only [agU]
  by_cases h:x.kind=0
  ·simp [h,uw]
  ·simp [h,uw]
 ·intro s
  unfold uS
  dsimp only
  rw [lF_,agW]
theorem acY {l:List Val} (h : ∀ v∈l,vF v=true):vF (El l)=true:=by
 unfold El
 cases e:l.find? fun v=>decide (v.kind≠0) with
 | none=>exact pG
 | some v=>exact h v (List.mem_of_find?_eq_some e)
theorem uh {op:Int} {a b:Val} (h:VV a):vF (ig op a b)=true:=by
 unfold ig
 cases gM [a,b] 1 with
 | false=>exact pG
 | true=>exact (iI h.int).2
theorem adx (a:Val):vF (Q6 a)=true:=by
 unfold Q6
 cases gM [a] 1 with
 | false=>exact pG
 | true=>exact ug _
theorem adY (a b:Val):vF (O5 a b)=true:=by
 unfold O5
 cases gM [a,b] 2 with
 | false=>exact pG
 | true=>exact ug _
theorem adw (a:Val):vF (O9 a)=true:=by
 unfold O9
 cases gM [a] 2 with
 | false=>exact pG
 | true=>exact ug _
theorem ad3 (r:Int) (a b c d:Val):vF (Oy r a b c d)=true:=by
 unfold Oy
 cases gM [a,b,c,d] 1 with
 | false=>exact pG
 | true =>
  rw [agX]
  split
  ·exact Hr _
  ·exact pG
def rQ (op k:Int) (l:List Val):Val :=
 if op=4 then CW (IZ (tF_ (Al l 0))) else if op=5 then CW (DY Le l.tail (tF_ (Al l 0))) else if op=6 then CW (DY or3 l.tail (tF_ (Al l 0)))
 else if op=7\/op=8\/op=9\/op=10\/op=11\/op=12 then CW (wH op (Al l 0) (Al l 1))
 else if op=18 then Q6 (Al l 0) else if op=19 then O5 (Al l 0) (Al l 1) else if op=20 then O9 (Al l 0) else if op=21 then pM (decide ((Al l 0).kind=0))
 else if op=22 then (bif decide (tF_ (Al l 0)=2) then Al l 1 else Al l 2) else if op=23 then El l else if op=24 then Oy k (Al l 0) (Al l 1) (Al l 2) (Al l 3)
 else ig op (Al l 0) (Al l 1)
theorem agd {α:Type} {l:List α} (h:l.length=1) : ∃ a,l=[a]:=match l,h with|[a],_=>⟨a,rfl⟩
theorem WY {α:Type} {l:List α} (h:l.length=2) : ∃ a b,l=[a,b]:=match l,h with|[a,b],_=>⟨a,b,rfl⟩
theorem abU {α:Type} {l:List α} (h:l.length=3) : ∃ a b c,l=[a,b,c]:=match l,h with|[a,b,c],_=>⟨a,b,c,rfl⟩
theorem agw {α:Type} {l:List α} (h:l.length=4) : ∃ a b c d,l=[a,b,c,d]:=match l,h with|[a,b,c,d],_=>⟨a,b,c,d,rfl⟩
theorem agD {α:Type} {l:List α} (h:1<=l.length) : ∃ a m,l=a::m:=match l,h with|a::m,_=>⟨a,m,rfl⟩
structure vQ (op:Int) (l:List Val):Prop where
 lo:(nY op).1<=((l.length:Nat):Int)
 hi:((l.length:Nat):Int)<=(nY op).2
 len:l.length<=100000
 vf : ∀ v∈l,vF v=true
theorem sh1 {op:Int} {l:List Val} (A:vQ op l) (h:nY op=(1,1)) : ∃ a,l=[a]/\VV a:=by
 have h1:=A.lo
 have h2:=A.hi
 rw [h] at h1 h2
 dsimp only at h1 h2
 obtain ⟨a,rfl⟩:=agd (l:=l) (by omega)
 exact ⟨a,rfl,xL (A.vf a (by simp))⟩
theorem GR {op:Int} {l:List Val} (A:vQ op l) (h:nY op=(2,2)) : ∃ a b,l=[a,b]/\VV a/\VV b:=by
 have h1:=A.lo
 have h2:=A.hi
 rw [h] at h1 h2
 dsimp only at h1 h2
 obtain ⟨a,b,rfl⟩:=WY (l:=l) (by omega)
 exact ⟨a,b,rfl,xL (A.vf a (by simp)),xL (A.vf b (by simp))⟩
theorem sh3 {op:Int} {l:List Val} (A:vQ op l) (h:nY op=(3,3)) : ∃ a b c,l=[a,b,c]:=by
 have h1:=A.lo
 have h2:=A.hi
 rw [h] at h1 h2
 dsimp only at h1 h2
 exact abU (l:=l) (by omega)
theorem sh4 {op:Int} {l:List Val} (A:vQ op l) (h:nY op=(4,4)) : ∃ a b c d,l=[a,b,c,d]:=by
 have h1:=A.lo
 have h2:=A.hi
 rw [h] at h1 h2
 dsimp only at h1 h2
 exact agw (l:=l) (by omega)
theorem WP {op:Int} {l:List Val} (A:vQ op l) (h:1<=(nY op).1) : ∃ a m,l=a::m/\VV a/\m.length<=1000000:=by
 have h1:=A.lo
 have h3:=A.len
 obtain ⟨a,m,rfl⟩:=agD (l:=l) (by omega)
 exact ⟨a,m,rfl,xL (A.vf a (by simp)),by rw [ahf] at h3;omega⟩
theorem ZV (e:Ex) (row l:List Val) (i:Int) (A:vQ e.op l) (ho:e.op=4\/e.op=5\/e.op=6\/e.op=7\/e.op=8\/e.op=9\/e.op=10\/e.op=11\/e.op=12\/e.op=13\/e.op=14\/e.op=15\/e.op=16\/e.op=17\/e.op=18\/e.op=19\/e.op=20\/e.op=21\/e.op=22\/e.op=23\/e.op=24):gER_K e row (.inl (l,i))=some (rQ e.op e.int l):=by
 rcases ho with ho|ho|ho|ho|ho|ho|ho|ho|ho|ho|ho|ho|ho|ho|ho|ho|ho|ho|ho|ho|ho
 ·obtain ⟨a,rfl,va⟩:=sh1 A (by rw [ho];rfl)
  have hv:rQ 4 e.int [a]=CW (IZ (tF_ a)):=rfl
  rw [ho,hv]
  unfold gER_K
  dsimp only
  simp only [ho,Int.reduceEq,decide_false,decide_true,agX,agW]
  rw [show aH [a] (0:Int)=some a from rfl,agU,qy,agU,DK (kD a),agU,si (wE _)];rfl
 ·obtain ⟨a,m,rfl,va,hm⟩:=WP A (by rw [ho];decide)
  have hv:rQ 5 e.int (a::m)=CW (DY Le m (tF_ a)):=rfl
  rw [ho,hv]
  unfold gER_K
  dsimp only
  simp only [ho,Int.reduceEq,decide_false,decide_true,agX,agW]
  rw [Kc 5 Le OT (fun a b ha hb=>by rw [show decide ((5:Int)=5)=true from rfl];exact Zx ha hb) a m hm];rfl
 ·obtain ⟨a,m,rfl,va,hm⟩:=WP A (by rw [ho];decide)
  have hv:rQ 6 e.int (a::m)=CW (DY or3 m (tF_ a)):=rfl
  rw [ho,hv]
  unfold gER_K
  dsimp only
  simp only [ho,Int.reduceEq,decide_false,decide_true,agX,agW]
  rw [Kc 6 or3 UG (fun a b ha hb=>by rw [show decide ((6:Int)=5)=false from rfl];exact abI ha hb) a m hm];rfl
 ·obtain ⟨a,b,rfl,va,vb⟩:=GR A (by rw [ho];rfl)
  have hv:rQ 7 e.int [a,b]=CW (wH 7 a b):=rfl
  rw [ho,hv]
  unfold gER_K
  dsimp only
  simp only [ho,Int.reduceEq,decide_false,decide_true,agX,agW]
  rw [show aH [a,b] (0:Int)=some a from rfl,agU,show aH [a,b] (1:Int)=some b from rfl,agU,kG,agU,si (lc _ _ _)];rfl
 ·obtain ⟨a,b,rfl,va,vb⟩:=GR A (by rw [ho];rfl)
  have hv:rQ 8 e.int [a,b]=CW (wH 8 a b):=rfl
  rw [ho,hv]
  unfold gER_K
  dsimp only
  simp only [ho,Int.reduceEq,decide_false,decide_true,agX,agW]
  rw [show aH [a,b] (0:Int)=some a from rfl,agU,show aH [a,b] (1:Int)=some b from rfl,agU,kG,agU,si (lc _ _ _)];rfl
 ·obtain ⟨a,b,rfl,va,vb⟩:=GR A (by rw [ho];rfl)
  have hv:rQ 9 e.int [a,b]=CW (wH 9 a b):=rfl
  rw [ho,hv]
  unfold gER_K
  dsimp only
  simp only [ho,Int.reduceEq,decide_false,decide_true,agX,agW]
  rw [show aH [a,b] (0:Int)=some a from rfl,agU,show aH [a,b] (1:Int)=some b from rfl,agU,kG,agU,si (lc _ _ _)];rfl
 ·obtain ⟨a,b,rfl,va,vb⟩:=GR A (by rw [ho];rfl)
  have hv:rQ 10 e.int [a,b]=CW (wH 10 a b):=rfl
  rw [ho,hv]
  unfold gER_K
  dsimp only
  simp only [ho,Int.reduceEq,decide_false,decide_true,agX,agW]
  rw [show aH [a,b] (0:Int)=some a from rfl,agU,show aH [a,b] (1:Int)=some b from rfl,agU,kG,agU,si (lc _ _ _)];rfl
 ·obtain ⟨a,b,rfl,va,vb⟩:=GR A (by rw [ho];rfl)
  have hv:rQ 11 e.int [a,b]=CW (wH 11 a b):=rfl
  rw [ho,hv]
  unfold gER_K
  dsimp only
  simp only [ho,Int.reduceEq,decide_false,decide_true,agX,agW]
  rw [show aH [a,b] (0:Int)=some a from rfl,agU,show aH [a,b] (1:Int)=some b from rfl,agU,kG,agU,si (lc _ _ _)];rfl
 ·obtain ⟨a,b,rfl,va,vb⟩:=GR A (by rw [ho];rfl)
  have hv:rQ 12 e.int [a,b]=CW (wH 12 a b):=rfl
  rw [ho,hv]
  unfold gER_K
  dsimp only
  simp only [ho,Int.reduceEq,decide_false,decide_true,agX,agW]
  rw [show aH [a,b] (0:Int)=some a from rfl,agU,show aH [a,b] (1:Int)=some b from rfl,agU,kG,agU,si (lc _ _ _)];rfl
 ·obtain ⟨a,b,rfl,va,vb⟩:=GR A (by rw [ho];rfl)
  have hv:rQ 13 e.int [a,b]=ig 13 a b:=rfl
  rw [ho,hv]
  unfold gER_K
  dsimp only
  simp only [ho,Int.reduceEq,decide_false,decide_true,agX,agW]
  unfold ig
  rw [qb _ _ (by simp),agU]
  cases gM [a,b] 1 with
  | false=>exact congrArg (fun o:Option Val=>o.bind fun r=>some r) dn
  | true=>exact congrArg (fun o:Option Val=>o.bind fun r=>some r) (iI va.int).1
 ·obtain ⟨a,b,rfl,va,vb⟩:=GR A (by rw [ho];rfl)
  have hv:rQ 14 e.int [a,b]=ig 14 a b:=rfl
  rw [ho,hv]
  unfold gER_K
  dsimp only
  simp only [ho,Int.reduceEq,decide_false,decide_true,agX,agW]
  unfold ig
  rw [qb _ _ (by simp),agU]
  cases gM [a,b] 1 with
  | false=>exact congrArg (fun o:Option Val=>o.bind fun r=>some r) dn
  | true=>exact congrArg (fun o:Option Val=>o.bind fun r=>some r) (iI va.int).1
 ·obtain ⟨a,b,rfl,va,vb⟩:=GR A (by rw [ho];rfl)
  have hv:rQ 15 e.int [a,b]=ig 15 a b:=rfl
  rw [ho,hv]
  unfold gER_K
  dsimp only
  simp only [ho,Int.reduceEq,decide_false,decide_true,agX,agW]
  unfold ig
  rw [qb _ _ (by simp),agU]
  cases gM [a,b] 1 with
  | false=>exact congrArg (fun o:Option Val=>o.bind fun r=>some r) dn
  | true=>exact congrArg (fun o:Option Val=>o.bind fun r=>some r) (iI va.int).1
 ·obtain ⟨a,b,rfl,va,vb⟩:=GR A (by rw [ho];rfl)
  have hv:rQ 16 e.int [a,b]=ig 16 a b:=rfl
  rw [ho,hv]
  unfold gER_K
  dsimp only
  simp only [ho,Int.reduceEq,decide_false,decide_true,agX,agW]
  unfold ig
  rw [qb _ _ (by simp),agU]
  cases gM [a,b] 1 with
  | false=>exact congrArg (fun o:Option Val=>o.bind fun r=>some r) dn
  | true=>exact congrArg (fun o:Option Val=>o.bind fun r=>some r) (iI va.int).1
 ·obtain ⟨a,b,rfl,va,vb⟩:=GR A (by rw [ho];rfl)
  have hv:rQ 17 e.int [a,b]=ig 17 a b:=rfl
  rw [ho,hv]
  unfold gER_K
  dsimp only
  simp only [ho,Int.reduceEq,decide_false,decide_true,agX,agW]
  unfold ig
  rw [qb _ _ (by simp),agU]
  cases gM [a,b] 1 with
  | false=>exact congrArg (fun o:Option Val=>o.bind fun r=>some r) dn
  | true=>exact congrArg (fun o:Option Val=>o.bind fun r=>some r) (iI va.int).1
 ·obtain ⟨a,rfl,va⟩:=sh1 A (by rw [ho];rfl)
  have hv:rQ 18 e.int [a]=Q6 a:=rfl
  rw [ho,hv]
  unfold gER_K
  dsimp only
  simp only [ho,Int.reduceEq,decide_false,decide_true,agX,agW]
  unfold Q6
  rw [qb _ _ (by simp),agU]
  cases gM [a] 1 with
  | false=>exact congrArg (fun o:Option Val=>o.bind fun r=>some r) dn
  | true=>exact congrArg (fun o:Option Val=>o.bind fun r=>some r) (mP _)
 ·obtain ⟨a,b,rfl,va,vb⟩:=GR A (by rw [ho];rfl)
  have hv:rQ 19 e.int [a,b]=O5 a b:=rfl
  rw [ho,hv]
  unfold gER_K
  dsimp only
  simp only [ho,Int.reduceEq,decide_false,decide_true,agX,agW]
  rw [SX va vb];rfl
 ·obtain ⟨a,rfl,va⟩:=sh1 A (by rw [ho];rfl)
  have hv:rQ 20 e.int [a]=O9 a:=rfl
  rw [ho,hv]
  unfold gER_K
  dsimp only
  simp only [ho,Int.reduceEq,decide_false,decide_true,agX,agW]
  rw [T9];rfl
 ·obtain ⟨a,rfl,va⟩:=sh1 A (by rw [ho];rfl)
  have hv:rQ 21 e.int [a]=pM (decide (a.kind=0)):=rfl
  rw [ho,hv]
  unfold gER_K
  dsimp only
  simp only [ho,Int.reduceEq,decide_false,decide_true,agX,agW]
  rw [show aH [a] (0:Int)=some a from rfl,agU,Ac];rfl
 ·obtain ⟨a,b,c,rfl⟩:=sh3 A (by rw [ho];rfl)
  have hv:rQ 22 e.int [a,b,c]=(bif decide (tF_ a=2) then b else c):=rfl
  rw [ho,hv]
  unfold gER_K
  dsimp only
  simp only [ho,Int.reduceEq,decide_false,decide_true,agX,agW]
  unfold ww
  rw [show decide ((22:Int)=22)=true from rfl,agX,show aH [a,b,c] (0:Int)=some a from rfl,agU,qy,agU]
  cases decide (tF_ a=2)<;>rfl
 ·obtain ⟨a,m,rfl,va,hm⟩:=WP A (by rw [ho];decide)
  have hv:rQ 23 e.int (a::m)=El (a::m):=rfl
  rw [ho,hv]
  unfold gER_K
  dsimp only
  simp only [ho,Int.reduceEq,decide_false,decide_true,agX,agW]
  rw [Od _ A.len];rfl
 ·obtain ⟨a,b,c,d,rfl⟩:=sh4 A (by rw [ho];rfl)
  have hv:rQ 24 e.int [a,b,c,d]=Oy e.int a b c d:=rfl
  rw [ho,hv]
  unfold gER_K
  dsimp only
  simp only [ho,Int.reduceEq,decide_false,decide_true,agX,agW]
  rw [OL];rfl
theorem aaz (e:Ex) (l:List Val) (i:Int) (A:vQ e.op l) (hle:l.length=e.args.length) (ho:e.op=4\/e.op=5\/e.op=6\/e.op=7\/e.op=8\/e.op=9\/e.op=10\/e.op=11\/e.op=12\/e.op=13\/e.op=14\/e.op=15\/e.op=16\/e.op=17\/e.op=18\/e.op=19\/e.op=20\/e.op=21\/e.op=23\/e.op=24):bK e (.inl (l,i))=some (rQ e.op e.int l):=by
 rcases ho with ho|ho|ho|ho|ho|ho|ho|ho|ho|ho|ho|ho|ho|ho|ho|ho|ho|ho|ho|ho
 ·obtain ⟨a,rfl,va⟩:=sh1 A (by rw [ho];rfl)
  have hv:rQ 4 e.int [a]=CW (IZ (tF_ a)):=rfl
  rw [ho,hv]
  unfold bK
  dsimp only
  rw [agZ hle,agX]
  simp only [ho,Int.reduceEq,decide_false,decide_true,agX,agW]
  rw [TL];rfl
 ·obtain ⟨a,m,rfl,va,hm⟩:=WP A (by rw [ho];decide)
  have hv:rQ 5 e.int (a::m)=CW (DY Le m (tF_ a)):=rfl
  rw [ho,hv]
  unfold bK
  dsimp only
  rw [agZ hle,agX]
  simp only [ho,Int.reduceEq,decide_false,decide_true,agX,agW]
  rw [Ub a m hm];rfl
 ·obtain ⟨a,m,rfl,va,hm⟩:=WP A (by rw [ho];decide)
  have hv:rQ 6 e.int (a::m)=CW (DY or3 m (tF_ a)):=rfl
  rw [ho,hv]
  unfold bK
  dsimp only
  rw [agZ hle,agX]
  simp only [ho,Int.reduceEq,decide_false,decide_true,agX,agW]
  rw [Wu a m hm];rfl
 ·obtain ⟨a,b,rfl,va,vb⟩:=GR A (by rw [ho];rfl)
  have hv:rQ 7 e.int [a,b]=CW (wH 7 a b):=rfl
  rw [ho,hv]
  unfold bK
  dsimp only
  rw [agZ hle,agX]
  simp only [ho,Int.reduceEq,decide_false,decide_true,agX,agW]
  rw [show aH [a,b] (0:Int)=some a from rfl,agU,show aH [a,b] (1:Int)=some b from rfl,agU,iw,agU,mq (lc _ _ _)];rfl
 ·obtain ⟨a,b,rfl,va,vb⟩:=GR A (by rw [ho];rfl)
  have hv:rQ 8 e.int [a,b]=CW (wH 8 a b):=rfl
  rw [ho,hv]
  unfold bK
  dsimp only
  rw [agZ hle,agX]
  simp only [ho,Int.reduceEq,decide_false,decide_true,agX,agW]
  rw [show aH [a,b] (0:Int)=some a from rfl,agU,show aH [a,b] (1:Int)=some b from rfl,agU,iw,agU,mq (lc _ _ _)];rfl
 ·obtain ⟨a,b,rfl,va,vb⟩:=GR A (by rw [ho];rfl)
  have hv:rQ 9 e.int [a,b]=CW (wH 9 a b):=rfl
  rw [ho,hv]
  unfold bK
  dsimp only
  rw [agZ hle,agX]
  simp only [ho,Int.reduceEq,decide_false,decide_true,agX,agW]
  rw [show aH [a,b] (0:Int)=some a from rfl,agU,show aH [a,b] (1:Int)=some b from rfl,agU,iw,agU,mq (lc _ _ _)];rfl
 ·obtain ⟨a,b,rfl,va,vb⟩:=GR A (by rw [ho];rfl)
  have hv:rQ 10 e.int [a,b]=CW (wH 10 a b):=rfl
  rw [ho,hv]
  unfold bK
  dsimp only
  rw [agZ hle,agX]
  simp only [ho,Int.reduceEq,decide_false,decide_true,agX,agW]
  rw [show aH [a,b] (0:Int)=some a from rfl,agU,show aH [a,b] (1:Int)=some b from rfl,agU,iw,agU,mq (lc _ _ _)];rfl
 ·obtain ⟨a,b,rfl,va,vb⟩:=GR A (by rw [ho];rfl)
  have hv:rQ 11 e.int [a,b]=CW (wH 11 a b):=rfl
  rw [ho,hv]
  unfold bK
  dsimp only
  rw [agZ hle,agX]
  simp only [ho,Int.reduceEq,decide_false,decide_true,agX,agW]
  rw [show aH [a,b] (0:Int)=some a from rfl,agU,show aH [a,b] (1:Int)=some b from rfl,agU,iw,agU,mq (lc _ _ _)];rfl
 ·obtain ⟨a,b,rfl,va,vb⟩:=GR A (by rw [ho];rfl)
  have hv:rQ 12 e.int [a,b]=CW (wH 12 a b):=rfl
  rw [ho,hv]
  unfold bK
  dsimp only
  rw [agZ hle,agX]
  simp only [ho,Int.reduceEq,decide_false,decide_true,agX,agW]
  rw [show aH [a,b] (0:Int)=some a from rfl,agU,show aH [a,b] (1:Int)=some b from rfl,agU,iw,agU,mq (lc _ _ _)];rfl
 ·obtain ⟨a,b,rfl,va,vb⟩:=GR A (by rw [ho];rfl)
  have hv:rQ 13 e.int [a,b]=ig 13 a b:=rfl
  rw [ho,hv]
  unfold bK
  dsimp only
  rw [agZ hle,agX]
  simp only [ho,Int.reduceEq,decide_false,decide_true,agX,agW]
  rw [rF va (by omega)];rfl
 ·obtain ⟨a,b,rfl,va,vb⟩:=GR A (by rw [ho];rfl)
  have hv:rQ 14 e.int [a,b]=ig 14 a b:=rfl
  rw [ho,hv]
  unfold bK
  dsimp only
  rw [agZ hle,agX]
  simp only [ho,Int.reduceEq,decide_false,decide_true,agX,agW]
  rw [rF va (by omega)];rfl
 ·obtain ⟨a,b,rfl,va,vb⟩:=GR A (by rw [ho];rfl)
  have hv:rQ 15 e.int [a,b]=ig 15 a b:=rfl
  rw [ho,hv]
  unfold bK
  dsimp only
  rw [agZ hle,agX]
  simp only [ho,Int.reduceEq,decide_false,decide_true,agX,agW]
  rw [rF va (by omega)];rfl
 ·obtain ⟨a,b,rfl,va,vb⟩:=GR A (by rw [ho];rfl)
  have hv:rQ 16 e.int [a,b]=ig 16 a b:=rfl
  rw [ho,hv]
  unfold bK
  dsimp only
  rw [agZ hle,agX]
  simp only [ho,Int.reduceEq,decide_false,decide_true,agX,agW]
  rw [rF va (by omega)];rfl
 ·obtain ⟨a,b,rfl,va,vb⟩:=GR A (by rw [ho];rfl)
  have hv:rQ 17 e.int [a,b]=ig 17 a b:=rfl
  rw [ho,hv]
  unfold bK
  dsimp only
  rw [agZ hle,agX]
  simp only [ho,Int.reduceEq,decide_false,decide_true,agX,agW]
  rw [rF va (by omega)];rfl
 ·obtain ⟨a,rfl,va⟩:=sh1 A (by rw [ho];rfl)
  have hv:rQ 18 e.int [a]=Q6 a:=rfl
  rw [ho,hv]
  unfold bK
  dsimp only
  rw [agZ hle,agX]
  simp only [ho,Int.reduceEq,decide_false,decide_true,agX,agW]
  rw [SS];rfl
 ·obtain ⟨a,b,rfl,va,vb⟩:=GR A (by rw [ho];rfl)
  have hv:rQ 19 e.int [a,b]=O5 a b:=rfl
  rw [ho,hv]
  unfold bK
  dsimp only
  rw [agZ hle,agX]
  simp only [ho,Int.reduceEq,decide_false,decide_true,agX,agW]
  rw [Tj va vb];rfl
 ·obtain ⟨a,rfl,va⟩:=sh1 A (by rw [ho];rfl)
  have hv:rQ 20 e.int [a]=O9 a:=rfl
  rw [ho,hv]
  unfold bK
  dsimp only
  rw [agZ hle,agX]
  simp only [ho,Int.reduceEq,decide_false,decide_true,agX,agW]
  rw [Tq va];rfl
 ·obtain ⟨a,rfl,va⟩:=sh1 A (by rw [ho];rfl)
  have hv:rQ 21 e.int [a]=pM (decide (a.kind=0)):=rfl
  rw [ho,hv]
  unfold bK
  dsimp only
  rw [agZ hle,agX]
  simp only [ho,Int.reduceEq,decide_false,decide_true,agX,agW]
  rw [show aH [a] (0:Int)=some a from rfl,agU,Nu];rfl
 ·obtain ⟨a,m,rfl,va,hm⟩:=WP A (by rw [ho];decide)
  have hv:rQ 23 e.int (a::m)=El (a::m):=rfl
  rw [ho,hv]
  unfold bK
  dsimp only
  rw [agZ hle,agX]
  simp only [ho,Int.reduceEq,decide_false,decide_true,agX,agW]
  exact Uu _ A.len
 ·obtain ⟨a,b,c,d,rfl⟩:=sh4 A (by rw [ho];rfl)
  have hv:rQ 24 e.int [a,b,c,d]=Oy e.int a b c d:=rfl
  rw [ho,hv]
  unfold bK
  dsimp only
  rw [agZ hle,agX]
  simp only [ho,Int.reduceEq,decide_false,decide_true,agX,agW]
  rw [Ra];rfl
theorem afL (k:Int) {op:Int} {l:List Val} (A:vQ op l) (ho:op=4\/op=5\/op=6\/op=7\/op=8\/op=9\/op=10\/op=11\/op=12\/op=13\/op=14\/op=15\/op=16\/op=17\/op=18\/op=19\/op=20\/op=21\/op=22\/op=23\/op=24):vF (rQ op k l)=true:=by
 rcases ho with rfl|rfl|rfl|rfl|rfl|rfl|rfl|rfl|rfl|rfl|rfl|rfl|rfl|rfl|rfl|rfl|rfl|rfl|rfl|rfl|rfl
 ·exact w_ _
 ·exact w_ _
 ·exact w_ _
 ·exact w_ _
 ·exact w_ _
 ·exact w_ _
 ·exact w_ _
 ·exact w_ _
 ·exact w_ _
 ·have hlo:=A.lo
  have hhi:=A.hi
  rw [afd] at hlo hhi
  dsimp only at hlo hhi
  obtain ⟨a,b,rfl⟩:=WY (l:=l) (by omega)
  exact uh (xL (A.vf a (by simp)))
 ·have hlo:=A.lo
  have hhi:=A.hi
  rw [afr] at hlo hhi
  dsimp only at hlo hhi
  obtain ⟨a,b,rfl⟩:=WY (l:=l) (by omega)
  exact uh (xL (A.vf a (by simp)))
 ·have hlo:=A.lo
  have hhi:=A.hi
  rw [ae4] at hlo hhi
  dsimp only at hlo hhi
  obtain ⟨a,b,rfl⟩:=WY (l:=l) (by omega)
  exact uh (xL (A.vf a (by simp)))
 ·have hlo:=A.lo
  have hhi:=A.hi
  rw [ae9] at hlo hhi
  dsimp only at hlo hhi
  obtain ⟨a,b,rfl⟩:=WY (l:=l) (by omega)
  exact uh (xL (A.vf a (by simp)))
 ·have hlo:=A.lo
  have hhi:=A.hi
  rw [aeS] at hlo hhi
  dsimp only at hlo hhi
  obtain ⟨a,b,rfl⟩:=WY (l:=l) (by omega)
  exact uh (xL (A.vf a (by simp)))
 ·exact adx _
 ·exact adY _ _
 ·exact adw _
 ·exact Hr _
 ·have hlo:=A.lo
  have hhi:=A.hi
  rw [aek] at hlo hhi
  dsimp only at hlo hhi
  obtain ⟨a,b,c,rfl⟩:=abU (l:=l) (by omega)
  show vF (bif decide (tF_ a=2) then b else c)=true
  cases decide (tF_ a=2)
  ·exact A.vf c (by simp)
  ·exact A.vf b (by simp)
 ·exact acY A.vf
 ·exact ad3 _ _ _ _ _
theorem MW (row:List Val) : ∀ (n:Nat) (e:Ex),fH n e -> ∃ v,kL n e row=some v/\pK n e row=some v/\vF v=true
 | 0,_,h=>h.elim
 | n+1,e,h=>by
  have hx : ∀ x∈e.args,kL n x row=some ((kL n x row).getD mX)/\pK n x row=some ((kL n x row).getD mX)/\vF ((kL n x row).getD mX)=true:=by
   intro x hx
   obtain ⟨v,h1,h2,h3⟩:=MW row n x (h.2 x hx)
   rw [h1];exact ⟨rfl,h2,h3⟩
  generalize hg:(fun x=>(kL n x row).getD mX)=g at hx
  have hx' : ∀ x∈e.args,kL n x row=some (g x)/\pK n x row=some (g x)/\vF (g x)=true:=by subst hg;exact hx
  show ∃ v,Aj (kL n) e row=some v/\EY (pK n) e row=some v/\vF v=true
  have hR:Aj (kL n) e row=(bif xI e then gER_K e row (.inl (e.args.map g,((e.args.length:Nat):Int))) else some mX):=by
   unfold Aj
   rw [F6 h.1,agU,dn]
   cases xI e with
   | false=>rfl
   | true =>
    rw [Bool.not_true,agW,agX]
    have:=df (l:=e.args) (body:=qQ e row (kL n)) (fun x=>[g x]) 4398046511104 ?_ ?_ (by unfold fuel;have:=h.1;omega) [] ?_
    ·rw [this,ag0, <- List.map_eq_flatMap];rfl
    ·intro s i x hx1 hb
     have hi:=(agV.1 hx1).1
     have hlen:=h.1
     unfold qQ
     dsimp only
     rw [aV hx1,agX,gn_ hx1,wrapN (by omega),agU,(hx' x (ag1 hx1)).1,agU,agZ (show s.length+1<=4398046511104 from hb),agX]
    ·intro s
     unfold qQ
     dsimp only
     rw [lF_,agW]
    ·have:=h.1
     rw [<- List.map_eq_flatMap,ag7];simp;omega
  have hP:EY (pK n) e row=(bif xI e then (if e.op=1 then some e.v else if e.op=2 then some (PZ (Al row e.int)) else if e.op=22 then some (rQ 22 e.int (e.args.map g)) else bK e (.inl (e.args.map g,((e.args.length:Nat):Int)))) else some mX):=by
   unfold EY
   rw [Iz h.1,agU,oK]
   cases hf:xI e with
   | false=>rfl
   | true =>
    rw [Bool.not_true,agW,agX]
    by_cases o1:e.op=1
    ·rw [agZ o1,agX,if_pos o1]
    rw [agY o1,agW,if_neg o1]
    by_cases o2:e.op=2
    ·rw [agZ o2,agX,if_pos o2,TQ];rfl
    rw [agY o2,agW,if_neg o2]
    by_cases o3:e.op=22
    ·rw [agZ o3,agX,if_pos o3]
     obtain ⟨_,hlo,hhi,_⟩:=B_ h.1 hf
     rw [o3,aek] at hlo hhi
     dsimp only at hlo hhi
     obtain ⟨a,b,c,ha⟩:=abU (l:=e.args) (by omega)
     rw [ha] at hx' ⊢
     unfold GL
     rw [show aH [a,b,c] (0:Int)=some a from rfl,show aH [a,b,c] (1:Int)=some b from rfl,show aH [a,b,c] (2:Int)=some c from rfl]
     simp only [agU]
     rw [(hx' a (by simp)).2.1,agU,lH,(hx' b (by simp)).2.1,(hx' c (by simp)).2.1]
     show _=some (bif decide (tF_ (g a)=2) then g b else g c)
     simp only [agU]
     cases decide (tF_ (g a)=2)<;>rfl
    ·rw [agY o3,agW,if_neg o3]
     have hlen:=h.1
     rw [agZ (show (0:Int)<=((e.args.length:Nat):Int) by omega),agZ (show (32:Int)*((e.args.length:Nat):Int)<=281474976710656 by omega),agZ (show ((e.args.length:Nat):Int)<=9223372036854775807 by omega),agX,agX,agX]
     have:=Qr (l:=e.args) (body:=uQ e row (pK n)) g ?_ ?_ fuel 0 (List.replicate e.args.length ⟨0,0,ByteArray.empty⟩) (by simp) (ahe _) (by unfold fuel;omega)
     ·rw [show ((0:Nat):Int)=0 from rfl] at this
      rw [this,List.take_zero,ag0,List.drop_zero];rfl
     ·intro c i x hx1 hb
      have hi:=(agV.1 hx1).1
      unfold uQ
      dsimp only
      rw [aV hx1,agX,gn_ hx1,wrapN (by omega),agU,(hx' x (ag1 hx1)).2.1,agU,agZ (show (0:Int)<=(i:Int) by omega),agX,agX,show 0+((i:Int)).toNat=i by omega,agZ hb,agX]
     ·intro c
      unfold uQ
      dsimp only
      rw [lF_,agW]
  rw [hR,hP]
  cases hf:xI e with
  | false=>exact ⟨_,rfl,rfl,pG⟩
  | true =>
   rw [agX,agX]
   obtain ⟨hops,hlo,hhi,hrest⟩:=B_ h.1 hf
   by_cases o1:e.op=1
   ·have hv:=Tn o1 hrest
    refine ⟨e.v,?_,by rw [if_pos o1],hv⟩
    unfold gER_K
    dsimp only
    rw [agZ o1,agX,Sg e row o1 hv];rfl
   by_cases o2:e.op=2
   ·refine ⟨PZ (Al row e.int),?_,by rw [if_neg o1,if_pos o2],ug _⟩
    unfold gER_K
    dsimp only
    rw [agY o1,agW,agZ o2,agX,Xp e row o2];rfl
   have A:vQ e.op (e.args.map g):=by
    refine ⟨by rw [ag7];exact hlo,by rw [ag7];exact hhi,by rw [ag7];exact h.1,fun v hv=>?_⟩
    obtain ⟨x,hx1,rfl⟩:=aht.1 hv
    exact (hx' x hx1).2.2
   have hops2:e.op=4\/e.op=5\/e.op=6\/e.op=7\/e.op=8\/e.op=9\/e.op=10\/e.op=11\/e.op=12\/e.op=13\/e.op=14\/e.op=15\/e.op=16\/e.op=17\/e.op=18\/e.op=19\/e.op=20\/e.op=21\/e.op=22\/e.op=23\/e.op=24:=by omega
   refine ⟨rQ e.op e.int (e.args.map g),ZV e row _ _ A hops2,?_,afL _ A hops2⟩
   rw [if_neg o1,if_neg o2]
   by_cases o3:e.op=22
   ·rw [if_pos o3,o3]
   ·rw [if_neg o3]
    exact aaz e _ _ A (by rw [ag7]) (by omega)
set_option maxHeartbeats 8000000
def Aa (a_l:(List Int)) (a_kind:Int):(Int)->Option (Step (Int) (Bool)):=fun s=>match s with
 | i_1=>bif (decide (i_1<((a_l.length:Nat):Int))) then (aH a_l i_1).bind fun x_3=>bif (decide (x_3≠a_kind)) then bif (decide (x_3≠(0:Int))) then some (.ret false) else
 some (.next (IntKind.i64.wrap (i_1+(1:Int)))) else
 some (.next (IntKind.i64.wrap (i_1+(1:Int)))) else
 some (.exit i_1)
def uA:Sum (Int) (Bool)->Option ((Bool))
 | .inl i_1=>some true
 | .inr q=>some q
def jH (a_l:(List Int)) (a_kind:Int):Option (Bool):=(ax (Aa a_l a_kind) fuel (0:Int)).bind (uA)
theorem fq {a_l:(List Int)} {a_kind:Int} {r:Bool} (H:jH a_l a_kind=some r):Pure Tryz.prog 151 [.one (.lst (a_l.map (fun x=>[AC.int .i64 x]))), .one (.int .i64 a_kind)] (.val (.one (.bool r))):=by
 unfold jH at H
 refine po_ Tryz.func151 Tryz.ntmps151 ?_
 refine bF ?_
 refine alM_ (fun s:Int=>match s with|i_1=>[(0, .one (.c (.lst (a_l.map (fun x=>[AC.int .i64 x]))))),(1, .one (.c (.int .i64 a_kind))),(5, .one (.c (.int .i64 i_1)))]) (fun s=>match s with|i_1=>[]) H (fun _=>ahe _)
  (fm_ dh [] rfl bH trivial) ?_
 rintro i_1 st1 hb1 hk1
 unfold Aa at hb1
 dsimp only at hb1 ⊢
 rcases af hb1 with ⟨q_2,hb1⟩|⟨q_2,hb1⟩
 ·obtain ⟨x_3,i1z,i1,i1x,hb1⟩:=aY (f:=(fun x=>[AC.int .i64 x])) hb1
  rcases af hb1 with ⟨q_4,hb1⟩|⟨q_4,hb1⟩
  ·rcases af hb1 with ⟨q_5,hb1⟩|⟨q_5,hb1⟩
   ·cases hb1
    have hx1:uA (.inr false)=some _:=hk1
    unfold uA at hx1
    dsimp only at hx1
    cases hx1
    exact aD
   cases hb1
   refine bF ?_
   exact ⟨_,rfl,fm_ dh [] rfl bH trivial⟩
  cases hb1
  refine bF ?_
  exact ⟨_,rfl,fm_ dh [] rfl bH trivial⟩
 cases hb1
 have hx1:uA (.inl i_1)=some _:=hk1
 unfold uA at hx1
 dsimp only at hx1
 cases hx1
 exact aD
def Ig (a_l:(List Int)):(Int × Int)->Option (Step (Int × Int) (Int × Bool)):=fun s=>match s with
 | (k_1,i_2)=>bif (decide (i_2<((a_l.length:Nat):Int))) then (aH a_l i_2).bind fun x_4=>bif (decide (x_4=(0:Int))) then some (.next (k_1,(IntKind.i64.wrap (i_2+(1:Int))))) else
 bif (decide (k_1≠(0:Int))) then bif (decide (k_1≠x_4)) then some (.ret ((0:Int),false)) else
 some (.next (x_4,(IntKind.i64.wrap (i_2+(1:Int))))) else
 some (.next (x_4,(IntKind.i64.wrap (i_2+(1:Int))))) else
 some (.exit (k_1,i_2))
def qE:Sum (Int × Int) (Int × Bool)->Option ((Int × Bool))
 | .inl (k_1,i_2)=>some (k_1,true)
 | .inr q=>some q
def lw (a_l:(List Int)):Option (Int × Bool):=(ax (Ig a_l) fuel ((0:Int),(0:Int))).bind (qE)
theorem jF {a_l:(List Int)} {r:Int × Bool} (H:lw a_l=some r):Pure Tryz.prog 152 [.one (.lst (a_l.map (fun x=>[AC.int .i64 x])))] (.tup [.one (.int .i64 r.1), .one (.bool r.2)]):=by
 unfold lw at H
 refine po_ Tryz.func152 Tryz.ntmps152 ?_
 refine bF ?_
 refine alM_ (fun s:Int × Int=>match s with|(k_1,i_2)=>[(0, .one (.c (.lst (a_l.map (fun x=>[AC.int .i64 x]))))),(4, .one (.c (.int .i64 k_1))),(5, .one (.c (.int .i64 i_2)))]) (fun s=>match s with|(k_1,i_2)=>[]) H (fun _=>ahe _)
  (fm_ dh [] rfl bH trivial) ?_
 rintro ⟨k_1,i_2⟩ st1 hb1 hk1
 unfold Ig at hb1
 dsimp only at hb1 ⊢
 rcases af hb1 with ⟨q_3,hb1⟩|⟨q_3,hb1⟩
 ·obtain ⟨x_4,i1z,i1,i1x,hb1⟩:=aY (f:=(fun x=>[AC.int .i64 x])) hb1
  rcases af hb1 with ⟨q_5,hb1⟩|⟨q_5,hb1⟩
  ·cases hb1
   refine bF ?_
   exact ⟨_,rfl,fm_ dh [] rfl bH trivial⟩
  rcases af hb1 with ⟨q_6,hb1⟩|⟨q_6,hb1⟩
  ·rcases af hb1 with ⟨q_7,hb1⟩|⟨q_7,hb1⟩
   ·cases hb1
    have hx1:qE (.inr ((0:Int),false))=some _:=hk1
    unfold qE at hx1
    dsimp only at hx1
    cases hx1
    exact aD
   cases hb1
   refine bF ?_
   exact ⟨_,rfl,fm_ dh [] rfl bH trivial⟩
  cases hb1
  refine bF ?_
  exact ⟨_,rfl,fm_ dh [] rfl bH trivial⟩
 cases hb1
 have hx1:qE (.inl (k_1,i_2))=some _:=hk1
 unfold qE at hx1
 dsimp only at hx1
 cases hx1
 exact aD
def gRs11 (a_e:Ex) (a_l:(List Int)) (a_kinds:(List Int)):Option (Int × Bool):=bif (decide (a_e.op=(1:Int))) then some (a_e.v.kind,true) else
 bif (decide (a_e.op=(2:Int))) then (aH a_kinds a_e.int).bind fun x_3=>some (x_3,true) else
 bif (decide (a_e.op=(4:Int))) then (jH a_l (3:Int)).bind fun r_5=>some ((3:Int),r_5) else
 bif (decide (a_e.op=(5:Int))) then (jH a_l (3:Int)).bind fun r_7=>some ((3:Int),r_7) else
 bif (decide (a_e.op=(6:Int))) then (jH a_l (3:Int)).bind fun r_9=>some ((3:Int),r_9) else
 bif (decide (a_e.op=(7:Int))) then (lw a_l).bind fun r_11=>some ((3:Int),r_11.2) else
 bif (decide (a_e.op=(8:Int))) then (lw a_l).bind fun r_13=>some ((3:Int),r_13.2) else
 bif (decide (a_e.op=(9:Int))) then (lw a_l).bind fun r_15=>some ((3:Int),r_15.2) else
 bif (decide (a_e.op=(10:Int))) then (lw a_l).bind fun r_17=>some ((3:Int),r_17.2) else
 bif (decide (a_e.op=(11:Int))) then (lw a_l).bind fun r_19=>some ((3:Int),r_19.2) else
 bif (decide (a_e.op=(12:Int))) then (lw a_l).bind fun r_21=>some ((3:Int),r_21.2) else
 bif (decide (a_e.op=(13:Int))) then (jH a_l (1:Int)).bind fun r_23=>some ((1:Int),r_23) else
 bif (decide (a_e.op=(14:Int))) then (jH a_l (1:Int)).bind fun r_25=>some ((1:Int),r_25) else
 bif (decide (a_e.op=(15:Int))) then (jH a_l (1:Int)).bind fun r_27=>some ((1:Int),r_27) else
 bif (decide (a_e.op=(16:Int))) then (jH a_l (1:Int)).bind fun r_29=>some ((1:Int),r_29) else
 bif (decide (a_e.op=(17:Int))) then (jH a_l (1:Int)).bind fun r_31=>some ((1:Int),r_31) else
 bif (decide (a_e.op=(18:Int))) then (jH a_l (1:Int)).bind fun r_33=>some ((1:Int),r_33) else
 bif (decide (a_e.op=(19:Int))) then (jH a_l (2:Int)).bind fun r_35=>some ((2:Int),r_35) else
 bif (decide (a_e.op=(20:Int))) then (jH a_l (2:Int)).bind fun r_37=>some ((1:Int),r_37) else
 bif (decide (a_e.op=(21:Int))) then some ((3:Int),true) else
 bif (decide (a_e.op=(22:Int))) then (lT a_l (1:Int) ((a_l.length:Nat):Int)).bind fun s_40=>(lw s_40).bind fun r_41=>bif r_41.2 then (lT a_l (0:Int) (1:Int)).bind fun s_43=>(jH s_43 (3:Int)).bind fun r_44=>some (r_41.1,r_44) else
 some (r_41.1,false) else
 bif (decide (a_e.op=(23:Int))) then (lw a_l).bind fun r_46=>some (r_46.1,r_46.2) else
 (jH a_l (1:Int)).bind fun r_47=>some ((3:Int),r_47)
theorem C9 {a_e:Ex} {a_l:(List Int)} {a_kinds:(List Int)} {r:Int × Bool} (H:gRs11 a_e a_l a_kinds=some r):Pure Tryz.prog 111 [.agg (tE a_e), .one (.lst (a_l.map (fun x=>[AC.int .i64 x]))), .one (.lst (a_kinds.map (fun x=>[AC.int .i64 x])))] (.tup [.one (.int .i64 r.1), .one (.bool r.2)]):=by
 unfold gRs11 at H
 rw [aC a_e]
 refine po_ Tryz.func111 Tryz.ntmps111 ?_
 rcases af H with ⟨q_1,H⟩|⟨q_1,H⟩
 ·cases H
  exact aD
 rcases af H with ⟨q_2,H⟩|⟨q_2,H⟩
 ·obtain ⟨x_3,i1z,i1,i1x,H⟩:=aY (f:=(fun x=>[AC.int .i64 x])) H
  cases H
  exact aD
 refine bF ?_
 rcases af H with ⟨q_4,H⟩|⟨q_4,H⟩
 ·obtain ⟨r_5,c2,H⟩:=bd_ H
  replace c2:=fq c2
  cases H
  exact aD
 rcases af H with ⟨q_6,H⟩|⟨q_6,H⟩
 ·obtain ⟨r_7,c3,H⟩:=bd_ H
  replace c3:=fq c3
  cases H
  exact aD
 rcases af H with ⟨q_8,H⟩|⟨q_8,H⟩
 ·obtain ⟨r_9,c4,H⟩:=bd_ H
  replace c4:=fq c4
  cases H
  exact aD
 refine bF ?_
 rcases af H with ⟨q_10,H⟩|⟨q_10,H⟩
 ·obtain ⟨r_11,c5,H⟩:=bd_ H
  replace c5:=jF c5
  cases H
  exact aD
 rcases af H with ⟨q_12,H⟩|⟨q_12,H⟩
 ·obtain ⟨r_13,c6,H⟩:=bd_ H
  replace c6:=jF c6
  cases H
  exact aD
 rcases af H with ⟨q_14,H⟩|⟨q_14,H⟩
 ·obtain ⟨r_15,c7,H⟩:=bd_ H
  replace c7:=jF c7
  cases H
  exact aD
 refine bF ?_
 rcases af H with ⟨q_16,H⟩|⟨q_16,H⟩
 ·obtain ⟨r_17,c8,H⟩:=bd_ H
  replace c8:=jF c8
  cases H
  exact aD
 rcases af H with ⟨q_18,H⟩|⟨q_18,H⟩
 ·obtain ⟨r_19,c9,H⟩:=bd_ H
  replace c9:=jF c9
  cases H
  exact aD
 rcases af H with ⟨q_20,H⟩|⟨q_20,H⟩
 ·obtain ⟨r_21,c10,H⟩:=bd_ H
  replace c10:=jF c10
  cases H
  exact aD
 refine bF ?_
 rcases af H with ⟨q_22,H⟩|⟨q_22,H⟩
 ·obtain ⟨r_23,c11,H⟩:=bd_ H
  replace c11:=fq c11
  cases H
  exact aD
 rcases af H with ⟨q_24,H⟩|⟨q_24,H⟩
 ·obtain ⟨r_25,c12,H⟩:=bd_ H
  replace c12:=fq c12
  cases H
  exact aD
 rcases af H with ⟨q_26,H⟩|⟨q_26,H⟩
 ·obtain ⟨r_27,c13,H⟩:=bd_ H
  replace c13:=fq c13
  cases H
  exact aD
 refine bF ?_
 rcases af H with ⟨q_28,H⟩|⟨q_28,H⟩
 ·obtain ⟨r_29,c14,H⟩:=bd_ H
  replace c14:=fq c14
  cases H
  exact aD
 rcases af H with ⟨q_30,H⟩|⟨q_30,H⟩
 ·obtain ⟨r_31,c15,H⟩:=bd_ H
  replace c15:=fq c15
  cases H
  exact aD
 rcases af H with ⟨q_32,H⟩|⟨q_32,H⟩
 ·obtain ⟨r_33,c16,H⟩:=bd_ H
  replace c16:=fq c16
  cases H
  exact aD
 refine bF ?_
 rcases af H with ⟨q_34,H⟩|⟨q_34,H⟩
 ·obtain ⟨r_35,c17,H⟩:=bd_ H
  replace c17:=fq c17
  cases H
  exact aD
 rcases af H with ⟨q_36,H⟩|⟨q_36,H⟩
 ·obtain ⟨r_37,c18,H⟩:=bd_ H
  replace c18:=fq c18
  cases H
  exact aD
 rcases af H with ⟨q_38,H⟩|⟨q_38,H⟩
 ·cases H
  exact aD
 refine bF ?_
 rcases af H with ⟨q_39,H⟩|⟨q_39,H⟩
 ·obtain ⟨s_40,u19,H⟩:=bd_ H
  obtain ⟨⟨u19a,u19b,u19c⟩,u19⟩:=ji u19
  have u19x:=L8 (f:=(fun x=>[AC.int .i64 x])) u19
  obtain ⟨r_41,c20,H⟩:=bd_ H
  replace c20:=jF c20
  rcases af H with ⟨q_42,H⟩|⟨q_42,H⟩
  ·obtain ⟨s_43,u21,H⟩:=bd_ H
   obtain ⟨⟨u21a,u21b,u21c⟩,u21⟩:=ji u21
   have u21x:=L8 (f:=(fun x=>[AC.int .i64 x])) u21
   obtain ⟨r_44,c22,H⟩:=bd_ H
   replace c22:=fq c22
   cases H
   repeat' (first|refine gs_ ?_|rw [u19x]|rw [u21x]|rw [show ((0:Nat):Int)=0 from rfl])
   refine bO (bZ rfl ?_ ?_)
   ·repeat' (first|exact trivial|rfl|exact ag5 rfl|omega|apply And.intro)
   ·first|rfl|(simp only [ag8,ag6,ag_,ag0]<;>rfl)
  cases H
  repeat' (first|refine gs_ ?_|rw [u19x]|rw [show ((0:Nat):Int)=0 from rfl])
  refine bO (bZ rfl ?_ ?_)
  ·repeat' (first|exact trivial|rfl|exact ag5 rfl|omega|apply And.intro)
  ·first|rfl|(simp only [ag8,ag6,ag_,ag0]<;>rfl)
 rcases af H with ⟨q_45,H⟩|⟨q_45,H⟩
 ·obtain ⟨r_46,c23,H⟩:=bd_ H
  replace c23:=jF c23
  cases H
  exact aD
 obtain ⟨r_47,c24,H⟩:=bd_ H
 replace c24:=fq c24
 cases H
 exact aD
def gG (a_e:Ex) (rec:Ex->Option Int):(Int × Int)->Option (Step (Int × Int) (Int)):=fun s=>match s with
 | (n_1,i_2)=>bif (decide (i_2<((a_e.args.length:Nat):Int))) then (aH a_e.args i_2).bind fun x_4=>(rec x_4).bind fun r_5=>some (.next ((CY n_1 r_5),(IntKind.i64.wrap (i_2+(1:Int))))) else
 some (.exit (n_1,i_2))
def vT:Sum (Int × Int) (Int)->Option ((Int))
 | .inl (n_1,i_2)=>some (IntKind.i64.wrap (n_1+(1:Int)))
 | .inr q=>some q
def uI (rec:Ex->Option Int) (a_e:Ex):Option (Int):=(ax (gG a_e rec) fuel ((0:Int),(0:Int))).bind (vT)
theorem Pp {rec:Ex->Option Int}  (hrec : ∀ {x:Ex} {r:Int}, rec x=some r->Pure Tryz.prog 65 [.agg (tE x)] (.val (.one (.int .i64 r)))) {a_e:Ex} {r:Int} (H:uI rec a_e=some r):Pure Tryz.prog 65 [.agg (tE a_e)] (.val (.one (.int .i64 r))):=by
 unfold uI at H
 rw [aC a_e]
 refine po_ Tryz.func65 Tryz.ntmps65 ?_
 refine bF ?_
 refine alM_ (fun s:Int × Int=>match s with|(n_1,i_2)=>[(1, .one (.ptr 0 0)),(3, .one (.c (.int .i64 n_1))),(4, .one (.c (.int .i64 i_2)))]) (fun s=>match s with|(n_1,i_2)=>[.box [.c (.int .i64 a_e.op), .c (.int .i64 a_e.int), .c (.int .i64 a_e.v.kind), .c (.int .i64 a_e.v.int), .c (.str a_e.v.text), .c (.str a_e.nm), .c (.lst (a_e.args.map tE))]]) H (fun _=>ahe _)
  (fm_ dh [] rfl bH dw) ?_
 rintro ⟨n_1,i_2⟩ st1 hb1 hk1
 unfold gG at hb1
 dsimp only at hb1 ⊢
 rcases af hb1 with ⟨q_3,hb1⟩|⟨q_3,hb1⟩
 ·obtain ⟨x_4,i1z,i1,i1x,hb1⟩:=aY (f:=tE) hb1
  simp only [ag8,ag6,ag_,ag0,aC] at i1x
  obtain ⟨r_5,c2,hb1⟩:=bd_ hb1
  replace c2:=hrec c2
  try simp only [ag8,ag6,ag_,ag0,aC] at c2
  cases hb1
  refine bF ?_
  exact ⟨_,rfl,fm_ dh [] rfl bH dw⟩
 cases hb1
 have hx1:vT (.inl (n_1,i_2))=some _:=hk1
 unfold vT at hx1
 dsimp only at hx1
 cases hx1
 exact aD
def rz:Nat->Ex->Option Int
 | 0,_=>none
 | n+1,x=>uI (rz n) x
theorem F_ : ∀ (n:Nat) {x:Ex} {r:Int}, rz n x=some r->Pure Tryz.prog 65 [.agg (tE x)] (.val (.one (.int .i64 r)))
 | 0,_,_,h=>nomatch h
 | n+1,_,_,h=>Pp (F_ n) h
def pW (a_e:Ex) (a_kinds:(List Int)) (rec:Ex->List Int->Option (Int × Int)):((List Int) × Int)->Option (Step ((List Int) × Int) (Int × Int)):=fun s=>match s with
 | (l_8,i_9)=>bif (decide (i_9<((a_e.args.length:Nat):Int))) then (aH a_e.args i_9).bind fun x_11=>(rec x_11 a_kinds).bind fun r_12=>bif (decide (r_12.2≠(0:Int))) then some (.ret ((0:Int),r_12.2)) else
 bif (decide (l_8.length+1<=17592186044416)) then (some (.next ((l_8++[r_12.1]),(IntKind.i64.wrap (i_9+(1:Int)))))) else none else
 some (.exit (l_8,i_9))
def mJ (a_e:Ex) (a_kinds:(List Int)):Sum ((List Int) × Int) (Int × Int)->Option ((Int × Int))
 | .inl (l_8,i_9)=>(gRs11 a_e l_8 a_kinds).bind fun r_14=>bif (!r_14.2) then some ((0:Int),(7:Int)) else
 some (r_14.1,(0:Int))
 | .inr q=>some q
def dH (a_e:Ex) (a_kinds:(List Int)) (rec:Ex->List Int->Option (Int × Int)):((List Int) × Int)->Option (Step ((List Int) × Int) (Int × Int)):=fun s=>match s with
 | (l_16,i_17)=>bif (decide (i_17<((a_e.args.length:Nat):Int))) then (aH a_e.args i_17).bind fun x_19=>(rec x_19 a_kinds).bind fun r_20=>bif (decide (r_20.2≠(0:Int))) then some (.ret ((0:Int),r_20.2)) else
 bif (decide (l_16.length+1<=17592186044416)) then (some (.next ((l_16++[r_20.1]),(IntKind.i64.wrap (i_17+(1:Int)))))) else none else
 some (.exit (l_16,i_17))
def kz (a_e:Ex) (a_kinds:(List Int)):Sum ((List Int) × Int) (Int × Int)->Option ((Int × Int))
 | .inl (l_16,i_17)=>(gRs11 a_e l_16 a_kinds).bind fun r_22=>bif (!r_22.2) then some ((0:Int),(7:Int)) else
 some (r_22.1,(0:Int))
 | .inr q=>some q
def uu (rec:Ex->List Int->Option (Int × Int)) (a_e:Ex) (a_kinds:(List Int)):Option (Int × Int):=(yK a_e.op).bind fun r_1=>bif (decide (r_1.1<(0:Int))) then some ((0:Int),(7:Int)) else
 (mG a_e).bind fun r_3=>bif (!r_3) then some ((0:Int),(8:Int)) else
 bif (decide (a_e.op=(2:Int))) then bif (decide (a_e.int<(0:Int))) then some ((0:Int),(13:Int)) else
 bif (decide (((a_kinds.length:Nat):Int)<=a_e.int)) then some ((0:Int),(13:Int)) else
 (ax (pW a_e a_kinds rec) fuel ([],(0:Int))).bind (mJ a_e a_kinds) else
 (ax (dH a_e a_kinds rec) fuel ([],(0:Int))).bind (kz a_e a_kinds)
theorem PR {rec:Ex->List Int->Option (Int × Int)}  (hrec : ∀ {x:Ex} {y:List Int} {r:Int × Int}, rec x y=some r->Pure Tryz.prog 66 [.agg (tE x), .one (.lst (y.map (fun x=>[AC.int .i64 x])))] (.tup [.one (.int .i64 r.1), .one (.int .i64 r.2)])) {a_e:Ex} {a_kinds:(List Int)} {r:Int × Int} (H:uu rec a_e a_kinds=some r):Pure Tryz.prog 66 [.agg (tE a_e), .one (.lst (a_kinds.map (fun x=>[AC.int .i64 x])))] (.tup [.one (.int .i64 r.1), .one (.int .i64 r.2)]):=by
 unfold uu at H
 rw [aC a_e]
 refine po_ Tryz.func66 Tryz.ntmps66 ?_
 obtain ⟨r_1,c1,H⟩:=bd_ H
 replace c1:=Nz c1
 rcases af H with ⟨q_2,H⟩|⟨q_2,H⟩
 ·cases H
  exact aD
 obtain ⟨r_3,c2,H⟩:=bd_ H
 replace c2:=Gp c2
 try simp only [ag8,ag6,ag_,ag0,aC] at c2
 rcases af H with ⟨q_4,H⟩|⟨q_4,H⟩
 ·cases H
  exact aD
 rcases af H with ⟨q_5,H⟩|⟨q_5,H⟩
 ·rcases af H with ⟨q_6,H⟩|⟨q_6,H⟩
  ·cases H
   exact aD
  rcases af H with ⟨q_7,H⟩|⟨q_7,H⟩
  ·cases H
   exact aD
  refine bF ?_
  refine bX 8 1 rfl ?_
  refine alM_ (fun s:(List Int) × Int=>match s with|(l_8,i_9)=>[(1, .one (.c (.lst (a_kinds.map (fun x=>[AC.int .i64 x]))))),(2, .one (.ptr 0 0)),(8, .one (.own (l_8.map (fun x=>[AC.int .i64 x])) 1)),(9, .one (.c (.int .i64 i_9)))]) (fun s=>match s with|(l_8,i_9)=>[.box [.c (.int .i64 a_e.op), .c (.int .i64 a_e.int), .c (.int .i64 a_e.v.kind), .c (.int .i64 a_e.v.int), .c (.str a_e.v.text), .c (.str a_e.nm), .c (.lst (a_e.args.map tE))], .spare l_8.length 1]) H (fun _=>ahe _)
   (fm_ dh [] rfl bH dw) ?_
  rintro ⟨l_8,i_9⟩ st1 hb1 hk1
  unfold pW at hb1
  dsimp only at hb1 ⊢
  rcases af hb1 with ⟨q_10,hb1⟩|⟨q_10,hb1⟩
  ·obtain ⟨x_11,i3z,i3,i3x,hb1⟩:=aY (f:=tE) hb1
   simp only [ag8,ag6,ag_,ag0,aC] at i3x
   obtain ⟨r_12,c4,hb1⟩:=bd_ hb1
   replace c4:=hrec c4
   try simp only [ag8,ag6,ag_,ag0,aC] at c4
   rcases af hb1 with ⟨q_13,hb1⟩|⟨q_13,hb1⟩
   ·cases hb1
    have hx1:mJ a_e a_kinds (.inr ((0:Int),r_12.2))=some _:=hk1
    unfold mJ at hx1
    dsimp only at hx1
    cases hx1
    exact aD
   obtain ⟨g5,hb1⟩:=aG hb1
   cases hb1
   refine bF ?_
   exact ⟨_,rfl,fm_ lC [] lD bH dw⟩
  cases hb1
  have hx1:mJ a_e a_kinds (.inl (l_8,i_9))=some _:=hk1
  unfold mJ at hx1
  dsimp only at hx1
  obtain ⟨r_14,c6,hx1⟩:=bd_ hx1
  replace c6:=C9 c6
  try simp only [ag8,ag6,ag_,ag0,aC] at c6
  rcases af hx1 with ⟨q_15,hx1⟩|⟨q_15,hx1⟩
  ·cases hx1
   exact aD
  cases hx1
  exact aD
 refine bF ?_
 refine bX 8 1 rfl ?_
 refine alM_ (fun s:(List Int) × Int=>match s with|(l_16,i_17)=>[(1, .one (.c (.lst (a_kinds.map (fun x=>[AC.int .i64 x]))))),(2, .one (.ptr 0 0)),(8, .one (.own (l_16.map (fun x=>[AC.int .i64 x])) 1)),(9, .one (.c (.int .i64 i_17)))]) (fun s=>match s with|(l_16,i_17)=>[.box [.c (.int .i64 a_e.op), .c (.int .i64 a_e.int), .c (.int .i64 a_e.v.kind), .c (.int .i64 a_e.v.int), .c (.str a_e.v.text), .c (.str a_e.nm), .c (.lst (a_e.args.map tE))], .spare l_16.length 1]) H (fun _=>ahe _)
  (fm_ dh [] rfl bH dw) ?_
 rintro ⟨l_16,i_17⟩ st2 hb2 hk2
 unfold dH at hb2
 dsimp only at hb2 ⊢
 rcases af hb2 with ⟨q_18,hb2⟩|⟨q_18,hb2⟩
 ·obtain ⟨x_19,i7z,i7,i7x,hb2⟩:=aY (f:=tE) hb2
  simp only [ag8,ag6,ag_,ag0,aC] at i7x
  obtain ⟨r_20,c8,hb2⟩:=bd_ hb2
  replace c8:=hrec c8
  try simp only [ag8,ag6,ag_,ag0,aC] at c8
  rcases af hb2 with ⟨q_21,hb2⟩|⟨q_21,hb2⟩
  ·cases hb2
   have hx2:kz a_e a_kinds (.inr ((0:Int),r_20.2))=some _:=hk2
   unfold kz at hx2
   dsimp only at hx2
   cases hx2
   exact aD
  obtain ⟨g9,hb2⟩:=aG hb2
  cases hb2
  refine bF ?_
  exact ⟨_,rfl,fm_ lC [] lD bH dw⟩
 cases hb2
 have hx2:kz a_e a_kinds (.inl (l_16,i_17))=some _:=hk2
 unfold kz at hx2
 dsimp only at hx2
 obtain ⟨r_22,c10,hx2⟩:=bd_ hx2
 replace c10:=C9 c10
 try simp only [ag8,ag6,ag_,ag0,aC] at c10
 rcases af hx2 with ⟨q_23,hx2⟩|⟨q_23,hx2⟩
 ·cases hx2
  exact aD
 cases hx2
 exact aD
def mM:Nat->Ex->List Int->Option (Int × Int)
 | 0,_,_=>none
 | n+1,x,y=>uu (mM n) x y
theorem Gn : ∀ (n:Nat) {x:Ex} {y:List Int} {r:Int × Int}, mM n x y=some r->Pure Tryz.prog 66 [.agg (tE x), .one (.lst (y.map (fun x=>[AC.int .i64 x])))] (.tup [.one (.int .i64 r.1), .one (.int .i64 r.2)])
 | 0,_,_,_,h=>nomatch h
 | n+1,_,_,_,h=>PR (Gn n) h
def vW (a_e:Ex) (a_kinds:(List Int)):Option (Int × Int):=(rz fuel a_e).bind fun r_1=>bif (decide ((24:Int)<r_1)) then some ((0:Int),(26:Int)) else
 (mM fuel a_e a_kinds).bind fun r_3=>some (r_3.1,r_3.2)
theorem Na {a_e:Ex} {a_kinds:(List Int)} {r:Int × Int} (H:vW a_e a_kinds=some r):Pure Tryz.prog 33 [.agg (tE a_e), .one (.lst (a_kinds.map (fun x=>[AC.int .i64 x])))] (.tup [.one (.int .i64 r.1), .one (.int .i64 r.2)]):=by
 unfold vW at H
 rw [aC a_e]
 refine po_ Tryz.func33 Tryz.ntmps33 ?_
 obtain ⟨r_1,c1,H⟩:=bd_ H
 replace c1:=F_ fuel c1
 try simp only [ag8,ag6,ag_,ag0,aC] at c1
 rcases af H with ⟨q_2,H⟩|⟨q_2,H⟩
 ·cases H
  exact aD
 obtain ⟨r_3,c2,H⟩:=bd_ H
 replace c2:=Gn fuel c2
 try simp only [ag8,ag6,ag_,ag0,aC] at c2
 cases H
 exact aD
def Af (a_e:Ex) (a_kinds:(List Int)):Option (Int):=(vW a_e a_kinds).bind fun r_1=>bif (decide (r_1.2≠(0:Int))) then some r_1.2 else
 bif (decide (r_1.1≠(3:Int))) then bif (decide (r_1.1≠(0:Int))) then some (7:Int) else
 some (0:Int) else
 some (0:Int)
theorem Ut {a_e:Ex} {a_kinds:(List Int)} {r:Int} (H:Af a_e a_kinds=some r):Pure Tryz.prog 31 [.agg (tE a_e), .one (.lst (a_kinds.map (fun x=>[AC.int .i64 x])))] (.val (.one (.int .i64 r))):=by
 unfold Af at H
 rw [aC a_e]
 refine po_ Tryz.func31 Tryz.ntmps31 ?_
 obtain ⟨r_1,c1,H⟩:=bd_ H
 replace c1:=Na c1
 try simp only [ag8,ag6,ag_,ag0,aC] at c1
 rcases af H with ⟨q_2,H⟩|⟨q_2,H⟩
 ·cases H
  exact aD
 rcases af H with ⟨q_3,H⟩|⟨q_3,H⟩
 ·rcases af H with ⟨q_4,H⟩|⟨q_4,H⟩
  ·cases H
   exact aD
  cases H
  exact aD
 cases H
 exact aD
def gK (a_e:Ex) (a_most:Int) (rec:Ex->Int->Option Int):(Int × Int)->Option (Step (Int × Int) (Int)):=fun s=>match s with
 | (n_1,i_2)=>bif (decide (i_2<((a_e.args.length:Nat):Int))) then bif (decide (n_1<a_most)) then (aH a_e.args i_2).bind fun x_5=>(rec x_5 (IntKind.i64.wrap (a_most-n_1))).bind fun r_6=>some (.next ((IntKind.i64.wrap (n_1+r_6)),(IntKind.i64.wrap (i_2+(1:Int))))) else
 some (.exit (n_1,i_2)) else
 some (.exit (n_1,i_2))
def oN:Sum (Int × Int) (Int)->Option ((Int))
 | .inl (n_1,i_2)=>some n_1
 | .inr q=>some q
def y9 (rec:Ex->Int->Option Int) (a_e:Ex) (a_most:Int):Option (Int):=(ax (gK a_e a_most rec) fuel ((1:Int),(0:Int))).bind (oN)
theorem RU {rec:Ex->Int->Option Int}  (hrec : ∀ {x:Ex} {y:Int} {r:Int}, rec x y=some r->Pure Tryz.prog 63 [.agg (tE x), .one (.int .i64 y)] (.val (.one (.int .i64 r)))) {a_e:Ex} {a_most:Int} {r:Int} (H:y9 rec a_e a_most=some r):Pure Tryz.prog 63 [.agg (tE a_e), .one (.int .i64 a_most)] (.val (.one (.int .i64 r))):=by
 unfold y9 at H
 rw [aC a_e]
 refine po_ Tryz.func63 Tryz.ntmps63 ?_
 refine bF ?_
 refine alM_ (fun s:Int × Int=>match s with|(n_1,i_2)=>[(1, .one (.c (.int .i64 a_most))),(2, .one (.ptr 0 0)),(5, .one (.c (.int .i64 n_1))),(6, .one (.c (.int .i64 i_2)))]) (fun s=>match s with|(n_1,i_2)=>[.box [.c (.int .i64 a_e.op), .c (.int .i64 a_e.int), .c (.int .i64 a_e.v.kind), .c (.int .i64 a_e.v.int), .c (.str a_e.v.text), .c (.str a_e.nm), .c (.lst (a_e.args.map tE))]]) H (fun _=>ahe _)
  (fm_ dh [] rfl bH dw) ?_
 rintro ⟨n_1,i_2⟩ st1 hb1 hk1
 unfold gK at hb1
 dsimp only at hb1 ⊢
 rcases af hb1 with ⟨q_3,hb1⟩|⟨q_3,hb1⟩
 ·rcases af hb1 with ⟨q_4,hb1⟩|⟨q_4,hb1⟩
  ·obtain ⟨x_5,i1z,i1,i1x,hb1⟩:=aY (f:=tE) hb1
   simp only [ag8,ag6,ag_,ag0,aC] at i1x
   obtain ⟨r_6,c2,hb1⟩:=bd_ hb1
   replace c2:=hrec c2
   try simp only [ag8,ag6,ag_,ag0,aC] at c2
   cases hb1
   refine bF ?_
   exact ⟨_,rfl,fm_ dh [] rfl bH dw⟩
  cases hb1
  have hx1:oN (.inl (n_1,i_2))=some _:=hk1
  unfold oN at hx1
  dsimp only at hx1
  cases hx1
  exact aD
 cases hb1
 have hx1:oN (.inl (n_1,i_2))=some _:=hk1
 unfold oN at hx1
 dsimp only at hx1
 cases hx1
 exact aD
def sP:Nat->Ex->Int->Option Int
 | 0,_,_=>none
 | n+1,x,y=>y9 (sP n) x y
theorem Ie : ∀ (n:Nat) {x:Ex} {y:Int} {r:Int}, sP n x y=some r->Pure Tryz.prog 63 [.agg (tE x), .one (.int .i64 y)] (.val (.one (.int .i64 r)))
 | 0,_,_,_,h=>nomatch h
 | n+1,_,_,_,h=>RU (Ie n) h
def yG (a_l:(List Ex)) (a_most:Int):Option (Bool):=(sP fuel (Ex.mk (0:Int) (0:Int) (⟨(0:Int),(0:Int),ByteArray.empty⟩:Val) ByteArray.empty a_l) (IntKind.i64.wrap (a_most+(2:Int)))).bind fun r_1=>some (decide (r_1<=(IntKind.i64.wrap (a_most+(1:Int)))))
theorem NK {a_l:(List Ex)} {a_most:Int} {r:Bool} (H:yG a_l a_most=some r):Pure Tryz.prog 30 [.one (.lst (a_l.map tE)), .one (.int .i64 a_most)] (.val (.one (.bool r))):=by
 unfold yG at H
 refine po_ Tryz.func30 Tryz.ntmps30 ?_
 obtain ⟨r_1,c1,H⟩:=bd_ H
 replace c1:=Ie fuel c1
 try simp only [ag8,ag6,ag_,ag0,aC] at c1
 cases H
 exact aD
theorem F9 (e:Ex) (m:Int) (hm:1<=m/\m<=1000) (rec:Ex->Int->Option Int)
  (hrec : ∀ x∈e.args, ∀ k:Int,1<=k->k<m -> ∃ r,rec x k=some r/\1<=r/\r<=k/\(r<k->fH r.toNat x)) :
  ∀ (N i:Nat) (c:Int),1<=c->c<=m->i<=e.args.length->(m-c).toNat<N->(i:Int)<=c ->
   ∃ r j,ax (gK e m rec) N (c,(i:Int))=some (.inl (r,j))/\c<=r/\r<=m/\(r<m->((e.args.length-i:Nat):Int)<=r-c /\ ∀ x∈e.args.drop i,fH (r-c).toNat x)
 | 0,i,c,_,_,_,h,_=>by omega
 | N+1,i,c,h1,h2,hi,hN,hic=>by
  rw [ax]
  by_cases hlt:i<e.args.length
  ·obtain ⟨x,hx⟩:=gol_ hlt
   have hmem:=ag1 hx
   by_cases hc:c<m
   ·obtain ⟨w,hw,w1,w2,w3⟩:=hrec x hmem (m-c) (by omega) (by omega)
    have hb:gK e m rec (c,(i:Int))=some (.next (c+w,((i+1:Nat):Int))):=by
     unfold gK
     dsimp only
     rw [aV hx,agX,agZ hc,agX,gn_ hx,agU,fK (by omega),hw,agU,fK (by omega),wrapN (by omega)]
    rw [hb]
    obtain ⟨r,j,e1,e2,e3,e4⟩:=F9 e m hm rec hrec N (i+1) (c+w) (by omega) (by omega) (by omega) (by omega) (by omega)
    refine ⟨r,j,e1,by omega,e3,fun hr=>?_⟩
    obtain ⟨f1,f2⟩:=e4 hr
    refine ⟨by omega,fun y hy=>?_⟩
    rw [ahp hlt,(agV.1 hx).2] at hy
    rcases aha.1 hy with rfl|hy
    ·exact uZ (by omega) (w3 (by omega))
    ·exact uZ (by omega) (f2 y hy)
   ·have hb:gK e m rec (c,(i:Int))=some (.exit (c,(i:Int))):=by
     unfold gK
     dsimp only
     rw [aV hx,agX,agY hc,agW]
    rw [hb]
    exact ⟨c,_,rfl,Int.le_refl _,h2,fun hr=>absurd hr hc⟩
  ·have:i=e.args.length:=by omega
   subst this
   have hb:gK e m rec (c,((e.args.length:Nat):Int))=some (.exit (c,((e.args.length:Nat):Int))):=by
    unfold gK
    dsimp only
    rw [lF_,agW]
   rw [hb]
   refine ⟨c,_,rfl,Int.le_refl _,h2,fun hr=>⟨by omega,fun y hy=>?_⟩⟩
   rw [ahO] at hy
   cases hy
theorem M6 : ∀ (n:Nat) (e:Ex) (m:Int),1<=m->m<=1000->m<=(n:Int) -> ∃ r,sP n e m=some r/\1<=r/\r<=m/\(r<m->fH r.toNat e/\((e.args.length:Nat):Int)<r /\ ∀ x∈e.args,fH (r-1).toNat x)
 | 0,e,m,h1,_,h3=>by omega
 | n+1,e,m,h1,h2,h3=>by
  have hrec : ∀ x∈e.args, ∀ k:Int,1<=k->k<m -> ∃ r,sP n x k=some r/\1<=r/\r<=k/\(r<k->fH r.toNat x):=by
   intro x _ k k1 k2
   obtain ⟨r,e1,e2,e3,e4⟩:=M6 n x k k1 (by omega) (by omega)
   exact ⟨r,e1,e2,e3,fun h=>(e4 h).1⟩
  obtain ⟨r,j,e1,e2,e3,e4⟩:=F9 e m ⟨h1,h2⟩ (sP n) hrec fuel 0 1 (Int.le_refl _) h1 (ahe _) (by unfold fuel;omega) (by omega)
  refine ⟨r,?_,e2,e3,fun hr=>?_⟩
  ·show y9 (sP n) e m=_
   unfold y9
   rw [show ((0:Nat):Int)=0 from rfl] at e1
   rw [e1];rfl
  ·obtain ⟨f1,f2⟩:=e4 hr
   rw [List.drop_zero] at f2
   refine ⟨?_,by omega,f2⟩
   obtain ⟨k,hk⟩ : ∃ k,r.toNat=k+1:=⟨r.toNat-1,by omega⟩
   rw [hk]
   refine ⟨by omega,fun x hx=>?_⟩
   have:=f2 x hx
   rwa [show (r-1).toNat=k by omega] at this
theorem MN (l:List Ex) : ∃ b,yG l 200=some b/\(b=true->l.length<=200 /\ ∀ e∈l,fH 200 e):=by
 obtain ⟨r,e1,e2,e3,e4⟩:=M6 fuel (Ex.mk 0 0 ⟨0,0,ByteArray.empty⟩ ByteArray.empty l) 202 (by omega) (by omega) (by unfold fuel;omega)
 refine ⟨decide (r<=201),?_,fun h=>?_⟩
 ·unfold yG
  rw [fK (by omega),fK (by omega)]
  show (sP fuel (Ex.mk 0 0 ⟨0,0,ByteArray.empty⟩ ByteArray.empty l) 202).bind _=_
  rw [e1];rfl
 ·have:=ahm h
  obtain ⟨_,f1,f2⟩:=e4 (by omega)
  exact ⟨by have:((l.length:Nat):Int)<r:=f1;omega,fun e he=>uZ (by omega) (f2 e he)⟩
theorem MP {e:Ex} (h:fH 200 e):fH fuel e:=uZ (by unfold fuel;omega) h
set_option maxHeartbeats 8000000
def FH (a_l:(List Int)):(Int × Int)->Option (Step (Int × Int) (Int × Bool)):=fun s=>match s with
 | (kind_1,v_2)=>bif (decide (v_2<((a_l.length:Nat):Int))) then (aH a_l v_2).bind fun x_4=>bif (decide (x_4=(0:Int))) then some (.next (kind_1,(IntKind.i64.wrap (v_2+(1:Int))))) else
 bif (decide (kind_1≠(0:Int))) then bif (decide (kind_1≠x_4)) then some (.ret ((0:Int),false)) else
 some (.next (x_4,(IntKind.i64.wrap (v_2+(1:Int))))) else
 some (.next (x_4,(IntKind.i64.wrap (v_2+(1:Int))))) else
 some (.exit (kind_1,v_2))
def XZ:Sum (Int × Int) (Int × Bool)->Option ((Int × Bool))
 | .inl (kind_1,v_2)=>some (kind_1,true)
 | .inr q=>some q
def pE (a_l:(List Int)):Option (Int × Bool):=(ax (FH a_l) fuel ((0:Int),(0:Int))).bind (XZ)
def R6 (l:List Int):Bool := !l.isEmpty&&decide (l.length<=100000)
def Be (l:List Int) (k:Int):Option Bool:=bif R6 l then (pE (l++[k])).bind fun r=>some (bif r.2 then decide (r.1=k) else false) else none
def gRsP (a_e:Ex) (a_l:(List Int)):Option (Int × Bool):=bif (decide (a_e.op=(1:Int))) then some (a_e.v.kind,true) else
 bif (decide (a_e.op=(4:Int))) then (Be a_l (3:Int)).bind fun r_3=>some ((3:Int),r_3) else
 bif (decide (a_e.op=(5:Int))) then (Be a_l (3:Int)).bind fun r_5=>some ((3:Int),r_5) else
 bif (decide (a_e.op=(6:Int))) then (Be a_l (3:Int)).bind fun r_7=>some ((3:Int),r_7) else
 bif (decide (a_e.op=(7:Int))) then (pE a_l).bind fun r_9=>some ((3:Int),r_9.2) else
 bif (decide (a_e.op=(8:Int))) then (pE a_l).bind fun r_11=>some ((3:Int),r_11.2) else
 bif (decide (a_e.op=(9:Int))) then (pE a_l).bind fun r_13=>some ((3:Int),r_13.2) else
 bif (decide (a_e.op=(10:Int))) then (pE a_l).bind fun r_15=>some ((3:Int),r_15.2) else
 bif (decide (a_e.op=(11:Int))) then (pE a_l).bind fun r_17=>some ((3:Int),r_17.2) else
 bif (decide (a_e.op=(12:Int))) then (pE a_l).bind fun r_19=>some ((3:Int),r_19.2) else
 bif (decide (a_e.op=(19:Int))) then (Be a_l (2:Int)).bind fun r_21=>some ((2:Int),r_21) else
 bif (decide (a_e.op=(20:Int))) then (Be a_l (2:Int)).bind fun r_23=>some ((1:Int),r_23) else
 bif (decide (a_e.op=(21:Int))) then some ((3:Int),true) else
 bif (decide (a_e.op=(22:Int))) then (lT a_l (1:Int) ((a_l.length:Nat):Int)).bind fun s_26=>(pE s_26).bind fun r_27=>bif r_27.2 then (lT a_l (0:Int) (1:Int)).bind fun s_29=>(Be s_29 (3:Int)).bind fun r_30=>some (r_27.1,r_30) else
 some (r_27.1,false) else
 bif (decide (a_e.op=(23:Int))) then (pE a_l).bind fun r_32=>some (r_32.1,r_32.2) else
 bif (decide (a_e.op=(24:Int))) then (Be a_l (1:Int)).bind fun r_34=>some ((3:Int),r_34) else
 (Be a_l (1:Int)).bind fun r_35=>some ((1:Int),r_35)
def jS (a_e:Ex) (a_most:Int) (rec:Ex->Int->Option Int):(Int × Int)->Option (Step (Int × Int) (Int)):=fun s=>match s with
 | (n_2,v_3)=>bif (decide (v_3<((a_e.args.length:Nat):Int))) then (aH a_e.args v_3).bind fun x_5=>(rec x_5 (IntKind.i64.wrap (a_most-(1:Int)))).bind fun r_6=>some (.next ((CY n_2 (IntKind.i64.wrap ((1:Int)+r_6))),(IntKind.i64.wrap (v_3+(1:Int))))) else
 some (.exit (n_2,v_3))
def QM:Sum (Int × Int) (Int)->Option ((Int))
 | .inl (n_2,v_3)=>some n_2
 | .inr q=>some q
def H7 (rec:Ex->Int->Option Int) (a_e:Ex) (a_most:Int):Option (Int):=bif (decide (a_most<=(1:Int))) then some (1:Int) else
 (ax (jS a_e a_most rec) fuel ((1:Int),(0:Int))).bind (QM)
def zK:Nat->Ex->Int->Option Int
 | 0,_,_=>none
 | n+1,x,y=>H7 (zK n) x y
def ac9 (a_e:Ex):Option (Int):=(zK fuel a_e (25:Int)).bind fun r_1=>some r_1
def zg (a_e:Ex) (a_kinds:(List Int)) (rec:Ex->List Int->Option (Int × Int)):((List Int) × Int)->Option (Step ((List Int) × Int) (Int × Int)):=fun s=>match s with
 | (l_9,v_10)=>bif (decide (v_10<((a_e.args.length:Nat):Int))) then (aH a_e.args v_10).bind fun x_12=>(rec x_12 a_kinds).bind fun r_13=>bif (decide (r_13.2≠(0:Int))) then some (.ret ((0:Int),r_13.2)) else
 bif (decide (l_9.length+1<=17592186044416)) then (some (.next ((l_9++[r_13.1]),(IntKind.i64.wrap (v_10+(1:Int)))))) else none else
 some (.exit (l_9,v_10))
def Gb (a_e:Ex):Sum ((List Int) × Int) (Int × Int)->Option ((Int × Int))
 | .inl (l_9,v_10)=>(gRsP a_e l_9).bind fun r_15=>bif (!r_15.2) then some ((0:Int),(7:Int)) else
 some (r_15.1,(0:Int))
 | .inr q=>some q
def I9 (rec:Ex->List Int->Option (Int × Int)) (a_e:Ex) (a_kinds:(List Int)):Option (Int × Int):=(wP a_e.op ((a_e.args.length:Nat):Int)).bind fun r_1=>bif (!r_1.2) then some ((0:Int),(7:Int)) else
 (sH a_e).bind fun r_3=>bif (!r_3) then some ((0:Int),(8:Int)) else
 bif (decide (a_e.op=(2:Int))) then bif (decide (a_e.int<(0:Int))) then some ((0:Int),(13:Int)) else
 bif (decide (((a_kinds.length:Nat):Int)<=a_e.int)) then some ((0:Int),(13:Int)) else
 (aH a_kinds a_e.int).bind fun x_8=>some (x_8,(0:Int)) else
 (ax (zg a_e a_kinds rec) fuel ([],(0:Int))).bind (Gb a_e)
def zQ:Nat->Ex->List Int->Option (Int × Int)
 | 0,_,_=>none
 | n+1,x,y=>I9 (zQ n) x y
def VL (a_e:Ex) (a_kinds:(List Int)):Option (Int × Int):=(ac9 a_e).bind fun r_1=>bif (decide ((24:Int)<r_1)) then some ((0:Int),(26:Int)) else
 (zQ fuel a_e a_kinds).bind fun r_3=>some (r_3.1,r_3.2)
end Go.Proofs.YtcehmafobkhdbaaGreatDoor
