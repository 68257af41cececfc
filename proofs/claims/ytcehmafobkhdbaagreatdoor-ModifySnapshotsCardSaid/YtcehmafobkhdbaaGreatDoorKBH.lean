/- Parts of the proof, joined. No condition. -/
import Derived.Test.YtcehmafobkhdbaaGreatDoorKAA
import Derived.Test.YtcehmafobkhdbaaGreatDoorKBG
import Derived.Test.YtcehmafobkhdbaaGreatDoorKBF
import Derived.Test.YtcehmafobkhdbaaGreatDoorKAZ
import Derived.Test.YtcehmafobkhdbaaGreatDoorKAW
import Derived.Test.YtcehmafobkhdbaaGreatDoorKAX
set_option linter.unusedSimpArgs false
set_option linter.unusedVariables false
namespace Go.Proofs.YtcehmafobkhdbaaGreatDoor
open Go.RowKit Go.MapKept
set_option maxRecDepth 100000
theorem Qr {α β ρ:Type} {l:List α} {body:(List β × Int)->Option (Step (List β × Int) ρ)} (g:α->β) (h1 : ∀ (c:List β) (i:Nat) x,l[i]?=some x->i<c.length->body (c,(i:Int))=some (.next (c.set i (g x),((i+1:Nat):Int)))) (h2 : ∀ c:List β,body (c,((l.length:Nat):Int))=some (.exit (c,((l.length:Nat):Int)))) :
  ∀ (n i:Nat) (c:List β),c.length=l.length->i<=l.length->l.length-i<n->ax body n (c,(i:Int))=some (.inl (c.take i++(l.drop i).map g,((l.length:Nat):Int)))
 | 0,i,c,_,_,h=>by omega
 | n+1,i,c,hc,hi,hn=>by
  rw [ax]
  by_cases hlt:i<l.length
  ·obtain ⟨x,hx⟩:=gol_ hlt
   have e1:=(agV.1 hx).2
   rw [h1 c i x hx (by omega)]
   show ax body n (c.set i (g x),((i+1:Nat):Int))=_
   rw [Qr g h1 h2 n (i+1) (c.set i (g x)) (by rw [List.length_set];exact hc) (by omega) (by omega),ahp hlt,e1,ag6]
   congr 3
   rw [List.take_succ_eq_append_getElem (by rw [List.length_set];omega),List.getElem_set_self,ahk,List.take_set_of_le (ag' i)]
   rfl
  ·have:i=l.length:=by omega
   subst this
   rw [h2,ahO,ag_,ahs, <- hc,List.take_length]
def fH:Nat->Ex->Prop
 | 0,_=>False
 | n+1,e=>e.args.length<=100000 /\ ∀ x∈e.args,fH n x
theorem uZ : ∀ {n m:Nat} {e:Ex}, n<=m->fH n e->fH m e
 | 0,_,_,_,h=>h.elim
 | n+1,0,_,h,_=>by omega
 | n+1,m+1,e,h,k=>⟨k.1,fun x hx=>uZ (by omega) (k.2 x hx)⟩
def El (l:List Val):Val:=(l.find? fun v=>decide (v.kind≠0)).getD mX
theorem E9 : ∀ l:List Val,dF (ρ:=Val) (fun (_:Unit) (v:Val)=>some (if v.kind≠0 then .inr v else .inl ())) () l=some (match l.find? fun v=>decide (v.kind≠0) with|some v => .inr v|none => .inl ())
 | []=>rfl
 | v::l=>by
  rw [dF]
  by_cases h:v.kind=0
  ·simp only [ne_eq,h,not_true_eq_false,if_false]
   rw [E9 l,List.find?_cons_of_neg (by simp [h])]
  ·rw [List.find?_cons_of_pos (by simp [h])]
   simp [h]
theorem Od (l:List Val) (hl:l.length<=100000):ww 23 l=some (El l):=by
 unfold ww
 rw [show decide ((23:Int)=22)=false from rfl,agW]
 rw [di (l:=l) (mk:=fun (_:Unit) i=>i) (f:=fun _ v=>some (if v.kind≠0 then .inr v else .inl ())) ?_ ?_ (by unfold fuel;omega) ()]
 ·rw [E9]
  unfold El
  cases l.find? fun v=>decide (v.kind≠0) with
  | none=>exact congrArg (fun o:Option Val=>o.bind fun r=>some r) dn
  | some v=>rfl
 ·intro s i x hx
  have hi:=(agV.1 hx).1
  unfold xy
  dsimp only
  rw [aV hx,agX,gn_ hx,wrapN (by omega)]
  simp only [agU]
  by_cases h:x.kind=0
  ·simp [h,uw]
  ·simp [h,uw]
 ·intro s
  unfold xy
  dsimp only
  rw [lF_,agW]
theorem Uu (l:List Val) (hl:l.length<=100000):(ax (uS l) fuel (0:Int)).bind qh=some (El l):=by
 rw [di (l:=l) (mk:=fun (_:Unit) i=>i) (f:=fun _ v=>some (if v.kind≠0 then .inr v else .inl ())) ?_ ?_ (by unfold fuel;omega) ()]
 ·rw [E9]
  unfold El
  cases l.find? fun v=>decide (v.kind≠0) with
  | none=>exact congrArg (fun o:Option Val=>o.bind fun r=>some r) oK
  | some v=>rfl
 ·intro s i x hx
  have hi:=(agV.1 hx).1
  unfold uS
  dsimp only
  rw [aV hx,agX,gn_ hx,wrapN (by omega)]
  simp only [agU]
  by_cases h:x.kind=0
  ·simp [h,uw]
  ·simp [h,uw]
 ·intro s
  unfold uS
  dsimp only
  rw [lF_,agW]
theorem acY {l:List Val} (h : ∀ v∈l,vF v=true):vF (El l)=true:=by
 unfold El
 cases e:l.find? fun v=>decide (v.kind≠0) with
 | none=>exact pG
 | some v=>exact h v (List.mem_of_find?_eq_some e)
theorem uh {op:Int} {a b:Val} (h:VV a):vF (ig op a b)=true:=by
 unfold ig
 cases gM [a,b] 1 with
 | false=>exact pG
 | true=>exact (iI h.int).2
theorem adx (a:Val):vF (Q6 a)=true:=by
 unfold Q6
 cases gM [a] 1 with
 | false=>exact pG
 | true=>exact ug _
theorem adY (a b:Val):vF (O5 a b)=true:=by
 unfold O5
 cases gM [a,b] 2 with
 | false=>exact pG
 | true=>exact ug _
theorem adw (a:Val):vF (O9 a)=true:=by
 unfold O9
 cases gM [a] 2 with
 | false=>exact pG
 | true=>exact ug _
theorem ad3 (r:Int) (a b c d:Val):vF (Oy r a b c d)=true:=by
 unfold Oy
 cases gM [a,b,c,d] 1 with
 | false=>exact pG
 | true =>
  rw [agX]
  split
  ·exact Hr _
  ·exact pG
def rQ (op k:Int) (l:List Val):Val :=
 if op=4 then CW (IZ (tF_ (Al l 0))) else if op=5 then CW (DY Le l.tail (tF_ (Al l 0))) else if op=6 then CW (DY or3 l.tail (tF_ (Al l 0)))
 else if op=7\/op=8\/op=9\/op=10\/op=11\/op=12 then CW (wH op (Al l 0) (Al l 1))
 else if op=18 then Q6 (Al l 0) else if op=19 then O5 (Al l 0) (Al l 1) else if op=20 then O9 (Al l 0) else if op=21 then pM (decide ((Al l 0).kind=0))
 else if op=22 then (bif decide (tF_ (Al l 0)=2) then Al l 1 else Al l 2) else if op=23 then El l else if op=24 then Oy k (Al l 0) (Al l 1) (Al l 2) (Al l 3)
 else ig op (Al l 0) (Al l 1)
theorem agd {α:Type} {l:List α} (h:l.length=1) : ∃ a,l=[a]:=match l,h with|[a],_=>⟨a,rfl⟩
theorem WY {α:Type} {l:List α} (h:l.length=2) : ∃ a b,l=[a,b]:=match l,h with|[a,b],_=>⟨a,b,rfl⟩
theorem abU {α:Type} {l:List α} (h:l.length=3) : ∃ a b c,l=[a,b,c]:=match l,h with|[a,b,c],_=>⟨a,b,c,rfl⟩
theorem agw {α:Type} {l:List α} (h:l.length=4) : ∃ a b c d,l=[a,b,c,d]:=match l,h with|[a,b,c,d],_=>⟨a,b,c,d,rfl⟩
theorem agD {α:Type} {l:List α} (h:1<=l.length) : ∃ a m,l=a::m:=match l,h with|a::m,_=>⟨a,m,rfl⟩
structure vQ (op:Int) (l:List Val):Prop where
 lo:(nY op).1<=((l.length:Nat):Int)
 hi:((l.length:Nat):Int)<=(nY op).2
 len:l.length<=100000
 vf : ∀ v∈l,vF v=true
theorem sh1 {op:Int} {l:List Val} (A:vQ op l) (h:nY op=(1,1)) : ∃ a,l=[a]/\VV a:=by
 have h1:=A.lo
 have h2:=A.hi
 rw [h] at h1 h2
 dsimp only at h1 h2
 obtain ⟨a,rfl⟩:=agd (l:=l) (by omega)
 exact ⟨a,rfl,xL (A.vf a (by simp))⟩
theorem GR {op:Int} {l:List Val} (A:vQ op l) (h:nY op=(2,2)) : ∃ a b,l=[a,b]/\VV a/\VV b:=by
 have h1:=A.lo
 have h2:=A.hi
 rw [h] at h1 h2
 dsimp only at h1 h2
 obtain ⟨a,b,rfl⟩:=WY (l:=l) (by omega)
 exact ⟨a,b,rfl,xL (A.vf a (by simp)),xL (A.vf b (by simp))⟩
theorem sh3 {op:Int} {l:List Val} (A:vQ op l) (h:nY op=(3,3)) : ∃ a b c,l=[a,b,c]:=by
 have h1:=A.lo
 have h2:=A.hi
 rw [h] at h1 h2
 dsimp only at h1 h2
 exact abU (l:=l) (by omega)
theorem sh4 {op:Int} {l:List Val} (A:vQ op l) (h:nY op=(4,4)) : ∃ a b c d,l=[a,b,c,d]:=by
 have h1:=A.lo
 have h2:=A.hi
 rw [h] at h1 h2
 dsimp only at h1 h2
 exact agw (l:=l) (by omega)
theorem WP {op:Int} {l:List Val} (A:vQ op l) (h:1<=(nY op).1) : ∃ a m,l=a::m/\VV a/\m.length<=1000000:=by
 have h1:=A.lo
 have h3:=A.len
 obtain ⟨a,m,rfl⟩:=agD (l:=l) (by omega)
 exact ⟨a,m,rfl,xL (A.vf a (by simp)),by rw [ahf] at h3;omega⟩
theorem ZV (e:Ex) (row l:List Val) (i:Int) (A:vQ e.op l) (ho:e.op=4\/e.op=5\/e.op=6\/e.op=7\/e.op=8\/e.op=9\/e.op=10\/e.op=11\/e.op=12\/e.op=13\/e.op=14\/e.op=15\/e.op=16\/e.op=17\/e.op=18\/e.op=19\/e.op=20\/e.op=21\/e.op=22\/e.op=23\/e.op=24):gER_K e row (.inl (l,i))=some (rQ e.op e.int l):=by
 rcases ho with ho|ho|ho|ho|ho|ho|ho|ho|ho|ho|ho|ho|ho|ho|ho|ho|ho|ho|ho|ho|ho
 ·obtain ⟨a,rfl,va⟩:=sh1 A (by rw [ho];rfl)
  have hv:rQ 4 e.int [a]=CW (IZ (tF_ a)):=rfl
  rw [ho,hv]
  unfold gER_K
  dsimp only
  simp only [ho,Int.reduceEq,decide_false,decide_true,agX,agW]
  rw [show aH [a] (0:Int)=some a from rfl,agU,qy,agU,DK (kD a),agU,si (wE _)];rfl
 ·obtain ⟨a,m,rfl,va,hm⟩:=WP A (by rw [ho];decide)
  have hv:rQ 5 e.int (a::m)=CW (DY Le m (tF_ a)):=rfl
  rw [ho,hv]
  unfold gER_K
  dsimp only
  simp only [ho,Int.reduceEq,decide_false,decide_true,agX,agW]
  rw [Kc 5 Le OT (fun a b ha hb=>by rw [show decide ((5:Int)=5)=true from rfl];exact Zx ha hb) a m hm];rfl
 ·obtain ⟨a,m,rfl,va,hm⟩:=WP A (by rw [ho];decide)
  have hv:rQ 6 e.int (a::m)=CW (DY or3 m (tF_ a)):=rfl
  rw [ho,hv]
  unfold gER_K
  dsimp only
  simp only [ho,Int.reduceEq,decide_false,decide_true,agX,agW]
  rw [Kc 6 or3 UG (fun a b ha hb=>by rw [show decide ((6:Int)=5)=false from rfl];exact abI ha hb) a m hm];rfl
 ·obtain ⟨a,b,rfl,va,vb⟩:=GR A (by rw [ho];rfl)
  have hv:rQ 7 e.int [a,b]=CW (wH 7 a b):=rfl
  rw [ho,hv]
  unfold gER_K
  dsimp only
  simp only [ho,Int.reduceEq,decide_false,decide_true,agX,agW]
  rw [show aH [a,b] (0:Int)=some a from rfl,agU,show aH [a,b] (1:Int)=some b from rfl,agU,kG,agU,si (lc _ _ _)];rfl
 ·obtain ⟨a,b,rfl,va,vb⟩:=GR A (by rw [ho];rfl)
  have hv:rQ 8 e.int [a,b]=CW (wH 8 a b):=rfl
  rw [ho,hv]
  unfold gER_K
  dsimp only
  simp only [ho,Int.reduceEq,decide_false,decide_true,agX,agW]
  rw [show aH [a,b] (0:Int)=some a from rfl,agU,show aH [a,b] (1:Int)=some b from rfl,agU,kG,agU,si (lc _ _ _)];rfl
 ·obtain ⟨a,b,rfl,va,vb⟩:=GR A (by rw [ho];rfl)
  have hv:rQ 9 e.int [a,b]=CW (wH 9 a b):=rfl
  rw [ho,hv]
  unfold gER_K
  dsimp only
  simp only [ho,Int.reduceEq,decide_false,decide_true,agX,agW]
  rw [show aH [a,b] (0:Int)=some a from rfl,agU,show aH [a,b] (1:Int)=some b from rfl,agU,kG,agU,si (lc _ _ _)];rfl
 ·obtain ⟨a,b,rfl,va,vb⟩:=GR A (by rw [ho];rfl)
  have hv:rQ 10 e.int [a,b]=CW (wH 10 a b):=rfl
  rw [ho,hv]
  unfold gER_K
  dsimp only
  simp only [ho,Int.reduceEq,decide_false,decide_true,agX,agW]
  rw [show aH [a,b] (0:Int)=some a from rfl,agU,show aH [a,b] (1:Int)=some b from rfl,agU,kG,agU,si (lc _ _ _)];rfl
 ·obtain ⟨a,b,rfl,va,vb⟩:=GR A (by rw [ho];rfl)
  have hv:rQ 11 e.int [a,b]=CW (wH 11 a b):=rfl
  rw [ho,hv]
  unfold gER_K
  dsimp only
  simp only [ho,Int.reduceEq,decide_false,decide_true,agX,agW]
  rw [show aH [a,b] (0:Int)=some a from rfl,agU,show aH [a,b] (1:Int)=some b from rfl,agU,kG,agU,si (lc _ _ _)];rfl
 ·obtain ⟨a,b,rfl,va,vb⟩:=GR A (by rw [ho];rfl)
  have hv:rQ 12 e.int [a,b]=CW (wH 12 a b):=rfl
  rw [ho,hv]
  unfold gER_K
  dsimp only
  simp only [ho,Int.reduceEq,decide_false,decide_true,agX,agW]
  rw [show aH [a,b] (0:Int)=some a from rfl,agU,show aH [a,b] (1:Int)=some b from rfl,agU,kG,agU,si (lc _ _ _)];rfl
 ·obtain ⟨a,b,rfl,va,vb⟩:=GR A (by rw [ho];rfl)
  have hv:rQ 13 e.int [a,b]=ig 13 a b:=rfl
  rw [ho,hv]
  unfold gER_K
  dsimp only
  simp only [ho,Int.reduceEq,decide_false,decide_true,agX,agW]
  unfold ig
  rw [qb _ _ (by simp),agU]
  cases gM [a,b] 1 with
  | false=>exact congrArg (fun o:Option Val=>o.bind fun r=>some r) dn
  | true=>exact congrArg (fun o:Option Val=>o.bind fun r=>some r) (iI va.int).1
 ·obtain ⟨a,b,rfl,va,vb⟩:=GR A (by rw [ho];rfl)
  have hv:rQ 14 e.int [a,b]=ig 14 a b:=rfl
  rw [ho,hv]
  unfold gER_K
  dsimp only
  simp only [ho,Int.reduceEq,decide_false,decide_true,agX,agW]
  unfold ig
  rw [qb _ _ (by simp),agU]
  cases gM [a,b] 1 with
  | false=>exact congrArg (fun o:Option Val=>o.bind fun r=>some r) dn
  | true=>exact congrArg (fun o:Option Val=>o.bind fun r=>some r) (iI va.int).1
 ·obtain ⟨a,b,rfl,va,vb⟩:=GR A (by rw [ho];rfl)
  have hv:rQ 15 e.int [a,b]=ig 15 a b:=rfl
  rw [ho,hv]
  unfold gER_K
  dsimp only
  simp only [ho,Int.reduceEq,decide_false,decide_true,agX,agW]
  unfold ig
  rw [qb _ _ (by simp),agU]
  cases gM [a,b] 1 with
  | false=>exact congrArg (fun o:Option Val=>o.bind fun r=>some r) dn
  | true=>exact congrArg (fun o:Option Val=>o.bind fun r=>some r) (iI va.int).1
 ·obtain ⟨a,b,rfl,va,vb⟩:=GR A (by rw [ho];rfl)
  have hv:rQ 16 e.int [a,b]=ig 16 a b:=rfl
  rw [ho,hv]
  unfold gER_K
  dsimp only
  simp only [ho,Int.reduceEq,decide_false,decide_true,agX,agW]
  unfold ig
  rw [qb _ _ (by simp),agU]
  cases gM [a,b] 1 with
  | false=>exact congrArg (fun o:Option Val=>o.bind fun r=>some r) dn
  | true=>exact congrArg (fun o:Option Val=>o.bind fun r=>some r) (iI va.int).1
 ·obtain ⟨a,b,rfl,va,vb⟩:=GR A (by rw [ho];rfl)
  have hv:rQ 17 e.int [a,b]=ig 17 a b:=rfl
  rw [ho,hv]
  unfold gER_K
  dsimp only
  simp only [ho,Int.reduceEq,decide_false,decide_true,agX,agW]
  unfold ig
  rw [qb _ _ (by simp),agU]
  cases gM [a,b] 1 with
  | false=>exact congrArg (fun o:Option Val=>o.bind fun r=>some r) dn
  | true=>exact congrArg (fun o:Option Val=>o.bind fun r=>some r) (iI va.int).1
 ·obtain ⟨a,rfl,va⟩:=sh1 A (by rw [ho];rfl)
  have hv:rQ 18 e.int [a]=Q6 a:=rfl
  rw [ho,hv]
  unfold gER_K
  dsimp only
  simp only [ho,Int.reduceEq,decide_false,decide_true,agX,agW]
  unfold Q6
  rw [qb _ _ (by simp),agU]
  cases gM [a] 1 with
  | false=>exact congrArg (fun o:Option Val=>o.bind fun r=>some r) dn
  | true=>exact congrArg (fun o:Option Val=>o.bind fun r=>some r) (mP _)
 ·obtain ⟨a,b,rfl,va,vb⟩:=GR A (by rw [ho];rfl)
  have hv:rQ 19 e.int [a,b]=O5 a b:=rfl
  rw [ho,hv]
  unfold gER_K
  dsimp only
  simp only [ho,Int.reduceEq,decide_false,decide_true,agX,agW]
  rw [SX va vb];rfl
 ·obtain ⟨a,rfl,va⟩:=sh1 A (by rw [ho];rfl)
  have hv:rQ 20 e.int [a]=O9 a:=rfl
  rw [ho,hv]
  unfold gER_K
  dsimp only
  simp only [ho,Int.reduceEq,decide_false,decide_true,agX,agW]
  rw [T9];rfl
 ·obtain ⟨a,rfl,va⟩:=sh1 A (by rw [ho];rfl)
  have hv:rQ 21 e.int [a]=pM (decide (a.kind=0)):=rfl
  rw [ho,hv]
  unfold gER_K
  dsimp only
  simp only [ho,Int.reduceEq,decide_false,decide_true,agX,agW]
  rw [show aH [a] (0:Int)=some a from rfl,agU,Ac];rfl
 ·obtain ⟨a,b,c,rfl⟩:=sh3 A (by rw [ho];rfl)
  have hv:rQ 22 e.int [a,b,c]=(bif decide (tF_ a=2) then b else c):=rfl
  rw [ho,hv]
  unfold gER_K
  dsimp only
  simp only [ho,Int.reduceEq,decide_false,decide_true,agX,agW]
  unfold ww
  rw [show decide ((22:Int)=22)=true from rfl,agX,show aH [a,b,c] (0:Int)=some a from rfl,agU,qy,agU]
  cases decide (tF_ a=2)<;>rfl
 ·obtain ⟨a,m,rfl,va,hm⟩:=WP A (by rw [ho];decide)
  have hv:rQ 23 e.int (a::m)=El (a::m):=rfl
  rw [ho,hv]
  unfold gER_K
  dsimp only
  simp only [ho,Int.reduceEq,decide_false,decide_true,agX,agW]
  rw [Od _ A.len];rfl
 ·obtain ⟨a,b,c,d,rfl⟩:=sh4 A (by rw [ho];rfl)
  have hv:rQ 24 e.int [a,b,c,d]=Oy e.int a b c d:=rfl
  rw [ho,hv]
  unfold gER_K
  dsimp only
  simp only [ho,Int.reduceEq,decide_false,decide_true,agX,agW]
  rw [OL];rfl
theorem aaz (e:Ex) (l:List Val) (i:Int) (A:vQ e.op l) (hle:l.length=e.args.length) (ho:e.op=4\/e.op=5\/e.op=6\/e.op=7\/e.op=8\/e.op=9\/e.op=10\/e.op=11\/e.op=12\/e.op=13\/e.op=14\/e.op=15\/e.op=16\/e.op=17\/e.op=18\/e.op=19\/e.op=20\/e.op=21\/e.op=23\/e.op=24):bK e (.inl (l,i))=some (rQ e.op e.int l):=by
 rcases ho with ho|ho|ho|ho|ho|ho|ho|ho|ho|ho|ho|ho|ho|ho|ho|ho|ho|ho|ho|ho
 ·obtain ⟨a,rfl,va⟩:=sh1 A (by rw [ho];rfl)
  have hv:rQ 4 e.int [a]=CW (IZ (tF_ a)):=rfl
  rw [ho,hv]
  unfold bK
  dsimp only
  rw [agZ hle,agX]
  simp only [ho,Int.reduceEq,decide_false,decide_true,agX,agW]
  rw [TL];rfl
 ·obtain ⟨a,m,rfl,va,hm⟩:=WP A (by rw [ho];decide)
  have hv:rQ 5 e.int (a::m)=CW (DY Le m (tF_ a)):=rfl
  rw [ho,hv]
  unfold bK
  dsimp only
  rw [agZ hle,agX]
  simp only [ho,Int.reduceEq,decide_false,decide_true,agX,agW]
  rw [Ub a m hm];rfl
 ·obtain ⟨a,m,rfl,va,hm⟩:=WP A (by rw [ho];decide)
  have hv:rQ 6 e.int (a::m)=CW (DY or3 m (tF_ a)):=rfl
  rw [ho,hv]
  unfold bK
  dsimp only
  rw [agZ hle,agX]
  simp only [ho,Int.reduceEq,decide_false,decide_true,agX,agW]
  rw [Wu a m hm];rfl
 ·obtain ⟨a,b,rfl,va,vb⟩:=GR A (by rw [ho];rfl)
  have hv:rQ 7 e.int [a,b]=CW (wH 7 a b):=rfl
  rw [ho,hv]
  unfold bK
  dsimp only
  rw [agZ hle,agX]
  simp only [ho,Int.reduceEq,decide_false,decide_true,agX,agW]
  rw [show aH [a,b] (0:Int)=some a from rfl,agU,show aH [a,b] (1:Int)=some b from rfl,agU,iw,agU,mq (lc _ _ _)];rfl
 ·obtain ⟨a,b,rfl,va,vb⟩:=GR A (by rw [ho];rfl)
  have hv:rQ 8 e.int [a,b]=CW (wH 8 a b):=rfl
  rw [ho,hv]
  unfold bK
  dsimp only
  rw [agZ hle,agX]
  simp only [ho,Int.reduceEq,decide_false,decide_true,agX,agW]
  rw [show aH [a,b] (0:Int)=some a from rfl,agU,show aH [a,b] (1:Int)=some b from rfl,agU,iw,agU,mq (lc _ _ _)];rfl
 ·obtain ⟨a,b,rfl,va,vb⟩:=GR A (by rw [ho];rfl)
  have hv:rQ 9 e.int [a,b]=CW (wH 9 a b):=rfl
  rw [ho,hv]
  unfold bK
  dsimp only
  rw [agZ hle,agX]
  simp only [ho,Int.reduceEq,decide_false,decide_true,agX,agW]
  rw [show aH [a,b] (0:Int)=some a from rfl,agU,show aH [a,b] (1:Int)=some b from rfl,agU,iw,agU,mq (lc _ _ _)];rfl
 ·obtain ⟨a,b,rfl,va,vb⟩:=GR A (by rw [ho];rfl)
  have hv:rQ 10 e.int [a,b]=CW (wH 10 a b):=rfl
  rw [ho,hv]
  unfold bK
  dsimp only
  rw [agZ hle,agX]
  simp only [ho,Int.reduceEq,decide_false,decide_true,agX,agW]
  rw [show aH [a,b] (0:Int)=some a from rfl,agU,show aH [a,b] (1:Int)=some b from rfl,agU,iw,agU,mq (lc _ _ _)];rfl
 ·obtain ⟨a,b,rfl,va,vb⟩:=GR A (by rw [ho];rfl)
  have hv:rQ 11 e.int [a,b]=CW (wH 11 a b):=rfl
  rw [ho,hv]
  unfold bK
  dsimp only
  rw [agZ hle,agX]
  simp only [ho,Int.reduceEq,decide_false,decide_true,agX,agW]
  rw [show aH [a,b] (0:Int)=some a from rfl,agU,show aH [a,b] (1:Int)=some b from rfl,agU,iw,agU,mq (lc _ _ _)];rfl
 ·obtain ⟨a,b,rfl,va,vb⟩:=GR A (by rw [ho];rfl)
  have hv:rQ 12 e.int [a,b]=CW (wH 12 a b):=rfl
  rw [ho,hv]
  unfold bK
  dsimp only
  rw [agZ hle,agX]
  simp only [ho,Int.reduceEq,decide_false,decide_true,agX,agW]
  rw [show aH [a,b] (0:Int)=some a from rfl,agU,show aH [a,b] (1:Int)=some b from rfl,agU,iw,agU,mq (lc _ _ _)];rfl
 ·obtain ⟨a,b,rfl,va,vb⟩:=GR A (by rw [ho];rfl)
  have hv:rQ 13 e.int [a,b]=ig 13 a b:=rfl
  rw [ho,hv]
  unfold bK
  dsimp only
  rw [agZ hle,agX]
  simp only [ho,Int.reduceEq,decide_false,decide_true,agX,agW]
  rw [rF va (by omega)];rfl
 ·obtain ⟨a,b,rfl,va,vb⟩:=GR A (by rw [ho];rfl)
  have hv:rQ 14 e.int [a,b]=ig 14 a b:=rfl
  rw [ho,hv]
  unfold bK
  dsimp only
  rw [agZ hle,agX]
  simp only [ho,Int.reduceEq,decide_false,decide_true,agX,agW]
  rw [rF va (by omega)];rfl
 ·obtain ⟨a,b,rfl,va,vb⟩:=GR A (by rw [ho];rfl)
  have hv:rQ 15 e.int [a,b]=ig 15 a b:=rfl
  rw [ho,hv]
  unfold bK
  dsimp only
  rw [agZ hle,agX]
  simp only [ho,Int.reduceEq,decide_false,decide_true,agX,agW]
  rw [rF va (by omega)];rfl
 ·obtain ⟨a,b,rfl,va,vb⟩:=GR A (by rw [ho];rfl)
  have hv:rQ 16 e.int [a,b]=ig 16 a b:=rfl
  rw [ho,hv]
  unfold bK
  dsimp only
  rw [agZ hle,agX]
  simp only [ho,Int.reduceEq,decide_false,decide_true,agX,agW]
  rw [rF va (by omega)];rfl
 ·obtain ⟨a,b,rfl,va,vb⟩:=GR A (by rw [ho];rfl)
  have hv:rQ 17 e.int [a,b]=ig 17 a b:=rfl
  rw [ho,hv]
  unfold bK
  dsimp only
  rw [agZ hle,agX]
  simp only [ho,Int.reduceEq,decide_false,decide_true,agX,agW]
  rw [rF va (by omega)];rfl
 ·obtain ⟨a,rfl,va⟩:=sh1 A (by rw [ho];rfl)
  have hv:rQ 18 e.int [a]=Q6 a:=rfl
  rw [ho,hv]
  unfold bK
  dsimp only
  rw [agZ hle,agX]
  simp only [ho,Int.reduceEq,decide_false,decide_true,agX,agW]
  rw [SS];rfl
 ·obtain ⟨a,b,rfl,va,vb⟩:=GR A (by rw [ho];rfl)
  have hv:rQ 19 e.int [a,b]=O5 a b:=rfl
  rw [ho,hv]
  unfold bK
  dsimp only
  rw [agZ hle,agX]
  simp only [ho,Int.reduceEq,decide_false,decide_true,agX,agW]
  rw [Tj va vb];rfl
 ·obtain ⟨a,rfl,va⟩:=sh1 A (by rw [ho];rfl)
  have hv:rQ 20 e.int [a]=O9 a:=rfl
  rw [ho,hv]
  unfold bK
  dsimp only
  rw [agZ hle,agX]
  simp only [ho,Int.reduceEq,decide_false,decide_true,agX,agW]
  rw [Tq va];rfl
 ·obtain ⟨a,rfl,va⟩:=sh1 A (by rw [ho];rfl)
  have hv:rQ 21 e.int [a]=pM (decide (a.kind=0)):=rfl
  rw [ho,hv]
  unfold bK
  dsimp only
  rw [agZ hle,agX]
  simp only [ho,Int.reduceEq,decide_false,decide_true,agX,agW]
  rw [show aH [a] (0:Int)=some a from rfl,agU,Nu];rfl
 ·obtain ⟨a,m,rfl,va,hm⟩:=WP A (by rw [ho];decide)
  have hv:rQ 23 e.int (a::m)=El (a::m):=rfl
  rw [ho,hv]
  unfold bK
  dsimp only
  rw [agZ hle,agX]
  simp only [ho,Int.reduceEq,decide_false,decide_true,agX,agW]
  exact Uu _ A.len
 ·obtain ⟨a,b,c,d,rfl⟩:=sh4 A (by rw [ho];rfl)
  have hv:rQ 24 e.int [a,b,c,d]=Oy e.int a b c d:=rfl
  rw [ho,hv]
  unfold bK
  dsimp only
  rw [agZ hle,agX]
  simp only [ho,Int.reduceEq,decide_false,decide_true,agX,agW]
  rw [Ra];rfl
theorem afL (k:Int) {op:Int} {l:List Val} (A:vQ op l) (ho:op=4\/op=5\/op=6\/op=7\/op=8\/op=9\/op=10\/op=11\/op=12\/op=13\/op=14\/op=15\/op=16\/op=17\/op=18\/op=19\/op=20\/op=21\/op=22\/op=23\/op=24):vF (rQ op k l)=true:=by
 rcases ho with rfl|rfl|rfl|rfl|rfl|rfl|rfl|rfl|rfl|rfl|rfl|rfl|rfl|rfl|rfl|rfl|rfl|rfl|rfl|rfl|rfl
 ·exact w_ _
 ·exact w_ _
 ·exact w_ _
 ·exact w_ _
 ·exact w_ _
 ·exact w_ _
 ·exact w_ _
 ·exact w_ _
 ·exact w_ _
 ·have hlo:=A.lo
  have hhi:=A.hi
  rw [afd] at hlo hhi
  dsimp only at hlo hhi
  obtain ⟨a,b,rfl⟩:=WY (l:=l) (by omega)
  exact uh (xL (A.vf a (by simp)))
 ·have hlo:=A.lo
  have hhi:=A.hi
  rw [afr] at hlo hhi
  dsimp only at hlo hhi
  obtain ⟨a,b,rfl⟩:=WY (l:=l) (by omega)
  exact uh (xL (A.vf a (by simp)))
 ·have hlo:=A.lo
  have hhi:=A.hi
  rw [ae4] at hlo hhi
  dsimp only at hlo hhi
  obtain ⟨a,b,rfl⟩:=WY (l:=l) (by omega)
  exact uh (xL (A.vf a (by simp)))
 ·have hlo:=A.lo
  have hhi:=A.hi
  rw [ae9] at hlo hhi
  dsimp only at hlo hhi
  obtain ⟨a,b,rfl⟩:=WY (l:=l) (by omega)
  exact uh (xL (A.vf a (by simp)))
 ·have hlo:=A.lo
  have hhi:=A.hi
  rw [aeS] at hlo hhi
  dsimp only at hlo hhi
  obtain ⟨a,b,rfl⟩:=WY (l:=l) (by omega)
  exact uh (xL (A.vf a (by simp)))
 ·exact adx _
 ·exact adY _ _
 ·exact adw _
 ·exact Hr _
 ·have hlo:=A.lo
  have hhi:=A.hi
  rw [aek] at hlo hhi
  dsimp only at hlo hhi
  obtain ⟨a,b,c,rfl⟩:=abU (l:=l) (by omega)
  show vF (bif decide (tF_ a=2) then b else c)=true
  cases decide (tF_ a=2)
  ·exact A.vf c (by simp)
  ·exact A.vf b (by simp)
 ·exact acY A.vf
 ·exact ad3 _ _ _ _ _
theorem MW (row:List Val) : ∀ (n:Nat) (e:Ex),fH n e -> ∃ v,kL n e row=some v/\pK n e row=some v/\vF v=true
 | 0,_,h=>h.elim
 | n+1,e,h=>by
  have hx : ∀ x∈e.args,kL n x row=some ((kL n x row).getD mX)/\pK n x row=some ((kL n x row).getD mX)/\vF ((kL n x row).getD mX)=true:=by
   intro x hx
   obtain ⟨v,h1,h2,h3⟩:=MW row n x (h.2 x hx)
   rw [h1];exact ⟨rfl,h2,h3⟩
  generalize hg:(fun x=>(kL n x row).getD mX)=g at hx
  have hx' : ∀ x∈e.args,kL n x row=some (g x)/\pK n x row=some (g x)/\vF (g x)=true:=by subst hg;exact hx
  show ∃ v,Aj (kL n) e row=some v/\EY (pK n) e row=some v/\vF v=true
  have hR:Aj (kL n) e row=(bif xI e then gER_K e row (.inl (e.args.map g,((e.args.length:Nat):Int))) else some mX):=by
   unfold Aj
   rw [F6 h.1,agU,dn]
   cases xI e with
   | false=>rfl
   | true =>
    rw [Bool.not_true,agW,agX]
    have:=df (l:=e.args) (body:=qQ e row (kL n)) (fun x=>[g x]) 4398046511104 ?_ ?_ (by unfold fuel;have:=h.1;omega) [] ?_
    ·rw [this,ag0, <- List.map_eq_flatMap];rfl
    ·intro s i x hx1 hb
     have hi:=(agV.1 hx1).1
     have hlen:=h.1
     unfold qQ
     dsimp only
     rw [aV hx1,agX,gn_ hx1,wrapN (by omega),agU,(hx' x (ag1 hx1)).1,agU,agZ (show s.length+1<=4398046511104 from hb),agX]
    ·intro s
     unfold qQ
     dsimp only
     rw [lF_,agW]
    ·have:=h.1
     rw [<- List.map_eq_flatMap,ag7];simp;omega
  have hP:EY (pK n) e row=(bif xI e then (if e.op=1 then some e.v else if e.op=2 then some (PZ (Al row e.int)) else if e.op=22 then some (rQ 22 e.int (e.args.map g)) else bK e (.inl (e.args.map g,((e.args.length:Nat):Int)))) else some mX):=by
   unfold EY
   rw [Iz h.1,agU,oK]
   cases hf:xI e with
   | false=>rfl
   | true =>
    rw [Bool.not_true,agW,agX]
    by_cases o1:e.op=1
    ·rw [agZ o1,agX,if_pos o1]
    rw [agY o1,agW,if_neg o1]
    by_cases o2:e.op=2
    ·rw [agZ o2,agX,if_pos o2,TQ];rfl
    rw [agY o2,agW,if_neg o2]
    by_cases o3:e.op=22
    ·rw [agZ o3,agX,if_pos o3]
     obtain ⟨_,hlo,hhi,_⟩:=B_ h.1 hf
     rw [o3,aek] at hlo hhi
     dsimp only at hlo hhi
     obtain ⟨a,b,c,ha⟩:=abU (l:=e.args) (by omega)
     rw [ha] at hx' ⊢
     unfold GL
     rw [show aH [a,b,c] (0:Int)=some a from rfl,show aH [a,b,c] (1:Int)=some b from rfl,show aH [a,b,c] (2:Int)=some c from rfl]
     simp only [agU]
     rw [(hx' a (by simp)).2.1,agU,lH,(hx' b (by simp)).2.1,(hx' c (by simp)).2.1]
     show _=some (bif decide (tF_ (g a)=2) then g b else g c)
     simp only [agU]
     cases decide (tF_ (g a)=2)<;>rfl
    ·rw [agY o3,agW,if_neg o3]
     have hlen:=h.1
     rw [agZ (show (0:Int)<=((e.args.length:Nat):Int) by omega),agZ (show (32:Int)*((e.args.length:Nat):Int)<=281474976710656 by omega),agZ (show ((e.args.length:Nat):Int)<=9223372036854775807 by omega),agX,agX,agX]
     have:=Qr (l:=e.args) (body:=uQ e row (pK n)) g ?_ ?_ fuel 0 (List.replicate e.args.length ⟨0,0,ByteArray.empty⟩) (by simp) (ahe _) (by unfold fuel;omega)
     ·rw [show ((0:Nat):Int)=0 from rfl] at this
      rw [this,List.take_zero,ag0,List.drop_zero];rfl
     ·intro c i x hx1 hb
      have hi:=(agV.1 hx1).1
      unfold uQ
      dsimp only
      rw [aV hx1,agX,gn_ hx1,wrapN (by omega),agU,(hx' x (ag1 hx1)).2.1,agU,agZ (show (0:Int)<=(i:Int) by omega),agX,agX,show 0+((i:Int)).toNat=i by omega,agZ hb,agX]
     ·intro c
      unfold uQ
      dsimp only
      rw [lF_,agW]
  rw [hR,hP]
  cases hf:xI e with
  | false=>exact ⟨_,rfl,rfl,pG⟩
  | true =>
   rw [agX,agX]
   obtain ⟨hops,hlo,hhi,hrest⟩:=B_ h.1 hf
   by_cases o1:e.op=1
   ·have hv:=Tn o1 hrest
    refine ⟨e.v,?_,by rw [if_pos o1],hv⟩
    unfold gER_K
    dsimp only
    rw [agZ o1,agX,Sg e row o1 hv];rfl
   by_cases o2:e.op=2
   ·refine ⟨PZ (Al row e.int),?_,by rw [if_neg o1,if_pos o2],ug _⟩
    unfold gER_K
    dsimp only
    rw [agY o1,agW,agZ o2,agX,Xp e row o2];rfl
   have A:vQ e.op (e.args.map g):=by
    refine ⟨by rw [ag7];exact hlo,by rw [ag7];exact hhi,by rw [ag7];exact h.1,fun v hv=>?_⟩
    obtain ⟨x,hx1,rfl⟩:=aht.1 hv
    exact (hx' x hx1).2.2
   have hops2:e.op=4\/e.op=5\/e.op=6\/e.op=7\/e.op=8\/e.op=9\/e.op=10\/e.op=11\/e.op=12\/e.op=13\/e.op=14\/e.op=15\/e.op=16\/e.op=17\/e.op=18\/e.op=19\/e.op=20\/e.op=21\/e.op=22\/e.op=23\/e.op=24:=by omega
   refine ⟨rQ e.op e.int (e.args.map g),ZV e row _ _ A hops2,?_,afL _ A hops2⟩
   rw [if_neg o1,if_neg o2]
   by_cases o3:e.op=22
   ·rw [if_pos o3,o3]
   ·rw [if_neg o3]
    exact aaz e _ _ A (by rw [ag7]) (by omega)
set_option maxHeartbeats 8000000
def Aa (a_l:(List Int)) (a_kind:Int):(Int)->Option (Step (Int) (Bool)):=fun s=>match s with
 | i_1=>bif (decide (i_1<((a_l.length:Nat):Int))) then (aH a_l i_1).bind fun x_3=>bif (decide (x_3≠a_kind)) then bif (decide (x_3≠(0:Int))) then some (.ret false) else
 some (.next (IntKind.i64.wrap (i_1+(1:Int)))) else
 some (.next (IntKind.i64.wrap (i_1+(1:Int)))) else
 some (.exit i_1)
def uA:Sum (Int) (Bool)->Option ((Bool))
 | .inl i_1=>some true
 | .inr q=>some q
def jH (a_l:(List Int)) (a_kind:Int):Option (Bool):=(ax (Aa a_l a_kind) fuel (0:Int)).bind (uA)
theorem fq {a_l:(List Int)} {a_kind:Int} {r:Bool} (H:jH a_l a_kind=some r):Pure Tryz.prog 151 [.one (.lst (a_l.map (fun x=>[AC.int .i64 x]))), .one (.int .i64 a_kind)] (.val (.one (.bool r))):=by
 unfold jH at H
 refine po_ Tryz.func151 Tryz.ntmps151 ?_
 refine bF ?_
 refine alM_ (fun s:Int=>match s with|i_1=>[(0, .one (.c (.lst (a_l.map (fun x=>[AC.int .i64 x]))))),(1, .one (.c (.int .i64 a_kind))),(5, .one (.c (.int .i64 i_1)))]) (fun s=>match s with|i_1=>[]) H (fun _=>ahe _)
  (fm_ dh [] rfl bH trivial) ?_
 rintro i_1 st1 hb1 hk1
 unfold Aa at hb1
 dsimp only at hb1 ⊢
 rcases af hb1 with ⟨q_2,hb1⟩|⟨q_2,hb1⟩
 ·obtain ⟨x_3,i1z,i1,i1x,hb1⟩:=aY (f:=(fun x=>[AC.int .i64 x])) hb1
  rcases af hb1 with ⟨q_4,hb1⟩|⟨q_4,hb1⟩
  ·rcases af hb1 with ⟨q_5,hb1⟩|⟨q_5,hb1⟩
   ·cases hb1
    have hx1:uA (.inr false)=some _:=hk1
    unfold uA at hx1
    dsimp only at hx1
    cases hx1
    exact aD
   cases hb1
   refine bF ?_
   exact ⟨_,rfl,fm_ dh [] rfl bH trivial⟩
  cases hb1
  refine bF ?_
  exact ⟨_,rfl,fm_ dh [] rfl bH trivial⟩
 cases hb1
 have hx1:uA (.inl i_1)=some _:=hk1
 unfold uA at hx1
 dsimp only at hx1
 cases hx1
 exact aD
def Ig (a_l:(List Int)):(Int × Int)->Option (Step (Int × Int) (Int × Bool)):=fun s=>match s with
 | (k_1,i_2)=>bif (decide (i_2<((a_l.length:Nat):Int))) then (aH a_l i_2).bind fun x_4=>bif (decide (x_4=(0:Int))) then some (.next (k_1,(IntKind.i64.wrap (i_2+(1:Int))))) else
 bif (decide (k_1≠(0:Int))) then bif (decide (k_1≠x_4)) then some (.ret ((0:Int),false)) else
 some (.next (x_4,(IntKind.i64.wrap (i_2+(1:Int))))) else
 some (.next (x_4,(IntKind.i64.wrap (i_2+(1:Int))))) else
 some (.exit (k_1,i_2))
def qE:Sum (Int × Int) (Int × Bool)->Option ((Int × Bool))
 | .inl (k_1,i_2)=>some (k_1,true)
 | .inr q=>some q
def lw (a_l:(List Int)):Option (Int × Bool):=(ax (Ig a_l) fuel ((0:Int),(0:Int))).bind (qE)
theorem jF {a_l:(List Int)} {r:Int × Bool} (H:lw a_l=some r):Pure Tryz.prog 152 [.one (.lst (a_l.map (fun x=>[AC.int .i64 x])))] (.tup [.one (.int .i64 r.1), .one (.bool r.2)]):=by
 unfold lw at H
 refine po_ Tryz.func152 Tryz.ntmps152 ?_
 refine bF ?_
 refine alM_ (fun s:Int × Int=>match s with|(k_1,i_2)=>[(0, .one (.c (.lst (a_l.map (fun x=>[AC.int .i64 x]))))),(4, .one (.c (.int .i64 k_1))),(5, .one (.c (.int .i64 i_2)))]) (fun s=>match s with|(k_1,i_2)=>[]) H (fun _=>ahe _)
  (fm_ dh [] rfl bH trivial) ?_
 rintro ⟨k_1,i_2⟩ st1 hb1 hk1
 unfold Ig at hb1
 dsimp only at hb1 ⊢
 rcases af hb1 with ⟨q_3,hb1⟩|⟨q_3,hb1⟩
 ·obtain ⟨x_4,i1z,i1,i1x,hb1⟩:=aY (f:=(fun x=>[AC.int .i64 x])) hb1
  rcases af hb1 with ⟨q_5,hb1⟩|⟨q_5,hb1⟩
  ·cases hb1
   refine bF ?_
   exact ⟨_,rfl,fm_ dh [] rfl bH trivial⟩
  rcases af hb1 with ⟨q_6,hb1⟩|⟨q_6,hb1⟩
  ·rcases af hb1 with ⟨q_7,hb1⟩|⟨q_7,hb1⟩
   ·cases hb1
    have hx1:qE (.inr ((0:Int),false))=some _:=hk1
    unfold qE at hx1
    dsimp only at hx1
    cases hx1
    exact aD
   cases hb1
   refine bF ?_
   exact ⟨_,rfl,fm_ dh [] rfl bH trivial⟩
  cases hb1
  refine bF ?_
  exact ⟨_,rfl,fm_ dh [] rfl bH trivial⟩
 cases hb1
 have hx1:qE (.inl (k_1,i_2))=some _:=hk1
 unfold qE at hx1
 dsimp only at hx1
 cases hx1
 exact aD
def gRs11 (a_e:Ex) (a_l:(List Int)) (a_kinds:(List Int)):Option (Int × Bool):=bif (decide (a_e.op=(1:Int))) then some (a_e.v.kind,true) else
 bif (decide (a_e.op=(2:Int))) then (aH a_kinds a_e.int).bind fun x_3=>some (x_3,true) else
 bif (decide (a_e.op=(4:Int))) then (jH a_l (3:Int)).bind fun r_5=>some ((3:Int),r_5) else
 bif (decide (a_e.op=(5:Int))) then (jH a_l (3:Int)).bind fun r_7=>some ((3:Int),r_7) else
 bif (decide (a_e.op=(6:Int))) then (jH a_l (3:Int)).bind fun r_9=>some ((3:Int),r_9) else
 bif (decide (a_e.op=(7:Int))) then (lw a_l).bind fun r_11=>some ((3:Int),r_11.2) else
 bif (decide (a_e.op=(8:Int))) then (lw a_l).bind fun r_13=>some ((3:Int),r_13.2) else
 bif (decide (a_e.op=(9:Int))) then (lw a_l).bind fun r_15=>some ((3:Int),r_15.2) else
 bif (decide (a_e.op=(10:Int))) then (lw a_l).bind fun r_17=>some ((3:Int),r_17.2) else
 bif (decide (a_e.op=(11:Int))) then (lw a_l).bind fun r_19=>some ((3:Int),r_19.2) else
 bif (decide (a_e.op=(12:Int))) then (lw a_l).bind fun r_21=>some ((3:Int),r_21.2) else
 bif (decide (a_e.op=(13:Int))) then (jH a_l (1:Int)).bind fun r_23=>some ((1:Int),r_23) else
 bif (decide (a_e.op=(14:Int))) then (jH a_l (1:Int)).bind fun r_25=>some ((1:Int),r_25) else
 bif (decide (a_e.op=(15:Int))) then (jH a_l (1:Int)).bind fun r_27=>some ((1:Int),r_27) else
 bif (decide (a_e.op=(16:Int))) then (jH a_l (1:Int)).bind fun r_29=>some ((1:Int),r_29) else
 bif (decide (a_e.op=(17:Int))) then (jH a_l (1:Int)).bind fun r_31=>some ((1:Int),r_31) else
 bif (decide (a_e.op=(18:Int))) then (jH a_l (1:Int)).bind fun r_33=>some ((1:Int),r_33) else
 bif (decide (a_e.op=(19:Int))) then (jH a_l (2:Int)).bind fun r_35=>some ((2:Int),r_35) else
 bif (decide (a_e.op=(20:Int))) then (jH a_l (2:Int)).bind fun r_37=>some ((1:Int),r_37) else
 bif (decide (a_e.op=(21:Int))) then some ((3:Int),true) else
 bif (decide (a_e.op=(22:Int))) then (lT a_l (1:Int) ((a_l.length:Nat):Int)).bind fun s_40=>(lw s_40).bind fun r_41=>bif r_41.2 then (lT a_l (0:Int) (1:Int)).bind fun s_43=>(jH s_43 (3:Int)).bind fun r_44=>some (r_41.1,r_44) else
 some (r_41.1,false) else
 bif (decide (a_e.op=(23:Int))) then (lw a_l).bind fun r_46=>some (r_46.1,r_46.2) else
 (jH a_l (1:Int)).bind fun r_47=>some ((3:Int),r_47)
theorem C9 {a_e:Ex} {a_l:(List Int)} {a_kinds:(List Int)} {r:Int × Bool} (H:gRs11 a_e a_l a_kinds=some r):Pure Tryz.prog 111 [.agg (tE a_e), .one (.lst (a_l.map (fun x=>[AC.int .i64 x]))), .one (.lst (a_kinds.map (fun x=>[AC.int .i64 x])))] (.tup [.one (.int .i64 r.1), .one (.bool r.2)]):=by
 unfold gRs11 at H
 rw [aC a_e]
 refine po_ Tryz.func111 Tryz.ntmps111 ?_
 rcases af H with ⟨q_1,H⟩|⟨q_1,H⟩
 ·cases H
  exact aD
 rcases af H with ⟨q_2,H⟩|⟨q_2,H⟩
 ·obtain ⟨x_3,i1z,i1,i1x,H⟩:=aY (f:=(fun x=>[AC.int .i64 x])) H
  cases H
  exact aD
 refine bF ?_
 rcases af H with ⟨q_4,H⟩|⟨q_4,H⟩
 ·obtain ⟨r_5,c2,H⟩:=bd_ H
  replace c2:=fq c2
  cases H
  exact aD
 rcases af H with ⟨q_6,H⟩|⟨q_6,H⟩
 ·obtain ⟨r_7,c3,H⟩:=bd_ H
  replace c3:=fq c3
  cases H
  exact aD
 rcases af H with ⟨q_8,H⟩|⟨q_8,H⟩
 ·obtain ⟨r_9,c4,H⟩:=bd_ H
  replace c4:=fq c4
  cases H
  exact aD
 refine bF ?_
 rcases af H with ⟨q_10,H⟩|⟨q_10,H⟩
 ·obtain ⟨r_11,c5,H⟩:=bd_ H
  replace c5:=jF c5
  cases H
  exact aD
 rcases af H with ⟨q_12,H⟩|⟨q_12,H⟩
 ·obtain ⟨r_13,c6,H⟩:=bd_ H
  replace c6:=jF c6
  cases H
  exact aD
 rcases af H with ⟨q_14,H⟩|⟨q_14,H⟩
 ·obtain ⟨r_15,c7,H⟩:=bd_ H
  replace c7:=jF c7
  cases H
  exact aD
 refine bF ?_
 rcases af H with ⟨q_16,H⟩|⟨q_16,H⟩
 ·obtain ⟨r_17,c8,H⟩:=bd_ H
  replace c8:=jF c8
  cases H
  exact aD
 rcases af H with ⟨q_18,H⟩|⟨q_18,H⟩
 ·obtain ⟨r_19,c9,H⟩:=bd_ H
  replace c9:=jF c9
  cases H
  exact aD
 rcases af H with ⟨q_20,H⟩|⟨q_20,H⟩
 ·obtain ⟨r_21,c10,H⟩:=bd_ H
  replace c10:=jF c10
  cases H
  exact aD
 refine bF ?_
 rcases af H with ⟨q_22,H⟩|⟨q_22,H⟩
 ·obtain ⟨r_23,c11,H⟩:=bd_ H
  replace c11:=fq c11
  cases H
  exact aD
 rcases af H with ⟨q_24,H⟩|⟨q_24,H⟩
 ·obtain ⟨r_25,c12,H⟩:=bd_ H
  replace c12:=fq c12
  cases H
  exact aD
 rcases af H with ⟨q_26,H⟩|⟨q_26,H⟩
 ·obtain ⟨r_27,c13,H⟩:=bd_ H
  replace c13:=fq c13
  cases H
  exact aD
 refine bF ?_
 rcases af H with ⟨q_28,H⟩|⟨q_28,H⟩
 ·obtain ⟨r_29,c14,H⟩:=bd_ H
  replace c14:=fq c14
  cases H
  exact aD
 rcases af H with ⟨q_30,H⟩|⟨q_30,H⟩
 ·obtain ⟨r_31,c15,H⟩:=bd_ H
  replace c15:=fq c15
  cases H
  exact aD
 rcases af H with ⟨q_32,H⟩|⟨q_32,H⟩
 ·obtain ⟨r_33,c16,H⟩:=bd_ H
  replace c16:=fq c16
  cases H
  exact aD
 refine bF ?_
 rcases af H with ⟨q_34,H⟩|⟨q_34,H⟩
 ·obtain ⟨r_35,c17,H⟩:=bd_ H
  replace c17:=fq c17
  cases H
  exact aD
 rcases af H with ⟨q_36,H⟩|⟨q_36,H⟩
 ·obtain ⟨r_37,c18,H⟩:=bd_ H
  replace c18:=fq c18
  cases H
  exact aD
 rcases af H with ⟨q_38,H⟩|⟨q_38,H⟩
 ·cases H
  exact aD
 refine bF ?_
 rcases af H with ⟨q_39,H⟩|⟨q_39,H⟩
 ·obtain ⟨s_40,u19,H⟩:=bd_ H
  obtain ⟨⟨u19a,u19b,u19c⟩,u19⟩:=ji u19
  have u19x:=L8 (f:=(fun x=>[AC.int .i64 x])) u19
  obtain ⟨r_41,c20,H⟩:=bd_ H
  replace c20:=jF c20
  rcases af H with ⟨q_42,H⟩|⟨q_42,H⟩
  ·obtain ⟨s_43,u21,H⟩:=bd_ H
   obtain ⟨⟨u21a,u21b,u21c⟩,u21⟩:=ji u21
   have u21x:=L8 (f:=(fun x=>[AC.int .i64 x])) u21
   obtain ⟨r_44,c22,H⟩:=bd_ H
   replace c22:=fq c22
   cases H
   repeat' (first|refine gs_ ?_|rw [u19x]|rw [u21x]|rw [show ((0:Nat):Int)=0 from rfl])
   refine bO (bZ rfl ?_ ?_)
   ·repeat' (first|exact trivial|rfl|exact ag5 rfl|omega|apply And.intro)
   ·first|rfl|(simp only [ag8,ag6,ag_,ag0]<;>rfl)
  cases H
  repeat' (first|refine gs_ ?_|rw [u19x]|rw [show ((0:Nat):Int)=0 from rfl])
  refine bO (bZ rfl ?_ ?_)
  ·repeat' (first|exact trivial|rfl|exact ag5 rfl|omega|apply And.intro)
  ·first|rfl|(simp only [ag8,ag6,ag_,ag0]<;>rfl)
 rcases af H with ⟨q_45,H⟩|⟨q_45,H⟩
 ·obtain ⟨r_46,c23,H⟩:=bd_ H
  replace c23:=jF c23
  cases H
  exact aD
 obtain ⟨r_47,c24,H⟩:=bd_ H
 replace c24:=fq c24
 cases H
 exact aD
def gG (a_e:Ex) (rec:Ex->Option Int):(Int × Int)->Option (Step (Int × Int) (Int)):=fun s=>match s with
 | (n_1,i_2)=>bif (decide (i_2<((a_e.args.length:Nat):Int))) then (aH a_e.args i_2).bind fun x_4=>(rec x_4).bind fun r_5=>some (.next ((CY n_1 r_5),(IntKind.i64.wrap (i_2+(1:Int))))) else
 some (.exit (n_1,i_2))
def vT:Sum (Int × Int) (Int)->Option ((Int))
 | .inl (n_1,i_2)=>some (IntKind.i64.wrap (n_1+(1:Int)))
 | .inr q=>some q
def uI (rec:Ex->Option Int) (a_e:Ex):Option (Int):=(ax (gG a_e rec) fuel ((0:Int),(0:Int))).bind (vT)
theorem Pp {rec:Ex->Option Int}  (hrec : ∀ {x:Ex} {r:Int}, rec x=some r->Pure Tryz.prog 65 [.agg (tE x)] (.val (.one (.int .i64 r)))) {a_e:Ex} {r:Int} (H:uI rec a_e=some r):Pure Tryz.prog 65 [.agg (tE a_e)] (.val (.one (.int .i64 r))):=by
 unfold uI at H
 rw [aC a_e]
 refine po_ Tryz.func65 Tryz.ntmps65 ?_
 refine bF ?_
 refine alM_ (fun s:Int × Int=>match s with|(n_1,i_2)=>[(1, .one (.ptr 0 0)),(3, .one (.c (.int .i64 n_1))),(4, .one (.c (.int .i64 i_2)))]) (fun s=>match s with|(n_1,i_2)=>[.box [.c (.int .i64 a_e.op), .c (.int .i64 a_e.int), .c (.int .i64 a_e.v.kind), .c (.int .i64 a_e.v.int), .c (.str a_e.v.text), .c (.str a_e.nm), .c (.lst (a_e.args.map tE))]]) H (fun _=>ahe _)
  (fm_ dh [] rfl bH dw) ?_
 rintro ⟨n_1,i_2⟩ st1 hb1 hk1
 unfold gG at hb1
 dsimp only at hb1 ⊢
 rcases af hb1 with ⟨q_3,hb1⟩|⟨q_3,hb1⟩
 ·obtain ⟨x_4,i1z,i1,i1x,hb1⟩:=aY (f:=tE) hb1
  simp only [ag8,ag6,ag_,ag0,aC] at i1x
  obtain ⟨r_5,c2,hb1⟩:=bd_ hb1
  replace c2:=hrec c2
  try simp only [ag8,ag6,ag_,ag0,aC] at c2
  cases hb1
  refine bF ?_
  exact ⟨_,rfl,fm_ dh [] rfl bH dw⟩
 cases hb1
 have hx1:vT (.inl (n_1,i_2))=some _:=hk1
 unfold vT at hx1
 dsimp only at hx1
 cases hx1
 exact aD
def rz:Nat->Ex->Option Int
 | 0,_=>none
 | n+1,x=>uI (rz n) x
theorem F_ : ∀ (n:Nat) {x:Ex} {r:Int}, rz n x=some r->Pure Tryz.prog 65 [.agg (tE x)] (.val (.one (.int .i64 r)))
 | 0,_,_,h=>nomatch h
 | n+1,_,_,h=>Pp (F_ n) h
def pW (a_e:Ex) (a_kinds:(List Int)) (rec:Ex->List Int->Option (Int × Int)):((List Int) × Int)->Option (Step ((List Int) × Int) (Int × Int)):=fun s=>match s with
 | (l_8,i_9)=>bif (decide (i_9<((a_e.args.length:Nat):Int))) then (aH a_e.args i_9).bind fun x_11=>(rec x_11 a_kinds).bind fun r_12=>bif (decide (r_12.2≠(0:Int))) then some (.ret ((0:Int),r_12.2)) else
 bif (decide (l_8.length+1<=17592186044416)) then (some (.next ((l_8++[r_12.1]),(IntKind.i64.wrap (i_9+(1:Int)))))) else none else
 some (.exit (l_8,i_9))
def mJ (a_e:Ex) (a_kinds:(List Int)):Sum ((List Int) × Int) (Int × Int)->Option ((Int × Int))
 | .inl (l_8,i_9)=>(gRs11 a_e l_8 a_kinds).bind fun r_14=>bif (!r_14.2) then some ((0:Int),(7:Int)) else
 some (r_14.1,(0:Int))
 | .inr q=>some q
def dH (a_e:Ex) (a_kinds:(List Int)) (rec:Ex->List Int->Option (Int × Int)):((List Int) × Int)->Option (Step ((List Int) × Int) (Int × Int)):=fun s=>match s with
 | (l_16,i_17)=>bif (decide (i_17<((a_e.args.length:Nat):Int))) then (aH a_e.args i_17).bind fun x_19=>(rec x_19 a_kinds).bind fun r_20=>bif (decide (r_20.2≠(0:Int))) then some (.ret ((0:Int),r_20.2)) else
 bif (decide (l_16.length+1<=17592186044416)) then (some (.next ((l_16++[r_20.1]),(IntKind.i64.wrap (i_17+(1:Int)))))) else none else
 some (.exit (l_16,i_17))
def kz (a_e:Ex) (a_kinds:(List Int)):Sum ((List Int) × Int) (Int × Int)->Option ((Int × Int))
 | .inl (l_16,i_17)=>(gRs11 a_e l_16 a_kinds).bind fun r_22=>bif (!r_22.2) then some ((0:Int),(7:Int)) else
 some (r_22.1,(0:Int))
 | .inr q=>some q
def uu (rec:Ex->List Int->Option (Int × Int)) (a_e:Ex) (a_kinds:(List Int)):Option (Int × Int):=(yK a_e.op).bind fun r_1=>bif (decide (r_1.1<(0:Int))) then some ((0:Int),(7:Int)) else
 (mG a_e).bind fun r_3=>bif (!r_3) then some ((0:Int),(8:Int)) else
 bif (decide (a_e.op=(2:Int))) then bif (decide (a_e.int<(0:Int))) then some ((0:Int),(13:Int)) else
 bif (decide (((a_kinds.length:Nat):Int)<=a_e.int)) then some ((0:Int),(13:Int)) else
 (ax (pW a_e a_kinds rec) fuel ([],(0:Int))).bind (mJ a_e a_kinds) else
 (ax (dH a_e a_kinds rec) fuel ([],(0:Int))).bind (kz a_e a_kinds)
theorem PR {rec:Ex->List Int->Option (Int × Int)}  (hrec : ∀ {x:Ex} {y:List Int} {r:Int × Int}, rec x y=some r->Pure Tryz.prog 66 [.agg (tE x), .one (.lst (y.map (fun x=>[AC.int .i64 x])))] (.tup [.one (.int .i64 r.1), .one (.int .i64 r.2)])) {a_e:Ex} {a_kinds:(List Int)} {r:Int × Int} (H:uu rec a_e a_kinds=some r):Pure Tryz.prog 66 [.agg (tE a_e), .one (.lst (a_kinds.map (fun x=>[AC.int .i64 x])))] (.tup [.one (.int .i64 r.1), .one (.int .i64 r.2)]):=by
 unfold uu at H
 rw [aC a_e]
 refine po_ Tryz.func66 Tryz.ntmps66 ?_
 obtain ⟨r_1,c1,H⟩:=bd_ H
 replace c1:=Nz c1
 rcases af H with ⟨q_2,H⟩|⟨q_2,H⟩
 ·cases H
  exact aD
 obtain ⟨r_3,c2,H⟩:=bd_ H
 replace c2:=Gp c2
 try simp only [ag8,ag6,ag_,ag0,aC] at c2
 rcases af H with ⟨q_4,H⟩|⟨q_4,H⟩
 ·cases H
  exact aD
 rcases af H with ⟨q_5,H⟩|⟨q_5,H⟩
 ·rcases af H with ⟨q_6,H⟩|⟨q_6,H⟩
  ·cases H
   exact aD
  rcases af H with ⟨q_7,H⟩|⟨q_7,H⟩
  ·cases H
   exact aD
  refine bF ?_
  refine bX 8 1 rfl ?_
  refine alM_ (fun s:(List Int) × Int=>match s with|(l_8,i_9)=>[(1, .one (.c (.lst (a_kinds.map (fun x=>[AC.int .i64 x]))))),(2, .one (.ptr 0 0)),(8, .one (.own (l_8.map (fun x=>[AC.int .i64 x])) 1)),(9, .one (.c (.int .i64 i_9)))]) (fun s=>match s with|(l_8,i_9)=>[.box [.c (.int .i64 a_e.op), .c (.int .i64 a_e.int), .c (.int .i64 a_e.v.kind), .c (.int .i64 a_e.v.int), .c (.str a_e.v.text), .c (.str a_e.nm), .c (.lst (a_e.args.map tE))], .spare l_8.length 1]) H (fun _=>ahe _)
   (fm_ dh [] rfl bH dw) ?_
  rintro ⟨l_8,i_9⟩ st1 hb1 hk1
  unfold pW at hb1
  dsimp only at hb1 ⊢
  rcases af hb1 with ⟨q_10,hb1⟩|⟨q_10,hb1⟩
  ·obtain ⟨x_11,i3z,i3,i3x,hb1⟩:=aY (f:=tE) hb1
   simp only [ag8,ag6,ag_,ag0,aC] at i3x
   obtain ⟨r_12,c4,hb1⟩:=bd_ hb1
   replace c4:=hrec c4
   try simp only [ag8,ag6,ag_,ag0,aC] at c4
   rcases af hb1 with ⟨q_13,hb1⟩|⟨q_13,hb1⟩
   ·cases hb1
    have hx1:mJ a_e a_kinds (.inr ((0:Int),r_12.2))=some _:=hk1
    unfold mJ at hx1
    dsimp only at hx1
    cases hx1
    exact aD
   obtain ⟨g5,hb1⟩:=aG hb1
   cases hb1
   refine bF ?_
   exact ⟨_,rfl,fm_ lC [] lD bH dw⟩
  cases hb1
  have hx1:mJ a_e a_kinds (.inl (l_8,i_9))=some _:=hk1
  unfold mJ at hx1
  dsimp only at hx1
  obtain ⟨r_14,c6,hx1⟩:=bd_ hx1
  replace c6:=C9 c6
  try simp only [ag8,ag6,ag_,ag0,aC] at c6
  rcases af hx1 with ⟨q_15,hx1⟩|⟨q_15,hx1⟩
  ·cases hx1
   exact aD
  cases hx1
  exact aD
 refine bF ?_
 refine bX 8 1 rfl ?_
 refine alM_ (fun s:(List Int) × Int=>match s with|(l_16,i_17)=>[(1, .one (.c (.lst (a_kinds.map (fun x=>[AC.int .i64 x]))))),(2, .one (.ptr 0 0)),(8, .one (.own (l_16.map (fun x=>[AC.int .i64 x])) 1)),(9, .one (.c (.int .i64 i_17)))]) (fun s=>match s with|(l_16,i_17)=>[.box [.c (.int .i64 a_e.op), .c (.int .i64 a_e.int), .c (.int .i64 a_e.v.kind), .c (.int .i64 a_e.v.int), .c (.str a_e.v.text), .c (.str a_e.nm), .c (.lst (a_e.args.map tE))], .spare l_16.length 1]) H (fun _=>ahe _)
  (fm_ dh [] rfl bH dw) ?_
 rintro ⟨l_16,i_17⟩ st2 hb2 hk2
 unfold dH at hb2
 dsimp only at hb2 ⊢
 rcases af hb2 with ⟨q_18,hb2⟩|⟨q_18,hb2⟩
 ·obtain ⟨x_19,i7z,i7,i7x,hb2⟩:=aY (f:=tE) hb2
  simp only [ag8,ag6,ag_,ag0,aC] at i7x
  obtain ⟨r_20,c8,hb2⟩:=bd_ hb2
  replace c8:=hrec c8
  try simp only [ag8,ag6,ag_,ag0,aC] at c8
  rcases af hb2 with ⟨q_21,hb2⟩|⟨q_21,hb2⟩
  ·cases hb2
   have hx2:kz a_e a_kinds (.inr ((0:Int),r_20.2))=some _:=hk2
   unfold kz at hx2
   dsimp only at hx2
   cases hx2
   exact aD
  obtain ⟨g9,hb2⟩:=aG hb2
  cases hb2
  refine bF ?_
  exact ⟨_,rfl,fm_ lC [] lD bH dw⟩
 cases hb2
 have hx2:kz a_e a_kinds (.inl (l_16,i_17))=some _:=hk2
 unfold kz at hx2
 dsimp only at hx2
 obtain ⟨r_22,c10,hx2⟩:=bd_ hx2
 replace c10:=C9 c10
 try simp only [ag8,ag6,ag_,ag0,aC] at c10
 rcases af hx2 with ⟨q_23,hx2⟩|⟨q_23,hx2⟩
 ·cases hx2
  exact aD
 cases hx2
 exact aD
def mM:Nat->Ex->List Int->Option (Int × Int)
 | 0,_,_=>none
 | n+1,x,y=>uu (mM n) x y
theorem Gn : ∀ (n:Nat) {x:Ex} {y:List Int} {r:Int × Int}, mM n x y=some r->Pure Tryz.prog 66 [.agg (tE x), .one (.lst (y.map (fun x=>[AC.int .i64 x])))] (.tup [.one (.int .i64 r.1), .one (.int .i64 r.2)])
 | 0,_,_,_,h=>nomatch h
 | n+1,_,_,_,h=>PR (Gn n) h
def vW (a_e:Ex) (a_kinds:(List Int)):Option (Int × Int):=(rz fuel a_e).bind fun r_1=>bif (decide ((24:Int)<r_1)) then some ((0:Int),(26:Int)) else
 (mM fuel a_e a_kinds).bind fun r_3=>some (r_3.1,r_3.2)
theorem Na {a_e:Ex} {a_kinds:(List Int)} {r:Int × Int} (H:vW a_e a_kinds=some r):Pure Tryz.prog 33 [.agg (tE a_e), .one (.lst (a_kinds.map (fun x=>[AC.int .i64 x])))] (.tup [.one (.int .i64 r.1), .one (.int .i64 r.2)]):=by
 unfold vW at H
 rw [aC a_e]
 refine po_ Tryz.func33 Tryz.ntmps33 ?_
 obtain ⟨r_1,c1,H⟩:=bd_ H
 replace c1:=F_ fuel c1
 try simp only [ag8,ag6,ag_,ag0,aC] at c1
 rcases af H with ⟨q_2,H⟩|⟨q_2,H⟩
 ·cases H
  exact aD
 obtain ⟨r_3,c2,H⟩:=bd_ H
 replace c2:=Gn fuel c2
 try simp only [ag8,ag6,ag_,ag0,aC] at c2
 cases H
 exact aD
def Af (a_e:Ex) (a_kinds:(List Int)):Option (Int):=(vW a_e a_kinds).bind fun r_1=>bif (decide (r_1.2≠(0:Int))) then some r_1.2 else
 bif (decide (r_1.1≠(3:Int))) then bif (decide (r_1.1≠(0:Int))) then some (7:Int) else
 some (0:Int) else
 some (0:Int)
theorem Ut {a_e:Ex} {a_kinds:(List Int)} {r:Int} (H:Af a_e a_kinds=some r):Pure Tryz.prog 31 [.agg (tE a_e), .one (.lst (a_kinds.map (fun x=>[AC.int .i64 x])))] (.val (.one (.int .i64 r))):=by
 unfold Af at H
 rw [aC a_e]
 refine po_ Tryz.func31 Tryz.ntmps31 ?_
 obtain ⟨r_1,c1,H⟩:=bd_ H
 replace c1:=Na c1
 try simp only [ag8,ag6,ag_,ag0,aC] at c1
 rcases af H with ⟨q_2,H⟩|⟨q_2,H⟩
 ·cases H
  exact aD
 rcases af H with ⟨q_3,H⟩|⟨q_3,H⟩
 ·rcases af H with ⟨q_4,H⟩|⟨q_4,H⟩
  ·cases H
   exact aD
  cases H
  exact aD
 cases H
 exact aD
def gK (a_e:Ex) (a_most:Int) (rec:Ex->Int->Option Int):(Int × Int)->Option (Step (Int × Int) (Int)):=fun s=>match s with
 | (n_1,i_2)=>bif (decide (i_2<((a_e.args.length:Nat):Int))) then bif (decide (n_1<a_most)) then (aH a_e.args i_2).bind fun x_5=>(rec x_5 (IntKind.i64.wrap (a_most-n_1))).bind fun r_6=>some (.next ((IntKind.i64.wrap (n_1+r_6)),(IntKind.i64.wrap (i_2+(1:Int))))) else
 some (.exit (n_1,i_2)) else
 some (.exit (n_1,i_2))
def oN:Sum (Int × Int) (Int)->Option ((Int))
 | .inl (n_1,i_2)=>some n_1
 | .inr q=>some q
def y9 (rec:Ex->Int->Option Int) (a_e:Ex) (a_most:Int):Option (Int):=(ax (gK a_e a_most rec) fuel ((1:Int),(0:Int))).bind (oN)
theorem RU {rec:Ex->Int->Option Int}  (hrec : ∀ {x:Ex} {y:Int} {r:Int}, rec x y=some r->Pure Tryz.prog 63 [.agg (tE x), .one (.int .i64 y)] (.val (.one (.int .i64 r)))) {a_e:Ex} {a_most:Int} {r:Int} (H:y9 rec a_e a_most=some r):Pure Tryz.prog 63 [.agg (tE a_e), .one (.int .i64 a_most)] (.val (.one (.int .i64 r))):=by
 unfold y9 at H
 rw [aC a_e]
 refine po_ Tryz.func63 Tryz.ntmps63 ?_
 refine bF ?_
 refine alM_ (fun s:Int × Int=>match s with|(n_1,i_2)=>[(1, .one (.c (.int .i64 a_most))),(2, .one (.ptr 0 0)),(5, .one (.c (.int .i64 n_1))),(6, .one (.c (.int .i64 i_2)))]) (fun s=>match s with|(n_1,i_2)=>[.box [.c (.int .i64 a_e.op), .c (.int .i64 a_e.int), .c (.int .i64 a_e.v.kind), .c (.int .i64 a_e.v.int), .c (.str a_e.v.text), .c (.str a_e.nm), .c (.lst (a_e.args.map tE))]]) H (fun _=>ahe _)
  (fm_ dh [] rfl bH dw) ?_
 rintro ⟨n_1,i_2⟩ st1 hb1 hk1
 unfold gK at hb1
 dsimp only at hb1 ⊢
 rcases af hb1 with ⟨q_3,hb1⟩|⟨q_3,hb1⟩
 ·rcases af hb1 with ⟨q_4,hb1⟩|⟨q_4,hb1⟩
  ·obtain ⟨x_5,i1z,i1,i1x,hb1⟩:=aY (f:=tE) hb1
   simp only [ag8,ag6,ag_,ag0,aC] at i1x
   obtain ⟨r_6,c2,hb1⟩:=bd_ hb1
   replace c2:=hrec c2
   try simp only [ag8,ag6,ag_,ag0,aC] at c2
   cases hb1
   refine bF ?_
   exact ⟨_,rfl,fm_ dh [] rfl bH dw⟩
  cases hb1
  have hx1:oN (.inl (n_1,i_2))=some _:=hk1
  unfold oN at hx1
  dsimp only at hx1
  cases hx1
  exact aD
 cases hb1
 have hx1:oN (.inl (n_1,i_2))=some _:=hk1
 unfold oN at hx1
 dsimp only at hx1
 cases hx1
 exact aD
def sP:Nat->Ex->Int->Option Int
 | 0,_,_=>none
 | n+1,x,y=>y9 (sP n) x y
theorem Ie : ∀ (n:Nat) {x:Ex} {y:Int} {r:Int}, sP n x y=some r->Pure Tryz.prog 63 [.agg (tE x), .one (.int .i64 y)] (.val (.one (.int .i64 r)))
 | 0,_,_,_,h=>nomatch h
 | n+1,_,_,_,h=>RU (Ie n) h
def yG (a_l:(List Ex)) (a_most:Int):Option (Bool):=(sP fuel (Ex.mk (0:Int) (0:Int) (⟨(0:Int),(0:Int),ByteArray.empty⟩:Val) ByteArray.empty a_l) (IntKind.i64.wrap (a_most+(2:Int)))).bind fun r_1=>some (decide (r_1<=(IntKind.i64.wrap (a_most+(1:Int)))))
theorem NK {a_l:(List Ex)} {a_most:Int} {r:Bool} (H:yG a_l a_most=some r):Pure Tryz.prog 30 [.one (.lst (a_l.map tE)), .one (.int .i64 a_most)] (.val (.one (.bool r))):=by
 unfold yG at H
 refine po_ Tryz.func30 Tryz.ntmps30 ?_
 obtain ⟨r_1,c1,H⟩:=bd_ H
 replace c1:=Ie fuel c1
 try simp only [ag8,ag6,ag_,ag0,aC] at c1
 cases H
 exact aD
theorem F9 (e:Ex) (m:Int) (hm:1<=m/\m<=1000) (rec:Ex->Int->Option Int)
  (hrec : ∀ x∈e.args, ∀ k:Int,1<=k->k<m -> ∃ r,rec x k=some r/\1<=r/\r<=k/\(r<k->fH r.toNat x)) :
  ∀ (N i:Nat) (c:Int),1<=c->c<=m->i<=e.args.length->(m-c).toNat<N->(i:Int)<=c ->
   ∃ r j,ax (gK e m rec) N (c,(i:Int))=some (.inl (r,j))/\c<=r/\r<=m/\(r<m->((e.args.length-i:Nat):Int)<=r-c /\ ∀ x∈e.args.drop i,fH (r-c).toNat x)
 | 0,i,c,_,_,_,h,_=>by omega
 | N+1,i,c,h1,h2,hi,hN,hic=>by
  rw [ax]
  by_cases hlt:i<e.args.length
  ·obtain ⟨x,hx⟩:=gol_ hlt
   have hmem:=ag1 hx
   by_cases hc:c<m
   ·obtain ⟨w,hw,w1,w2,w3⟩:=hrec x hmem (m-c) (by omega) (by omega)
    have hb:gK e m rec (c,(i:Int))=some (.next (c+w,((i+1:Nat):Int))):=by
     unfold gK
     dsimp only
     rw [aV hx,agX,agZ hc,agX,gn_ hx,agU,fK (by omega),hw,agU,fK (by omega),wrapN (by omega)]
    rw [hb]
    obtain ⟨r,j,e1,e2,e3,e4⟩:=F9 e m hm rec hrec N (i+1) (c+w) (by omega) (by omega) (by omega) (by omega) (by omega)
    refine ⟨r,j,e1,by omega,e3,fun hr=>?_⟩
    obtain ⟨f1,f2⟩:=e4 hr
    refine ⟨by omega,fun y hy=>?_⟩
    rw [ahp hlt,(agV.1 hx).2] at hy
    rcases aha.1 hy with rfl|hy
    ·exact uZ (by omega) (w3 (by omega))
    ·exact uZ (by omega) (f2 y hy)
   ·have hb:gK e m rec (c,(i:Int))=some (.exit (c,(i:Int))):=by
     unfold gK
     dsimp only
     rw [aV hx,agX,agY hc,agW]
    rw [hb]
    exact ⟨c,_,rfl,Int.le_refl _,h2,fun hr=>absurd hr hc⟩
  ·have:i=e.args.length:=by omega
   subst this
   have hb:gK e m rec (c,((e.args.length:Nat):Int))=some (.exit (c,((e.args.length:Nat):Int))):=by
    unfold gK
    dsimp only
    rw [lF_,agW]
   rw [hb]
   refine ⟨c,_,rfl,Int.le_refl _,h2,fun hr=>⟨by omega,fun y hy=>?_⟩⟩
   rw [ahO] at hy
   cases hy
theorem M6 : ∀ (n:Nat) (e:Ex) (m:Int),1<=m->m<=1000->m<=(n:Int) -> ∃ r,sP n e m=some r/\1<=r/\r<=m/\(r<m->fH r.toNat e/\((e.args.length:Nat):Int)<r /\ ∀ x∈e.args,fH (r-1).toNat x)
 | 0,e,m,h1,_,h3=>by omega
 | n+1,e,m,h1,h2,h3=>by
  have hrec : ∀ x∈e.args, ∀ k:Int,1<=k->k<m -> ∃ r,sP n x k=some r/\1<=r/\r<=k/\(r<k->fH r.toNat x):=by
   intro x _ k k1 k2
   obtain ⟨r,e1,e2,e3,e4⟩:=M6 n x k k1 (by omega) (by omega)
   exact ⟨r,e1,e2,e3,fun h=>(e4 h).1⟩
  obtain ⟨r,j,e1,e2,e3,e4⟩:=F9 e m ⟨h1,h2⟩ (sP n) hrec fuel 0 1 (Int.le_refl _) h1 (ahe _) (by unfold fuel;omega) (by omega)
  refine ⟨r,?_,e2,e3,fun hr=>?_⟩
  ·show y9 (sP n) e m=_
   unfold y9
   rw [show ((0:Nat):Int)=0 from rfl] at e1
   rw [e1];rfl
  ·obtain ⟨f1,f2⟩:=e4 hr
   rw [List.drop_zero] at f2
   refine ⟨?_,by omega,f2⟩
   obtain ⟨k,hk⟩ : ∃ k,r.toNat=k+1:=⟨r.toNat-1,by omega⟩
   rw [hk]
   refine ⟨by omega,fun x hx=>?_⟩
   have:=f2 x hx
   rwa [show (r-1).toNat=k by omega] at this
theorem MN (l:List Ex) : ∃ b,yG l 200=some b/\(b=true->l.length<=200 /\ ∀ e∈l,fH 200 e):=by
 obtain ⟨r,e1,e2,e3,e4⟩:=M6 fuel (Ex.mk 0 0 ⟨0,0,ByteArray.empty⟩ ByteArray.empty l) 202 (by omega) (by omega) (by unfold fuel;omega)
 refine ⟨decide (r<=201),?_,fun h=>?_⟩
 ·unfold yG
  rw [fK (by omega),fK (by omega)]
  show (sP fuel (Ex.mk 0 0 ⟨0,0,ByteArray.empty⟩ ByteArray.empty l) 202).bind _=_
  rw [e1];rfl
 ·have:=ahm h
  obtain ⟨_,f1,f2⟩:=e4 (by omega)
  exact ⟨by have:((l.length:Nat):Int)<r:=f1;omega,fun e he=>uZ (by omega) (f2 e he)⟩
theorem MP {e:Ex} (h:fH 200 e):fH fuel e:=uZ (by unfold fuel;omega) h
set_option maxHeartbeats 8000000
def FH (a_l:(List Int)):(Int × Int)->Option (Step (Int × Int) (Int × Bool)):=fun s=>match s with
 | (kind_1,v_2)=>bif (decide (v_2<((a_l.length:Nat):Int))) then (aH a_l v_2).bind fun x_4=>bif (decide (x_4=(0:Int))) then some (.next (kind_1,(IntKind.i64.wrap (v_2+(1:Int))))) else
 bif (decide (kind_1≠(0:Int))) then bif (decide (kind_1≠x_4)) then some (.ret ((0:Int),false)) else
 some (.next (x_4,(IntKind.i64.wrap (v_2+(1:Int))))) else
 some (.next (x_4,(IntKind.i64.wrap (v_2+(1:Int))))) else
 some (.exit (kind_1,v_2))
def XZ:Sum (Int × Int) (Int × Bool)->Option ((Int × Bool))
 | .inl (kind_1,v_2)=>some (kind_1,true)
 | .inr q=>some q
def pE (a_l:(List Int)):Option (Int × Bool):=(ax (FH a_l) fuel ((0:Int),(0:Int))).bind (XZ)
def R6 (l:List Int):Bool := !l.isEmpty&&decide (l.length<=100000)
def Be (l:List Int) (k:Int):Option Bool:=bif R6 l then (pE (l++[k])).bind fun r=>some (bif r.2 then decide (r.1=k) else false) else none
def gRsP (a_e:Ex) (a_l:(List Int)):Option (Int × Bool):=bif (decide (a_e.op=(1:Int))) then some (a_e.v.kind,true) else
 bif (decide (a_e.op=(4:Int))) then (Be a_l (3:Int)).bind fun r_3=>some ((3:Int),r_3) else
 bif (decide (a_e.op=(5:Int))) then (Be a_l (3:Int)).bind fun r_5=>some ((3:Int),r_5) else
 bif (decide (a_e.op=(6:Int))) then (Be a_l (3:Int)).bind fun r_7=>some ((3:Int),r_7) else
 bif (decide (a_e.op=(7:Int))) then (pE a_l).bind fun r_9=>some ((3:Int),r_9.2) else
 bif (decide (a_e.op=(8:Int))) then (pE a_l).bind fun r_11=>some ((3:Int),r_11.2) else
 bif (decide (a_e.op=(9:Int))) then (pE a_l).bind fun r_13=>some ((3:Int),r_13.2) else
 bif (decide (a_e.op=(10:Int))) then (pE a_l).bind fun r_15=>some ((3:Int),r_15.2) else
 bif (decide (a_e.op=(11:Int))) then (pE a_l).bind fun r_17=>some ((3:Int),r_17.2) else
 bif (decide (a_e.op=(12:Int))) then (pE a_l).bind fun r_19=>some ((3:Int),r_19.2) else
 bif (decide (a_e.op=(19:Int))) then (Be a_l (2:Int)).bind fun r_21=>some ((2:Int),r_21) else
 bif (decide (a_e.op=(20:Int))) then (Be a_l (2:Int)).bind fun r_23=>some ((1:Int),r_23) else
 bif (decide (a_e.op=(21:Int))) then some ((3:Int),true) else
 bif (decide (a_e.op=(22:Int))) then (lT a_l (1:Int) ((a_l.length:Nat):Int)).bind fun s_26=>(pE s_26).bind fun r_27=>bif r_27.2 then (lT a_l (0:Int) (1:Int)).bind fun s_29=>(Be s_29 (3:Int)).bind fun r_30=>some (r_27.1,r_30) else
 some (r_27.1,false) else
 bif (decide (a_e.op=(23:Int))) then (pE a_l).bind fun r_32=>some (r_32.1,r_32.2) else
 bif (decide (a_e.op=(24:Int))) then (Be a_l (1:Int)).bind fun r_34=>some ((3:Int),r_34) else
 (Be a_l (1:Int)).bind fun r_35=>some ((1:Int),r_35)
def jS (a_e:Ex) (a_most:Int) (rec:Ex->Int->Option Int):(Int × Int)->Option (Step (Int × Int) (Int)):=fun s=>match s with
 | (n_2,v_3)=>bif (decide (v_3<((a_e.args.length:Nat):Int))) then (aH a_e.args v_3).bind fun x_5=>(rec x_5 (IntKind.i64.wrap (a_most-(1:Int)))).bind fun r_6=>some (.next ((CY n_2 (IntKind.i64.wrap ((1:Int)+r_6))),(IntKind.i64.wrap (v_3+(1:Int))))) else
 some (.exit (n_2,v_3))
def QM:Sum (Int × Int) (Int)->Option ((Int))
 | .inl (n_2,v_3)=>some n_2
 | .inr q=>some q
def H7 (rec:Ex->Int->Option Int) (a_e:Ex) (a_most:Int):Option (Int):=bif (decide (a_most<=(1:Int))) then some (1:Int) else
 (ax (jS a_e a_most rec) fuel ((1:Int),(0:Int))).bind (QM)
def zK:Nat->Ex->Int->Option Int
 | 0,_,_=>none
 | n+1,x,y=>H7 (zK n) x y
def ac9 (a_e:Ex):Option (Int):=(zK fuel a_e (25:Int)).bind fun r_1=>some r_1
def zg (a_e:Ex) (a_kinds:(List Int)) (rec:Ex->List Int->Option (Int × Int)):((List Int) × Int)->Option (Step ((List Int) × Int) (Int × Int)):=fun s=>match s with
 | (l_9,v_10)=>bif (decide (v_10<((a_e.args.length:Nat):Int))) then (aH a_e.args v_10).bind fun x_12=>(rec x_12 a_kinds).bind fun r_13=>bif (decide (r_13.2≠(0:Int))) then some (.ret ((0:Int),r_13.2)) else
 bif (decide (l_9.length+1<=17592186044416)) then (some (.next ((l_9++[r_13.1]),(IntKind.i64.wrap (v_10+(1:Int)))))) else none else
 some (.exit (l_9,v_10))
def Gb (a_e:Ex):Sum ((List Int) × Int) (Int × Int)->Option ((Int × Int))
 | .inl (l_9,v_10)=>(gRsP a_e l_9).bind fun r_15=>bif (!r_15.2) then some ((0:Int),(7:Int)) else
 some (r_15.1,(0:Int))
 | .inr q=>some q
def I9 (rec:Ex->List Int->Option (Int × Int)) (a_e:Ex) (a_kinds:(List Int)):Option (Int × Int):=(wP a_e.op ((a_e.args.length:Nat):Int)).bind fun r_1=>bif (!r_1.2) then some ((0:Int),(7:Int)) else
 (sH a_e).bind fun r_3=>bif (!r_3) then some ((0:Int),(8:Int)) else
 bif (decide (a_e.op=(2:Int))) then bif (decide (a_e.int<(0:Int))) then some ((0:Int),(13:Int)) else
 bif (decide (((a_kinds.length:Nat):Int)<=a_e.int)) then some ((0:Int),(13:Int)) else
 (aH a_kinds a_e.int).bind fun x_8=>some (x_8,(0:Int)) else
 (ax (zg a_e a_kinds rec) fuel ([],(0:Int))).bind (Gb a_e)
def zQ:Nat->Ex->List Int->Option (Int × Int)
 | 0,_,_=>none
 | n+1,x,y=>I9 (zQ n) x y
def VL (a_e:Ex) (a_kinds:(List Int)):Option (Int × Int):=(ac9 a_e).bind fun r_1=>bif (decide ((24:Int)<r_1)) then some ((0:Int),(26:Int)) else
 (zQ fuel a_e a_kinds).bind fun r_3=>some (r_3.1,r_3.2)
theorem H6 (e:Ex) (m:Int) (hm:2<=m/\m<=1000) (B:Int) (hB:B<=4611686018427387904) (rec:Ex->Option Int) (recP:Ex->Int->Option Int)
  (hrec : ∀ x∈e.args, ∃ d,rec x=some d/\1<=d/\d<=B/\recP x (m-1)=some (min d (m-1))) (hlen:e.args.length<=100000) :
  ∀ (N i:Nat) (a:Int),0<=a->a<=max 0 B->i<=e.args.length->e.args.length-i<N ->
   ∃ r,ax (gG e rec) N (a,(i:Int))=some (.inl (r,((e.args.length:Nat):Int)))/\ax (jS e m recP) N (min (a+1) m,(i:Int))=some (.inl (min (r+1) m,((e.args.length:Nat):Int)))/\0<=r/\r<=max 0 B
 | 0,i,a,_,_,_,h=>by omega
 | N+1,i,a,h1,h2,hi,hN=>by
  rw [ax,ax]
  by_cases hlt:i<e.args.length
  ·obtain ⟨x,hx⟩:=gol_ hlt
   obtain ⟨d,e1,e2,e3,e4⟩:=hrec x (ag1 hx)
   have hb:gG e rec (a,(i:Int))=some (.next (max a d,((i+1:Nat):Int))):=by
    unfold gG
    dsimp only
    rw [aV hx,agX,gn_ hx,agU,e1,agU,wrapN (by omega)]
    congr 3
    unfold CY;split<;>omega
   have hb2:jS e m recP (min (a+1) m,(i:Int))=some (.next (min (max a d+1) m,((i+1:Nat):Int))):=by
    unfold jS
    dsimp only
    rw [aV hx,agX,gn_ hx,agU,fK (by omega),e4,agU,fK (by omega),wrapN (by omega)]
    congr 3
    unfold CY;split<;>omega
   rw [hb,hb2]
   exact H6 e m hm B hB rec recP hrec hlen N (i+1) (max a d) (by omega) (by omega) (by omega) (by omega)
  ·have:i=e.args.length:=by omega
   subst this
   have hb:gG e rec (a,((e.args.length:Nat):Int))=some (.exit (a,((e.args.length:Nat):Int))):=by
    unfold gG
    dsimp only
    rw [lF_,agW]
   have hb2:jS e m recP (min (a+1) m,((e.args.length:Nat):Int))=some (.exit (min (a+1) m,((e.args.length:Nat):Int))):=by
    unfold jS
    dsimp only
    rw [lF_,agW]
   rw [hb,hb2]
   exact ⟨a,rfl,rfl,h1,h2⟩
theorem JH : ∀ (n:Nat) (e:Ex),n<=4611686018427387904->fH n e -> ∃ d,rz n e=some d/\1<=d/\d<=(n:Int) /\ ∀ m:Int,1<=m->m<=1000->zK n e m=some (min d m)
 | 0,_,_,h=>h.elim
 | n+1,e,hn,h=>by
  have hd : ∃ r,(∀ m:Int,2<=m->m<=1000->ax (jS e m (zK n)) fuel (1,0)=some (.inl (min (r+1) m,((e.args.length:Nat):Int))))/\ax (gG e (rz n)) fuel (0,0)=some (.inl (r,((e.args.length:Nat):Int)))/\0<=r/\r<=max 0 (n:Int):=by
   have key : ∀ m:Int,2<=m->m<=1000->_:=fun m h1 h2=>H6 e m ⟨h1,h2⟩ (n:Int) (by omega) (rz n) (zK n) (by
    intro x hx
    obtain ⟨d,e1,e2,e3,e4⟩:=JH n x (by omega) (h.2 x hx)
    exact ⟨d,e1,e2,e3,e4 (m-1) (by omega) (by omega)⟩) h.1 fuel 0 0 (Int.le_refl _) (by omega) (ahe _) (by unfold fuel;have:=h.1;omega)
   obtain ⟨r,e1,e2,e3,e4⟩:=key 2 (by omega) (by omega)
   refine ⟨r,fun m h1 h2=>?_,e1,e3,e4⟩
   obtain ⟨r',f1,f2,f3,f4⟩:=key m h1 h2
   have:r'=r:=by
    rw [e1] at f1
    have:=ahq f1
    injection this with this
    injection this with this _
    exact this.symm
   subst this
   rw [show min ((0:Int)+1) m=1 by omega] at f2
   exact f2
  obtain ⟨r,k1,k2,k3,k4⟩:=hd
  refine ⟨r+1,?_,by omega,by omega,fun m h1 h2=>?_⟩
  ·show uI (rz n) e=_
   unfold uI
   rw [k2]
   show some (IntKind.i64.wrap (r+1))=_
   rw [fK (by omega)]
  ·show H7 (zK n) e m=_
   unfold H7
   by_cases hm:m<=1
   ·rw [agZ hm,agX]
    congr 1;omega
   ·rw [agY hm,agW,k1 m (by omega) h2];rfl
def LA:Int->List Int->Option Int
 | t,[]=>some t
 | t,x::l=>if x=0 then LA t l else if t≠0/\t≠x then none else LA x l
def adn (o:Option Int):Int × Bool:=match o with|some k=>(k,true)|none=>(0,false)
theorem IG : ∀ (l:List Int) (t:Int),dF (ρ:=Int × Bool) (fun t x=>some (if x=0 then .inl t else if t≠0/\t≠x then .inr (0,false) else .inl x)) t l=some (match LA t l with|some k => .inl k|none => .inr (0,false))
 | [],t=>rfl
 | x::l,t=>by
  rw [dF,LA]
  by_cases h:x=0
  ·rw [if_pos h,if_pos h];exact IG l t
  ·rw [if_neg h,if_neg h]
   by_cases h2:t≠0/\t≠x
   ·rw [if_pos h2,if_pos h2]
   ·rw [if_neg h2,if_neg h2];exact IG l x
theorem jh (l:List Int) (hl:l.length<=1000000):pE l=some (adn (LA 0 l)):=by
 unfold pE
 rw [di (l:=l) (mk:=fun t i=>(t,i)) (f:=fun t x=>some (if x=0 then .inl t else if t≠0/\t≠x then .inr (0,false) else .inl x)) ?_ ?_ (by unfold fuel;omega) (0:Int)]
 ·rw [IG]
  cases LA 0 l<;>rfl
 ·intro s i x hx
  have hi:=(agV.1 hx).1
  unfold FH
  dsimp only
  rw [aV hx,agX,gn_ hx,wrapN (by omega)]
  simp only [agU]
  by_cases h:x=0
  ·rw [agZ h,agX,if_pos h];rfl
  ·rw [agY h,agW,if_neg h]
   by_cases h1:s=0
   ·rw [agY (show ¬ s≠0 by omega),agW,if_neg (by omega)];rfl
   ·rw [agZ (show s≠0 from h1),agX]
    by_cases h2:s=x
    ·rw [agY (show ¬ s≠x by omega),agW,if_neg (by omega)];rfl
    ·rw [agZ (show s≠x from h2),agX,if_pos ⟨h1,h2⟩];rfl
 ·intro s
  unfold FH
  dsimp only
  rw [lF_,agW]
theorem oL (l:List Int) (hl:l.length<=1000000):lw l=some (adn (LA 0 l)):=(show lw l=pE l from rfl).trans (jh l hl)
def jv (l:List Int) (k:Int):Bool:=l.all fun x=>decide (x=k)||decide (x=0)
theorem fo (l:List Int) (k:Int) (hl:l.length<=1000000):jH l k=some (jv l k):=by
 unfold jH
 rw [di (l:=l) (mk:=fun (_:Unit) i=>i) (f:=fun _ x=>some (if x=k\/x=0 then .inl () else .inr false)) ?_ ?_ (by unfold fuel;omega) ()]
 ·have : ∀ l:List Int,dF (ρ:=Bool) (fun (_:Unit) (x:Int)=>some (if x=k\/x=0 then .inl () else .inr false)) () l=some (if jv l k=true then .inl () else .inr false):=by
   intro l
   induction l with
   | nil=>rfl
   | cons x l ih =>
    rw [dF]
    by_cases h:x=k\/x=0
    ·rw [if_pos h]
     show dF _ () l=_
     rw [ih]
     have:jv (x::l) k=jv l k:=by
      unfold jv
      rw [List.all_cons]
      rcases h with h|h<;>simp [h]
     rw [this]
    ·rw [if_neg h]
     have:jv (x::l) k=false:=by
      unfold jv
      rw [List.all_cons,agY (fun e=>h (.inl e)),agY (fun e=>h (.inr e))];rfl
     rw [this];rfl
  rw [this]
  cases jv l k<;>rfl
 ·intro s i x hx
  have hi:=(agV.1 hx).1
  unfold Aa
  dsimp only
  rw [aV hx,agX,gn_ hx,wrapN (by omega)]
  simp only [agU]
  by_cases h:x=k
  ·rw [agY (show ¬ x≠k by omega),agW,if_pos (.inl h)];rfl
  ·rw [agZ (show x≠k from h),agX]
   by_cases h2:x=0
   ·rw [agY (show ¬ x≠0 by omega),agW,if_pos (.inr h2)];rfl
   ·rw [agZ (show x≠0 from h2),agX,if_neg (by omega)];rfl
 ·intro s
  unfold Aa
  dsimp only
  rw [lF_,agW]
theorem K5 (k:Int) (hk:k≠0) : ∀ (l:List Int) (t:Int),LA t (l++[k])=if (t=0\/t=k)/\jv l k=true then some k else none
 | [],t=>by
  show (if k=0 then some t else if t≠0/\t≠k then none else some k)=if (t=0\/t=k)/\true=true then some k else none
  rw [if_neg hk]
  by_cases h:t=0\/t=k
  ·rw [if_neg (show ¬ (t≠0/\t≠k) by omega),if_pos (show (t=0\/t=k)/\true=true from ⟨h,rfl⟩)]
  ·rw [if_pos (show t≠0/\t≠k by omega),if_neg (fun e=>h e.1)]
 | x::l,t=>by
  rw [List.cons_append,LA]
  by_cases h:x=0
  ·rw [if_pos h,K5 k hk l t]
   have:jv (x::l) k=jv l k:=by unfold jv;rw [List.all_cons,agZ h,Bool.or_true,ahr]
   rw [this]
  ·rw [if_neg h]
   have ha:jv (x::l) k=(decide (x=k)&&jv l k):=by unfold jv;rw [List.all_cons,agY h,Bool.or_false]
   rw [ha]
   by_cases h2:t≠0/\t≠x
   ·rw [if_pos h2,if_neg]
    rintro ⟨h3,h4⟩
    rw [ahb] at h4
    have:=ahm h4.1
    omega
   ·rw [if_neg h2,K5 k hk l x]
    by_cases h3:x=k
    ·rw [agZ h3,ahr]
     by_cases h4:jv l k=true
     ·rw [if_pos ⟨.inr h3,h4⟩,if_pos ⟨by omega,h4⟩]
     ·rw [if_neg (fun e=>h4 e.2),if_neg (fun e=>h4 e.2)]
    ·rw [agY h3,Bool.false_and,if_neg (by omega),if_neg (by simp)]
theorem ic {l:List Int} {k:Int} (h0:l≠[]) (hl:l.length<=100000) (hk:k≠0):Be l k=some (jv l k):=by
 have ho:R6 l=true:=by
  unfold R6
  rw [agZ hl,Bool.and_true]
  cases l with
  | nil=>exact absurd rfl h0
  | cons a b=>rfl
 unfold Be
 rw [ho,agX,jh _ (by rw [ag3];simp;omega),agU,K5 k hk]
 cases h:jv l k with
 | true=>rw [if_pos ⟨.inl rfl,rfl⟩];show some (bif true then decide (k=k) else false)=_;simp
 | false=>rw [if_neg (by simp)];rfl
theorem Sw {e:Ex} {l:List Int} {kinds:List Int} (hlo:(nY e.op).1<=((l.length:Nat):Int)) (hhi:((l.length:Nat):Int)<=(nY e.op).2) (hl:l.length<=100000) (ho:e.op=1\/e.op=4\/e.op=5\/e.op=6\/e.op=7\/e.op=8\/e.op=9\/e.op=10\/e.op=11\/e.op=12\/e.op=13\/e.op=14\/e.op=15\/e.op=16\/e.op=17\/e.op=18\/e.op=19\/e.op=20\/e.op=21\/e.op=22\/e.op=23\/e.op=24) : ∃ r,gRs11 e l kinds=some r/\gRsP e l=some r:=by
 rcases ho with ho|ho|ho|ho|ho|ho|ho|ho|ho|ho|ho|ho|ho|ho|ho|ho|ho|ho|ho|ho|ho|ho
 ·rw [ho,ar1] at hlo hhi
  dsimp only at hlo hhi
  unfold gRs11 gRsP
  simp only [ho,Int.reduceEq,decide_false,decide_true,agX,agW]
  exact ⟨_,rfl,rfl⟩
 ·rw [ho,ar4] at hlo hhi
  dsimp only at hlo hhi
  unfold gRs11 gRsP
  simp only [ho,Int.reduceEq,decide_false,decide_true,agX,agW]
  rw [fo _ _ (by omega),ic (by rintro rfl;simp at hlo) hl (by decide)];exact ⟨_,rfl,rfl⟩
 ·rw [ho,ar5] at hlo hhi
  dsimp only at hlo hhi
  unfold gRs11 gRsP
  simp only [ho,Int.reduceEq,decide_false,decide_true,agX,agW]
  rw [fo _ _ (by omega),ic (by rintro rfl;simp at hlo) hl (by decide)];exact ⟨_,rfl,rfl⟩
 ·rw [ho,ar6] at hlo hhi
  dsimp only at hlo hhi
  unfold gRs11 gRsP
  simp only [ho,Int.reduceEq,decide_false,decide_true,agX,agW]
  rw [fo _ _ (by omega),ic (by rintro rfl;simp at hlo) hl (by decide)];exact ⟨_,rfl,rfl⟩
 ·rw [ho,ar7] at hlo hhi
  dsimp only at hlo hhi
  unfold gRs11 gRsP
  simp only [ho,Int.reduceEq,decide_false,decide_true,agX,agW]
  rw [oL _ (by omega),jh _ (by omega)];exact ⟨_,rfl,rfl⟩
 ·rw [ho,ar8] at hlo hhi
  dsimp only at hlo hhi
  unfold gRs11 gRsP
  simp only [ho,Int.reduceEq,decide_false,decide_true,agX,agW]
  rw [oL _ (by omega),jh _ (by omega)];exact ⟨_,rfl,rfl⟩
 ·rw [ho,ar9] at hlo hhi
  dsimp only at hlo hhi
  unfold gRs11 gRsP
  simp only [ho,Int.reduceEq,decide_false,decide_true,agX,agW]
  rw [oL _ (by omega),jh _ (by omega)];exact ⟨_,rfl,rfl⟩
 ·rw [ho,agu] at hlo hhi
  dsimp only at hlo hhi
  unfold gRs11 gRsP
  simp only [ho,Int.reduceEq,decide_false,decide_true,agX,agW]
  rw [oL _ (by omega),jh _ (by omega)];exact ⟨_,rfl,rfl⟩
 ·rw [ho,aga] at hlo hhi
  dsimp only at hlo hhi
  unfold gRs11 gRsP
  simp only [ho,Int.reduceEq,decide_false,decide_true,agX,agW]
  rw [oL _ (by omega),jh _ (by omega)];exact ⟨_,rfl,rfl⟩
 ·rw [ho,agH] at hlo hhi
  dsimp only at hlo hhi
  unfold gRs11 gRsP
  simp only [ho,Int.reduceEq,decide_false,decide_true,agX,agW]
  rw [oL _ (by omega),jh _ (by omega)];exact ⟨_,rfl,rfl⟩
 ·rw [ho,afd] at hlo hhi
  dsimp only at hlo hhi
  unfold gRs11 gRsP
  simp only [ho,Int.reduceEq,decide_false,decide_true,agX,agW]
  rw [fo _ _ (by omega),ic (by rintro rfl;simp at hlo) hl (by decide)];exact ⟨_,rfl,rfl⟩
 ·rw [ho,afr] at hlo hhi
  dsimp only at hlo hhi
  unfold gRs11 gRsP
  simp only [ho,Int.reduceEq,decide_false,decide_true,agX,agW]
  rw [fo _ _ (by omega),ic (by rintro rfl;simp at hlo) hl (by decide)];exact ⟨_,rfl,rfl⟩
 ·rw [ho,ae4] at hlo hhi
  dsimp only at hlo hhi
  unfold gRs11 gRsP
  simp only [ho,Int.reduceEq,decide_false,decide_true,agX,agW]
  rw [fo _ _ (by omega),ic (by rintro rfl;simp at hlo) hl (by decide)];exact ⟨_,rfl,rfl⟩
 ·rw [ho,ae9] at hlo hhi
  dsimp only at hlo hhi
  unfold gRs11 gRsP
  simp only [ho,Int.reduceEq,decide_false,decide_true,agX,agW]
  rw [fo _ _ (by omega),ic (by rintro rfl;simp at hlo) hl (by decide)];exact ⟨_,rfl,rfl⟩
 ·rw [ho,aeS] at hlo hhi
  dsimp only at hlo hhi
  unfold gRs11 gRsP
  simp only [ho,Int.reduceEq,decide_false,decide_true,agX,agW]
  rw [fo _ _ (by omega),ic (by rintro rfl;simp at hlo) hl (by decide)];exact ⟨_,rfl,rfl⟩
 ·rw [ho,agI] at hlo hhi
  dsimp only at hlo hhi
  unfold gRs11 gRsP
  simp only [ho,Int.reduceEq,decide_false,decide_true,agX,agW]
  rw [fo _ _ (by omega),ic (by rintro rfl;simp at hlo) hl (by decide)];exact ⟨_,rfl,rfl⟩
 ·rw [ho,agc] at hlo hhi
  dsimp only at hlo hhi
  unfold gRs11 gRsP
  simp only [ho,Int.reduceEq,decide_false,decide_true,agX,agW]
  rw [fo _ _ (by omega),ic (by rintro rfl;simp at hlo) hl (by decide)];exact ⟨_,rfl,rfl⟩
 ·rw [ho,agz] at hlo hhi
  dsimp only at hlo hhi
  unfold gRs11 gRsP
  simp only [ho,Int.reduceEq,decide_false,decide_true,agX,agW]
  rw [fo _ _ (by omega),ic (by rintro rfl;simp at hlo) hl (by decide)];exact ⟨_,rfl,rfl⟩
 ·rw [ho,agk] at hlo hhi
  dsimp only at hlo hhi
  unfold gRs11 gRsP
  simp only [ho,Int.reduceEq,decide_false,decide_true,agX,agW]
  exact ⟨_,rfl,rfl⟩
 ·rw [ho,aek] at hlo hhi
  dsimp only at hlo hhi
  unfold gRs11 gRsP
  simp only [ho,Int.reduceEq,decide_false,decide_true,agX,agW]
  obtain ⟨a,b,c,rfl⟩:=abU (l:=l) (by omega)
  rw [show lT [a,b,c] (1:Int) ((([a,b,c].length:Nat)):Int)=some [b,c] from rfl,show lT [a,b,c] (0:Int) (1:Int)=some [a] from rfl]
  simp only [agU]
  rw [oL _ (by simp),jh _ (by simp)]
  simp only [agU]
  rw [fo _ _ (by simp),ic (by simp) (by simp) (by decide)]
  cases (adn (LA 0 [b,c])).2<;>exact ⟨_,rfl,rfl⟩
 ·rw [ho,agB] at hlo hhi
  dsimp only at hlo hhi
  unfold gRs11 gRsP
  simp only [ho,Int.reduceEq,decide_false,decide_true,agX,agW]
  rw [oL _ (by omega),jh _ (by omega)];exact ⟨_,rfl,rfl⟩
 ·rw [ho,agJ] at hlo hhi
  dsimp only at hlo hhi
  unfold gRs11 gRsP
  simp only [ho,Int.reduceEq,decide_false,decide_true,agX,agW]
  rw [fo _ _ (by omega),ic (by rintro rfl;simp at hlo) hl (by decide)];exact ⟨_,rfl,rfl⟩
theorem I4 (e:Ex) (kinds:List Int) (rec:Ex->List Int->Option (Int × Int)) (hrec : ∀ x∈e.args, ∃ c,rec x kinds=some c) (hlen:e.args.length<=100000) :
  ∀ (N i:Nat) (s:List Int),s.length=i->i<=e.args.length->e.args.length-i<N -> ∃ r,ax (dH e kinds rec) N (s,(i:Int))=some r /\ ∀ t j,r = .inl (t,j)->t.length=e.args.length
 | 0,i,s,_,_,h=>by omega
 | N+1,i,s,hs,hi,hN=>by
  rw [ax]
  by_cases hlt:i<e.args.length
  ·obtain ⟨x,hx⟩:=gol_ hlt
   obtain ⟨c,hc⟩:=hrec x (ag1 hx)
   by_cases h0:c.2=0
   ·have hb:dH e kinds rec (s,(i:Int))=some (.next (s++[c.1],((i+1:Nat):Int))):=by
     unfold dH
     dsimp only
     rw [aV hx,agX,gn_ hx,agU,hc,agU,agY (show ¬ c.2≠0 by omega),agW,agZ (by omega),agX,wrapN (by omega)]
    rw [hb]
    exact I4 e kinds rec hrec hlen N (i+1) (s++[c.1]) (by rw [ag3,hs];rfl) (by omega) (by omega)
   ·have hb:dH e kinds rec (s,(i:Int))=some (.ret (0,c.2)):=by
     unfold dH
     dsimp only
     rw [aV hx,agX,gn_ hx,agU,hc,agU,agZ (show c.2≠0 from h0),agX]
    rw [hb]
    exact ⟨_,rfl,fun t j h=>by cases h⟩
  ·have:i=e.args.length:=by omega
   subst this
   have hb:dH e kinds rec (s,((e.args.length:Nat):Int))=some (.exit (s,((e.args.length:Nat):Int))):=by
    unfold dH
    dsimp only
    rw [lF_,agW]
   rw [hb]
   exact ⟨_,rfl,fun t j h=>by injection h with h;injection h with h _;rw [<- h];exact hs⟩
theorem JJ (kinds:List Int) : ∀ (n:Nat) (e:Ex),fH n e -> ∃ c,mM n e kinds=some c/\zQ n e kinds=some c
 | 0,_,h=>h.elim
 | n+1,e,h=>by
  have hx : ∀ x∈e.args, ∃ c,mM n x kinds=some c/\zQ n x kinds=some c:=fun x hx=>JJ kinds n x (h.2 x hx)
  have hb:zg e kinds (zQ n)=dH e kinds (mM n):=by
   funext s
   obtain ⟨l,i⟩:=s
   unfold zg dH
   dsimp only
   cases hg:aH e.args i with
   | none=>rfl
   | some x =>
    obtain ⟨c,c1,c2⟩:=hx x (ag1 (nE hg).2)
    simp only [agU]
    rw [c1,c2]
  obtain ⟨a1,a2,a3,a4⟩:=zf e.op ((e.args.length:Nat):Int) (by have:=h.1;omega)
  show ∃ c,uu (mM n) e kinds=some c/\I9 (zQ n) e kinds=some c
  unfold uu I9
  rw [a1,a2,agU,agU]
  dsimp only
  by_cases h00:(nY e.op).1<0
  ·rw [agZ h00,agY (show ¬ 0<=(nY e.op).1 by omega),agX]
   exact ⟨_,rfl,rfl⟩
  have h0:0<=(nY e.op).1:=by omega
  rw [agY (show ¬ (nY e.op).1<0 by omega),agZ h0,Bool.not_true,agW,agW,F6 h.1,Iz h.1,agU,agU]
  cases hf:xI e with
  | false=>exact ⟨_,rfl,rfl⟩
  | true =>
   rw [Bool.not_true,agW,agW]
   obtain ⟨hops,hlo,hhi,hrest⟩:=B_ h.1 hf
   by_cases o2:e.op=2
   ·rw [agZ o2,agX,agX]
    by_cases i0:e.int<0
    ·rw [agZ i0];exact ⟨_,rfl,rfl⟩
    rw [agY i0,agW,agW]
    by_cases i1:((kinds.length:Nat):Int)<=e.int
    ·rw [agZ i1];exact ⟨_,rfl,rfl⟩
    rw [agY i1,agW,agW]
    obtain ⟨x,hx1⟩:=gol_ (l:=kinds) (i:=e.int.toNat) (by omega)
    have hg:aH kinds e.int=some x:=by unfold aH;rw [if_pos (by omega)];exact hx1
    rw [o2,ar2] at hhi
    dsimp only at hhi
    have hz:e.args.length=0:=by omega
    have hbr:ax (pW e kinds (mM n)) fuel ([],(0:Int))=some (.inl ([],0)):=by
     have:fuel=(fuel-1)+1:=rfl
     rw [this,ax]
     unfold pW
     dsimp only
     rw [hz,show decide ((0:Int)<((0:Nat):Int))=false from rfl,agW]
    rw [hbr,hg]
    refine ⟨(x,0),?_,rfl⟩
    show (gRs11 e [] kinds).bind _=_
    unfold gRs11
    rw [o2,show decide ((2:Int)=1)=false from rfl,show decide ((2:Int)=2)=true from rfl,agW,agX,hg]
    rfl
   ·rw [agY o2,agW,agW,hb]
    obtain ⟨r,hr,hk⟩:=I4 e kinds (mM n) (fun x hm=>(hx x hm).imp fun c hc=>hc.1) h.1 fuel 0 [] rfl (ahe _) (by unfold fuel;have:=h.1;omega)
    rw [show ((0:Nat):Int)=0 from rfl] at hr
    rw [hr,agU,agU]
    cases r with
    | inr q=>exact ⟨q,rfl,rfl⟩
    | inl p =>
     obtain ⟨t,j⟩:=p
     have ht:=hk t j rfl
     obtain ⟨q,q1,q2⟩:=Sw (e:=e) (l:=t) (kinds:=kinds) (by rw [ht];exact hlo) (by rw [ht];exact hhi) (by rw [ht];exact h.1) (by omega)
     unfold kz Gb
     dsimp only
     rw [q1,q2,agU]
     cases q.2<;>exact ⟨_,rfl,rfl⟩
theorem Q5 {e:Ex} (kinds:List Int) (h:fH fuel e) : ∃ c,vW e kinds=some c/\VL e kinds=some c:=by
 obtain ⟨d,d1,d2,d3,d4⟩:=JH fuel e (by unfold fuel;omega) h
 obtain ⟨c,c1,c2⟩:=JJ kinds fuel e h
 unfold vW VL ac9
 rw [d1,d4 25 (by omega) (by omega),c1,c2]
 simp only [agU]
 by_cases hd:(24:Int)<d
 ·rw [agZ hd,agZ (show (24:Int)<min d 25 by omega)];exact ⟨_,rfl,rfl⟩
 ·rw [agY hd,agY (show ¬ (24:Int)<min d 25 by omega)];exact ⟨_,rfl,rfl⟩
set_option maxHeartbeats 8000000
noncomputable section
def jA (a_e:Ex) (a_row:(List Val)):Option (Int):=(pK fuel a_e a_row).bind fun r_1=>(lh r_1).bind fun r_2=>some r_2
theorem qI {a_e:Ex} {a_row:(List Val)} {r:Int} (H:jA a_e a_row=some r):Pure Tryz.prog 73 [.agg (tE a_e), .one (.lst (a_row.map cV))] (.val (.one (.int .i64 r))):=by
 unfold jA at H
 rw [aC a_e]
 refine po_ Tryz.func73 Tryz.ntmps73 ?_
 obtain ⟨r_1,c1,H⟩:=bd_ H
 replace c1:=rC fuel c1
 try simp only [ag8,ag6,ag_,ag0,aC] at c1
 obtain ⟨r_2,c2,H⟩:=bd_ H
 replace c2:=lN c2
 cases H
 exact aD
end
set_option maxHeartbeats 8000000
noncomputable section
def l8 (a_e:Ex) (a_row:(List Val)):Option (Int):=(kL fuel a_e a_row).bind fun r_1=>(jy r_1).bind fun r_2=>some r_2
theorem xB {a_e:Ex} {a_row:(List Val)} {r:Int} (H:l8 a_e a_row=some r):Pure Tryz.prog 22 [.agg (tE a_e), .one (.lst (a_row.map cV))] (.val (.one (.int .i64 r))):=by
 unfold l8 at H
 rw [aC a_e]
 refine po_ Tryz.func22 Tryz.ntmps22 ?_
 obtain ⟨r_1,c1,H⟩:=bd_ H
 replace c1:=Ff fuel c1
 try simp only [ag8,ag6,ag_,ag0,aC] at c1
 obtain ⟨r_2,c2,H⟩:=bd_ H
 replace c2:=nO c2
 cases H
 exact aD
def xq (a_l:(List Ex)) (a_row:(List Val)):((List Val) × Int)->Option (Step ((List Val) × Int) ((List Val))):=fun s=>match s with
 | (out_1,i_2)=>bif (decide (i_2<((a_l.length:Nat):Int))) then (aH a_l i_2).bind fun x_4=>(kL fuel x_4 a_row).bind fun r_5=>bif (decide (out_1.length+1<=4398046511104)) then (some (.next ((out_1++[r_5]),(IntKind.i64.wrap (i_2+(1:Int)))))) else none else
 some (.exit (out_1,i_2))
def Cm:Sum ((List Val) × Int) ((List Val))->Option (((List Val)))
 | .inl (out_1,i_2)=>some out_1
 | .inr q=>some q
def sG (a_l:(List Ex)) (a_row:(List Val)):Option ((List Val)):=(ax (xq a_l a_row) fuel ([],(0:Int))).bind (Cm)
theorem Ce {a_l:(List Ex)} {a_row:(List Val)} {r:(List Val)} (H:sG a_l a_row=some r):Pure Tryz.prog 23 [.one (.lst (a_l.map tE)), .one (.lst (a_row.map cV))] (.val (.one (.lst (r.map cV)))):=by
 unfold sG at H
 refine po_ Tryz.func23 Tryz.ntmps23 ?_
 refine bF ?_
 refine bX 5 3 rfl ?_
 refine alM_ (fun s:(List Val) × Int=>match s with|(out_1,i_2)=>[(0, .one (.c (.lst (a_l.map tE)))),(1, .one (.c (.lst (a_row.map cV)))),(5, .one (.own (out_1.map cV) 0)),(6, .one (.c (.int .i64 i_2)))]) (fun s=>match s with|(out_1,i_2)=>[.spare out_1.length 3]) H (fun _=>ahe _)
  (fm_ dh [] rfl bH dw) ?_
 rintro ⟨out_1,i_2⟩ st1 hb1 hk1
 unfold xq at hb1
 dsimp only at hb1 ⊢
 rcases af hb1 with ⟨q_3,hb1⟩|⟨q_3,hb1⟩
 ·obtain ⟨x_4,i1z,i1,i1x,hb1⟩:=aY (f:=tE) hb1
  simp only [ag8,ag6,ag_,ag0,aC] at i1x
  obtain ⟨r_5,c2,hb1⟩:=bd_ hb1
  replace c2:=Ff fuel c2
  try simp only [ag8,ag6,ag_,ag0,aC] at c2
  obtain ⟨g3,hb1⟩:=aG hb1
  cases hb1
  refine bF ?_
  exact ⟨_,rfl,fm_ lC [] lD bH dw⟩
 cases hb1
 have hx1:Cm (.inl (out_1,i_2))=some _:=hk1
 unfold Cm at hx1
 dsimp only at hx1
 cases hx1
 exact aD
def nI (a_r:dA):(Int)->Option (Step (Int) (Bool)):=fun s=>match s with
 | i_1=>bif (decide (i_1<((a_r.facts.length:Nat):Int))) then (aH a_r.facts i_1).bind fun x_3=>(iP x_3.valid).bind fun r_4=>bif (!r_4) then some (.ret false) else
 (wS x_3.row a_r.kinds).bind fun r_6=>bif (!r_6) then some (.ret false) else
 some (.next (IntKind.i64.wrap (i_1+(1:Int)))) else
 some (.exit i_1)
def je (a_r:dA):Sum (Int) (Bool)->Option ((Bool))
 | .inl i_1=>bif (decide ((0:Int)<((a_r.kinds.length:Nat):Int))) then bif (decide (((a_r.kinds.length:Nat):Int)<=(48:Int))) then (Jv a_r.kinds).bind fun r_10=>some r_10 else
 some false else
 some false
 | .inr q=>some q
def JU (a_r:dA):Option (Bool):=(ax (nI a_r) fuel (0:Int)).bind (je a_r)
theorem Yp {a_r:dA} {r:Bool} (H:JU a_r=some r):Pure Tryz.prog 29 [.agg (tL a_r)] (.val (.one (.bool r))):=by
 unfold JU at H
 refine po_ Tryz.func29 Tryz.ntmps29 ?_
 refine bF ?_
 refine alM_ (fun s:Int=>match s with|i_1=>[(1, .one (.ptr 0 0)),(3, .one (.c (.int .i64 i_1)))]) (fun s=>match s with|i_1=>[.box [.c (.lst (a_r.kinds.map (fun x=>[AC.int .i64 x]))), .c (.lst (a_r.facts.map aJ))]]) H (fun _=>ahe _)
  (fm_ dh [] rfl bH dw) ?_
 rintro i_1 st1 hb1 hk1
 unfold nI at hb1
 dsimp only at hb1 ⊢
 rcases af hb1 with ⟨q_2,hb1⟩|⟨q_2,hb1⟩
 ·obtain ⟨x_3,i1z,i1,i1x,hb1⟩:=aY (f:=aJ) hb1
  obtain ⟨r_4,c2,hb1⟩:=bd_ hb1
  replace c2:=fw c2
  rcases af hb1 with ⟨q_5,hb1⟩|⟨q_5,hb1⟩
  ·cases hb1
   have hx1:je a_r (.inr false)=some _:=hk1
   unfold je at hx1
   dsimp only at hx1
   cases hx1
   exact aD
  obtain ⟨r_6,c3,hb1⟩:=bd_ hb1
  replace c3:=MG c3
  rcases af hb1 with ⟨q_7,hb1⟩|⟨q_7,hb1⟩
  ·cases hb1
   have hx1:je a_r (.inr false)=some _:=hk1
   unfold je at hx1
   dsimp only at hx1
   cases hx1
   exact aD
  cases hb1
  refine bF ?_
  exact ⟨_,rfl,fm_ dh [] rfl bH dw⟩
 cases hb1
 have hx1:je a_r (.inl i_1)=some _:=hk1
 unfold je at hx1
 dsimp only at hx1
 rcases af hx1 with ⟨q_8,hx1⟩|⟨q_8,hx1⟩
 ·rcases af hx1 with ⟨q_9,hx1⟩|⟨q_9,hx1⟩
  ·obtain ⟨r_10,c4,hx1⟩:=bd_ hx1
   replace c4:=YH c4
   cases hx1
   exact aD
  cases hx1
  exact aD
 cases hx1
 exact aD
end
end Go.Proofs.YtcehmafobkhdbaaGreatDoor
namespace Go.Proofs.YtcehmafobkhdbaaGreatDoor.St
open Go.RowKit
theorem Asc.of_list {l:List (Int × Int)} (h:l.Pairwise fun x y=>x.1<y.1):Asc l:=by
 intro i j x y hij hx hy
 obtain ⟨hi,rfl⟩:=agV.1 hx
 obtain ⟨hj,rfl⟩:=agV.1 hy
 exact List.pairwise_iff_getElem.1 h i j hi hj hij
theorem dX : ∀ {l:List (Int × Int)} {p:Int × Int}, fu p l=true->(p::l).Pairwise (fun x y=>x.1<y.1) /\ ∀ s∈l,s.1<1099511627776
 | [],p,_=>⟨by simp,by simp⟩
 | q::r,p,h=>by
  simp only [fu,ahb] at h
  obtain ⟨h1,h2⟩:=dX (l:=r) (p:=q) h.2
  have hs:p.1<q.1/\q.1<1099511627776:=by have:=h.1;simp [yD] at this;omega
  refine ⟨ahP.2 ⟨fun y hy=>?_,h1⟩,fun s hs'=>?_⟩
  ·rcases aha.1 hy with e|e
   ·subst e;exact hs.1
   ·have:=(ahP.1 h1).1 y e;omega
  ·rcases aha.1 hs' with e|e
   ·subst e;exact hs.2
   ·exact h2 s e
theorem iR {l:List (Int × Int)} (h:dN l=true):Asc l/\(∀ s∈l,s.1<1099511627776)/\l≠[] /\ ∀ x,l[0]?=some x->x.1=0:=by
 match l,h with
 | p::r,h =>
  simp only [dN,ahb,beq_iff_eq] at h
  obtain ⟨h1,h2⟩:=dX h.2
  refine ⟨Asc.of_list h1,fun s hs=>?_,by simp,fun x hx=>?_⟩
  ·rcases aha.1 hs with e|e
   ·subst e;omega
   ·exact h2 s e
  ·simp at hx;subst hx;exact h.1
def gJ (z:Int) (l:List (Int × Int)) (t:Int):Int:=l.foldl (fun n s=>if s.1<=t then s.2 else n) z
theorem yu {l:List (Int × Int)} {t:Int} (h1:0<=t) (h2:t<1099511627776):vV l t=gJ 0 l t:=by unfold vV;rw [if_pos ⟨h1,h2⟩];rfl
theorem ab1 {l:List (Int × Int)} {t:Int} (h : ¬ (0<=t/\t<1099511627776)):vV l t=0:=by unfold vV;rw [if_neg h]
theorem cB (z:Int) (p:Int × Int) (l:List (Int × Int)) (t:Int):gJ z (p::l) t=gJ (if p.1<=t then p.2 else z) l t:=rfl
theorem gQ {z:Int} {l:List (Int × Int)} {t:Int} (h : ∀ x∈l,t<x.1):gJ z l t=z:=zC t l z h
theorem Iq (z:Int) (l:List (Int × Int)) (q:Int × Int) (t:Int):gJ z (l++[q]) t=if q.1<=t then q.2 else gJ z l t:=by unfold gJ;rw [List.foldl_append];rfl
theorem Rf {u:List (Int × Int)} {x y:Int} {q:Int × Int} (hu:dN u=true) (hl:u.getLast?=some (x,y)) (h1:x<q.1) (h2:q.1<1099511627776) (h3:q.2≠y):dN (u++[q])=true:=by
 match u,hu with
 | p::r,hu =>
  simp only [dN,ahb,beq_iff_eq] at hu
  simp only [List.cons_append,dN,ahb,beq_iff_eq]
  refine ⟨hu.1,?_⟩
  have he:(p::r).getLast (by simp)=(x,y):=by
   rw [List.getLast?_eq_some_getLast (by simp)] at hl
   exact ahq hl
  rw [yA,hu.2,he]
  unfold yD
  simp [h1,h2,h3]
theorem X7 {u:List (Int × Int)} (ha:Asc u) {x y t:Int} (hl:u.getLast?=some (x,y)) (ht:x<=t) (z:Int):gJ z u t=y:=by
 have hne:u≠[]:=by intro e;subst e;simp at hl
 have hu:u=u.dropLast++[(x,y)]:=by
  have h1:=List.dropLast_concat_getLast hne
  rw [List.getLast?_eq_some_getLast hne] at hl
  rw [<- ahq hl];exact h1.symm
 rw [hu,Iq,if_pos ht]
theorem abv {u:List (Int × Int)} (ha:Asc u) {x y p v:Int} (hl:u.getLast?=some (x,y)) (hp:x<p) (z t:Int):gJ z (fU u (p,v)) t=if p<=t then v else gJ z u t:=by
 unfold fU
 rw [hl]
 simp only [Option.map_some,Option.some.injEq]
 by_cases e:y=v
 ·rw [if_pos e]
  split
  ·rw [X7 ha hl (by omega),e]
  ·rfl
 ·rw [if_neg e,Iq]
theorem Xv {u:List (Int × Int)} {x y p v:Int} (hu:dN u=true) (hl:u.getLast?=some (x,y)) (hp:x<p) (hF:p<1099511627776):dN (fU u (p,v))=true /\ ∃ x' y',(fU u (p,v)).getLast?=some (x',y')/\x'<=p:=by
 unfold fU
 rw [hl]
 simp only [Option.map_some,Option.some.injEq]
 by_cases e:y=v
 ·rw [if_pos e];exact ⟨hu,x,y,hl,by omega⟩
 ·rw [if_neg e];exact ⟨Rf hu hl hp hF (fun h=>e h.symm),p,v,by simp,Int.le_refl _⟩
theorem Kl (f:Int->Int) : ∀ (P:List Int) (u:List (Int × Int)) (x y:Int),dN u=true->u.getLast?=some (x,y)->(∀ p∈P,x<p/\p<1099511627776)->d_ P ->
  dN (P.foldl (fun acc p=>fU acc (p,f p)) u)=true /\ ∀ z t,gJ z (P.foldl (fun acc p=>fU acc (p,f p)) u) t=gJ (gJ z u t) (P.map fun p=>(p,f p)) t
 | [],u,x,y,hu,hl,_,_=>⟨hu,fun z t=>rfl⟩
 | p::P,u,x,y,hu,hl,hP,hA=>by
  obtain ⟨h1,h2⟩:=hP p (by simp)
  obtain ⟨g1,x',y',g2,g3⟩:=Xv (v:=f p) hu hl h1 h2
  obtain ⟨k1,k2⟩:=Kl f P (fU u (p,f p)) x' y' g1 g2 (fun q hq=>⟨by have:=hA.head q hq;omega,(hP q (by simp [hq])).2⟩) hA.tail
  refine ⟨k1,fun z t=>?_⟩
  rw [ahJ,k2,abv (iR hu).1 hl h1,ag6,cB]
theorem Fv (f:Int->Int) {P:List Int} (hA:d_ P) (h0:P.head?=some 0) (hF : ∀ p∈P,p<1099511627776):dN (dJ f P)=true /\ ∀ z t,gJ z (dJ f P) t=gJ z (P.map fun p=>(p,f p)) t:=by
 match P,h0 with
 | p::P,h0 =>
  simp at h0
  subst h0
  have h1:=Kl f P [(0,f 0)] 0 (f 0) rfl rfl (fun q hq=>⟨hA.head q hq,hF q (by simp [hq])⟩) hA.tail
  have h2:dJ f (0::P)=P.foldl (fun acc p=>fU acc (p,f p)) [(0,f 0)]:=rfl
  rw [h2]
  refine ⟨h1.1,fun z t=>?_⟩
  rw [h1.2,ag6,cB]
  rfl
def Y5 (g:Int->Int) (P:List Int):Prop := ∀ t p,0<=t->t<1099511627776->p∈P->p<=t->(∀ q∈P,q<=t->q<=p)->g t=g p
theorem M3 (g:Int->Int) : ∀ (P:List Int) (z t:Int),d_ P->(∃ p∈P,p<=t) -> ∃ p∈P,p<=t/\(∀ q∈P,q<=t->q<=p)/\gJ z (P.map fun p=>(p,g p)) t=g p
 | [],z,t,_,⟨p,hp,_⟩=>by simp at hp
 | a::P,z,t,hA,⟨p,hp,hpt⟩=>by
  have hat:a<=t:=by
   rcases aha.1 hp with e|e
   ·omega
   ·have:=hA.head p e;omega
  rw [ag6,cB,if_pos hat]
  by_cases h : ∃ q∈P,q<=t
  ·obtain ⟨q,h1,h2,h3,h4⟩:=M3 g P (g a) t hA.tail h
   refine ⟨q,by simp [h1],h2,fun r hr hrt=>?_,h4⟩
   rcases aha.1 hr with e|e
   ·have:=hA.head q h1;omega
   ·exact h3 r e hrt
  ·refine ⟨a,by simp,hat,fun r hr hrt=>?_,?_⟩
   ·rcases aha.1 hr with e|e
    ·omega
    ·exact absurd ⟨r,e,hrt⟩ h
   ·refine gQ fun x hx=>?_
    obtain ⟨q,hq,e⟩:=aht.1 hx
    subst e
    exact Int.not_le.1 fun hh=>h ⟨q,hq,hh⟩
theorem Qa (g:Int->Int) {P:List Int} (hA:d_ P) (h0:P.head?=some 0) (hF : ∀ p∈P,p<1099511627776) (hC:Y5 g P) {t:Int} (t1:0<=t) (t2:t<1099511627776):vV (dJ g P) t=g t:=by
 rw [yu t1 t2,(Fv g hA h0 hF).2]
 have h0m:(0:Int)∈P:=List.mem_of_mem_head? h0
 obtain ⟨p,h1,h2,h3,h4⟩:=M3 g P 0 t hA ⟨0,h0m,t1⟩
 rw [h4,hC t p t1 t2 h1 h2 h3]
theorem Nq {P:List Int} (hA:d_ P) (h0:(0:Int)∈P) (hp : ∀ p∈P,0<=p):P.head?=some 0:=by
 match P,h0 with
 | a::P,h0 =>
  have ha:=hp a (by simp)
  rcases aha.1 h0 with e|e
  ·rw [<- e];rfl
  ·have:=hA.head 0 e;omega
theorem tV {l:List (Int × Int)} (h:dN l=true) : ∀ s∈l,0<=s.1:=by
 obtain ⟨h1,_,h3,h4⟩:=iR h
 intro s hs
 obtain ⟨i,hi,e⟩:=List.mem_iff_getElem.1 hs
 have hpos:0<l.length:=by omega
 have h0:=h4 l[0] (ag4 hpos)
 by_cases e0:i=0
 ·subst e0;rw [<- e];omega
 ·have:=h1 0 i _ _ (by omega) (ag4 hpos) (ag4 hi)
  rw [e] at this;omega
theorem of_ok (l:List ((Int × Int) × Int)):dN (dJ (pF l) (iq l))=true /\ ∀ t,0<=t->t<1099511627776->vV (dJ (pF l) (iq l)) t=pF l t:=by
 obtain ⟨h1,h2⟩:=jI l
 have hnn : ∀ p∈iq l,0<=p:=by
  intro p hp
  rcases ((h2 p).1 hp).1 with e|⟨y,hy⟩
  ·omega
  ·exact (EU (p,y) hy).1
 have h0:(iq l).head?=some 0:=Nq h1 ((h2 0).2 ⟨.inl rfl,by omega⟩) hnn
 have hF : ∀ p∈iq l,p<1099511627776:=fun p hp=>((h2 p).1 hp).2
 have hC:Y5 (pF l) (iq l):=by
  intro t p t1 t2 hp hpt hmax
  rw [wT,wT]
  congr 1
  unfold tH
  congr 1
  refine List.map_congr_left fun c hc=>?_
  have hiff:a_ c.1 t=a_ c.1 p:=by
   unfold a_
   by_cases hv:aO c.1=true
   ·have hm : ∀ q,q=c.1.1\/q=c.1.2->q<=t->q<=p:=by
     intro q hq hqt
     refine hmax q ((h2 q).2 ⟨.inr ?_,by omega⟩) hqt
     rcases hq with e|e
     ·exact ⟨c.2,List.mem_flatMap.2 ⟨c,hc,by unfold pz;rw [if_pos hv];simp [e]⟩⟩
     ·exact ⟨wrap64 (-c.2),List.mem_flatMap.2 ⟨c,hc,by unfold pz;rw [if_pos hv];simp [e]⟩⟩
    have m1:=hm c.1.1 (.inl rfl)
    have m2:=hm c.1.2 (.inr rfl)
    rw [hv,ahr,ahr,Bool.eq_iff_iff]
    simp only [ahb,decide_eq_true_eq]
    constructor
    ·rintro ⟨u1,u2⟩;exact ⟨m1 u1,by omega⟩
    ·rintro ⟨u1,u2⟩
     refine ⟨by omega,Int.not_le.1 fun hh=>?_⟩
     have:=m2 hh;omega
   ·have:aO c.1=false:=by simpa using hv
    rw [this];simp
  rw [hiff]
 exact ⟨(Fv _ h1 h0 hF).1,fun t t1 t2=>Qa _ h1 h0 hF hC t1 t2⟩
def cnt (X:List (Int × Int)) (t:Int):Int:=(X.map fun p=>if a_ p t then (1:Int) else 0).sum
theorem wu (X Y:List (Int × Int)) (t:Int):cnt (X++Y) t=cnt X t+cnt Y t:=by simp [cnt]
theorem Pi {a b t:Int} (h0:0<=a) (h1:a<b) (h2:b<=1099511627776):cnt [(a,b)] t=if a<=t/\t<b then 1 else 0:=by
 have hv:aO (a,b)=true:=by simp [aO];omega
 simp [cnt,a_,hv]
theorem Ja (n t v:Int) (out:List (Int × Int)) {a b:Int} (h0:0<=a) (h1:a<b) (h2:b<=1099511627776) (hout : ∀ q∈out,aO q=true/\q.2<=a) :
  (∀ q∈dZ n out ((a,b),v),aO q=true/\q.2<=b)/\cnt (dZ n out ((a,b),v)) t=cnt out t+(if n<=v/\a<=t/\t<b then 1 else 0):=by
 have hv:aO (a,b)=true:=by simp [aO];omega
 have happ:(∀ q∈out++[(a,b)],aO q=true/\q.2<=b)/\cnt (out++[(a,b)]) t=cnt out t+(if a<=t/\t<b then 1 else 0):=by
  refine ⟨fun q hq=>?_,by rw [wu,Pi h0 h1 h2]⟩
  rcases ahl.1 hq with e|e
  ·have:=hout q e;exact ⟨this.1,by omega⟩
  ·simp at e;subst e;exact ⟨hv,Int.le_refl _⟩
 unfold dZ
 by_cases hn:n<=v
 ·rw [if_pos hn]
  simp only [hn,true_and]
  unfold jR
  split
  ·rename_i q hq
   split
   ·rename_i hle
    have hmem:q∈out:=List.mem_of_getLast? hq
    obtain ⟨hq1,hq2⟩:=hout q hmem
    have hle':a<=q.2:=hle
    have hqe:q.2=a:=by omega
    have hsp:out=out.dropLast++[q]:=by
     have hne:out≠[]:=by intro e;rw [e] at hmem;simp at hmem
     rw [List.getLast?_eq_some_getLast hne] at hq
     injection hq with hq
     rw [<- hq];exact (List.dropLast_concat_getLast hne).symm
    have hqv:0<=q.1/\q.1<q.2/\q.2<=1099511627776:=by simp [aO] at hq1;omega
    have hm:max q.2 b=b:=by omega
    show (∀ x∈out.dropLast++[(q.1,max q.2 b)],aO x=true/\x.2<=b)/\cnt (out.dropLast++[(q.1,max q.2 b)]) t=_
    rw [hm]
    refine ⟨fun x hx=>?_,?_⟩
    ·rcases ahl.1 hx with e|e
     ·have:=hout x (List.dropLast_subset _ e);exact ⟨this.1,by omega⟩
     ·simp at e;subst e;exact ⟨by simp [aO];omega,Int.le_refl _⟩
    ·have e1:cnt out t=cnt out.dropLast t+cnt [(q.1,q.2)] t:=by rw [<- wu];exact congrArg (cnt · t) hsp
     rw [e1,wu,Pi hqv.1 (by omega) h2,Pi hqv.1 hqv.2.1 hqv.2.2]
     split<;>split<;>split<;>omega
   ·exact happ
  ·exact happ
 ·rw [if_neg hn]
  refine ⟨fun q hq=>?_,by simp [hn]⟩
  have:=hout q hq;exact ⟨this.1,by omega⟩
theorem RA (n t:Int) (ht:t<1099511627776) : ∀ (r:List (Int × Int)) (x:Int × Int) (out:List (Int × Int)),0<=x.1->(x::r).Pairwise (fun p q=>p.1<q.1)->(∀ s∈x::r,s.1<1099511627776)->(∀ q∈out,aO q=true/\q.2<=x.1) ->
  cnt ((rR (x::r)).foldl (dZ n) out) t=cnt out t+(if x.1<=t/\n<=gJ x.2 r t then 1 else 0)
 | [],x,out,h0,_,hM,hout=>by
  have:=(Ja n t x.2 out h0 (hM x (by simp)) (Int.le_refl _) hout).2
  simp only [rR,ahJ,List.foldl_nil,this]
  have e:gJ x.2 [] t=x.2:=rfl
  rw [e]
  split<;>split<;>omega
 | y::r,x,out,h0,hp,hM,hout=>by
  have hxy:x.1<y.1:=(ahP.1 hp).1 y (by simp)
  have hy:=(ahP.1 hp).2
  obtain ⟨h1,h2⟩:=Ja n t x.2 out h0 hxy (by have:=hM y (by simp);omega) hout
  have ih:=RA n t ht r y _ (by omega) hy (fun s hs=>hM s (ahh _ hs)) h1
  have e:rR (x::y::r)=((x.1,y.1),x.2)::rR (y::r):=rfl
  rw [e,ahJ,ih,h2,cB]
  by_cases hyt:y.1<=t
  ·rw [if_pos hyt]
   split<;>split<;>split<;>omega
  ·rw [if_neg hyt]
   have e2:gJ x.2 r t=x.2:=gQ fun q hq=>by have:=(ahP.1 hy).1 q hq;omega
   rw [e2]
   split<;>split<;>split<;>omega
theorem acP {l:List (Int × Int)} (h:dN l=true) (n t:Int) (h1:0<=t) (h2:t<1099511627776):cnt (Hf l n) t=if n<=vV l t then 1 else 0:=by
 match l,h with
 | p::r,h =>
  have ha:=iR h
  have hp0:p.1=0:=ha.2.2.2 p rfl
  simp only [dN,ahb] at h
  have hv:=dX h.2
  have:=RA n t h2 r p [] (by omega) hv.1 ha.2.1 (by simp)
  unfold Hf
  rw [this,yu h1 h2,cB,if_pos (show p.1<=t by omega)]
  have e:cnt [] t=0:=rfl
  rw [e]
  simp [hp0,h1]
theorem Mj {l:List (Int × Int)} (h:dN l=true) (t:Int) (h1:0<=t) (h2:t<1099511627776) (h3:0<=vV l t) : ∀ k:Nat,cnt (mh l k) t=if (k:Int)<=vV l t then (k:Int) else vV l t
 | 0=>by
  have e:cnt (mh l 0) t=0:=rfl
  rw [e];split<;>omega
 | k+1=>by
  rw [wC,wu,Mj h t h1 h2 h3 k,acP h _ t h1 h2]
  split<;>split<;>split<;>omega
theorem aaQ {a b:List (Int × Int)} (h:a.Perm b) (t:Int):cnt a t=cnt b t:=by
 unfold cnt
 induction h with
 | nil=>rfl
 | cons x _ ih=>simp only [ag6,List.sum_cons,ih]
 | swap x y l=>simp only [ag6,List.sum_cons];omega
 | trans _ _ ih1 ih2=>exact ih1.trans ih2
theorem RZ {l:List (Int × Int)} (h:dN l=true) (t:Int) (h1:0<=t) (h2:t<1099511627776) (h3:0<=vV l t) (h4:vV l t<=600):cnt (uD l) t=vV l t:=by
 have hp:(uD l).Perm (mh l 600):=by
  have h0:=(qd (mR l) [] .nil).2
  rw [ag0] at h0
  have e:mR l=mh l 600:=by unfold mR mh;rfl
  rw [<- e];exact h0
 rw [aaQ hp,Mj h t h1 h2 h3]
 split<;>omega
def FZ (X:List (Int × Int)):List ((Int × Int) × Int):=X.map fun p=>(p,1)
theorem wZ (X:List (Int × Int)) (t:Int):tH (FZ X) t=cnt X t:=by
 unfold tH FZ cnt;rw [List.map_map];rfl
end Go.Proofs.YtcehmafobkhdbaaGreatDoor.St
namespace Go.Proofs.YtcehmafobkhdbaaGreatDoor
open Go.RowKit
def aX (p:aI) (t:Int):Bool:=St.a_ (toP p) t
theorem q8 (p:aI) (t:Int):aX p t=(St.aO (toP p)&&(decide (p.lo<=t)&&decide (t<p.hi))):=Bool.and_assoc _ _ _
def ed (ps:List aI) (t:Int):Nat:=(ps.filter fun p=>aX p t).length
theorem GX (ps:List aI) (t:Int):St.cnt (ps.map toP) t=(ed ps t:Int):=by
 unfold St.cnt ed
 induction ps with
 | nil=>rfl
 | cons p ps ih =>
  rw [ag6,ag6,List.sum_cons,ih,List.filter_cons]
  unfold aX
  by_cases h:St.a_ (toP p) t=true
  ·rw [if_pos h,if_pos h,ahf];omega
  ·rw [if_neg h,if_neg h];omega
theorem f_ (p:aI) (ps:List aI) (t:Int):ed (p::ps) t=(if aX p t=true then 1 else 0)+ed ps t:=by
 unfold ed
 rw [List.filter_cons]
 split<;>simp<;>omega
theorem Ux {p:aI} {t:Int} (h:aX p t=true):0<=t/\t<1099511627776:=by
 unfold aX St.a_ St.aO at h
 simp only [ahb,decide_eq_true_eq] at h
 omega
theorem KM {t:Int} (h : ¬(0<=t/\t<1099511627776)) (ps:List aI):ed ps t=0:=by
 unfold ed
 rw [ahu,List.filter_eq_nil_iff]
 exact fun p _ hp=>h (Ux hp)
theorem Wi (ps:List aI) (t:Int):ed ps t<=ps.length:=List.length_filter_le _ _
def fM (ps:List aI):List (Int × Int):=St.P5 ((ones ps).map toC)
theorem OA (ps:List aI):(ones ps).map toC=St.FZ (ps.map toP):=by
 unfold ones St.FZ
 rw [List.map_map,List.map_map];rfl
theorem V8 (ps:List aI):(bR ps).map toP=St.uD (fM ps):=by
 unfold bR EC AU fM
 rw [List.map_map,List.map_map]
 have e1:(toP∘ofP)=id:=by funext x;rfl
 have e2:(toS∘ofS)=id:=by funext x;rfl
 rw [e1,e2,List.map_id,List.map_id]
theorem lZ (ps:List aI):St.dN (fM ps)=true:=(St.of_ok _).1
theorem Mc (ps:List aI) (hn:ps.length<=300) (t:Int):St.vV (fM ps) t=(ed ps t:Int):=by
 by_cases h:0<=t/\t<1099511627776
 ·rw [show fM ps=St.dJ (St.pF ((ones ps).map toC)) (St.iq ((ones ps).map toC)) from rfl,(St.of_ok _).2 t h.1 h.2,St.vk t (yn ps) (by simp [ones];omega),OA,St.wZ,GX]
 ·rw [St.ab1 h,KM h];rfl
theorem sS (ps:List aI) (hn:ps.length<=300) (t:Int):0<=St.vV (fM ps) t/\St.vV (fM ps) t<=600:=by
 have:=Mc ps hn t
 have:=Wi ps t
 omega
theorem C8 (ps:List aI) (hn:ps.length<=300) (t:Int):ed (bR ps) t=ed ps t:=by
 by_cases h:0<=t/\t<1099511627776
 ·have h1:=GX (bR ps) t
  rw [V8,St.RZ (lZ ps) t h.1 h.2 (sS ps hn t).1 (sS ps hn t).2,Mc ps hn] at h1
  omega
 ·rw [KM h,KM h]
def Gy (ps:List aI) (x:Int):Nat:=(ps.filter fun p=>St.aO (toP p)&&decide (p.lo<=x)).length
theorem uk (p:aI) (ps:List aI) (t:Int):Gy (p::ps) t=(if (St.aO (toP p)&&decide (p.lo<=t))=true then 1 else 0)+Gy ps t:=by
 unfold Gy
 rw [List.filter_cons]
 split<;>simp<;>omega
theorem Sn {x y:Int} (h:x<y) : ∀ ps:List aI,ed ps y+Gy ps x<=ed ps x+Gy ps y
 | []=>by simp [ed,Gy]
 | p::ps=>by
  have ih:=Sn h ps
  rw [f_,f_,uk,uk]
  have:(if aX p y=true then 1 else 0)+(if (St.aO (toP p)&&decide (p.lo<=x))=true then 1 else 0)<=(if aX p x=true then 1 else 0)+(if (St.aO (toP p)&&decide (p.lo<=y))=true then 1 else 0):=by
   rw [q8,q8]
   cases hv:St.aO (toP p)
   ·simp
   ·simp only [ahr,ahb,decide_eq_true_eq]
    split<;>split<;>split<;>split<;>omega
  omega
theorem ab6 (ps:List aI) (x:Int):ed ps x<=Gy ps x:=by
 induction ps with
 | nil=>simp [ed,Gy]
 | cons p ps ih =>
  rw [f_,uk]
  have:(if aX p x=true then 1 else 0)<=(if (St.aO (toP p)&&decide (p.lo<=x))=true then 1 else 0):=by
   rw [q8]
   cases hv:St.aO (toP p)
   ·simp
   ·simp only [ahr,ahb,decide_eq_true_eq]
    split<;>split<;>omega
  omega
theorem YO {x y:Int} (h:x<=y) (ps:List aI):Gy ps x<=Gy ps y:=by
 induction ps with
 | nil=>simp [Gy]
 | cons p ps ih =>
  rw [uk,uk]
  have:(if (St.aO (toP p)&&decide (p.lo<=x))=true then 1 else 0)<=(if (St.aO (toP p)&&decide (p.lo<=y))=true then 1 else 0):=by
   cases hv:St.aO (toP p)
   ·simp
   ·simp only [ahr,decide_eq_true_eq]
    split<;>split<;>omega
  omega
theorem Me {l:List (Int × Int)} (ps:List aI) (ha:St.Asc l) (hF : ∀ s∈l,0<=s.1/\s.1<1099511627776) (hy : ∀ s∈l,s.2=(ed ps s.1:Int)) : ∀ k,k<=l.length ->
  (∀ q∈(St.oU l k).2,St.aO q=true)/\(∀ f∈(St.oU l k).1,0<=f/\f<1099511627776 /\ ∃ (j:Nat) (y:Int),j<k/\l[j]?=some (f,y)) /\
  ((k=0/\(St.oU l k).1=[]/\(St.oU l k).2=[]) \/ ∃ x y,l[k-1]?=some (x,y)/\0<k/\(St.oU l k).1.length=ed ps x/\(St.oU l k).2.length+(St.oU l k).1.length<=Gy ps x)
 | 0,_=>⟨fun q hq=>(by cases hq),fun f hf=>(by cases hf), .inl ⟨rfl,rfl,rfl⟩⟩
 | k+1,hk=>by
  obtain ⟨h1,h2,h3⟩:=Me ps ha hF hy k (by omega)
  have hx:l[k]?=some (l[k]'(by omega)):=ag4 (by omega)
  generalize l[k]'(by omega)=p at hx
  obtain ⟨x,y⟩:=p
  have hm:=ag1 hx
  have hxF:=hF _ hm
  have hxy:y=(ed ps x:Int):=hy _ hm
  rw [St.uT hx]
  have hc:St.qM y=ed ps x:=by
   unfold St.qM
   rw [hxy]
   split<;>omega
  unfold St.Ei
  dsimp only
  rw [hc]
  refine ⟨fun q hq=>?_,fun f hf=>?_, .inr ⟨x,y,by simpa using hx,by omega,St.uH _ _ _,?_⟩⟩
  ·rcases ahl.1 hq with hq|hq
   ·exact h1 q hq
   ·obtain ⟨f,hf,rfl⟩:=aht.1 hq
    obtain ⟨f1,f2,j,z,hj,hz⟩:=h2 f (List.mem_of_mem_drop hf)
    have:=ha j k _ _ hj hz hx
    show St.aO (f,x)=true
    unfold St.aO
    simp only [ahb,decide_eq_true_eq]
    dsimp only at this hxF
    omega
  ·unfold St.Ec at hf
   rcases ahl.1 hf with hf|hf
   ·obtain ⟨f1,f2,j,z,hj,hz⟩:=h2 f (ahQ hf)
    exact ⟨f1,f2,j,z,by omega,hz⟩
   ·obtain ⟨_,rfl⟩:=List.mem_replicate.1 hf
    exact ⟨hxF.1,hxF.2,k,y,by omega,hx⟩
  ·rw [St.uH,ag3,ag7,List.length_drop]
   rcases h3 with ⟨_,e1,e2⟩|⟨x0,y0,hx0,hk0,e1,e2⟩
   ·rw [e1,e2]
    have:=ab6 ps x
    simp only [aho]
    omega
   ·have hlt:=ha (k-1) k _ _ (by omega) hx0 hx
    dsimp only at hlt
    have b1:=Sn hlt ps
    have b2:=YO (Int.le_of_lt hlt) ps
    omega
theorem H9 (ps:List aI) (hn:ps.length<=300):(St.OZ (fM ps)).length<=ps.length /\ ∀ q∈St.OZ (fM ps),St.aO q=true:=by
 obtain ⟨ha,hF,hne,_⟩:=St.iR (lZ ps)
 have hnn:=St.tV (lZ ps)
 have hy : ∀ s∈fM ps,s.2=(ed ps s.1:Int):=by
  intro s hs
  have h:=((St.Ih ((ones ps).map toC)).2 s hs).2
  rw [h,St.vk s.1 (yn ps) (by simp [ones];omega),OA,St.wZ,GX]
 obtain ⟨h1,h2,h3⟩:=Me ps ha (fun s hs=>⟨hnn s hs,hF s hs⟩) hy (fM ps).length (ag' _)
 unfold St.OZ
 refine ⟨?_,fun q hq=>?_⟩
 ·rw [ag3,ag7]
  rcases h3 with ⟨_,e1,e2⟩|⟨x,y,_,_,_,e2⟩
  ·rw [e1,e2];exact ahe _
  ·exact Nat.le_trans e2 (List.length_filter_le _ _)
 ·rcases ahl.1 hq with hq|hq
  ·exact h1 q hq
  ·obtain ⟨f,hf,rfl⟩:=aht.1 hq
   obtain ⟨f1,f2,_⟩:=h2 f hf
   show St.aO (f,1099511627776)=true
   unfold St.aO
   simp only [ahb,decide_eq_true_eq]
   omega
theorem Dc (ps:List aI) (hn:ps.length<=300):((bR ps).map toP).Perm (St.OZ (fM ps)):=by
 obtain ⟨ha,hF,_,_⟩:=St.iR (lZ ps)
 have hM : ∀ s∈fM ps,s.2<=600:=by
  intro s hs
  have h:=((St.Ih ((ones ps).map toC)).2 s hs).2
  rw [h,St.vk s.1 (yn ps) (by simp [ones];omega),OA,St.wZ,GX]
  have:=Wi ps s.1
  omega
 rw [V8]
 have h0:=(St.qd (St.mR (fM ps)) [] .nil).2
 rw [ag0] at h0
 exact h0.trans (St.ND ha hF hM).symm
theorem VB (ps:List aI) (hn:ps.length<=300):(bR ps).length<=ps.length:=by
 have:=(Dc ps hn).length_eq
 rw [ag7] at this
 rw [this];exact (H9 ps hn).1
theorem mg (ps:List aI) (hn:ps.length<=300) : ∀ p∈bR ps,St.aO (toP p)=true:=fun p hp =>
 (H9 ps hn).2 _ ((Dc ps hn).subset (List.mem_map_of_mem hp))
open Go.RowKit Go.MapKept
set_option maxRecDepth 100000
theorem Qb {r:List Val} {R:List (List Val)} (h:Nt (r::R)):r∉R:=by
 intro hr
 have:=List.rel_of_pairwise_cons h hr
 rw [tCr_.refl] at this
 omega
theorem zadB (s t:List aj) (r:List Val):bD (s++t) r=bD s r++bD t r:=by unfold bD;rw [List.filter_append,ag8]
theorem zabY (r:List Val) : ∀ ps:List aI,(∀ p∈ps,St.aO (toP p)=true)->bD (ps.map fun p=>(⟨r,p⟩:aj)) r=ps
 | [],_=>rfl
 | p::ps,h=>by
  have ih:=zabY r ps fun q hq=>h q (ahh _ hq)
  have hp:aL p=true:=h p (ahG ..)
  unfold bD at ih ⊢
  rw [ag6,List.filter_cons_of_pos (by simp [hp]),ag6,ih]
theorem zacX {r x:List Val} (hx:x≠r) (ps:List aI):bD (ps.map fun p=>(⟨x,p⟩:aj)) r=[]:=by
 unfold bD
 rw [List.map_eq_nil_iff,List.filter_eq_nil_iff]
 intro f hf h
 obtain ⟨p,_,rfl⟩:=aht.1 hf
 simp only [ahb,decide_eq_true_eq] at h
 exact hx h.2
theorem zabs (L:List Val->List aI) (hL : ∀ r, ∀ p∈L r,St.aO (toP p)=true) : ∀ (R:List (List Val)),Nt R -> ∀ r,bD (R.flatMap fun r=>(L r).map fun p=>(⟨r,p⟩:aj)) r=if r∈R then L r else []
 | [],_,r=>rfl
 | x::R,h,r=>by
  have ih:=zabs L hL R (List.Pairwise.of_cons h) r
  rw [ahw,zadB,ih]
  by_cases hx:x=r
  ·subst hx
   rw [zabY x _ (hL x),if_neg (Qb h),if_pos (ahG ..),ahs]
  ·rw [zacX hx,ag0]
   by_cases hr:r∈R
   ·rw [if_pos hr,if_pos (ahh _ hr)]
   ·rw [if_neg hr,if_neg (by intro h;rcases aha.1 h with h|h;exact hx h.symm;exact hr h)]
theorem Iu {α:Type} (p:α->Bool) : ∀ l:List α,(l.filter p).length+(l.filter fun x => !p x).length=l.length
 | []=>rfl
 | x::l=>by
  have:=Iu p l
  rw [List.filter_cons,List.filter_cons]
  cases h:p x<;>simp<;>omega
theorem ZR (l:List aj) (r:List Val):(bD l r).length<=(l.filter fun f=>decide (f.row=r)).length:=by
 unfold bD
 rw [ag7]
 induction l with
 | nil=>exact ag' _
 | cons f l ih =>
  rw [List.filter_cons,List.filter_cons]
  cases aL f.valid<;>cases decide (f.row=r)<;>simp<;>omega
theorem SA {r x:List Val} (h:x≠r) (l:List aj):bD l x=bD (l.filter fun f => !decide (f.row=r)) x:=by
 unfold bD
 rw [List.filter_filter]
 congr 1
 apply List.filter_congr
 intro f _
 by_cases hx:f.row=x
 ·have:f.row≠r:=fun e=>h (hx.symm.trans e)
  simp [hx,h]
 ·simp [hx]
theorem M4 : ∀ (R:List (List Val)) (l:List aj),Nt R->(R.flatMap fun r=>bD l r).length<=l.length
 | [],l,_=>ahe _
 | r::R,l,h=>by
  rw [ahw,ag3]
  have e:(R.flatMap fun x=>bD l x)=R.flatMap fun x=>bD (l.filter fun f => !decide (f.row=r)) x:=by
   rw [List.flatMap_def,List.flatMap_def]
   congr 1
   refine List.map_congr_left fun x hx=>SA ?_ l
   rintro rfl
   exact Qb h hx
  rw [e]
  have h1:=M4 R (l.filter fun f => !decide (f.row=r)) (List.Pairwise.of_cons h)
  have h2:=ZR l r
  have h3:=Iu (fun f:aj=>decide (f.row=r)) l
  omega
theorem gF {α β γ:Type} (f:α->List β) (g:α->List γ) : ∀ l:List α,(∀ x∈l,(f x).length<=(g x).length)->(l.flatMap f).length<=(l.flatMap g).length
 | [],_=>ag' _
 | x::l,h=>by
  rw [ahw,ahw,ag3,ag3]
  have:=h x (ahG ..)
  have:=gF f g l fun y hy=>h y (ahh _ hy)
  omega
theorem il (l:List aj) (r:List Val):(bD l r).length<=l.length:=by
 unfold bD;rw [ag7];exact List.length_filter_le _ _
theorem UV {l:List aj} {R:List (List Val)} (h:fV l R) {r:List Val} (hr:r∉R):bD l r=[]:=by
 unfold bD
 rw [List.map_eq_nil_iff,List.filter_eq_nil_iff]
 intro f hf hc
 rw [ahb] at hc
 exact hr ((h.2 r).2 ⟨f,hf,hc.1,ahm hc.2⟩)
section
variable {l:List aj} {R:List (List Val)} (h:fV l R) (hn:l.length<=300)
include h hn
theorem acS:(fO l R).length<=l.length:=by
 refine Nat.le_trans ?_ (M4 R l h.1)
 refine gF _ _ _ fun r _=>?_
 rw [ag7]
 exact VB _ (Nat.le_trans (il l r) hn)
theorem zadp (r:List Val):bD (fO l R) r=if r∈R then bR (bD l r) else [] :=
 zabs (fun r=>bR (bD l r)) (fun r p hp=>mg _ (Nat.le_trans (il l r) hn) p hp) R h.1 r
end
def aS (l:List aj) (t:Int):List (List Val):=(l.filter fun f=>aX f.valid t).map (·.row)
theorem za (t:Int) (r:List Val) : ∀ l:List aj,(aS l t).count r=ed (bD l r) t
 | []=>rfl
 | f::l=>by
  have ih:=za t r l
  unfold aS at ih ⊢
  have e:bD (f::l) r=(if (aL f.valid&&decide (f.row=r))=true then [f.valid] else [])++bD l r:=by
   unfold bD
   rw [List.filter_cons]
   split<;>simp
  rw [List.filter_cons,e]
  by_cases hc:aX f.valid t=true
  ·have hv:aL f.valid=true:=by
    have:=hc
    rw [q8,ahb] at this
    exact this.1
   rw [if_pos hc,ag6,List.count_cons,ih]
   by_cases hr:f.row=r
   ·simp only [hv,hr,decide_true,Bool.and_self,if_true,List.cons_append,ag0,beq_self_eq_true]
    rw [f_,if_pos hc];omega
   ·simp [hr]
  ·rw [if_neg hc,ih]
   split
   ·rw [List.cons_append,ag0,f_,if_neg hc,ahB]
   ·rfl
theorem zaeI {l:List aj} {R:List (List Val)} (h:fV l R) (hn:l.length<=300) (t:Int):(aS (fO l R) t).Perm (aS l t):=by
 rw [List.perm_iff_count]
 intro r
 rw [za,za,zadp h hn r]
 split
 ·exact C8 _ (Nat.le_trans (il l r) hn) t
 ·rename_i hr
  rw [UV h hr]
def Apart (p q:aI):Prop:=p.hi<q.lo\/q.hi<p.lo\/(p.lo<=q.lo/\q.hi<=p.hi)\/(q.lo<=p.lo/\p.hi<=q.hi)
def Lam (L:List aI):Prop := ∀ p∈L, ∀ q∈L,Apart p q
def Av (p:aI):Prop:=0<=p.lo/\p.lo<p.hi/\p.hi<=1099511627776
theorem EJ (p:aI):St.aO (toP p)=true↔Av p:=by
 unfold St.aO Av toP
 simp only [ahb,decide_eq_true_eq]
 omega
theorem eO {p:aI} (h:Av p) (t:Int):aX p t=true↔p.lo<=t/\t<p.hi:=by
 rw [q8,(EJ p).2 h,ahr,ahb,decide_eq_true_eq,decide_eq_true_eq]
theorem cnt_mono {s t:Int} : ∀ L:List aI,(∀ p∈L,aX p s=true->aX p t=true)->ed L s<=ed L t
 | [],_=>ag' _
 | p::L,h=>by
  have ih:=cnt_mono L fun q hq=>h q (ahh _ hq)
  have h0:=h p (ahG ..)
  rw [f_,f_]
  by_cases hs:aX p s=true
  ·rw [if_pos hs,if_pos (h0 hs)];omega
  ·rw [if_neg hs];omega
theorem vE (A B:List aI) (t:Int):ed (A++B) t=ed A t+ed B t:=by
 unfold ed;rw [List.filter_append,ag3]
theorem cnt_lt {s t:Int} {L:List aI} (h : ∀ p∈L,aX p s=true->aX p t=true) {q:aI} (hq:q∈L) (h1:aX q t=true) (h2:aX q s=false):ed L s<ed L t:=by
 obtain ⟨A,B,rfl⟩:=List.append_of_mem hq
 have hA:=cnt_mono A fun p hp=>h p (by simp [hp])
 have hB:=cnt_mono B fun p hp=>h p (by simp [hp])
 rw [vE,vE,f_,f_,if_pos h1,if_neg (by rw [h2];decide)]
 omega
theorem Zo {s t:Int} {L:List aI} (h:ed L s<ed L t) : ∃ q∈L,aX q t=true/\aX q s=false:=by
 apply Classical.byContradiction
 intro hn
 have:=cnt_mono (s:=t) (t:=s) L fun p hp h1=>by
  cases h2:aX p s
  ·exact absurd ⟨p,hp,h1,h2⟩ hn
  ·rfl
 omega
theorem aaV : ∀ L:List aI,L≠[] -> ∃ p∈L, ∀ q∈L,p.hi-p.lo<=q.hi-q.lo
 | [],h=>absurd rfl h
 | p::L,_=>by
  by_cases hL:L=[]
  ·subst hL
   exact ⟨p,ahG .., fun q hq=>by simp at hq;subst hq;omega⟩
  ·obtain ⟨m,hm,h⟩:=aaV L hL
   by_cases hpm:p.hi-p.lo<=m.hi-m.lo
   ·exact ⟨p,ahG .., fun q hq=>by
     rcases aha.1 hq with rfl|hq
     ·omega
     ·have:=h q hq;omega⟩
   ·exact ⟨m,ahh _ hm,fun q hq=>by
     rcases aha.1 hq with rfl|hq
     ·omega
     ·exact h q hq⟩
theorem OJ {p q:aI} (h1:p.lo=q.lo) (h2:p.hi=q.hi):p=q:=by
 cases p;cases q;simp_all
theorem falls {M:List aI} (hM:Lam M) (vM : ∀ p∈M,Av p) {q:aI} (hq:q∈M):ed M q.hi<ed M (q.hi-1):=by
 have vq:=vM q hq
 unfold Av at vq
 refine cnt_lt (fun s hs h=>?_) hq ((eO (vM q hq) _).2 (by omega)) ?_
 ·have vs:=vM s hs
  have ha:=hM q hq s hs
  rw [eO vs] at h ⊢
  unfold Av at vs
  unfold Apart at ha
  omega
 ·cases h:aX q q.hi
  ·rfl
  ·have:=(eO (vM q hq) _).1 h
   omega
theorem rises {M:List aI} (hM:Lam M) (vM : ∀ p∈M,Av p) {q:aI} (hq:q∈M):ed M (q.lo-1)<ed M q.lo:=by
 have vq:=vM q hq
 unfold Av at vq
 refine cnt_lt (fun s hs h=>?_) hq ((eO (vM q hq) _).2 (by omega)) ?_
 ·have vs:=vM s hs
  have ha:=hM q hq s hs
  rw [eO vs] at h ⊢
  unfold Av at vs
  unfold Apart at ha
  omega
 ·cases h:aX q (q.lo-1)
  ·rfl
  ·have:=(eO (vM q hq) _).1 h
   omega
theorem I_ : ∀ (n:Nat) (L M:List aI),L.length=n->Lam L->Lam M->(∀ p∈L,Av p)->(∀ p∈M,Av p)->(∀ t,ed L t=ed M t)->L.Perm M
 | 0,L,M,hn,_,_,_,vM,hc=>by
  obtain rfl:=ahu.1 hn
  cases M with
  | nil=>exact .nil
  | cons q M =>
   have vq:=vM q (ahG ..)
   have h:=hc q.lo
   rw [f_,if_pos ((eO vq _).2 (by unfold Av at vq;omega))] at h
   simp [ed] at h
   omega
 | n+1,L,M,hn,hL,hM,vL,vM,hc=>by
  obtain ⟨p,hp,hmin⟩:=aaV L (by intro e;rw [e] at hn;simp at hn)
  have vp:=vL p hp
  have vp':=vp
  unfold Av at vp'
  have sup : ∀ q∈L, ∀ t,p.lo<=t->t<p.hi->aX q t=true->q.lo<=p.lo/\p.hi<=q.hi:=by
   intro q hq t h1 h2 h3
   rw [eO (vL q hq)] at h3
   have ha:=hL p hp q hq
   have hm:=hmin q hq
   unfold Apart at ha
   omega
  have const : ∀ s t,p.lo<=s->s<p.hi->p.lo<=t->t<p.hi->ed L s<=ed L t:=by
   intro s t h1 h2 h3 h4
   refine cnt_mono L fun q hq h=>?_
   have:=sup q hq s h1 h2 h
   rw [eO (vL q hq)]
   omega
  have r1:=rises hL vL hp
  have f1:=falls hL vL hp
  rw [hc,hc] at r1 f1
  obtain ⟨q,hq,q1,q2⟩:=Zo r1
  obtain ⟨r,hr,e1,e2⟩:=Zo f1
  have vq:=vM q hq
  have vr:=vM r hr
  have vq':=vq
  have vr':=vr
  unfold Av at vq' vr'
  rw [eO vq] at q1
  rw [eO vr] at e1
  have q3 : ¬ (q.lo<=p.lo-1/\p.lo-1<q.hi):=fun h=>by rw [(eO vq _).2 h] at q2;cases q2
  have e3 : ¬ (r.lo<=p.hi/\p.hi<r.hi):=fun h=>by rw [(eO vr _).2 h] at e2;cases e2
  have q4:p.hi<=q.hi:=by
   apply Classical.byContradiction
   intro hlt
   have f2:=falls hM vM hq
   have:=const (q.hi-1) q.hi (by omega) (by omega) (by omega) (by omega)
   rw [hc,hc] at this
   omega
  have e4:r.lo<=p.lo:=by
   apply Classical.byContradiction
   intro hlt
   have f2:=rises hM vM hr
   have:=const r.lo (r.lo-1) (by omega) (by omega) (by omega) (by omega)
   rw [hc,hc] at this
   omega
  have hpM:p∈M:=by
   have ha:=hM q hq r hr
   unfold Apart at ha
   rcases ha with h|h|h|h
   ·omega
   ·omega
   ·rw [show p=r from OJ (by omega) (by omega)];exact hr
   ·rw [show p=q from OJ (by omega) (by omega)];exact hq
  obtain ⟨A,B,rfl⟩:=List.append_of_mem hp
  obtain ⟨C,D,rfl⟩:=List.append_of_mem hpM
  have sL : ∀ x∈A++B,x∈A++p::B:=fun x hx=>by simp at hx ⊢;rcases hx with h|h<;>simp [h]
  have sM : ∀ x∈C++D,x∈C++p::D:=fun x hx=>by simp at hx ⊢;rcases hx with h|h<;>simp [h]
  have ih:=I_ n (A++B) (C++D) (by simp at hn ⊢;omega) (fun x hx y hy=>hL x (sL x hx) y (sL y hy)) (fun x hx y hy=>hM x (sM x hx) y (sM y hy)) (fun x hx=>vL x (sL x hx)) (fun x hx=>vM x (sM x hx)) (fun t=>by
   have:=hc t
   rw [vE,vE,f_,f_] at this
   rw [vE,vE]
   omega)
  exact List.perm_middle.trans ((ih.cons p).trans List.perm_middle.symm)
end Go.Proofs.YtcehmafobkhdbaaGreatDoor
