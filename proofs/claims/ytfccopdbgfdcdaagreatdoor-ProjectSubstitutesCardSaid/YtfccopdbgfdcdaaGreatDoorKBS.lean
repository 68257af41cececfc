/- Parts of the proof, joined. No condition. -/
import Derived.Test.YtfccopdbgfdcdaaGreatDoorKAA
import Derived.Test.YtfccopdbgfdcdaaGreatDoorKBR
import Derived.Test.YtfccopdbgfdcdaaGreatDoorKBP
set_option linter.unusedSimpArgs false
set_option linter.unusedVariables false
namespace Go.Proofs.YtfccopdbgfdcdaaGreatDoor
open Go.RowKit Go.MapKept
set_option maxRecDepth 100000
theorem Qj {α β ρ:Type} {l:List α} {body:(List β × Int)->Option (Step (List β × Int) ρ)} (g:α->β) (h1 : ∀ (c:List β) (i:Nat) x,l[i]?=some x->i<c.length->body (c,(i:Int))=some (.next (c.set i (g x),((i+1:Nat):Int)))) (h2 : ∀ c:List β,body (c,((l.length:Nat):Int))=some (.exit (c,((l.length:Nat):Int)))) :
  ∀ (n i:Nat) (c:List β),c.length=l.length->i<=l.length->l.length-i<n->az body n (c,(i:Int))=some (.inl (c.take i++(l.drop i).map g,((l.length:Nat):Int)))
 | 0,i,c,_,_,h=>by omega
 | n+1,i,c,hc,hi,hn=>by
  rw [az]
  by_cases hlt:i<l.length
  ·obtain ⟨x,hx⟩:=gol_ hlt
   have e1:=(adI.1 hx).2
   rw [h1 c i x hx (by omega)]
   show az body n (c.set i (g x),((i+1:Nat):Int))=_
   rw [Qj g h1 h2 n (i+1) (c.set i (g x)) (by rw [List.length_set];exact hc) (by omega) (by omega),aed hlt,e1,adT]
   congr 3
   rw [List.take_succ_eq_append_getElem (by rw [List.length_set];omega),List.getElem_set_self,ad_,List.take_set_of_le (adY i)]
   rfl
  ·have:i=l.length:=by omega
   subst this
   rw [h2,aeB,adX,aeg, <- hc,List.take_length]
def eY:Nat->Ex->Prop
 | 0,_=>False
 | n+1,e=>e.args.length<=100000 /\ ∀ x∈e.args,eY n x
theorem jT : ∀ {n m:Nat} {e:Ex}, n<=m->eY n e->eY m e
 | 0,_,_,_,h=>h.elim
 | n+1,0,_,h,_=>by omega
 | n+1,m+1,e,h,k=>⟨k.1,fun x hx=>jT (by omega) (k.2 x hx)⟩
def Bt (l:List Val):Val:=(l.find? fun v=>decide (v.kind≠0)).getD jr
theorem Dk : ∀ l:List Val,dh (ρ:=Val) (fun (_:Unit) (v:Val)=>some (if v.kind≠0 then .inr v else .inl ())) () l=some (match l.find? fun v=>decide (v.kind≠0) with|some v => .inr v|none => .inl ())
 | []=>rfl
 | v::l=>by
  rw [dh]
  by_cases h:v.kind=0
  ·simp only [ne_eq,h,not_true_eq_false,if_false]
   rw [Dk l,List.find?_cons_of_neg (by simp [h])]
  ·rw [List.find?_cons_of_pos (by simp [h])]
   simp [h]
theorem MK (l:List Val) (hl:l.length<=100000):uT 23 l=some (Bt l):=by
 unfold uT
 rw [show decide ((23:Int)=22)=false from rfl,adJ]
 rw [bW (l:=l) (mk:=fun (_:Unit) i=>i) (f:=fun _ v=>some (if v.kind≠0 then .inr v else .inl ())) ?_ ?_ (by unfold fuel;omega) ()]
 ·rw [Dk]
  unfold Bt
  cases l.find? fun v=>decide (v.kind≠0) with
  | none=>exact congrArg (fun o:Option Val=>o.bind fun r=>some r) bV
  | some v=>rfl
 ·intro s i x hx
  have hi:=(adI.1 hx).1
  unfold vZ
  dsimp only
  rw [aI hx,adK,gn_ hx,wrapN (by omega)]
  simp only [adH]
  by_cases h:x.kind=0
  ·simp [h,tF]
  ·simp [h,tF]
 ·intro s
  unfold vZ
  dsimp only
  rw [lF_,adJ]
theorem R3 (l:List Val) (hl:l.length<=100000):(az (tq l) fuel (0:Int)).bind oz=some (Bt l):=by
 rw [bW (l:=l) (mk:=fun (_:Unit) i=>i) (f:=fun _ v=>some (if v.kind≠0 then .inr v else .inl ())) ?_ ?_ (by unfold fuel;omega) ()]
 ·rw [Dk]
  unfold Bt
  cases l.find? fun v=>decide (v.kind≠0) with
  | none=>exact congrArg (fun o:Option Val=>o.bind fun r=>some r) mo
  | some v=>rfl
 ·intro s i x hx
  have hi:=(adI.1 hx).1
  unfold tq
  dsimp only
  rw [aI hx,adK,gn_ hx,wrapN (by omega)]
  simp only [adH]
  by_cases h:x.kind=0
  ·simp [h,tF]
  ·simp [h,tF]
 ·intro s
  unfold tq
  dsimp only
  rw [lF_,adJ]
theorem Y3 {l:List Val} (h : ∀ v∈l,vF v=true):vF (Bt l)=true:=by
 unfold Bt
 cases e:l.find? fun v=>decide (v.kind≠0) with
 | none=>exact mX
 | some v=>exact h v (List.mem_of_find?_eq_some e)
theorem sP {op:Int} {a b:Val} (h:VV a):vF (fP op a b)=true:=by
 unfold fP
 cases fM [a,b] 1 with
 | false=>exact mX
 | true=>exact (gJ h.int).2
theorem aa1 (a:Val):vF (Od a)=true:=by
 unfold Od
 cases fM [a] 1 with
 | false=>exact mX
 | true=>exact rG _
theorem aaA (a b:Val):vF (MF a b)=true:=by
 unfold MF
 cases fM [a,b] 2 with
 | false=>exact mX
 | true=>exact rG _
theorem abq (a:Val):vF (Me a)=true:=by
 unfold Me
 cases fM [a] 2 with
 | false=>exact mX
 | true=>exact rG _
theorem abu (r:Int) (a b c d:Val):vF (NB r a b c d)=true:=by
 unfold NB
 cases fM [a,b,c,d] 1 with
 | false=>exact mX
 | true =>
  rw [adK]
  split
  ·exact Fb _
  ·exact mX
def oh (op k:Int) (l:List Val):Val :=
 if op=4 then Bo (Gw (tF_ (wF l 0))) else if op=5 then Bo (Co JS l.tail (tF_ (wF l 0))) else if op=6 then Bo (Co YG l.tail (tF_ (wF l 0)))
 else if op=7\/op=8\/op=9\/op=10\/op=11\/op=12 then Bo (um op (wF l 0) (wF l 1))
 else if op=18 then Od (wF l 0) else if op=19 then MF (wF l 0) (wF l 1) else if op=20 then Me (wF l 0) else if op=21 then nu (decide ((wF l 0).kind=0))
 else if op=22 then (bif decide (tF_ (wF l 0)=2) then wF l 1 else wF l 2) else if op=23 then Bt l else if op=24 then NB k (wF l 0) (wF l 1) (wF l 2) (wF l 3)
 else fP op (wF l 0) (wF l 1)
theorem Ye {α:Type} {l:List α} (h:l.length=1) : ∃ a,l=[a]:=match l,h with|[a],_=>⟨a,rfl⟩
theorem Vw {α:Type} {l:List α} (h:l.length=2) : ∃ a b,l=[a,b]:=match l,h with|[a,b],_=>⟨a,b,rfl⟩
theorem aad {α:Type} {l:List α} (h:l.length=3) : ∃ a b c,l=[a,b,c]:=match l,h with|[a,b,c],_=>⟨a,b,c,rfl⟩
theorem ac9 {α:Type} {l:List α} (h:l.length=4) : ∃ a b c d,l=[a,b,c,d]:=match l,h with|[a,b,c,d],_=>⟨a,b,c,d,rfl⟩
theorem adb {α:Type} {l:List α} (h:1<=l.length) : ∃ a m,l=a::m:=match l,h with|a::m,_=>⟨a,m,rfl⟩
structure rC (op:Int) (l:List Val):Prop where
 lo:(kS op).1<=((l.length:Nat):Int)
 hi:((l.length:Nat):Int)<=(kS op).2
 len:l.length<=100000
 vf : ∀ v∈l,vF v=true
theorem sh1 {op:Int} {l:List Val} (A:rC op l) (h:kS op=(1,1)) : ∃ a,l=[a]/\VV a:=by
 have h1:=A.lo
 have h2:=A.hi
 rw [h] at h1 h2
 dsimp only at h1 h2
 obtain ⟨a,rfl⟩:=Ye (l:=l) (by omega)
 exact ⟨a,rfl,xq (A.vf a (by simp))⟩
theorem Fz {op:Int} {l:List Val} (A:rC op l) (h:kS op=(2,2)) : ∃ a b,l=[a,b]/\VV a/\VV b:=by
 have h1:=A.lo
 have h2:=A.hi
 rw [h] at h1 h2
 dsimp only at h1 h2
 obtain ⟨a,b,rfl⟩:=Vw (l:=l) (by omega)
 exact ⟨a,b,rfl,xq (A.vf a (by simp)),xq (A.vf b (by simp))⟩
theorem sh3 {op:Int} {l:List Val} (A:rC op l) (h:kS op=(3,3)) : ∃ a b c,l=[a,b,c]:=by
 have h1:=A.lo
 have h2:=A.hi
 rw [h] at h1 h2
 dsimp only at h1 h2
 exact aad (l:=l) (by omega)
theorem sh4 {op:Int} {l:List Val} (A:rC op l) (h:kS op=(4,4)) : ∃ a b c d,l=[a,b,c,d]:=by
 have h1:=A.lo
 have h2:=A.hi
 rw [h] at h1 h2
 dsimp only at h1 h2
 exact ac9 (l:=l) (by omega)
theorem UX {op:Int} {l:List Val} (A:rC op l) (h:1<=(kS op).1) : ∃ a m,l=a::m/\VV a/\m.length<=1000000:=by
 have h1:=A.lo
 have h3:=A.len
 obtain ⟨a,m,rfl⟩:=adb (l:=l) (by omega)
 exact ⟨a,m,rfl,xq (A.vf a (by simp)),by rw [ad5] at h3;omega⟩
theorem N8 (e:Ex) (row l:List Val) (i:Int) (A:rC e.op l) (ho:e.op=4\/e.op=5\/e.op=6\/e.op=7\/e.op=8\/e.op=9\/e.op=10\/e.op=11\/e.op=12\/e.op=13\/e.op=14\/e.op=15\/e.op=16\/e.op=17\/e.op=18\/e.op=19\/e.op=20\/e.op=21\/e.op=22\/e.op=23\/e.op=24):gER_K e row (.inl (l,i))=some (oh e.op e.int l):=by
 rcases ho with ho|ho|ho|ho|ho|ho|ho|ho|ho|ho|ho|ho|ho|ho|ho|ho|ho|ho|ho|ho|ho
 ·obtain ⟨a,rfl,va⟩:=sh1 A (by rw [ho];rfl)
  have hv:oh 4 e.int [a]=Bo (Gw (tF_ a)):=rfl
  rw [ho,hv]
  unfold gER_K
  dsimp only
  simp only [ho,Int.reduceEq,decide_false,decide_true,adK,adJ]
  rw [show aA [a] (0:Int)=some a from rfl,adH,pX,adH,Cr (jc a),adH,qI (vO _)];rfl
 ·obtain ⟨a,m,rfl,va,hm⟩:=UX A (by rw [ho];decide)
  have hv:oh 5 e.int (a::m)=Bo (Co JS m (tF_ a)):=rfl
  rw [ho,hv]
  unfold gER_K
  dsimp only
  simp only [ho,Int.reduceEq,decide_false,decide_true,adK,adJ]
  rw [Ib 5 JS M5 (fun a b ha hb=>by rw [show decide ((5:Int)=5)=true from rfl];exact Yy ha hb) a m hm];rfl
 ·obtain ⟨a,m,rfl,va,hm⟩:=UX A (by rw [ho];decide)
  have hv:oh 6 e.int (a::m)=Bo (Co YG m (tF_ a)):=rfl
  rw [ho,hv]
  unfold gER_K
  dsimp only
  simp only [ho,Int.reduceEq,decide_false,decide_true,adK,adJ]
  rw [Ib 6 YG RU (fun a b ha hb=>by rw [show decide ((6:Int)=5)=false from rfl];exact Zp ha hb) a m hm];rfl
 ·obtain ⟨a,b,rfl,va,vb⟩:=Fz A (by rw [ho];rfl)
  have hv:oh 7 e.int [a,b]=Bo (um 7 a b):=rfl
  rw [ho,hv]
  unfold gER_K
  dsimp only
  simp only [ho,Int.reduceEq,decide_false,decide_true,adK,adJ]
  rw [show aA [a,b] (0:Int)=some a from rfl,adH,show aA [a,b] (1:Int)=some b from rfl,adH,iT,adH,qI (jB _ _ _)];rfl
 ·obtain ⟨a,b,rfl,va,vb⟩:=Fz A (by rw [ho];rfl)
  have hv:oh 8 e.int [a,b]=Bo (um 8 a b):=rfl
  rw [ho,hv]
  unfold gER_K
  dsimp only
  simp only [ho,Int.reduceEq,decide_false,decide_true,adK,adJ]
  rw [show aA [a,b] (0:Int)=some a from rfl,adH,show aA [a,b] (1:Int)=some b from rfl,adH,iT,adH,qI (jB _ _ _)];rfl
 ·obtain ⟨a,b,rfl,va,vb⟩:=Fz A (by rw [ho];rfl)
  have hv:oh 9 e.int [a,b]=Bo (um 9 a b):=rfl
  rw [ho,hv]
  unfold gER_K
  dsimp only
  simp only [ho,Int.reduceEq,decide_false,decide_true,adK,adJ]
  rw [show aA [a,b] (0:Int)=some a from rfl,adH,show aA [a,b] (1:Int)=some b from rfl,adH,iT,adH,qI (jB _ _ _)];rfl
 ·obtain ⟨a,b,rfl,va,vb⟩:=Fz A (by rw [ho];rfl)
  have hv:oh 10 e.int [a,b]=Bo (um 10 a b):=rfl
  rw [ho,hv]
  unfold gER_K
  dsimp only
  simp only [ho,Int.reduceEq,decide_false,decide_true,adK,adJ]
  rw [show aA [a,b] (0:Int)=some a from rfl,adH,show aA [a,b] (1:Int)=some b from rfl,adH,iT,adH,qI (jB _ _ _)];rfl
 ·obtain ⟨a,b,rfl,va,vb⟩:=Fz A (by rw [ho];rfl)
  have hv:oh 11 e.int [a,b]=Bo (um 11 a b):=rfl
  rw [ho,hv]
  unfold gER_K
  dsimp only
  simp only [ho,Int.reduceEq,decide_false,decide_true,adK,adJ]
  rw [show aA [a,b] (0:Int)=some a from rfl,adH,show aA [a,b] (1:Int)=some b from rfl,adH,iT,adH,qI (jB _ _ _)];rfl
 ·obtain ⟨a,b,rfl,va,vb⟩:=Fz A (by rw [ho];rfl)
  have hv:oh 12 e.int [a,b]=Bo (um 12 a b):=rfl
  rw [ho,hv]
  unfold gER_K
  dsimp only
  simp only [ho,Int.reduceEq,decide_false,decide_true,adK,adJ]
  rw [show aA [a,b] (0:Int)=some a from rfl,adH,show aA [a,b] (1:Int)=some b from rfl,adH,iT,adH,qI (jB _ _ _)];rfl
 ·obtain ⟨a,b,rfl,va,vb⟩:=Fz A (by rw [ho];rfl)
  have hv:oh 13 e.int [a,b]=fP 13 a b:=rfl
  rw [ho,hv]
  unfold gER_K
  dsimp only
  simp only [ho,Int.reduceEq,decide_false,decide_true,adK,adJ]
  unfold fP
  rw [nD _ _ (by simp),adH]
  cases fM [a,b] 1 with
  | false=>exact congrArg (fun o:Option Val=>o.bind fun r=>some r) bV
  | true=>exact congrArg (fun o:Option Val=>o.bind fun r=>some r) (gJ va.int).1
 ·obtain ⟨a,b,rfl,va,vb⟩:=Fz A (by rw [ho];rfl)
  have hv:oh 14 e.int [a,b]=fP 14 a b:=rfl
  rw [ho,hv]
  unfold gER_K
  dsimp only
  simp only [ho,Int.reduceEq,decide_false,decide_true,adK,adJ]
  unfold fP
  rw [nD _ _ (by simp),adH]
  cases fM [a,b] 1 with
  | false=>exact congrArg (fun o:Option Val=>o.bind fun r=>some r) bV
  | true=>exact congrArg (fun o:Option Val=>o.bind fun r=>some r) (gJ va.int).1
 ·obtain ⟨a,b,rfl,va,vb⟩:=Fz A (by rw [ho];rfl)
  have hv:oh 15 e.int [a,b]=fP 15 a b:=rfl
  rw [ho,hv]
  unfold gER_K
  dsimp only
  simp only [ho,Int.reduceEq,decide_false,decide_true,adK,adJ]
  unfold fP
  rw [nD _ _ (by simp),adH]
  cases fM [a,b] 1 with
  | false=>exact congrArg (fun o:Option Val=>o.bind fun r=>some r) bV
  | true=>exact congrArg (fun o:Option Val=>o.bind fun r=>some r) (gJ va.int).1
 ·obtain ⟨a,b,rfl,va,vb⟩:=Fz A (by rw [ho];rfl)
  have hv:oh 16 e.int [a,b]=fP 16 a b:=rfl
  rw [ho,hv]
  unfold gER_K
  dsimp only
  simp only [ho,Int.reduceEq,decide_false,decide_true,adK,adJ]
  unfold fP
  rw [nD _ _ (by simp),adH]
  cases fM [a,b] 1 with
  | false=>exact congrArg (fun o:Option Val=>o.bind fun r=>some r) bV
  | true=>exact congrArg (fun o:Option Val=>o.bind fun r=>some r) (gJ va.int).1
 ·obtain ⟨a,b,rfl,va,vb⟩:=Fz A (by rw [ho];rfl)
  have hv:oh 17 e.int [a,b]=fP 17 a b:=rfl
  rw [ho,hv]
  unfold gER_K
  dsimp only
  simp only [ho,Int.reduceEq,decide_false,decide_true,adK,adJ]
  unfold fP
  rw [nD _ _ (by simp),adH]
  cases fM [a,b] 1 with
  | false=>exact congrArg (fun o:Option Val=>o.bind fun r=>some r) bV
  | true=>exact congrArg (fun o:Option Val=>o.bind fun r=>some r) (gJ va.int).1
 ·obtain ⟨a,rfl,va⟩:=sh1 A (by rw [ho];rfl)
  have hv:oh 18 e.int [a]=Od a:=rfl
  rw [ho,hv]
  unfold gER_K
  dsimp only
  simp only [ho,Int.reduceEq,decide_false,decide_true,adK,adJ]
  unfold Od
  rw [nD _ _ (by simp),adH]
  cases fM [a] 1 with
  | false=>exact congrArg (fun o:Option Val=>o.bind fun r=>some r) bV
  | true=>exact congrArg (fun o:Option Val=>o.bind fun r=>some r) (kH _)
 ·obtain ⟨a,b,rfl,va,vb⟩:=Fz A (by rw [ho];rfl)
  have hv:oh 19 e.int [a,b]=MF a b:=rfl
  rw [ho,hv]
  unfold gER_K
  dsimp only
  simp only [ho,Int.reduceEq,decide_false,decide_true,adK,adJ]
  rw [RX va vb];rfl
 ·obtain ⟨a,rfl,va⟩:=sh1 A (by rw [ho];rfl)
  have hv:oh 20 e.int [a]=Me a:=rfl
  rw [ho,hv]
  unfold gER_K
  dsimp only
  simp only [ho,Int.reduceEq,decide_false,decide_true,adK,adJ]
  rw [RZ];rfl
 ·obtain ⟨a,rfl,va⟩:=sh1 A (by rw [ho];rfl)
  have hv:oh 21 e.int [a]=nu (decide (a.kind=0)):=rfl
  rw [ho,hv]
  unfold gER_K
  dsimp only
  simp only [ho,Int.reduceEq,decide_false,decide_true,adK,adJ]
  rw [show aA [a] (0:Int)=some a from rfl,adH,yX];rfl
 ·obtain ⟨a,b,c,rfl⟩:=sh3 A (by rw [ho];rfl)
  have hv:oh 22 e.int [a,b,c]=(bif decide (tF_ a=2) then b else c):=rfl
  rw [ho,hv]
  unfold gER_K
  dsimp only
  simp only [ho,Int.reduceEq,decide_false,decide_true,adK,adJ]
  unfold uT
  rw [show decide ((22:Int)=22)=true from rfl,adK,show aA [a,b,c] (0:Int)=some a from rfl,adH,pX,adH]
  cases decide (tF_ a=2)<;>rfl
 ·obtain ⟨a,m,rfl,va,hm⟩:=UX A (by rw [ho];decide)
  have hv:oh 23 e.int (a::m)=Bt (a::m):=rfl
  rw [ho,hv]
  unfold gER_K
  dsimp only
  simp only [ho,Int.reduceEq,decide_false,decide_true,adK,adJ]
  rw [MK _ A.len];rfl
 ·obtain ⟨a,b,c,d,rfl⟩:=sh4 A (by rw [ho];rfl)
  have hv:oh 24 e.int [a,b,c,d]=NB e.int a b c d:=rfl
  rw [ho,hv]
  unfold gER_K
  dsimp only
  simp only [ho,Int.reduceEq,decide_false,decide_true,adK,adJ]
  rw [ND];rfl
theorem Xk (e:Ex) (l:List Val) (i:Int) (A:rC e.op l) (hle:l.length=e.args.length) (ho:e.op=4\/e.op=5\/e.op=6\/e.op=7\/e.op=8\/e.op=9\/e.op=10\/e.op=11\/e.op=12\/e.op=13\/e.op=14\/e.op=15\/e.op=16\/e.op=17\/e.op=18\/e.op=19\/e.op=20\/e.op=21\/e.op=23\/e.op=24):bD e (.inl (l,i))=some (oh e.op e.int l):=by
 rcases ho with ho|ho|ho|ho|ho|ho|ho|ho|ho|ho|ho|ho|ho|ho|ho|ho|ho|ho|ho|ho
 ·obtain ⟨a,rfl,va⟩:=sh1 A (by rw [ho];rfl)
  have hv:oh 4 e.int [a]=Bo (Gw (tF_ a)):=rfl
  rw [ho,hv]
  unfold bD
  dsimp only
  rw [adM hle,adK]
  simp only [ho,Int.reduceEq,decide_false,decide_true,adK,adJ]
  rw [QG];rfl
 ·obtain ⟨a,m,rfl,va,hm⟩:=UX A (by rw [ho];decide)
  have hv:oh 5 e.int (a::m)=Bo (Co JS m (tF_ a)):=rfl
  rw [ho,hv]
  unfold bD
  dsimp only
  rw [adM hle,adK]
  simp only [ho,Int.reduceEq,decide_false,decide_true,adK,adJ]
  rw [QU a m hm];rfl
 ·obtain ⟨a,m,rfl,va,hm⟩:=UX A (by rw [ho];decide)
  have hv:oh 6 e.int (a::m)=Bo (Co YG m (tF_ a)):=rfl
  rw [ho,hv]
  unfold bD
  dsimp only
  rw [adM hle,adK]
  simp only [ho,Int.reduceEq,decide_false,decide_true,adK,adJ]
  rw [Vb a m hm];rfl
 ·obtain ⟨a,b,rfl,va,vb⟩:=Fz A (by rw [ho];rfl)
  have hv:oh 7 e.int [a,b]=Bo (um 7 a b):=rfl
  rw [ho,hv]
  unfold bD
  dsimp only
  rw [adM hle,adK]
  simp only [ho,Int.reduceEq,decide_false,decide_true,adK,adJ]
  rw [show aA [a,b] (0:Int)=some a from rfl,adH,show aA [a,b] (1:Int)=some b from rfl,adH,fZ,adH,kz (jB _ _ _)];rfl
 ·obtain ⟨a,b,rfl,va,vb⟩:=Fz A (by rw [ho];rfl)
  have hv:oh 8 e.int [a,b]=Bo (um 8 a b):=rfl
  rw [ho,hv]
  unfold bD
  dsimp only
  rw [adM hle,adK]
  simp only [ho,Int.reduceEq,decide_false,decide_true,adK,adJ]
  rw [show aA [a,b] (0:Int)=some a from rfl,adH,show aA [a,b] (1:Int)=some b from rfl,adH,fZ,adH,kz (jB _ _ _)];rfl
 ·obtain ⟨a,b,rfl,va,vb⟩:=Fz A (by rw [ho];rfl)
  have hv:oh 9 e.int [a,b]=Bo (um 9 a b):=rfl
  rw [ho,hv]
  unfold bD
  dsimp only
  rw [adM hle,adK]
  simp only [ho,Int.reduceEq,decide_false,decide_true,adK,adJ]
  rw [show aA [a,b] (0:Int)=some a from rfl,adH,show aA [a,b] (1:Int)=some b from rfl,adH,fZ,adH,kz (jB _ _ _)];rfl
 ·obtain ⟨a,b,rfl,va,vb⟩:=Fz A (by rw [ho];rfl)
  have hv:oh 10 e.int [a,b]=Bo (um 10 a b):=rfl
  rw [ho,hv]
  unfold bD
  dsimp only
  rw [adM hle,adK]
  simp only [ho,Int.reduceEq,decide_false,decide_true,adK,adJ]
  rw [show aA [a,b] (0:Int)=some a from rfl,adH,show aA [a,b] (1:Int)=some b from rfl,adH,fZ,adH,kz (jB _ _ _)];rfl
 ·obtain ⟨a,b,rfl,va,vb⟩:=Fz A (by rw [ho];rfl)
  have hv:oh 11 e.int [a,b]=Bo (um 11 a b):=rfl
  rw [ho,hv]
  unfold bD
  dsimp only
  rw [adM hle,adK]
  simp only [ho,Int.reduceEq,decide_false,decide_true,adK,adJ]
  rw [show aA [a,b] (0:Int)=some a from rfl,adH,show aA [a,b] (1:Int)=some b from rfl,adH,fZ,adH,kz (jB _ _ _)];rfl
 ·obtain ⟨a,b,rfl,va,vb⟩:=Fz A (by rw [ho];rfl)
  have hv:oh 12 e.int [a,b]=Bo (um 12 a b):=rfl
  rw [ho,hv]
  unfold bD
  dsimp only
  rw [adM hle,adK]
  simp only [ho,Int.reduceEq,decide_false,decide_true,adK,adJ]
  rw [show aA [a,b] (0:Int)=some a from rfl,adH,show aA [a,b] (1:Int)=some b from rfl,adH,fZ,adH,kz (jB _ _ _)];rfl
 ·obtain ⟨a,b,rfl,va,vb⟩:=Fz A (by rw [ho];rfl)
  have hv:oh 13 e.int [a,b]=fP 13 a b:=rfl
  rw [ho,hv]
  unfold bD
  dsimp only
  rw [adM hle,adK]
  simp only [ho,Int.reduceEq,decide_false,decide_true,adK,adJ]
  rw [pQ va (by omega)];rfl
 ·obtain ⟨a,b,rfl,va,vb⟩:=Fz A (by rw [ho];rfl)
  have hv:oh 14 e.int [a,b]=fP 14 a b:=rfl
  rw [ho,hv]
  unfold bD
  dsimp only
  rw [adM hle,adK]
  simp only [ho,Int.reduceEq,decide_false,decide_true,adK,adJ]
  rw [pQ va (by omega)];rfl
 ·obtain ⟨a,b,rfl,va,vb⟩:=Fz A (by rw [ho];rfl)
  have hv:oh 15 e.int [a,b]=fP 15 a b:=rfl
  rw [ho,hv]
  unfold bD
  dsimp only
  rw [adM hle,adK]
  simp only [ho,Int.reduceEq,decide_false,decide_true,adK,adJ]
  rw [pQ va (by omega)];rfl
 ·obtain ⟨a,b,rfl,va,vb⟩:=Fz A (by rw [ho];rfl)
  have hv:oh 16 e.int [a,b]=fP 16 a b:=rfl
  rw [ho,hv]
  unfold bD
  dsimp only
  rw [adM hle,adK]
  simp only [ho,Int.reduceEq,decide_false,decide_true,adK,adJ]
  rw [pQ va (by omega)];rfl
 ·obtain ⟨a,b,rfl,va,vb⟩:=Fz A (by rw [ho];rfl)
  have hv:oh 17 e.int [a,b]=fP 17 a b:=rfl
  rw [ho,hv]
  unfold bD
  dsimp only
  rw [adM hle,adK]
  simp only [ho,Int.reduceEq,decide_false,decide_true,adK,adJ]
  rw [pQ va (by omega)];rfl
 ·obtain ⟨a,rfl,va⟩:=sh1 A (by rw [ho];rfl)
  have hv:oh 18 e.int [a]=Od a:=rfl
  rw [ho,hv]
  unfold bD
  dsimp only
  rw [adM hle,adK]
  simp only [ho,Int.reduceEq,decide_false,decide_true,adK,adJ]
  rw [RJ];rfl
 ·obtain ⟨a,b,rfl,va,vb⟩:=Fz A (by rw [ho];rfl)
  have hv:oh 19 e.int [a,b]=MF a b:=rfl
  rw [ho,hv]
  unfold bD
  dsimp only
  rw [adM hle,adK]
  simp only [ho,Int.reduceEq,decide_false,decide_true,adK,adJ]
  rw [RV va vb];rfl
 ·obtain ⟨a,rfl,va⟩:=sh1 A (by rw [ho];rfl)
  have hv:oh 20 e.int [a]=Me a:=rfl
  rw [ho,hv]
  unfold bD
  dsimp only
  rw [adM hle,adK]
  simp only [ho,Int.reduceEq,decide_false,decide_true,adK,adJ]
  rw [R5 va];rfl
 ·obtain ⟨a,rfl,va⟩:=sh1 A (by rw [ho];rfl)
  have hv:oh 21 e.int [a]=nu (decide (a.kind=0)):=rfl
  rw [ho,hv]
  unfold bD
  dsimp only
  rw [adM hle,adK]
  simp only [ho,Int.reduceEq,decide_false,decide_true,adK,adJ]
  rw [show aA [a] (0:Int)=some a from rfl,adH,J7];rfl
 ·obtain ⟨a,m,rfl,va,hm⟩:=UX A (by rw [ho];decide)
  have hv:oh 23 e.int (a::m)=Bt (a::m):=rfl
  rw [ho,hv]
  unfold bD
  dsimp only
  rw [adM hle,adK]
  simp only [ho,Int.reduceEq,decide_false,decide_true,adK,adJ]
  exact R3 _ A.len
 ·obtain ⟨a,b,c,d,rfl⟩:=sh4 A (by rw [ho];rfl)
  have hv:oh 24 e.int [a,b,c,d]=NB e.int a b c d:=rfl
  rw [ho,hv]
  unfold bD
  dsimp only
  rw [adM hle,adK]
  simp only [ho,Int.reduceEq,decide_false,decide_true,adK,adJ]
  rw [Pp];rfl
theorem ab7 (k:Int) {op:Int} {l:List Val} (A:rC op l) (ho:op=4\/op=5\/op=6\/op=7\/op=8\/op=9\/op=10\/op=11\/op=12\/op=13\/op=14\/op=15\/op=16\/op=17\/op=18\/op=19\/op=20\/op=21\/op=22\/op=23\/op=24):vF (oh op k l)=true:=by
 rcases ho with rfl|rfl|rfl|rfl|rfl|rfl|rfl|rfl|rfl|rfl|rfl|rfl|rfl|rfl|rfl|rfl|rfl|rfl|rfl|rfl|rfl
 ·exact uM _
 ·exact uM _
 ·exact uM _
 ·exact uM _
 ·exact uM _
 ·exact uM _
 ·exact uM _
 ·exact uM _
 ·exact uM _
 ·have hlo:=A.lo
  have hhi:=A.hi
  rw [acH] at hlo hhi
  dsimp only at hlo hhi
  obtain ⟨a,b,rfl⟩:=Vw (l:=l) (by omega)
  exact sP (xq (A.vf a (by simp)))
 ·have hlo:=A.lo
  have hhi:=A.hi
  rw [abP] at hlo hhi
  dsimp only at hlo hhi
  obtain ⟨a,b,rfl⟩:=Vw (l:=l) (by omega)
  exact sP (xq (A.vf a (by simp)))
 ·have hlo:=A.lo
  have hhi:=A.hi
  rw [abV] at hlo hhi
  dsimp only at hlo hhi
  obtain ⟨a,b,rfl⟩:=Vw (l:=l) (by omega)
  exact sP (xq (A.vf a (by simp)))
 ·have hlo:=A.lo
  have hhi:=A.hi
  rw [abR] at hlo hhi
  dsimp only at hlo hhi
  obtain ⟨a,b,rfl⟩:=Vw (l:=l) (by omega)
  exact sP (xq (A.vf a (by simp)))
 ·have hlo:=A.lo
  have hhi:=A.hi
  rw [acm] at hlo hhi
  dsimp only at hlo hhi
  obtain ⟨a,b,rfl⟩:=Vw (l:=l) (by omega)
  exact sP (xq (A.vf a (by simp)))
 ·exact aa1 _
 ·exact aaA _ _
 ·exact abq _
 ·exact Fb _
 ·have hlo:=A.lo
  have hhi:=A.hi
  rw [abr] at hlo hhi
  dsimp only at hlo hhi
  obtain ⟨a,b,c,rfl⟩:=aad (l:=l) (by omega)
  show vF (bif decide (tF_ a=2) then b else c)=true
  cases decide (tF_ a=2)
  ·exact A.vf c (by simp)
  ·exact A.vf b (by simp)
 ·exact Y3 A.vf
 ·exact abu _ _ _ _ _
theorem KA (row:List Val) : ∀ (n:Nat) (e:Ex),eY n e -> ∃ v,dE n e row=some v/\xw n e row=some v/\vF v=true
 | 0,_,h=>h.elim
 | n+1,e,h=>by
  have hx : ∀ x∈e.args,dE n x row=some ((dE n x row).getD jr)/\xw n x row=some ((dE n x row).getD jr)/\vF ((dE n x row).getD jr)=true:=by
   intro x hx
   obtain ⟨v,h1,h2,h3⟩:=KA row n x (h.2 x hx)
   rw [h1];exact ⟨rfl,h2,h3⟩
  generalize hg:(fun x=>(dE n x row).getD jr)=g at hx
  have hx' : ∀ x∈e.args,dE n x row=some (g x)/\xw n x row=some (g x)/\vF (g x)=true:=by subst hg;exact hx
  show ∃ v,jZ (dE n) e row=some v/\D9 (xw n) e row=some v/\vF v=true
  have hR:jZ (dE n) e row=(bif jk e then gER_K e row (.inl (e.args.map g,((e.args.length:Nat):Int))) else some jr):=by
   unfold jZ
   rw [qC h.1,adH,bV]
   cases jk e with
   | false=>rfl
   | true =>
    rw [Bool.not_true,adJ,adK]
    have:=bJ (l:=e.args) (body:=ed e row (dE n)) (fun x=>[g x]) 4398046511104 ?_ ?_ (by unfold fuel;have:=h.1;omega) [] ?_
    ·rw [this,adN, <- List.map_eq_flatMap];rfl
    ·intro s i x hx1 hb
     have hi:=(adI.1 hx1).1
     have hlen:=h.1
     unfold ed
     dsimp only
     rw [aI hx1,adK,gn_ hx1,wrapN (by omega),adH,(hx' x (adO hx1)).1,adH,adM (show s.length+1<=4398046511104 from hb),adK]
    ·intro s
     unfold ed
     dsimp only
     rw [lF_,adJ]
    ·have:=h.1
     rw [<- List.map_eq_flatMap,adU];simp;omega
  have hP:D9 (xw n) e row=(bif jk e then (if e.op=1 then some e.v else if e.op=2 then some (Jk (wF row e.int)) else if e.op=22 then some (oh 22 e.int (e.args.map g)) else bD e (.inl (e.args.map g,((e.args.length:Nat):Int)))) else some jr):=by
   unfold D9
   rw [Gi h.1,adH,mo]
   cases hf:jk e with
   | false=>rfl
   | true =>
    rw [Bool.not_true,adJ,adK]
    by_cases o1:e.op=1
    ·rw [adM o1,adK,if_pos o1]
    rw [adL o1,adJ,if_neg o1]
    by_cases o2:e.op=2
    ·rw [adM o2,adK,if_pos o2,Rx];rfl
    rw [adL o2,adJ,if_neg o2]
    by_cases o3:e.op=22
    ·rw [adM o3,adK,if_pos o3]
     obtain ⟨_,hlo,hhi,_⟩:=o6 h.1 hf
     rw [o3,abr] at hlo hhi
     dsimp only at hlo hhi
     obtain ⟨a,b,c,ha⟩:=aad (l:=e.args) (by omega)
     rw [ha] at hx' ⊢
     unfold Ff
     rw [show aA [a,b,c] (0:Int)=some a from rfl,show aA [a,b,c] (1:Int)=some b from rfl,show aA [a,b,c] (2:Int)=some c from rfl]
     simp only [adH]
     rw [(hx' a (by simp)).2.1,adH,jF,(hx' b (by simp)).2.1,(hx' c (by simp)).2.1]
     show _=some (bif decide (tF_ (g a)=2) then g b else g c)
     simp only [adH]
     cases decide (tF_ (g a)=2)<;>rfl
    ·rw [adL o3,adJ,if_neg o3]
     have hlen:=h.1
     rw [adM (show (0:Int)<=((e.args.length:Nat):Int) by omega),adM (show (32:Int)*((e.args.length:Nat):Int)<=281474976710656 by omega),adM (show ((e.args.length:Nat):Int)<=9223372036854775807 by omega),adK,adK,adK]
     have:=Qj (l:=e.args) (body:=sD e row (xw n)) g ?_ ?_ fuel 0 (List.replicate e.args.length ⟨0,0,ByteArray.empty⟩) (by simp) (ad4 _) (by unfold fuel;omega)
     ·rw [show ((0:Nat):Int)=0 from rfl] at this
      rw [this,List.take_zero,adN,List.drop_zero];rfl
     ·intro c i x hx1 hb
      have hi:=(adI.1 hx1).1
      unfold sD
      dsimp only
      rw [aI hx1,adK,gn_ hx1,wrapN (by omega),adH,(hx' x (adO hx1)).2.1,adH,adM (show (0:Int)<=(i:Int) by omega),adK,adK,show 0+((i:Int)).toNat=i by omega,adM hb,adK]
     ·intro c
      unfold sD
      dsimp only
      rw [lF_,adJ]
  rw [hR,hP]
  cases hf:jk e with
  | false=>exact ⟨_,rfl,rfl,mX⟩
  | true =>
   rw [adK,adK]
   obtain ⟨hops,hlo,hhi,hrest⟩:=o6 h.1 hf
   by_cases o1:e.op=1
   ·have hv:=I4 o1 hrest
    refine ⟨e.v,?_,by rw [if_pos o1],hv⟩
    unfold gER_K
    dsimp only
    rw [adM o1,adK,Er e row o1 hv];rfl
   by_cases o2:e.op=2
   ·refine ⟨Jk (wF row e.int),?_,by rw [if_neg o1,if_pos o2],rG _⟩
    unfold gER_K
    dsimp only
    rw [adL o1,adJ,adM o2,adK,KI e row o2];rfl
   have A:rC e.op (e.args.map g):=by
    refine ⟨by rw [adU];exact hlo,by rw [adU];exact hhi,by rw [adU];exact h.1,fun v hv=>?_⟩
    obtain ⟨x,hx1,rfl⟩:=aeh.1 hv
    exact (hx' x hx1).2.2
   have hops2:e.op=4\/e.op=5\/e.op=6\/e.op=7\/e.op=8\/e.op=9\/e.op=10\/e.op=11\/e.op=12\/e.op=13\/e.op=14\/e.op=15\/e.op=16\/e.op=17\/e.op=18\/e.op=19\/e.op=20\/e.op=21\/e.op=22\/e.op=23\/e.op=24:=by omega
   refine ⟨oh e.op e.int (e.args.map g),N8 e row _ _ A hops2,?_,ab7 _ A hops2⟩
   rw [if_neg o1,if_neg o2]
   by_cases o3:e.op=22
   ·rw [if_pos o3,o3]
   ·rw [if_neg o3]
    exact Xk e _ _ A (by rw [adU]) (by omega)
end Go.Proofs.YtfccopdbgfdcdaaGreatDoor
