/- Parts of the proof, joined. No condition. -/
import Derived.Test.YtfccopdbgfdcdaaGreatDoorKBR
import Derived.Test.YtfccopdbgfdcdaaGreatDoorKBP
set_option linter.unusedSimpArgs false
set_option linter.unusedVariables false
namespace Go.Proofs.YtfccopdbgfdcdaaGreatDoor
open Go.RowKit Go.MapKept
set_option maxRecDepth 100000
theorem loop_set {α β ρ:Type} {l:List α} {body:(List β × Int)→Option (Step (List β × Int) ρ)} (g:α→β) (h1 : ∀ (c:List β) (i:Nat) x,l[i]?=some x→i<c.length→body (c,(i:Int))=some (.next (c.set i (g x),((i+1:Nat):Int)))) (h2 : ∀ c:List β,body (c,((l.length:Nat):Int))=some (.exit (c,((l.length:Nat):Int)))) :
  ∀ (n i:Nat) (c:List β),c.length=l.length→i≤l.length→l.length-i<n→loopM body n (c,(i:Int))=some (.inl (c.take i++(l.drop i).map g,((l.length:Nat):Int)))
 | 0,i,c,_,_,h=>by omega
 | n+1,i,c,hc,hi,hn=>by
  rw [loopM]
  by_cases hlt:i<l.length
  ·obtain ⟨x,hx⟩:=gol_ hlt
   have e1:=(List.getElem?_eq_some_iff.1 hx).2
   rw [h1 c i x hx (by omega)]
   show loopM body n (c.set i (g x),((i+1:Nat):Int))=_
   rw [loop_set g h1 h2 n (i+1) (c.set i (g x)) (by rw [List.length_set];exact hc) (by omega) (by omega),List.drop_eq_getElem_cons hlt,e1,List.map_cons]
   congr 3
   rw [List.take_succ_eq_append_getElem (by rw [List.length_set];omega),List.getElem_set_self,List.append_assoc,List.take_set_of_le (Nat.le_refl i)]
   rfl
  ·have:i=l.length:=by omega
   subst this
   rw [h2,List.drop_length,List.map_nil,List.append_nil, ← hc,List.take_length]
def exOK:Nat→Ex→Prop
 | 0,_=>False
 | n+1,e=>e.args.length≤100000 ∧ ∀ x∈e.args,exOK n x
theorem exOK_mono : ∀ {n m:Nat} {e:Ex}, n≤m→exOK n e→exOK m e
 | 0,_,_,_,h=>h.elim
 | n+1,0,_,h,_=>by omega
 | n+1,m+1,e,h,k=>⟨k.1,fun x hx=>exOK_mono (by omega) (k.2 x hx)⟩
def coalF (l:List Val):Val:=(l.find? fun v=>decide (v.kind≠0)).getD nulV
theorem coal_fold : ∀ l:List Val,foldS (ρ:=Val) (fun (_:Unit) (v:Val)=>some (if v.kind≠0 then .inr v else .inl ())) () l=some (match l.find? fun v=>decide (v.kind≠0) with|some v => .inr v|none => .inl ())
 | []=>rfl
 | v::l=>by
  rw [foldS]
  by_cases h:v.kind=0
  ·simp only [ne_eq,h,not_true_eq_false,if_false]
   rw [coal_fold l,List.find?_cons_of_neg (by simp [h])]
  ·rw [List.find?_cons_of_pos (by simp [h])]
   simp [h]
theorem gChosen_coal (l:List Val) (hl:l.length≤100000):gChosen 23 l=some (coalF l):=by
 unfold gChosen
 rw [show decide ((23:Int)=22)=false from rfl,cond_false]
 rw [loop_list (l:=l) (mk:=fun (_:Unit) i=>i) (f:=fun _ v=>some (if v.kind≠0 then .inr v else .inl ())) ?_ ?_ (by unfold fuel;omega) ()]
 ·rw [coal_fold]
  unfold coalF
  cases l.find? fun v=>decide (v.kind≠0) with
  | none=>exact congrArg (fun o:Option Val=>o.bind fun r=>some r) gNullR_eq
  | some v=>rfl
 ·intro s i x hx
  have hi:=(List.getElem?_eq_some_iff.1 hx).1
  unfold gChosen_B1
  dsimp only
  rw [lt_dec hx,cond_true,gn_ hx,wrapN (by omega)]
  simp only [Option.bind_some]
  by_cases h:x.kind=0
  ·simp [h,foldN]
  ·simp [h,foldN]
 ·intro s
  unfold gChosen_B1
  dsimp only
  rw [lF_,cond_false]
theorem gEval_coal (l:List Val) (hl:l.length≤100000):(loopM (gEvalB_B2 l) fuel (0:Int)).bind gEvalB_K2=some (coalF l):=by
 rw [loop_list (l:=l) (mk:=fun (_:Unit) i=>i) (f:=fun _ v=>some (if v.kind≠0 then .inr v else .inl ())) ?_ ?_ (by unfold fuel;omega) ()]
 ·rw [coal_fold]
  unfold coalF
  cases l.find? fun v=>decide (v.kind≠0) with
  | none=>exact congrArg (fun o:Option Val=>o.bind fun r=>some r) gNull_eq
  | some v=>rfl
 ·intro s i x hx
  have hi:=(List.getElem?_eq_some_iff.1 hx).1
  unfold gEvalB_B2
  dsimp only
  rw [lt_dec hx,cond_true,gn_ hx,wrapN (by omega)]
  simp only [Option.bind_some]
  by_cases h:x.kind=0
  ·simp [h,foldN]
  ·simp [h,foldN]
 ·intro s
  unfold gEvalB_B2
  dsimp only
  rw [lF_,cond_false]
theorem vF_coal {l:List Val} (h : ∀ v∈l,vF v=true):vF (coalF l)=true:=by
 unfold coalF
 cases e:l.find? fun v=>decide (v.kind≠0) with
 | none=>exact vF_nul
 | some v=>exact h v (List.mem_of_find?_eq_some e)
theorem vF_arith2 {op:Int} {a b:Val} (h:VV a):vF (arith2 op a b)=true:=by
 unfold arith2
 cases areF [a,b] 1 with
 | false=>exact vF_nul
 | true=>exact (gComputed_eq h.int).2
theorem vF_neg (a:Val):vF (negF a)=true:=by
 unfold negF
 cases areF [a] 1 with
 | false=>exact vF_nul
 | true=>exact vF_orN _
theorem vF_cat (a b:Val):vF (catF a b)=true:=by
 unfold catF
 cases areF [a,b] 2 with
 | false=>exact vF_nul
 | true=>exact vF_orN _
theorem vF_len (a:Val):vF (lenF a)=true:=by
 unfold lenF
 cases areF [a] 2 with
 | false=>exact vF_nul
 | true=>exact vF_orN _
theorem vF_rel (r:Int) (a b c d:Val):vF (relV r a b c d)=true:=by
 unfold relV
 cases areF [a,b,c,d] 1 with
 | false=>exact vF_nul
 | true =>
  rw [cond_true]
  split
  ·exact vF_bool _
  ·exact vF_nul
def opV (op k:Int) (l:List Val):Val :=
 if op=4 then ofT (not3 (tF_ (atF l 0))) else if op=5 then ofT (logF and3 l.tail (tF_ (atF l 0))) else if op=6 then ofT (logF or3 l.tail (tF_ (atF l 0)))
 else if op=7∨op=8∨op=9∨op=10∨op=11∨op=12 then ofT (cmpF op (atF l 0) (atF l 1))
 else if op=18 then negF (atF l 0) else if op=19 then catF (atF l 0) (atF l 1) else if op=20 then lenF (atF l 0) else if op=21 then boolV (decide ((atF l 0).kind=0))
 else if op=22 then (bif decide (tF_ (atF l 0)=2) then atF l 1 else atF l 2) else if op=23 then coalF l else if op=24 then relV k (atF l 0) (atF l 1) (atF l 2) (atF l 3)
 else arith2 op (atF l 0) (atF l 1)
theorem len1 {α:Type} {l:List α} (h:l.length=1) : ∃ a,l=[a]:=match l,h with|[a],_=>⟨a,rfl⟩
theorem len2 {α:Type} {l:List α} (h:l.length=2) : ∃ a b,l=[a,b]:=match l,h with|[a,b],_=>⟨a,b,rfl⟩
theorem len3 {α:Type} {l:List α} (h:l.length=3) : ∃ a b c,l=[a,b,c]:=match l,h with|[a,b,c],_=>⟨a,b,c,rfl⟩
theorem len4 {α:Type} {l:List α} (h:l.length=4) : ∃ a b c d,l=[a,b,c,d]:=match l,h with|[a,b,c,d],_=>⟨a,b,c,d,rfl⟩
theorem lenP {α:Type} {l:List α} (h:1≤l.length) : ∃ a m,l=a::m:=match l,h with|a::m,_=>⟨a,m,rfl⟩
structure ArgsOK (op:Int) (l:List Val):Prop where
 lo:(arF op).1≤((l.length:Nat):Int)
 hi:((l.length:Nat):Int)≤(arF op).2
 len:l.length≤100000
 vf : ∀ v∈l,vF v=true
theorem sh1 {op:Int} {l:List Val} (A:ArgsOK op l) (h:arF op=(1,1)) : ∃ a,l=[a]∧VV a:=by
 have h1:=A.lo
 have h2:=A.hi
 rw [h] at h1 h2
 dsimp only at h1 h2
 obtain ⟨a,rfl⟩:=len1 (l:=l) (by omega)
 exact ⟨a,rfl,vv_of (A.vf a (by simp))⟩
theorem sh2 {op:Int} {l:List Val} (A:ArgsOK op l) (h:arF op=(2,2)) : ∃ a b,l=[a,b]∧VV a∧VV b:=by
 have h1:=A.lo
 have h2:=A.hi
 rw [h] at h1 h2
 dsimp only at h1 h2
 obtain ⟨a,b,rfl⟩:=len2 (l:=l) (by omega)
 exact ⟨a,b,rfl,vv_of (A.vf a (by simp)),vv_of (A.vf b (by simp))⟩
theorem sh3 {op:Int} {l:List Val} (A:ArgsOK op l) (h:arF op=(3,3)) : ∃ a b c,l=[a,b,c]:=by
 have h1:=A.lo
 have h2:=A.hi
 rw [h] at h1 h2
 dsimp only at h1 h2
 exact len3 (l:=l) (by omega)
theorem sh4 {op:Int} {l:List Val} (A:ArgsOK op l) (h:arF op=(4,4)) : ∃ a b c d,l=[a,b,c,d]:=by
 have h1:=A.lo
 have h2:=A.hi
 rw [h] at h1 h2
 dsimp only at h1 h2
 exact len4 (l:=l) (by omega)
theorem shPs {op:Int} {l:List Val} (A:ArgsOK op l) (h:1≤(arF op).1) : ∃ a m,l=a::m∧VV a∧m.length≤1000000:=by
 have h1:=A.lo
 have h3:=A.len
 obtain ⟨a,m,rfl⟩:=lenP (l:=l) (by omega)
 exact ⟨a,m,rfl,vv_of (A.vf a (by simp)),by rw [List.length_cons] at h3;omega⟩
theorem evalR_op (e:Ex) (row l:List Val) (i:Int) (A:ArgsOK e.op l) (ho:e.op=4∨e.op=5∨e.op=6∨e.op=7∨e.op=8∨e.op=9∨e.op=10∨e.op=11∨e.op=12∨e.op=13∨e.op=14∨e.op=15∨e.op=16∨e.op=17∨e.op=18∨e.op=19∨e.op=20∨e.op=21∨e.op=22∨e.op=23∨e.op=24):gER_K e row (.inl (l,i))=some (opV e.op e.int l):=by
 rcases ho with ho|ho|ho|ho|ho|ho|ho|ho|ho|ho|ho|ho|ho|ho|ho|ho|ho|ho|ho|ho|ho
 ·obtain ⟨a,rfl,va⟩:=sh1 A (by rw [ho];rfl)
  have hv:opV 4 e.int [a]=ofT (not3 (tF_ a)):=rfl
  rw [ho,hv]
  unfold gER_K
  dsimp only
  simp only [ho,Int.reduceEq,decide_false,decide_true,cond_true,cond_false]
  rw [show getI [a] (0:Int)=some a from rfl,Option.bind_some,gTruth7_eq,Option.bind_some,gNotR_eq (truthF_T3 a),Option.bind_some,gOf7_eq (not3_T3 _)];rfl
 ·obtain ⟨a,m,rfl,va,hm⟩:=shPs A (by rw [ho];decide)
  have hv:opV 5 e.int (a::m)=ofT (logF and3 m (tF_ a)):=rfl
  rw [ho,hv]
  unfold gER_K
  dsimp only
  simp only [ho,Int.reduceEq,decide_false,decide_true,cond_true,cond_false]
  rw [gLogicR_eq 5 and3 and3_T3 (fun a b ha hb=>by rw [show decide ((5:Int)=5)=true from rfl];exact gAndR_eq ha hb) a m hm];rfl
 ·obtain ⟨a,m,rfl,va,hm⟩:=shPs A (by rw [ho];decide)
  have hv:opV 6 e.int (a::m)=ofT (logF or3 m (tF_ a)):=rfl
  rw [ho,hv]
  unfold gER_K
  dsimp only
  simp only [ho,Int.reduceEq,decide_false,decide_true,cond_true,cond_false]
  rw [gLogicR_eq 6 or3 or3_T3 (fun a b ha hb=>by rw [show decide ((6:Int)=5)=false from rfl];exact gOrR_eq ha hb) a m hm];rfl
 ·obtain ⟨a,b,rfl,va,vb⟩:=sh2 A (by rw [ho];rfl)
  have hv:opV 7 e.int [a,b]=ofT (cmpF 7 a b):=rfl
  rw [ho,hv]
  unfold gER_K
  dsimp only
  simp only [ho,Int.reduceEq,decide_false,decide_true,cond_true,cond_false]
  rw [show getI [a,b] (0:Int)=some a from rfl,Option.bind_some,show getI [a,b] (1:Int)=some b from rfl,Option.bind_some,gCompared_eq,Option.bind_some,gOf7_eq (cmpF_T3 _ _ _)];rfl
 ·obtain ⟨a,b,rfl,va,vb⟩:=sh2 A (by rw [ho];rfl)
  have hv:opV 8 e.int [a,b]=ofT (cmpF 8 a b):=rfl
  rw [ho,hv]
  unfold gER_K
  dsimp only
  simp only [ho,Int.reduceEq,decide_false,decide_true,cond_true,cond_false]
  rw [show getI [a,b] (0:Int)=some a from rfl,Option.bind_some,show getI [a,b] (1:Int)=some b from rfl,Option.bind_some,gCompared_eq,Option.bind_some,gOf7_eq (cmpF_T3 _ _ _)];rfl
 ·obtain ⟨a,b,rfl,va,vb⟩:=sh2 A (by rw [ho];rfl)
  have hv:opV 9 e.int [a,b]=ofT (cmpF 9 a b):=rfl
  rw [ho,hv]
  unfold gER_K
  dsimp only
  simp only [ho,Int.reduceEq,decide_false,decide_true,cond_true,cond_false]
  rw [show getI [a,b] (0:Int)=some a from rfl,Option.bind_some,show getI [a,b] (1:Int)=some b from rfl,Option.bind_some,gCompared_eq,Option.bind_some,gOf7_eq (cmpF_T3 _ _ _)];rfl
 ·obtain ⟨a,b,rfl,va,vb⟩:=sh2 A (by rw [ho];rfl)
  have hv:opV 10 e.int [a,b]=ofT (cmpF 10 a b):=rfl
  rw [ho,hv]
  unfold gER_K
  dsimp only
  simp only [ho,Int.reduceEq,decide_false,decide_true,cond_true,cond_false]
  rw [show getI [a,b] (0:Int)=some a from rfl,Option.bind_some,show getI [a,b] (1:Int)=some b from rfl,Option.bind_some,gCompared_eq,Option.bind_some,gOf7_eq (cmpF_T3 _ _ _)];rfl
 ·obtain ⟨a,b,rfl,va,vb⟩:=sh2 A (by rw [ho];rfl)
  have hv:opV 11 e.int [a,b]=ofT (cmpF 11 a b):=rfl
  rw [ho,hv]
  unfold gER_K
  dsimp only
  simp only [ho,Int.reduceEq,decide_false,decide_true,cond_true,cond_false]
  rw [show getI [a,b] (0:Int)=some a from rfl,Option.bind_some,show getI [a,b] (1:Int)=some b from rfl,Option.bind_some,gCompared_eq,Option.bind_some,gOf7_eq (cmpF_T3 _ _ _)];rfl
 ·obtain ⟨a,b,rfl,va,vb⟩:=sh2 A (by rw [ho];rfl)
  have hv:opV 12 e.int [a,b]=ofT (cmpF 12 a b):=rfl
  rw [ho,hv]
  unfold gER_K
  dsimp only
  simp only [ho,Int.reduceEq,decide_false,decide_true,cond_true,cond_false]
  rw [show getI [a,b] (0:Int)=some a from rfl,Option.bind_some,show getI [a,b] (1:Int)=some b from rfl,Option.bind_some,gCompared_eq,Option.bind_some,gOf7_eq (cmpF_T3 _ _ _)];rfl
 ·obtain ⟨a,b,rfl,va,vb⟩:=sh2 A (by rw [ho];rfl)
  have hv:opV 13 e.int [a,b]=arith2 13 a b:=rfl
  rw [ho,hv]
  unfold gER_K
  dsimp only
  simp only [ho,Int.reduceEq,decide_false,decide_true,cond_true,cond_false]
  unfold arith2
  rw [gAre_eq _ _ (by simp),Option.bind_some]
  cases areF [a,b] 1 with
  | false=>exact congrArg (fun o:Option Val=>o.bind fun r=>some r) gNullR_eq
  | true=>exact congrArg (fun o:Option Val=>o.bind fun r=>some r) (gComputed_eq va.int).1
 ·obtain ⟨a,b,rfl,va,vb⟩:=sh2 A (by rw [ho];rfl)
  have hv:opV 14 e.int [a,b]=arith2 14 a b:=rfl
  rw [ho,hv]
  unfold gER_K
  dsimp only
  simp only [ho,Int.reduceEq,decide_false,decide_true,cond_true,cond_false]
  unfold arith2
  rw [gAre_eq _ _ (by simp),Option.bind_some]
  cases areF [a,b] 1 with
  | false=>exact congrArg (fun o:Option Val=>o.bind fun r=>some r) gNullR_eq
  | true=>exact congrArg (fun o:Option Val=>o.bind fun r=>some r) (gComputed_eq va.int).1
 ·obtain ⟨a,b,rfl,va,vb⟩:=sh2 A (by rw [ho];rfl)
  have hv:opV 15 e.int [a,b]=arith2 15 a b:=rfl
  rw [ho,hv]
  unfold gER_K
  dsimp only
  simp only [ho,Int.reduceEq,decide_false,decide_true,cond_true,cond_false]
  unfold arith2
  rw [gAre_eq _ _ (by simp),Option.bind_some]
  cases areF [a,b] 1 with
  | false=>exact congrArg (fun o:Option Val=>o.bind fun r=>some r) gNullR_eq
  | true=>exact congrArg (fun o:Option Val=>o.bind fun r=>some r) (gComputed_eq va.int).1
 ·obtain ⟨a,b,rfl,va,vb⟩:=sh2 A (by rw [ho];rfl)
  have hv:opV 16 e.int [a,b]=arith2 16 a b:=rfl
  rw [ho,hv]
  unfold gER_K
  dsimp only
  simp only [ho,Int.reduceEq,decide_false,decide_true,cond_true,cond_false]
  unfold arith2
  rw [gAre_eq _ _ (by simp),Option.bind_some]
  cases areF [a,b] 1 with
  | false=>exact congrArg (fun o:Option Val=>o.bind fun r=>some r) gNullR_eq
  | true=>exact congrArg (fun o:Option Val=>o.bind fun r=>some r) (gComputed_eq va.int).1
 ·obtain ⟨a,b,rfl,va,vb⟩:=sh2 A (by rw [ho];rfl)
  have hv:opV 17 e.int [a,b]=arith2 17 a b:=rfl
  rw [ho,hv]
  unfold gER_K
  dsimp only
  simp only [ho,Int.reduceEq,decide_false,decide_true,cond_true,cond_false]
  unfold arith2
  rw [gAre_eq _ _ (by simp),Option.bind_some]
  cases areF [a,b] 1 with
  | false=>exact congrArg (fun o:Option Val=>o.bind fun r=>some r) gNullR_eq
  | true=>exact congrArg (fun o:Option Val=>o.bind fun r=>some r) (gComputed_eq va.int).1
 ·obtain ⟨a,rfl,va⟩:=sh1 A (by rw [ho];rfl)
  have hv:opV 18 e.int [a]=negF a:=rfl
  rw [ho,hv]
  unfold gER_K
  dsimp only
  simp only [ho,Int.reduceEq,decide_false,decide_true,cond_true,cond_false]
  unfold negF
  rw [gAre_eq _ _ (by simp),Option.bind_some]
  cases areF [a] 1 with
  | false=>exact congrArg (fun o:Option Val=>o.bind fun r=>some r) gNullR_eq
  | true=>exact congrArg (fun o:Option Val=>o.bind fun r=>some r) (gIntR_or _)
 ·obtain ⟨a,b,rfl,va,vb⟩:=sh2 A (by rw [ho];rfl)
  have hv:opV 19 e.int [a,b]=catF a b:=rfl
  rw [ho,hv]
  unfold gER_K
  dsimp only
  simp only [ho,Int.reduceEq,decide_false,decide_true,cond_true,cond_false]
  rw [gTexts_cat va vb];rfl
 ·obtain ⟨a,rfl,va⟩:=sh1 A (by rw [ho];rfl)
  have hv:opV 20 e.int [a]=lenF a:=rfl
  rw [ho,hv]
  unfold gER_K
  dsimp only
  simp only [ho,Int.reduceEq,decide_false,decide_true,cond_true,cond_false]
  rw [gTexts_len];rfl
 ·obtain ⟨a,rfl,va⟩:=sh1 A (by rw [ho];rfl)
  have hv:opV 21 e.int [a]=boolV (decide (a.kind=0)):=rfl
  rw [ho,hv]
  unfold gER_K
  dsimp only
  simp only [ho,Int.reduceEq,decide_false,decide_true,cond_true,cond_false]
  rw [show getI [a] (0:Int)=some a from rfl,Option.bind_some,gBoolR_eq];rfl
 ·obtain ⟨a,b,c,rfl⟩:=sh3 A (by rw [ho];rfl)
  have hv:opV 22 e.int [a,b,c]=(bif decide (tF_ a=2) then b else c):=rfl
  rw [ho,hv]
  unfold gER_K
  dsimp only
  simp only [ho,Int.reduceEq,decide_false,decide_true,cond_true,cond_false]
  unfold gChosen
  rw [show decide ((22:Int)=22)=true from rfl,cond_true,show getI [a,b,c] (0:Int)=some a from rfl,Option.bind_some,gTruth7_eq,Option.bind_some]
  cases decide (tF_ a=2)<;>rfl
 ·obtain ⟨a,m,rfl,va,hm⟩:=shPs A (by rw [ho];decide)
  have hv:opV 23 e.int (a::m)=coalF (a::m):=rfl
  rw [ho,hv]
  unfold gER_K
  dsimp only
  simp only [ho,Int.reduceEq,decide_false,decide_true,cond_true,cond_false]
  rw [gChosen_coal _ A.len];rfl
 ·obtain ⟨a,b,c,d,rfl⟩:=sh4 A (by rw [ho];rfl)
  have hv:opV 24 e.int [a,b,c,d]=relV e.int a b c d:=rfl
  rw [ho,hv]
  unfold gER_K
  dsimp only
  simp only [ho,Int.reduceEq,decide_false,decide_true,cond_true,cond_false]
  rw [gRelatedR_eq];rfl
theorem evalP_op (e:Ex) (l:List Val) (i:Int) (A:ArgsOK e.op l) (hle:l.length=e.args.length) (ho:e.op=4∨e.op=5∨e.op=6∨e.op=7∨e.op=8∨e.op=9∨e.op=10∨e.op=11∨e.op=12∨e.op=13∨e.op=14∨e.op=15∨e.op=16∨e.op=17∨e.op=18∨e.op=19∨e.op=20∨e.op=21∨e.op=23∨e.op=24):gEvalB_K1 e (.inl (l,i))=some (opV e.op e.int l):=by
 rcases ho with ho|ho|ho|ho|ho|ho|ho|ho|ho|ho|ho|ho|ho|ho|ho|ho|ho|ho|ho|ho
 ·obtain ⟨a,rfl,va⟩:=sh1 A (by rw [ho];rfl)
  have hv:opV 4 e.int [a]=ofT (not3 (tF_ a)):=rfl
  rw [ho,hv]
  unfold gEvalB_K1
  dsimp only
  rw [decide_eq_true hle,cond_true]
  simp only [ho,Int.reduceEq,decide_false,decide_true,cond_true,cond_false]
  rw [gLogic_not];rfl
 ·obtain ⟨a,m,rfl,va,hm⟩:=shPs A (by rw [ho];decide)
  have hv:opV 5 e.int (a::m)=ofT (logF and3 m (tF_ a)):=rfl
  rw [ho,hv]
  unfold gEvalB_K1
  dsimp only
  rw [decide_eq_true hle,cond_true]
  simp only [ho,Int.reduceEq,decide_false,decide_true,cond_true,cond_false]
  rw [gLogic_and a m hm];rfl
 ·obtain ⟨a,m,rfl,va,hm⟩:=shPs A (by rw [ho];decide)
  have hv:opV 6 e.int (a::m)=ofT (logF or3 m (tF_ a)):=rfl
  rw [ho,hv]
  unfold gEvalB_K1
  dsimp only
  rw [decide_eq_true hle,cond_true]
  simp only [ho,Int.reduceEq,decide_false,decide_true,cond_true,cond_false]
  rw [gLogic_or a m hm];rfl
 ·obtain ⟨a,b,rfl,va,vb⟩:=sh2 A (by rw [ho];rfl)
  have hv:opV 7 e.int [a,b]=ofT (cmpF 7 a b):=rfl
  rw [ho,hv]
  unfold gEvalB_K1
  dsimp only
  rw [decide_eq_true hle,cond_true]
  simp only [ho,Int.reduceEq,decide_false,decide_true,cond_true,cond_false]
  rw [show getI [a,b] (0:Int)=some a from rfl,Option.bind_some,show getI [a,b] (1:Int)=some b from rfl,Option.bind_some,gComparison_eq,Option.bind_some,gOfV2_eq (cmpF_T3 _ _ _)];rfl
 ·obtain ⟨a,b,rfl,va,vb⟩:=sh2 A (by rw [ho];rfl)
  have hv:opV 8 e.int [a,b]=ofT (cmpF 8 a b):=rfl
  rw [ho,hv]
  unfold gEvalB_K1
  dsimp only
  rw [decide_eq_true hle,cond_true]
  simp only [ho,Int.reduceEq,decide_false,decide_true,cond_true,cond_false]
  rw [show getI [a,b] (0:Int)=some a from rfl,Option.bind_some,show getI [a,b] (1:Int)=some b from rfl,Option.bind_some,gComparison_eq,Option.bind_some,gOfV2_eq (cmpF_T3 _ _ _)];rfl
 ·obtain ⟨a,b,rfl,va,vb⟩:=sh2 A (by rw [ho];rfl)
  have hv:opV 9 e.int [a,b]=ofT (cmpF 9 a b):=rfl
  rw [ho,hv]
  unfold gEvalB_K1
  dsimp only
  rw [decide_eq_true hle,cond_true]
  simp only [ho,Int.reduceEq,decide_false,decide_true,cond_true,cond_false]
  rw [show getI [a,b] (0:Int)=some a from rfl,Option.bind_some,show getI [a,b] (1:Int)=some b from rfl,Option.bind_some,gComparison_eq,Option.bind_some,gOfV2_eq (cmpF_T3 _ _ _)];rfl
 ·obtain ⟨a,b,rfl,va,vb⟩:=sh2 A (by rw [ho];rfl)
  have hv:opV 10 e.int [a,b]=ofT (cmpF 10 a b):=rfl
  rw [ho,hv]
  unfold gEvalB_K1
  dsimp only
  rw [decide_eq_true hle,cond_true]
  simp only [ho,Int.reduceEq,decide_false,decide_true,cond_true,cond_false]
  rw [show getI [a,b] (0:Int)=some a from rfl,Option.bind_some,show getI [a,b] (1:Int)=some b from rfl,Option.bind_some,gComparison_eq,Option.bind_some,gOfV2_eq (cmpF_T3 _ _ _)];rfl
 ·obtain ⟨a,b,rfl,va,vb⟩:=sh2 A (by rw [ho];rfl)
  have hv:opV 11 e.int [a,b]=ofT (cmpF 11 a b):=rfl
  rw [ho,hv]
  unfold gEvalB_K1
  dsimp only
  rw [decide_eq_true hle,cond_true]
  simp only [ho,Int.reduceEq,decide_false,decide_true,cond_true,cond_false]
  rw [show getI [a,b] (0:Int)=some a from rfl,Option.bind_some,show getI [a,b] (1:Int)=some b from rfl,Option.bind_some,gComparison_eq,Option.bind_some,gOfV2_eq (cmpF_T3 _ _ _)];rfl
 ·obtain ⟨a,b,rfl,va,vb⟩:=sh2 A (by rw [ho];rfl)
  have hv:opV 12 e.int [a,b]=ofT (cmpF 12 a b):=rfl
  rw [ho,hv]
  unfold gEvalB_K1
  dsimp only
  rw [decide_eq_true hle,cond_true]
  simp only [ho,Int.reduceEq,decide_false,decide_true,cond_true,cond_false]
  rw [show getI [a,b] (0:Int)=some a from rfl,Option.bind_some,show getI [a,b] (1:Int)=some b from rfl,Option.bind_some,gComparison_eq,Option.bind_some,gOfV2_eq (cmpF_T3 _ _ _)];rfl
 ·obtain ⟨a,b,rfl,va,vb⟩:=sh2 A (by rw [ho];rfl)
  have hv:opV 13 e.int [a,b]=arith2 13 a b:=rfl
  rw [ho,hv]
  unfold gEvalB_K1
  dsimp only
  rw [decide_eq_true hle,cond_true]
  simp only [ho,Int.reduceEq,decide_false,decide_true,cond_true,cond_false]
  rw [gArith_two va (by omega)];rfl
 ·obtain ⟨a,b,rfl,va,vb⟩:=sh2 A (by rw [ho];rfl)
  have hv:opV 14 e.int [a,b]=arith2 14 a b:=rfl
  rw [ho,hv]
  unfold gEvalB_K1
  dsimp only
  rw [decide_eq_true hle,cond_true]
  simp only [ho,Int.reduceEq,decide_false,decide_true,cond_true,cond_false]
  rw [gArith_two va (by omega)];rfl
 ·obtain ⟨a,b,rfl,va,vb⟩:=sh2 A (by rw [ho];rfl)
  have hv:opV 15 e.int [a,b]=arith2 15 a b:=rfl
  rw [ho,hv]
  unfold gEvalB_K1
  dsimp only
  rw [decide_eq_true hle,cond_true]
  simp only [ho,Int.reduceEq,decide_false,decide_true,cond_true,cond_false]
  rw [gArith_two va (by omega)];rfl
 ·obtain ⟨a,b,rfl,va,vb⟩:=sh2 A (by rw [ho];rfl)
  have hv:opV 16 e.int [a,b]=arith2 16 a b:=rfl
  rw [ho,hv]
  unfold gEvalB_K1
  dsimp only
  rw [decide_eq_true hle,cond_true]
  simp only [ho,Int.reduceEq,decide_false,decide_true,cond_true,cond_false]
  rw [gArith_two va (by omega)];rfl
 ·obtain ⟨a,b,rfl,va,vb⟩:=sh2 A (by rw [ho];rfl)
  have hv:opV 17 e.int [a,b]=arith2 17 a b:=rfl
  rw [ho,hv]
  unfold gEvalB_K1
  dsimp only
  rw [decide_eq_true hle,cond_true]
  simp only [ho,Int.reduceEq,decide_false,decide_true,cond_true,cond_false]
  rw [gArith_two va (by omega)];rfl
 ·obtain ⟨a,rfl,va⟩:=sh1 A (by rw [ho];rfl)
  have hv:opV 18 e.int [a]=negF a:=rfl
  rw [ho,hv]
  unfold gEvalB_K1
  dsimp only
  rw [decide_eq_true hle,cond_true]
  simp only [ho,Int.reduceEq,decide_false,decide_true,cond_true,cond_false]
  rw [gArith_neg];rfl
 ·obtain ⟨a,b,rfl,va,vb⟩:=sh2 A (by rw [ho];rfl)
  have hv:opV 19 e.int [a,b]=catF a b:=rfl
  rw [ho,hv]
  unfold gEvalB_K1
  dsimp only
  rw [decide_eq_true hle,cond_true]
  simp only [ho,Int.reduceEq,decide_false,decide_true,cond_true,cond_false]
  rw [gTextE_cat va vb];rfl
 ·obtain ⟨a,rfl,va⟩:=sh1 A (by rw [ho];rfl)
  have hv:opV 20 e.int [a]=lenF a:=rfl
  rw [ho,hv]
  unfold gEvalB_K1
  dsimp only
  rw [decide_eq_true hle,cond_true]
  simp only [ho,Int.reduceEq,decide_false,decide_true,cond_true,cond_false]
  rw [gTextE_len va];rfl
 ·obtain ⟨a,rfl,va⟩:=sh1 A (by rw [ho];rfl)
  have hv:opV 21 e.int [a]=boolV (decide (a.kind=0)):=rfl
  rw [ho,hv]
  unfold gEvalB_K1
  dsimp only
  rw [decide_eq_true hle,cond_true]
  simp only [ho,Int.reduceEq,decide_false,decide_true,cond_true,cond_false]
  rw [show getI [a] (0:Int)=some a from rfl,Option.bind_some,gBoolP_eq];rfl
 ·obtain ⟨a,m,rfl,va,hm⟩:=shPs A (by rw [ho];decide)
  have hv:opV 23 e.int (a::m)=coalF (a::m):=rfl
  rw [ho,hv]
  unfold gEvalB_K1
  dsimp only
  rw [decide_eq_true hle,cond_true]
  simp only [ho,Int.reduceEq,decide_false,decide_true,cond_true,cond_false]
  exact gEval_coal _ A.len
 ·obtain ⟨a,b,c,d,rfl⟩:=sh4 A (by rw [ho];rfl)
  have hv:opV 24 e.int [a,b,c,d]=relV e.int a b c d:=rfl
  rw [ho,hv]
  unfold gEvalB_K1
  dsimp only
  rw [decide_eq_true hle,cond_true]
  simp only [ho,Int.reduceEq,decide_false,decide_true,cond_true,cond_false]
  rw [gRelated_eq];rfl
theorem vF_op (k:Int) {op:Int} {l:List Val} (A:ArgsOK op l) (ho:op=4∨op=5∨op=6∨op=7∨op=8∨op=9∨op=10∨op=11∨op=12∨op=13∨op=14∨op=15∨op=16∨op=17∨op=18∨op=19∨op=20∨op=21∨op=22∨op=23∨op=24):vF (opV op k l)=true:=by
 rcases ho with rfl|rfl|rfl|rfl|rfl|rfl|rfl|rfl|rfl|rfl|rfl|rfl|rfl|rfl|rfl|rfl|rfl|rfl|rfl|rfl|rfl
 ·exact vF_ofT _
 ·exact vF_ofT _
 ·exact vF_ofT _
 ·exact vF_ofT _
 ·exact vF_ofT _
 ·exact vF_ofT _
 ·exact vF_ofT _
 ·exact vF_ofT _
 ·exact vF_ofT _
 ·have hlo:=A.lo
  have hhi:=A.hi
  rw [ar13] at hlo hhi
  dsimp only at hlo hhi
  obtain ⟨a,b,rfl⟩:=len2 (l:=l) (by omega)
  exact vF_arith2 (vv_of (A.vf a (by simp)))
 ·have hlo:=A.lo
  have hhi:=A.hi
  rw [ar14] at hlo hhi
  dsimp only at hlo hhi
  obtain ⟨a,b,rfl⟩:=len2 (l:=l) (by omega)
  exact vF_arith2 (vv_of (A.vf a (by simp)))
 ·have hlo:=A.lo
  have hhi:=A.hi
  rw [ar15] at hlo hhi
  dsimp only at hlo hhi
  obtain ⟨a,b,rfl⟩:=len2 (l:=l) (by omega)
  exact vF_arith2 (vv_of (A.vf a (by simp)))
 ·have hlo:=A.lo
  have hhi:=A.hi
  rw [ar16] at hlo hhi
  dsimp only at hlo hhi
  obtain ⟨a,b,rfl⟩:=len2 (l:=l) (by omega)
  exact vF_arith2 (vv_of (A.vf a (by simp)))
 ·have hlo:=A.lo
  have hhi:=A.hi
  rw [ar17] at hlo hhi
  dsimp only at hlo hhi
  obtain ⟨a,b,rfl⟩:=len2 (l:=l) (by omega)
  exact vF_arith2 (vv_of (A.vf a (by simp)))
 ·exact vF_neg _
 ·exact vF_cat _ _
 ·exact vF_len _
 ·exact vF_bool _
 ·have hlo:=A.lo
  have hhi:=A.hi
  rw [ar22] at hlo hhi
  dsimp only at hlo hhi
  obtain ⟨a,b,c,rfl⟩:=len3 (l:=l) (by omega)
  show vF (bif decide (tF_ a=2) then b else c)=true
  cases decide (tF_ a=2)
  ·exact A.vf c (by simp)
  ·exact A.vf b (by simp)
 ·exact vF_coal A.vf
 ·exact vF_rel _ _ _ _ _
theorem eval_same (row:List Val) : ∀ (n:Nat) (e:Ex),exOK n e → ∃ v,gEvalR n e row=some v∧gEval n e row=some v∧vF v=true
 | 0,_,h=>h.elim
 | n+1,e,h=>by
  have hx : ∀ x∈e.args,gEvalR n x row=some ((gEvalR n x row).getD nulV)∧gEval n x row=some ((gEvalR n x row).getD nulV)∧vF ((gEvalR n x row).getD nulV)=true:=by
   intro x hx
   obtain ⟨v,h1,h2,h3⟩:=eval_same row n x (h.2 x hx)
   rw [h1];exact ⟨rfl,h2,h3⟩
  generalize hg:(fun x=>(gEvalR n x row).getD nulV)=g at hx
  have hx' : ∀ x∈e.args,gEvalR n x row=some (g x)∧gEval n x row=some (g x)∧vF (g x)=true:=by subst hg;exact hx
  show ∃ v,gEvalRB (gEvalR n) e row=some v∧gEvalB (gEval n) e row=some v∧vF v=true
  have hR:gEvalRB (gEvalR n) e row=(bif formF e then gER_K e row (.inl (e.args.map g,((e.args.length:Nat):Int))) else some nulV):=by
   unfold gEvalRB
   rw [gFormedR_eq h.1,Option.bind_some,gNullR_eq]
   cases formF e with
   | false=>rfl
   | true =>
    rw [Bool.not_true,cond_false,cond_true]
    have:=loop_app (l:=e.args) (body:=gEvalRB_B1 e row (gEvalR n)) (fun x=>[g x]) 4398046511104 ?_ ?_ (by unfold fuel;have:=h.1;omega) [] ?_
    ·rw [this,List.nil_append, ← List.map_eq_flatMap];rfl
    ·intro s i x hx1 hb
     have hi:=(List.getElem?_eq_some_iff.1 hx1).1
     have hlen:=h.1
     unfold gEvalRB_B1
     dsimp only
     rw [lt_dec hx1,cond_true,gn_ hx1,wrapN (by omega),Option.bind_some,(hx' x (List.mem_of_getElem? hx1)).1,Option.bind_some,decide_eq_true (show s.length+1≤4398046511104 from hb),cond_true]
    ·intro s
     unfold gEvalRB_B1
     dsimp only
     rw [lF_,cond_false]
    ·have:=h.1
     rw [← List.map_eq_flatMap,List.length_map];simp;omega
  have hP:gEvalB (gEval n) e row=(bif formF e then (if e.op=1 then some e.v else if e.op=2 then some (orN (atF row e.int)) else if e.op=22 then some (opV 22 e.int (e.args.map g)) else gEvalB_K1 e (.inl (e.args.map g,((e.args.length:Nat):Int)))) else some nulV):=by
   unfold gEvalB
   rw [gFormed_eq h.1,Option.bind_some,gNull_eq]
   cases hf:formF e with
   | false=>rfl
   | true =>
    rw [Bool.not_true,cond_false,cond_true]
    by_cases o1:e.op=1
    ·rw [decide_eq_true o1,cond_true,if_pos o1]
    rw [decide_eq_false o1,cond_false,if_neg o1]
    by_cases o2:e.op=2
    ·rw [decide_eq_true o2,cond_true,if_pos o2,gColumn_eq];rfl
    rw [decide_eq_false o2,cond_false,if_neg o2]
    by_cases o3:e.op=22
    ·rw [decide_eq_true o3,cond_true,if_pos o3]
     obtain ⟨_,hlo,hhi,_⟩:=formF_true h.1 hf
     rw [o3,ar22] at hlo hhi
     dsimp only at hlo hhi
     obtain ⟨a,b,c,ha⟩:=len3 (l:=e.args) (by omega)
     rw [ha] at hx' ⊢
     unfold gTruthB
     rw [show getI [a,b,c] (0:Int)=some a from rfl,show getI [a,b,c] (1:Int)=some b from rfl,show getI [a,b,c] (2:Int)=some c from rfl]
     simp only [Option.bind_some]
     rw [(hx' a (by simp)).2.1,Option.bind_some,gTruthV_eq,(hx' b (by simp)).2.1,(hx' c (by simp)).2.1]
     show _=some (bif decide (tF_ (g a)=2) then g b else g c)
     simp only [Option.bind_some]
     cases decide (tF_ (g a)=2)<;>rfl
    ·rw [decide_eq_false o3,cond_false,if_neg o3]
     have hlen:=h.1
     rw [decide_eq_true (show (0:Int)≤((e.args.length:Nat):Int) by omega),decide_eq_true (show (32:Int)*((e.args.length:Nat):Int)≤281474976710656 by omega),decide_eq_true (show ((e.args.length:Nat):Int)≤9223372036854775807 by omega),cond_true,cond_true,cond_true]
     have:=loop_set (l:=e.args) (body:=gEvalB_B1 e row (gEval n)) g ?_ ?_ fuel 0 (List.replicate e.args.length ⟨0,0,ByteArray.empty⟩) (by simp) (Nat.zero_le _) (by unfold fuel;omega)
     ·rw [show ((0:Nat):Int)=0 from rfl] at this
      rw [this,List.take_zero,List.nil_append,List.drop_zero];rfl
     ·intro c i x hx1 hb
      have hi:=(List.getElem?_eq_some_iff.1 hx1).1
      unfold gEvalB_B1
      dsimp only
      rw [lt_dec hx1,cond_true,gn_ hx1,wrapN (by omega),Option.bind_some,(hx' x (List.mem_of_getElem? hx1)).2.1,Option.bind_some,decide_eq_true (show (0:Int)≤(i:Int) by omega),cond_true,cond_true,show 0+((i:Int)).toNat=i by omega,decide_eq_true hb,cond_true]
     ·intro c
      unfold gEvalB_B1
      dsimp only
      rw [lF_,cond_false]
  rw [hR,hP]
  cases hf:formF e with
  | false=>exact ⟨_,rfl,rfl,vF_nul⟩
  | true =>
   rw [cond_true,cond_true]
   obtain ⟨hops,hlo,hhi,hrest⟩:=formF_true h.1 hf
   by_cases o1:e.op=1
   ·have hv:=rest_const o1 hrest
    refine ⟨e.v,?_,by rw [if_pos o1],hv⟩
    unfold gER_K
    dsimp only
    rw [decide_eq_true o1,cond_true,gLeaf_const e row o1 hv];rfl
   by_cases o2:e.op=2
   ·refine ⟨orN (atF row e.int),?_,by rw [if_neg o1,if_pos o2],vF_orN _⟩
    unfold gER_K
    dsimp only
    rw [decide_eq_false o1,cond_false,decide_eq_true o2,cond_true,gLeaf_col e row o2];rfl
   have A:ArgsOK e.op (e.args.map g):=by
    refine ⟨by rw [List.length_map];exact hlo,by rw [List.length_map];exact hhi,by rw [List.length_map];exact h.1,fun v hv=>?_⟩
    obtain ⟨x,hx1,rfl⟩:=List.mem_map.1 hv
    exact (hx' x hx1).2.2
   have hops2:e.op=4∨e.op=5∨e.op=6∨e.op=7∨e.op=8∨e.op=9∨e.op=10∨e.op=11∨e.op=12∨e.op=13∨e.op=14∨e.op=15∨e.op=16∨e.op=17∨e.op=18∨e.op=19∨e.op=20∨e.op=21∨e.op=22∨e.op=23∨e.op=24:=by omega
   refine ⟨opV e.op e.int (e.args.map g),evalR_op e row _ _ A hops2,?_,vF_op _ A hops2⟩
   rw [if_neg o1,if_neg o2]
   by_cases o3:e.op=22
   ·rw [if_pos o3,o3]
   ·rw [if_neg o3]
    exact evalP_op e _ _ A (by rw [List.length_map]) (by omega)
end Go.Proofs.YtfccopdbgfdcdaaGreatDoor
