/- Parts of the proof, joined. No condition. -/
import Derived.Test.YtlcceppoloaecaaGreatDoorKAA
import Derived.Test.YtlcceppoloaecaaGreatDoorKBU
import Derived.Test.YtlcceppoloaecaaGreatDoorKBK
import Derived.Test.YtlcceppoloaecaaGreatDoorKBS
import Derived.Test.YtlcceppoloaecaaGreatDoorKBR
set_option linter.unusedSimpArgs false
set_option linter.unusedVariables false
namespace Go.Proofs.YtlcceppoloaecaaGreatDoor
open Go.RowKit Go.MapKept
set_option maxRecDepth 100000
theorem WB {α β ρ:Type} {l:List α} {body:(List β × Int)->Option (Step (List β × Int) ρ)} (g:α->β) (h1 : ∀ (c:List β) (i:Nat) x,l[i]?=some x->i<c.length->body (c,(i:Int))=some (.next (c.set i (g x),((i+1:Nat):Int)))) (h2 : ∀ c:List β,body (c,((l.length:Nat):Int))=some (.exit (c,((l.length:Nat):Int)))) :
  ∀ (n i:Nat) (c:List β),c.length=l.length->i<=l.length->l.length-i<n->az body n (c,(i:Int))=some (.inl (c.take i++(l.drop i).map g,((l.length:Nat):Int)))
 | 0,i,c,_,_,h=>by omega
 | n+1,i,c,hc,hi,hn=>by
  rw [az]
  by_cases hlt:i<l.length
  ·obtain ⟨x,hx⟩:=gol_ hlt
   have e1:=(ap0.1 hx).2
   rw [h1 c i x hx (by omega)]
   show az body n (c.set i (g x),((i+1:Nat):Int))=_
   rw [WB g h1 h2 n (i+1) (c.set i (g x)) (by rw [List.length_set];exact hc) (by omega) (by omega),aqv hlt,e1,ap']
   congr 3
   rw [List.take_succ_eq_append_getElem (by rw [List.length_set];omega),List.getElem_set_self,aqp,List.take_set_of_le (aqe i)]
   rfl
  ·have:i=l.length:=by omega
   subst this
   rw [h2,aqU,aqd,aqy, <- hc,List.take_length]
def lF:Nat->Ex->Prop
 | 0,_=>False
 | n+1,e=>e.args.length<=100000 /\ ∀ x∈e.args,lF n x
theorem xL : ∀ {n m:Nat} {e:Ex}, n<=m->lF n e->lF m e
 | 0,_,_,_,h=>h.elim
 | n+1,0,_,h,_=>by omega
 | n+1,m+1,e,h,k=>⟨k.1,fun x hx=>xL (by omega) (k.2 x hx)⟩
def H5 (l:List Val):Val:=(l.find? fun v=>decide (v.kind≠0)).getD dH
theorem Jb : ∀ l:List Val,d_ (ρ:=Val) (fun (_:Unit) (v:Val)=>some (if v.kind≠0 then .inr v else .inl ())) () l=some (match l.find? fun v=>decide (v.kind≠0) with|some v => .inr v|none => .inl ())
 | []=>rfl
 | v::l=>by
  rw [d_]
  by_cases h:v.kind=0
  ·simp only [ne_eq,h,not_true_eq_false,if_false]
   rw [Jb l,List.find?_cons_of_neg (by simp [h])]
  ·rw [List.find?_cons_of_pos (by simp [h])]
   simp [h]
theorem Vf (l:List Val) (hl:l.length<=100000):yK 23 l=some (H5 l):=by
 unfold yK
 rw [show decide ((23:Int)=22)=false from rfl,ap1]
 rw [dI (l:=l) (mk:=fun (_:Unit) i=>i) (f:=fun _ v=>some (if v.kind≠0 then .inr v else .inl ())) ?_ ?_ (by unfold fuel;omega) ()]
 ·rw [Jb]
  unfold H5
  cases l.find? fun v=>decide (v.kind≠0) with
  | none=>exact congrArg (fun o:Option Val=>o.bind fun r=>some r) dB
  | some v=>rfl
 ·intro s i x hx
  have hi:=(ap0.1 hx).1
  unfold yJ
  dsimp only
  rw [bf hx,ap2,gn_ hx,wrapN (by omega)]
  simp only [apZ]
  by_cases h:x.kind=0
  ·simp [h,w_]
  ·simp [h,w_]
 ·intro s
  unfold yJ
  dsimp only
  rw [lF_,ap1]
theorem Zw (l:List Val) (hl:l.length<=100000):(az (wY l) fuel (0:Int)).bind q9=some (H5 l):=by
 rw [dI (l:=l) (mk:=fun (_:Unit) i=>i) (f:=fun _ v=>some (if v.kind≠0 then .inr v else .inl ())) ?_ ?_ (by unfold fuel;omega) ()]
 ·rw [Jb]
  unfold H5
  cases l.find? fun v=>decide (v.kind≠0) with
  | none=>exact congrArg (fun o:Option Val=>o.bind fun r=>some r) pq
  | some v=>rfl
 ·intro s i x hx
  have hi:=(ap0.1 hx).1
  unfold wY
  dsimp only
  rw [bf hx,ap2,gn_ hx,wrapN (by omega)]
  simp only [apZ]
  by_cases h:x.kind=0
  ·simp [h,w_]
  ·simp [h,w_]
 ·intro s
  unfold wY
  dsimp only
  rw [lF_,ap1]
theorem akJ {l:List Val} (h : ∀ v∈l,vF v=true):vF (H5 l)=true:=by
 unfold H5
 cases e:l.find? fun v=>decide (v.kind≠0) with
 | none=>exact qd
 | some v=>exact h v (List.mem_of_find?_eq_some e)
theorem vY {op:Int} {a b:Val} (h:VV a):vF (iK op a b)=true:=by
 unfold iK
 cases iy [a,b] 1 with
 | false=>exact qd
 | true=>exact (je h.int).2
theorem alx (a:Val):vF (Xz a)=true:=by
 unfold Xz
 cases iy [a] 1 with
 | false=>exact qd
 | true=>exact vK _
theorem amK (a b:Val):vF (Vr a b)=true:=by
 unfold Vr
 cases iy [a,b] 2 with
 | false=>exact qd
 | true=>exact vK _
theorem amE (a:Val):vF (VC a)=true:=by
 unfold VC
 cases iy [a] 2 with
 | false=>exact qd
 | true=>exact vK _
theorem alm (r:Int) (a b c d:Val):vF (UN r a b c d)=true:=by
 unfold UN
 cases iy [a,b,c,d] 1 with
 | false=>exact qd
 | true =>
  rw [ap2]
  split
  ·exact Lb _
  ·exact qd
def uk (op k:Int) (l:List Val):Val :=
 if op=4 then FB (Og (tF_ (Cu l 0))) else if op=5 then FB (Hr QV l.tail (tF_ (Cu l 0))) else if op=6 then FB (Hr or3 l.tail (tF_ (Cu l 0)))
 else if op=7\/op=8\/op=9\/op=10\/op=11\/op=12 then FB (yA op (Cu l 0) (Cu l 1))
 else if op=18 then Xz (Cu l 0) else if op=19 then Vr (Cu l 0) (Cu l 1) else if op=20 then VC (Cu l 0) else if op=21 then qx (decide ((Cu l 0).kind=0))
 else if op=22 then (bif decide (tF_ (Cu l 0)=2) then Cu l 1 else Cu l 2) else if op=23 then H5 l else if op=24 then UN k (Cu l 0) (Cu l 1) (Cu l 2) (Cu l 3)
 else iK op (Cu l 0) (Cu l 1)
theorem aie {α:Type} {l:List α} (h:l.length=1) : ∃ a,l=[a]:=match l,h with|[a],_=>⟨a,rfl⟩
theorem afe {α:Type} {l:List α} (h:l.length=2) : ∃ a b,l=[a,b]:=match l,h with|[a,b],_=>⟨a,b,rfl⟩
theorem akI {α:Type} {l:List α} (h:l.length=3) : ∃ a b c,l=[a,b,c]:=match l,h with|[a,b,c],_=>⟨a,b,c,rfl⟩
theorem apb {α:Type} {l:List α} (h:l.length=4) : ∃ a b c d,l=[a,b,c,d]:=match l,h with|[a,b,c,d],_=>⟨a,b,c,d,rfl⟩
theorem aoY {α:Type} {l:List α} (h:1<=l.length) : ∃ a m,l=a::m:=match l,h with|a::m,_=>⟨a,m,rfl⟩
structure yf (op:Int) (l:List Val):Prop where
 lo:(oQ op).1<=((l.length:Nat):Int)
 hi:((l.length:Nat):Int)<=(oQ op).2
 len:l.length<=100000
 vf : ∀ v∈l,vF v=true
theorem sh1 {op:Int} {l:List Val} (A:yf op l) (h:oQ op=(1,1)) : ∃ a,l=[a]/\VV a:=by
 have h1:=A.lo
 have h2:=A.hi
 rw [h] at h1 h2
 dsimp only at h1 h2
 obtain ⟨a,rfl⟩:=aie (l:=l) (by omega)
 exact ⟨a,rfl,A9 (A.vf a (by simp))⟩
theorem LP {op:Int} {l:List Val} (A:yf op l) (h:oQ op=(2,2)) : ∃ a b,l=[a,b]/\VV a/\VV b:=by
 have h1:=A.lo
 have h2:=A.hi
 rw [h] at h1 h2
 dsimp only at h1 h2
 obtain ⟨a,b,rfl⟩:=afe (l:=l) (by omega)
 exact ⟨a,b,rfl,A9 (A.vf a (by simp)),A9 (A.vf b (by simp))⟩
theorem sh3 {op:Int} {l:List Val} (A:yf op l) (h:oQ op=(3,3)) : ∃ a b c,l=[a,b,c]:=by
 have h1:=A.lo
 have h2:=A.hi
 rw [h] at h1 h2
 dsimp only at h1 h2
 exact akI (l:=l) (by omega)
theorem sh4 {op:Int} {l:List Val} (A:yf op l) (h:oQ op=(4,4)) : ∃ a b c d,l=[a,b,c,d]:=by
 have h1:=A.lo
 have h2:=A.hi
 rw [h] at h1 h2
 dsimp only at h1 h2
 exact apb (l:=l) (by omega)
theorem aeL {op:Int} {l:List Val} (A:yf op l) (h:1<=(oQ op).1) : ∃ a m,l=a::m/\VV a/\m.length<=1000000:=by
 have h1:=A.lo
 have h3:=A.len
 obtain ⟨a,m,rfl⟩:=aoY (l:=l) (by omega)
 exact ⟨a,m,rfl,A9 (A.vf a (by simp)),by rw [aqk] at h3;omega⟩
theorem agT (e:Ex) (row l:List Val) (i:Int) (A:yf e.op l) (ho:e.op=4\/e.op=5\/e.op=6\/e.op=7\/e.op=8\/e.op=9\/e.op=10\/e.op=11\/e.op=12\/e.op=13\/e.op=14\/e.op=15\/e.op=16\/e.op=17\/e.op=18\/e.op=19\/e.op=20\/e.op=21\/e.op=22\/e.op=23\/e.op=24):gER_K e row (.inl (l,i))=some (uk e.op e.int l):=by
 rcases ho with ho|ho|ho|ho|ho|ho|ho|ho|ho|ho|ho|ho|ho|ho|ho|ho|ho|ho|ho|ho|ho
 ·obtain ⟨a,rfl,va⟩:=sh1 A (by rw [ho];rfl)
  have hv:uk 4 e.int [a]=FB (Og (tF_ a)):=rfl
  rw [ho,hv]
  unfold gER_K
  dsimp only
  simp only [ho,Int.reduceEq,decide_false,decide_true,ap2,ap1]
  rw [show aT [a] (0:Int)=some a from rfl,apZ,sS,apZ,Hm (kQ a),apZ,uW (yz _)];rfl
 ·obtain ⟨a,m,rfl,va,hm⟩:=aeL A (by rw [ho];decide)
  have hv:uk 5 e.int (a::m)=FB (Hr QV m (tF_ a)):=rfl
  rw [ho,hv]
  unfold gER_K
  dsimp only
  simp only [ho,Int.reduceEq,decide_false,decide_true,ap2,ap1]
  rw [Qo 5 QV VP (fun a b ha hb=>by rw [show decide ((5:Int)=5)=true from rfl];exact agh ha hb) a m hm];rfl
 ·obtain ⟨a,m,rfl,va,hm⟩:=aeL A (by rw [ho];decide)
  have hv:uk 6 e.int (a::m)=FB (Hr or3 m (tF_ a)):=rfl
  rw [ho,hv]
  unfold gER_K
  dsimp only
  simp only [ho,Int.reduceEq,decide_false,decide_true,ap2,ap1]
  rw [Qo 6 or3 aaD (fun a b ha hb=>by rw [show decide ((6:Int)=5)=false from rfl];exact ajF ha hb) a m hm];rfl
 ·obtain ⟨a,b,rfl,va,vb⟩:=LP A (by rw [ho];rfl)
  have hv:uk 7 e.int [a,b]=FB (yA 7 a b):=rfl
  rw [ho,hv]
  unfold gER_K
  dsimp only
  simp only [ho,Int.reduceEq,decide_false,decide_true,ap2,ap1]
  rw [show aT [a,b] (0:Int)=some a from rfl,apZ,show aT [a,b] (1:Int)=some b from rfl,apZ,kI,apZ,uW (lU _ _ _)];rfl
 ·obtain ⟨a,b,rfl,va,vb⟩:=LP A (by rw [ho];rfl)
  have hv:uk 8 e.int [a,b]=FB (yA 8 a b):=rfl
  rw [ho,hv]
  unfold gER_K
  dsimp only
  simp only [ho,Int.reduceEq,decide_false,decide_true,ap2,ap1]
  rw [show aT [a,b] (0:Int)=some a from rfl,apZ,show aT [a,b] (1:Int)=some b from rfl,apZ,kI,apZ,uW (lU _ _ _)];rfl
 ·obtain ⟨a,b,rfl,va,vb⟩:=LP A (by rw [ho];rfl)
  have hv:uk 9 e.int [a,b]=FB (yA 9 a b):=rfl
  rw [ho,hv]
  unfold gER_K
  dsimp only
  simp only [ho,Int.reduceEq,decide_false,decide_true,ap2,ap1]
  rw [show aT [a,b] (0:Int)=some a from rfl,apZ,show aT [a,b] (1:Int)=some b from rfl,apZ,kI,apZ,uW (lU _ _ _)];rfl
 ·obtain ⟨a,b,rfl,va,vb⟩:=LP A (by rw [ho];rfl)
  have hv:uk 10 e.int [a,b]=FB (yA 10 a b):=rfl
  rw [ho,hv]
  unfold gER_K
  dsimp only
  simp only [ho,Int.reduceEq,decide_false,decide_true,ap2,ap1]
  rw [show aT [a,b] (0:Int)=some a from rfl,apZ,show aT [a,b] (1:Int)=some b from rfl,apZ,kI,apZ,uW (lU _ _ _)];rfl
 ·obtain ⟨a,b,rfl,va,vb⟩:=LP A (by rw [ho];rfl)
  have hv:uk 11 e.int [a,b]=FB (yA 11 a b):=rfl
  rw [ho,hv]
  unfold gER_K
  dsimp only
  simp only [ho,Int.reduceEq,decide_false,decide_true,ap2,ap1]
  rw [show aT [a,b] (0:Int)=some a from rfl,apZ,show aT [a,b] (1:Int)=some b from rfl,apZ,kI,apZ,uW (lU _ _ _)];rfl
 ·obtain ⟨a,b,rfl,va,vb⟩:=LP A (by rw [ho];rfl)
  have hv:uk 12 e.int [a,b]=FB (yA 12 a b):=rfl
  rw [ho,hv]
  unfold gER_K
  dsimp only
  simp only [ho,Int.reduceEq,decide_false,decide_true,ap2,ap1]
  rw [show aT [a,b] (0:Int)=some a from rfl,apZ,show aT [a,b] (1:Int)=some b from rfl,apZ,kI,apZ,uW (lU _ _ _)];rfl
 ·obtain ⟨a,b,rfl,va,vb⟩:=LP A (by rw [ho];rfl)
  have hv:uk 13 e.int [a,b]=iK 13 a b:=rfl
  rw [ho,hv]
  unfold gER_K
  dsimp only
  simp only [ho,Int.reduceEq,decide_false,decide_true,ap2,ap1]
  unfold iK
  rw [qD _ _ (by simp),apZ]
  cases iy [a,b] 1 with
  | false=>exact congrArg (fun o:Option Val=>o.bind fun r=>some r) dB
  | true=>exact congrArg (fun o:Option Val=>o.bind fun r=>some r) (je va.int).1
 ·obtain ⟨a,b,rfl,va,vb⟩:=LP A (by rw [ho];rfl)
  have hv:uk 14 e.int [a,b]=iK 14 a b:=rfl
  rw [ho,hv]
  unfold gER_K
  dsimp only
  simp only [ho,Int.reduceEq,decide_false,decide_true,ap2,ap1]
  unfold iK
  rw [qD _ _ (by simp),apZ]
  cases iy [a,b] 1 with
  | false=>exact congrArg (fun o:Option Val=>o.bind fun r=>some r) dB
  | true=>exact congrArg (fun o:Option Val=>o.bind fun r=>some r) (je va.int).1
 ·obtain ⟨a,b,rfl,va,vb⟩:=LP A (by rw [ho];rfl)
  have hv:uk 15 e.int [a,b]=iK 15 a b:=rfl
  rw [ho,hv]
  unfold gER_K
  dsimp only
  simp only [ho,Int.reduceEq,decide_false,decide_true,ap2,ap1]
  unfold iK
  rw [qD _ _ (by simp),apZ]
  cases iy [a,b] 1 with
  | false=>exact congrArg (fun o:Option Val=>o.bind fun r=>some r) dB
  | true=>exact congrArg (fun o:Option Val=>o.bind fun r=>some r) (je va.int).1
 ·obtain ⟨a,b,rfl,va,vb⟩:=LP A (by rw [ho];rfl)
  have hv:uk 16 e.int [a,b]=iK 16 a b:=rfl
  rw [ho,hv]
  unfold gER_K
  dsimp only
  simp only [ho,Int.reduceEq,decide_false,decide_true,ap2,ap1]
  unfold iK
  rw [qD _ _ (by simp),apZ]
  cases iy [a,b] 1 with
  | false=>exact congrArg (fun o:Option Val=>o.bind fun r=>some r) dB
  | true=>exact congrArg (fun o:Option Val=>o.bind fun r=>some r) (je va.int).1
 ·obtain ⟨a,b,rfl,va,vb⟩:=LP A (by rw [ho];rfl)
  have hv:uk 17 e.int [a,b]=iK 17 a b:=rfl
  rw [ho,hv]
  unfold gER_K
  dsimp only
  simp only [ho,Int.reduceEq,decide_false,decide_true,ap2,ap1]
  unfold iK
  rw [qD _ _ (by simp),apZ]
  cases iy [a,b] 1 with
  | false=>exact congrArg (fun o:Option Val=>o.bind fun r=>some r) dB
  | true=>exact congrArg (fun o:Option Val=>o.bind fun r=>some r) (je va.int).1
 ·obtain ⟨a,rfl,va⟩:=sh1 A (by rw [ho];rfl)
  have hv:uk 18 e.int [a]=Xz a:=rfl
  rw [ho,hv]
  unfold gER_K
  dsimp only
  simp only [ho,Int.reduceEq,decide_false,decide_true,ap2,ap1]
  unfold Xz
  rw [qD _ _ (by simp),apZ]
  cases iy [a] 1 with
  | false=>exact congrArg (fun o:Option Val=>o.bind fun r=>some r) dB
  | true=>exact congrArg (fun o:Option Val=>o.bind fun r=>some r) (nH _)
 ·obtain ⟨a,b,rfl,va,vb⟩:=LP A (by rw [ho];rfl)
  have hv:uk 19 e.int [a,b]=Vr a b:=rfl
  rw [ho,hv]
  unfold gER_K
  dsimp only
  simp only [ho,Int.reduceEq,decide_false,decide_true,ap2,ap1]
  rw [abp va vb];rfl
 ·obtain ⟨a,rfl,va⟩:=sh1 A (by rw [ho];rfl)
  have hv:uk 20 e.int [a]=VC a:=rfl
  rw [ho,hv]
  unfold gER_K
  dsimp only
  simp only [ho,Int.reduceEq,decide_false,decide_true,ap2,ap1]
  rw [ZJ];rfl
 ·obtain ⟨a,rfl,va⟩:=sh1 A (by rw [ho];rfl)
  have hv:uk 21 e.int [a]=qx (decide (a.kind=0)):=rfl
  rw [ho,hv]
  unfold gER_K
  dsimp only
  simp only [ho,Int.reduceEq,decide_false,decide_true,ap2,ap1]
  rw [show aT [a] (0:Int)=some a from rfl,apZ,CG];rfl
 ·obtain ⟨a,b,c,rfl⟩:=sh3 A (by rw [ho];rfl)
  have hv:uk 22 e.int [a,b,c]=(bif decide (tF_ a=2) then b else c):=rfl
  rw [ho,hv]
  unfold gER_K
  dsimp only
  simp only [ho,Int.reduceEq,decide_false,decide_true,ap2,ap1]
  unfold yK
  rw [show decide ((22:Int)=22)=true from rfl,ap2,show aT [a,b,c] (0:Int)=some a from rfl,apZ,sS,apZ]
  cases decide (tF_ a=2)<;>rfl
 ·obtain ⟨a,m,rfl,va,hm⟩:=aeL A (by rw [ho];decide)
  have hv:uk 23 e.int (a::m)=H5 (a::m):=rfl
  rw [ho,hv]
  unfold gER_K
  dsimp only
  simp only [ho,Int.reduceEq,decide_false,decide_true,ap2,ap1]
  rw [Vf _ A.len];rfl
 ·obtain ⟨a,b,c,d,rfl⟩:=sh4 A (by rw [ho];rfl)
  have hv:uk 24 e.int [a,b,c,d]=UN e.int a b c d:=rfl
  rw [ho,hv]
  unfold gER_K
  dsimp only
  simp only [ho,Int.reduceEq,decide_false,decide_true,ap2,ap1]
  rw [Uj];rfl
theorem aim (e:Ex) (l:List Val) (i:Int) (A:yf e.op l) (hle:l.length=e.args.length) (ho:e.op=4\/e.op=5\/e.op=6\/e.op=7\/e.op=8\/e.op=9\/e.op=10\/e.op=11\/e.op=12\/e.op=13\/e.op=14\/e.op=15\/e.op=16\/e.op=17\/e.op=18\/e.op=19\/e.op=20\/e.op=21\/e.op=23\/e.op=24):bS e (.inl (l,i))=some (uk e.op e.int l):=by
 rcases ho with ho|ho|ho|ho|ho|ho|ho|ho|ho|ho|ho|ho|ho|ho|ho|ho|ho|ho|ho|ho
 ·obtain ⟨a,rfl,va⟩:=sh1 A (by rw [ho];rfl)
  have hv:uk 4 e.int [a]=FB (Og (tF_ a)):=rfl
  rw [ho,hv]
  unfold bS
  dsimp only
  rw [ap4 hle,ap2]
  simp only [ho,Int.reduceEq,decide_false,decide_true,ap2,ap1]
  rw [aa7];rfl
 ·obtain ⟨a,m,rfl,va,hm⟩:=aeL A (by rw [ho];decide)
  have hv:uk 5 e.int (a::m)=FB (Hr QV m (tF_ a)):=rfl
  rw [ho,hv]
  unfold bS
  dsimp only
  rw [ap4 hle,ap2]
  simp only [ho,Int.reduceEq,decide_false,decide_true,ap2,ap1]
  rw [aai a m hm];rfl
 ·obtain ⟨a,m,rfl,va,hm⟩:=aeL A (by rw [ho];decide)
  have hv:uk 6 e.int (a::m)=FB (Hr or3 m (tF_ a)):=rfl
  rw [ho,hv]
  unfold bS
  dsimp only
  rw [ap4 hle,ap2]
  simp only [ho,Int.reduceEq,decide_false,decide_true,ap2,ap1]
  rw [adM a m hm];rfl
 ·obtain ⟨a,b,rfl,va,vb⟩:=LP A (by rw [ho];rfl)
  have hv:uk 7 e.int [a,b]=FB (yA 7 a b):=rfl
  rw [ho,hv]
  unfold bS
  dsimp only
  rw [ap4 hle,ap2]
  simp only [ho,Int.reduceEq,decide_false,decide_true,ap2,ap1]
  rw [show aT [a,b] (0:Int)=some a from rfl,apZ,show aT [a,b] (1:Int)=some b from rfl,apZ,iF,apZ,nk (lU _ _ _)];rfl
 ·obtain ⟨a,b,rfl,va,vb⟩:=LP A (by rw [ho];rfl)
  have hv:uk 8 e.int [a,b]=FB (yA 8 a b):=rfl
  rw [ho,hv]
  unfold bS
  dsimp only
  rw [ap4 hle,ap2]
  simp only [ho,Int.reduceEq,decide_false,decide_true,ap2,ap1]
  rw [show aT [a,b] (0:Int)=some a from rfl,apZ,show aT [a,b] (1:Int)=some b from rfl,apZ,iF,apZ,nk (lU _ _ _)];rfl
 ·obtain ⟨a,b,rfl,va,vb⟩:=LP A (by rw [ho];rfl)
  have hv:uk 9 e.int [a,b]=FB (yA 9 a b):=rfl
  rw [ho,hv]
  unfold bS
  dsimp only
  rw [ap4 hle,ap2]
  simp only [ho,Int.reduceEq,decide_false,decide_true,ap2,ap1]
  rw [show aT [a,b] (0:Int)=some a from rfl,apZ,show aT [a,b] (1:Int)=some b from rfl,apZ,iF,apZ,nk (lU _ _ _)];rfl
 ·obtain ⟨a,b,rfl,va,vb⟩:=LP A (by rw [ho];rfl)
  have hv:uk 10 e.int [a,b]=FB (yA 10 a b):=rfl
  rw [ho,hv]
  unfold bS
  dsimp only
  rw [ap4 hle,ap2]
  simp only [ho,Int.reduceEq,decide_false,decide_true,ap2,ap1]
  rw [show aT [a,b] (0:Int)=some a from rfl,apZ,show aT [a,b] (1:Int)=some b from rfl,apZ,iF,apZ,nk (lU _ _ _)];rfl
 ·obtain ⟨a,b,rfl,va,vb⟩:=LP A (by rw [ho];rfl)
  have hv:uk 11 e.int [a,b]=FB (yA 11 a b):=rfl
  rw [ho,hv]
  unfold bS
  dsimp only
  rw [ap4 hle,ap2]
  simp only [ho,Int.reduceEq,decide_false,decide_true,ap2,ap1]
  rw [show aT [a,b] (0:Int)=some a from rfl,apZ,show aT [a,b] (1:Int)=some b from rfl,apZ,iF,apZ,nk (lU _ _ _)];rfl
 ·obtain ⟨a,b,rfl,va,vb⟩:=LP A (by rw [ho];rfl)
  have hv:uk 12 e.int [a,b]=FB (yA 12 a b):=rfl
  rw [ho,hv]
  unfold bS
  dsimp only
  rw [ap4 hle,ap2]
  simp only [ho,Int.reduceEq,decide_false,decide_true,ap2,ap1]
  rw [show aT [a,b] (0:Int)=some a from rfl,apZ,show aT [a,b] (1:Int)=some b from rfl,apZ,iF,apZ,nk (lU _ _ _)];rfl
 ·obtain ⟨a,b,rfl,va,vb⟩:=LP A (by rw [ho];rfl)
  have hv:uk 13 e.int [a,b]=iK 13 a b:=rfl
  rw [ho,hv]
  unfold bS
  dsimp only
  rw [ap4 hle,ap2]
  simp only [ho,Int.reduceEq,decide_false,decide_true,ap2,ap1]
  rw [rY va (by omega)];rfl
 ·obtain ⟨a,b,rfl,va,vb⟩:=LP A (by rw [ho];rfl)
  have hv:uk 14 e.int [a,b]=iK 14 a b:=rfl
  rw [ho,hv]
  unfold bS
  dsimp only
  rw [ap4 hle,ap2]
  simp only [ho,Int.reduceEq,decide_false,decide_true,ap2,ap1]
  rw [rY va (by omega)];rfl
 ·obtain ⟨a,b,rfl,va,vb⟩:=LP A (by rw [ho];rfl)
  have hv:uk 15 e.int [a,b]=iK 15 a b:=rfl
  rw [ho,hv]
  unfold bS
  dsimp only
  rw [ap4 hle,ap2]
  simp only [ho,Int.reduceEq,decide_false,decide_true,ap2,ap1]
  rw [rY va (by omega)];rfl
 ·obtain ⟨a,b,rfl,va,vb⟩:=LP A (by rw [ho];rfl)
  have hv:uk 16 e.int [a,b]=iK 16 a b:=rfl
  rw [ho,hv]
  unfold bS
  dsimp only
  rw [ap4 hle,ap2]
  simp only [ho,Int.reduceEq,decide_false,decide_true,ap2,ap1]
  rw [rY va (by omega)];rfl
 ·obtain ⟨a,b,rfl,va,vb⟩:=LP A (by rw [ho];rfl)
  have hv:uk 17 e.int [a,b]=iK 17 a b:=rfl
  rw [ho,hv]
  unfold bS
  dsimp only
  rw [ap4 hle,ap2]
  simp only [ho,Int.reduceEq,decide_false,decide_true,ap2,ap1]
  rw [rY va (by omega)];rfl
 ·obtain ⟨a,rfl,va⟩:=sh1 A (by rw [ho];rfl)
  have hv:uk 18 e.int [a]=Xz a:=rfl
  rw [ho,hv]
  unfold bS
  dsimp only
  rw [ap4 hle,ap2]
  simp only [ho,Int.reduceEq,decide_false,decide_true,ap2,ap1]
  rw [abh];rfl
 ·obtain ⟨a,b,rfl,va,vb⟩:=LP A (by rw [ho];rfl)
  have hv:uk 19 e.int [a,b]=Vr a b:=rfl
  rw [ho,hv]
  unfold bS
  dsimp only
  rw [ap4 hle,ap2]
  simp only [ho,Int.reduceEq,decide_false,decide_true,ap2,ap1]
  rw [aby va vb];rfl
 ·obtain ⟨a,rfl,va⟩:=sh1 A (by rw [ho];rfl)
  have hv:uk 20 e.int [a]=VC a:=rfl
  rw [ho,hv]
  unfold bS
  dsimp only
  rw [ap4 hle,ap2]
  simp only [ho,Int.reduceEq,decide_false,decide_true,ap2,ap1]
  rw [Z7 va];rfl
 ·obtain ⟨a,rfl,va⟩:=sh1 A (by rw [ho];rfl)
  have hv:uk 21 e.int [a]=qx (decide (a.kind=0)):=rfl
  rw [ho,hv]
  unfold bS
  dsimp only
  rw [ap4 hle,ap2]
  simp only [ho,Int.reduceEq,decide_false,decide_true,ap2,ap1]
  rw [show aT [a] (0:Int)=some a from rfl,apZ,R9];rfl
 ·obtain ⟨a,m,rfl,va,hm⟩:=aeL A (by rw [ho];decide)
  have hv:uk 23 e.int (a::m)=H5 (a::m):=rfl
  rw [ho,hv]
  unfold bS
  dsimp only
  rw [ap4 hle,ap2]
  simp only [ho,Int.reduceEq,decide_false,decide_true,ap2,ap1]
  exact Zw _ A.len
 ·obtain ⟨a,b,c,d,rfl⟩:=sh4 A (by rw [ho];rfl)
  have hv:uk 24 e.int [a,b,c,d]=UN e.int a b c d:=rfl
  rw [ho,hv]
  unfold bS
  dsimp only
  rw [ap4 hle,ap2]
  simp only [ho,Int.reduceEq,decide_false,decide_true,ap2,ap1]
  rw [Y0];rfl
theorem aot (k:Int) {op:Int} {l:List Val} (A:yf op l) (ho:op=4\/op=5\/op=6\/op=7\/op=8\/op=9\/op=10\/op=11\/op=12\/op=13\/op=14\/op=15\/op=16\/op=17\/op=18\/op=19\/op=20\/op=21\/op=22\/op=23\/op=24):vF (uk op k l)=true:=by
 rcases ho with rfl|rfl|rfl|rfl|rfl|rfl|rfl|rfl|rfl|rfl|rfl|rfl|rfl|rfl|rfl|rfl|rfl|rfl|rfl|rfl|rfl
 ·exact zh _
 ·exact zh _
 ·exact zh _
 ·exact zh _
 ·exact zh _
 ·exact zh _
 ·exact zh _
 ·exact zh _
 ·exact zh _
 ·have hlo:=A.lo
  have hhi:=A.hi
  rw [aov] at hlo hhi
  dsimp only at hlo hhi
  obtain ⟨a,b,rfl⟩:=afe (l:=l) (by omega)
  exact vY (A9 (A.vf a (by simp)))
 ·have hlo:=A.lo
  have hhi:=A.hi
  rw [anC] at hlo hhi
  dsimp only at hlo hhi
  obtain ⟨a,b,rfl⟩:=afe (l:=l) (by omega)
  exact vY (A9 (A.vf a (by simp)))
 ·have hlo:=A.lo
  have hhi:=A.hi
  rw [ang] at hlo hhi
  dsimp only at hlo hhi
  obtain ⟨a,b,rfl⟩:=afe (l:=l) (by omega)
  exact vY (A9 (A.vf a (by simp)))
 ·have hlo:=A.lo
  have hhi:=A.hi
  rw [aos] at hlo hhi
  dsimp only at hlo hhi
  obtain ⟨a,b,rfl⟩:=afe (l:=l) (by omega)
  exact vY (A9 (A.vf a (by simp)))
 ·have hlo:=A.lo
  have hhi:=A.hi
  rw [anz] at hlo hhi
  dsimp only at hlo hhi
  obtain ⟨a,b,rfl⟩:=afe (l:=l) (by omega)
  exact vY (A9 (A.vf a (by simp)))
 ·exact alx _
 ·exact amK _ _
 ·exact amE _
 ·exact Lb _
 ·have hlo:=A.lo
  have hhi:=A.hi
  rw [alF] at hlo hhi
  dsimp only at hlo hhi
  obtain ⟨a,b,c,rfl⟩:=akI (l:=l) (by omega)
  show vF (bif decide (tF_ a=2) then b else c)=true
  cases decide (tF_ a=2)
  ·exact A.vf c (by simp)
  ·exact A.vf b (by simp)
 ·exact akJ A.vf
 ·exact alm _ _ _ _ _
theorem Sz (row:List Val) : ∀ (n:Nat) (e:Ex),lF n e -> ∃ v,l9 n e row=some v/\BO n e row=some v/\vF v=true
 | 0,_,h=>h.elim
 | n+1,e,h=>by
  have hx : ∀ x∈e.args,l9 n x row=some ((l9 n x row).getD dH)/\BO n x row=some ((l9 n x row).getD dH)/\vF ((l9 n x row).getD dH)=true:=by
   intro x hx
   obtain ⟨v,h1,h2,h3⟩:=Sz row n x (h.2 x hx)
   rw [h1];exact ⟨rfl,h2,h3⟩
  generalize hg:(fun x=>(l9 n x row).getD dH)=g at hx
  have hx' : ∀ x∈e.args,l9 n x row=some (g x)/\BO n x row=some (g x)/\vF (g x)=true:=by subst hg;exact hx
  show ∃ v,Dt (l9 n) e row=some v/\Iu (BO n) e row=some v/\vF v=true
  have hR:Dt (l9 n) e row=(bif zP e then gER_K e row (.inl (e.args.map g,((e.args.length:Nat):Int))) else some dH):=by
   unfold Dt
   rw [Kr h.1,apZ,dB]
   cases zP e with
   | false=>rfl
   | true =>
    rw [Bool.not_true,ap1,ap2]
    have:=d9 (l:=e.args) (body:=tO e row (l9 n)) (fun x=>[g x]) 4398046511104 ?_ ?_ (by unfold fuel;have:=h.1;omega) [] ?_
    ·rw [this,ap5, <- List.map_eq_flatMap];rfl
    ·intro s i x hx1 hb
     have hi:=(ap0.1 hx1).1
     have hlen:=h.1
     unfold tO
     dsimp only
     rw [bf hx1,ap2,gn_ hx1,wrapN (by omega),apZ,(hx' x (ap6 hx1)).1,apZ,ap4 (show s.length+1<=4398046511104 from hb),ap2]
    ·intro s
     unfold tO
     dsimp only
     rw [lF_,ap1]
    ·have:=h.1
     rw [<- List.map_eq_flatMap,aqa];simp;omega
  have hP:Iu (BO n) e row=(bif zP e then (if e.op=1 then some e.v else if e.op=2 then some (VW (Cu row e.int)) else if e.op=22 then some (uk 22 e.int (e.args.map g)) else bS e (.inl (e.args.map g,((e.args.length:Nat):Int)))) else some dH):=by
   unfold Iu
   rw [NW h.1,apZ,pq]
   cases hf:zP e with
   | false=>rfl
   | true =>
    rw [Bool.not_true,ap1,ap2]
    by_cases o1:e.op=1
    ·rw [ap4 o1,ap2,if_pos o1]
    rw [ap3 o1,ap1,if_neg o1]
    by_cases o2:e.op=2
    ·rw [ap4 o2,ap2,if_pos o2,abn];rfl
    rw [ap3 o2,ap1,if_neg o2]
    by_cases o3:e.op=22
    ·rw [ap4 o3,ap2,if_pos o3]
     obtain ⟨_,hlo,hhi,_⟩:=Eu h.1 hf
     rw [o3,alF] at hlo hhi
     dsimp only at hlo hhi
     obtain ⟨a,b,c,ha⟩:=akI (l:=e.args) (by omega)
     rw [ha] at hx' ⊢
     unfold LQ
     rw [show aT [a,b,c] (0:Int)=some a from rfl,show aT [a,b,c] (1:Int)=some b from rfl,show aT [a,b,c] (2:Int)=some c from rfl]
     simp only [apZ]
     rw [(hx' a (by simp)).2.1,apZ,l7,(hx' b (by simp)).2.1,(hx' c (by simp)).2.1]
     show _=some (bif decide (tF_ (g a)=2) then g b else g c)
     simp only [apZ]
     cases decide (tF_ (g a)=2)<;>rfl
    ·rw [ap3 o3,ap1,if_neg o3]
     have hlen:=h.1
     rw [ap4 (show (0:Int)<=((e.args.length:Nat):Int) by omega),ap4 (show (32:Int)*((e.args.length:Nat):Int)<=281474976710656 by omega),ap4 (show ((e.args.length:Nat):Int)<=9223372036854775807 by omega),ap2,ap2,ap2]
     have:=WB (l:=e.args) (body:=wS e row (BO n)) g ?_ ?_ fuel 0 (List.replicate e.args.length ⟨0,0,ByteArray.empty⟩) (by simp) (aqj _) (by unfold fuel;omega)
     ·rw [show ((0:Nat):Int)=0 from rfl] at this
      rw [this,List.take_zero,ap5,List.drop_zero];rfl
     ·intro c i x hx1 hb
      have hi:=(ap0.1 hx1).1
      unfold wS
      dsimp only
      rw [bf hx1,ap2,gn_ hx1,wrapN (by omega),apZ,(hx' x (ap6 hx1)).2.1,apZ,ap4 (show (0:Int)<=(i:Int) by omega),ap2,ap2,show 0+((i:Int)).toNat=i by omega,ap4 hb,ap2]
     ·intro c
      unfold wS
      dsimp only
      rw [lF_,ap1]
  rw [hR,hP]
  cases hf:zP e with
  | false=>exact ⟨_,rfl,rfl,qd⟩
  | true =>
   rw [ap2,ap2]
   obtain ⟨hops,hlo,hhi,hrest⟩:=Eu h.1 hf
   by_cases o1:e.op=1
   ·have hv:=abt o1 hrest
    refine ⟨e.v,?_,by rw [if_pos o1],hv⟩
    unfold gER_K
    dsimp only
    rw [ap4 o1,ap2,X8 e row o1 hv];rfl
   by_cases o2:e.op=2
   ·refine ⟨VW (Cu row e.int),?_,by rw [if_neg o1,if_pos o2],vK _⟩
    unfold gER_K
    dsimp only
    rw [ap3 o1,ap1,ap4 o2,ap2,aeh e row o2];rfl
   have A:yf e.op (e.args.map g):=by
    refine ⟨by rw [aqa];exact hlo,by rw [aqa];exact hhi,by rw [aqa];exact h.1,fun v hv=>?_⟩
    obtain ⟨x,hx1,rfl⟩:=aqz.1 hv
    exact (hx' x hx1).2.2
   have hops2:e.op=4\/e.op=5\/e.op=6\/e.op=7\/e.op=8\/e.op=9\/e.op=10\/e.op=11\/e.op=12\/e.op=13\/e.op=14\/e.op=15\/e.op=16\/e.op=17\/e.op=18\/e.op=19\/e.op=20\/e.op=21\/e.op=22\/e.op=23\/e.op=24:=by omega
   refine ⟨uk e.op e.int (e.args.map g),agT e row _ _ A hops2,?_,aot _ A hops2⟩
   rw [if_neg o1,if_neg o2]
   by_cases o3:e.op=22
   ·rw [if_pos o3,o3]
   ·rw [if_neg o3]
    exact aim e _ _ A (by rw [aqa]) (by omega)
set_option maxHeartbeats 8000000
def Dq (a_l:(List Int)) (a_kind:Int):(Int)->Option (Step (Int) (Bool)):=fun s=>match s with
 | i_1=>bif (decide (i_1<((a_l.length:Nat):Int))) then (aT a_l i_1).bind fun x_3=>bif (decide (x_3≠a_kind)) then bif (decide (x_3≠(0:Int))) then some (.ret false) else
 some (.next (IntKind.i64.wrap (i_1+(1:Int)))) else
 some (.next (IntKind.i64.wrap (i_1+(1:Int)))) else
 some (.exit i_1)
def wK:Sum (Int) (Bool)->Option ((Bool))
 | .inl i_1=>some true
 | .inr q=>some q
def kr (a_l:(List Int)) (a_kind:Int):Option (Bool):=(az (Dq a_l a_kind) fuel (0:Int)).bind (wK)
theorem fZ {a_l:(List Int)} {a_kind:Int} {r:Bool} (H:kr a_l a_kind=some r):Pure Tryz.prog 235 [.one (.lst (a_l.map (fun x=>[AC.int .i64 x]))), .one (.int .i64 a_kind)] (.val (.one (.bool r))):=by
 unfold kr at H
 refine po_ Tryz.func235 Tryz.ntmps235 ?_
 refine bz ?_
 refine alM_ (fun s:Int=>match s with|i_1=>[(0, .one (.c (.lst (a_l.map (fun x=>[AC.int .i64 x]))))),(1, .one (.c (.int .i64 a_kind))),(5, .one (.c (.int .i64 i_1)))]) (fun s=>match s with|i_1=>[]) H (fun _=>aqj _)
  (fm_ bY [] rfl bA trivial) ?_
 rintro i_1 st1 hb1 hk1
 unfold Dq at hb1
 dsimp only at hb1 ⊢
 rcases af hb1 with ⟨q_2,hb1⟩|⟨q_2,hb1⟩
 ·obtain ⟨x_3,i1z,i1,i1x,hb1⟩:=bn (f:=(fun x=>[AC.int .i64 x])) hb1
  rcases af hb1 with ⟨q_4,hb1⟩|⟨q_4,hb1⟩
  ·rcases af hb1 with ⟨q_5,hb1⟩|⟨q_5,hb1⟩
   ·cases hb1
    have hx1:wK (.inr false)=some _:=hk1
    unfold wK at hx1
    dsimp only at hx1
    cases hx1
    exact aK
   cases hb1
   refine bz ?_
   exact ⟨_,rfl,fm_ bY [] rfl bA trivial⟩
  cases hb1
  refine bz ?_
  exact ⟨_,rfl,fm_ bY [] rfl bA trivial⟩
 cases hb1
 have hx1:wK (.inl i_1)=some _:=hk1
 unfold wK at hx1
 dsimp only at hx1
 cases hx1
 exact aK
def Qr (a_l:(List Int)):(Int × Int)->Option (Step (Int × Int) (Int × Bool)):=fun s=>match s with
 | (k_1,i_2)=>bif (decide (i_2<((a_l.length:Nat):Int))) then (aT a_l i_2).bind fun x_4=>bif (decide (x_4=(0:Int))) then some (.next (k_1,(IntKind.i64.wrap (i_2+(1:Int))))) else
 bif (decide (k_1≠(0:Int))) then bif (decide (k_1≠x_4)) then some (.ret ((0:Int),false)) else
 some (.next (x_4,(IntKind.i64.wrap (i_2+(1:Int))))) else
 some (.next (x_4,(IntKind.i64.wrap (i_2+(1:Int))))) else
 some (.exit (k_1,i_2))
def si:Sum (Int × Int) (Int × Bool)->Option ((Int × Bool))
 | .inl (k_1,i_2)=>some (k_1,true)
 | .inr q=>some q
def lT (a_l:(List Int)):Option (Int × Bool):=(az (Qr a_l) fuel ((0:Int),(0:Int))).bind (si)
theorem ky {a_l:(List Int)} {r:Int × Bool} (H:lT a_l=some r):Pure Tryz.prog 236 [.one (.lst (a_l.map (fun x=>[AC.int .i64 x])))] (.tup [.one (.int .i64 r.1), .one (.bool r.2)]):=by
 unfold lT at H
 refine po_ Tryz.func236 Tryz.ntmps236 ?_
 refine bz ?_
 refine alM_ (fun s:Int × Int=>match s with|(k_1,i_2)=>[(0, .one (.c (.lst (a_l.map (fun x=>[AC.int .i64 x]))))),(4, .one (.c (.int .i64 k_1))),(5, .one (.c (.int .i64 i_2)))]) (fun s=>match s with|(k_1,i_2)=>[]) H (fun _=>aqj _)
  (fm_ bY [] rfl bA trivial) ?_
 rintro ⟨k_1,i_2⟩ st1 hb1 hk1
 unfold Qr at hb1
 dsimp only at hb1 ⊢
 rcases af hb1 with ⟨q_3,hb1⟩|⟨q_3,hb1⟩
 ·obtain ⟨x_4,i1z,i1,i1x,hb1⟩:=bn (f:=(fun x=>[AC.int .i64 x])) hb1
  rcases af hb1 with ⟨q_5,hb1⟩|⟨q_5,hb1⟩
  ·cases hb1
   refine bz ?_
   exact ⟨_,rfl,fm_ bY [] rfl bA trivial⟩
  rcases af hb1 with ⟨q_6,hb1⟩|⟨q_6,hb1⟩
  ·rcases af hb1 with ⟨q_7,hb1⟩|⟨q_7,hb1⟩
   ·cases hb1
    have hx1:si (.inr ((0:Int),false))=some _:=hk1
    unfold si at hx1
    dsimp only at hx1
    cases hx1
    exact aK
   cases hb1
   refine bz ?_
   exact ⟨_,rfl,fm_ bY [] rfl bA trivial⟩
  cases hb1
  refine bz ?_
  exact ⟨_,rfl,fm_ bY [] rfl bA trivial⟩
 cases hb1
 have hx1:si (.inl (k_1,i_2))=some _:=hk1
 unfold si at hx1
 dsimp only at hx1
 cases hx1
 exact aK
def gRs11 (a_e:Ex) (a_l:(List Int)) (a_kinds:(List Int)):Option (Int × Bool):=bif (decide (a_e.op=(1:Int))) then some (a_e.v.kind,true) else
 bif (decide (a_e.op=(2:Int))) then (aT a_kinds a_e.int).bind fun x_3=>some (x_3,true) else
 bif (decide (a_e.op=(4:Int))) then (kr a_l (3:Int)).bind fun r_5=>some ((3:Int),r_5) else
 bif (decide (a_e.op=(5:Int))) then (kr a_l (3:Int)).bind fun r_7=>some ((3:Int),r_7) else
 bif (decide (a_e.op=(6:Int))) then (kr a_l (3:Int)).bind fun r_9=>some ((3:Int),r_9) else
 bif (decide (a_e.op=(7:Int))) then (lT a_l).bind fun r_11=>some ((3:Int),r_11.2) else
 bif (decide (a_e.op=(8:Int))) then (lT a_l).bind fun r_13=>some ((3:Int),r_13.2) else
 bif (decide (a_e.op=(9:Int))) then (lT a_l).bind fun r_15=>some ((3:Int),r_15.2) else
 bif (decide (a_e.op=(10:Int))) then (lT a_l).bind fun r_17=>some ((3:Int),r_17.2) else
 bif (decide (a_e.op=(11:Int))) then (lT a_l).bind fun r_19=>some ((3:Int),r_19.2) else
 bif (decide (a_e.op=(12:Int))) then (lT a_l).bind fun r_21=>some ((3:Int),r_21.2) else
 bif (decide (a_e.op=(13:Int))) then (kr a_l (1:Int)).bind fun r_23=>some ((1:Int),r_23) else
 bif (decide (a_e.op=(14:Int))) then (kr a_l (1:Int)).bind fun r_25=>some ((1:Int),r_25) else
 bif (decide (a_e.op=(15:Int))) then (kr a_l (1:Int)).bind fun r_27=>some ((1:Int),r_27) else
 bif (decide (a_e.op=(16:Int))) then (kr a_l (1:Int)).bind fun r_29=>some ((1:Int),r_29) else
 bif (decide (a_e.op=(17:Int))) then (kr a_l (1:Int)).bind fun r_31=>some ((1:Int),r_31) else
 bif (decide (a_e.op=(18:Int))) then (kr a_l (1:Int)).bind fun r_33=>some ((1:Int),r_33) else
 bif (decide (a_e.op=(19:Int))) then (kr a_l (2:Int)).bind fun r_35=>some ((2:Int),r_35) else
 bif (decide (a_e.op=(20:Int))) then (kr a_l (2:Int)).bind fun r_37=>some ((1:Int),r_37) else
 bif (decide (a_e.op=(21:Int))) then some ((3:Int),true) else
 bif (decide (a_e.op=(22:Int))) then (l6 a_l (1:Int) ((a_l.length:Nat):Int)).bind fun s_40=>(lT s_40).bind fun r_41=>bif r_41.2 then (l6 a_l (0:Int) (1:Int)).bind fun s_43=>(kr s_43 (3:Int)).bind fun r_44=>some (r_41.1,r_44) else
 some (r_41.1,false) else
 bif (decide (a_e.op=(23:Int))) then (lT a_l).bind fun r_46=>some (r_46.1,r_46.2) else
 (kr a_l (1:Int)).bind fun r_47=>some ((3:Int),r_47)
theorem GJ {a_e:Ex} {a_l:(List Int)} {a_kinds:(List Int)} {r:Int × Bool} (H:gRs11 a_e a_l a_kinds=some r):Pure Tryz.prog 201 [.agg (tE a_e), .one (.lst (a_l.map (fun x=>[AC.int .i64 x]))), .one (.lst (a_kinds.map (fun x=>[AC.int .i64 x])))] (.tup [.one (.int .i64 r.1), .one (.bool r.2)]):=by
 unfold gRs11 at H
 rw [aL a_e]
 refine po_ Tryz.func201 Tryz.ntmps201 ?_
 rcases af H with ⟨q_1,H⟩|⟨q_1,H⟩
 ·cases H
  exact aK
 rcases af H with ⟨q_2,H⟩|⟨q_2,H⟩
 ·obtain ⟨x_3,i1z,i1,i1x,H⟩:=bn (f:=(fun x=>[AC.int .i64 x])) H
  cases H
  exact aK
 refine bz ?_
 rcases af H with ⟨q_4,H⟩|⟨q_4,H⟩
 ·obtain ⟨r_5,c2,H⟩:=bd_ H
  replace c2:=fZ c2
  cases H
  exact aK
 rcases af H with ⟨q_6,H⟩|⟨q_6,H⟩
 ·obtain ⟨r_7,c3,H⟩:=bd_ H
  replace c3:=fZ c3
  cases H
  exact aK
 rcases af H with ⟨q_8,H⟩|⟨q_8,H⟩
 ·obtain ⟨r_9,c4,H⟩:=bd_ H
  replace c4:=fZ c4
  cases H
  exact aK
 refine bz ?_
 rcases af H with ⟨q_10,H⟩|⟨q_10,H⟩
 ·obtain ⟨r_11,c5,H⟩:=bd_ H
  replace c5:=ky c5
  cases H
  exact aK
 rcases af H with ⟨q_12,H⟩|⟨q_12,H⟩
 ·obtain ⟨r_13,c6,H⟩:=bd_ H
  replace c6:=ky c6
  cases H
  exact aK
 rcases af H with ⟨q_14,H⟩|⟨q_14,H⟩
 ·obtain ⟨r_15,c7,H⟩:=bd_ H
  replace c7:=ky c7
  cases H
  exact aK
 refine bz ?_
 rcases af H with ⟨q_16,H⟩|⟨q_16,H⟩
 ·obtain ⟨r_17,c8,H⟩:=bd_ H
  replace c8:=ky c8
  cases H
  exact aK
 rcases af H with ⟨q_18,H⟩|⟨q_18,H⟩
 ·obtain ⟨r_19,c9,H⟩:=bd_ H
  replace c9:=ky c9
  cases H
  exact aK
 rcases af H with ⟨q_20,H⟩|⟨q_20,H⟩
 ·obtain ⟨r_21,c10,H⟩:=bd_ H
  replace c10:=ky c10
  cases H
  exact aK
 refine bz ?_
 rcases af H with ⟨q_22,H⟩|⟨q_22,H⟩
 ·obtain ⟨r_23,c11,H⟩:=bd_ H
  replace c11:=fZ c11
  cases H
  exact aK
 rcases af H with ⟨q_24,H⟩|⟨q_24,H⟩
 ·obtain ⟨r_25,c12,H⟩:=bd_ H
  replace c12:=fZ c12
  cases H
  exact aK
 rcases af H with ⟨q_26,H⟩|⟨q_26,H⟩
 ·obtain ⟨r_27,c13,H⟩:=bd_ H
  replace c13:=fZ c13
  cases H
  exact aK
 refine bz ?_
 rcases af H with ⟨q_28,H⟩|⟨q_28,H⟩
 ·obtain ⟨r_29,c14,H⟩:=bd_ H
  replace c14:=fZ c14
  cases H
  exact aK
 rcases af H with ⟨q_30,H⟩|⟨q_30,H⟩
 ·obtain ⟨r_31,c15,H⟩:=bd_ H
  replace c15:=fZ c15
  cases H
  exact aK
 rcases af H with ⟨q_32,H⟩|⟨q_32,H⟩
 ·obtain ⟨r_33,c16,H⟩:=bd_ H
  replace c16:=fZ c16
  cases H
  exact aK
 refine bz ?_
 rcases af H with ⟨q_34,H⟩|⟨q_34,H⟩
 ·obtain ⟨r_35,c17,H⟩:=bd_ H
  replace c17:=fZ c17
  cases H
  exact aK
 rcases af H with ⟨q_36,H⟩|⟨q_36,H⟩
 ·obtain ⟨r_37,c18,H⟩:=bd_ H
  replace c18:=fZ c18
  cases H
  exact aK
 rcases af H with ⟨q_38,H⟩|⟨q_38,H⟩
 ·cases H
  exact aK
 refine bz ?_
 rcases af H with ⟨q_39,H⟩|⟨q_39,H⟩
 ·obtain ⟨s_40,u19,H⟩:=bd_ H
  obtain ⟨⟨u19a,u19b,u19c⟩,u19⟩:=gT u19
  have u19x:=K4 (f:=(fun x=>[AC.int .i64 x])) u19
  obtain ⟨r_41,c20,H⟩:=bd_ H
  replace c20:=ky c20
  rcases af H with ⟨q_42,H⟩|⟨q_42,H⟩
  ·obtain ⟨s_43,u21,H⟩:=bd_ H
   obtain ⟨⟨u21a,u21b,u21c⟩,u21⟩:=gT u21
   have u21x:=K4 (f:=(fun x=>[AC.int .i64 x])) u21
   obtain ⟨r_44,c22,H⟩:=bd_ H
   replace c22:=fZ c22
   cases H
   repeat' (first|refine gs_ ?_|rw [u19x]|rw [u21x]|rw [show ((0:Nat):Int)=0 from rfl])
   refine bL (bR rfl ?_ ?_)
   ·repeat' (first|exact trivial|rfl|exact ap_ rfl|omega|apply And.intro)
   ·first|rfl|(simp only [aqb,ap',aqd,ap5]<;>rfl)
  cases H
  repeat' (first|refine gs_ ?_|rw [u19x]|rw [show ((0:Nat):Int)=0 from rfl])
  refine bL (bR rfl ?_ ?_)
  ·repeat' (first|exact trivial|rfl|exact ap_ rfl|omega|apply And.intro)
  ·first|rfl|(simp only [aqb,ap',aqd,ap5]<;>rfl)
 rcases af H with ⟨q_45,H⟩|⟨q_45,H⟩
 ·obtain ⟨r_46,c23,H⟩:=bd_ H
  replace c23:=ky c23
  cases H
  exact aK
 obtain ⟨r_47,c24,H⟩:=bd_ H
 replace c24:=fZ c24
 cases H
 exact aK
def h_ (a_e:Ex) (rec:Ex->Option Int):(Int × Int)->Option (Step (Int × Int) (Int)):=fun s=>match s with
 | (n_1,i_2)=>bif (decide (i_2<((a_e.args.length:Nat):Int))) then (aT a_e.args i_2).bind fun x_4=>(rec x_4).bind fun r_5=>some (.next ((PW n_1 r_5),(IntKind.i64.wrap (i_2+(1:Int))))) else
 some (.exit (n_1,i_2))
def yl:Sum (Int × Int) (Int)->Option ((Int))
 | .inl (n_1,i_2)=>some (IntKind.i64.wrap (n_1+(1:Int)))
 | .inr q=>some q
def vS (rec:Ex->Option Int) (a_e:Ex):Option (Int):=(az (h_ a_e rec) fuel ((0:Int),(0:Int))).bind (yl)
theorem UU {rec:Ex->Option Int}  (hrec : ∀ {x:Ex} {r:Int}, rec x=some r->Pure Tryz.prog 141 [.agg (tE x)] (.val (.one (.int .i64 r)))) {a_e:Ex} {r:Int} (H:vS rec a_e=some r):Pure Tryz.prog 141 [.agg (tE a_e)] (.val (.one (.int .i64 r))):=by
 unfold vS at H
 rw [aL a_e]
 refine po_ Tryz.func141 Tryz.ntmps141 ?_
 refine bz ?_
 refine alM_ (fun s:Int × Int=>match s with|(n_1,i_2)=>[(1, .one (.ptr 0 0)),(3, .one (.c (.int .i64 n_1))),(4, .one (.c (.int .i64 i_2)))]) (fun s=>match s with|(n_1,i_2)=>[.box [.c (.int .i64 a_e.op), .c (.int .i64 a_e.int), .c (.int .i64 a_e.v.kind), .c (.int .i64 a_e.v.int), .c (.str a_e.v.text), .c (.str a_e.nm), .c (.lst (a_e.args.map tE))]]) H (fun _=>aqj _)
  (fm_ bY [] rfl bA cz) ?_
 rintro ⟨n_1,i_2⟩ st1 hb1 hk1
 unfold h_ at hb1
 dsimp only at hb1 ⊢
 rcases af hb1 with ⟨q_3,hb1⟩|⟨q_3,hb1⟩
 ·obtain ⟨x_4,i1z,i1,i1x,hb1⟩:=bn (f:=tE) hb1
  simp only [aqb,ap',aqd,ap5,aL] at i1x
  obtain ⟨r_5,c2,hb1⟩:=bd_ hb1
  replace c2:=hrec c2
  try simp only [aqb,ap',aqd,ap5,aL] at c2
  cases hb1
  refine bz ?_
  exact ⟨_,rfl,fm_ bY [] rfl bA cz⟩
 cases hb1
 have hx1:yl (.inl (n_1,i_2))=some _:=hk1
 unfold yl at hx1
 dsimp only at hx1
 cases hx1
 exact aK
def rT:Nat->Ex->Option Int
 | 0,_=>none
 | n+1,x=>vS (rT n) x
theorem KO : ∀ (n:Nat) {x:Ex} {r:Int}, rT n x=some r->Pure Tryz.prog 141 [.agg (tE x)] (.val (.one (.int .i64 r)))
 | 0,_,_,h=>nomatch h
 | n+1,_,_,h=>UU (KO n) h
def qI (a_e:Ex) (a_kinds:(List Int)) (rec:Ex->List Int->Option (Int × Int)):((List Int) × Int)->Option (Step ((List Int) × Int) (Int × Int)):=fun s=>match s with
 | (l_8,i_9)=>bif (decide (i_9<((a_e.args.length:Nat):Int))) then (aT a_e.args i_9).bind fun x_11=>(rec x_11 a_kinds).bind fun r_12=>bif (decide (r_12.2≠(0:Int))) then some (.ret ((0:Int),r_12.2)) else
 bif (decide (l_8.length+1<=17592186044416)) then (some (.next ((l_8++[r_12.1]),(IntKind.i64.wrap (i_9+(1:Int)))))) else none else
 some (.exit (l_8,i_9))
def nz (a_e:Ex) (a_kinds:(List Int)):Sum ((List Int) × Int) (Int × Int)->Option ((Int × Int))
 | .inl (l_8,i_9)=>(gRs11 a_e l_8 a_kinds).bind fun r_14=>bif (!r_14.2) then some ((0:Int),(7:Int)) else
 some (r_14.1,(0:Int))
 | .inr q=>some q
def dZ (a_e:Ex) (a_kinds:(List Int)) (rec:Ex->List Int->Option (Int × Int)):((List Int) × Int)->Option (Step ((List Int) × Int) (Int × Int)):=fun s=>match s with
 | (l_16,i_17)=>bif (decide (i_17<((a_e.args.length:Nat):Int))) then (aT a_e.args i_17).bind fun x_19=>(rec x_19 a_kinds).bind fun r_20=>bif (decide (r_20.2≠(0:Int))) then some (.ret ((0:Int),r_20.2)) else
 bif (decide (l_16.length+1<=17592186044416)) then (some (.next ((l_16++[r_20.1]),(IntKind.i64.wrap (i_17+(1:Int)))))) else none else
 some (.exit (l_16,i_17))
def kL (a_e:Ex) (a_kinds:(List Int)):Sum ((List Int) × Int) (Int × Int)->Option ((Int × Int))
 | .inl (l_16,i_17)=>(gRs11 a_e l_16 a_kinds).bind fun r_22=>bif (!r_22.2) then some ((0:Int),(7:Int)) else
 some (r_22.1,(0:Int))
 | .inr q=>some q
def wQ (rec:Ex->List Int->Option (Int × Int)) (a_e:Ex) (a_kinds:(List Int)):Option (Int × Int):=(Bz a_e.op).bind fun r_1=>bif (decide (r_1.1<(0:Int))) then some ((0:Int),(7:Int)) else
 (nD a_e).bind fun r_3=>bif (!r_3) then some ((0:Int),(8:Int)) else
 bif (decide (a_e.op=(2:Int))) then bif (decide (a_e.int<(0:Int))) then some ((0:Int),(13:Int)) else
 bif (decide (((a_kinds.length:Nat):Int)<=a_e.int)) then some ((0:Int),(13:Int)) else
 (az (qI a_e a_kinds rec) fuel ([],(0:Int))).bind (nz a_e a_kinds) else
 (az (dZ a_e a_kinds rec) fuel ([],(0:Int))).bind (kL a_e a_kinds)
theorem Uv {rec:Ex->List Int->Option (Int × Int)}  (hrec : ∀ {x:Ex} {y:List Int} {r:Int × Int}, rec x y=some r->Pure Tryz.prog 142 [.agg (tE x), .one (.lst (y.map (fun x=>[AC.int .i64 x])))] (.tup [.one (.int .i64 r.1), .one (.int .i64 r.2)])) {a_e:Ex} {a_kinds:(List Int)} {r:Int × Int} (H:wQ rec a_e a_kinds=some r):Pure Tryz.prog 142 [.agg (tE a_e), .one (.lst (a_kinds.map (fun x=>[AC.int .i64 x])))] (.tup [.one (.int .i64 r.1), .one (.int .i64 r.2)]):=by
 unfold wQ at H
 rw [aL a_e]
 refine po_ Tryz.func142 Tryz.ntmps142 ?_
 obtain ⟨r_1,c1,H⟩:=bd_ H
 replace c1:=R5 c1
 rcases af H with ⟨q_2,H⟩|⟨q_2,H⟩
 ·cases H
  exact aK
 obtain ⟨r_3,c2,H⟩:=bd_ H
 replace c2:=Kb c2
 try simp only [aqb,ap',aqd,ap5,aL] at c2
 rcases af H with ⟨q_4,H⟩|⟨q_4,H⟩
 ·cases H
  exact aK
 rcases af H with ⟨q_5,H⟩|⟨q_5,H⟩
 ·rcases af H with ⟨q_6,H⟩|⟨q_6,H⟩
  ·cases H
   exact aK
  rcases af H with ⟨q_7,H⟩|⟨q_7,H⟩
  ·cases H
   exact aK
  refine bz ?_
  refine dC 8 1 rfl ?_
  refine alM_ (fun s:(List Int) × Int=>match s with|(l_8,i_9)=>[(1, .one (.c (.lst (a_kinds.map (fun x=>[AC.int .i64 x]))))),(2, .one (.ptr 0 0)),(8, .one (.own (l_8.map (fun x=>[AC.int .i64 x])) 1)),(9, .one (.c (.int .i64 i_9)))]) (fun s=>match s with|(l_8,i_9)=>[.box [.c (.int .i64 a_e.op), .c (.int .i64 a_e.int), .c (.int .i64 a_e.v.kind), .c (.int .i64 a_e.v.int), .c (.str a_e.v.text), .c (.str a_e.nm), .c (.lst (a_e.args.map tE))], .spare l_8.length 1]) H (fun _=>aqj _)
   (fm_ bY [] rfl bA cz) ?_
  rintro ⟨l_8,i_9⟩ st1 hb1 hk1
  unfold qI at hb1
  dsimp only at hb1 ⊢
  rcases af hb1 with ⟨q_10,hb1⟩|⟨q_10,hb1⟩
  ·obtain ⟨x_11,i3z,i3,i3x,hb1⟩:=bn (f:=tE) hb1
   simp only [aqb,ap',aqd,ap5,aL] at i3x
   obtain ⟨r_12,c4,hb1⟩:=bd_ hb1
   replace c4:=hrec c4
   try simp only [aqb,ap',aqd,ap5,aL] at c4
   rcases af hb1 with ⟨q_13,hb1⟩|⟨q_13,hb1⟩
   ·cases hb1
    have hx1:nz a_e a_kinds (.inr ((0:Int),r_12.2))=some _:=hk1
    unfold nz at hx1
    dsimp only at hx1
    cases hx1
    exact aK
   obtain ⟨g5,hb1⟩:=aS hb1
   cases hb1
   refine bz ?_
   exact ⟨_,rfl,fm_ jD [] iR bA cz⟩
  cases hb1
  have hx1:nz a_e a_kinds (.inl (l_8,i_9))=some _:=hk1
  unfold nz at hx1
  dsimp only at hx1
  obtain ⟨r_14,c6,hx1⟩:=bd_ hx1
  replace c6:=GJ c6
  try simp only [aqb,ap',aqd,ap5,aL] at c6
  rcases af hx1 with ⟨q_15,hx1⟩|⟨q_15,hx1⟩
  ·cases hx1
   exact aK
  cases hx1
  exact aK
 refine bz ?_
 refine dC 8 1 rfl ?_
 refine alM_ (fun s:(List Int) × Int=>match s with|(l_16,i_17)=>[(1, .one (.c (.lst (a_kinds.map (fun x=>[AC.int .i64 x]))))),(2, .one (.ptr 0 0)),(8, .one (.own (l_16.map (fun x=>[AC.int .i64 x])) 1)),(9, .one (.c (.int .i64 i_17)))]) (fun s=>match s with|(l_16,i_17)=>[.box [.c (.int .i64 a_e.op), .c (.int .i64 a_e.int), .c (.int .i64 a_e.v.kind), .c (.int .i64 a_e.v.int), .c (.str a_e.v.text), .c (.str a_e.nm), .c (.lst (a_e.args.map tE))], .spare l_16.length 1]) H (fun _=>aqj _)
  (fm_ bY [] rfl bA cz) ?_
 rintro ⟨l_16,i_17⟩ st2 hb2 hk2
 unfold dZ at hb2
 dsimp only at hb2 ⊢
 rcases af hb2 with ⟨q_18,hb2⟩|⟨q_18,hb2⟩
 ·obtain ⟨x_19,i7z,i7,i7x,hb2⟩:=bn (f:=tE) hb2
  simp only [aqb,ap',aqd,ap5,aL] at i7x
  obtain ⟨r_20,c8,hb2⟩:=bd_ hb2
  replace c8:=hrec c8
  try simp only [aqb,ap',aqd,ap5,aL] at c8
  rcases af hb2 with ⟨q_21,hb2⟩|⟨q_21,hb2⟩
  ·cases hb2
   have hx2:kL a_e a_kinds (.inr ((0:Int),r_20.2))=some _:=hk2
   unfold kL at hx2
   dsimp only at hx2
   cases hx2
   exact aK
  obtain ⟨g9,hb2⟩:=aS hb2
  cases hb2
  refine bz ?_
  exact ⟨_,rfl,fm_ jD [] iR bA cz⟩
 cases hb2
 have hx2:kL a_e a_kinds (.inl (l_16,i_17))=some _:=hk2
 unfold kL at hx2
 dsimp only at hx2
 obtain ⟨r_22,c10,hx2⟩:=bd_ hx2
 replace c10:=GJ c10
 try simp only [aqb,ap',aqd,ap5,aL] at c10
 rcases af hx2 with ⟨q_23,hx2⟩|⟨q_23,hx2⟩
 ·cases hx2
  exact aK
 cases hx2
 exact aK
def nI:Nat->Ex->List Int->Option (Int × Int)
 | 0,_,_=>none
 | n+1,x,y=>wQ (nI n) x y
theorem Kw : ∀ (n:Nat) {x:Ex} {y:List Int} {r:Int × Int}, nI n x y=some r->Pure Tryz.prog 142 [.agg (tE x), .one (.lst (y.map (fun x=>[AC.int .i64 x])))] (.tup [.one (.int .i64 r.1), .one (.int .i64 r.2)])
 | 0,_,_,_,h=>nomatch h
 | n+1,_,_,_,h=>Uv (Kw n) h
def EI (a_e:Ex) (a_kinds:(List Int)):Option (Int × Int):=(rT fuel a_e).bind fun r_1=>bif (decide ((24:Int)<r_1)) then some ((0:Int),(26:Int)) else
 (nI fuel a_e a_kinds).bind fun r_3=>some (r_3.1,r_3.2)
theorem adO {a_e:Ex} {a_kinds:(List Int)} {r:Int × Int} (H:EI a_e a_kinds=some r):Pure Tryz.prog 89 [.agg (tE a_e), .one (.lst (a_kinds.map (fun x=>[AC.int .i64 x])))] (.tup [.one (.int .i64 r.1), .one (.int .i64 r.2)]):=by
 unfold EI at H
 rw [aL a_e]
 refine po_ Tryz.func89 Tryz.ntmps89 ?_
 obtain ⟨r_1,c1,H⟩:=bd_ H
 replace c1:=KO fuel c1
 try simp only [aqb,ap',aqd,ap5,aL] at c1
 rcases af H with ⟨q_2,H⟩|⟨q_2,H⟩
 ·cases H
  exact aK
 obtain ⟨r_3,c2,H⟩:=bd_ H
 replace c2:=Kw fuel c2
 try simp only [aqb,ap',aqd,ap5,aL] at c2
 cases H
 exact aK
def Db (a_e:Ex) (a_kinds:(List Int)):Option (Int):=(EI a_e a_kinds).bind fun r_1=>bif (decide (r_1.2≠(0:Int))) then some r_1.2 else
 bif (decide (r_1.1≠(3:Int))) then bif (decide (r_1.1≠(0:Int))) then some (7:Int) else
 some (0:Int) else
 some (0:Int)
theorem abg {a_e:Ex} {a_kinds:(List Int)} {r:Int} (H:Db a_e a_kinds=some r):Pure Tryz.prog 49 [.agg (tE a_e), .one (.lst (a_kinds.map (fun x=>[AC.int .i64 x])))] (.val (.one (.int .i64 r))):=by
 unfold Db at H
 rw [aL a_e]
 refine po_ Tryz.func49 Tryz.ntmps49 ?_
 obtain ⟨r_1,c1,H⟩:=bd_ H
 replace c1:=adO c1
 try simp only [aqb,ap',aqd,ap5,aL] at c1
 rcases af H with ⟨q_2,H⟩|⟨q_2,H⟩
 ·cases H
  exact aK
 rcases af H with ⟨q_3,H⟩|⟨q_3,H⟩
 ·rcases af H with ⟨q_4,H⟩|⟨q_4,H⟩
  ·cases H
   exact aK
  cases H
  exact aK
 cases H
 exact aK
def ig (a_e:Ex) (a_most:Int) (rec:Ex->Int->Option Int):(Int × Int)->Option (Step (Int × Int) (Int)):=fun s=>match s with
 | (n_1,i_2)=>bif (decide (i_2<((a_e.args.length:Nat):Int))) then bif (decide (n_1<a_most)) then (aT a_e.args i_2).bind fun x_5=>(rec x_5 (IntKind.i64.wrap (a_most-n_1))).bind fun r_6=>some (.next ((IntKind.i64.wrap (n_1+r_6)),(IntKind.i64.wrap (i_2+(1:Int))))) else
 some (.exit (n_1,i_2)) else
 some (.exit (n_1,i_2))
def o9:Sum (Int × Int) (Int)->Option ((Int))
 | .inl (n_1,i_2)=>some n_1
 | .inr q=>some q
def Ca (rec:Ex->Int->Option Int) (a_e:Ex) (a_most:Int):Option (Int):=(az (ig a_e a_most rec) fuel ((1:Int),(0:Int))).bind (o9)
theorem Yy {rec:Ex->Int->Option Int}  (hrec : ∀ {x:Ex} {y:Int} {r:Int}, rec x y=some r->Pure Tryz.prog 88 [.agg (tE x), .one (.int .i64 y)] (.val (.one (.int .i64 r)))) {a_e:Ex} {a_most:Int} {r:Int} (H:Ca rec a_e a_most=some r):Pure Tryz.prog 88 [.agg (tE a_e), .one (.int .i64 a_most)] (.val (.one (.int .i64 r))):=by
 unfold Ca at H
 rw [aL a_e]
 refine po_ Tryz.func88 Tryz.ntmps88 ?_
 refine bz ?_
 refine alM_ (fun s:Int × Int=>match s with|(n_1,i_2)=>[(1, .one (.c (.int .i64 a_most))),(2, .one (.ptr 0 0)),(5, .one (.c (.int .i64 n_1))),(6, .one (.c (.int .i64 i_2)))]) (fun s=>match s with|(n_1,i_2)=>[.box [.c (.int .i64 a_e.op), .c (.int .i64 a_e.int), .c (.int .i64 a_e.v.kind), .c (.int .i64 a_e.v.int), .c (.str a_e.v.text), .c (.str a_e.nm), .c (.lst (a_e.args.map tE))]]) H (fun _=>aqj _)
  (fm_ bY [] rfl bA cz) ?_
 rintro ⟨n_1,i_2⟩ st1 hb1 hk1
 unfold ig at hb1
 dsimp only at hb1 ⊢
 rcases af hb1 with ⟨q_3,hb1⟩|⟨q_3,hb1⟩
 ·rcases af hb1 with ⟨q_4,hb1⟩|⟨q_4,hb1⟩
  ·obtain ⟨x_5,i1z,i1,i1x,hb1⟩:=bn (f:=tE) hb1
   simp only [aqb,ap',aqd,ap5,aL] at i1x
   obtain ⟨r_6,c2,hb1⟩:=bd_ hb1
   replace c2:=hrec c2
   try simp only [aqb,ap',aqd,ap5,aL] at c2
   cases hb1
   refine bz ?_
   exact ⟨_,rfl,fm_ bY [] rfl bA cz⟩
  cases hb1
  have hx1:o9 (.inl (n_1,i_2))=some _:=hk1
  unfold o9 at hx1
  dsimp only at hx1
  cases hx1
  exact aK
 cases hb1
 have hx1:o9 (.inl (n_1,i_2))=some _:=hk1
 unfold o9 at hx1
 dsimp only at hx1
 cases hx1
 exact aK
def uX:Nat->Ex->Int->Option Int
 | 0,_,_=>none
 | n+1,x,y=>Ca (uX n) x y
theorem Oo : ∀ (n:Nat) {x:Ex} {y:Int} {r:Int}, uX n x y=some r->Pure Tryz.prog 88 [.agg (tE x), .one (.int .i64 y)] (.val (.one (.int .i64 r)))
 | 0,_,_,_,h=>nomatch h
 | n+1,_,_,_,h=>Yy (Oo n) h
def Py (a_l:(List Ex)) (a_most:Int):Option (Bool):=(uX fuel (Ex.mk (0:Int) (0:Int) (⟨(0:Int),(0:Int),ByteArray.empty⟩:Val) ByteArray.empty a_l) (IntKind.i64.wrap (a_most+(2:Int)))).bind fun r_1=>some (decide (r_1<=(IntKind.i64.wrap (a_most+(1:Int)))))
theorem ae7 {a_l:(List Ex)} {a_most:Int} {r:Bool} (H:Py a_l a_most=some r):Pure Tryz.prog 48 [.one (.lst (a_l.map tE)), .one (.int .i64 a_most)] (.val (.one (.bool r))):=by
 unfold Py at H
 refine po_ Tryz.func48 Tryz.ntmps48 ?_
 obtain ⟨r_1,c1,H⟩:=bd_ H
 replace c1:=Oo fuel c1
 try simp only [aqb,ap',aqd,ap5,aL] at c1
 cases H
 exact aK
theorem Kc (e:Ex) (m:Int) (hm:1<=m/\m<=1000) (rec:Ex->Int->Option Int)
  (hrec : ∀ x∈e.args, ∀ k:Int,1<=k->k<m -> ∃ r,rec x k=some r/\1<=r/\r<=k/\(r<k->lF r.toNat x)) :
  ∀ (N i:Nat) (c:Int),1<=c->c<=m->i<=e.args.length->(m-c).toNat<N->(i:Int)<=c ->
   ∃ r j,az (ig e m rec) N (c,(i:Int))=some (.inl (r,j))/\c<=r/\r<=m/\(r<m->((e.args.length-i:Nat):Int)<=r-c /\ ∀ x∈e.args.drop i,lF (r-c).toNat x)
 | 0,i,c,_,_,_,h,_=>by omega
 | N+1,i,c,h1,h2,hi,hN,hic=>by
  rw [az]
  by_cases hlt:i<e.args.length
  ·obtain ⟨x,hx⟩:=gol_ hlt
   have hmem:=ap6 hx
   by_cases hc:c<m
   ·obtain ⟨w,hw,w1,w2,w3⟩:=hrec x hmem (m-c) (by omega) (by omega)
    have hb:ig e m rec (c,(i:Int))=some (.next (c+w,((i+1:Nat):Int))):=by
     unfold ig
     dsimp only
     rw [bf hx,ap2,ap4 hc,ap2,gn_ hx,apZ,fO (by omega),hw,apZ,fO (by omega),wrapN (by omega)]
    rw [hb]
    obtain ⟨r,j,e1,e2,e3,e4⟩:=Kc e m hm rec hrec N (i+1) (c+w) (by omega) (by omega) (by omega) (by omega) (by omega)
    refine ⟨r,j,e1,by omega,e3,fun hr=>?_⟩
    obtain ⟨f1,f2⟩:=e4 hr
    refine ⟨by omega,fun y hy=>?_⟩
    rw [aqv hlt,(ap0.1 hx).2] at hy
    rcases aqf.1 hy with rfl|hy
    ·exact xL (by omega) (w3 (by omega))
    ·exact xL (by omega) (f2 y hy)
   ·have hb:ig e m rec (c,(i:Int))=some (.exit (c,(i:Int))):=by
     unfold ig
     dsimp only
     rw [bf hx,ap2,ap3 hc,ap1]
    rw [hb]
    exact ⟨c,_,rfl,Int.le_refl _,h2,fun hr=>absurd hr hc⟩
  ·have:i=e.args.length:=by omega
   subst this
   have hb:ig e m rec (c,((e.args.length:Nat):Int))=some (.exit (c,((e.args.length:Nat):Int))):=by
    unfold ig
    dsimp only
    rw [lF_,ap1]
   rw [hb]
   refine ⟨c,_,rfl,Int.le_refl _,h2,fun hr=>⟨by omega,fun y hy=>?_⟩⟩
   rw [aqU] at hy
   cases hy
theorem Tk : ∀ (n:Nat) (e:Ex) (m:Int),1<=m->m<=1000->m<=(n:Int) -> ∃ r,uX n e m=some r/\1<=r/\r<=m/\(r<m->lF r.toNat e/\((e.args.length:Nat):Int)<r /\ ∀ x∈e.args,lF (r-1).toNat x)
 | 0,e,m,h1,_,h3=>by omega
 | n+1,e,m,h1,h2,h3=>by
  have hrec : ∀ x∈e.args, ∀ k:Int,1<=k->k<m -> ∃ r,uX n x k=some r/\1<=r/\r<=k/\(r<k->lF r.toNat x):=by
   intro x _ k k1 k2
   obtain ⟨r,e1,e2,e3,e4⟩:=Tk n x k k1 (by omega) (by omega)
   exact ⟨r,e1,e2,e3,fun h=>(e4 h).1⟩
  obtain ⟨r,j,e1,e2,e3,e4⟩:=Kc e m ⟨h1,h2⟩ (uX n) hrec fuel 0 1 (Int.le_refl _) h1 (aqj _) (by unfold fuel;omega) (by omega)
  refine ⟨r,?_,e2,e3,fun hr=>?_⟩
  ·show Ca (uX n) e m=_
   unfold Ca
   rw [show ((0:Nat):Int)=0 from rfl] at e1
   rw [e1];rfl
  ·obtain ⟨f1,f2⟩:=e4 hr
   rw [List.drop_zero] at f2
   refine ⟨?_,by omega,f2⟩
   obtain ⟨k,hk⟩ : ∃ k,r.toNat=k+1:=⟨r.toNat-1,by omega⟩
   rw [hk]
   refine ⟨by omega,fun x hx=>?_⟩
   have:=f2 x hx
   rwa [show (r-1).toNat=k by omega] at this
theorem adn (l:List Ex) : ∃ b,Py l 200=some b/\(b=true->l.length<=200 /\ ∀ e∈l,lF 200 e):=by
 obtain ⟨r,e1,e2,e3,e4⟩:=Tk fuel (Ex.mk 0 0 ⟨0,0,ByteArray.empty⟩ ByteArray.empty l) 202 (by omega) (by omega) (by unfold fuel;omega)
 refine ⟨decide (r<=201),?_,fun h=>?_⟩
 ·unfold Py
  rw [fO (by omega),fO (by omega)]
  show (uX fuel (Ex.mk 0 0 ⟨0,0,ByteArray.empty⟩ ByteArray.empty l) 202).bind _=_
  rw [e1];rfl
 ·have:=aqs h
  obtain ⟨_,f1,f2⟩:=e4 (by omega)
  exact ⟨by have:((l.length:Nat):Int)<r:=f1;omega,fun e he=>xL (by omega) (f2 e he)⟩
theorem aeY {e:Ex} (h:lF 200 e):lF fuel e:=xL (by unfold fuel;omega) h
end Go.Proofs.YtlcceppoloaecaaGreatDoor
