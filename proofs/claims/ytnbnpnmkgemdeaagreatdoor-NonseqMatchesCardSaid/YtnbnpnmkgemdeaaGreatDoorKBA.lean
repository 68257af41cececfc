/- Parts of the proof, joined. No condition. -/
import Derived.Test.YtnbnpnmkgemdeaaGreatDoorKAA
import Derived.Test.YtnbnpnmkgemdeaaGreatDoorKAZ
import Derived.Test.YtnbnpnmkgemdeaaGreatDoorKAO
set_option linter.unusedSimpArgs false
set_option linter.unusedVariables false
namespace Go.Proofs.YtnbnpnmkgemdeaaGreatDoor
open Go.RowKit Go.MapKept
set_option maxRecDepth 100000
theorem IU {α β ρ:Type} {l:List α} {body:(List β × Int)->Option (Step (List β × Int) ρ)} (g:α->β) (h1 : ∀ (c:List β) (i:Nat) x,l[i]?=some x->i<c.length->body (c,(i:Int))=some (.next (c.set i (g x),((i+1:Nat):Int)))) (h2 : ∀ c:List β,body (c,((l.length:Nat):Int))=some (.exit (c,((l.length:Nat):Int)))) :
  ∀ (n i:Nat) (c:List β),c.length=l.length->i<=l.length->l.length-i<n->ah body n (c,(i:Int))=some (.inl (c.take i++(l.drop i).map g,((l.length:Nat):Int)))
 | 0,i,c,_,_,h=>by omega
 | n+1,i,c,hc,hi,hn=>by
  rw [ah]
  by_cases hlt:i<l.length
  ·obtain ⟨x,hx⟩:=gol_ hlt
   have e1:=(YY.1 hx).2
   rw [h1 c i x hx (by omega)]
   show ah body n (c.set i (g x),((i+1:Nat):Int))=_
   rw [IU g h1 h2 n (i+1) (c.set i (g x)) (by rw [List.length_set];exact hc) (by omega) (by omega),Zv hlt,e1,Y9]
   congr 3
   rw [List.take_succ_eq_append_getElem (by rw [List.length_set];omega),List.getElem_set_self,Zp,List.take_set_of_le (Ze i)]
   rfl
  ·have:i=l.length:=by omega
   subst this
   rw [h2,ZO,Zd,Zy, <- hc,List.take_length]
def fU:Nat->Ex->Prop
 | 0,_=>False
 | n+1,e=>e.args.length<=100000 /\ ∀ x∈e.args,fU n x
theorem mf : ∀ {n m:Nat} {e:Ex}, n<=m->fU n e->fU m e
 | 0,_,_,_,h=>h.elim
 | n+1,0,_,h,_=>by omega
 | n+1,m+1,e,h,k=>⟨k.1,fun x hx=>mf (by omega) (k.2 x hx)⟩
def xQ (l:List Val):Val:=(l.find? fun v=>decide (v.kind≠0)).getD gY
theorem zJ : ∀ l:List Val,bU (ρ:=Val) (fun (_:Unit) (v:Val)=>some (if v.kind≠0 then .inr v else .inl ())) () l=some (match l.find? fun v=>decide (v.kind≠0) with|some v => .inr v|none => .inl ())
 | []=>rfl
 | v::l=>by
  rw [bU]
  by_cases h:v.kind=0
  ·simp only [ne_eq,h,not_true_eq_false,if_false]
   rw [zJ l,List.find?_cons_of_neg (by simp [h])]
  ·rw [List.find?_cons_of_pos (by simp [h])]
   simp [h]
theorem H7 (l:List Val) (hl:l.length<=100000):qx 23 l=some (xQ l):=by
 unfold qx
 rw [show decide ((23:Int)=22)=false from rfl,YZ]
 rw [bE (l:=l) (mk:=fun (_:Unit) i=>i) (f:=fun _ v=>some (if v.kind≠0 then .inr v else .inl ())) ?_ ?_ (by unfold fuel;omega) ()]
 ·rw [zJ]
  unfold xQ
  cases l.find? fun v=>decide (v.kind≠0) with
  | none=>exact congrArg (fun o:Option Val=>o.bind fun r=>some r) bO
  | some v=>rfl
 ·intro s i x hx
  have hi:=(YY.1 hx).1
  unfold qI
  dsimp only
  rw [aU hx,Y0,gn_ hx,wrapN (by omega)]
  simp only [YX]
  by_cases h:x.kind=0
  ·simp [h,o7]
  ·simp [h,o7]
 ·intro s
  unfold qI
  dsimp only
  rw [lF_,YZ]
theorem Lv (l:List Val) (hl:l.length<=100000):(ah (pE l) fuel (0:Int)).bind mq=some (xQ l):=by
 rw [bE (l:=l) (mk:=fun (_:Unit) i=>i) (f:=fun _ v=>some (if v.kind≠0 then .inr v else .inl ())) ?_ ?_ (by unfold fuel;omega) ()]
 ·rw [zJ]
  unfold xQ
  cases l.find? fun v=>decide (v.kind≠0) with
  | none=>exact congrArg (fun o:Option Val=>o.bind fun r=>some r) kJ
  | some v=>rfl
 ·intro s i x hx
  have hi:=(YY.1 hx).1
  unfold pE
  dsimp only
  rw [aU hx,Y0,gn_ hx,wrapN (by omega)]
  simp only [YX]
  by_cases h:x.kind=0
  ·simp [h,o7]
  ·simp [h,o7]
 ·intro s
  unfold pE
  dsimp only
  rw [lF_,YZ]
theorem Sz {l:List Val} (h : ∀ v∈l,vF v=true):vF (xQ l)=true:=by
 unfold xQ
 cases e:l.find? fun v=>decide (v.kind≠0) with
 | none=>exact lh
 | some v=>exact h v (List.mem_of_find?_eq_some e)
theorem pI {op:Int} {a b:Val} (h:VV a):vF (fB op a b)=true:=by
 unfold fB
 cases dR [a,b] 1 with
 | false=>exact lh
 | true=>exact (fK h.int).2
theorem UJ (a:Val):vF (Jq a)=true:=by
 unfold Jq
 cases dR [a] 1 with
 | false=>exact lh
 | true=>exact mD _
theorem U3 (a b:Val):vF (GZ a b)=true:=by
 unfold GZ
 cases dR [a,b] 2 with
 | false=>exact lh
 | true=>exact mD _
theorem TR (a:Val):vF (H5 a)=true:=by
 unfold H5
 cases dR [a] 2 with
 | false=>exact lh
 | true=>exact mD _
theorem UH (r:Int) (a b c d:Val):vF (Ay r a b c d)=true:=by
 unfold Ay
 cases dR [a,b,c,d] 1 with
 | false=>exact lh
 | true =>
  rw [Y0]
  split
  ·exact A_ _
  ·exact lh
def nD (op k:Int) (l:List Val):Val :=
 if op=4 then w_ (Da (tF_ (pG l 0))) else if op=5 then w_ (yg Ei l.tail (tF_ (pG l 0))) else if op=6 then w_ (yg Rs l.tail (tF_ (pG l 0)))
 else if op=7\/op=8\/op=9\/op=10\/op=11\/op=12 then w_ (qO op (pG l 0) (pG l 1))
 else if op=18 then Jq (pG l 0) else if op=19 then GZ (pG l 0) (pG l 1) else if op=20 then H5 (pG l 0) else if op=21 then eF (decide ((pG l 0).kind=0))
 else if op=22 then (bif decide (tF_ (pG l 0)=2) then pG l 1 else pG l 2) else if op=23 then xQ l else if op=24 then Ay k (pG l 0) (pG l 1) (pG l 2) (pG l 3)
 else fB op (pG l 0) (pG l 1)
theorem Yq {α:Type} {l:List α} (h:l.length=1) : ∃ a,l=[a]:=match l,h with|[a],_=>⟨a,rfl⟩
theorem OV {α:Type} {l:List α} (h:l.length=2) : ∃ a b,l=[a,b]:=match l,h with|[a,b],_=>⟨a,b,rfl⟩
theorem SY {α:Type} {l:List α} (h:l.length=3) : ∃ a b c,l=[a,b,c]:=match l,h with|[a,b,c],_=>⟨a,b,c,rfl⟩
theorem X7 {α:Type} {l:List α} (h:l.length=4) : ∃ a b c d,l=[a,b,c,d]:=match l,h with|[a,b,c,d],_=>⟨a,b,c,d,rfl⟩
theorem XN {α:Type} {l:List α} (h:1<=l.length) : ∃ a m,l=a::m:=match l,h with|a::m,_=>⟨a,m,rfl⟩
structure oD (op:Int) (l:List Val):Prop where
 lo:(kz op).1<=((l.length:Nat):Int)
 hi:((l.length:Nat):Int)<=(kz op).2
 len:l.length<=100000
 vf : ∀ v∈l,vF v=true
theorem TL {op:Int} {l:List Val} (A:oD op l) (h:kz op=(1,1)) : ∃ a,l=[a]/\VV a:=by
 have h1:=A.lo
 have h2:=A.hi
 rw [h] at h1 h2
 dsimp only at h1 h2
 obtain ⟨a,rfl⟩:=Yq (l:=l) (by omega)
 exact ⟨a,rfl,yh (A.vf a (by simp))⟩
theorem AL {op:Int} {l:List Val} (A:oD op l) (h:kz op=(2,2)) : ∃ a b,l=[a,b]/\VV a/\VV b:=by
 have h1:=A.lo
 have h2:=A.hi
 rw [h] at h1 h2
 dsimp only at h1 h2
 obtain ⟨a,b,rfl⟩:=OV (l:=l) (by omega)
 exact ⟨a,b,rfl,yh (A.vf a (by simp)),yh (A.vf b (by simp))⟩
theorem YT {op:Int} {l:List Val} (A:oD op l) (h:kz op=(3,3)) : ∃ a b c,l=[a,b,c]:=by
 have h1:=A.lo
 have h2:=A.hi
 rw [h] at h1 h2
 dsimp only at h1 h2
 exact SY (l:=l) (by omega)
theorem YG {op:Int} {l:List Val} (A:oD op l) (h:kz op=(4,4)) : ∃ a b c d,l=[a,b,c,d]:=by
 have h1:=A.lo
 have h2:=A.hi
 rw [h] at h1 h2
 dsimp only at h1 h2
 exact X7 (l:=l) (by omega)
theorem NR {op:Int} {l:List Val} (A:oD op l) (h:1<=(kz op).1) : ∃ a m,l=a::m/\VV a/\m.length<=1000000:=by
 have h1:=A.lo
 have h3:=A.len
 obtain ⟨a,m,rfl⟩:=XN (l:=l) (by omega)
 exact ⟨a,m,rfl,yh (A.vf a (by simp)),by rw [Zk] at h3;omega⟩
theorem I6 (e:Ex) (row l:List Val) (i:Int) (A:oD e.op l) (ho:e.op=4\/e.op=5\/e.op=6\/e.op=7\/e.op=8\/e.op=9\/e.op=10\/e.op=11\/e.op=12\/e.op=13\/e.op=14\/e.op=15\/e.op=16\/e.op=17\/e.op=18\/e.op=19\/e.op=20\/e.op=21\/e.op=22\/e.op=23\/e.op=24):gER_K e row (.inl (l,i))=some (nD e.op e.int l):=by
 rcases ho with ho|ho|ho|ho|ho|ho|ho|ho|ho|ho|ho|ho|ho|ho|ho|ho|ho|ho|ho|ho|ho
 ·obtain ⟨a,rfl,va⟩:=TL A (by rw [ho];rfl)
  have hv:nD 4 e.int [a]=w_ (Da (tF_ a)):=rfl
  rw [ho,hv]
  unfold gER_K
  dsimp only
  simp only [ho,Int.reduceEq,decide_false,decide_true,Y0,YZ]
  rw [show au [a] (0:Int)=some a from rfl,YX,jV,YX,xS (h_ a),YX,nU (qA _)];rfl
 ·obtain ⟨a,m,rfl,va,hm⟩:=NR A (by rw [ho];decide)
  have hv:nD 5 e.int (a::m)=w_ (yg Ei m (tF_ a)):=rfl
  rw [ho,hv]
  unfold gER_K
  dsimp only
  simp only [ho,Int.reduceEq,decide_false,decide_true,Y0,YZ]
  rw [DD 5 Ei Hg (fun a b ha hb=>by rw [show decide ((5:Int)=5)=true from rfl];exact QR ha hb) a m hm];rfl
 ·obtain ⟨a,m,rfl,va,hm⟩:=NR A (by rw [ho];decide)
  have hv:nD 6 e.int (a::m)=w_ (yg Rs m (tF_ a)):=rfl
  rw [ho,hv]
  unfold gER_K
  dsimp only
  simp only [ho,Int.reduceEq,decide_false,decide_true,Y0,YZ]
  rw [DD 6 Rs KO (fun a b ha hb=>by rw [show decide ((6:Int)=5)=false from rfl];exact RY ha hb) a m hm];rfl
 ·obtain ⟨a,b,rfl,va,vb⟩:=AL A (by rw [ho];rfl)
  have hv:nD 7 e.int [a,b]=w_ (qO 7 a b):=rfl
  rw [ho,hv]
  unfold gER_K
  dsimp only
  simp only [ho,Int.reduceEq,decide_false,decide_true,Y0,YZ]
  rw [show au [a,b] (0:Int)=some a from rfl,YX,show au [a,b] (1:Int)=some b from rfl,YX,ig,YX,nU (iG _ _ _)];rfl
 ·obtain ⟨a,b,rfl,va,vb⟩:=AL A (by rw [ho];rfl)
  have hv:nD 8 e.int [a,b]=w_ (qO 8 a b):=rfl
  rw [ho,hv]
  unfold gER_K
  dsimp only
  simp only [ho,Int.reduceEq,decide_false,decide_true,Y0,YZ]
  rw [show au [a,b] (0:Int)=some a from rfl,YX,show au [a,b] (1:Int)=some b from rfl,YX,ig,YX,nU (iG _ _ _)];rfl
 ·obtain ⟨a,b,rfl,va,vb⟩:=AL A (by rw [ho];rfl)
  have hv:nD 9 e.int [a,b]=w_ (qO 9 a b):=rfl
  rw [ho,hv]
  unfold gER_K
  dsimp only
  simp only [ho,Int.reduceEq,decide_false,decide_true,Y0,YZ]
  rw [show au [a,b] (0:Int)=some a from rfl,YX,show au [a,b] (1:Int)=some b from rfl,YX,ig,YX,nU (iG _ _ _)];rfl
 ·obtain ⟨a,b,rfl,va,vb⟩:=AL A (by rw [ho];rfl)
  have hv:nD 10 e.int [a,b]=w_ (qO 10 a b):=rfl
  rw [ho,hv]
  unfold gER_K
  dsimp only
  simp only [ho,Int.reduceEq,decide_false,decide_true,Y0,YZ]
  rw [show au [a,b] (0:Int)=some a from rfl,YX,show au [a,b] (1:Int)=some b from rfl,YX,ig,YX,nU (iG _ _ _)];rfl
 ·obtain ⟨a,b,rfl,va,vb⟩:=AL A (by rw [ho];rfl)
  have hv:nD 11 e.int [a,b]=w_ (qO 11 a b):=rfl
  rw [ho,hv]
  unfold gER_K
  dsimp only
  simp only [ho,Int.reduceEq,decide_false,decide_true,Y0,YZ]
  rw [show au [a,b] (0:Int)=some a from rfl,YX,show au [a,b] (1:Int)=some b from rfl,YX,ig,YX,nU (iG _ _ _)];rfl
 ·obtain ⟨a,b,rfl,va,vb⟩:=AL A (by rw [ho];rfl)
  have hv:nD 12 e.int [a,b]=w_ (qO 12 a b):=rfl
  rw [ho,hv]
  unfold gER_K
  dsimp only
  simp only [ho,Int.reduceEq,decide_false,decide_true,Y0,YZ]
  rw [show au [a,b] (0:Int)=some a from rfl,YX,show au [a,b] (1:Int)=some b from rfl,YX,ig,YX,nU (iG _ _ _)];rfl
 ·obtain ⟨a,b,rfl,va,vb⟩:=AL A (by rw [ho];rfl)
  have hv:nD 13 e.int [a,b]=fB 13 a b:=rfl
  rw [ho,hv]
  unfold gER_K
  dsimp only
  simp only [ho,Int.reduceEq,decide_false,decide_true,Y0,YZ]
  unfold fB
  rw [lM _ _ (by simp),YX]
  cases dR [a,b] 1 with
  | false=>exact congrArg (fun o:Option Val=>o.bind fun r=>some r) bO
  | true=>exact congrArg (fun o:Option Val=>o.bind fun r=>some r) (fK va.int).1
 ·obtain ⟨a,b,rfl,va,vb⟩:=AL A (by rw [ho];rfl)
  have hv:nD 14 e.int [a,b]=fB 14 a b:=rfl
  rw [ho,hv]
  unfold gER_K
  dsimp only
  simp only [ho,Int.reduceEq,decide_false,decide_true,Y0,YZ]
  unfold fB
  rw [lM _ _ (by simp),YX]
  cases dR [a,b] 1 with
  | false=>exact congrArg (fun o:Option Val=>o.bind fun r=>some r) bO
  | true=>exact congrArg (fun o:Option Val=>o.bind fun r=>some r) (fK va.int).1
 ·obtain ⟨a,b,rfl,va,vb⟩:=AL A (by rw [ho];rfl)
  have hv:nD 15 e.int [a,b]=fB 15 a b:=rfl
  rw [ho,hv]
  unfold gER_K
  dsimp only
  simp only [ho,Int.reduceEq,decide_false,decide_true,Y0,YZ]
  unfold fB
  rw [lM _ _ (by simp),YX]
  cases dR [a,b] 1 with
  | false=>exact congrArg (fun o:Option Val=>o.bind fun r=>some r) bO
  | true=>exact congrArg (fun o:Option Val=>o.bind fun r=>some r) (fK va.int).1
 ·obtain ⟨a,b,rfl,va,vb⟩:=AL A (by rw [ho];rfl)
  have hv:nD 16 e.int [a,b]=fB 16 a b:=rfl
  rw [ho,hv]
  unfold gER_K
  dsimp only
  simp only [ho,Int.reduceEq,decide_false,decide_true,Y0,YZ]
  unfold fB
  rw [lM _ _ (by simp),YX]
  cases dR [a,b] 1 with
  | false=>exact congrArg (fun o:Option Val=>o.bind fun r=>some r) bO
  | true=>exact congrArg (fun o:Option Val=>o.bind fun r=>some r) (fK va.int).1
 ·obtain ⟨a,b,rfl,va,vb⟩:=AL A (by rw [ho];rfl)
  have hv:nD 17 e.int [a,b]=fB 17 a b:=rfl
  rw [ho,hv]
  unfold gER_K
  dsimp only
  simp only [ho,Int.reduceEq,decide_false,decide_true,Y0,YZ]
  unfold fB
  rw [lM _ _ (by simp),YX]
  cases dR [a,b] 1 with
  | false=>exact congrArg (fun o:Option Val=>o.bind fun r=>some r) bO
  | true=>exact congrArg (fun o:Option Val=>o.bind fun r=>some r) (fK va.int).1
 ·obtain ⟨a,rfl,va⟩:=TL A (by rw [ho];rfl)
  have hv:nD 18 e.int [a]=Jq a:=rfl
  rw [ho,hv]
  unfold gER_K
  dsimp only
  simp only [ho,Int.reduceEq,decide_false,decide_true,Y0,YZ]
  unfold Jq
  rw [lM _ _ (by simp),YX]
  cases dR [a] 1 with
  | false=>exact congrArg (fun o:Option Val=>o.bind fun r=>some r) bO
  | true=>exact congrArg (fun o:Option Val=>o.bind fun r=>some r) (ji _)
 ·obtain ⟨a,b,rfl,va,vb⟩:=AL A (by rw [ho];rfl)
  have hv:nD 19 e.int [a,b]=GZ a b:=rfl
  rw [ho,hv]
  unfold gER_K
  dsimp only
  simp only [ho,Int.reduceEq,decide_false,decide_true,Y0,YZ]
  rw [Md va vb];rfl
 ·obtain ⟨a,rfl,va⟩:=TL A (by rw [ho];rfl)
  have hv:nD 20 e.int [a]=H5 a:=rfl
  rw [ho,hv]
  unfold gER_K
  dsimp only
  simp only [ho,Int.reduceEq,decide_false,decide_true,Y0,YZ]
  rw [KT];rfl
 ·obtain ⟨a,rfl,va⟩:=TL A (by rw [ho];rfl)
  have hv:nD 21 e.int [a]=eF (decide (a.kind=0)):=rfl
  rw [ho,hv]
  unfold gER_K
  dsimp only
  simp only [ho,Int.reduceEq,decide_false,decide_true,Y0,YZ]
  rw [show au [a] (0:Int)=some a from rfl,YX,jT];rfl
 ·obtain ⟨a,b,c,rfl⟩:=YT A (by rw [ho];rfl)
  have hv:nD 22 e.int [a,b,c]=(bif decide (tF_ a=2) then b else c):=rfl
  rw [ho,hv]
  unfold gER_K
  dsimp only
  simp only [ho,Int.reduceEq,decide_false,decide_true,Y0,YZ]
  unfold qx
  rw [show decide ((22:Int)=22)=true from rfl,Y0,show au [a,b,c] (0:Int)=some a from rfl,YX,jV,YX]
  cases decide (tF_ a=2)<;>rfl
 ·obtain ⟨a,m,rfl,va,hm⟩:=NR A (by rw [ho];decide)
  have hv:nD 23 e.int (a::m)=xQ (a::m):=rfl
  rw [ho,hv]
  unfold gER_K
  dsimp only
  simp only [ho,Int.reduceEq,decide_false,decide_true,Y0,YZ]
  rw [H7 _ A.len];rfl
 ·obtain ⟨a,b,c,d,rfl⟩:=YG A (by rw [ho];rfl)
  have hv:nD 24 e.int [a,b,c,d]=Ay e.int a b c d:=rfl
  rw [ho,hv]
  unfold gER_K
  dsimp only
  simp only [ho,Int.reduceEq,decide_false,decide_true,Y0,YZ]
  rw [Gu];rfl
theorem Qm (e:Ex) (l:List Val) (i:Int) (A:oD e.op l) (hle:l.length=e.args.length) (ho:e.op=4\/e.op=5\/e.op=6\/e.op=7\/e.op=8\/e.op=9\/e.op=10\/e.op=11\/e.op=12\/e.op=13\/e.op=14\/e.op=15\/e.op=16\/e.op=17\/e.op=18\/e.op=19\/e.op=20\/e.op=21\/e.op=23\/e.op=24):bA e (.inl (l,i))=some (nD e.op e.int l):=by
 rcases ho with ho|ho|ho|ho|ho|ho|ho|ho|ho|ho|ho|ho|ho|ho|ho|ho|ho|ho|ho|ho
 ·obtain ⟨a,rfl,va⟩:=TL A (by rw [ho];rfl)
  have hv:nD 4 e.int [a]=w_ (Da (tF_ a)):=rfl
  rw [ho,hv]
  unfold bA
  dsimp only
  rw [Y2 hle,Y0]
  simp only [ho,Int.reduceEq,decide_false,decide_true,Y0,YZ]
  rw [LV];rfl
 ·obtain ⟨a,m,rfl,va,hm⟩:=NR A (by rw [ho];decide)
  have hv:nD 5 e.int (a::m)=w_ (yg Ei m (tF_ a)):=rfl
  rw [ho,hv]
  unfold bA
  dsimp only
  rw [Y2 hle,Y0]
  simp only [ho,Int.reduceEq,decide_false,decide_true,Y0,YZ]
  rw [KH a m hm];rfl
 ·obtain ⟨a,m,rfl,va,hm⟩:=NR A (by rw [ho];decide)
  have hv:nD 6 e.int (a::m)=w_ (yg Rs m (tF_ a)):=rfl
  rw [ho,hv]
  unfold bA
  dsimp only
  rw [Y2 hle,Y0]
  simp only [ho,Int.reduceEq,decide_false,decide_true,Y0,YZ]
  rw [OJ a m hm];rfl
 ·obtain ⟨a,b,rfl,va,vb⟩:=AL A (by rw [ho];rfl)
  have hv:nD 7 e.int [a,b]=w_ (qO 7 a b):=rfl
  rw [ho,hv]
  unfold bA
  dsimp only
  rw [Y2 hle,Y0]
  simp only [ho,Int.reduceEq,decide_false,decide_true,Y0,YZ]
  rw [show au [a,b] (0:Int)=some a from rfl,YX,show au [a,b] (1:Int)=some b from rfl,YX,eP,YX,jr (iG _ _ _)];rfl
 ·obtain ⟨a,b,rfl,va,vb⟩:=AL A (by rw [ho];rfl)
  have hv:nD 8 e.int [a,b]=w_ (qO 8 a b):=rfl
  rw [ho,hv]
  unfold bA
  dsimp only
  rw [Y2 hle,Y0]
  simp only [ho,Int.reduceEq,decide_false,decide_true,Y0,YZ]
  rw [show au [a,b] (0:Int)=some a from rfl,YX,show au [a,b] (1:Int)=some b from rfl,YX,eP,YX,jr (iG _ _ _)];rfl
 ·obtain ⟨a,b,rfl,va,vb⟩:=AL A (by rw [ho];rfl)
  have hv:nD 9 e.int [a,b]=w_ (qO 9 a b):=rfl
  rw [ho,hv]
  unfold bA
  dsimp only
  rw [Y2 hle,Y0]
  simp only [ho,Int.reduceEq,decide_false,decide_true,Y0,YZ]
  rw [show au [a,b] (0:Int)=some a from rfl,YX,show au [a,b] (1:Int)=some b from rfl,YX,eP,YX,jr (iG _ _ _)];rfl
 ·obtain ⟨a,b,rfl,va,vb⟩:=AL A (by rw [ho];rfl)
  have hv:nD 10 e.int [a,b]=w_ (qO 10 a b):=rfl
  rw [ho,hv]
  unfold bA
  dsimp only
  rw [Y2 hle,Y0]
  simp only [ho,Int.reduceEq,decide_false,decide_true,Y0,YZ]
  rw [show au [a,b] (0:Int)=some a from rfl,YX,show au [a,b] (1:Int)=some b from rfl,YX,eP,YX,jr (iG _ _ _)];rfl
 ·obtain ⟨a,b,rfl,va,vb⟩:=AL A (by rw [ho];rfl)
  have hv:nD 11 e.int [a,b]=w_ (qO 11 a b):=rfl
  rw [ho,hv]
  unfold bA
  dsimp only
  rw [Y2 hle,Y0]
  simp only [ho,Int.reduceEq,decide_false,decide_true,Y0,YZ]
  rw [show au [a,b] (0:Int)=some a from rfl,YX,show au [a,b] (1:Int)=some b from rfl,YX,eP,YX,jr (iG _ _ _)];rfl
 ·obtain ⟨a,b,rfl,va,vb⟩:=AL A (by rw [ho];rfl)
  have hv:nD 12 e.int [a,b]=w_ (qO 12 a b):=rfl
  rw [ho,hv]
  unfold bA
  dsimp only
  rw [Y2 hle,Y0]
  simp only [ho,Int.reduceEq,decide_false,decide_true,Y0,YZ]
  rw [show au [a,b] (0:Int)=some a from rfl,YX,show au [a,b] (1:Int)=some b from rfl,YX,eP,YX,jr (iG _ _ _)];rfl
 ·obtain ⟨a,b,rfl,va,vb⟩:=AL A (by rw [ho];rfl)
  have hv:nD 13 e.int [a,b]=fB 13 a b:=rfl
  rw [ho,hv]
  unfold bA
  dsimp only
  rw [Y2 hle,Y0]
  simp only [ho,Int.reduceEq,decide_false,decide_true,Y0,YZ]
  rw [nG va (by omega)];rfl
 ·obtain ⟨a,b,rfl,va,vb⟩:=AL A (by rw [ho];rfl)
  have hv:nD 14 e.int [a,b]=fB 14 a b:=rfl
  rw [ho,hv]
  unfold bA
  dsimp only
  rw [Y2 hle,Y0]
  simp only [ho,Int.reduceEq,decide_false,decide_true,Y0,YZ]
  rw [nG va (by omega)];rfl
 ·obtain ⟨a,b,rfl,va,vb⟩:=AL A (by rw [ho];rfl)
  have hv:nD 15 e.int [a,b]=fB 15 a b:=rfl
  rw [ho,hv]
  unfold bA
  dsimp only
  rw [Y2 hle,Y0]
  simp only [ho,Int.reduceEq,decide_false,decide_true,Y0,YZ]
  rw [nG va (by omega)];rfl
 ·obtain ⟨a,b,rfl,va,vb⟩:=AL A (by rw [ho];rfl)
  have hv:nD 16 e.int [a,b]=fB 16 a b:=rfl
  rw [ho,hv]
  unfold bA
  dsimp only
  rw [Y2 hle,Y0]
  simp only [ho,Int.reduceEq,decide_false,decide_true,Y0,YZ]
  rw [nG va (by omega)];rfl
 ·obtain ⟨a,b,rfl,va,vb⟩:=AL A (by rw [ho];rfl)
  have hv:nD 17 e.int [a,b]=fB 17 a b:=rfl
  rw [ho,hv]
  unfold bA
  dsimp only
  rw [Y2 hle,Y0]
  simp only [ho,Int.reduceEq,decide_false,decide_true,Y0,YZ]
  rw [nG va (by omega)];rfl
 ·obtain ⟨a,rfl,va⟩:=TL A (by rw [ho];rfl)
  have hv:nD 18 e.int [a]=Jq a:=rfl
  rw [ho,hv]
  unfold bA
  dsimp only
  rw [Y2 hle,Y0]
  simp only [ho,Int.reduceEq,decide_false,decide_true,Y0,YZ]
  rw [Mf];rfl
 ·obtain ⟨a,b,rfl,va,vb⟩:=AL A (by rw [ho];rfl)
  have hv:nD 19 e.int [a,b]=GZ a b:=rfl
  rw [ho,hv]
  unfold bA
  dsimp only
  rw [Y2 hle,Y0]
  simp only [ho,Int.reduceEq,decide_false,decide_true,Y0,YZ]
  rw [Kz va vb];rfl
 ·obtain ⟨a,rfl,va⟩:=TL A (by rw [ho];rfl)
  have hv:nD 20 e.int [a]=H5 a:=rfl
  rw [ho,hv]
  unfold bA
  dsimp only
  rw [Y2 hle,Y0]
  simp only [ho,Int.reduceEq,decide_false,decide_true,Y0,YZ]
  rw [Me va];rfl
 ·obtain ⟨a,rfl,va⟩:=TL A (by rw [ho];rfl)
  have hv:nD 21 e.int [a]=eF (decide (a.kind=0)):=rfl
  rw [ho,hv]
  unfold bA
  dsimp only
  rw [Y2 hle,Y0]
  simp only [ho,Int.reduceEq,decide_false,decide_true,Y0,YZ]
  rw [show au [a] (0:Int)=some a from rfl,YX,E9];rfl
 ·obtain ⟨a,m,rfl,va,hm⟩:=NR A (by rw [ho];decide)
  have hv:nD 23 e.int (a::m)=xQ (a::m):=rfl
  rw [ho,hv]
  unfold bA
  dsimp only
  rw [Y2 hle,Y0]
  simp only [ho,Int.reduceEq,decide_false,decide_true,Y0,YZ]
  exact Lv _ A.len
 ·obtain ⟨a,b,c,d,rfl⟩:=YG A (by rw [ho];rfl)
  have hv:nD 24 e.int [a,b,c,d]=Ay e.int a b c d:=rfl
  rw [ho,hv]
  unfold bA
  dsimp only
  rw [Y2 hle,Y0]
  simp only [ho,Int.reduceEq,decide_false,decide_true,Y0,YZ]
  rw [IC];rfl
theorem VJ (k:Int) {op:Int} {l:List Val} (A:oD op l) (ho:op=4\/op=5\/op=6\/op=7\/op=8\/op=9\/op=10\/op=11\/op=12\/op=13\/op=14\/op=15\/op=16\/op=17\/op=18\/op=19\/op=20\/op=21\/op=22\/op=23\/op=24):vF (nD op k l)=true:=by
 rcases ho with rfl|rfl|rfl|rfl|rfl|rfl|rfl|rfl|rfl|rfl|rfl|rfl|rfl|rfl|rfl|rfl|rfl|rfl|rfl|rfl|rfl
 ·exact rD _
 ·exact rD _
 ·exact rD _
 ·exact rD _
 ·exact rD _
 ·exact rD _
 ·exact rD _
 ·exact rD _
 ·exact rD _
 ·have hlo:=A.lo
  have hhi:=A.hi
  rw [VR] at hlo hhi
  dsimp only at hlo hhi
  obtain ⟨a,b,rfl⟩:=OV (l:=l) (by omega)
  exact pI (yh (A.vf a (by simp)))
 ·have hlo:=A.lo
  have hhi:=A.hi
  rw [V6] at hlo hhi
  dsimp only at hlo hhi
  obtain ⟨a,b,rfl⟩:=OV (l:=l) (by omega)
  exact pI (yh (A.vf a (by simp)))
 ·have hlo:=A.lo
  have hhi:=A.hi
  rw [WM] at hlo hhi
  dsimp only at hlo hhi
  obtain ⟨a,b,rfl⟩:=OV (l:=l) (by omega)
  exact pI (yh (A.vf a (by simp)))
 ·have hlo:=A.lo
  have hhi:=A.hi
  rw [Wz] at hlo hhi
  dsimp only at hlo hhi
  obtain ⟨a,b,rfl⟩:=OV (l:=l) (by omega)
  exact pI (yh (A.vf a (by simp)))
 ·have hlo:=A.lo
  have hhi:=A.hi
  rw [VM] at hlo hhi
  dsimp only at hlo hhi
  obtain ⟨a,b,rfl⟩:=OV (l:=l) (by omega)
  exact pI (yh (A.vf a (by simp)))
 ·exact UJ _
 ·exact U3 _ _
 ·exact TR _
 ·exact A_ _
 ·have hlo:=A.lo
  have hhi:=A.hi
  rw [Ua] at hlo hhi
  dsimp only at hlo hhi
  obtain ⟨a,b,c,rfl⟩:=SY (l:=l) (by omega)
  show vF (bif decide (tF_ a=2) then b else c)=true
  cases decide (tF_ a=2)
  ·exact A.vf c (by simp)
  ·exact A.vf b (by simp)
 ·exact Sz A.vf
 ·exact UH _ _ _ _ _
theorem Sk {l:List Val} {i:Nat} {x:Val} (h:l[i]?=some x):pG l (i:Int)=x:=by
 unfold pG;rw [if_pos (by omega)];show (l[i]?).getD gY=x;rw [h];rfl
theorem Fy (row:List Val) : ∀ (n:Nat) (e:Ex),fU n e -> ∃ v,df n e row=some v/\tX n e row=some v/\vF v=true
 | 0,_,h=>h.elim
 | n+1,e,h=>by
  have hx : ∀ x∈e.args,df n x row=some ((df n x row).getD gY)/\tX n x row=some ((df n x row).getD gY)/\vF ((df n x row).getD gY)=true:=by
   intro x hx
   obtain ⟨v,h1,h2,h3⟩:=Fy row n x (h.2 x hx)
   rw [h1];exact ⟨rfl,h2,h3⟩
  generalize hg:(fun x=>(df n x row).getD gY)=g at hx
  have hx' : ∀ x∈e.args,df n x row=some (g x)/\tX n x row=some (g x)/\vF (g x)=true:=by subst hg;exact hx
  show ∃ v,jq (df n) e row=some v/\zL (tX n) e row=some v/\vF v=true
  have hR:jq (df n) e row=(bif jc e then gER_K e row (.inl (e.args.map g,((e.args.length:Nat):Int))) else some gY):=by
   unfold jq
   rw [sP h.1,YX,bO]
   cases jc e with
   | false=>rfl
   | true =>
    rw [Bool.not_true,YZ,Y0]
    have:=kQ (l:=e.args) (body:=dI e row (df n)) (fun x=>[g x]) 4398046511104 ?_ ?_ (by unfold fuel;have:=h.1;omega) [] ?_
    ·rw [this,Y3, <- List.map_eq_flatMap];rfl
    ·intro s i x hx1 hb
     have hi:=(YY.1 hx1).1
     have hlen:=h.1
     unfold dI
     dsimp only
     rw [aU hx1,Y0,gn_ hx1,wrapN (by omega),YX,(hx' x (Y4 hx1)).1,YX,Y2 (show s.length+1<=4398046511104 from hb),Y0]
    ·intro s
     unfold dI
     dsimp only
     rw [lF_,YZ]
    ·have:=h.1
     rw [<- List.map_eq_flatMap,Y_];simp;omega
  have hP:zL (tX n) e row=(bif jc e then (if e.op=1 then some e.v else if e.op=2 then some (zV (pG row e.int)) else if e.op=22 then some (nD 22 e.int (e.args.map g)) else bA e (.inl (e.args.map g,((e.args.length:Nat):Int)))) else some gY):=by
   unfold zL
   rw [qG h.1,YX,kJ]
   cases hf:jc e with
   | false=>rfl
   | true =>
    rw [Bool.not_true,YZ,Y0]
    by_cases o1:e.op=1
    ·rw [Y2 o1,Y0,if_pos o1]
    rw [Y1 o1,YZ,if_neg o1]
    by_cases o2:e.op=2
    ·rw [Y2 o2,Y0,if_pos o2,K3];rfl
    rw [Y1 o2,YZ,if_neg o2]
    by_cases o3:e.op=22
    ·rw [Y2 o3,Y0,if_pos o3]
     obtain ⟨_,hlo,hhi,_⟩:=rF h.1 hf
     rw [o3,Ua] at hlo hhi
     dsimp only at hlo hhi
     obtain ⟨a,b,c,ha⟩:=SY (l:=e.args) (by omega)
     rw [ha] at hx' ⊢
     unfold A8
     rw [show au [a,b,c] (0:Int)=some a from rfl,show au [a,b,c] (1:Int)=some b from rfl,show au [a,b,c] (2:Int)=some c from rfl]
     simp only [YX]
     rw [(hx' a (by simp)).2.1,YX,iT,(hx' b (by simp)).2.1,(hx' c (by simp)).2.1]
     show _=some (bif decide (tF_ (g a)=2) then g b else g c)
     simp only [YX]
     cases decide (tF_ (g a)=2)<;>rfl
    ·rw [Y1 o3,YZ,if_neg o3]
     have hlen:=h.1
     rw [Y2 (show (0:Int)<=((e.args.length:Nat):Int) by omega),Y2 (show (32:Int)*((e.args.length:Nat):Int)<=281474976710656 by omega),Y2 (show ((e.args.length:Nat):Int)<=9223372036854775807 by omega),Y0,Y0,Y0]
     have:=IU (l:=e.args) (body:=pq e row (tX n)) g ?_ ?_ fuel 0 (List.replicate e.args.length ⟨0,0,ByteArray.empty⟩) (by simp) (Zj _) (by unfold fuel;omega)
     ·rw [show ((0:Nat):Int)=0 from rfl] at this
      rw [this,List.take_zero,Y3,List.drop_zero];rfl
     ·intro c i x hx1 hb
      have hi:=(YY.1 hx1).1
      unfold pq
      dsimp only
      rw [aU hx1,Y0,gn_ hx1,wrapN (by omega),YX,(hx' x (Y4 hx1)).2.1,YX,Y2 (show (0:Int)<=(i:Int) by omega),Y0,Y0,show 0+((i:Int)).toNat=i by omega,Y2 hb,Y0]
     ·intro c
      unfold pq
      dsimp only
      rw [lF_,YZ]
  rw [hR,hP]
  cases hf:jc e with
  | false=>exact ⟨_,rfl,rfl,lh⟩
  | true =>
   rw [Y0,Y0]
   obtain ⟨hops,hlo,hhi,hrest⟩:=rF h.1 hf
   by_cases o1:e.op=1
   ·have hv:=CG o1 hrest
    refine ⟨e.v,?_,by rw [if_pos o1],hv⟩
    unfold gER_K
    dsimp only
    rw [Y2 o1,Y0,z8 e row o1 hv];rfl
   by_cases o2:e.op=2
   ·refine ⟨zV (pG row e.int),?_,by rw [if_neg o1,if_pos o2],mD _⟩
    unfold gER_K
    dsimp only
    rw [Y1 o1,YZ,Y2 o2,Y0,Gm e row o2];rfl
   have A:oD e.op (e.args.map g):=by
    refine ⟨by rw [Y_];exact hlo,by rw [Y_];exact hhi,by rw [Y_];exact h.1,fun v hv=>?_⟩
    obtain ⟨x,hx1,rfl⟩:=Zz.1 hv
    exact (hx' x hx1).2.2
   have hops2:e.op=4\/e.op=5\/e.op=6\/e.op=7\/e.op=8\/e.op=9\/e.op=10\/e.op=11\/e.op=12\/e.op=13\/e.op=14\/e.op=15\/e.op=16\/e.op=17\/e.op=18\/e.op=19\/e.op=20\/e.op=21\/e.op=22\/e.op=23\/e.op=24:=by omega
   refine ⟨nD e.op e.int (e.args.map g),I6 e row _ _ A hops2,?_,VJ _ A hops2⟩
   rw [if_neg o1,if_neg o2]
   by_cases o3:e.op=22
   ·rw [if_pos o3,o3]
   ·rw [if_neg o3]
    exact Qm e _ _ A (by rw [Y_]) (by omega)
end Go.Proofs.YtnbnpnmkgemdeaaGreatDoor
