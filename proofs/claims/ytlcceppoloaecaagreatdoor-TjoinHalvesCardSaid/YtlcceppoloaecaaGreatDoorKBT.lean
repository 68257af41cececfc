/- Parts. No condition. -/
import Derived.Test.YtlcceppoloaecaaGreatDoorKBS
set_option maxHeartbeats 8000000
set_option maxRecDepth 100000
set_option linter.unusedSimpArgs false
set_option linter.unusedVariables false
namespace Go.Proofs.YtlcceppoloaecaaGreatDoor
open _root_.ByteArray (empty)
open IntKind (i64)
open Go.RowKit Go.MapKept
theorem Ny {α β ρ:Type}{l:List α}{body:(List β×Int)->Option (Step (List β×Int) ρ)}(g:α->β)(h1:∀ (c:List β) (i:Nat) x,l[i]?=some x->i<c.length->body (c,(i:Int))=some (.next (c.set i (g x),((i+1:Nat):Int))))(h2:∀ c:List β,body (c,((l.length:Nat):Int))=some (.exit (c,((l.length:Nat):Int)))) :
  ∀ (n i:Nat) (c:List β),c.length=l.length->i<=l.length->l.length-i<n->ao body n (c,(i:Int))=some (.inl (c.take i++(l.drop i).map g,((l.length:Nat):Int)))
 |0,i,c,_,_,h=>by omega
 |n+1,i,c,hc,hi,hn=>by
  rw[ao];by_cases O0:i<l.length
  ·obtain⟨x,hx⟩:=gol_ O0
   have e1:=(ap_.1 hx).2;rw[h1 c i x hx m0];show ao body n (c.set i (g x),((i+1:Nat):Int))=_;rw[Ny g h1 h2 n (i+1) (c.set i (g x)) (by rw[List.length_set];exact hc) m0 m0,aqF O0,e1,aqj];congr 3;rw[List.take_succ_eq_append_getElem (by rw[List.length_set];omega),List.getElem_set_self,aqA,List.take_set_of_le (aqo i)];rfl
  ·have:i=l.length:=m0
   subst this;rw[h2,aq4,aqn,aqI,<- hc,List.take_length]
def gD:Nat->Ex->Prop
 |0,_=>False
 |n+1,e=>e.args.length<=100000 /\ ∀ x∈e.args,gD n x
theorem nH:∀ {n m:Nat} {e:Ex},n<=m->gD n e->gD m e
 |0,_,_,_,h=>h.elim
 |n+1,0,_,h,_=>by omega
 |n+1,m+1,e,h,k=>⟨k.1,fun x hx=>nH m0 (k.2 x hx)⟩
def xq (l:List Val):Val:=(l.find? fun v=>decide (v.kind≠0)).getD bJ
theorem yK:∀ l:List Val,cn (ρ:=Val) (fun(_:Unit) (v:Val)=>some (if v.kind≠0 then .inr v else .inl ())) () l=some (match l.find? fun v=>decide (v.kind≠0)with|some v => .inr v|none => .inl ())
 |[]=>rfl
 |v::l=>by
  rw[cn];by_cases h:v.kind=0
  ·simp only[ne_eq,h,not_true_eq_false,if_false]
   rw[yK l,List.find?_cons_of_neg (by simp[h])]
  ·rw[List.find?_cons_of_pos (by simp[h])]
   simp[h]
theorem Jt (l:List Val)(hl:l.length<=100000):pd 23 l=some (xq l):=by
 unfold pd;rw[show decide ((23:Int)=22)=false from rfl,ap'];rw[bX (l:=l) (mk:=fun(_:Unit) i=>i) (f:=fun _ v=>some (if v.kind≠0 then .inr v else .inl ())) ?_ ?_ (by unfold fuel;omega) ()]
 ·rw[yK]
  unfold xq
  cases l.find? fun v=>decide (v.kind≠0)with
  |none=>exact congrArg (fun o:Option Val=>o.bind fun r=>some r) bT
  |some v=>rfl
 ·intro s i x hx
  have hi:=(ap_.1 hx).1;unfold pW;dsimp only;rw[aO hx,aqa,gn_ hx,wrapN m0];simp only[ap9];by_cases h:x.kind=0
  ·simp[h,nT]
  ·simp[h,nT]
 ·intro s
  unfold pW;dsimp only;rw[lF_,ap']
theorem aab (l:List Val)(hl:l.length<=100000):(ao (oH l) fuel (0:Int)).bind kO=some (xq l):=by
 rw[bX (l:=l) (mk:=fun(_:Unit) i=>i) (f:=fun _ v=>some (if v.kind≠0 then .inr v else .inl ())) ?_ ?_ (by unfold fuel;omega) ()]
 ·rw[yK]
  unfold xq
  cases l.find? fun v=>decide (v.kind≠0)with
  |none=>exact congrArg (fun o:Option Val=>o.bind fun r=>some r) jN
  |some v=>rfl
 ·intro s i x hx
  have hi:=(ap_.1 hx).1;unfold oH;dsimp only;rw[aO hx,aqa,gn_ hx,wrapN m0];simp only[ap9];by_cases h:x.kind=0
  ·simp[h,nT]
  ·simp[h,nT]
 ·intro s
  unfold oH;dsimp only;rw[lF_,ap']
theorem akJ {l:List Val}(h:∀ v∈l,vF v=true):vF (xq l)=true:=by
 unfold xq
 cases e:l.find? fun v=>decide (v.kind≠0)with
 |none=>exact j_
 |some v=>exact h v (List.mem_of_find?_eq_some e)
theorem oD {op:Int}{a b:Val}(h:VV a):vF (ef op a b)=true:=by
 unfold ef
 cases dP [a,b] 1 with
 |false=>exact j_
 |true=>exact(eO h.int).2
theorem alP (a:Val):vF (On a)=true:=by
 unfold On
 cases dP [a] 1 with
 |false=>exact j_
 |true=>exact mW _
theorem alG (a b:Val):vF (IB a b)=true:=by
 unfold IB
 cases dP [a,b] 2 with
 |false=>exact j_
 |true=>exact mW _
theorem amC (a:Val):vF (Jh a)=true:=by
 unfold Jh
 cases dP [a] 2 with
 |false=>exact j_
 |true=>exact mW _
theorem al5 (r:Int)(a b c d:Val):vF (IG r a b c d)=true:=by
 unfold IG
 cases dP [a,b,c,d] 1 with
 |false=>exact j_
 |true =>
  rw[aqa];split
  ·exact Aj _
  ·exact j_
def l9 (op k:Int)(l:List Val):Val :=
 if op=4 then vn (D_ (tF_ (sH l 0)))else if op=5 then vn (vU Fq l.tail (tF_ (sH l 0)))else if op=6 then vn (vU or3 l.tail (tF_ (sH l 0)))
 else if op=7\/op=8\/op=9\/op=10\/op=11\/op=12 then vn (pg op (sH l 0) (sH l 1))
 else if op=18 then On (sH l 0)else if op=19 then IB (sH l 0) (sH l 1)else if op=20 then Jh (sH l 0)else if op=21 then kq (decide ((sH l 0).kind=0))
 else if op=22 then(bif decide (tF_ (sH l 0)=2)then sH l 1 else sH l 2)else if op=23 then xq l else if op=24 then IG k (sH l 0) (sH l 1) (sH l 2) (sH l 3)
 else ef op (sH l 0) (sH l 1)
theorem apJ {α:Type}{l:List α}(h:l.length=1):∃ a,l=[a]:=match l,h with|[a],_=>⟨a,rfl⟩
theorem afs {α:Type}{l:List α}(h:l.length=2):∃ a b,l=[a,b]:=match l,h with|[a,b],_=>⟨a,b,rfl⟩
theorem aku {α:Type}{l:List α}(h:l.length=3):∃ a b c,l=[a,b,c]:=match l,h with|[a,b,c],_=>⟨a,b,c,rfl⟩
theorem apn {α:Type}{l:List α}(h:l.length=4):∃ a b c d,l=[a,b,c,d]:=match l,h with|[a,b,c,d],_=>⟨a,b,c,d,rfl⟩
theorem apP {α:Type}{l:List α}(h:1<=l.length):∃ a m,l=a::m:=match l,h with|a::m,_=>⟨a,m,rfl⟩
structure pU (op:Int)(l:List Val):Prop where
 lo:(jt op).1<=((l.length:Nat):Int)
 hi:((l.length:Nat):Int)<=(jt op).2
 len:l.length<=100000
 vf:∀ v∈l,vF v=true
theorem sh1 {op:Int}{l:List Val}(A:pU op l)(h:jt op=(1,1)):∃ a,l=[a]/\VV a:=by
 have h1:=A.lo;have h2:=A.hi;rw[h]at h1 h2;dsimp only at h1 h2;obtain⟨a,rfl⟩:=apJ (l:=l) m0;exact⟨a,rfl,rZ (A.vf a m5)⟩
theorem AG {op:Int}{l:List Val}(A:pU op l)(h:jt op=(2,2)):∃ a b,l=[a,b]/\VV a/\VV b:=by
 have h1:=A.lo;have h2:=A.hi;rw[h]at h1 h2;dsimp only at h1 h2;obtain⟨a,b,rfl⟩:=afs (l:=l) m0;exact⟨a,b,rfl,rZ (A.vf a m5),rZ (A.vf b m5)⟩
theorem sh3 {op:Int}{l:List Val}(A:pU op l)(h:jt op=(3,3)):∃ a b c,l=[a,b,c]:=by
 have h1:=A.lo;have h2:=A.hi;rw[h]at h1 h2;dsimp only at h1 h2;exact aku (l:=l) m0
theorem sh4 {op:Int}{l:List Val}(A:pU op l)(h:jt op=(4,4)):∃ a b c d,l=[a,b,c,d]:=by
 have h1:=A.lo;have h2:=A.hi;rw[h]at h1 h2;dsimp only at h1 h2;exact apn (l:=l) m0
theorem ae3 {op:Int}{l:List Val}(A:pU op l)(h:1<=(jt op).1):∃ a m,l=a::m/\VV a/\m.length<=1000000:=by
 have h1:=A.lo;have h3:=A.len;obtain⟨a,m,rfl⟩:=apP (l:=l) m0;exact⟨a,m,rfl,rZ (A.vf a m5),by rw[aqv]at h3;omega⟩
theorem agh (e:Ex)(row l:List Val)(i:Int)(A:pU e.op l)(ho:e.op=4\/e.op=5\/e.op=6\/e.op=7\/e.op=8\/e.op=9\/e.op=10\/e.op=11\/e.op=12\/e.op=13\/e.op=14\/e.op=15\/e.op=16\/e.op=17\/e.op=18\/e.op=19\/e.op=20\/e.op=21\/e.op=22\/e.op=23\/e.op=24):gER_K e row (.inl (l,i))=some (l9 e.op e.int l):=by
 rcases ho with ho|ho|ho|ho|ho|ho|ho|ho|ho|ho|ho|ho|ho|ho|ho|ho|ho|ho|ho|ho|ho
 ·obtain⟨a,rfl,va⟩:=sh1 A (by rw[ho];rfl)
  have hv:l9 4 e.int [a]=vn (D_ (tF_ a)):=rfl;rw[ho,hv];unfold gER_K;dsimp only;simp only[ho,Int.reduceEq,sl9];rw[show aF [a] (0:Int)=some a from rfl,ap9,kS,ap9,vB (fV a),ap9,mr (pv _)];rfl
 ·obtain⟨a,m,rfl,va,hm⟩:=ae3 A (by rw[ho];decide)
  have hv:l9 5 e.int (a::m)=vn (vU Fq m (tF_ a)):=rfl;rw[ho,hv];unfold gER_K;dsimp only;simp only[ho,Int.reduceEq,sl9];rw[CU 5 Fq Kt (fun a b ha hb=>by rw[show decide ((5:Int)=5)=true from rfl];exact ahj ha hb) a m hm];rfl
 ·obtain⟨a,m,rfl,va,hm⟩:=ae3 A (by rw[ho];decide)
  have hv:l9 6 e.int (a::m)=vn (vU or3 m (tF_ a)):=rfl;rw[ho,hv];unfold gER_K;dsimp only;simp only[ho,Int.reduceEq,sl9];rw[CU 6 or3 abl (fun a b ha hb=>by rw[show decide ((6:Int)=5)=false from rfl];exact alg ha hb) a m hm];rfl
 ·obtain⟨a,b,rfl,va,vb⟩:=AG A (by rw[ho];rfl)
  have hv:l9 7 e.int [a,b]=vn (pg 7 a b):=rfl;rw[ho,hv];unfold gER_K;dsimp only;simp only[ho,Int.reduceEq,sl9];rw[show aF [a,b] (0:Int)=some a from rfl,ap9,show aF [a,b] (1:Int)=some b from rfl,ap9,f9,ap9,mr (gQ _ _ _)];rfl
 ·obtain⟨a,b,rfl,va,vb⟩:=AG A (by rw[ho];rfl)
  have hv:l9 8 e.int [a,b]=vn (pg 8 a b):=rfl;rw[ho,hv];unfold gER_K;dsimp only;simp only[ho,Int.reduceEq,sl9];rw[show aF [a,b] (0:Int)=some a from rfl,ap9,show aF [a,b] (1:Int)=some b from rfl,ap9,f9,ap9,mr (gQ _ _ _)];rfl
 ·obtain⟨a,b,rfl,va,vb⟩:=AG A (by rw[ho];rfl)
  have hv:l9 9 e.int [a,b]=vn (pg 9 a b):=rfl;rw[ho,hv];unfold gER_K;dsimp only;simp only[ho,Int.reduceEq,sl9];rw[show aF [a,b] (0:Int)=some a from rfl,ap9,show aF [a,b] (1:Int)=some b from rfl,ap9,f9,ap9,mr (gQ _ _ _)];rfl
 ·obtain⟨a,b,rfl,va,vb⟩:=AG A (by rw[ho];rfl)
  have hv:l9 10 e.int [a,b]=vn (pg 10 a b):=rfl;rw[ho,hv];unfold gER_K;dsimp only;simp only[ho,Int.reduceEq,sl9];rw[show aF [a,b] (0:Int)=some a from rfl,ap9,show aF [a,b] (1:Int)=some b from rfl,ap9,f9,ap9,mr (gQ _ _ _)];rfl
 ·obtain⟨a,b,rfl,va,vb⟩:=AG A (by rw[ho];rfl)
  have hv:l9 11 e.int [a,b]=vn (pg 11 a b):=rfl;rw[ho,hv];unfold gER_K;dsimp only;simp only[ho,Int.reduceEq,sl9];rw[show aF [a,b] (0:Int)=some a from rfl,ap9,show aF [a,b] (1:Int)=some b from rfl,ap9,f9,ap9,mr (gQ _ _ _)];rfl
 ·obtain⟨a,b,rfl,va,vb⟩:=AG A (by rw[ho];rfl)
  have hv:l9 12 e.int [a,b]=vn (pg 12 a b):=rfl;rw[ho,hv];unfold gER_K;dsimp only;simp only[ho,Int.reduceEq,sl9];rw[show aF [a,b] (0:Int)=some a from rfl,ap9,show aF [a,b] (1:Int)=some b from rfl,ap9,f9,ap9,mr (gQ _ _ _)];rfl
 ·obtain⟨a,b,rfl,va,vb⟩:=AG A (by rw[ho];rfl)
  have hv:l9 13 e.int [a,b]=ef 13 a b:=rfl;rw[ho,hv];unfold gER_K;dsimp only;simp only[ho,Int.reduceEq,sl9];unfold ef;rw[kF _ _ m5,ap9]
  cases dP [a,b] 1 with
  |false=>exact congrArg (fun o:Option Val=>o.bind fun r=>some r) bT
  |true=>exact congrArg (fun o:Option Val=>o.bind fun r=>some r) (eO va.int).1
 ·obtain⟨a,b,rfl,va,vb⟩:=AG A (by rw[ho];rfl)
  have hv:l9 14 e.int [a,b]=ef 14 a b:=rfl;rw[ho,hv];unfold gER_K;dsimp only;simp only[ho,Int.reduceEq,sl9];unfold ef;rw[kF _ _ m5,ap9]
  cases dP [a,b] 1 with
  |false=>exact congrArg (fun o:Option Val=>o.bind fun r=>some r) bT
  |true=>exact congrArg (fun o:Option Val=>o.bind fun r=>some r) (eO va.int).1
 ·obtain⟨a,b,rfl,va,vb⟩:=AG A (by rw[ho];rfl)
  have hv:l9 15 e.int [a,b]=ef 15 a b:=rfl;rw[ho,hv];unfold gER_K;dsimp only;simp only[ho,Int.reduceEq,sl9];unfold ef;rw[kF _ _ m5,ap9]
  cases dP [a,b] 1 with
  |false=>exact congrArg (fun o:Option Val=>o.bind fun r=>some r) bT
  |true=>exact congrArg (fun o:Option Val=>o.bind fun r=>some r) (eO va.int).1
 ·obtain⟨a,b,rfl,va,vb⟩:=AG A (by rw[ho];rfl)
  have hv:l9 16 e.int [a,b]=ef 16 a b:=rfl;rw[ho,hv];unfold gER_K;dsimp only;simp only[ho,Int.reduceEq,sl9];unfold ef;rw[kF _ _ m5,ap9]
  cases dP [a,b] 1 with
  |false=>exact congrArg (fun o:Option Val=>o.bind fun r=>some r) bT
  |true=>exact congrArg (fun o:Option Val=>o.bind fun r=>some r) (eO va.int).1
 ·obtain⟨a,b,rfl,va,vb⟩:=AG A (by rw[ho];rfl)
  have hv:l9 17 e.int [a,b]=ef 17 a b:=rfl;rw[ho,hv];unfold gER_K;dsimp only;simp only[ho,Int.reduceEq,sl9];unfold ef;rw[kF _ _ m5,ap9]
  cases dP [a,b] 1 with
  |false=>exact congrArg (fun o:Option Val=>o.bind fun r=>some r) bT
  |true=>exact congrArg (fun o:Option Val=>o.bind fun r=>some r) (eO va.int).1
 ·obtain⟨a,rfl,va⟩:=sh1 A (by rw[ho];rfl)
  have hv:l9 18 e.int [a]=On a:=rfl;rw[ho,hv];unfold gER_K;dsimp only;simp only[ho,Int.reduceEq,sl9];unfold On;rw[kF _ _ m5,ap9]
  cases dP [a] 1 with
  |false=>exact congrArg (fun o:Option Val=>o.bind fun r=>some r) bT
  |true=>exact congrArg (fun o:Option Val=>o.bind fun r=>some r) (iD _)
 ·obtain⟨a,b,rfl,va,vb⟩:=AG A (by rw[ho];rfl)
  have hv:l9 19 e.int [a,b]=IB a b:=rfl;rw[ho,hv];unfold gER_K;dsimp only;simp only[ho,Int.reduceEq,sl9];rw[OG va vb];rfl
 ·obtain⟨a,rfl,va⟩:=sh1 A (by rw[ho];rfl)
  have hv:l9 20 e.int [a]=Jh a:=rfl;rw[ho,hv];unfold gER_K;dsimp only;simp only[ho,Int.reduceEq,sl9];rw[ab9];rfl
 ·obtain⟨a,rfl,va⟩:=sh1 A (by rw[ho];rfl)
  have hv:l9 21 e.int [a]=kq (decide (a.kind=0)):=rfl;rw[ho,hv];unfold gER_K;dsimp only;simp only[ho,Int.reduceEq,sl9];rw[show aF [a] (0:Int)=some a from rfl,ap9,td];rfl
 ·obtain⟨a,b,c,rfl⟩:=sh3 A (by rw[ho];rfl)
  have hv:l9 22 e.int [a,b,c]=(bif decide (tF_ a=2)then b else c):=rfl;rw[ho,hv];unfold gER_K;dsimp only;simp only[ho,Int.reduceEq,sl9];unfold pd;rw[show decide ((22:Int)=22)=true from rfl,aqa,show aF [a,b,c] (0:Int)=some a from rfl,ap9,kS,ap9]
  cases decide (tF_ a=2)<;>rfl
 ·obtain⟨a,m,rfl,va,hm⟩:=ae3 A (by rw[ho];decide)
  have hv:l9 23 e.int (a::m)=xq (a::m):=rfl;rw[ho,hv];unfold gER_K;dsimp only;simp only[ho,Int.reduceEq,sl9];rw[Jt _ A.len];rfl
 ·obtain⟨a,b,c,d,rfl⟩:=sh4 A (by rw[ho];rfl)
  have hv:l9 24 e.int [a,b,c,d]=IG e.int a b c d:=rfl;rw[ho,hv];unfold gER_K;dsimp only;simp only[ho,Int.reduceEq,sl9];rw[IA];rfl
theorem aii (e:Ex)(l:List Val)(i:Int)(A:pU e.op l)(hle:l.length=e.args.length)(ho:e.op=4\/e.op=5\/e.op=6\/e.op=7\/e.op=8\/e.op=9\/e.op=10\/e.op=11\/e.op=12\/e.op=13\/e.op=14\/e.op=15\/e.op=16\/e.op=17\/e.op=18\/e.op=19\/e.op=20\/e.op=21\/e.op=23\/e.op=24):bu e (.inl (l,i))=some (l9 e.op e.int l):=by
 rcases ho with ho|ho|ho|ho|ho|ho|ho|ho|ho|ho|ho|ho|ho|ho|ho|ho|ho|ho|ho|ho
 ·obtain⟨a,rfl,va⟩:=sh1 A (by rw[ho];rfl)
  have hv:l9 4 e.int [a]=vn (D_ (tF_ a)):=rfl;rw[ho,hv];unfold bu;dsimp only;rw[aqc hle,aqa];simp only[ho,Int.reduceEq,sl9];rw[aaj];rfl
 ·obtain⟨a,m,rfl,va,hm⟩:=ae3 A (by rw[ho];decide)
  have hv:l9 5 e.int (a::m)=vn (vU Fq m (tF_ a)):=rfl;rw[ho,hv];unfold bu;dsimp only;rw[aqc hle,aqa];simp only[ho,Int.reduceEq,sl9];rw[abL a m hm];rfl
 ·obtain⟨a,m,rfl,va,hm⟩:=ae3 A (by rw[ho];decide)
  have hv:l9 6 e.int (a::m)=vn (vU or3 m (tF_ a)):=rfl;rw[ho,hv];unfold bu;dsimp only;rw[aqc hle,aqa];simp only[ho,Int.reduceEq,sl9];rw[ae1 a m hm];rfl
 ·obtain⟨a,b,rfl,va,vb⟩:=AG A (by rw[ho];rfl)
  have hv:l9 7 e.int [a,b]=vn (pg 7 a b):=rfl;rw[ho,hv];unfold bu;dsimp only;rw[aqc hle,aqa];simp only[ho,Int.reduceEq,sl9];rw[show aF [a,b] (0:Int)=some a from rfl,ap9,show aF [a,b] (1:Int)=some b from rfl,ap9,ew,ap9,iE (gQ _ _ _)];rfl
 ·obtain⟨a,b,rfl,va,vb⟩:=AG A (by rw[ho];rfl)
  have hv:l9 8 e.int [a,b]=vn (pg 8 a b):=rfl;rw[ho,hv];unfold bu;dsimp only;rw[aqc hle,aqa];simp only[ho,Int.reduceEq,sl9];rw[show aF [a,b] (0:Int)=some a from rfl,ap9,show aF [a,b] (1:Int)=some b from rfl,ap9,ew,ap9,iE (gQ _ _ _)];rfl
 ·obtain⟨a,b,rfl,va,vb⟩:=AG A (by rw[ho];rfl)
  have hv:l9 9 e.int [a,b]=vn (pg 9 a b):=rfl;rw[ho,hv];unfold bu;dsimp only;rw[aqc hle,aqa];simp only[ho,Int.reduceEq,sl9];rw[show aF [a,b] (0:Int)=some a from rfl,ap9,show aF [a,b] (1:Int)=some b from rfl,ap9,ew,ap9,iE (gQ _ _ _)];rfl
 ·obtain⟨a,b,rfl,va,vb⟩:=AG A (by rw[ho];rfl)
  have hv:l9 10 e.int [a,b]=vn (pg 10 a b):=rfl;rw[ho,hv];unfold bu;dsimp only;rw[aqc hle,aqa];simp only[ho,Int.reduceEq,sl9];rw[show aF [a,b] (0:Int)=some a from rfl,ap9,show aF [a,b] (1:Int)=some b from rfl,ap9,ew,ap9,iE (gQ _ _ _)];rfl
 ·obtain⟨a,b,rfl,va,vb⟩:=AG A (by rw[ho];rfl)
  have hv:l9 11 e.int [a,b]=vn (pg 11 a b):=rfl;rw[ho,hv];unfold bu;dsimp only;rw[aqc hle,aqa];simp only[ho,Int.reduceEq,sl9];rw[show aF [a,b] (0:Int)=some a from rfl,ap9,show aF [a,b] (1:Int)=some b from rfl,ap9,ew,ap9,iE (gQ _ _ _)];rfl
 ·obtain⟨a,b,rfl,va,vb⟩:=AG A (by rw[ho];rfl)
  have hv:l9 12 e.int [a,b]=vn (pg 12 a b):=rfl;rw[ho,hv];unfold bu;dsimp only;rw[aqc hle,aqa];simp only[ho,Int.reduceEq,sl9];rw[show aF [a,b] (0:Int)=some a from rfl,ap9,show aF [a,b] (1:Int)=some b from rfl,ap9,ew,ap9,iE (gQ _ _ _)];rfl
 ·obtain⟨a,b,rfl,va,vb⟩:=AG A (by rw[ho];rfl)
  have hv:l9 13 e.int [a,b]=ef 13 a b:=rfl;rw[ho,hv];unfold bu;dsimp only;rw[aqc hle,aqa];simp only[ho,Int.reduceEq,sl9];rw[lL va m0];rfl
 ·obtain⟨a,b,rfl,va,vb⟩:=AG A (by rw[ho];rfl)
  have hv:l9 14 e.int [a,b]=ef 14 a b:=rfl;rw[ho,hv];unfold bu;dsimp only;rw[aqc hle,aqa];simp only[ho,Int.reduceEq,sl9];rw[lL va m0];rfl
 ·obtain⟨a,b,rfl,va,vb⟩:=AG A (by rw[ho];rfl)
  have hv:l9 15 e.int [a,b]=ef 15 a b:=rfl;rw[ho,hv];unfold bu;dsimp only;rw[aqc hle,aqa];simp only[ho,Int.reduceEq,sl9];rw[lL va m0];rfl
 ·obtain⟨a,b,rfl,va,vb⟩:=AG A (by rw[ho];rfl)
  have hv:l9 16 e.int [a,b]=ef 16 a b:=rfl;rw[ho,hv];unfold bu;dsimp only;rw[aqc hle,aqa];simp only[ho,Int.reduceEq,sl9];rw[lL va m0];rfl
 ·obtain⟨a,b,rfl,va,vb⟩:=AG A (by rw[ho];rfl)
  have hv:l9 17 e.int [a,b]=ef 17 a b:=rfl;rw[ho,hv];unfold bu;dsimp only;rw[aqc hle,aqa];simp only[ho,Int.reduceEq,sl9];rw[lL va m0];rfl
 ·obtain⟨a,rfl,va⟩:=sh1 A (by rw[ho];rfl)
  have hv:l9 18 e.int [a]=On a:=rfl;rw[ho,hv];unfold bu;dsimp only;rw[aqc hle,aqa];simp only[ho,Int.reduceEq,sl9];rw[aaU];rfl
 ·obtain⟨a,b,rfl,va,vb⟩:=AG A (by rw[ho];rfl)
  have hv:l9 19 e.int [a,b]=IB a b:=rfl;rw[ho,hv];unfold bu;dsimp only;rw[aqc hle,aqa];simp only[ho,Int.reduceEq,sl9];rw[aaP va vb];rfl
 ·obtain⟨a,rfl,va⟩:=sh1 A (by rw[ho];rfl)
  have hv:l9 20 e.int [a]=Jh a:=rfl;rw[ho,hv];unfold bu;dsimp only;rw[aqc hle,aqa];simp only[ho,Int.reduceEq,sl9];rw[aaw va];rfl
 ·obtain⟨a,rfl,va⟩:=sh1 A (by rw[ho];rfl)
  have hv:l9 21 e.int [a]=kq (decide (a.kind=0)):=rfl;rw[ho,hv];unfold bu;dsimp only;rw[aqc hle,aqa];simp only[ho,Int.reduceEq,sl9];rw[show aF [a] (0:Int)=some a from rfl,ap9,GG];rfl
 ·obtain⟨a,m,rfl,va,hm⟩:=ae3 A (by rw[ho];decide)
  have hv:l9 23 e.int (a::m)=xq (a::m):=rfl;rw[ho,hv];unfold bu;dsimp only;rw[aqc hle,aqa];simp only[ho,Int.reduceEq,sl9];exact aab _ A.len
 ·obtain⟨a,b,c,d,rfl⟩:=sh4 A (by rw[ho];rfl)
  have hv:l9 24 e.int [a,b,c,d]=IG e.int a b c d:=rfl;rw[ho,hv];unfold bu;dsimp only;rw[aqc hle,aqa];simp only[ho,Int.reduceEq,sl9];rw[MK];rfl
theorem anM (k:Int){op:Int}{l:List Val}(A:pU op l)(ho:op=4\/op=5\/op=6\/op=7\/op=8\/op=9\/op=10\/op=11\/op=12\/op=13\/op=14\/op=15\/op=16\/op=17\/op=18\/op=19\/op=20\/op=21\/op=22\/op=23\/op=24):vF (l9 op k l)=true:=by
 rcases ho with rfl|rfl|rfl|rfl|rfl|rfl|rfl|rfl|rfl|rfl|rfl|rfl|rfl|rfl|rfl|rfl|rfl|rfl|rfl|rfl|rfl
 ·exact pH _
 ·exact pH _
 ·exact pH _
 ·exact pH _
 ·exact pH _
 ·exact pH _
 ·exact pH _
 ·exact pH _
 ·exact pH _
 ·have Po:=A.lo
  have PG:=A.hi;rw[an7]at Po PG;dsimp only at Po PG;obtain⟨a,b,rfl⟩:=afs (l:=l) m0;exact oD (rZ (A.vf a m5))
 ·have Po:=A.lo
  have PG:=A.hi;rw[aoe]at Po PG;dsimp only at Po PG;obtain⟨a,b,rfl⟩:=afs (l:=l) m0;exact oD (rZ (A.vf a m5))
 ·have Po:=A.lo
  have PG:=A.hi;rw[aoo]at Po PG;dsimp only at Po PG;obtain⟨a,b,rfl⟩:=afs (l:=l) m0;exact oD (rZ (A.vf a m5))
 ·have Po:=A.lo
  have PG:=A.hi;rw[anE]at Po PG;dsimp only at Po PG;obtain⟨a,b,rfl⟩:=afs (l:=l) m0;exact oD (rZ (A.vf a m5))
 ·have Po:=A.lo
  have PG:=A.hi;rw[an1]at Po PG;dsimp only at Po PG;obtain⟨a,b,rfl⟩:=afs (l:=l) m0;exact oD (rZ (A.vf a m5))
 ·exact alP _
 ·exact alG _ _
 ·exact amC _
 ·exact Aj _
 ·have Po:=A.lo
  have PG:=A.hi;rw[alO]at Po PG;dsimp only at Po PG;obtain⟨a,b,c,rfl⟩:=aku (l:=l) m0;show vF (bif decide (tF_ a=2)then b else c)=true
  cases decide (tF_ a=2)
  ·exact A.vf c m5
  ·exact A.vf b m5
 ·exact akJ A.vf
 ·exact al5 _ _ _ _ _
theorem GV (row:List Val):∀ (n:Nat) (e:Ex),gD n e ->∃ v,gX n e row=some v/\qR n e row=some v/\vF v=true
 |0,_,h=>h.elim
 |n+1,e,h=>by
  have hx:∀ x∈e.args,gX n x row=some ((gX n x row).getD bJ)/\qR n x row=some ((gX n x row).getD bJ)/\vF ((gX n x row).getD bJ)=true:=by
   intro x hx;obtain⟨v,h1,h2,h3⟩:=GV row n x (h.2 x hx);rw[h1];exact⟨rfl,h2,h3⟩
  generalize hg:(fun x=>(gX n x row).getD bJ)=g at hx;have R3:∀ x∈e.args,gX n x row=some (g x)/\qR n x row=some (g x)/\vF (g x)=true:=by subst hg;exact hx
  show ∃ v,tn (gX n) e row=some v/\yd (qR n) e row=some v/\vF v=true;have hR:tn (gX n) e row=(bif qw e then gER_K e row (.inl (e.args.map g,((e.args.length:Nat):Int)))else some bJ):=by
   unfold tn;rw[zy h.1,ap9,bT]
   cases qw e with
   |false=>rfl
   |true =>
    rw[Bool.not_true,ap',aqa];have:=cu (l:=e.args) (body:=k8 e row (gX n)) (fun x=>[g x]) 4398046511104 ?_ ?_ (by unfold fuel;have:=h.1;omega) [] ?_
    ·rw[this,aqd,<- List.map_eq_flatMap];rfl
    ·intro s i x O3 hb
     have hi:=(ap_.1 O3).1;have hlen:=h.1;unfold k8;dsimp only;rw[aO O3,aqa,gn_ O3,wrapN m0,ap9,(R3 x (aqe O3)).1,ap9,aqc (show s.length+1<=4398046511104 from hb),aqa]
    ·intro s
     unfold k8;dsimp only;rw[lF_,ap']
    ·have:=h.1
     rw[<- List.map_eq_flatMap,aqk];simp;omega
  have hP:yd (qR n) e row=(bif qw e then(if e.op=1 then some e.v else if e.op=2 then some (Kw (sH row e.int))else if e.op=22 then some (l9 22 e.int (e.args.map g))else bu e (.inl (e.args.map g,((e.args.length:Nat):Int))))else some bJ):=by
   unfold yd;rw[Dc h.1,ap9,jN]
   cases hf:qw e with
   |false=>rfl
   |true =>
    rw[Bool.not_true,ap',aqa];by_cases o1:e.op=1
    ·rw[aqc o1,aqa,if_pos o1]
    rw[aqb o1,ap',if_neg o1];by_cases o2:e.op=2
    ·rw[aqc o2,aqa,if_pos o2,ab_];rfl
    rw[aqb o2,ap',if_neg o2];by_cases o3:e.op=22
    ·rw[aqc o3,aqa,if_pos o3]
     obtain⟨_,Po,PG,_⟩:=uP h.1 hf;rw[o3,alO]at Po PG;dsimp only at Po PG;obtain⟨a,b,c,ha⟩:=aku (l:=e.args) m0;rw[ha]at R3 ⊢;unfold Ae;rw[show aF [a,b,c] (0:Int)=some a from rfl,show aF [a,b,c] (1:Int)=some b from rfl,show aF [a,b,c] (2:Int)=some c from rfl];simp only[ap9];rw[(R3 a m5).2.1,ap9,gZ,(R3 b m5).2.1,(R3 c m5).2.1];show _=some (bif decide (tF_ (g a)=2)then g b else g c);simp only[ap9]
     cases decide (tF_ (g a)=2)<;>rfl
    ·rw[aqb o3,ap',if_neg o3]
     have hlen:=h.1;rw[aqc (show(0:Int)<=((e.args.length:Nat):Int)by omega),aqc (show(32:Int)*((e.args.length:Nat):Int)<=281474976710656 by omega),aqc (show((e.args.length:Nat):Int)<=9223372036854775807 by omega),aqa,aqa,aqa];have:=Ny (l:=e.args) (body:=nD e row (qR n)) g ?_ ?_ fuel 0 (List.replicate e.args.length ⟨0,0,empty⟩) m5 (aqu _) (by unfold fuel;omega)
     ·rw[show((0:Nat):Int)=0 from rfl]at this
      rw[this,List.take_zero,aqd,List.drop_zero];rfl
     ·intro c i x O3 hb
      have hi:=(ap_.1 O3).1;unfold nD;dsimp only;rw[aO O3,aqa,gn_ O3,wrapN m0,ap9,(R3 x (aqe O3)).2.1,ap9,aqc (show(0:Int)<=(i:Int)by omega),aqa,aqa,show 0+((i:Int)).toNat=i by omega,aqc hb,aqa]
     ·intro c
      unfold nD;dsimp only;rw[lF_,ap']
  rw[hR,hP]
  cases hf:qw e with
  |false=>exact⟨_,rfl,rfl,j_⟩
  |true =>
   rw[aqa,aqa];obtain⟨hops,Po,PG,Xk⟩:=uP h.1 hf;by_cases o1:e.op=1
   ·have hv:=abr o1 Xk
    refine⟨e.v,?_,by rw[if_pos o1],hv⟩;unfold gER_K;dsimp only;rw[aqc o1,aqa,N_ e row o1 hv];rfl
   by_cases o2:e.op=2
   ·refine⟨Kw (sH row e.int),?_,by rw[if_neg o1,if_pos o2],mW _⟩
    unfold gER_K;dsimp only;rw[aqb o1,ap',aqc o2,aqa,aew e row o2];rfl
   have A:pU e.op (e.args.map g):=by
    refine⟨by rw[aqk];exact Po,by rw[aqk];exact PG,by rw[aqk];exact h.1,fun v hv=>?_⟩;obtain⟨x,O3,rfl⟩:=aqJ.1 hv;exact(R3 x O3).2.2
   have Xl:e.op=4\/e.op=5\/e.op=6\/e.op=7\/e.op=8\/e.op=9\/e.op=10\/e.op=11\/e.op=12\/e.op=13\/e.op=14\/e.op=15\/e.op=16\/e.op=17\/e.op=18\/e.op=19\/e.op=20\/e.op=21\/e.op=22\/e.op=23\/e.op=24:=m0
   refine⟨l9 e.op e.int (e.args.map g),agh e row _ _ A Xl,?_,anM _ A Xl⟩;rw[if_neg o1,if_neg o2];by_cases o3:e.op=22
   ·rw[if_pos o3,o3]
   ·rw[if_neg o3]
    exact aii e _ _ A (by rw[aqk]) m0
def tu (a_l:(List Int))(P4:Int):(Int)->Option (Step (Int) (Bool)):=fun s=>match s with
 |i_1=>bif (decide (i_1<((a_l.length:Nat):Int)))then(aF a_l i_1).bind fun RV=>bif (decide (RV≠P4))then bif (decide (RV≠(0:Int)))then some (.ret false)else
 some (.next (i64.wrap (i_1+(1:Int))))else
 some (.next (i64.wrap (i_1+(1:Int))))else
 some (.exit i_1)
def afT:Sum (Int) (Bool)->Option ((Bool))
 |.inl i_1=>some true
 |.inr q=>some q
def fM (a_l:(List Int))(P4:Int):Option (Bool):=(ao (tu a_l P4) fuel (0:Int)).bind (afT)
instance gAll11_ok {a_l : (List Int)} {P4 : Int} {r : Bool} : OkC (fM a_l P4 = some r) (PTz 235 [.one (.lst (a_l.map (fun x => [AC.int .i64 x]))), .one (.int .i64 P4)] (.val (.one (.bool r)))) := .mk fun H => by
 unfold fM at H;refine po_ Tryz.func235 Tryz.ntmps235 ?_;refine aY ?_;refine alM_ (fun s:Int=>match s with|i_1=>[(0,.one (.c (.lst (a_l.map (fun x=>[AC.int .i64 x]))))),(1,.one (.c (.int .i64 P4))),(5,.one (.c (.int .i64 i_1)))]) (fun s=>match s with|i_1=>[]) H (fun _=>aqu _)
  (fm_ bF [] rfl bn trivial) ?_
 rintro i_1 st1 OU Py;unfold tu at OU;dsimp only at OU ⊢;rcases aj OU with⟨Qq,OU⟩|⟨Qq,OU⟩
 ·obtain⟨RV,SG,i1,R9,OU⟩:=bw (f:=(fun x=>[AC.int .i64 x])) OU
  rcases aj OU with⟨P9,OU⟩|⟨P9,OU⟩
  ·rcases aj OU with⟨Q6,OU⟩|⟨Q6,OU⟩
   ·exact br OU Py
   cases OU;refine aY ?_;exact⟨_,rfl,fm_ bF [] rfl bn trivial⟩
  cases OU;refine aY ?_;exact⟨_,rfl,fm_ bF [] rfl bn trivial⟩
 exact br OU Py
def C6 (a_l:(List Int)):(Int×Int)->Option (Step (Int×Int) (Int×Bool)):=fun s=>match s with
 |(V0,i_2)=>bif (decide (i_2<((a_l.length:Nat):Int)))then(aF a_l i_2).bind fun P7=>bif (decide (P7=(0:Int)))then some (.next (V0,(i64.wrap (i_2+(1:Int)))))else
 bif (decide (V0≠(0:Int)))then bif (decide (V0≠P7))then some (.ret ((0:Int),false))else
 some (.next (P7,(i64.wrap (i_2+(1:Int)))))else
 some (.next (P7,(i64.wrap (i_2+(1:Int)))))else
 some (.exit (V0,i_2))
def abT:Sum (Int×Int) (Int×Bool)->Option ((Int×Bool))
 |.inl (V0,i_2)=>some (V0,true)
 |.inr q=>some q
def gP (a_l:(List Int)):Option (Int×Bool):=(ao (C6 a_l) fuel ((0:Int),(0:Int))).bind (abT)
instance gJoin11_ok {a_l : (List Int)} {r : Int × Bool} : OkC (gP a_l = some r) (PTz 236 [.one (.lst (a_l.map (fun x => [AC.int .i64 x])))] (.tup [.one (.int .i64 r.1), .one (.bool r.2)])) := .mk fun H => by
 unfold gP at H;refine po_ Tryz.func236 Tryz.ntmps236 ?_;refine aY ?_;refine alM_ (fun s:Int×Int=>match s with|(V0,i_2)=>[(0,.one (.c (.lst (a_l.map (fun x=>[AC.int .i64 x]))))),(4,.one (.c (.int .i64 V0))),(5,.one (.c (.int .i64 i_2)))]) (fun s=>match s with|(V0,i_2)=>[]) H (fun _=>aqu _)
  (fm_ bF [] rfl bn trivial) ?_
 rintro⟨V0,i_2⟩ st1 OU Py;unfold C6 at OU;dsimp only at OU ⊢;rcases aj OU with⟨Qf,OU⟩|⟨Qf,OU⟩
 ·obtain⟨P7,SG,i1,R9,OU⟩:=bw (f:=(fun x=>[AC.int .i64 x])) OU
  rcases aj OU with⟨Q6,OU⟩|⟨Q6,OU⟩
  ·cases OU
   refine aY ?_;exact⟨_,rfl,fm_ bF [] rfl bn trivial⟩
  rcases aj OU with⟨QT,OU⟩|⟨QT,OU⟩
  ·rcases aj OU with⟨SH,OU⟩|⟨SH,OU⟩
   ·exact br OU Py
   cases OU;refine aY ?_;exact⟨_,rfl,fm_ bF [] rfl bn trivial⟩
  cases OU;refine aY ?_;exact⟨_,rfl,fm_ bF [] rfl bn trivial⟩
 exact br OU Py
def gRs11 (OX:Ex)(a_l:(List Int))(a_kinds:(List Int)):Option (Int×Bool):=bif (decide (OX.op=(1:Int)))then some (OX.v.kind,true)else
 bif (decide (OX.op=(2:Int)))then(aF a_kinds OX.int).bind fun RV=>some (RV,true)else
 bif (decide (OX.op=(4:Int)))then(fM a_l (3:Int)).bind fun P2=>some ((3:Int),P2)else
 bif (decide (OX.op=(5:Int)))then(fM a_l (3:Int)).bind fun QV=>some ((3:Int),QV)else
 bif (decide (OX.op=(6:Int)))then(fM a_l (3:Int)).bind fun Q3=>some ((3:Int),Q3)else
 bif (decide (OX.op=(7:Int)))then(gP a_l).bind fun Qh=>some ((3:Int),Qh.2)else
 bif (decide (OX.op=(8:Int)))then(gP a_l).bind fun Ql=>some ((3:Int),Ql.2)else
 bif (decide (OX.op=(9:Int)))then(gP a_l).bind fun RE=>some ((3:Int),RE.2)else
 bif (decide (OX.op=(10:Int)))then(gP a_l).bind fun QJ=>some ((3:Int),QJ.2)else
 bif (decide (OX.op=(11:Int)))then(gP a_l).bind fun RF=>some ((3:Int),RF.2)else
 bif (decide (OX.op=(12:Int)))then(gP a_l).bind fun Q9=>some ((3:Int),Q9.2)else
 bif (decide (OX.op=(13:Int)))then(fM a_l (1:Int)).bind fun SN=>some ((1:Int),SN)else
 bif (decide (OX.op=(14:Int)))then(fM a_l (1:Int)).bind fun TM=>some ((1:Int),TM)else
 bif (decide (OX.op=(15:Int)))then(fM a_l (1:Int)).bind fun UT=>some ((1:Int),UT)else
 bif (decide (OX.op=(16:Int)))then(fM a_l (1:Int)).bind fun QK=>some ((1:Int),QK)else
 bif (decide (OX.op=(17:Int)))then(fM a_l (1:Int)).bind fun Yc=>some ((1:Int),Yc)else
 bif (decide (OX.op=(18:Int)))then(fM a_l (1:Int)).bind fun Ww=>some ((1:Int),Ww)else
 bif (decide (OX.op=(19:Int)))then(fM a_l (2:Int)).bind fun UU=>some ((2:Int),UU)else
 bif (decide (OX.op=(20:Int)))then(fM a_l (2:Int)).bind fun r_37=>some ((1:Int),r_37)else
 bif (decide (OX.op=(21:Int)))then some ((3:Int),true)else
 bif (decide (OX.op=(22:Int)))then(ga a_l (1:Int) ((a_l.length:Nat):Int)).bind fun s_40=>(gP s_40).bind fun UV=>bif UV.2 then(ga a_l (0:Int) (1:Int)).bind fun s_43=>(fM s_43 (3:Int)).bind fun VM=>some (UV.1,VM)else
 some (UV.1,false)else
 bif (decide (OX.op=(23:Int)))then(gP a_l).bind fun Uj=>some (Uj.1,Uj.2)else
 (fM a_l (1:Int)).bind fun r_47=>some ((3:Int),r_47)
instance gResult11_ok {OX : Ex} {a_l : (List Int)} {a_kinds : (List Int)} {r : Int × Bool} : OkC (gRs11 OX a_l a_kinds = some r) (PTz 201 [.agg (tE OX), .one (.lst (a_l.map (fun x => [AC.int .i64 x]))), .one (.lst (a_kinds.map (fun x => [AC.int .i64 x])))] (.tup [.one (.int .i64 r.1), .one (.bool r.2)])) := .mk fun H => by
 unfold gRs11 at H;rw[aC OX];refine po_ Tryz.func201 Tryz.ntmps201 ?_;rcases aj H with⟨Qv,H⟩|⟨Qv,H⟩
 ·exact ay H
 rcases aj H with⟨Qq,H⟩|⟨Qq,H⟩
 ·exact ay H
 refine aY ?_;rcases aj H with⟨P9,H⟩|⟨P9,H⟩
 ·exact ay H
 rcases aj H with⟨QT,H⟩|⟨QT,H⟩
 ·exact ay H
 rcases aj H with⟨RX,H⟩|⟨RX,H⟩
 ·exact ay H
 refine aY ?_;rcases aj H with⟨P_,H⟩|⟨P_,H⟩
 ·exact ay H
 rcases aj H with⟨RD,H⟩|⟨RD,H⟩
 ·exact ay H
 rcases aj H with⟨Qk,H⟩|⟨Qk,H⟩
 ·exact ay H
 refine aY ?_;rcases aj H with⟨Uc,H⟩|⟨Uc,H⟩
 ·exact ay H
 rcases aj H with⟨QU,H⟩|⟨QU,H⟩
 ·exact ay H
 rcases aj H with⟨Tf,H⟩|⟨Tf,H⟩
 ·exact ay H
 refine aY ?_;rcases aj H with⟨Uk,H⟩|⟨Uk,H⟩
 ·exact ay H
 rcases aj H with⟨Ug,H⟩|⟨Ug,H⟩
 ·exact ay H
 rcases aj H with⟨X7,H⟩|⟨X7,H⟩
 ·exact ay H
 refine aY ?_;rcases aj H with⟨Ya,H⟩|⟨Ya,H⟩
 ·exact ay H
 rcases aj H with⟨XM,H⟩|⟨XM,H⟩
 ·exact ay H
 rcases aj H with⟨q_32,H⟩|⟨q_32,H⟩
 ·exact ay H
 refine aY ?_;rcases aj H with⟨XN,H⟩|⟨XN,H⟩
 ·exact ay H
 rcases aj H with⟨XP,H⟩|⟨XP,H⟩
 ·exact ay H
 rcases aj H with⟨XQ,H⟩|⟨XQ,H⟩
 ·exact ay H
 refine aY ?_;rcases aj H with⟨VG,H⟩|⟨VG,H⟩
 ·obtain⟨s_40,u19,H⟩:=bd_ H
  obtain⟨⟨u19a,u19b,u19c⟩,u19⟩:=cR u19;have u19x:=wo (f:=(fun x=>[AC.int .i64 x])) u19;obtain⟨UV,c20,H⟩:=bd_ H;replace c20:=gJoin11_ok c20;rcases aj H with⟨XS,H⟩|⟨XS,H⟩
  ·obtain⟨s_43,u21,H⟩:=bd_ H
   obtain⟨⟨u21a,u21b,u21c⟩,u21⟩:=cR u21;have u21x:=wo (f:=(fun x=>[AC.int .i64 x])) u21;obtain⟨VM,c22,H⟩:=bd_ H;replace c22:=gAll11_ok c22
   cases H
   repeat' (first|refine gs_ ?_|rw[u19x]|rw[u21x]|rw[show((0:Nat):Int)=0 from rfl])
   refine aZ (bg rfl ?_ ?_)
   ·repeat' (first|exact t7|rfl|exact aqi rfl|omega|apply And.intro)
   ·first|rfl|(simp only[aql,aqj,aqn,aqd]<;>rfl)
  cases H
  repeat' (first|refine gs_ ?_|rw[u19x]|rw[show((0:Nat):Int)=0 from rfl])
  refine aZ (bg rfl ?_ ?_)
  ·repeat' (first|exact t7|rfl|exact aqi rfl|omega|apply And.intro)
  ·first|rfl|(simp only[aql,aqj,aqn,aqd]<;>rfl)
 exact ay H
def dG (OX:Ex)(rec:Ex->Option Int):(Int×Int)->Option (Step (Int×Int) (Int)):=fun s=>match s with
 |(Rm,i_2)=>bif (decide (i_2<((OX.args.length:Nat):Int)))then(aF OX.args i_2).bind fun P7=>(rec P7).bind fun P2=>some (.next ((zb Rm P2),(i64.wrap (i_2+(1:Int)))))else
 some (.exit (Rm,i_2))
def Jm:Sum (Int×Int) (Int)->Option ((Int))
 |.inl (Rm,i_2)=>some (i64.wrap (Rm+(1:Int)))
 |.inr q=>some q
def oK (rec:Ex->Option Int)(OX:Ex):Option (Int):=(ao (dG OX rec) fuel ((0:Int),(0:Int))).bind (Jm)
theorem I4 {rec:Ex->Option Int}  (Pi:∀ {x:Ex} {r:Int},rec x=some r->PTz 141 [.agg (tE x)] (.val (.one (.int .i64 r)))){OX:Ex}{r:Int}(H:oK rec OX=some r):PTz 141 [.agg (tE OX)] (.val (.one (.int .i64 r))):=by
 unfold oK at H;rw[aC OX];refine po_ Tryz.func141 Tryz.ntmps141 ?_;refine aY ?_;refine alM_ (fun s:Int×Int=>match s with|(Rm,i_2)=>[(1,.one (.ptr 0 0)),(3,.one (.c (.int .i64 Rm))),(4,.one (.c (.int .i64 i_2)))]) (fun s=>match s with|(Rm,i_2)=>[.box [.c (.int .i64 OX.op),.c (.int .i64 OX.int),.c (.int .i64 OX.v.kind),.c (.int .i64 OX.v.int),.c (.str OX.v.text),.c (.str OX.nm),.c (.lst (OX.args.map tE))]]) H (fun _=>aqu _)
  (fm_ bF [] rfl bn cm) ?_
 rintro⟨Rm,i_2⟩ st1 OU Py;unfold dG at OU;dsimp only at OU ⊢;rcases aj OU with⟨Qf,OU⟩|⟨Qf,OU⟩
 ·obtain⟨P7,SG,i1,R9,OU⟩:=bw (f:=tE) OU
  simp only[aql,aqj,aqn,aqd,aC]at R9;obtain⟨P2,c2,OU⟩:=bd_ OU;replace c2:=Pi c2
  try simp only[aql,aqj,aqn,aqd,aC]at c2
  cases OU;refine aY ?_;exact⟨_,rfl,fm_ bF [] rfl bn cm⟩
 exact br OU Py
def lC:Nat->Ex->Option Int
 |0,_=>none
 |n+1,x=>oK (lC n) x
theorem zq:∀ (n:Nat) {x:Ex} {r:Int},lC n x=some r->PTz 141 [.agg (tE x)] (.val (.one (.int .i64 r)))
 |0,_,_,h=>nomatch h
 |n+1,_,_,h=>I4 (zq n) h
def kD (OX:Ex)(a_kinds:(List Int))(rec:Ex->List Int->Option (Int×Int)):((List Int)×Int)->Option (Step ((List Int)×Int) (Int×Int)):=fun s=>match s with
 |(V1,WQ)=>bif (decide (WQ<((OX.args.length:Nat):Int)))then(aF OX.args WQ).bind fun Sj=>(rec Sj a_kinds).bind fun PM=>bif (decide (PM.2≠(0:Int)))then some (.ret ((0:Int),PM.2))else
 bif (decide (V1.length+1<=17592186044416))then(some (.next ((V1++[PM.1]),(i64.wrap (WQ+(1:Int))))))else none else
 some (.exit (V1,WQ))
def Jz (OX:Ex)(a_kinds:(List Int)):Sum ((List Int)×Int) (Int×Int)->Option ((Int×Int))
 |.inl (V1,WQ)=>(gRs11 OX V1 a_kinds).bind fun QW=>bif (!QW.2)then some ((0:Int),(7:Int))else
 some (QW.1,(0:Int))
 |.inr q=>some q
def cq (OX:Ex)(a_kinds:(List Int))(rec:Ex->List Int->Option (Int×Int)):((List Int)×Int)->Option (Step ((List Int)×Int) (Int×Int)):=fun s=>match s with
 |(SO,Tv)=>bif (decide (Tv<((OX.args.length:Nat):Int)))then(aF OX.args Tv).bind fun TF=>(rec TF a_kinds).bind fun Q8=>bif (decide (Q8.2≠(0:Int)))then some (.ret ((0:Int),Q8.2))else
 bif (decide (SO.length+1<=17592186044416))then(some (.next ((SO++[Q8.1]),(i64.wrap (Tv+(1:Int))))))else none else
 some (.exit (SO,Tv))
def xg (OX:Ex)(a_kinds:(List Int)):Sum ((List Int)×Int) (Int×Int)->Option ((Int×Int))
 |.inl (SO,Tv)=>(gRs11 OX SO a_kinds).bind fun Vz=>bif (!Vz.2)then some ((0:Int),(7:Int))else
 some (Vz.1,(0:Int))
 |.inr q=>some q
def ol (rec:Ex->List Int->Option (Int×Int))(OX:Ex)(a_kinds:(List Int)):Option (Int×Int):=(qY OX.op).bind fun O7=>bif (decide (O7.1<(0:Int)))then some ((0:Int),(7:Int))else
 (iO OX).bind fun PT=>bif (!PT)then some ((0:Int),(8:Int))else
 bif (decide (OX.op=(2:Int)))then bif (decide (OX.int<(0:Int)))then some ((0:Int),(13:Int))else
 bif (decide (((a_kinds.length:Nat):Int)<=OX.int))then some ((0:Int),(13:Int))else
 (ao (kD OX a_kinds rec) fuel ([],(0:Int))).bind (Jz OX a_kinds)else
 (ao (cq OX a_kinds rec) fuel ([],(0:Int))).bind (xg OX a_kinds)
theorem JU {rec:Ex->List Int->Option (Int×Int)}  (Pi:∀ {x:Ex} {y:List Int} {r:Int×Int},rec x y=some r->PTz 142 [.agg (tE x),.one (.lst (y.map (fun x=>[AC.int .i64 x])))] (.tup [.one (.int .i64 r.1),.one (.int .i64 r.2)])){OX:Ex}{a_kinds:(List Int)}{r:Int×Int}(H:ol rec OX a_kinds=some r):PTz 142 [.agg (tE OX),.one (.lst (a_kinds.map (fun x=>[AC.int .i64 x])))] (.tup [.one (.int .i64 r.1),.one (.int .i64 r.2)]):=by
 unfold ol at H;rw[aC OX];refine po_ Tryz.func142 Tryz.ntmps142 ?_;obtain⟨O7,c1,H⟩:=bd_ H;replace c1:=gArity_ok c1;rcases aj H with⟨Qq,H⟩|⟨Qq,H⟩
 ·exact ay H
 obtain⟨PT,c2,H⟩:=bd_ H;replace c2:=gFormedR_ok c2
 try simp only[aql,aqj,aqn,aqd,aC]at c2
 rcases aj H with⟨P9,H⟩|⟨P9,H⟩
 ·exact ay H
 rcases aj H with⟨Q6,H⟩|⟨Q6,H⟩
 ·rcases aj H with⟨QT,H⟩|⟨QT,H⟩
  ·exact ay H
  rcases aj H with⟨SH,H⟩|⟨SH,H⟩
  ·exact ay H
  refine aY ?_;refine bU 8 1 rfl ?_;refine alM_ (fun s:(List Int)×Int=>match s with|(V1,WQ)=>[(1,.one (.c (.lst (a_kinds.map (fun x=>[AC.int .i64 x]))))),(2,.one (.ptr 0 0)),(8,.one (.own (V1.map (fun x=>[AC.int .i64 x])) 1)),(9,.one (.c (.int .i64 WQ)))]) (fun s=>match s with|(V1,WQ)=>[.box [.c (.int .i64 OX.op),.c (.int .i64 OX.int),.c (.int .i64 OX.v.kind),.c (.int .i64 OX.v.int),.c (.str OX.v.text),.c (.str OX.nm),.c (.lst (OX.args.map tE))],.spare V1.length 1]) H (fun _=>aqu _)
   (fm_ bF [] rfl bn cm) ?_
  rintro⟨V1,WQ⟩ st1 OU Py;unfold kD at OU;dsimp only at OU ⊢;rcases aj OU with⟨P_,OU⟩|⟨P_,OU⟩
  ·obtain⟨Sj,i3z,i3,Ze,OU⟩:=bw (f:=tE) OU
   simp only[aql,aqj,aqn,aqd,aC]at Ze;obtain⟨PM,c4,OU⟩:=bd_ OU;replace c4:=Pi c4
   try simp only[aql,aqj,aqn,aqd,aC]at c4
   exact br OU Py
  exact br OU Py
 refine aY ?_;refine bU 8 1 rfl ?_;refine alM_ (fun s:(List Int)×Int=>match s with|(SO,Tv)=>[(1,.one (.c (.lst (a_kinds.map (fun x=>[AC.int .i64 x]))))),(2,.one (.ptr 0 0)),(8,.one (.own (SO.map (fun x=>[AC.int .i64 x])) 1)),(9,.one (.c (.int .i64 Tv)))]) (fun s=>match s with|(SO,Tv)=>[.box [.c (.int .i64 OX.op),.c (.int .i64 OX.int),.c (.int .i64 OX.v.kind),.c (.int .i64 OX.v.int),.c (.str OX.v.text),.c (.str OX.nm),.c (.lst (OX.args.map tE))],.spare SO.length 1]) H (fun _=>aqu _)
  (fm_ bF [] rfl bn cm) ?_
 rintro⟨SO,Tv⟩ st2 Pz U2;unfold cq at Pz;dsimp only at Pz ⊢;rcases aj Pz with⟨QU,Pz⟩|⟨QU,Pz⟩
 ·obtain⟨TF,i7z,i7,i7x,Pz⟩:=bw (f:=tE) Pz
  simp only[aql,aqj,aqn,aqd,aC]at i7x;obtain⟨Q8,c8,Pz⟩:=bd_ Pz;replace c8:=Pi c8
  try simp only[aql,aqj,aqn,aqd,aC]at c8
  exact br Pz U2
 exact br Pz U2
def iG:Nat->Ex->List Int->Option (Int×Int)
 |0,_,_=>none
 |n+1,x,y=>ol (iG n) x y
theorem yR:∀ (n:Nat) {x:Ex} {y:List Int} {r:Int×Int},iG n x y=some r->PTz 142 [.agg (tE x),.one (.lst (y.map (fun x=>[AC.int .i64 x])))] (.tup [.one (.int .i64 r.1),.one (.int .i64 r.2)])
 |0,_,_,_,h=>nomatch h
 |n+1,_,_,_,h=>JU (yR n) h
def ve (OX:Ex)(a_kinds:(List Int)):Option (Int×Int):=(lC fuel OX).bind fun O7=>bif (decide ((24:Int)<O7))then some ((0:Int),(26:Int))else
 (iG fuel OX a_kinds).bind fun PT=>some (PT.1,PT.2)
instance gChk11_ok {OX : Ex} {a_kinds : (List Int)} {r : Int × Int} : OkC (ve OX a_kinds = some r) (PTz 89 [.agg (tE OX), .one (.lst (a_kinds.map (fun x => [AC.int .i64 x])))] (.tup [.one (.int .i64 r.1), .one (.int .i64 r.2)])) := .mk fun H => by
 unfold ve at H;rw[aC OX];refine po_ Tryz.func89 Tryz.ntmps89 ?_;obtain⟨O7,c1,H⟩:=bd_ H;replace c1:=zq fuel c1
 try simp only[aql,aqj,aqn,aqd,aC]at c1
 rcases aj H with⟨Qq,H⟩|⟨Qq,H⟩
 ·exact ay H
 obtain⟨PT,c2,H⟩:=bd_ H;replace c2:=yR fuel c2
 try simp only[aql,aqj,aqn,aqd,aC]at c2
 exact ay H
def sj (OX:Ex)(a_kinds:(List Int)):Option (Int):=(ve OX a_kinds).bind fun O7=>bif (decide (O7.2≠(0:Int)))then some O7.2 else
 bif (decide (O7.1≠(3:Int)))then bif (decide (O7.1≠(0:Int)))then some (7:Int)else
 some (0:Int)else
 some (0:Int)
instance gPred21_ok {OX : Ex} {a_kinds : (List Int)} {r : Int} : OkC (sj OX a_kinds = some r) (PTz 49 [.agg (tE OX), .one (.lst (a_kinds.map (fun x => [AC.int .i64 x])))] (.val (.one (.int .i64 r)))) := .mk fun H => by
 unfold sj at H;rw[aC OX];refine po_ Tryz.func49 Tryz.ntmps49 ?_;exact ay H
def dE (OX:Ex)(PD:Int)(rec:Ex->Int->Option Int):(Int×Int)->Option (Step (Int×Int) (Int)):=fun s=>match s with
 |(Rm,i_2)=>bif (decide (i_2<((OX.args.length:Nat):Int)))then bif (decide (Rm<PD))then(aF OX.args i_2).bind fun P3=>(rec P3 (i64.wrap (PD-Rm))).bind fun Qc=>some (.next ((i64.wrap (Rm+Qc)),(i64.wrap (i_2+(1:Int)))))else
 some (.exit (Rm,i_2))else
 some (.exit (Rm,i_2))
def LX:Sum (Int×Int) (Int)->Option ((Int))
 |.inl (Rm,i_2)=>some Rm
 |.inr q=>some q
def rY (rec:Ex->Int->Option Int)(OX:Ex)(PD:Int):Option (Int):=(ao (dE OX PD rec) fuel ((1:Int),(0:Int))).bind (LX)
theorem ML {rec:Ex->Int->Option Int}  (Pi:∀ {x:Ex} {y:Int} {r:Int},rec x y=some r->PTz 88 [.agg (tE x),.one (.int .i64 y)] (.val (.one (.int .i64 r)))){OX:Ex}{PD:Int}{r:Int}(H:rY rec OX PD=some r):PTz 88 [.agg (tE OX),.one (.int .i64 PD)] (.val (.one (.int .i64 r))):=by
 unfold rY at H;rw[aC OX];refine po_ Tryz.func88 Tryz.ntmps88 ?_;refine aY ?_;refine alM_ (fun s:Int×Int=>match s with|(Rm,i_2)=>[(1,.one (.c (.int .i64 PD))),(2,.one (.ptr 0 0)),(5,.one (.c (.int .i64 Rm))),(6,.one (.c (.int .i64 i_2)))]) (fun s=>match s with|(Rm,i_2)=>[.box [.c (.int .i64 OX.op),.c (.int .i64 OX.int),.c (.int .i64 OX.v.kind),.c (.int .i64 OX.v.int),.c (.str OX.v.text),.c (.str OX.nm),.c (.lst (OX.args.map tE))]]) H (fun _=>aqu _)
  (fm_ bF [] rfl bn cm) ?_
 rintro⟨Rm,i_2⟩ st1 OU Py;unfold dE at OU;dsimp only at OU ⊢;rcases aj OU with⟨Qf,OU⟩|⟨Qf,OU⟩
 ·rcases aj OU with⟨P9,OU⟩|⟨P9,OU⟩
  ·obtain⟨P3,SG,i1,R9,OU⟩:=bw (f:=tE) OU
   simp only[aql,aqj,aqn,aqd,aC]at R9;obtain⟨Qc,c2,OU⟩:=bd_ OU;replace c2:=Pi c2
   try simp only[aql,aqj,aqn,aqd,aC]at c2
   cases OU;refine aY ?_;exact⟨_,rfl,fm_ bF [] rfl bn cm⟩
  exact br OU Py
 exact br OU Py
def mI:Nat->Ex->Int->Option Int
 |0,_,_=>none
 |n+1,x,y=>rY (mI n) x y
theorem Dn:∀ (n:Nat) {x:Ex} {y:Int} {r:Int},mI n x y=some r->PTz 88 [.agg (tE x),.one (.int .i64 y)] (.val (.one (.int .i64 r)))
 |0,_,_,_,h=>nomatch h
 |n+1,_,_,_,h=>ML (Dn n) h
def Ez (a_l:(List Ex))(PD:Int):Option (Bool):=(mI fuel (Ex.mk (0:Int) (0:Int) (⟨(0:Int),(0:Int),empty⟩:Val) empty a_l) (i64.wrap (PD+(2:Int)))).bind fun O7=>some (decide (O7<=(i64.wrap (PD+(1:Int)))))
instance gSmall_ok {a_l : (List Ex)} {PD : Int} {r : Bool} : OkC (Ez a_l PD = some r) (PTz 48 [.one (.lst (a_l.map tE)), .one (.int .i64 PD)] (.val (.one (.bool r)))) := .mk fun H => by
 unfold Ez at H;refine po_ Tryz.func48 Tryz.ntmps48 ?_;obtain⟨O7,c1,H⟩:=bd_ H;replace c1:=Dn fuel c1
 try simp only[aql,aqj,aqn,aqd,aC]at c1
 exact ay H
theorem zH (e:Ex)(m:Int)(hm:1<=m/\m<=1000)(rec:Ex->Int->Option Int)
  (Pi:∀ x∈e.args,∀ k:Int,1<=k->k<m ->∃ r,rec x k=some r/\1<=r/\r<=k/\(r<k->gD r.toNat x)) :
  ∀ (N i:Nat) (c:Int),1<=c->c<=m->i<=e.args.length->(m-c).toNat<N->(i:Int)<=c ->
   ∃ r j,ao (dE e m rec) N (c,(i:Int))=some (.inl (r,j))/\c<=r/\r<=m/\(r<m->((e.args.length-i:Nat):Int)<=r-c /\ ∀ x∈e.args.drop i,gD (r-c).toNat x)
 |0,i,c,_,_,_,h,_=>by omega
 |N+1,i,c,h1,h2,hi,hN,hic=>by
  rw[ao];by_cases O0:i<e.args.length
  ·obtain⟨x,hx⟩:=gol_ O0
   have Ry:=aqe hx;by_cases hc:c<m
   ·obtain⟨w,hw,w1,w2,w3⟩:=Pi x Ry (m-c) m0 m0
    have hb:dE e m rec (c,(i:Int))=some (.next (c+w,((i+1:Nat):Int))):=by
     unfold dE;dsimp only;rw[aO hx,aqa,aqc hc,aqa,gn_ hx,ap9,dj m0,hw,ap9,dj m0,wrapN m0]
    rw[hb];obtain⟨r,j,e1,e2,e3,e4⟩:=zH e m hm rec Pi N (i+1) (c+w) m0 m0 m0 m0 m0;refine⟨r,j,e1,m0,e3,fun hr=>?_⟩;obtain⟨f1,f2⟩:=e4 hr;refine⟨m0,fun y hy=>?_⟩;rw[aqF O0,(ap_.1 hx).2]at hy;rcases aqp.1 hy with rfl|hy
    ·exact nH m0 (w3 m0)
    ·exact nH m0 (f2 y hy)
   ·have hb:dE e m rec (c,(i:Int))=some (.exit (c,(i:Int))):=by
     unfold dE;dsimp only;rw[aO hx,aqa,aqb hc,ap']
    rw[hb];exact⟨c,_,rfl,Int.le_refl _,h2,fun hr=>absurd hr hc⟩
  ·have:i=e.args.length:=m0
   subst this;have hb:dE e m rec (c,((e.args.length:Nat):Int))=some (.exit (c,((e.args.length:Nat):Int))):=by
    unfold dE;dsimp only;rw[lF_,ap']
   rw[hb];refine⟨c,_,rfl,Int.le_refl _,h2,fun hr=>⟨m0,fun y hy=>?_⟩⟩;rw[aq4]at hy
   cases hy
theorem H7:∀ (n:Nat) (e:Ex) (m:Int),1<=m->m<=1000->m<=(n:Int) ->∃ r,mI n e m=some r/\1<=r/\r<=m/\(r<m->gD r.toNat e/\((e.args.length:Nat):Int)<r /\ ∀ x∈e.args,gD (r-1).toNat x)
 |0,e,m,h1,_,h3=>by omega
 |n+1,e,m,h1,h2,h3=>by
  have Pi:∀ x∈e.args,∀ k:Int,1<=k->k<m ->∃ r,mI n x k=some r/\1<=r/\r<=k/\(r<k->gD r.toNat x):=by
   intro x _ k k1 k2;obtain⟨r,e1,e2,e3,e4⟩:=H7 n x k k1 m0 m0;exact⟨r,e1,e2,e3,fun h=>(e4 h).1⟩
  obtain⟨r,j,e1,e2,e3,e4⟩:=zH e m ⟨h1,h2⟩ (mI n) Pi fuel 0 1 (Int.le_refl _) h1 (aqu _) (by unfold fuel;omega) m0;refine⟨r,?_,e2,e3,fun hr=>?_⟩
  ·show rY (mI n) e m=_
   unfold rY;rw[show((0:Nat):Int)=0 from rfl]at e1;rw[e1];rfl
  ·obtain⟨f1,f2⟩:=e4 hr
   rw[List.drop_zero]at f2;refine⟨?_,m0,f2⟩;obtain⟨k,hk⟩:∃ k,r.toNat=k+1:=⟨r.toNat-1,m0⟩;rw[hk];refine⟨m0,fun x hx=>?_⟩;have:=f2 x hx;rwa[show(r-1).toNat=k by omega]at this
theorem aeg (l:List Ex):∃ b,Ez l 200=some b/\(b=true->l.length<=200 /\ ∀ e∈l,gD 200 e):=by
 obtain⟨r,e1,e2,e3,e4⟩:=H7 fuel (Ex.mk 0 0 ⟨0,0,empty⟩ empty l) 202 m0 m0 (by unfold fuel;omega);refine⟨decide (r<=201),?_,fun h=>?_⟩
 ·unfold Ez
  rw[dj m0,dj m0];show(mI fuel (Ex.mk 0 0 ⟨0,0,empty⟩ empty l) 202).bind _=_;rw[e1];rfl
 ·have:=aqC h
  obtain⟨_,f1,f2⟩:=e4 m0;exact⟨by have:((l.length:Nat):Int)<r:=f1;omega,fun e he=>nH m0 (f2 e he)⟩
theorem afN {e:Ex}(h:gD 200 e):gD fuel e:=nH (by unfold fuel;omega) h
theorem BX (e:Ex)(m:Int)(hm:2<=m/\m<=1000)(B:Int)(hB:B<=4611686018427387904)(rec:Ex->Option Int)(VN:Ex->Int->Option Int)
  (Pi:∀ x∈e.args,∃ d,rec x=some d/\1<=d/\d<=B/\VN x (m-1)=some (min d (m-1))) (hlen:e.args.length<=100000) :
  ∀ (N i:Nat) (a:Int),0<=a->a<=max 0 B->i<=e.args.length->e.args.length-i<N ->
   ∃ r,ao (dG e rec) N (a,(i:Int))=some (.inl (r,((e.args.length:Nat):Int)))/\ao (eD e m VN) N (min (a+1) m,(i:Int))=some (.inl (min (r+1) m,((e.args.length:Nat):Int)))/\0<=r/\r<=max 0 B
 |0,i,a,_,_,_,h=>by omega
 |N+1,i,a,h1,h2,hi,hN=>by
  rw[ao,ao];by_cases O0:i<e.args.length
  ·obtain⟨x,hx⟩:=gol_ O0
   obtain⟨d,e1,e2,e3,e4⟩:=Pi x (aqe hx);have hb:dG e rec (a,(i:Int))=some (.next (max a d,((i+1:Nat):Int))):=by
    unfold dG;dsimp only;rw[aO hx,aqa,gn_ hx,ap9,e1,ap9,wrapN m0];congr 3;unfold zb;split<;>omega
   have Pz:eD e m VN (min (a+1) m,(i:Int))=some (.next (min (max a d+1) m,((i+1:Nat):Int))):=by
    unfold eD;dsimp only;rw[aO hx,aqa,gn_ hx,ap9,dj m0,e4,ap9,dj m0,wrapN m0];congr 3;unfold zb;split<;>omega
   rw[hb,Pz];exact BX e m hm B hB rec VN Pi hlen N (i+1) (max a d) m0 m0 m0 m0
  ·have:i=e.args.length:=m0
   subst this;have hb:dG e rec (a,((e.args.length:Nat):Int))=some (.exit (a,((e.args.length:Nat):Int))):=by
    unfold dG;dsimp only;rw[lF_,ap']
   have Pz:eD e m VN (min (a+1) m,((e.args.length:Nat):Int))=some (.exit (min (a+1) m,((e.args.length:Nat):Int))):=by
    unfold eD;dsimp only;rw[lF_,ap']
   rw[hb,Pz];exact⟨a,rfl,rfl,h1,h2⟩
theorem BV:∀ (n:Nat) (e:Ex),n<=4611686018427387904->gD n e ->∃ d,lC n e=some d/\1<=d/\d<=(n:Int) /\ ∀ m:Int,1<=m->m<=1000->pS n e m=some (min d m)
 |0,_,_,h=>h.elim
 |n+1,e,hn,h=>by
  have hd:∃ r,(∀ m:Int,2<=m->m<=1000->ao (eD e m (pS n)) fuel (1,0)=some (.inl (min (r+1) m,((e.args.length:Nat):Int))))/\ao (dG e (lC n)) fuel (0,0)=some (.inl (r,((e.args.length:Nat):Int)))/\0<=r/\r<=max 0 (n:Int):=by
   have key:∀ m:Int,2<=m->m<=1000->_:=fun m h1 h2=>BX e m ⟨h1,h2⟩ (n:Int) m0 (lC n) (pS n) (by
    intro x hx;obtain⟨d,e1,e2,e3,e4⟩:=BV n x m0 (h.2 x hx);exact⟨d,e1,e2,e3,e4 (m-1) m0 m0⟩) h.1 fuel 0 0 (Int.le_refl _) m0 (aqu _) (by unfold fuel;have:=h.1;omega)
   obtain⟨r,e1,e2,e3,e4⟩:=key 2 m0 m0;refine⟨r,fun m h1 h2=>?_,e1,e3,e4⟩;obtain⟨r',f1,f2,f3,f4⟩:=key m h1 h2;have:r'=r:=by
    rw[e1]at f1;have:=aqG f1;injection this with this
    injection this with this _
    exact this.symm
   subst this;rw[show min ((0:Int)+1) m=1 by omega]at f2;exact f2
  obtain⟨r,k1,k2,k3,k4⟩:=hd;refine⟨r+1,?_,m0,m0,fun m h1 h2=>?_⟩
  ·show oK (lC n) e=_
   unfold oK;rw[k2];show some (i64.wrap (r+1))=_;rw[dj m0]
  ·show rN (pS n) e m=_
   unfold rN;by_cases hm:m<=1
   ·rw[aqc hm,aqa]
    congr 1;omega
   ·rw[aqb hm,ap',k1 m m0 h2];rfl
def FB:Int->List Int->Option Int
 |t,[]=>some t
 |t,x::l=>if x=0 then FB t l else if t≠0/\t≠x then none else FB x l
def amD (o:Option Int):Int×Bool:=match o with|some k=>(k,true)|none=>(0,false)
theorem CL:∀ (l:List Int) (t:Int),cn (ρ:=Int×Bool) (fun t x=>some (if x=0 then .inl t else if t≠0/\t≠x then .inr (0,false)else .inl x)) t l=some (match FB t l with|some k => .inl k|none => .inr (0,false))
 |[],t=>rfl
 |x::l,t=>by
  rw[cn,FB];by_cases h:x=0
  ·rw[if_pos h,if_pos h];exact CL l t
  ·rw[if_neg h,if_neg h]
   by_cases h2:t≠0/\t≠x
   ·rw[if_pos h2,if_pos h2]
   ·rw[if_neg h2,if_neg h2];exact CL l x
theorem fc (l:List Int)(hl:l.length<=1000000):iK l=some (amD (FB 0 l)):=by
 unfold iK;rw[bX (l:=l) (mk:=fun t i=>(t,i)) (f:=fun t x=>some (if x=0 then .inl t else if t≠0/\t≠x then .inr (0,false)else .inl x)) ?_ ?_ (by unfold fuel;omega) (0:Int)]
 ·rw[CL]
  cases FB 0 l<;>rfl
 ·intro s i x hx
  have hi:=(ap_.1 hx).1;unfold sD;dsimp only;rw[aO hx,aqa,gn_ hx,wrapN m0];simp only[ap9];by_cases h:x=0
  ·rw[aqc h,aqa,if_pos h];rfl
  ·rw[aqb h,ap',if_neg h]
   by_cases h1:s=0
   ·rw[aqb (show ¬ s≠0 by omega),ap',if_neg m0];rfl
   ·rw[aqc (show s≠0 from h1),aqa]
    by_cases h2:s=x
    ·rw[aqb (show ¬ s≠x by omega),ap',if_neg m0];rfl
    ·rw[aqc (show s≠x from h2),aqa,if_pos ⟨h1,h2⟩];rfl
 ·intro s
  unfold sD;dsimp only;rw[lF_,ap']
theorem jO (l:List Int)(hl:l.length<=1000000):gP l=some (amD (FB 0 l)):=(show gP l=iK l from rfl).trans (fc l hl)
def fi (l:List Int)(k:Int):Bool:=l.all fun x=>decide (x=k)||decide (x=0)
theorem dn (l:List Int)(k:Int)(hl:l.length<=1000000):fM l k=some (fi l k):=by
 unfold fM;rw[bX (l:=l) (mk:=fun(_:Unit) i=>i) (f:=fun _ x=>some (if x=k\/x=0 then .inl ()else .inr false)) ?_ ?_ (by unfold fuel;omega) ()]
 ·have:∀ l:List Int,cn (ρ:=Bool) (fun(_:Unit) (x:Int)=>some (if x=k\/x=0 then .inl ()else .inr false)) () l=some (if fi l k=true then .inl ()else .inr false):=by
   intro l
   induction l with
   |nil=>rfl
   |cons x l ih =>
    rw[cn];by_cases h:x=k\/x=0
    ·rw[if_pos h]
     show cn _ () l=_;rw[ih];have:fi (x::l) k=fi l k:=by
      unfold fi;rw[List.all_cons];rcases h with h|h<;>simp[h]
     rw[this]
    ·rw[if_neg h]
     have:fi (x::l) k=false:=by
      unfold fi;rw[List.all_cons,aqb (fun e=>h (.inl e)),aqb (fun e=>h (.inr e))];rfl
     rw[this];rfl
  rw[this]
  cases fi l k<;>rfl
 ·intro s i x hx
  have hi:=(ap_.1 hx).1;unfold tu;dsimp only;rw[aO hx,aqa,gn_ hx,wrapN m0];simp only[ap9];by_cases h:x=k
  ·rw[aqb (show ¬ x≠k by omega),ap',if_pos (.inl h)];rfl
  ·rw[aqc (show x≠k from h),aqa]
   by_cases h2:x=0
   ·rw[aqb (show ¬ x≠0 by omega),ap',if_pos (.inr h2)];rfl
   ·rw[aqc (show x≠0 from h2),aqa,if_neg m0];rfl
 ·intro s
  unfold tu;dsimp only;rw[lF_,ap']
theorem BA (k:Int)(hk:k≠0):∀ (l:List Int) (t:Int),FB t (l++[k])=if (t=0\/t=k)/\fi l k=true then some k else none
 |[],t=>by
  show(if k=0 then some t else if t≠0/\t≠k then none else some k)=if (t=0\/t=k)/\true=true then some k else none
  rw[if_neg hk];by_cases h:t=0\/t=k
  ·rw[if_neg (show ¬ (t≠0/\t≠k)by omega),if_pos (show(t=0\/t=k)/\true=true from⟨h,rfl⟩)]
  ·rw[if_pos (show t≠0/\t≠k by omega),if_neg (fun e=>h e.1)]
 |x::l,t=>by
  rw[List.cons_append,FB];by_cases h:x=0
  ·rw[if_pos h,BA k hk l t]
   have:fi (x::l) k=fi l k:=by unfold fi;rw[List.all_cons,aqc h,Bool.or_true,aqH]
   rw[this]
  ·rw[if_neg h]
   have ha:fi (x::l) k=(decide (x=k)&&fi l k):=by unfold fi;rw[List.all_cons,aqb h,Bool.or_false]
   rw[ha];by_cases h2:t≠0/\t≠x
   ·rw[if_pos h2,if_neg]
    rintro⟨h3,h4⟩;rw[aqr]at h4;have:=aqC h4.1;omega
   ·rw[if_neg h2,BA k hk l x]
    by_cases h3:x=k
    ·rw[aqc h3,aqH]
     by_cases h4:fi l k=true
     ·rw[if_pos ⟨.inr h3,h4⟩,if_pos ⟨m0,h4⟩]
     ·rw[if_neg (fun e=>h4 e.2),if_neg (fun e=>h4 e.2)]
    ·rw[aqb h3,Bool.false_and,if_neg m0,if_neg m5]
theorem ei {l:List Int}{k:Int}(h0:l≠[])(hl:l.length<=100000)(hk:k≠0):qy l k=some (fi l k):=by
 have ho:KQ l=true:=by
  unfold KQ;rw[aqc hl,Bool.and_true]
  cases l with
  |nil=>exact absurd rfl h0
  |cons a b=>rfl
 unfold qy;rw[ho,aqa,fc _ (by rw[aqg];simp;omega),ap9,BA k hk]
 cases h:fi l k with
 |true=>rw[if_pos ⟨.inl rfl,rfl⟩];show some (bif true then decide (k=k)else false)=_;simp
 |false=>rw[if_neg m5];rfl
theorem M4 {e:Ex}{l:List Int}{kinds:List Int}(Po:(jt e.op).1<=((l.length:Nat):Int))(PG:((l.length:Nat):Int)<=(jt e.op).2)(hl:l.length<=100000)(ho:e.op=1\/e.op=4\/e.op=5\/e.op=6\/e.op=7\/e.op=8\/e.op=9\/e.op=10\/e.op=11\/e.op=12\/e.op=13\/e.op=14\/e.op=15\/e.op=16\/e.op=17\/e.op=18\/e.op=19\/e.op=20\/e.op=21\/e.op=22\/e.op=23\/e.op=24):∃ r,gRs11 e l kinds=some r/\gRsP e l=some r:=by
 rcases ho with ho|ho|ho|ho|ho|ho|ho|ho|ho|ho|ho|ho|ho|ho|ho|ho|ho|ho|ho|ho|ho|ho
 ·rw[ho,ar1]at Po PG
  dsimp only at Po PG;unfold gRs11 gRsP;simp only[ho,Int.reduceEq,sl9];exact⟨_,rfl,rfl⟩
 ·rw[ho,ar4]at Po PG
  dsimp only at Po PG;unfold gRs11 gRsP;simp only[ho,Int.reduceEq,sl9];rw[dn _ _ m0,ei (by rintro rfl;simp at Po) hl m9];exact⟨_,rfl,rfl⟩
 ·rw[ho,ar5]at Po PG
  dsimp only at Po PG;unfold gRs11 gRsP;simp only[ho,Int.reduceEq,sl9];rw[dn _ _ m0,ei (by rintro rfl;simp at Po) hl m9];exact⟨_,rfl,rfl⟩
 ·rw[ho,ar6]at Po PG
  dsimp only at Po PG;unfold gRs11 gRsP;simp only[ho,Int.reduceEq,sl9];rw[dn _ _ m0,ei (by rintro rfl;simp at Po) hl m9];exact⟨_,rfl,rfl⟩
 ·rw[ho,ar7]at Po PG
  dsimp only at Po PG;unfold gRs11 gRsP;simp only[ho,Int.reduceEq,sl9];rw[jO _ m0,fc _ m0];exact⟨_,rfl,rfl⟩
 ·rw[ho,ar8]at Po PG
  dsimp only at Po PG;unfold gRs11 gRsP;simp only[ho,Int.reduceEq,sl9];rw[jO _ m0,fc _ m0];exact⟨_,rfl,rfl⟩
 ·rw[ho,ar9]at Po PG
  dsimp only at Po PG;unfold gRs11 gRsP;simp only[ho,Int.reduceEq,sl9];rw[jO _ m0,fc _ m0];exact⟨_,rfl,rfl⟩
 ·rw[ho,apD]at Po PG
  dsimp only at Po PG;unfold gRs11 gRsP;simp only[ho,Int.reduceEq,sl9];rw[jO _ m0,fc _ m0];exact⟨_,rfl,rfl⟩
 ·rw[ho,apF]at Po PG
  dsimp only at Po PG;unfold gRs11 gRsP;simp only[ho,Int.reduceEq,sl9];rw[jO _ m0,fc _ m0];exact⟨_,rfl,rfl⟩
 ·rw[ho,apk]at Po PG
  dsimp only at Po PG;unfold gRs11 gRsP;simp only[ho,Int.reduceEq,sl9];rw[jO _ m0,fc _ m0];exact⟨_,rfl,rfl⟩
 ·rw[ho,an7]at Po PG
  dsimp only at Po PG;unfold gRs11 gRsP;simp only[ho,Int.reduceEq,sl9];rw[dn _ _ m0,ei (by rintro rfl;simp at Po) hl m9];exact⟨_,rfl,rfl⟩
 ·rw[ho,aoe]at Po PG
  dsimp only at Po PG;unfold gRs11 gRsP;simp only[ho,Int.reduceEq,sl9];rw[dn _ _ m0,ei (by rintro rfl;simp at Po) hl m9];exact⟨_,rfl,rfl⟩
 ·rw[ho,aoo]at Po PG
  dsimp only at Po PG;unfold gRs11 gRsP;simp only[ho,Int.reduceEq,sl9];rw[dn _ _ m0,ei (by rintro rfl;simp at Po) hl m9];exact⟨_,rfl,rfl⟩
 ·rw[ho,anE]at Po PG
  dsimp only at Po PG;unfold gRs11 gRsP;simp only[ho,Int.reduceEq,sl9];rw[dn _ _ m0,ei (by rintro rfl;simp at Po) hl m9];exact⟨_,rfl,rfl⟩
 ·rw[ho,an1]at Po PG
  dsimp only at Po PG;unfold gRs11 gRsP;simp only[ho,Int.reduceEq,sl9];rw[dn _ _ m0,ei (by rintro rfl;simp at Po) hl m9];exact⟨_,rfl,rfl⟩
 ·rw[ho,apj]at Po PG
  dsimp only at Po PG;unfold gRs11 gRsP;simp only[ho,Int.reduceEq,sl9];rw[dn _ _ m0,ei (by rintro rfl;simp at Po) hl m9];exact⟨_,rfl,rfl⟩
 ·rw[ho,ao8]at Po PG
  dsimp only at Po PG;unfold gRs11 gRsP;simp only[ho,Int.reduceEq,sl9];rw[dn _ _ m0,ei (by rintro rfl;simp at Po) hl m9];exact⟨_,rfl,rfl⟩
 ·rw[ho,apu]at Po PG
  dsimp only at Po PG;unfold gRs11 gRsP;simp only[ho,Int.reduceEq,sl9];rw[dn _ _ m0,ei (by rintro rfl;simp at Po) hl m9];exact⟨_,rfl,rfl⟩
 ·rw[ho,apG]at Po PG
  dsimp only at Po PG;unfold gRs11 gRsP;simp only[ho,Int.reduceEq,sl9];exact⟨_,rfl,rfl⟩
 ·rw[ho,alO]at Po PG
  dsimp only at Po PG;unfold gRs11 gRsP;simp only[ho,Int.reduceEq,sl9];obtain⟨a,b,c,rfl⟩:=aku (l:=l) m0;rw[show ga [a,b,c] (1:Int) ((([a,b,c].length:Nat)):Int)=some [b,c]from rfl,show ga [a,b,c] (0:Int) (1:Int)=some [a]from rfl];simp only[ap9];rw[jO _ m5,fc _ m5];simp only[ap9];rw[dn _ _ m5,ei m5 m5 m9]
  cases (amD (FB 0 [b,c])).2<;>exact⟨_,rfl,rfl⟩
 ·rw[ho,apq]at Po PG
  dsimp only at Po PG;unfold gRs11 gRsP;simp only[ho,Int.reduceEq,sl9];rw[jO _ m0,fc _ m0];exact⟨_,rfl,rfl⟩
 ·rw[ho,ao5]at Po PG
  dsimp only at Po PG;unfold gRs11 gRsP;simp only[ho,Int.reduceEq,sl9];rw[dn _ _ m0,ei (by rintro rfl;simp at Po) hl m9];exact⟨_,rfl,rfl⟩
theorem ET (e:Ex)(kinds:List Int)(rec:Ex->List Int->Option (Int×Int))(Pi:∀ x∈e.args,∃ c,rec x kinds=some c)(hlen:e.args.length<=100000) :
  ∀ (N i:Nat) (s:List Int),s.length=i->i<=e.args.length->e.args.length-i<N ->∃ r,ao (cq e kinds rec) N (s,(i:Int))=some r /\ ∀ t j,r = .inl (t,j)->t.length=e.args.length
 |0,i,s,_,_,h=>by omega
 |N+1,i,s,hs,hi,hN=>by
  rw[ao];by_cases O0:i<e.args.length
  ·obtain⟨x,hx⟩:=gol_ O0
   obtain⟨c,hc⟩:=Pi x (aqe hx);by_cases h0:c.2=0
   ·have hb:cq e kinds rec (s,(i:Int))=some (.next (s++[c.1],((i+1:Nat):Int))):=by
     unfold cq;dsimp only;rw[aO hx,aqa,gn_ hx,ap9,hc,ap9,aqb (show ¬ c.2≠0 by omega),ap',aqc m0,aqa,wrapN m0]
    rw[hb];exact ET e kinds rec Pi hlen N (i+1) (s++[c.1]) (by rw[aqg,hs];rfl) m0 m0
   ·have hb:cq e kinds rec (s,(i:Int))=some (.ret (0,c.2)):=by
     unfold cq;dsimp only;rw[aO hx,aqa,gn_ hx,ap9,hc,ap9,aqc (show c.2≠0 from h0),aqa]
    rw[hb];exact⟨_,rfl,fun t j h=>by cases h⟩
  ·have:i=e.args.length:=m0
   subst this;have hb:cq e kinds rec (s,((e.args.length:Nat):Int))=some (.exit (s,((e.args.length:Nat):Int))):=by
    unfold cq;dsimp only;rw[lF_,ap']
   rw[hb];exact⟨_,rfl,fun t j h=>by injection h with h;injection h with h _;rw[<- h];exact hs⟩
theorem DD (kinds:List Int):∀ (n:Nat) (e:Ex),gD n e ->∃ c,iG n e kinds=some c/\pz n e kinds=some c
 |0,_,h=>h.elim
 |n+1,e,h=>by
  have hx:∀ x∈e.args,∃ c,iG n x kinds=some c/\pz n x kinds=some c:=fun x hx=>DD kinds n x (h.2 x hx)
  have hb:mL e kinds (pz n)=cq e kinds (iG n):=by
   funext s;obtain⟨l,i⟩:=s;unfold mL cq;dsimp only
   cases hg:aF e.args i with
   |none=>rfl
   |some x =>
    obtain⟨c,c1,c2⟩:=hx x (aqe (iZ hg).2);simp only[ap9];rw[c1,c2]
  obtain⟨a1,a2,a3,a4⟩:=q_ e.op ((e.args.length:Nat):Int) (by have:=h.1;omega);show ∃ c,ol (iG n) e kinds=some c/\rj (pz n) e kinds=some c;unfold ol rj;rw[a1,a2,ap9,ap9];dsimp only;by_cases h00:(jt e.op).1<0
  ·rw[aqc h00,aqb (show ¬ 0<=(jt e.op).1 by omega),aqa]
   exact⟨_,rfl,rfl⟩
  have h0:0<=(jt e.op).1:=m0
  rw[aqb (show ¬ (jt e.op).1<0 by omega),aqc h0,Bool.not_true,ap',ap',zy h.1,Dc h.1,ap9,ap9]
  cases hf:qw e with
  |false=>exact⟨_,rfl,rfl⟩
  |true =>
   rw[Bool.not_true,ap',ap'];obtain⟨hops,Po,PG,Xk⟩:=uP h.1 hf;by_cases o2:e.op=2
   ·rw[aqc o2,aqa,aqa]
    by_cases i0:e.int<0
    ·rw[aqc i0];exact⟨_,rfl,rfl⟩
    rw[aqb i0,ap',ap'];by_cases i1:((kinds.length:Nat):Int)<=e.int
    ·rw[aqc i1];exact⟨_,rfl,rfl⟩
    rw[aqb i1,ap',ap'];obtain⟨x,O3⟩:=gol_ (l:=kinds) (i:=e.int.toNat) m0;have hg:aF kinds e.int=some x:=by unfold aF;rw[if_pos m0];exact O3
    rw[o2,ar2]at PG;dsimp only at PG;have hz:e.args.length=0:=m0
    have hbr:ao (kD e kinds (iG n)) fuel ([],(0:Int))=some (.inl ([],0)):=by
     have:fuel=(fuel-1)+1:=rfl;rw[this,ao];unfold kD;dsimp only;rw[hz,show decide ((0:Int)<((0:Nat):Int))=false from rfl,ap']
    rw[hbr,hg];refine⟨(x,0),?_,rfl⟩;show(gRs11 e [] kinds).bind _=_;unfold gRs11;rw[o2,show decide ((2:Int)=1)=false from rfl,show decide ((2:Int)=2)=true from rfl,ap',aqa,hg];rfl
   ·rw[aqb o2,ap',ap',hb]
    obtain⟨r,hr,hk⟩:=ET e kinds (iG n) (fun x hm=>(hx x hm).imp fun c hc=>hc.1) h.1 fuel 0 [] rfl (aqu _) (by unfold fuel;have:=h.1;omega);rw[show((0:Nat):Int)=0 from rfl]at hr;rw[hr,ap9,ap9]
    cases r with
    |inr q=>exact⟨q,rfl,rfl⟩
    |inl p =>
     obtain⟨t,j⟩:=p;have ht:=hk t j rfl;obtain⟨q,q1,q2⟩:=M4 (e:=e) (l:=t) (kinds:=kinds) (by rw[ht];exact Po) (by rw[ht];exact PG) (by rw[ht];exact h.1) m0;unfold xg zn;dsimp only;rw[q1,q2,ap9]
     cases q.2<;>exact⟨_,rfl,rfl⟩
theorem Lr {e:Ex}(kinds:List Int)(h:gD fuel e):∃ c,ve e kinds=some c/\F6 e kinds=some c:=by
 obtain⟨d,d1,d2,d3,d4⟩:=BV fuel e (by unfold fuel;omega) h;obtain⟨c,c1,c2⟩:=DD kinds fuel e h;unfold ve F6 acR;rw[d1,d4 25 m0 m0,c1,c2];simp only[ap9];by_cases hd:(24:Int)<d
 ·rw[aqc hd,aqc (show(24:Int)<min d 25 by omega)];exact⟨_,rfl,rfl⟩
 ·rw[aqb hd,aqb (show ¬ (24:Int)<min d 25 by omega)];exact⟨_,rfl,rfl⟩
noncomputable section
def fg (Ul:a6):(Int)->Option (Step (Int) (Bool)):=fun s=>match s with
 |i_1=>bif (decide (i_1<((Ul.facts.length:Nat):Int)))then(aF Ul.facts i_1).bind fun RV=>(dh RV.valid).bind fun Qp=>bif (!Qp)then some (.ret false)else
 (qS RV.row Ul.kinds).bind fun Qc=>bif (!Qc)then some (.ret false)else
 some (.next (i64.wrap (i_1+(1:Int))))else
 some (.exit i_1)
def nz (Ul:a6):Sum (Int) (Bool)->Option ((Bool))
 |.inl i_1=>bif (decide ((0:Int)<((Ul.kinds.length:Nat):Int)))then bif (decide (((Ul.kinds.length:Nat):Int)<=(48:Int)))then(Dj Ul.kinds).bind fun Qr=>some Qr else
 some false else
 some false
 |.inr q=>some q
def uO (Ul:a6):Option (Bool):=(ao (fg Ul) fuel (0:Int)).bind (nz Ul)
instance gSound_ok {Ul : a6} {r : Bool} : OkC (uO Ul = some r) (PTz 47 [.agg (aU Ul)] (.val (.one (.bool r)))) := .mk fun H => by
 unfold uO at H;refine po_ Tryz.func47 Tryz.ntmps47 ?_;refine aY ?_;refine alM_ (fun s:Int=>match s with|i_1=>[(1,.one (.ptr 0 0)),(3,.one (.c (.int .i64 i_1)))]) (fun s=>match s with|i_1=>[.box [.c (.lst (Ul.kinds.map (fun x=>[AC.int .i64 x]))),.c (.lst (Ul.facts.map aG))]]) H (fun _=>aqu _)
  (fm_ bF [] rfl bn cm) ?_
 rintro i_1 st1 OU Py;unfold fg at OU;dsimp only at OU ⊢;rcases aj OU with⟨Qq,OU⟩|⟨Qq,OU⟩
 ·obtain⟨RV,SG,i1,R9,OU⟩:=bw (f:=aG) OU
  obtain⟨Qp,c2,OU⟩:=bd_ OU;replace c2:=gValid1_ok c2;rcases aj OU with⟨Q6,OU⟩|⟨Q6,OU⟩
  ·exact br OU Py
  obtain⟨Qc,c3,OU⟩:=bd_ OU;replace c3:=gFits8_ok c3;rcases aj OU with⟨SH,OU⟩|⟨SH,OU⟩
  ·exact br OU Py
  cases OU;refine aY ?_;exact⟨_,rfl,fm_ bF [] rfl bn cm⟩
 exact br OU Py
def sQ (OV:(List ap))(OW:(List ap)):Option (Bool):=(lT OV).bind fun O7=>(lT OW).bind fun Qd=>(gl O7 Qd).bind fun PT=>some PT
instance gSame22_ok {OV : (List ap)} {OW : (List ap)} {r : Bool} : OkC (sQ OV OW = some r) (PTz 32 [.one (.lst (OV.map aG)), .one (.lst (OW.map aG))] (.val (.one (.bool r)))) := .mk fun H => by
 unfold sQ at H;refine po_ Tryz.func32 Tryz.ntmps32 ?_;exact ay H
end
