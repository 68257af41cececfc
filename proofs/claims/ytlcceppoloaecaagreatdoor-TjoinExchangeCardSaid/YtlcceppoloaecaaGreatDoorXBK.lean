/- Parts. No condition. -/
import Derived.Test.YtlcceppoloaecaaGreatDoorXBJ
set_option maxHeartbeats 8000000
set_option maxRecDepth 100000
set_option linter.unusedSimpArgs false
set_option linter.unusedVariables false
namespace Go.Proofs.YtlcceppoloaecaaGreatDoor
open _root_.ByteArray (empty)
open IntKind (i64)
open Go.RowKit Go.MapKept
theorem MY {α β ρ:Type}{l:List α}{body:(List β×Int)->Option (Step (List β×Int) ρ)}(g:α->β)(h1:∀ (c:List β) (i:Nat) x,l[i]?=some x->i<c.length->body (c,(i:Int))=some (.next (c.set i (g x),((i+1:Nat):Int))))(h2:∀ c:List β,body (c,((l.length:Nat):Int))=some (.exit (c,((l.length:Nat):Int)))) :
  ∀ (n i:Nat) (c:List β),c.length=l.length->i<=l.length->l.length-i<n->ao body n (c,(i:Int))=some (.inl (c.take i++(l.drop i).map g,((l.length:Nat):Int)))
 |0,i,c,_,_,h=>by omega
 |n+1,i,c,hc,hi,hn=>by
  rw[ao];by_cases OZ:i<l.length
  ·obtain⟨x,hx⟩:=gol_ OZ
   have e1:=(aq6.1 hx).2;rw[h1 c i x hx m0];show ao body n (c.set i (g x),((i+1:Nat):Int))=_;rw[MY g h1 h2 n (i+1) (c.set i (g x)) (by rw[List.length_set];exact hc) m0 m0,arG OZ,e1,ari];congr 3;rw[List.take_succ_eq_append_getElem (by rw[List.length_set];omega),List.getElem_set_self,arA,List.take_set_of_le (aro i)];rfl
  ·have:i=l.length:=m0
   subst this;rw[h2,asb,arn,arJ,<- hc,List.take_length]
def cS:Nat->Ex->Prop
 |0,_=>False
 |n+1,e=>e.args.length<=100000 /\ ∀ x∈e.args,cS n x
theorem iG:∀ {n m:Nat} {e:Ex},n<=m->cS n e->cS m e
 |0,_,_,_,h=>h.elim
 |n+1,0,_,h,_=>by omega
 |n+1,m+1,e,h,k=>⟨k.1,fun x hx=>iG m0 (k.2 x hx)⟩
def w_ (l:List Val):Val:=(l.find? fun v=>decide (v.kind≠0)).getD bI
theorem yB:∀ l:List Val,cB (ρ:=Val) (fun(_:Unit) (v:Val)=>some (if v.kind≠0 then .inr v else .inl ())) () l=some (match l.find? fun v=>decide (v.kind≠0)with|some v => .inr v|none => .inl ())
 |[]=>rfl
 |v::l=>by
  rw[cB];by_cases h:v.kind=0
  ·simp only[ne_eq,h,not_true_eq_false,if_false]
   rw[yB l,List.find?_cons_of_neg (by simp[h])]
  ·rw[List.find?_cons_of_pos (by simp[h])]
   simp[h]
theorem K5 (l:List Val)(hl:l.length<=100000):qB 23 l=some (w_ l):=by
 unfold qB;rw[show decide ((23:Int)=22)=false from rfl,aq7];rw[b6 (l:=l) (mk:=fun(_:Unit) i=>i) (f:=fun _ v=>some (if v.kind≠0 then .inr v else .inl ())) ?_ ?_ (by unfold fuel;omega) ()]
 ·rw[yB]
  unfold w_
  cases l.find? fun v=>decide (v.kind≠0)with
  |none=>exact congrArg (fun o:Option Val=>o.bind fun r=>some r) bS
  |some v=>rfl
 ·intro s i x hx
  have hi:=(aq6.1 hx).1;unfold qh;dsimp only;rw[aL hx,aq8,gn_ hx,wrapN m0];simp only[aq5];by_cases h:x.kind=0
  ·simp[h,oL]
  ·simp[h,oL]
 ·intro s
  unfold qh;dsimp only;rw[lF_,aq7]
theorem abP (l:List Val)(hl:l.length<=100000):(ao (pv l) fuel (0:Int)).bind lz=some (w_ l):=by
 rw[b6 (l:=l) (mk:=fun(_:Unit) i=>i) (f:=fun _ v=>some (if v.kind≠0 then .inr v else .inl ())) ?_ ?_ (by unfold fuel;omega) ()]
 ·rw[yB]
  unfold w_
  cases l.find? fun v=>decide (v.kind≠0)with
  |none=>exact congrArg (fun o:Option Val=>o.bind fun r=>some r) kq
  |some v=>rfl
 ·intro s i x hx
  have hi:=(aq6.1 hx).1;unfold pv;dsimp only;rw[aL hx,aq8,gn_ hx,wrapN m0];simp only[aq5];by_cases h:x.kind=0
  ·simp[h,oL]
  ·simp[h,oL]
 ·intro s
  unfold pv;dsimp only;rw[lF_,aq7]
theorem ak4 {l:List Val}(h:∀ v∈l,vF v=true):vF (w_ l)=true:=by
 unfold w_
 cases e:l.find? fun v=>decide (v.kind≠0)with
 |none=>exact kG
 |some v=>exact h v (List.mem_of_find?_eq_some e)
theorem oz {op:Int}{a b:Val}(h:VV a):vF (ei op a b)=true:=by
 unfold ei
 cases dV [a,b] 1 with
 |false=>exact kG
 |true=>exact(eV h.int).2
theorem am9 (a:Val):vF (Nl a)=true:=by
 unfold Nl
 cases dV [a] 1 with
 |false=>exact kG
 |true=>exact nM _
theorem anB (a b:Val):vF (K7 a b)=true:=by
 unfold K7
 cases dV [a,b] 2 with
 |false=>exact kG
 |true=>exact nM _
theorem anN (a:Val):vF (Kx a)=true:=by
 unfold Kx
 cases dV [a] 2 with
 |false=>exact kG
 |true=>exact nM _
theorem anW (r:Int)(a b c d:Val):vF (K_ r a b c d)=true:=by
 unfold K_
 cases dV [a,b,c,d] 1 with
 |false=>exact kG
 |true =>
  rw[aq8];split
  ·exact AM _
  ·exact kG
def lw (op k:Int)(l:List Val):Val :=
 if op=4 then wh (E9 (tF_ (ro l 0)))else if op=5 then wh (wK Gj l.tail (tF_ (ro l 0)))else if op=6 then wh (wK or3 l.tail (tF_ (ro l 0)))
 else if op=7\/op=8\/op=9\/op=10\/op=11\/op=12 then wh (q_ op (ro l 0) (ro l 1))
 else if op=18 then Nl (ro l 0)else if op=19 then K7 (ro l 0) (ro l 1)else if op=20 then Kx (ro l 0)else if op=21 then kI (decide ((ro l 0).kind=0))
 else if op=22 then(bif decide (tF_ (ro l 0)=2)then ro l 1 else ro l 2)else if op=23 then w_ l else if op=24 then K_ k (ro l 0) (ro l 1) (ro l 2) (ro l 3)
 else ei op (ro l 0) (ro l 1)
theorem aqD {α:Type}{l:List α}(h:l.length=1):∃ a,l=[a]:=match l,h with|[a],_=>⟨a,rfl⟩
theorem agE {α:Type}{l:List α}(h:l.length=2):∃ a b,l=[a,b]:=match l,h with|[a,b],_=>⟨a,b,rfl⟩
theorem ajZ {α:Type}{l:List α}(h:l.length=3):∃ a b c,l=[a,b,c]:=match l,h with|[a,b,c],_=>⟨a,b,c,rfl⟩
theorem aqN {α:Type}{l:List α}(h:l.length=4):∃ a b c d,l=[a,b,c,d]:=match l,h with|[a,b,c,d],_=>⟨a,b,c,d,rfl⟩
theorem ap' {α:Type}{l:List α}(h:1<=l.length):∃ a m,l=a::m:=match l,h with|a::m,_=>⟨a,m,rfl⟩
structure nS (op:Int)(l:List Val):Prop where
 lo:(jt op).1<=((l.length:Nat):Int)
 hi:((l.length:Nat):Int)<=(jt op).2
 len:l.length<=100000
 vf:∀ v∈l,vF v=true
theorem sh1 {op:Int}{l:List Val}(A:nS op l)(h:jt op=(1,1)):∃ a,l=[a]/\VV a:=by
 have h1:=A.lo;have h2:=A.hi;rw[h]at h1 h2;dsimp only at h1 h2;obtain⟨a,rfl⟩:=aqD (l:=l) m0;exact⟨a,rfl,ri (A.vf a m5)⟩
theorem BF {op:Int}{l:List Val}(A:nS op l)(h:jt op=(2,2)):∃ a b,l=[a,b]/\VV a/\VV b:=by
 have h1:=A.lo;have h2:=A.hi;rw[h]at h1 h2;dsimp only at h1 h2;obtain⟨a,b,rfl⟩:=agE (l:=l) m0;exact⟨a,b,rfl,ri (A.vf a m5),ri (A.vf b m5)⟩
theorem sh3 {op:Int}{l:List Val}(A:nS op l)(h:jt op=(3,3)):∃ a b c,l=[a,b,c]:=by
 have h1:=A.lo;have h2:=A.hi;rw[h]at h1 h2;dsimp only at h1 h2;exact ajZ (l:=l) m0
theorem sh4 {op:Int}{l:List Val}(A:nS op l)(h:jt op=(4,4)):∃ a b c d,l=[a,b,c,d]:=by
 have h1:=A.lo;have h2:=A.hi;rw[h]at h1 h2;dsimp only at h1 h2;exact aqN (l:=l) m0
theorem aeE {op:Int}{l:List Val}(A:nS op l)(h:1<=(jt op).1):∃ a m,l=a::m/\VV a/\m.length<=1000000:=by
 have h1:=A.lo;have h3:=A.len;obtain⟨a,m,rfl⟩:=ap' (l:=l) m0;exact⟨a,m,rfl,ri (A.vf a m5),by rw[arv]at h3;omega⟩
theorem aad (e:Ex)(row l:List Val)(i:Int)(A:nS e.op l)(ho:e.op=4\/e.op=5\/e.op=6\/e.op=7\/e.op=8\/e.op=9\/e.op=10\/e.op=11\/e.op=12\/e.op=13\/e.op=14\/e.op=15\/e.op=16\/e.op=17\/e.op=18\/e.op=19\/e.op=20\/e.op=21\/e.op=22\/e.op=23\/e.op=24):gER_K e row (.inl (l,i))=some (lw e.op e.int l):=by
 rcases ho with ho|ho|ho|ho|ho|ho|ho|ho|ho|ho|ho|ho|ho|ho|ho|ho|ho|ho|ho|ho|ho
 ·obtain⟨a,rfl,va⟩:=sh1 A (by rw[ho];rfl)
  have hv:lw 4 e.int [a]=wh (E9 (tF_ a)):=rfl;rw[ho,hv];unfold gER_K;dsimp only;simp only[ho,Int.reduceEq,sl9];rw[show aF [a] (0:Int)=some a from rfl,aq5,lV,aq5,xl (gF a),aq5,mX (qR _)];rfl
 ·obtain⟨a,m,rfl,va,hm⟩:=aeE A (by rw[ho];decide)
  have hv:lw 5 e.int (a::m)=wh (wK Gj m (tF_ a)):=rfl;rw[ho,hv];unfold gER_K;dsimp only;simp only[ho,Int.reduceEq,sl9];rw[D4 5 Gj Jn (fun a b ha hb=>by rw[show decide ((5:Int)=5)=true from rfl];exact ahK ha hb) a m hm];rfl
 ·obtain⟨a,m,rfl,va,hm⟩:=aeE A (by rw[ho];decide)
  have hv:lw 6 e.int (a::m)=wh (wK or3 m (tF_ a)):=rfl;rw[ho,hv];unfold gER_K;dsimp only;simp only[ho,Int.reduceEq,sl9];rw[D4 6 or3 abp (fun a b ha hb=>by rw[show decide ((6:Int)=5)=false from rfl];exact al2 ha hb) a m hm];rfl
 ·obtain⟨a,b,rfl,va,vb⟩:=BF A (by rw[ho];rfl)
  have hv:lw 7 e.int [a,b]=wh (q_ 7 a b):=rfl;rw[ho,hv];unfold gER_K;dsimp only;simp only[ho,Int.reduceEq,sl9];rw[show aF [a,b] (0:Int)=some a from rfl,aq5,show aF [a,b] (1:Int)=some b from rfl,aq5,gH,aq5,mX (g_ _ _ _)];rfl
 ·obtain⟨a,b,rfl,va,vb⟩:=BF A (by rw[ho];rfl)
  have hv:lw 8 e.int [a,b]=wh (q_ 8 a b):=rfl;rw[ho,hv];unfold gER_K;dsimp only;simp only[ho,Int.reduceEq,sl9];rw[show aF [a,b] (0:Int)=some a from rfl,aq5,show aF [a,b] (1:Int)=some b from rfl,aq5,gH,aq5,mX (g_ _ _ _)];rfl
 ·obtain⟨a,b,rfl,va,vb⟩:=BF A (by rw[ho];rfl)
  have hv:lw 9 e.int [a,b]=wh (q_ 9 a b):=rfl;rw[ho,hv];unfold gER_K;dsimp only;simp only[ho,Int.reduceEq,sl9];rw[show aF [a,b] (0:Int)=some a from rfl,aq5,show aF [a,b] (1:Int)=some b from rfl,aq5,gH,aq5,mX (g_ _ _ _)];rfl
 ·obtain⟨a,b,rfl,va,vb⟩:=BF A (by rw[ho];rfl)
  have hv:lw 10 e.int [a,b]=wh (q_ 10 a b):=rfl;rw[ho,hv];unfold gER_K;dsimp only;simp only[ho,Int.reduceEq,sl9];rw[show aF [a,b] (0:Int)=some a from rfl,aq5,show aF [a,b] (1:Int)=some b from rfl,aq5,gH,aq5,mX (g_ _ _ _)];rfl
 ·obtain⟨a,b,rfl,va,vb⟩:=BF A (by rw[ho];rfl)
  have hv:lw 11 e.int [a,b]=wh (q_ 11 a b):=rfl;rw[ho,hv];unfold gER_K;dsimp only;simp only[ho,Int.reduceEq,sl9];rw[show aF [a,b] (0:Int)=some a from rfl,aq5,show aF [a,b] (1:Int)=some b from rfl,aq5,gH,aq5,mX (g_ _ _ _)];rfl
 ·obtain⟨a,b,rfl,va,vb⟩:=BF A (by rw[ho];rfl)
  have hv:lw 12 e.int [a,b]=wh (q_ 12 a b):=rfl;rw[ho,hv];unfold gER_K;dsimp only;simp only[ho,Int.reduceEq,sl9];rw[show aF [a,b] (0:Int)=some a from rfl,aq5,show aF [a,b] (1:Int)=some b from rfl,aq5,gH,aq5,mX (g_ _ _ _)];rfl
 ·obtain⟨a,b,rfl,va,vb⟩:=BF A (by rw[ho];rfl)
  have hv:lw 13 e.int [a,b]=ei 13 a b:=rfl;rw[ho,hv];unfold gER_K;dsimp only;simp only[ho,Int.reduceEq,sl9];unfold ei;rw[kO _ _ m5,aq5]
  cases dV [a,b] 1 with
  |false=>exact congrArg (fun o:Option Val=>o.bind fun r=>some r) bS
  |true=>exact congrArg (fun o:Option Val=>o.bind fun r=>some r) (eV va.int).1
 ·obtain⟨a,b,rfl,va,vb⟩:=BF A (by rw[ho];rfl)
  have hv:lw 14 e.int [a,b]=ei 14 a b:=rfl;rw[ho,hv];unfold gER_K;dsimp only;simp only[ho,Int.reduceEq,sl9];unfold ei;rw[kO _ _ m5,aq5]
  cases dV [a,b] 1 with
  |false=>exact congrArg (fun o:Option Val=>o.bind fun r=>some r) bS
  |true=>exact congrArg (fun o:Option Val=>o.bind fun r=>some r) (eV va.int).1
 ·obtain⟨a,b,rfl,va,vb⟩:=BF A (by rw[ho];rfl)
  have hv:lw 15 e.int [a,b]=ei 15 a b:=rfl;rw[ho,hv];unfold gER_K;dsimp only;simp only[ho,Int.reduceEq,sl9];unfold ei;rw[kO _ _ m5,aq5]
  cases dV [a,b] 1 with
  |false=>exact congrArg (fun o:Option Val=>o.bind fun r=>some r) bS
  |true=>exact congrArg (fun o:Option Val=>o.bind fun r=>some r) (eV va.int).1
 ·obtain⟨a,b,rfl,va,vb⟩:=BF A (by rw[ho];rfl)
  have hv:lw 16 e.int [a,b]=ei 16 a b:=rfl;rw[ho,hv];unfold gER_K;dsimp only;simp only[ho,Int.reduceEq,sl9];unfold ei;rw[kO _ _ m5,aq5]
  cases dV [a,b] 1 with
  |false=>exact congrArg (fun o:Option Val=>o.bind fun r=>some r) bS
  |true=>exact congrArg (fun o:Option Val=>o.bind fun r=>some r) (eV va.int).1
 ·obtain⟨a,b,rfl,va,vb⟩:=BF A (by rw[ho];rfl)
  have hv:lw 17 e.int [a,b]=ei 17 a b:=rfl;rw[ho,hv];unfold gER_K;dsimp only;simp only[ho,Int.reduceEq,sl9];unfold ei;rw[kO _ _ m5,aq5]
  cases dV [a,b] 1 with
  |false=>exact congrArg (fun o:Option Val=>o.bind fun r=>some r) bS
  |true=>exact congrArg (fun o:Option Val=>o.bind fun r=>some r) (eV va.int).1
 ·obtain⟨a,rfl,va⟩:=sh1 A (by rw[ho];rfl)
  have hv:lw 18 e.int [a]=Nl a:=rfl;rw[ho,hv];unfold gER_K;dsimp only;simp only[ho,Int.reduceEq,sl9];unfold Nl;rw[kO _ _ m5,aq5]
  cases dV [a] 1 with
  |false=>exact congrArg (fun o:Option Val=>o.bind fun r=>some r) bS
  |true=>exact congrArg (fun o:Option Val=>o.bind fun r=>some r) (jc _)
 ·obtain⟨a,b,rfl,va,vb⟩:=BF A (by rw[ho];rfl)
  have hv:lw 19 e.int [a,b]=K7 a b:=rfl;rw[ho,hv];unfold gER_K;dsimp only;simp only[ho,Int.reduceEq,sl9];rw[ab3 va vb];rfl
 ·obtain⟨a,rfl,va⟩:=sh1 A (by rw[ho];rfl)
  have hv:lw 20 e.int [a]=Kx a:=rfl;rw[ho,hv];unfold gER_K;dsimp only;simp only[ho,Int.reduceEq,sl9];rw[aaW];rfl
 ·obtain⟨a,rfl,va⟩:=sh1 A (by rw[ho];rfl)
  have hv:lw 21 e.int [a]=kI (decide (a.kind=0)):=rfl;rw[ho,hv];unfold gER_K;dsimp only;simp only[ho,Int.reduceEq,sl9];rw[show aF [a] (0:Int)=some a from rfl,aq5,tw];rfl
 ·obtain⟨a,b,c,rfl⟩:=sh3 A (by rw[ho];rfl)
  have hv:lw 22 e.int [a,b,c]=(bif decide (tF_ a=2)then b else c):=rfl;rw[ho,hv];unfold gER_K;dsimp only;simp only[ho,Int.reduceEq,sl9];unfold qB;rw[show decide ((22:Int)=22)=true from rfl,aq8,show aF [a,b,c] (0:Int)=some a from rfl,aq5,lV,aq5]
  cases decide (tF_ a=2)<;>rfl
 ·obtain⟨a,m,rfl,va,hm⟩:=aeE A (by rw[ho];decide)
  have hv:lw 23 e.int (a::m)=w_ (a::m):=rfl;rw[ho,hv];unfold gER_K;dsimp only;simp only[ho,Int.reduceEq,sl9];rw[K5 _ A.len];rfl
 ·obtain⟨a,b,c,d,rfl⟩:=sh4 A (by rw[ho];rfl)
  have hv:lw 24 e.int [a,b,c,d]=K_ e.int a b c d:=rfl;rw[ho,hv];unfold gER_K;dsimp only;simp only[ho,Int.reduceEq,sl9];rw[KD];rfl
theorem ai' (e:Ex)(l:List Val)(i:Int)(A:nS e.op l)(hle:l.length=e.args.length)(ho:e.op=4\/e.op=5\/e.op=6\/e.op=7\/e.op=8\/e.op=9\/e.op=10\/e.op=11\/e.op=12\/e.op=13\/e.op=14\/e.op=15\/e.op=16\/e.op=17\/e.op=18\/e.op=19\/e.op=20\/e.op=21\/e.op=23\/e.op=24):bz e (.inl (l,i))=some (lw e.op e.int l):=by
 rcases ho with ho|ho|ho|ho|ho|ho|ho|ho|ho|ho|ho|ho|ho|ho|ho|ho|ho|ho|ho|ho
 ·obtain⟨a,rfl,va⟩:=sh1 A (by rw[ho];rfl)
  have hv:lw 4 e.int [a]=wh (E9 (tF_ a)):=rfl;rw[ho,hv];unfold bz;dsimp only;rw[aq_ hle,aq8];simp only[ho,Int.reduceEq,sl9];rw[acg];rfl
 ·obtain⟨a,m,rfl,va,hm⟩:=aeE A (by rw[ho];decide)
  have hv:lw 5 e.int (a::m)=wh (wK Gj m (tF_ a)):=rfl;rw[ho,hv];unfold bz;dsimp only;rw[aq_ hle,aq8];simp only[ho,Int.reduceEq,sl9];rw[abh a m hm];rfl
 ·obtain⟨a,m,rfl,va,hm⟩:=aeE A (by rw[ho];decide)
  have hv:lw 6 e.int (a::m)=wh (wK or3 m (tF_ a)):=rfl;rw[ho,hv];unfold bz;dsimp only;rw[aq_ hle,aq8];simp only[ho,Int.reduceEq,sl9];rw[af6 a m hm];rfl
 ·obtain⟨a,b,rfl,va,vb⟩:=BF A (by rw[ho];rfl)
  have hv:lw 7 e.int [a,b]=wh (q_ 7 a b):=rfl;rw[ho,hv];unfold bz;dsimp only;rw[aq_ hle,aq8];simp only[ho,Int.reduceEq,sl9];rw[show aF [a,b] (0:Int)=some a from rfl,aq5,show aF [a,b] (1:Int)=some b from rfl,aq5,ez,aq5,jd (g_ _ _ _)];rfl
 ·obtain⟨a,b,rfl,va,vb⟩:=BF A (by rw[ho];rfl)
  have hv:lw 8 e.int [a,b]=wh (q_ 8 a b):=rfl;rw[ho,hv];unfold bz;dsimp only;rw[aq_ hle,aq8];simp only[ho,Int.reduceEq,sl9];rw[show aF [a,b] (0:Int)=some a from rfl,aq5,show aF [a,b] (1:Int)=some b from rfl,aq5,ez,aq5,jd (g_ _ _ _)];rfl
 ·obtain⟨a,b,rfl,va,vb⟩:=BF A (by rw[ho];rfl)
  have hv:lw 9 e.int [a,b]=wh (q_ 9 a b):=rfl;rw[ho,hv];unfold bz;dsimp only;rw[aq_ hle,aq8];simp only[ho,Int.reduceEq,sl9];rw[show aF [a,b] (0:Int)=some a from rfl,aq5,show aF [a,b] (1:Int)=some b from rfl,aq5,ez,aq5,jd (g_ _ _ _)];rfl
 ·obtain⟨a,b,rfl,va,vb⟩:=BF A (by rw[ho];rfl)
  have hv:lw 10 e.int [a,b]=wh (q_ 10 a b):=rfl;rw[ho,hv];unfold bz;dsimp only;rw[aq_ hle,aq8];simp only[ho,Int.reduceEq,sl9];rw[show aF [a,b] (0:Int)=some a from rfl,aq5,show aF [a,b] (1:Int)=some b from rfl,aq5,ez,aq5,jd (g_ _ _ _)];rfl
 ·obtain⟨a,b,rfl,va,vb⟩:=BF A (by rw[ho];rfl)
  have hv:lw 11 e.int [a,b]=wh (q_ 11 a b):=rfl;rw[ho,hv];unfold bz;dsimp only;rw[aq_ hle,aq8];simp only[ho,Int.reduceEq,sl9];rw[show aF [a,b] (0:Int)=some a from rfl,aq5,show aF [a,b] (1:Int)=some b from rfl,aq5,ez,aq5,jd (g_ _ _ _)];rfl
 ·obtain⟨a,b,rfl,va,vb⟩:=BF A (by rw[ho];rfl)
  have hv:lw 12 e.int [a,b]=wh (q_ 12 a b):=rfl;rw[ho,hv];unfold bz;dsimp only;rw[aq_ hle,aq8];simp only[ho,Int.reduceEq,sl9];rw[show aF [a,b] (0:Int)=some a from rfl,aq5,show aF [a,b] (1:Int)=some b from rfl,aq5,ez,aq5,jd (g_ _ _ _)];rfl
 ·obtain⟨a,b,rfl,va,vb⟩:=BF A (by rw[ho];rfl)
  have hv:lw 13 e.int [a,b]=ei 13 a b:=rfl;rw[ho,hv];unfold bz;dsimp only;rw[aq_ hle,aq8];simp only[ho,Int.reduceEq,sl9];rw[mr va m0];rfl
 ·obtain⟨a,b,rfl,va,vb⟩:=BF A (by rw[ho];rfl)
  have hv:lw 14 e.int [a,b]=ei 14 a b:=rfl;rw[ho,hv];unfold bz;dsimp only;rw[aq_ hle,aq8];simp only[ho,Int.reduceEq,sl9];rw[mr va m0];rfl
 ·obtain⟨a,b,rfl,va,vb⟩:=BF A (by rw[ho];rfl)
  have hv:lw 15 e.int [a,b]=ei 15 a b:=rfl;rw[ho,hv];unfold bz;dsimp only;rw[aq_ hle,aq8];simp only[ho,Int.reduceEq,sl9];rw[mr va m0];rfl
 ·obtain⟨a,b,rfl,va,vb⟩:=BF A (by rw[ho];rfl)
  have hv:lw 16 e.int [a,b]=ei 16 a b:=rfl;rw[ho,hv];unfold bz;dsimp only;rw[aq_ hle,aq8];simp only[ho,Int.reduceEq,sl9];rw[mr va m0];rfl
 ·obtain⟨a,b,rfl,va,vb⟩:=BF A (by rw[ho];rfl)
  have hv:lw 17 e.int [a,b]=ei 17 a b:=rfl;rw[ho,hv];unfold bz;dsimp only;rw[aq_ hle,aq8];simp only[ho,Int.reduceEq,sl9];rw[mr va m0];rfl
 ·obtain⟨a,rfl,va⟩:=sh1 A (by rw[ho];rfl)
  have hv:lw 18 e.int [a]=Nl a:=rfl;rw[ho,hv];unfold bz;dsimp only;rw[aq_ hle,aq8];simp only[ho,Int.reduceEq,sl9];rw[abW];rfl
 ·obtain⟨a,b,rfl,va,vb⟩:=BF A (by rw[ho];rfl)
  have hv:lw 19 e.int [a,b]=K7 a b:=rfl;rw[ho,hv];unfold bz;dsimp only;rw[aq_ hle,aq8];simp only[ho,Int.reduceEq,sl9];rw[abw va vb];rfl
 ·obtain⟨a,rfl,va⟩:=sh1 A (by rw[ho];rfl)
  have hv:lw 20 e.int [a]=Kx a:=rfl;rw[ho,hv];unfold bz;dsimp only;rw[aq_ hle,aq8];simp only[ho,Int.reduceEq,sl9];rw[abU va];rfl
 ·obtain⟨a,rfl,va⟩:=sh1 A (by rw[ho];rfl)
  have hv:lw 21 e.int [a]=kI (decide (a.kind=0)):=rfl;rw[ho,hv];unfold bz;dsimp only;rw[aq_ hle,aq8];simp only[ho,Int.reduceEq,sl9];rw[show aF [a] (0:Int)=some a from rfl,aq5,I4];rfl
 ·obtain⟨a,m,rfl,va,hm⟩:=aeE A (by rw[ho];decide)
  have hv:lw 23 e.int (a::m)=w_ (a::m):=rfl;rw[ho,hv];unfold bz;dsimp only;rw[aq_ hle,aq8];simp only[ho,Int.reduceEq,sl9];exact abP _ A.len
 ·obtain⟨a,b,c,d,rfl⟩:=sh4 A (by rw[ho];rfl)
  have hv:lw 24 e.int [a,b,c,d]=K_ e.int a b c d:=rfl;rw[ho,hv];unfold bz;dsimp only;rw[aq_ hle,aq8];simp only[ho,Int.reduceEq,sl9];rw[Nr];rfl
theorem apy (k:Int){op:Int}{l:List Val}(A:nS op l)(ho:op=4\/op=5\/op=6\/op=7\/op=8\/op=9\/op=10\/op=11\/op=12\/op=13\/op=14\/op=15\/op=16\/op=17\/op=18\/op=19\/op=20\/op=21\/op=22\/op=23\/op=24):vF (lw op k l)=true:=by
 rcases ho with rfl|rfl|rfl|rfl|rfl|rfl|rfl|rfl|rfl|rfl|rfl|rfl|rfl|rfl|rfl|rfl|rfl|rfl|rfl|rfl|rfl
 ·exact qO _
 ·exact qO _
 ·exact qO _
 ·exact qO _
 ·exact qO _
 ·exact qO _
 ·exact qO _
 ·exact qO _
 ·exact qO _
 ·have Pj:=A.lo
  have Pq:=A.hi;rw[apf]at Pj Pq;dsimp only at Pj Pq;obtain⟨a,b,rfl⟩:=agE (l:=l) m0;exact oz (ri (A.vf a m5))
 ·have Pj:=A.lo
  have Pq:=A.hi;rw[aoq]at Pj Pq;dsimp only at Pj Pq;obtain⟨a,b,rfl⟩:=agE (l:=l) m0;exact oz (ri (A.vf a m5))
 ·have Pj:=A.lo
  have Pq:=A.hi;rw[aox]at Pj Pq;dsimp only at Pj Pq;obtain⟨a,b,rfl⟩:=agE (l:=l) m0;exact oz (ri (A.vf a m5))
 ·have Pj:=A.lo
  have Pq:=A.hi;rw[apb]at Pj Pq;dsimp only at Pj Pq;obtain⟨a,b,rfl⟩:=agE (l:=l) m0;exact oz (ri (A.vf a m5))
 ·have Pj:=A.lo
  have Pq:=A.hi;rw[aoy]at Pj Pq;dsimp only at Pj Pq;obtain⟨a,b,rfl⟩:=agE (l:=l) m0;exact oz (ri (A.vf a m5))
 ·exact am9 _
 ·exact anB _ _
 ·exact anN _
 ·exact AM _
 ·have Pj:=A.lo
  have Pq:=A.hi;rw[anF]at Pj Pq;dsimp only at Pj Pq;obtain⟨a,b,c,rfl⟩:=ajZ (l:=l) m0;show vF (bif decide (tF_ a=2)then b else c)=true
  cases decide (tF_ a=2)
  ·exact A.vf c m5
  ·exact A.vf b m5
 ·exact ak4 A.vf
 ·exact anW _ _ _ _ _
theorem aei {l:List Val}{i:Nat}{x:Val}(h:l[i]?=some x):ro l (i:Int)=x:=by
 unfold ro;rw[if_pos m0];show(l[i]?).getD bI=x;rw[h];rfl
theorem IL (row:List Val):∀ (n:Nat) (e:Ex),cS n e ->∃ v,dd n e row=some v/\sS n e row=some v/\vF v=true
 |0,_,h=>h.elim
 |n+1,e,h=>by
  have hx:∀ x∈e.args,dd n x row=some ((dd n x row).getD bI)/\sS n x row=some ((dd n x row).getD bI)/\vF ((dd n x row).getD bI)=true:=by
   intro x hx;obtain⟨v,h1,h2,h3⟩:=IL row n x (h.2 x hx);rw[h1];exact⟨rfl,h2,h3⟩
  generalize hg:(fun x=>(dd n x row).getD bI)=g at hx;have Q2:∀ x∈e.args,dd n x row=some (g x)/\sS n x row=some (g x)/\vF (g x)=true:=by subst hg;exact hx
  show ∃ v,ji (dd n) e row=some v/\yl (sS n) e row=some v/\vF v=true;have hR:ji (dd n) e row=(bif fU e then gER_K e row (.inl (e.args.map g,((e.args.length:Nat):Int)))else some bI):=by
   unfold ji;rw[m_ h.1,aq5,bS]
   cases fU e with
   |false=>rfl
   |true =>
    rw[Bool.not_true,aq7,aq8];have:=bM (l:=e.args) (body:=dx e row (dd n)) (fun x=>[g x]) 4398046511104 ?_ ?_ (by unfold fuel;have:=h.1;omega) [] ?_
    ·rw[this,ara,<- List.map_eq_flatMap];rfl
    ·intro s i x O0 hb
     have hi:=(aq6.1 O0).1;have hlen:=h.1;unfold dx;dsimp only;rw[aL O0,aq8,gn_ O0,wrapN m0,aq5,(Q2 x (arb O0)).1,aq5,aq_ (show s.length+1<=4398046511104 from hb),aq8]
    ·intro s
     unfold dx;dsimp only;rw[lF_,aq7]
    ·have:=h.1
     rw[<- List.map_eq_flatMap,arj];simp;omega
  have hP:yl (sS n) e row=(bif fU e then(if e.op=1 then some e.v else if e.op=2 then some (B6 (ro row e.int))else if e.op=22 then some (lw 22 e.int (e.args.map g))else bz e (.inl (e.args.map g,((e.args.length:Nat):Int))))else some bI):=by
   unfold yl;rw[DF h.1,aq5,kq]
   cases hf:fU e with
   |false=>rfl
   |true =>
    rw[Bool.not_true,aq7,aq8];by_cases o1:e.op=1
    ·rw[aq_ o1,aq8,if_pos o1]
    rw[aq9 o1,aq7,if_neg o1];by_cases o2:e.op=2
    ·rw[aq_ o2,aq8,if_pos o2,aca];rfl
    rw[aq9 o2,aq7,if_neg o2];by_cases o3:e.op=22
    ·rw[aq_ o3,aq8,if_pos o3]
     obtain⟨_,Pj,Pq,_⟩:=l7 h.1 hf;rw[o3,anF]at Pj Pq;dsimp only at Pj Pq;obtain⟨a,b,c,ha⟩:=ajZ (l:=e.args) m0;rw[ha]at Q2 ⊢;unfold BH;rw[show aF [a,b,c] (0:Int)=some a from rfl,show aF [a,b,c] (1:Int)=some b from rfl,show aF [a,b,c] (2:Int)=some c from rfl];simp only[aq5];rw[(Q2 a m5).2.1,aq5,iv,(Q2 b m5).2.1,(Q2 c m5).2.1];show _=some (bif decide (tF_ (g a)=2)then g b else g c);simp only[aq5]
     cases decide (tF_ (g a)=2)<;>rfl
    ·rw[aq9 o3,aq7,if_neg o3]
     have hlen:=h.1;rw[aq_ (show(0:Int)<=((e.args.length:Nat):Int)by omega),aq_ (show(32:Int)*((e.args.length:Nat):Int)<=281474976710656 by omega),aq_ (show((e.args.length:Nat):Int)<=9223372036854775807 by omega),aq8,aq8,aq8];have:=MY (l:=e.args) (body:=oQ e row (sS n)) g ?_ ?_ fuel 0 (List.replicate e.args.length ⟨0,0,empty⟩) m5 (aru _) (by unfold fuel;omega)
     ·rw[show((0:Nat):Int)=0 from rfl]at this
      rw[this,List.take_zero,ara,List.drop_zero];rfl
     ·intro c i x O0 hb
      have hi:=(aq6.1 O0).1;unfold oQ;dsimp only;rw[aL O0,aq8,gn_ O0,wrapN m0,aq5,(Q2 x (arb O0)).2.1,aq5,aq_ (show(0:Int)<=(i:Int)by omega),aq8,aq8,show 0+((i:Int)).toNat=i by omega,aq_ hb,aq8]
     ·intro c
      unfold oQ;dsimp only;rw[lF_,aq7]
  rw[hR,hP]
  cases hf:fU e with
  |false=>exact⟨_,rfl,rfl,kG⟩
  |true =>
   rw[aq8,aq8];obtain⟨XU,Pj,Pq,SD⟩:=l7 h.1 hf;by_cases o1:e.op=1
   ·have hv:=Dh o1 SD
    refine⟨e.v,?_,by rw[if_pos o1],hv⟩;unfold gER_K;dsimp only;rw[aq_ o1,aq8,zU e row o1 hv];rfl
   by_cases o2:e.op=2
   ·refine⟨B6 (ro row e.int),?_,by rw[if_neg o1,if_pos o2],nM _⟩
    unfold gER_K;dsimp only;rw[aq9 o1,aq7,aq_ o2,aq8,HK e row o2];rfl
   have A:nS e.op (e.args.map g):=by
    refine⟨by rw[arj];exact Pj,by rw[arj];exact Pq,by rw[arj];exact h.1,fun v hv=>?_⟩;obtain⟨x,O0,rfl⟩:=arK.1 hv;exact(Q2 x O0).2.2
   have W2:e.op=4\/e.op=5\/e.op=6\/e.op=7\/e.op=8\/e.op=9\/e.op=10\/e.op=11\/e.op=12\/e.op=13\/e.op=14\/e.op=15\/e.op=16\/e.op=17\/e.op=18\/e.op=19\/e.op=20\/e.op=21\/e.op=22\/e.op=23\/e.op=24:=m0
   refine⟨lw e.op e.int (e.args.map g),aad e row _ _ A W2,?_,apy _ A W2⟩;rw[if_neg o1,if_neg o2];by_cases o3:e.op=22
   ·rw[if_pos o3,o3]
   ·rw[if_neg o3]
    exact ai' e _ _ A (by rw[arj]) m0
def tj (a_l:(List Int))(Q0:Int):(Int)->Option (Step (Int) (Bool)):=fun s=>match s with
 |i_1=>bif (decide (i_1<((a_l.length:Nat):Int)))then(aF a_l i_1).bind fun R_=>bif (decide (R_≠Q0))then bif (decide (R_≠(0:Int)))then some (.ret false)else
 some (.next (i64.wrap (i_1+(1:Int))))else
 some (.next (i64.wrap (i_1+(1:Int))))else
 some (.exit i_1)
def agh:Sum (Int) (Bool)->Option ((Bool))
 |.inl i_1=>some true
 |.inr q=>some q
def f_ (a_l:(List Int))(Q0:Int):Option (Bool):=(ao (tj a_l Q0) fuel (0:Int)).bind (agh)
instance gAll11_ok {a_l : (List Int)} {Q0 : Int} {r : Bool} : OkC (f_ a_l Q0 = some r) (PTz 235 [.one (.lst (a_l.map (fun x => [AC.int .i64 x]))), .one (.int .i64 Q0)] (.val (.one (.bool r)))) := .mk fun H => by
 unfold f_ at H;refine po_ Tryz.func235 Tryz.ntmps235 ?_;refine aY ?_;refine alM_ (fun s:Int=>match s with|i_1=>[(0,.one (.c (.lst (a_l.map (fun x=>[AC.int .i64 x]))))),(1,.one (.c (.int .i64 Q0))),(5,.one (.c (.int .i64 i_1)))]) (fun s=>match s with|i_1=>[]) H (fun _=>aru _)
  (fm_ bG [] rfl a8 trivial) ?_
 rintro i_1 st1 OU PM;unfold tj at OU;dsimp only at OU ⊢;rcases aj OU with⟨QG,OU⟩|⟨QG,OU⟩
 ·obtain⟨R_,SN,i1,RL,OU⟩:=bu (f:=(fun x=>[AC.int .i64 x])) OU
  rcases aj OU with⟨Qk,OU⟩|⟨Qk,OU⟩
  ·rcases aj OU with⟨RD,OU⟩|⟨RD,OU⟩
   ·exact bA OU PM
   cases OU;refine aY ?_;exact⟨_,rfl,fm_ bG [] rfl a8 trivial⟩
  cases OU;refine aY ?_;exact⟨_,rfl,fm_ bG [] rfl a8 trivial⟩
 exact bA OU PM
def Db (a_l:(List Int)):(Int×Int)->Option (Step (Int×Int) (Int×Bool)):=fun s=>match s with
 |(VC,i_2)=>bif (decide (i_2<((a_l.length:Nat):Int)))then(aF a_l i_2).bind fun Qf=>bif (decide (Qf=(0:Int)))then some (.next (VC,(i64.wrap (i_2+(1:Int)))))else
 bif (decide (VC≠(0:Int)))then bif (decide (VC≠Qf))then some (.ret ((0:Int),false))else
 some (.next (Qf,(i64.wrap (i_2+(1:Int)))))else
 some (.next (Qf,(i64.wrap (i_2+(1:Int)))))else
 some (.exit (VC,i_2))
def aaz:Sum (Int×Int) (Int×Bool)->Option ((Int×Bool))
 |.inl (VC,i_2)=>some (VC,true)
 |.inr q=>some q
def ib (a_l:(List Int)):Option (Int×Bool):=(ao (Db a_l) fuel ((0:Int),(0:Int))).bind (aaz)
instance gJoin11_ok {a_l : (List Int)} {r : Int × Bool} : OkC (ib a_l = some r) (PTz 236 [.one (.lst (a_l.map (fun x => [AC.int .i64 x])))] (.tup [.one (.int .i64 r.1), .one (.bool r.2)])) := .mk fun H => by
 unfold ib at H;refine po_ Tryz.func236 Tryz.ntmps236 ?_;refine aY ?_;refine alM_ (fun s:Int×Int=>match s with|(VC,i_2)=>[(0,.one (.c (.lst (a_l.map (fun x=>[AC.int .i64 x]))))),(4,.one (.c (.int .i64 VC))),(5,.one (.c (.int .i64 i_2)))]) (fun s=>match s with|(VC,i_2)=>[]) H (fun _=>aru _)
  (fm_ bG [] rfl a8 trivial) ?_
 rintro⟨VC,i_2⟩ st1 OU PM;unfold Db at OU;dsimp only at OU ⊢;rcases aj OU with⟨QH,OU⟩|⟨QH,OU⟩
 ·obtain⟨Qf,SN,i1,RL,OU⟩:=bu (f:=(fun x=>[AC.int .i64 x])) OU
  rcases aj OU with⟨RD,OU⟩|⟨RD,OU⟩
  ·cases OU
   refine aY ?_;exact⟨_,rfl,fm_ bG [] rfl a8 trivial⟩
  rcases aj OU with⟨RF,OU⟩|⟨RF,OU⟩
  ·rcases aj OU with⟨SO,OU⟩|⟨SO,OU⟩
   ·exact bA OU PM
   cases OU;refine aY ?_;exact⟨_,rfl,fm_ bG [] rfl a8 trivial⟩
  cases OU;refine aY ?_;exact⟨_,rfl,fm_ bG [] rfl a8 trivial⟩
 exact bA OU PM
def gRs11 (OV:Ex)(a_l:(List Int))(a_kinds:(List Int)):Option (Int×Bool):=bif (decide (OV.op=(1:Int)))then some (OV.v.kind,true)else
 bif (decide (OV.op=(2:Int)))then(aF a_kinds OV.int).bind fun R_=>some (R_,true)else
 bif (decide (OV.op=(4:Int)))then(f_ a_l (3:Int)).bind fun QR=>some ((3:Int),QR)else
 bif (decide (OV.op=(5:Int)))then(f_ a_l (3:Int)).bind fun Si=>some ((3:Int),Si)else
 bif (decide (OV.op=(6:Int)))then(f_ a_l (3:Int)).bind fun SC=>some ((3:Int),SC)else
 bif (decide (OV.op=(7:Int)))then(ib a_l).bind fun QW=>some ((3:Int),QW.2)else
 bif (decide (OV.op=(8:Int)))then(ib a_l).bind fun Qc=>some ((3:Int),Qc.2)else
 bif (decide (OV.op=(9:Int)))then(ib a_l).bind fun QX=>some ((3:Int),QX.2)else
 bif (decide (OV.op=(10:Int)))then(ib a_l).bind fun Sj=>some ((3:Int),Sj.2)else
 bif (decide (OV.op=(11:Int)))then(ib a_l).bind fun Rt=>some ((3:Int),Rt.2)else
 bif (decide (OV.op=(12:Int)))then(ib a_l).bind fun QZ=>some ((3:Int),QZ.2)else
 bif (decide (OV.op=(13:Int)))then(f_ a_l (1:Int)).bind fun Sr=>some ((1:Int),Sr)else
 bif (decide (OV.op=(14:Int)))then(f_ a_l (1:Int)).bind fun Td=>some ((1:Int),Td)else
 bif (decide (OV.op=(15:Int)))then(f_ a_l (1:Int)).bind fun Ux=>some ((1:Int),Ux)else
 bif (decide (OV.op=(16:Int)))then(f_ a_l (1:Int)).bind fun Qx=>some ((1:Int),Qx)else
 bif (decide (OV.op=(17:Int)))then(f_ a_l (1:Int)).bind fun XT=>some ((1:Int),XT)else
 bif (decide (OV.op=(18:Int)))then(f_ a_l (1:Int)).bind fun V8=>some ((1:Int),V8)else
 bif (decide (OV.op=(19:Int)))then(f_ a_l (2:Int)).bind fun Uy=>some ((2:Int),Uy)else
 bif (decide (OV.op=(20:Int)))then(f_ a_l (2:Int)).bind fun r_37=>some ((1:Int),r_37)else
 bif (decide (OV.op=(21:Int)))then some ((3:Int),true)else
 bif (decide (OV.op=(22:Int)))then(gq a_l (1:Int) ((a_l.length:Nat):Int)).bind fun ZQ=>(ib ZQ).bind fun Uz=>bif Uz.2 then(gq a_l (0:Int) (1:Int)).bind fun ZR=>(f_ ZR (3:Int)).bind fun Vo=>some (Uz.1,Vo)else
 some (Uz.1,false)else
 bif (decide (OV.op=(23:Int)))then(ib a_l).bind fun TU=>some (TU.1,TU.2)else
 (f_ a_l (1:Int)).bind fun r_47=>some ((3:Int),r_47)
instance gResult11_ok {OV : Ex} {a_l : (List Int)} {a_kinds : (List Int)} {r : Int × Bool} : OkC (gRs11 OV a_l a_kinds = some r) (PTz 201 [.agg (tE OV), .one (.lst (a_l.map (fun x => [AC.int .i64 x]))), .one (.lst (a_kinds.map (fun x => [AC.int .i64 x])))] (.tup [.one (.int .i64 r.1), .one (.bool r.2)])) := .mk fun H => by
 unfold gRs11 at H;rw[ay OV];refine po_ Tryz.func201 Tryz.ntmps201 ?_;rcases aj H with⟨RE,H⟩|⟨RE,H⟩
 ·exact az H
 rcases aj H with⟨QG,H⟩|⟨QG,H⟩
 ·exact az H
 refine aY ?_;rcases aj H with⟨Qk,H⟩|⟨Qk,H⟩
 ·exact az H
 rcases aj H with⟨RF,H⟩|⟨RF,H⟩
 ·exact az H
 rcases aj H with⟨S7,H⟩|⟨S7,H⟩
 ·exact az H
 refine aY ?_;rcases aj H with⟨Ql,H⟩|⟨Ql,H⟩
 ·exact az H
 rcases aj H with⟨RX,H⟩|⟨RX,H⟩
 ·exact az H
 rcases aj H with⟨Qh,H⟩|⟨Qh,H⟩
 ·exact az H
 refine aY ?_;rcases aj H with⟨Vb,H⟩|⟨Vb,H⟩
 ·exact az H
 rcases aj H with⟨Rq,H⟩|⟨Rq,H⟩
 ·exact az H
 rcases aj H with⟨TM,H⟩|⟨TM,H⟩
 ·exact az H
 refine aY ?_;rcases aj H with⟨TV,H⟩|⟨TV,H⟩
 ·exact az H
 rcases aj H with⟨TR,H⟩|⟨TR,H⟩
 ·exact az H
 rcases aj H with⟨XN,H⟩|⟨XN,H⟩
 ·exact az H
 refine aY ?_;rcases aj H with⟨XR,H⟩|⟨XR,H⟩
 ·exact az H
 rcases aj H with⟨Xx,H⟩|⟨Xx,H⟩
 ·exact az H
 rcases aj H with⟨q_32,H⟩|⟨q_32,H⟩
 ·exact az H
 refine aY ?_;rcases aj H with⟨Xy,H⟩|⟨Xy,H⟩
 ·exact az H
 rcases aj H with⟨XA,H⟩|⟨XA,H⟩
 ·exact az H
 rcases aj H with⟨XB,H⟩|⟨XB,H⟩
 ·exact az H
 refine aY ?_;rcases aj H with⟨Vj,H⟩|⟨Vj,H⟩
 ·obtain⟨ZQ,u19,H⟩:=bd_ H
  obtain⟨⟨u19a,u19b,u19c⟩,u19⟩:=cX u19;have ZS:=wS (f:=(fun x=>[AC.int .i64 x])) u19;obtain⟨Uz,ZL,H⟩:=bd_ H;replace ZL:=gJoin11_ok ZL;rcases aj H with⟨XD,H⟩|⟨XD,H⟩
  ·obtain⟨ZR,u21,H⟩:=bd_ H
   obtain⟨⟨u21a,u21b,u21c⟩,u21⟩:=cX u21;have u21x:=wS (f:=(fun x=>[AC.int .i64 x])) u21;obtain⟨Vo,ZM,H⟩:=bd_ H;replace ZM:=gAll11_ok ZM
   cases H
   repeat' (first|refine gs_ ?_|rw[ZS]|rw[u21x]|rw[show((0:Nat):Int)=0 from rfl])
   refine a6 (bj rfl ?_ ?_)
   ·repeat' (first|exact t7|rfl|exact arh rfl|omega|apply And.intro)
   ·first|rfl|(simp only[ark,ari,arn,ara]<;>rfl)
  cases H
  repeat' (first|refine gs_ ?_|rw[ZS]|rw[show((0:Nat):Int)=0 from rfl])
  refine a6 (bj rfl ?_ ?_)
  ·repeat' (first|exact t7|rfl|exact arh rfl|omega|apply And.intro)
  ·first|rfl|(simp only[ark,ari,arn,ara]<;>rfl)
 exact az H
def dm (OV:Ex)(rec:Ex->Option Int):(Int×Int)->Option (Step (Int×Int) (Int)):=fun s=>match s with
 |(Q_,i_2)=>bif (decide (i_2<((OV.args.length:Nat):Int)))then(aF OV.args i_2).bind fun Qf=>(rec Qf).bind fun QR=>some (.next ((zL Q_ QR),(i64.wrap (i_2+(1:Int)))))else
 some (.exit (Q_,i_2))
def ws:Sum (Int×Int) (Int)->Option ((Int))
 |.inl (Q_,i_2)=>some (i64.wrap (Q_+(1:Int)))
 |.inr q=>some q
def po (rec:Ex->Option Int)(OV:Ex):Option (Int):=(ao (dm OV rec) fuel ((0:Int),(0:Int))).bind (ws)
theorem J1 {rec:Ex->Option Int}  (O_:∀ {x:Ex} {r:Int},rec x=some r->PTz 141 [.agg (tE x)] (.val (.one (.int .i64 r)))){OV:Ex}{r:Int}(H:po rec OV=some r):PTz 141 [.agg (tE OV)] (.val (.one (.int .i64 r))):=by
 unfold po at H;rw[ay OV];refine po_ Tryz.func141 Tryz.ntmps141 ?_;refine aY ?_;refine alM_ (fun s:Int×Int=>match s with|(Q_,i_2)=>[(1,.one (.ptr 0 0)),(3,.one (.c (.int .i64 Q_))),(4,.one (.c (.int .i64 i_2)))]) (fun s=>match s with|(Q_,i_2)=>[.box [.c (.int .i64 OV.op),.c (.int .i64 OV.int),.c (.int .i64 OV.v.kind),.c (.int .i64 OV.v.int),.c (.str OV.v.text),.c (.str OV.nm),.c (.lst (OV.args.map tE))]]) H (fun _=>aru _)
  (fm_ bG [] rfl a8 cm) ?_
 rintro⟨Q_,i_2⟩ st1 OU PM;unfold dm at OU;dsimp only at OU ⊢;rcases aj OU with⟨QH,OU⟩|⟨QH,OU⟩
 ·obtain⟨Qf,SN,i1,RL,OU⟩:=bu (f:=tE) OU
  simp only[ark,ari,arn,ara,ay]at RL;obtain⟨QR,c2,OU⟩:=bd_ OU;replace c2:=O_ c2
  try simp only[ark,ari,arn,ara,ay]at c2
  cases OU;refine aY ?_;exact⟨_,rfl,fm_ bG [] rfl a8 cm⟩
 exact bA OU PM
def ja:Nat->Ex->Option Int
 |0,_=>none
 |n+1,x=>po (ja n) x
theorem Ac:∀ (n:Nat) {x:Ex} {r:Int},ja n x=some r->PTz 141 [.agg (tE x)] (.val (.one (.int .i64 r)))
 |0,_,_,h=>nomatch h
 |n+1,_,_,h=>J1 (Ac n) h
def kY (OV:Ex)(a_kinds:(List Int))(rec:Ex->List Int->Option (Int×Int)):((List Int)×Int)->Option (Step ((List Int)×Int) (Int×Int)):=fun s=>match s with
 |(VD,Ws)=>bif (decide (Ws<((OV.args.length:Nat):Int)))then(aF OV.args Ws).bind fun RY=>(rec RY a_kinds).bind fun P7=>bif (decide (P7.2≠(0:Int)))then some (.ret ((0:Int),P7.2))else
 bif (decide (VD.length+1<=17592186044416))then(some (.next ((VD++[P7.1]),(i64.wrap (Ws+(1:Int))))))else none else
 some (.exit (VD,Ws))
def wU (OV:Ex)(a_kinds:(List Int)):Sum ((List Int)×Int) (Int×Int)->Option ((Int×Int))
 |.inl (VD,Ws)=>(gRs11 OV VD a_kinds).bind fun QO=>bif (!QO.2)then some ((0:Int),(7:Int))else
 some (QO.1,(0:Int))
 |.inr q=>some q
def br (OV:Ex)(a_kinds:(List Int))(rec:Ex->List Int->Option (Int×Int)):((List Int)×Int)->Option (Step ((List Int)×Int) (Int×Int)):=fun s=>match s with
 |(Su,SU)=>bif (decide (SU<((OV.args.length:Nat):Int)))then(aF OV.args SU).bind fun S8=>(rec S8 a_kinds).bind fun QY=>bif (decide (QY.2≠(0:Int)))then some (.ret ((0:Int),QY.2))else
 bif (decide (Su.length+1<=17592186044416))then(some (.next ((Su++[QY.1]),(i64.wrap (SU+(1:Int))))))else none else
 some (.exit (Su,SU))
def pS (OV:Ex)(a_kinds:(List Int)):Sum ((List Int)×Int) (Int×Int)->Option ((Int×Int))
 |.inl (Su,SU)=>(gRs11 OV Su a_kinds).bind fun Ve=>bif (!Ve.2)then some ((0:Int),(7:Int))else
 some (Ve.1,(0:Int))
 |.inr q=>some q
def gv (rec:Ex->List Int->Option (Int×Int))(OV:Ex)(a_kinds:(List Int)):Option (Int×Int):=(nV OV.op).bind fun Pg=>bif (decide (Pg.1<(0:Int)))then some ((0:Int),(7:Int))else
 (fO OV).bind fun P4=>bif (!P4)then some ((0:Int),(8:Int))else
 bif (decide (OV.op=(2:Int)))then bif (decide (OV.int<(0:Int)))then some ((0:Int),(13:Int))else
 bif (decide (((a_kinds.length:Nat):Int)<=OV.int))then some ((0:Int),(13:Int))else
 (ao (kY OV a_kinds rec) fuel ([],(0:Int))).bind (wU OV a_kinds)else
 (ao (br OV a_kinds rec) fuel ([],(0:Int))).bind (pS OV a_kinds)
theorem Je {rec:Ex->List Int->Option (Int×Int)}  (O_:∀ {x:Ex} {y:List Int} {r:Int×Int},rec x y=some r->PTz 142 [.agg (tE x),.one (.lst (y.map (fun x=>[AC.int .i64 x])))] (.tup [.one (.int .i64 r.1),.one (.int .i64 r.2)])){OV:Ex}{a_kinds:(List Int)}{r:Int×Int}(H:gv rec OV a_kinds=some r):PTz 142 [.agg (tE OV),.one (.lst (a_kinds.map (fun x=>[AC.int .i64 x])))] (.tup [.one (.int .i64 r.1),.one (.int .i64 r.2)]):=by
 unfold gv at H;rw[ay OV];refine po_ Tryz.func142 Tryz.ntmps142 ?_;obtain⟨Pg,c1,H⟩:=bd_ H;replace c1:=gArity_ok c1;rcases aj H with⟨QG,H⟩|⟨QG,H⟩
 ·exact az H
 obtain⟨P4,c2,H⟩:=bd_ H;replace c2:=gFormedR_ok c2
 try simp only[ark,ari,arn,ara,ay]at c2
 rcases aj H with⟨Qk,H⟩|⟨Qk,H⟩
 ·exact az H
 rcases aj H with⟨RD,H⟩|⟨RD,H⟩
 ·rcases aj H with⟨RF,H⟩|⟨RF,H⟩
  ·exact az H
  rcases aj H with⟨SO,H⟩|⟨SO,H⟩
  ·exact az H
  refine aY ?_;refine bP 8 1 rfl ?_;refine alM_ (fun s:(List Int)×Int=>match s with|(VD,Ws)=>[(1,.one (.c (.lst (a_kinds.map (fun x=>[AC.int .i64 x]))))),(2,.one (.ptr 0 0)),(8,.one (.own (VD.map (fun x=>[AC.int .i64 x])) 1)),(9,.one (.c (.int .i64 Ws)))]) (fun s=>match s with|(VD,Ws)=>[.box [.c (.int .i64 OV.op),.c (.int .i64 OV.int),.c (.int .i64 OV.v.kind),.c (.int .i64 OV.v.int),.c (.str OV.v.text),.c (.str OV.nm),.c (.lst (OV.args.map tE))],.spare VD.length 1]) H (fun _=>aru _)
   (fm_ bG [] rfl a8 cm) ?_
  rintro⟨VD,Ws⟩ st1 OU PM;unfold kY at OU;dsimp only at OU ⊢;rcases aj OU with⟨Ql,OU⟩|⟨Ql,OU⟩
  ·obtain⟨RY,i3z,i3,i3x,OU⟩:=bu (f:=tE) OU
   simp only[ark,ari,arn,ara,ay]at i3x;obtain⟨P7,c4,OU⟩:=bd_ OU;replace c4:=O_ c4
   try simp only[ark,ari,arn,ara,ay]at c4
   exact bA OU PM
  exact bA OU PM
 refine aY ?_;refine bP 8 1 rfl ?_;refine alM_ (fun s:(List Int)×Int=>match s with|(Su,SU)=>[(1,.one (.c (.lst (a_kinds.map (fun x=>[AC.int .i64 x]))))),(2,.one (.ptr 0 0)),(8,.one (.own (Su.map (fun x=>[AC.int .i64 x])) 1)),(9,.one (.c (.int .i64 SU)))]) (fun s=>match s with|(Su,SU)=>[.box [.c (.int .i64 OV.op),.c (.int .i64 OV.int),.c (.int .i64 OV.v.kind),.c (.int .i64 OV.v.int),.c (.str OV.v.text),.c (.str OV.nm),.c (.lst (OV.args.map tE))],.spare Su.length 1]) H (fun _=>aru _)
  (fm_ bG [] rfl a8 cm) ?_
 rintro⟨Su,SU⟩ st2 Pl Tt;unfold br at Pl;dsimp only at Pl ⊢;rcases aj Pl with⟨Rq,Pl⟩|⟨Rq,Pl⟩
 ·obtain⟨S8,i7z,i7,i7x,Pl⟩:=bu (f:=tE) Pl
  simp only[ark,ari,arn,ara,ay]at i7x;obtain⟨QY,c8,Pl⟩:=bd_ Pl;replace c8:=O_ c8
  try simp only[ark,ari,arn,ara,ay]at c8
  exact bA Pl Tt
 exact bA Pl Tt
def bX:Nat->Ex->List Int->Option (Int×Int)
 |0,_,_=>none
 |n+1,x,y=>gv (bX n) x y
theorem Ak:∀ (n:Nat) {x:Ex} {y:List Int} {r:Int×Int},bX n x y=some r->PTz 142 [.agg (tE x),.one (.lst (y.map (fun x=>[AC.int .i64 x])))] (.tup [.one (.int .i64 r.1),.one (.int .i64 r.2)])
 |0,_,_,_,h=>nomatch h
 |n+1,_,_,_,h=>Je (Ak n) h
def qi (OV:Ex)(a_kinds:(List Int)):Option (Int×Int):=(ja fuel OV).bind fun Pg=>bif (decide ((24:Int)<Pg))then some ((0:Int),(26:Int))else
 (bX fuel OV a_kinds).bind fun P4=>some (P4.1,P4.2)
instance gChk11_ok {OV : Ex} {a_kinds : (List Int)} {r : Int × Int} : OkC (qi OV a_kinds = some r) (PTz 89 [.agg (tE OV), .one (.lst (a_kinds.map (fun x => [AC.int .i64 x])))] (.tup [.one (.int .i64 r.1), .one (.int .i64 r.2)])) := .mk fun H => by
 unfold qi at H;rw[ay OV];refine po_ Tryz.func89 Tryz.ntmps89 ?_;obtain⟨Pg,c1,H⟩:=bd_ H;replace c1:=Ac fuel c1
 try simp only[ark,ari,arn,ara,ay]at c1
 rcases aj H with⟨QG,H⟩|⟨QG,H⟩
 ·exact az H
 obtain⟨P4,c2,H⟩:=bd_ H;replace c2:=Ak fuel c2
 try simp only[ark,ari,arn,ara,ay]at c2
 exact az H
def nl (OV:Ex)(a_kinds:(List Int)):Option (Int):=(qi OV a_kinds).bind fun Pg=>bif (decide (Pg.2≠(0:Int)))then some Pg.2 else
 bif (decide (Pg.1≠(3:Int)))then bif (decide (Pg.1≠(0:Int)))then some (7:Int)else
 some (0:Int)else
 some (0:Int)
instance gPred21_ok {OV : Ex} {a_kinds : (List Int)} {r : Int} : OkC (nl OV a_kinds = some r) (PTz 49 [.agg (tE OV), .one (.lst (a_kinds.map (fun x => [AC.int .i64 x])))] (.val (.one (.int .i64 r)))) := .mk fun H => by
 unfold nl at H;rw[ay OV];refine po_ Tryz.func49 Tryz.ntmps49 ?_;exact az H
def dR (OV:Ex)(Po:Int)(rec:Ex->Int->Option Int):(Int×Int)->Option (Step (Int×Int) (Int)):=fun s=>match s with
 |(Q_,i_2)=>bif (decide (i_2<((OV.args.length:Nat):Int)))then bif (decide (Q_<Po))then(aF OV.args i_2).bind fun Qv=>(rec Qv (i64.wrap (Po-Q_))).bind fun QK=>some (.next ((i64.wrap (Q_+QK)),(i64.wrap (i_2+(1:Int)))))else
 some (.exit (Q_,i_2))else
 some (.exit (Q_,i_2))
def Lq:Sum (Int×Int) (Int)->Option ((Int))
 |.inl (Q_,i_2)=>some Q_
 |.inr q=>some q
def sr (rec:Ex->Int->Option Int)(OV:Ex)(Po:Int):Option (Int):=(ao (dR OV Po rec) fuel ((1:Int),(0:Int))).bind (Lq)
theorem N7 {rec:Ex->Int->Option Int}  (O_:∀ {x:Ex} {y:Int} {r:Int},rec x y=some r->PTz 88 [.agg (tE x),.one (.int .i64 y)] (.val (.one (.int .i64 r)))){OV:Ex}{Po:Int}{r:Int}(H:sr rec OV Po=some r):PTz 88 [.agg (tE OV),.one (.int .i64 Po)] (.val (.one (.int .i64 r))):=by
 unfold sr at H;rw[ay OV];refine po_ Tryz.func88 Tryz.ntmps88 ?_;refine aY ?_;refine alM_ (fun s:Int×Int=>match s with|(Q_,i_2)=>[(1,.one (.c (.int .i64 Po))),(2,.one (.ptr 0 0)),(5,.one (.c (.int .i64 Q_))),(6,.one (.c (.int .i64 i_2)))]) (fun s=>match s with|(Q_,i_2)=>[.box [.c (.int .i64 OV.op),.c (.int .i64 OV.int),.c (.int .i64 OV.v.kind),.c (.int .i64 OV.v.int),.c (.str OV.v.text),.c (.str OV.nm),.c (.lst (OV.args.map tE))]]) H (fun _=>aru _)
  (fm_ bG [] rfl a8 cm) ?_
 rintro⟨Q_,i_2⟩ st1 OU PM;unfold dR at OU;dsimp only at OU ⊢;rcases aj OU with⟨QH,OU⟩|⟨QH,OU⟩
 ·rcases aj OU with⟨Qk,OU⟩|⟨Qk,OU⟩
  ·obtain⟨Qv,SN,i1,RL,OU⟩:=bu (f:=tE) OU
   simp only[ark,ari,arn,ara,ay]at RL;obtain⟨QK,c2,OU⟩:=bd_ OU;replace c2:=O_ c2
   try simp only[ark,ari,arn,ara,ay]at c2
   cases OU;refine aY ?_;exact⟨_,rfl,fm_ bG [] rfl a8 cm⟩
  exact bA OU PM
 exact bA OU PM
def ny:Nat->Ex->Int->Option Int
 |0,_,_=>none
 |n+1,x,y=>sr (ny n) x y
theorem EG:∀ (n:Nat) {x:Ex} {y:Int} {r:Int},ny n x y=some r->PTz 88 [.agg (tE x),.one (.int .i64 y)] (.val (.one (.int .i64 r)))
 |0,_,_,_,h=>nomatch h
 |n+1,_,_,_,h=>N7 (EG n) h
def Dk (a_l:(List Ex))(Po:Int):Option (Bool):=(ny fuel (Ex.mk (0:Int) (0:Int) (⟨(0:Int),(0:Int),empty⟩:Val) empty a_l) (i64.wrap (Po+(2:Int)))).bind fun Pg=>some (decide (Pg<=(i64.wrap (Po+(1:Int)))))
instance gSmall_ok {a_l : (List Ex)} {Po : Int} {r : Bool} : OkC (Dk a_l Po = some r) (PTz 48 [.one (.lst (a_l.map tE)), .one (.int .i64 Po)] (.val (.one (.bool r)))) := .mk fun H => by
 unfold Dk at H;refine po_ Tryz.func48 Tryz.ntmps48 ?_;obtain⟨Pg,c1,H⟩:=bd_ H;replace c1:=EG fuel c1
 try simp only[ark,ari,arn,ara,ay]at c1
 exact az H
theorem zV (e:Ex)(m:Int)(hm:1<=m/\m<=1000)(rec:Ex->Int->Option Int)
  (O_:∀ x∈e.args,∀ k:Int,1<=k->k<m ->∃ r,rec x k=some r/\1<=r/\r<=k/\(r<k->cS r.toNat x)) :
  ∀ (N i:Nat) (c:Int),1<=c->c<=m->i<=e.args.length->(m-c).toNat<N->(i:Int)<=c ->
   ∃ r j,ao (dR e m rec) N (c,(i:Int))=some (.inl (r,j))/\c<=r/\r<=m/\(r<m->((e.args.length-i:Nat):Int)<=r-c /\ ∀ x∈e.args.drop i,cS (r-c).toNat x)
 |0,i,c,_,_,_,h,_=>by omega
 |N+1,i,c,h1,h2,hi,hN,hic=>by
  rw[ao];by_cases OZ:i<e.args.length
  ·obtain⟨x,hx⟩:=gol_ OZ
   have Qp:=arb hx;by_cases hc:c<m
   ·obtain⟨w,hw,w1,w2,w3⟩:=O_ x Qp (m-c) m0 m0
    have hb:dR e m rec (c,(i:Int))=some (.next (c+w,((i+1:Nat):Int))):=by
     unfold dR;dsimp only;rw[aL hx,aq8,aq_ hc,aq8,gn_ hx,aq5,dh m0,hw,aq5,dh m0,wrapN m0]
    rw[hb];obtain⟨r,j,e1,e2,e3,e4⟩:=zV e m hm rec O_ N (i+1) (c+w) m0 m0 m0 m0 m0;refine⟨r,j,e1,m0,e3,fun hr=>?_⟩;obtain⟨f1,f2⟩:=e4 hr;refine⟨m0,fun y hy=>?_⟩;rw[arG OZ,(aq6.1 hx).2]at hy;rcases arp.1 hy with rfl|hy
    ·exact iG m0 (w3 m0)
    ·exact iG m0 (f2 y hy)
   ·have hb:dR e m rec (c,(i:Int))=some (.exit (c,(i:Int))):=by
     unfold dR;dsimp only;rw[aL hx,aq8,aq9 hc,aq7]
    rw[hb];exact⟨c,_,rfl,Int.le_refl _,h2,fun hr=>absurd hr hc⟩
  ·have:i=e.args.length:=m0
   subst this;have hb:dR e m rec (c,((e.args.length:Nat):Int))=some (.exit (c,((e.args.length:Nat):Int))):=by
    unfold dR;dsimp only;rw[lF_,aq7]
   rw[hb];refine⟨c,_,rfl,Int.le_refl _,h2,fun hr=>⟨m0,fun y hy=>?_⟩⟩;rw[asb]at hy
   cases hy
theorem IU:∀ (n:Nat) (e:Ex) (m:Int),1<=m->m<=1000->m<=(n:Int) ->∃ r,ny n e m=some r/\1<=r/\r<=m/\(r<m->cS r.toNat e/\((e.args.length:Nat):Int)<r /\ ∀ x∈e.args,cS (r-1).toNat x)
 |0,e,m,h1,_,h3=>by omega
 |n+1,e,m,h1,h2,h3=>by
  have O_:∀ x∈e.args,∀ k:Int,1<=k->k<m ->∃ r,ny n x k=some r/\1<=r/\r<=k/\(r<k->cS r.toNat x):=by
   intro x _ k k1 k2;obtain⟨r,e1,e2,e3,e4⟩:=IU n x k k1 m0 m0;exact⟨r,e1,e2,e3,fun h=>(e4 h).1⟩
  obtain⟨r,j,e1,e2,e3,e4⟩:=zV e m ⟨h1,h2⟩ (ny n) O_ fuel 0 1 (Int.le_refl _) h1 (aru _) (by unfold fuel;omega) m0;refine⟨r,?_,e2,e3,fun hr=>?_⟩
  ·show sr (ny n) e m=_
   unfold sr;rw[show((0:Nat):Int)=0 from rfl]at e1;rw[e1];rfl
  ·obtain⟨f1,f2⟩:=e4 hr
   rw[List.drop_zero]at f2;refine⟨?_,m0,f2⟩;obtain⟨k,hk⟩:∃ k,r.toNat=k+1:=⟨r.toNat-1,m0⟩;rw[hk];refine⟨m0,fun x hx=>?_⟩;have:=f2 x hx;rwa[show(r-1).toNat=k by omega]at this
theorem aeV (l:List Ex):∃ b,Dk l 200=some b/\(b=true->l.length<=200 /\ ∀ e∈l,cS 200 e):=by
 obtain⟨r,e1,e2,e3,e4⟩:=IU fuel (Ex.mk 0 0 ⟨0,0,empty⟩ empty l) 202 m0 m0 (by unfold fuel;omega);refine⟨decide (r<=201),?_,fun h=>?_⟩
 ·unfold Dk
  rw[dh m0,dh m0];show(ny fuel (Ex.mk 0 0 ⟨0,0,empty⟩ empty l) 202).bind _=_;rw[e1];rfl
 ·have:=arC h
  obtain⟨_,f1,f2⟩:=e4 m0;exact⟨by have:((l.length:Nat):Int)<r:=f1;omega,fun e he=>iG m0 (f2 e he)⟩
theorem aeD {e:Ex}(h:cS 200 e):cS fuel e:=iG (by unfold fuel;omega) h
theorem Fq (e:Ex)(m:Int)(hm:2<=m/\m<=1000)(B:Int)(hB:B<=4611686018427387904)(rec:Ex->Option Int)(Vp:Ex->Int->Option Int)
  (O_:∀ x∈e.args,∃ d,rec x=some d/\1<=d/\d<=B/\Vp x (m-1)=some (min d (m-1))) (hlen:e.args.length<=100000) :
  ∀ (N i:Nat) (a:Int),0<=a->a<=max 0 B->i<=e.args.length->e.args.length-i<N ->
   ∃ r,ao (dm e rec) N (a,(i:Int))=some (.inl (r,((e.args.length:Nat):Int)))/\ao (eO e m Vp) N (min (a+1) m,(i:Int))=some (.inl (min (r+1) m,((e.args.length:Nat):Int)))/\0<=r/\r<=max 0 B
 |0,i,a,_,_,_,h=>by omega
 |N+1,i,a,h1,h2,hi,hN=>by
  rw[ao,ao];by_cases OZ:i<e.args.length
  ·obtain⟨x,hx⟩:=gol_ OZ
   obtain⟨d,e1,e2,e3,e4⟩:=O_ x (arb hx);have hb:dm e rec (a,(i:Int))=some (.next (max a d,((i+1:Nat):Int))):=by
    unfold dm;dsimp only;rw[aL hx,aq8,gn_ hx,aq5,e1,aq5,wrapN m0];congr 3;unfold zL;split<;>omega
   have Pl:eO e m Vp (min (a+1) m,(i:Int))=some (.next (min (max a d+1) m,((i+1:Nat):Int))):=by
    unfold eO;dsimp only;rw[aL hx,aq8,gn_ hx,aq5,dh m0,e4,aq5,dh m0,wrapN m0];congr 3;unfold zL;split<;>omega
   rw[hb,Pl];exact Fq e m hm B hB rec Vp O_ hlen N (i+1) (max a d) m0 m0 m0 m0
  ·have:i=e.args.length:=m0
   subst this;have hb:dm e rec (a,((e.args.length:Nat):Int))=some (.exit (a,((e.args.length:Nat):Int))):=by
    unfold dm;dsimp only;rw[lF_,aq7]
   have Pl:eO e m Vp (min (a+1) m,((e.args.length:Nat):Int))=some (.exit (min (a+1) m,((e.args.length:Nat):Int))):=by
    unfold eO;dsimp only;rw[lF_,aq7]
   rw[hb,Pl];exact⟨a,rfl,rfl,h1,h2⟩
theorem BV:∀ (n:Nat) (e:Ex),n<=4611686018427387904->cS n e ->∃ d,ja n e=some d/\1<=d/\d<=(n:Int) /\ ∀ m:Int,1<=m->m<=1000->rf n e m=some (min d m)
 |0,_,_,h=>h.elim
 |n+1,e,hn,h=>by
  have hd:∃ r,(∀ m:Int,2<=m->m<=1000->ao (eO e m (rf n)) fuel (1,0)=some (.inl (min (r+1) m,((e.args.length:Nat):Int))))/\ao (dm e (ja n)) fuel (0,0)=some (.inl (r,((e.args.length:Nat):Int)))/\0<=r/\r<=max 0 (n:Int):=by
   have key:∀ m:Int,2<=m->m<=1000->_:=fun m h1 h2=>Fq e m ⟨h1,h2⟩ (n:Int) m0 (ja n) (rf n) (by
    intro x hx;obtain⟨d,e1,e2,e3,e4⟩:=BV n x m0 (h.2 x hx);exact⟨d,e1,e2,e3,e4 (m-1) m0 m0⟩) h.1 fuel 0 0 (Int.le_refl _) m0 (aru _) (by unfold fuel;have:=h.1;omega)
   obtain⟨r,e1,e2,e3,e4⟩:=key 2 m0 m0;refine⟨r,fun m h1 h2=>?_,e1,e3,e4⟩;obtain⟨r',f1,f2,f3,f4⟩:=key m h1 h2;have:r'=r:=by
    rw[e1]at f1;have:=arH f1;injection this with this
    injection this with this _
    exact this.symm
   subst this;rw[show min ((0:Int)+1) m=1 by omega]at f2;exact f2
  obtain⟨r,k1,k2,k3,k4⟩:=hd;refine⟨r+1,?_,m0,m0,fun m h1 h2=>?_⟩
  ·show po (ja n) e=_
   unfold po;rw[k2];show some (i64.wrap (r+1))=_;rw[dh m0]
  ·show rQ (rf n) e m=_
   unfold rQ;by_cases hm:m<=1
   ·rw[aq_ hm,aq8]
    congr 1;omega
   ·rw[aq9 hm,aq7,k1 m m0 h2];rfl
def F4:Int->List Int->Option Int
 |t,[]=>some t
 |t,x::l=>if x=0 then F4 t l else if t≠0/\t≠x then none else F4 x l
def am_ (o:Option Int):Int×Bool:=match o with|some k=>(k,true)|none=>(0,false)
theorem B5:∀ (l:List Int) (t:Int),cB (ρ:=Int×Bool) (fun t x=>some (if x=0 then .inl t else if t≠0/\t≠x then .inr (0,false)else .inl x)) t l=some (match F4 t l with|some k => .inl k|none => .inr (0,false))
 |[],t=>rfl
 |x::l,t=>by
  rw[cB,F4];by_cases h:x=0
  ·rw[if_pos h,if_pos h];exact B5 l t
  ·rw[if_neg h,if_neg h]
   by_cases h2:t≠0/\t≠x
   ·rw[if_pos h2,if_pos h2]
   ·rw[if_neg h2,if_neg h2];exact B5 l x
theorem fo (l:List Int)(hl:l.length<=1000000):jb l=some (am_ (F4 0 l)):=by
 unfold jb;rw[b6 (l:=l) (mk:=fun t i=>(t,i)) (f:=fun t x=>some (if x=0 then .inl t else if t≠0/\t≠x then .inr (0,false)else .inl x)) ?_ ?_ (by unfold fuel;omega) (0:Int)]
 ·rw[B5]
  cases F4 0 l<;>rfl
 ·intro s i x hx
  have hi:=(aq6.1 hx).1;unfold tl;dsimp only;rw[aL hx,aq8,gn_ hx,wrapN m0];simp only[aq5];by_cases h:x=0
  ·rw[aq_ h,aq8,if_pos h];rfl
  ·rw[aq9 h,aq7,if_neg h]
   by_cases h1:s=0
   ·rw[aq9 (show ¬ s≠0 by omega),aq7,if_neg m0];rfl
   ·rw[aq_ (show s≠0 from h1),aq8]
    by_cases h2:s=x
    ·rw[aq9 (show ¬ s≠x by omega),aq7,if_neg m0];rfl
    ·rw[aq_ (show s≠x from h2),aq8,if_pos ⟨h1,h2⟩];rfl
 ·intro s
  unfold tl;dsimp only;rw[lF_,aq7]
theorem jY (l:List Int)(hl:l.length<=1000000):ib l=some (am_ (F4 0 l)):=(show ib l=jb l from rfl).trans (fo l hl)
def fu (l:List Int)(k:Int):Bool:=l.all fun x=>decide (x=k)||decide (x=0)
theorem du (l:List Int)(k:Int)(hl:l.length<=1000000):f_ l k=some (fu l k):=by
 unfold f_;rw[b6 (l:=l) (mk:=fun(_:Unit) i=>i) (f:=fun _ x=>some (if x=k\/x=0 then .inl ()else .inr false)) ?_ ?_ (by unfold fuel;omega) ()]
 ·have:∀ l:List Int,cB (ρ:=Bool) (fun(_:Unit) (x:Int)=>some (if x=k\/x=0 then .inl ()else .inr false)) () l=some (if fu l k=true then .inl ()else .inr false):=by
   intro l
   induction l with
   |nil=>rfl
   |cons x l ih =>
    rw[cB];by_cases h:x=k\/x=0
    ·rw[if_pos h]
     show cB _ () l=_;rw[ih];have:fu (x::l) k=fu l k:=by
      unfold fu;rw[List.all_cons];rcases h with h|h<;>simp[h]
     rw[this]
    ·rw[if_neg h]
     have:fu (x::l) k=false:=by
      unfold fu;rw[List.all_cons,aq9 (fun e=>h (.inl e)),aq9 (fun e=>h (.inr e))];rfl
     rw[this];rfl
  rw[this]
  cases fu l k<;>rfl
 ·intro s i x hx
  have hi:=(aq6.1 hx).1;unfold tj;dsimp only;rw[aL hx,aq8,gn_ hx,wrapN m0];simp only[aq5];by_cases h:x=k
  ·rw[aq9 (show ¬ x≠k by omega),aq7,if_pos (.inl h)];rfl
  ·rw[aq_ (show x≠k from h),aq8]
   by_cases h2:x=0
   ·rw[aq9 (show ¬ x≠0 by omega),aq7,if_pos (.inr h2)];rfl
   ·rw[aq_ (show x≠0 from h2),aq8,if_neg m0];rfl
 ·intro s
  unfold tj;dsimp only;rw[lF_,aq7]
theorem ER (k:Int)(hk:k≠0):∀ (l:List Int) (t:Int),F4 t (l++[k])=if (t=0\/t=k)/\fu l k=true then some k else none
 |[],t=>by
  show(if k=0 then some t else if t≠0/\t≠k then none else some k)=if (t=0\/t=k)/\true=true then some k else none
  rw[if_neg hk];by_cases h:t=0\/t=k
  ·rw[if_neg (show ¬ (t≠0/\t≠k)by omega),if_pos (show(t=0\/t=k)/\true=true from⟨h,rfl⟩)]
  ·rw[if_pos (show t≠0/\t≠k by omega),if_neg (fun e=>h e.1)]
 |x::l,t=>by
  rw[List.cons_append,F4];by_cases h:x=0
  ·rw[if_pos h,ER k hk l t]
   have:fu (x::l) k=fu l k:=by unfold fu;rw[List.all_cons,aq_ h,Bool.or_true,arI]
   rw[this]
  ·rw[if_neg h]
   have ha:fu (x::l) k=(decide (x=k)&&fu l k):=by unfold fu;rw[List.all_cons,aq9 h,Bool.or_false]
   rw[ha];by_cases h2:t≠0/\t≠x
   ·rw[if_pos h2,if_neg]
    rintro⟨h3,h4⟩;rw[arq]at h4;have:=arC h4.1;omega
   ·rw[if_neg h2,ER k hk l x]
    by_cases h3:x=k
    ·rw[aq_ h3,arI]
     by_cases h4:fu l k=true
     ·rw[if_pos ⟨.inr h3,h4⟩,if_pos ⟨m0,h4⟩]
     ·rw[if_neg (fun e=>h4 e.2),if_neg (fun e=>h4 e.2)]
    ·rw[aq9 h3,Bool.false_and,if_neg m0,if_neg m5]
theorem eJ {l:List Int}{k:Int}(h0:l≠[])(hl:l.length<=100000)(hk:k≠0):rm l k=some (fu l k):=by
 have ho:Nz l=true:=by
  unfold Nz;rw[aq_ hl,Bool.and_true]
  cases l with
  |nil=>exact absurd rfl h0
  |cons a b=>rfl
 unfold rm;rw[ho,aq8,fo _ (by rw[ard];simp;omega),aq5,ER k hk]
 cases h:fu l k with
 |true=>rw[if_pos ⟨.inl rfl,rfl⟩];show some (bif true then decide (k=k)else false)=_;simp
 |false=>rw[if_neg m5];rfl
theorem LG {e:Ex}{l:List Int}{kinds:List Int}(Pj:(jt e.op).1<=((l.length:Nat):Int))(Pq:((l.length:Nat):Int)<=(jt e.op).2)(hl:l.length<=100000)(ho:e.op=1\/e.op=4\/e.op=5\/e.op=6\/e.op=7\/e.op=8\/e.op=9\/e.op=10\/e.op=11\/e.op=12\/e.op=13\/e.op=14\/e.op=15\/e.op=16\/e.op=17\/e.op=18\/e.op=19\/e.op=20\/e.op=21\/e.op=22\/e.op=23\/e.op=24):∃ r,gRs11 e l kinds=some r/\gRsP e l=some r:=by
 rcases ho with ho|ho|ho|ho|ho|ho|ho|ho|ho|ho|ho|ho|ho|ho|ho|ho|ho|ho|ho|ho|ho|ho
 ·rw[ho,ar1]at Pj Pq
  dsimp only at Pj Pq;unfold gRs11 gRsP;simp only[ho,Int.reduceEq,sl9];exact⟨_,rfl,rfl⟩
 ·rw[ho,ar4]at Pj Pq
  dsimp only at Pj Pq;unfold gRs11 gRsP;simp only[ho,Int.reduceEq,sl9];rw[du _ _ m0,eJ (by rintro rfl;simp at Pj) hl m9];exact⟨_,rfl,rfl⟩
 ·rw[ho,ar5]at Pj Pq
  dsimp only at Pj Pq;unfold gRs11 gRsP;simp only[ho,Int.reduceEq,sl9];rw[du _ _ m0,eJ (by rintro rfl;simp at Pj) hl m9];exact⟨_,rfl,rfl⟩
 ·rw[ho,ar6]at Pj Pq
  dsimp only at Pj Pq;unfold gRs11 gRsP;simp only[ho,Int.reduceEq,sl9];rw[du _ _ m0,eJ (by rintro rfl;simp at Pj) hl m9];exact⟨_,rfl,rfl⟩
 ·rw[ho,ar7]at Pj Pq
  dsimp only at Pj Pq;unfold gRs11 gRsP;simp only[ho,Int.reduceEq,sl9];rw[jY _ m0,fo _ m0];exact⟨_,rfl,rfl⟩
 ·rw[ho,ar8]at Pj Pq
  dsimp only at Pj Pq;unfold gRs11 gRsP;simp only[ho,Int.reduceEq,sl9];rw[jY _ m0,fo _ m0];exact⟨_,rfl,rfl⟩
 ·rw[ho,ar9]at Pj Pq
  dsimp only at Pj Pq;unfold gRs11 gRsP;simp only[ho,Int.reduceEq,sl9];rw[jY _ m0,fo _ m0];exact⟨_,rfl,rfl⟩
 ·rw[ho,aqJ]at Pj Pq
  dsimp only at Pj Pq;unfold gRs11 gRsP;simp only[ho,Int.reduceEq,sl9];rw[jY _ m0,fo _ m0];exact⟨_,rfl,rfl⟩
 ·rw[ho,aqa]at Pj Pq
  dsimp only at Pj Pq;unfold gRs11 gRsP;simp only[ho,Int.reduceEq,sl9];rw[jY _ m0,fo _ m0];exact⟨_,rfl,rfl⟩
 ·rw[ho,ap5]at Pj Pq
  dsimp only at Pj Pq;unfold gRs11 gRsP;simp only[ho,Int.reduceEq,sl9];rw[jY _ m0,fo _ m0];exact⟨_,rfl,rfl⟩
 ·rw[ho,apf]at Pj Pq
  dsimp only at Pj Pq;unfold gRs11 gRsP;simp only[ho,Int.reduceEq,sl9];rw[du _ _ m0,eJ (by rintro rfl;simp at Pj) hl m9];exact⟨_,rfl,rfl⟩
 ·rw[ho,aoq]at Pj Pq
  dsimp only at Pj Pq;unfold gRs11 gRsP;simp only[ho,Int.reduceEq,sl9];rw[du _ _ m0,eJ (by rintro rfl;simp at Pj) hl m9];exact⟨_,rfl,rfl⟩
 ·rw[ho,aox]at Pj Pq
  dsimp only at Pj Pq;unfold gRs11 gRsP;simp only[ho,Int.reduceEq,sl9];rw[du _ _ m0,eJ (by rintro rfl;simp at Pj) hl m9];exact⟨_,rfl,rfl⟩
 ·rw[ho,apb]at Pj Pq
  dsimp only at Pj Pq;unfold gRs11 gRsP;simp only[ho,Int.reduceEq,sl9];rw[du _ _ m0,eJ (by rintro rfl;simp at Pj) hl m9];exact⟨_,rfl,rfl⟩
 ·rw[ho,aoy]at Pj Pq
  dsimp only at Pj Pq;unfold gRs11 gRsP;simp only[ho,Int.reduceEq,sl9];rw[du _ _ m0,eJ (by rintro rfl;simp at Pj) hl m9];exact⟨_,rfl,rfl⟩
 ·rw[ho,aqB]at Pj Pq
  dsimp only at Pj Pq;unfold gRs11 gRsP;simp only[ho,Int.reduceEq,sl9];rw[du _ _ m0,eJ (by rintro rfl;simp at Pj) hl m9];exact⟨_,rfl,rfl⟩
 ·rw[ho,aqi]at Pj Pq
  dsimp only at Pj Pq;unfold gRs11 gRsP;simp only[ho,Int.reduceEq,sl9];rw[du _ _ m0,eJ (by rintro rfl;simp at Pj) hl m9];exact⟨_,rfl,rfl⟩
 ·rw[ho,aqe]at Pj Pq
  dsimp only at Pj Pq;unfold gRs11 gRsP;simp only[ho,Int.reduceEq,sl9];rw[du _ _ m0,eJ (by rintro rfl;simp at Pj) hl m9];exact⟨_,rfl,rfl⟩
 ·rw[ho,ap6]at Pj Pq
  dsimp only at Pj Pq;unfold gRs11 gRsP;simp only[ho,Int.reduceEq,sl9];exact⟨_,rfl,rfl⟩
 ·rw[ho,anF]at Pj Pq
  dsimp only at Pj Pq;unfold gRs11 gRsP;simp only[ho,Int.reduceEq,sl9];obtain⟨a,b,c,rfl⟩:=ajZ (l:=l) m0;rw[show gq [a,b,c] (1:Int) ((([a,b,c].length:Nat)):Int)=some [b,c]from rfl,show gq [a,b,c] (0:Int) (1:Int)=some [a]from rfl];simp only[aq5];rw[jY _ m5,fo _ m5];simp only[aq5];rw[du _ _ m5,eJ m5 m5 m9]
  cases (am_ (F4 0 [b,c])).2<;>exact⟨_,rfl,rfl⟩
 ·rw[ho,aqu]at Pj Pq
  dsimp only at Pj Pq;unfold gRs11 gRsP;simp only[ho,Int.reduceEq,sl9];rw[jY _ m0,fo _ m0];exact⟨_,rfl,rfl⟩
 ·rw[ho,ap_]at Pj Pq
  dsimp only at Pj Pq;unfold gRs11 gRsP;simp only[ho,Int.reduceEq,sl9];rw[du _ _ m0,eJ (by rintro rfl;simp at Pj) hl m9];exact⟨_,rfl,rfl⟩
theorem DT (e:Ex)(kinds:List Int)(rec:Ex->List Int->Option (Int×Int))(O_:∀ x∈e.args,∃ c,rec x kinds=some c)(hlen:e.args.length<=100000) :
  ∀ (N i:Nat) (s:List Int),s.length=i->i<=e.args.length->e.args.length-i<N ->∃ r,ao (br e kinds rec) N (s,(i:Int))=some r /\ ∀ t j,r = .inl (t,j)->t.length=e.args.length
 |0,i,s,_,_,h=>by omega
 |N+1,i,s,hs,hi,hN=>by
  rw[ao];by_cases OZ:i<e.args.length
  ·obtain⟨x,hx⟩:=gol_ OZ
   obtain⟨c,hc⟩:=O_ x (arb hx);by_cases h0:c.2=0
   ·have hb:br e kinds rec (s,(i:Int))=some (.next (s++[c.1],((i+1:Nat):Int))):=by
     unfold br;dsimp only;rw[aL hx,aq8,gn_ hx,aq5,hc,aq5,aq9 (show ¬ c.2≠0 by omega),aq7,aq_ m0,aq8,wrapN m0]
    rw[hb];exact DT e kinds rec O_ hlen N (i+1) (s++[c.1]) (by rw[ard,hs];rfl) m0 m0
   ·have hb:br e kinds rec (s,(i:Int))=some (.ret (0,c.2)):=by
     unfold br;dsimp only;rw[aL hx,aq8,gn_ hx,aq5,hc,aq5,aq_ (show c.2≠0 from h0),aq8]
    rw[hb];exact⟨_,rfl,fun t j h=>by cases h⟩
  ·have:i=e.args.length:=m0
   subst this;have hb:br e kinds rec (s,((e.args.length:Nat):Int))=some (.exit (s,((e.args.length:Nat):Int))):=by
    unfold br;dsimp only;rw[lF_,aq7]
   rw[hb];exact⟨_,rfl,fun t j h=>by injection h with h;injection h with h _;rw[<- h];exact hs⟩
theorem vX (kinds:List Int):∀ (n:Nat) (e:Ex),cS n e ->∃ c,bX n e kinds=some c/\qD n e kinds=some c
 |0,_,h=>h.elim
 |n+1,e,h=>by
  have hx:∀ x∈e.args,∃ c,bX n x kinds=some c/\qD n x kinds=some c:=fun x hx=>vX kinds n x (h.2 x hx)
  have hb:mQ e kinds (qD n)=br e kinds (bX n):=by
   funext s;obtain⟨l,i⟩:=s;unfold mQ br;dsimp only
   cases hg:aF e.args i with
   |none=>rfl
   |some x =>
    obtain⟨c,c1,c2⟩:=hx x (arb (gu hg).2);simp only[aq5];rw[c1,c2]
  obtain⟨a1,a2,a3,a4⟩:=nf e.op ((e.args.length:Nat):Int) (by have:=h.1;omega);show ∃ c,gv (bX n) e kinds=some c/\sO (qD n) e kinds=some c;unfold gv sO;rw[a1,a2,aq5,aq5];dsimp only;by_cases h00:(jt e.op).1<0
  ·rw[aq_ h00,aq9 (show ¬ 0<=(jt e.op).1 by omega),aq8]
   exact⟨_,rfl,rfl⟩
  have h0:0<=(jt e.op).1:=m0
  rw[aq9 (show ¬ (jt e.op).1<0 by omega),aq_ h0,Bool.not_true,aq7,aq7,m_ h.1,DF h.1,aq5,aq5]
  cases hf:fU e with
  |false=>exact⟨_,rfl,rfl⟩
  |true =>
   rw[Bool.not_true,aq7,aq7];obtain⟨XU,Pj,Pq,SD⟩:=l7 h.1 hf;by_cases o2:e.op=2
   ·rw[aq_ o2,aq8,aq8]
    by_cases i0:e.int<0
    ·rw[aq_ i0];exact⟨_,rfl,rfl⟩
    rw[aq9 i0,aq7,aq7];by_cases i1:((kinds.length:Nat):Int)<=e.int
    ·rw[aq_ i1];exact⟨_,rfl,rfl⟩
    rw[aq9 i1,aq7,aq7];obtain⟨x,O0⟩:=gol_ (l:=kinds) (i:=e.int.toNat) m0;have hg:aF kinds e.int=some x:=by unfold aF;rw[if_pos m0];exact O0
    rw[o2,ar2]at Pq;dsimp only at Pq;have hz:e.args.length=0:=m0
    have hbr:ao (kY e kinds (bX n)) fuel ([],(0:Int))=some (.inl ([],0)):=by
     have:fuel=(fuel-1)+1:=rfl;rw[this,ao];unfold kY;dsimp only;rw[hz,show decide ((0:Int)<((0:Nat):Int))=false from rfl,aq7]
    rw[hbr,hg];refine⟨(x,0),?_,rfl⟩;show(gRs11 e [] kinds).bind _=_;unfold gRs11;rw[o2,show decide ((2:Int)=1)=false from rfl,show decide ((2:Int)=2)=true from rfl,aq7,aq8,hg];rfl
   ·rw[aq9 o2,aq7,aq7,hb]
    obtain⟨r,hr,hk⟩:=DT e kinds (bX n) (fun x hm=>(hx x hm).imp fun c hc=>hc.1) h.1 fuel 0 [] rfl (aru _) (by unfold fuel;have:=h.1;omega);rw[show((0:Nat):Int)=0 from rfl]at hr;rw[hr,aq5,aq5]
    cases r with
    |inr q=>exact⟨q,rfl,rfl⟩
    |inl p =>
     obtain⟨t,j⟩:=p;have ht:=hk t j rfl;obtain⟨q,q1,q2⟩:=LG (e:=e) (l:=t) (kinds:=kinds) (by rw[ht];exact Pj) (by rw[ht];exact Pq) (by rw[ht];exact h.1) m0;unfold pS zN;dsimp only;rw[q1,q2,aq5]
     cases q.2<;>exact⟨_,rfl,rfl⟩
theorem Oo {e:Ex}(kinds:List Int)(h:cS fuel e):∃ c,qi e kinds=some c/\G1 e kinds=some c:=by
 obtain⟨d,d1,d2,d3,d4⟩:=BV fuel e (by unfold fuel;omega) h;obtain⟨c,c1,c2⟩:=vX kinds fuel e h;unfold qi G1 adM;rw[d1,d4 25 m0 m0,c1,c2];simp only[aq5];by_cases hd:(24:Int)<d
 ·rw[aq_ hd,aq_ (show(24:Int)<min d 25 by omega)];exact⟨_,rfl,rfl⟩
 ·rw[aq9 hd,aq9 (show ¬ (24:Int)<min d 25 by omega)];exact⟨_,rfl,rfl⟩
noncomputable section
def fq (Qy:aW):(Int)->Option (Step (Int) (Bool)):=fun s=>match s with
 |i_1=>bif (decide (i_1<((Qy.facts.length:Nat):Int)))then(aF Qy.facts i_1).bind fun R_=>(dn R_.valid).bind fun RN=>bif (!RN)then some (.ret false)else
 (rX R_.row Qy.kinds).bind fun QK=>bif (!QK)then some (.ret false)else
 some (.next (i64.wrap (i_1+(1:Int))))else
 some (.exit i_1)
def pc (Qy:aW):Sum (Int) (Bool)->Option ((Bool))
 |.inl i_1=>bif (decide ((0:Int)<((Qy.kinds.length:Nat):Int)))then bif (decide (((Qy.kinds.length:Nat):Int)<=(48:Int)))then(DV Qy.kinds).bind fun Rr=>some Rr else
 some false else
 some false
 |.inr q=>some q
def vN (Qy:aW):Option (Bool):=(ao (fq Qy) fuel (0:Int)).bind (pc Qy)
instance gSound_ok {Qy : aW} {r : Bool} : OkC (vN Qy = some r) (PTz 47 [.agg (aV Qy)] (.val (.one (.bool r)))) := .mk fun H => by
 unfold vN at H;refine po_ Tryz.func47 Tryz.ntmps47 ?_;refine aY ?_;refine alM_ (fun s:Int=>match s with|i_1=>[(1,.one (.ptr 0 0)),(3,.one (.c (.int .i64 i_1)))]) (fun s=>match s with|i_1=>[.box [.c (.lst (Qy.kinds.map (fun x=>[AC.int .i64 x]))),.c (.lst (Qy.facts.map aH))]]) H (fun _=>aru _)
  (fm_ bG [] rfl a8 cm) ?_
 rintro i_1 st1 OU PM;unfold fq at OU;dsimp only at OU ⊢;rcases aj OU with⟨QG,OU⟩|⟨QG,OU⟩
 ·obtain⟨R_,SN,i1,RL,OU⟩:=bu (f:=aH) OU
  obtain⟨RN,c2,OU⟩:=bd_ OU;replace c2:=gValid1_ok c2;rcases aj OU with⟨RD,OU⟩|⟨RD,OU⟩
  ·exact bA OU PM
  obtain⟨QK,c3,OU⟩:=bd_ OU;replace c3:=gFits8_ok c3;rcases aj OU with⟨SO,OU⟩|⟨SO,OU⟩
  ·exact bA OU PM
  cases OU;refine aY ?_;exact⟨_,rfl,fm_ bG [] rfl a8 cm⟩
 exact bA OU PM
def lG (OW:aW)(OX:aW):Option (Bool):=(jx OW.kinds OX.kinds).bind fun Pg=>bif Pg then(gL OW.facts OX.facts).bind fun P4=>some P4 else
 some false
instance gAlike_ok {OW : aW} {OX : aW} {r : Bool} : OkC (lG OW OX = some r) (PTz 17 [.agg (aV OW), .agg (aV OX)] (.val (.one (.bool r)))) := .mk fun H => by
 unfold lG at H;refine po_ Tryz.func17 Tryz.ntmps17 ?_;exact az H
end
