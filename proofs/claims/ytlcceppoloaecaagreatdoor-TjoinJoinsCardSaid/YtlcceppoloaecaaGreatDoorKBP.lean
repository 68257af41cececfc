/- Parts. No condition. -/
import Derived.Test.YtlcceppoloaecaaGreatDoorKBO
import Derived.Test.YtlcceppoloaecaaGreatDoorKBN
set_option maxHeartbeats 8000000
set_option maxRecDepth 100000
set_option linter.unusedSimpArgs false
set_option linter.unusedVariables false
namespace Go.Proofs.YtlcceppoloaecaaGreatDoor
open _root_.ByteArray (empty)
open IntKind (i64)
open Go.RowKit Go.MapKept
theorem gv_ {A B p q:Prop}(a:A)(b:B)(k:q)(h:Bx q->A->B->p:=by
 intro hq ha hb0
 first|refine st_nil ?_|refine st_pop rfl rfl rfl rfl qp_ ?_|refine st_lop rfl rfl rfl rfl qp_ ?_|refine sS_ rfl rfl rfl qp_ ?_|refine st_lit rfl rfl rfl rfl qp_ ?_|refine st_skip rfl rfl rfl ?_|refine sk0_ rfl rfl ?_|refine aw_seq ?_|refine aw_region ha _ rfl ?_|refine aw_drawn2 hb0 _ rfl mixed (by decide +kernel) ?_|refine aw_block ?_|refine aw_exit ?_|refine aw_ret ?_|refine aw_skip ?_
 exact hq.out):p:=h ⟨k⟩ a b
theorem Ks {α β ρ:Type}{l:List α}{body:(List β×Int)->Option (Step (List β×Int) ρ)}(g:α->β)(h1:∀ (c:List β) (i:Nat) x,l[i]?=some x->i<c.length->body (c,(i:Int))=some (.next (c.set i (g x),((i+1:Nat):Int))))(h2:∀ c:List β,body (c,(l.length:Int))=some (.exit (c,(l.length:Int)))) :
  ∀ (n i:Nat) (c:List β),c.length=l.length->i<=l.length->l.length-i<n->ao body n (c,(i:Int))=some (.inl (c.take i++(l.drop i).map g,(l.length:Int)))
 |0,i,c,_,_,h=>by omega
 |n+1,i,c,hc,hi,hn=>by
  rw[ao];by_cases O0:i<l.length
  ·obtain⟨x,hx⟩:=gol_ O0
   have e1:=(aqp.1 hx).2;rw[h1 c i x hx m0];show ao body n (c.set i (g x),((i+1:Nat):Int))=_;rw[Ks g h1 h2 n (i+1) (c.set i (g x)) (by rw[List.length_set];exact hc) m0 m0,aqW O0,e1,aqB];congr 3;rw[List.take_succ_eq_append_getElem (by rw[List.length_set];omega),List.getElem_set_self,aqR,List.take_set_of_le (aqG i)];rfl
  ·have:i=l.length:=m0
   subst this;rw[h2,arn,aqF,aqZ,<- hc,List.take_length]
def il:Nat->Ex->Prop
 |0,_=>False
 |n+1,e=>e.args.length<=100000 /\ ∀ x∈e.args,il n x
theorem nj:∀ {n m:Nat} {e:Ex},n<=m->il n e->il m e
 |0,_,_,_,h=>h.elim
 |n+1,0,_,h,_=>by omega
 |n+1,m+1,e,h,k=>⟨k.1,λx hx=>nj m0 (k.2 x hx)⟩
def ye (l:List Val):Val:=(l.find? λv=>decide (v.kind≠0)).getD bK
theorem xp:∀ l:List Val,cA (ρ:=Val) (λ(_:Unit) (v:Val)=>some (if v.kind≠0 then .inr v else .inl ())) () l=some (match l.find? λv=>decide (v.kind≠0)with|some v => .inr v|none => .inl ())
 |[]=>rfl
 |v::l=>by
  rw[cA];by_cases h:v.kind=0
  ·simp only[ne_eq,h,not_true_eq_false,if_false]
   rw[xp l,List.find?_cons_of_neg (by simp[h])]
  ·rw[List.find?_cons_of_pos (by simp[h])]
   simp[h]
theorem BU (l:List Val)(hl:l.length<=100000):pX 23 l=some (ye l):=by
 unfold pX;rw[show decide ((23:Int)=22)=false from rfl,aqr];rw[bX (l:=l) (mk:=λ(_:Unit) i=>i) (f:=λ_ v=>some (if v.kind≠0 then .inr v else .inl ())) ?_ ?_ (by unfold fuel;omega) ()]
 ·rw[xp]
  unfold ye
  cases l.find? λv=>decide (v.kind≠0)with
  |none=>exact congrArg (λo:Option Val=>o.bind λr=>some r) bT
  |some v=>rfl
 ·intro s i x hx
  have hi:=(aqp.1 hx).1;unfold nM;dsimp only;rw[aO hx,aqs,gn_ hx,wrapN m0];simp only[aqo];by_cases h:x.kind=0
  ·simp[h,qf]
  ·simp[h,qf]
 ·intro s
  unfold nM;dsimp only;rw[lF_,aqr]
theorem M5 (l:List Val)(hl:l.length<=100000):(ao (nf l) fuel (0:Int)).bind kG=some (ye l):=by
 rw[bX (l:=l) (mk:=λ(_:Unit) i=>i) (f:=λ_ v=>some (if v.kind≠0 then .inr v else .inl ())) ?_ ?_ (by unfold fuel;omega) ()]
 ·rw[xp]
  unfold ye
  cases l.find? λv=>decide (v.kind≠0)with
  |none=>exact congrArg (λo:Option Val=>o.bind λr=>some r) jB
  |some v=>rfl
 ·intro s i x hx
  have hi:=(aqp.1 hx).1;unfold nf;dsimp only;rw[aO hx,aqs,gn_ hx,wrapN m0];simp only[aqo];by_cases h:x.kind=0
  ·simp[h,qf]
  ·simp[h,qf]
 ·intro s
  unfold nf;dsimp only;rw[lF_,aqr]
theorem aiN {l:List Val}(h:∀ v∈l,vF v=true):vF (ye l)=true:=by
 unfold ye
 cases e:l.find? λv=>decide (v.kind≠0)with
 |none=>exact kr
 |some v=>exact h v (List.mem_of_find?_eq_some e)
theorem nh {op:Int}{a b:Val}(h:VV a):vF (eK op a b)=true:=by
 unfold eK
 cases ew [a,b] 1 with
 |false=>exact kr
 |true=>exact(en h.int).2
theorem akW (a:Val):vF (acy a)=true:=by
 unfold acy
 cases ew [a] 1 with
 |false=>exact kr
 |true=>exact ol _
theorem alk (a b:Val):vF (NA a b)=true:=by
 unfold NA
 cases ew [a,b] 2 with
 |false=>exact kr
 |true=>exact ol _
theorem ajP (a:Val):vF (Nq a)=true:=by
 unfold Nq
 cases ew [a] 2 with
 |false=>exact kr
 |true=>exact ol _
theorem aku (r:Int)(a b c d:Val):vF (Nl r a b c d)=true:=by
 unfold Nl
 cases ew [a,b,c,d] 1 with
 |false=>exact kr
 |true =>
  rw[aqs];split
  ·exact Bh _
  ·exact kr
def nR (op k:Int)(l:List Val):Val :=
 if op=4 then AD (Ho (tF_ (wA l 0)))else if op=5 then AD (yV KW l.tail (tF_ (wA l 0)))else if op=6 then AD (yV or3 l.tail (tF_ (wA l 0)))
 else if op=7\/op=8\/op=9\/op=10\/op=11\/op=12 then AD (qN op (wA l 0) (wA l 1))
 else if op=18 then acy (wA l 0)else if op=19 then NA (wA l 0) (wA l 1)else if op=20 then Nq (wA l 0)else if op=21 then lu (decide ((wA l 0).kind=0))
 else if op=22 then(bif decide (tF_ (wA l 0)=2)then wA l 1 else wA l 2)else if op=23 then ye l else if op=24 then Nl k (wA l 0) (wA l 1) (wA l 2) (wA l 3)
 else eK op (wA l 0) (wA l 1)
theorem apa {α:Type}{l:List α}(h:l.length=1):∃ a,l=[a]:=match l,h with|[a],_=>⟨a,rfl⟩
theorem agA {α:Type}{l:List α}(h:l.length=2):∃ a b,l=[a,b]:=match l,h with|[a,b],_=>⟨a,b,rfl⟩
theorem ajX {α:Type}{l:List α}(h:l.length=3):∃ a b c,l=[a,b,c]:=match l,h with|[a,b,c],_=>⟨a,b,c,rfl⟩
theorem aoe {α:Type}{l:List α}(h:l.length=4):∃ a b c d,l=[a,b,c,d]:=match l,h with|[a,b,c,d],_=>⟨a,b,c,d,rfl⟩
theorem aol {α:Type}{l:List α}(h:1<=l.length):∃ a m,l=a::m:=match l,h with|a::m,_=>⟨a,m,rfl⟩
structure qj (op:Int)(l:List Val):Prop where
 lo:(kI op).1<=(l.length:Int)
 hi:(l.length:Int)<=(kI op).2
 len:l.length<=100000
 vf:∀ v∈l,vF v=true
theorem sh1 {op:Int}{l:List Val}(A:qj op l)(h:kI op=(1,1)):∃ a,l=[a]/\VV a:=by
 have h1:=A.lo;have h2:=A.hi;rw[h]at h1 h2;dsimp only at h1 h2;obtain⟨a,rfl⟩:=apa (l:=l) m0;exact⟨a,rfl,uw (A.vf a m5)⟩
theorem Hu {op:Int}{l:List Val}(A:qj op l)(h:kI op=(2,2)):∃ a b,l=[a,b]/\VV a/\VV b:=by
 have h1:=A.lo;have h2:=A.hi;rw[h]at h1 h2;dsimp only at h1 h2;obtain⟨a,b,rfl⟩:=agA (l:=l) m0;exact⟨a,b,rfl,uw (A.vf a m5),uw (A.vf b m5)⟩
theorem sh3 {op:Int}{l:List Val}(A:qj op l)(h:kI op=(3,3)):∃ a b c,l=[a,b,c]:=by
 have h1:=A.lo;have h2:=A.hi;rw[h]at h1 h2;dsimp only at h1 h2;exact ajX (l:=l) m0
theorem sh4 {op:Int}{l:List Val}(A:qj op l)(h:kI op=(4,4)):∃ a b c d,l=[a,b,c,d]:=by
 have h1:=A.lo;have h2:=A.hi;rw[h]at h1 h2;dsimp only at h1 h2;exact aoe (l:=l) m0
theorem af3 {op:Int}{l:List Val}(A:qj op l)(h:1<=(kI op).1):∃ a m,l=a::m/\VV a/\m.length<=1000000:=by
 have h1:=A.lo;have h3:=A.len;obtain⟨a,m,rfl⟩:=aol (l:=l) m0;exact⟨a,m,rfl,uw (A.vf a m5),by rw[aqM]at h3;omega⟩
theorem ad2 (e:Ex)(row l:List Val)(i:Int)(A:qj e.op l)(ho:e.op=4\/e.op=5\/e.op=6\/e.op=7\/e.op=8\/e.op=9\/e.op=10\/e.op=11\/e.op=12\/e.op=13\/e.op=14\/e.op=15\/e.op=16\/e.op=17\/e.op=18\/e.op=19\/e.op=20\/e.op=21\/e.op=22\/e.op=23\/e.op=24):gER_K e row (.inl (l,i))=some (nR e.op e.int l):=by
 obtain ho|ho|ho|ho|ho|ho|ho|ho|ho|ho|ho|ho|ho|ho|ho|ho|ho|ho|ho|ho|ho:=ho
 ·obtain⟨a,rfl,va⟩:=sh1 A (by rw[ho];rfl)
  have hv:nR 4 e.int [a]=AD (Ho (tF_ a)):=rfl;rw[ho,hv];unfold gER_K;dsimp only;simp only[ho,Int.reduceEq,sl9];rw[show aF [a] (0:Int)=some a from rfl,aqo,kF,aqo,wi (fU a),aqo,mX (qb _)];rfl
 ·obtain⟨a,m,rfl,va,hm⟩:=af3 A (by rw[ho];decide)
  have hv:nR 5 e.int (a::m)=AD (yV KW m (tF_ a)):=rfl;rw[ho,hv];unfold gER_K;dsimp only;simp only[ho,Int.reduceEq,sl9];rw[zN 5 KW Il (λa b ha hb=>by rw[show decide ((5:Int)=5)=true from rfl];exact ado ha hb) a m hm];rfl
 ·obtain⟨a,m,rfl,va,hm⟩:=af3 A (by rw[ho];decide)
  have hv:nR 6 e.int (a::m)=AD (yV or3 m (tF_ a)):=rfl;rw[ho,hv];unfold gER_K;dsimp only;simp only[ho,Int.reduceEq,sl9];rw[zN 6 or3 abM (λa b ha hb=>by rw[show decide ((6:Int)=5)=false from rfl];exact ah4 ha hb) a m hm];rfl
 ·obtain⟨a,b,rfl,va,vb⟩:=Hu A (by rw[ho];rfl)
  have hv:nR 7 e.int [a,b]=AD (qN 7 a b):=rfl;rw[ho,hv];unfold gER_K;dsimp only;simp only[ho,Int.reduceEq,sl9];rw[show aF [a,b] (0:Int)=some a from rfl,aqo,show aF [a,b] (1:Int)=some b from rfl,aqo,fC,aqo,mX (gZ _ _ _)];rfl
 ·obtain⟨a,b,rfl,va,vb⟩:=Hu A (by rw[ho];rfl)
  have hv:nR 8 e.int [a,b]=AD (qN 8 a b):=rfl;rw[ho,hv];unfold gER_K;dsimp only;simp only[ho,Int.reduceEq,sl9];rw[show aF [a,b] (0:Int)=some a from rfl,aqo,show aF [a,b] (1:Int)=some b from rfl,aqo,fC,aqo,mX (gZ _ _ _)];rfl
 ·obtain⟨a,b,rfl,va,vb⟩:=Hu A (by rw[ho];rfl)
  have hv:nR 9 e.int [a,b]=AD (qN 9 a b):=rfl;rw[ho,hv];unfold gER_K;dsimp only;simp only[ho,Int.reduceEq,sl9];rw[show aF [a,b] (0:Int)=some a from rfl,aqo,show aF [a,b] (1:Int)=some b from rfl,aqo,fC,aqo,mX (gZ _ _ _)];rfl
 ·obtain⟨a,b,rfl,va,vb⟩:=Hu A (by rw[ho];rfl)
  have hv:nR 10 e.int [a,b]=AD (qN 10 a b):=rfl;rw[ho,hv];unfold gER_K;dsimp only;simp only[ho,Int.reduceEq,sl9];rw[show aF [a,b] (0:Int)=some a from rfl,aqo,show aF [a,b] (1:Int)=some b from rfl,aqo,fC,aqo,mX (gZ _ _ _)];rfl
 ·obtain⟨a,b,rfl,va,vb⟩:=Hu A (by rw[ho];rfl)
  have hv:nR 11 e.int [a,b]=AD (qN 11 a b):=rfl;rw[ho,hv];unfold gER_K;dsimp only;simp only[ho,Int.reduceEq,sl9];rw[show aF [a,b] (0:Int)=some a from rfl,aqo,show aF [a,b] (1:Int)=some b from rfl,aqo,fC,aqo,mX (gZ _ _ _)];rfl
 ·obtain⟨a,b,rfl,va,vb⟩:=Hu A (by rw[ho];rfl)
  have hv:nR 12 e.int [a,b]=AD (qN 12 a b):=rfl;rw[ho,hv];unfold gER_K;dsimp only;simp only[ho,Int.reduceEq,sl9];rw[show aF [a,b] (0:Int)=some a from rfl,aqo,show aF [a,b] (1:Int)=some b from rfl,aqo,fC,aqo,mX (gZ _ _ _)];rfl
 ·obtain⟨a,b,rfl,va,vb⟩:=Hu A (by rw[ho];rfl)
  have hv:nR 13 e.int [a,b]=eK 13 a b:=rfl;rw[ho,hv];unfold gER_K;dsimp only;simp only[ho,Int.reduceEq,sl9];unfold eK;rw[kQ _ _ m5,aqo]
  cases ew [a,b] 1 with
  |false=>exact congrArg (λo:Option Val=>o.bind λr=>some r) bT
  |true=>exact congrArg (λo:Option Val=>o.bind λr=>some r) (en va.int).1
 ·obtain⟨a,b,rfl,va,vb⟩:=Hu A (by rw[ho];rfl)
  have hv:nR 14 e.int [a,b]=eK 14 a b:=rfl;rw[ho,hv];unfold gER_K;dsimp only;simp only[ho,Int.reduceEq,sl9];unfold eK;rw[kQ _ _ m5,aqo]
  cases ew [a,b] 1 with
  |false=>exact congrArg (λo:Option Val=>o.bind λr=>some r) bT
  |true=>exact congrArg (λo:Option Val=>o.bind λr=>some r) (en va.int).1
 ·obtain⟨a,b,rfl,va,vb⟩:=Hu A (by rw[ho];rfl)
  have hv:nR 15 e.int [a,b]=eK 15 a b:=rfl;rw[ho,hv];unfold gER_K;dsimp only;simp only[ho,Int.reduceEq,sl9];unfold eK;rw[kQ _ _ m5,aqo]
  cases ew [a,b] 1 with
  |false=>exact congrArg (λo:Option Val=>o.bind λr=>some r) bT
  |true=>exact congrArg (λo:Option Val=>o.bind λr=>some r) (en va.int).1
 ·obtain⟨a,b,rfl,va,vb⟩:=Hu A (by rw[ho];rfl)
  have hv:nR 16 e.int [a,b]=eK 16 a b:=rfl;rw[ho,hv];unfold gER_K;dsimp only;simp only[ho,Int.reduceEq,sl9];unfold eK;rw[kQ _ _ m5,aqo]
  cases ew [a,b] 1 with
  |false=>exact congrArg (λo:Option Val=>o.bind λr=>some r) bT
  |true=>exact congrArg (λo:Option Val=>o.bind λr=>some r) (en va.int).1
 ·obtain⟨a,b,rfl,va,vb⟩:=Hu A (by rw[ho];rfl)
  have hv:nR 17 e.int [a,b]=eK 17 a b:=rfl;rw[ho,hv];unfold gER_K;dsimp only;simp only[ho,Int.reduceEq,sl9];unfold eK;rw[kQ _ _ m5,aqo]
  cases ew [a,b] 1 with
  |false=>exact congrArg (λo:Option Val=>o.bind λr=>some r) bT
  |true=>exact congrArg (λo:Option Val=>o.bind λr=>some r) (en va.int).1
 ·obtain⟨a,rfl,va⟩:=sh1 A (by rw[ho];rfl)
  have hv:nR 18 e.int [a]=acy a:=rfl;rw[ho,hv];unfold gER_K;dsimp only;simp only[ho,Int.reduceEq,sl9];unfold acy;rw[kQ _ _ m5,aqo]
  cases ew [a] 1 with
  |false=>exact congrArg (λo:Option Val=>o.bind λr=>some r) bT
  |true=>exact congrArg (λo:Option Val=>o.bind λr=>some r) (iE _)
 ·obtain⟨a,b,rfl,va,vb⟩:=Hu A (by rw[ho];rfl)
  have hv:nR 19 e.int [a,b]=NA a b:=rfl;rw[ho,hv];unfold gER_K;dsimp only;simp only[ho,Int.reduceEq,sl9];rw[J1 va vb];rfl
 ·obtain⟨a,rfl,va⟩:=sh1 A (by rw[ho];rfl)
  have hv:nR 20 e.int [a]=Nq a:=rfl;rw[ho,hv];unfold gER_K;dsimp only;simp only[ho,Int.reduceEq,sl9];rw[KL];rfl
 ·obtain⟨a,rfl,va⟩:=sh1 A (by rw[ho];rfl)
  have hv:nR 21 e.int [a]=lu (decide (a.kind=0)):=rfl;rw[ho,hv];unfold gER_K;dsimp only;simp only[ho,Int.reduceEq,sl9];rw[show aF [a] (0:Int)=some a from rfl,aqo,r7];rfl
 ·obtain⟨a,b,c,rfl⟩:=sh3 A (by rw[ho];rfl)
  have hv:nR 22 e.int [a,b,c]=(bif decide (tF_ a=2)then b else c):=rfl;rw[ho,hv];unfold gER_K;dsimp only;simp only[ho,Int.reduceEq,sl9];unfold pX;rw[show decide ((22:Int)=22)=true from rfl,aqs,show aF [a,b,c] (0:Int)=some a from rfl,aqo,kF,aqo]
  cases decide (tF_ a=2)<;>rfl
 ·obtain⟨a,m,rfl,va,hm⟩:=af3 A (by rw[ho];decide)
  have hv:nR 23 e.int (a::m)=ye (a::m):=rfl;rw[ho,hv];unfold gER_K;dsimp only;simp only[ho,Int.reduceEq,sl9];rw[BU _ A.len];rfl
 ·obtain⟨a,b,c,d,rfl⟩:=sh4 A (by rw[ho];rfl)
  have hv:nR 24 e.int [a,b,c,d]=Nl e.int a b c d:=rfl;rw[ho,hv];unfold gER_K;dsimp only;simp only[ho,Int.reduceEq,sl9];rw[B5];rfl
theorem afo (e:Ex)(l:List Val)(i:Int)(A:qj e.op l)(hle:l.length=e.args.length)(ho:e.op=4\/e.op=5\/e.op=6\/e.op=7\/e.op=8\/e.op=9\/e.op=10\/e.op=11\/e.op=12\/e.op=13\/e.op=14\/e.op=15\/e.op=16\/e.op=17\/e.op=18\/e.op=19\/e.op=20\/e.op=21\/e.op=23\/e.op=24):bv e (.inl (l,i))=some (nR e.op e.int l):=by
 obtain ho|ho|ho|ho|ho|ho|ho|ho|ho|ho|ho|ho|ho|ho|ho|ho|ho|ho|ho|ho:=ho
 ·obtain⟨a,rfl,va⟩:=sh1 A (by rw[ho];rfl)
  have hv:nR 4 e.int [a]=AD (Ho (tF_ a)):=rfl;rw[ho,hv];unfold bv;dsimp only;rw[aqu hle,aqs];simp only[ho,Int.reduceEq,sl9];rw[Js];rfl
 ·obtain⟨a,m,rfl,va,hm⟩:=af3 A (by rw[ho];decide)
  have hv:nR 5 e.int (a::m)=AD (yV KW m (tF_ a)):=rfl;rw[ho,hv];unfold bv;dsimp only;rw[aqu hle,aqs];simp only[ho,Int.reduceEq,sl9];rw[I5 a m hm];rfl
 ·obtain⟨a,m,rfl,va,hm⟩:=af3 A (by rw[ho];decide)
  have hv:nR 6 e.int (a::m)=AD (yV or3 m (tF_ a)):=rfl;rw[ho,hv];unfold bv;dsimp only;rw[aqu hle,aqs];simp only[ho,Int.reduceEq,sl9];rw[Oh a m hm];rfl
 ·obtain⟨a,b,rfl,va,vb⟩:=Hu A (by rw[ho];rfl)
  have hv:nR 7 e.int [a,b]=AD (qN 7 a b):=rfl;rw[ho,hv];unfold bv;dsimp only;rw[aqu hle,aqs];simp only[ho,Int.reduceEq,sl9];rw[show aF [a,b] (0:Int)=some a from rfl,aqo,show aF [a,b] (1:Int)=some b from rfl,aqo,dK,aqo,iG (gZ _ _ _)];rfl
 ·obtain⟨a,b,rfl,va,vb⟩:=Hu A (by rw[ho];rfl)
  have hv:nR 8 e.int [a,b]=AD (qN 8 a b):=rfl;rw[ho,hv];unfold bv;dsimp only;rw[aqu hle,aqs];simp only[ho,Int.reduceEq,sl9];rw[show aF [a,b] (0:Int)=some a from rfl,aqo,show aF [a,b] (1:Int)=some b from rfl,aqo,dK,aqo,iG (gZ _ _ _)];rfl
 ·obtain⟨a,b,rfl,va,vb⟩:=Hu A (by rw[ho];rfl)
  have hv:nR 9 e.int [a,b]=AD (qN 9 a b):=rfl;rw[ho,hv];unfold bv;dsimp only;rw[aqu hle,aqs];simp only[ho,Int.reduceEq,sl9];rw[show aF [a,b] (0:Int)=some a from rfl,aqo,show aF [a,b] (1:Int)=some b from rfl,aqo,dK,aqo,iG (gZ _ _ _)];rfl
 ·obtain⟨a,b,rfl,va,vb⟩:=Hu A (by rw[ho];rfl)
  have hv:nR 10 e.int [a,b]=AD (qN 10 a b):=rfl;rw[ho,hv];unfold bv;dsimp only;rw[aqu hle,aqs];simp only[ho,Int.reduceEq,sl9];rw[show aF [a,b] (0:Int)=some a from rfl,aqo,show aF [a,b] (1:Int)=some b from rfl,aqo,dK,aqo,iG (gZ _ _ _)];rfl
 ·obtain⟨a,b,rfl,va,vb⟩:=Hu A (by rw[ho];rfl)
  have hv:nR 11 e.int [a,b]=AD (qN 11 a b):=rfl;rw[ho,hv];unfold bv;dsimp only;rw[aqu hle,aqs];simp only[ho,Int.reduceEq,sl9];rw[show aF [a,b] (0:Int)=some a from rfl,aqo,show aF [a,b] (1:Int)=some b from rfl,aqo,dK,aqo,iG (gZ _ _ _)];rfl
 ·obtain⟨a,b,rfl,va,vb⟩:=Hu A (by rw[ho];rfl)
  have hv:nR 12 e.int [a,b]=AD (qN 12 a b):=rfl;rw[ho,hv];unfold bv;dsimp only;rw[aqu hle,aqs];simp only[ho,Int.reduceEq,sl9];rw[show aF [a,b] (0:Int)=some a from rfl,aqo,show aF [a,b] (1:Int)=some b from rfl,aqo,dK,aqo,iG (gZ _ _ _)];rfl
 ·obtain⟨a,b,rfl,va,vb⟩:=Hu A (by rw[ho];rfl)
  have hv:nR 13 e.int [a,b]=eK 13 a b:=rfl;rw[ho,hv];unfold bv;dsimp only;rw[aqu hle,aqs];simp only[ho,Int.reduceEq,sl9];rw[kD va m0];rfl
 ·obtain⟨a,b,rfl,va,vb⟩:=Hu A (by rw[ho];rfl)
  have hv:nR 14 e.int [a,b]=eK 14 a b:=rfl;rw[ho,hv];unfold bv;dsimp only;rw[aqu hle,aqs];simp only[ho,Int.reduceEq,sl9];rw[kD va m0];rfl
 ·obtain⟨a,b,rfl,va,vb⟩:=Hu A (by rw[ho];rfl)
  have hv:nR 15 e.int [a,b]=eK 15 a b:=rfl;rw[ho,hv];unfold bv;dsimp only;rw[aqu hle,aqs];simp only[ho,Int.reduceEq,sl9];rw[kD va m0];rfl
 ·obtain⟨a,b,rfl,va,vb⟩:=Hu A (by rw[ho];rfl)
  have hv:nR 16 e.int [a,b]=eK 16 a b:=rfl;rw[ho,hv];unfold bv;dsimp only;rw[aqu hle,aqs];simp only[ho,Int.reduceEq,sl9];rw[kD va m0];rfl
 ·obtain⟨a,b,rfl,va,vb⟩:=Hu A (by rw[ho];rfl)
  have hv:nR 17 e.int [a,b]=eK 17 a b:=rfl;rw[ho,hv];unfold bv;dsimp only;rw[aqu hle,aqs];simp only[ho,Int.reduceEq,sl9];rw[kD va m0];rfl
 ·obtain⟨a,rfl,va⟩:=sh1 A (by rw[ho];rfl)
  have hv:nR 18 e.int [a]=acy a:=rfl;rw[ho,hv];unfold bv;dsimp only;rw[aqu hle,aqs];simp only[ho,Int.reduceEq,sl9];rw[M6];rfl
 ·obtain⟨a,b,rfl,va,vb⟩:=Hu A (by rw[ho];rfl)
  have hv:nR 19 e.int [a,b]=NA a b:=rfl;rw[ho,hv];unfold bv;dsimp only;rw[aqu hle,aqs];simp only[ho,Int.reduceEq,sl9];rw[I9 va vb];rfl
 ·obtain⟨a,rfl,va⟩:=sh1 A (by rw[ho];rfl)
  have hv:nR 20 e.int [a]=Nq a:=rfl;rw[ho,hv];unfold bv;dsimp only;rw[aqu hle,aqs];simp only[ho,Int.reduceEq,sl9];rw[Lj va];rfl
 ·obtain⟨a,rfl,va⟩:=sh1 A (by rw[ho];rfl)
  have hv:nR 21 e.int [a]=lu (decide (a.kind=0)):=rfl;rw[ho,hv];unfold bv;dsimp only;rw[aqu hle,aqs];simp only[ho,Int.reduceEq,sl9];rw[show aF [a] (0:Int)=some a from rfl,aqo,E7];rfl
 ·obtain⟨a,m,rfl,va,hm⟩:=af3 A (by rw[ho];decide)
  have hv:nR 23 e.int (a::m)=ye (a::m):=rfl;rw[ho,hv];unfold bv;dsimp only;rw[aqu hle,aqs];simp only[ho,Int.reduceEq,sl9];exact M5 _ A.len
 ·obtain⟨a,b,c,d,rfl⟩:=sh4 A (by rw[ho];rfl)
  have hv:nR 24 e.int [a,b,c,d]=Nl e.int a b c d:=rfl;rw[ho,hv];unfold bv;dsimp only;rw[aqu hle,aqs];simp only[ho,Int.reduceEq,sl9];rw[Hh];rfl
theorem amJ (k:Int){op:Int}{l:List Val}(A:qj op l)(ho:op=4\/op=5\/op=6\/op=7\/op=8\/op=9\/op=10\/op=11\/op=12\/op=13\/op=14\/op=15\/op=16\/op=17\/op=18\/op=19\/op=20\/op=21\/op=22\/op=23\/op=24):vF (nR op k l)=true:=by
 obtain rfl|rfl|rfl|rfl|rfl|rfl|rfl|rfl|rfl|rfl|rfl|rfl|rfl|rfl|rfl|rfl|rfl|rfl|rfl|rfl|rfl:=ho
 ·exact qm _
 ·exact qm _
 ·exact qm _
 ·exact qm _
 ·exact qm _
 ·exact qm _
 ·exact qm _
 ·exact qm _
 ·exact qm _
 ·have PG:=A.lo
  have PT:=A.hi;rw[anu]at PG PT;dsimp only at PG PT;obtain⟨a,b,rfl⟩:=agA (l:=l) m0;exact nh (uw (A.vf a m5))
 ·have PG:=A.lo
  have PT:=A.hi;rw[ank]at PG PT;dsimp only at PG PT;obtain⟨a,b,rfl⟩:=agA (l:=l) m0;exact nh (uw (A.vf a m5))
 ·have PG:=A.lo
  have PT:=A.hi;rw[anF]at PG PT;dsimp only at PG PT;obtain⟨a,b,rfl⟩:=agA (l:=l) m0;exact nh (uw (A.vf a m5))
 ·have PG:=A.lo
  have PT:=A.hi;rw[anI]at PG PT;dsimp only at PG PT;obtain⟨a,b,rfl⟩:=agA (l:=l) m0;exact nh (uw (A.vf a m5))
 ·have PG:=A.lo
  have PT:=A.hi;rw[anJ]at PG PT;dsimp only at PG PT;obtain⟨a,b,rfl⟩:=agA (l:=l) m0;exact nh (uw (A.vf a m5))
 ·exact akW _
 ·exact alk _ _
 ·exact ajP _
 ·exact Bh _
 ·have PG:=A.lo
  have PT:=A.hi;rw[al1]at PG PT;dsimp only at PG PT;obtain⟨a,b,c,rfl⟩:=ajX (l:=l) m0;show vF (bif decide (tF_ a=2)then b else c)=true
  cases decide (tF_ a=2)
  ·exact A.vf c m5
  ·exact A.vf b m5
 ·exact aiN A.vf
 ·exact aku _ _ _ _ _
theorem Ec (row:List Val):∀ (n:Nat) (e:Ex),il n e ->∃ v,ik n e row=some v/\uu n e row=some v/\vF v=true
 |0,_,h=>h.elim
 |n+1,e,h=>by
  have hx:∀ x∈e.args,ik n x row=some ((ik n x row).getD bK)/\uu n x row=some ((ik n x row).getD bK)/\vF ((ik n x row).getD bK)=true:=by
   intro x hx;obtain⟨v,h1,h2,h3⟩:=Ec row n x (h.2 x hx);rw[h1];exact⟨rfl,h2,h3⟩
  generalize hg:(λx=>(ik n x row).getD bK)=g at hx;have SL:∀ x∈e.args,ik n x row=some (g x)/\uu n x row=some (g x)/\vF (g x)=true:=by subst hg;exact hx
  show ∃ v,tD (ik n) e row=some v/\yK (uu n) e row=some v/\vF v=true;have hR:tD (ik n) e row=(bif q_ e then gER_K e row (.inl (e.args.map g,(e.args.length:Int)))else some bK):=by
   unfold tD;rw[ww h.1,aqo,bT]
   cases q_ e with
   |false=>rfl
   |true =>
    rw[Bool.not_true,aqr,aqs];have:=cn (l:=e.args) (body:=kB e row (ik n)) (λx=>[g x]) 4398046511104 ?_ ?_ (by unfold fuel;have:=h.1;omega) [] ?_
    ·rw[this,aqv,<- List.map_eq_flatMap];rfl
    ·intro s i x O2 hb
     have hi:=(aqp.1 O2).1;have hlen:=h.1;unfold kB;dsimp only;rw[aO O2,aqs,gn_ O2,wrapN m0,aqo,(SL x (aqw O2)).1,aqo,aqu (show s.length+1<=4398046511104 from hb),aqs]
    ·intro s
     unfold kB;dsimp only;rw[lF_,aqr]
    ·have:=h.1
     rw[<- List.map_eq_flatMap,aqC];simp;omega
  have hP:yK (uu n) e row=(bif q_ e then(if e.op=1 then some e.v else if e.op=2 then some (orN (wA row e.int))else if e.op=22 then some (nR 22 e.int (e.args.map g))else bv e (.inl (e.args.map g,(e.args.length:Int))))else some bK):=by
   unfold yK;rw[yA h.1,aqo,jB]
   cases hf:q_ e with
   |false=>rfl
   |true =>
    rw[Bool.not_true,aqr,aqs];by_cases o1:e.op=1
    ·rw[aqu o1,aqs,if_pos o1]
    rw[aqt o1,aqr,if_neg o1];by_cases o2:e.op=2
    ·rw[aqu o2,aqs,if_pos o2,K3];rfl
    rw[aqt o2,aqr,if_neg o2];by_cases o3:e.op=22
    ·rw[aqu o3,aqs,if_pos o3]
     obtain⟨_,PG,PT,_⟩:=sY h.1 hf;rw[o3,al1]at PG PT;dsimp only at PG PT;obtain⟨a,b,c,ha⟩:=ajX (l:=e.args) m0;rw[ha]at SL ⊢;unfold AY;rw[show aF [a,b,c] (0:Int)=some a from rfl,show aF [a,b,c] (1:Int)=some b from rfl,show aF [a,b,c] (2:Int)=some c from rfl];simp only[aqo];rw[(SL a m5).2.1,aqo,gM,(SL b m5).2.1,(SL c m5).2.1];show _=some (bif decide (tF_ (g a)=2)then g b else g c);simp only[aqo]
     cases decide (tF_ (g a)=2)<;>rfl
    ·rw[aqt o3,aqr,if_neg o3]
     have hlen:=h.1;rw[aqu (show(0:Int)<=(e.args.length:Int)by omega),aqu (show(32:Int)*(e.args.length:Int)<=281474976710656 by omega),aqu (show(e.args.length:Int)<=9223372036854775807 by omega),aqs,aqs,aqs];have:=Ks (l:=e.args) (body:=mY e row (uu n)) g ?_ ?_ fuel 0 (List.replicate e.args.length ⟨0,0,empty⟩) m5 (aqL _) (by unfold fuel;omega)
     ·rw[show((0:Nat):Int)=0 from rfl]at this
      rw[this,List.take_zero,aqv,List.drop_zero];rfl
     ·intro c i x O2 hb
      have hi:=(aqp.1 O2).1;unfold mY;dsimp only;rw[aO O2,aqs,gn_ O2,wrapN m0,aqo,(SL x (aqw O2)).2.1,aqo,aqu (show(0:Int)<=(i:Int)by omega),aqs,aqs,show 0+((i:Int)).toNat=i by omega,aqu hb,aqs]
     ·intro c
      unfold mY;dsimp only;rw[lF_,aqr]
  rw[hR,hP]
  cases hf:q_ e with
  |false=>exact⟨_,rfl,rfl,kr⟩
  |true =>
   rw[aqs,aqs];obtain⟨hops,PG,PT,XN⟩:=sY h.1 hf;by_cases o1:e.op=1
   ·have hv:=JH o1 XN
    refine⟨e.v,?_,by rw[if_pos o1],hv⟩;unfold gER_K;dsimp only;rw[aqu o1,aqs,Gs e row o1 hv];rfl
   by_cases o2:e.op=2
   ·refine⟨orN (wA row e.int),?_,by rw[if_neg o1,if_pos o2],ol _⟩
    unfold gER_K;dsimp only;rw[aqt o1,aqr,aqu o2,aqs,aa' e row o2];rfl
   have A:qj e.op (e.args.map g):=by
    refine⟨by rw[aqC];exact PG,by rw[aqC];exact PT,by rw[aqC];exact h.1,λv hv=>?_⟩;obtain⟨x,O2,rfl⟩:=aq0.1 hv;exact(SL x O2).2.2
   have XO:e.op=4\/e.op=5\/e.op=6\/e.op=7\/e.op=8\/e.op=9\/e.op=10\/e.op=11\/e.op=12\/e.op=13\/e.op=14\/e.op=15\/e.op=16\/e.op=17\/e.op=18\/e.op=19\/e.op=20\/e.op=21\/e.op=22\/e.op=23\/e.op=24:=m0
   refine⟨nR e.op e.int (e.args.map g),ad2 e row _ _ A XO,?_,amJ _ A XO⟩;rw[if_neg o1,if_neg o2];by_cases o3:e.op=22
   ·rw[if_pos o3,o3]
   ·rw[if_neg o3]
    exact afo e _ _ A (by rw[aqC]) m0
def q7 (OZ:(List Int))(PE:Int):(Int)->Option (Step (Int) (Bool)):=λs=>match s with
 |i_1=>bif i_1<(OZ.length:Int)then(aF OZ i_1).bind λRD=>bif RD≠PE then bif RD≠(0:Int)then some (.ret false)else
 some (.next (i64.wrap (i_1+(1:Int))))else
 some (.next (i64.wrap (i_1+(1:Int))))else
 some (.exit i_1)
def aa9:Sum (Int) (Bool)->Option ((Bool))
 |.inl i_1=>some true
 |.inr q=>some q
def f8 (OZ:(List Int))(PE:Int):Option (Bool):=(ao (q7 OZ PE) fuel (0:Int)).bind (aa9)
instance gAll11_ok {OZ : (List Int)} {PE : Int} {r : Bool} : OkC (f8 OZ PE = some r) (PTz 235 [.one (.lst (OZ.map (λx => [AC.int .i64 x]))), .one (.int .i64 PE)] (.val (.one (.bool r)))) := .mk λH => by
 unfold f8 at H;refine po_ Tryz.func235 Tryz.ntmps235 ?_;refine a6 ?_;refine alM_ (λs:Int=>match s with|i_1=>[(0,.one (.c (.lst (OZ.map (λx=>[AC.int .i64 x]))))),(1,.one (.c (.int .i64 PE))),(5,.one (.c (.int .i64 i_1)))]) (λs=>match s with|i_1=>[]) H (λ_=>aqL _)
  (fm_ bE [] rfl bm trivial) ?_
 rintro i_1 QF OU Pz;unfold q7 at OU;dsimp only at OU ⊢;obtain⟨Qr,OU⟩|⟨Qr,OU⟩:=aj OU
 ·obtain⟨RD,Rw,i1,Ri,OU⟩:=br (f:=(λx=>[AC.int .i64 x])) OU
  obtain⟨Qf,OU⟩|⟨Qf,OU⟩:=aj OU
  ·obtain⟨Q6,OU⟩|⟨Q6,OU⟩:=aj OU
   ·exact bA OU Pz
   cases OU;refine a6 ?_;exact⟨_,rfl,fm_ bE [] rfl bm trivial⟩
  cases OU;refine a6 ?_;exact⟨_,rfl,fm_ bE [] rfl bm trivial⟩
 exact bA OU Pz
def zB (OZ:(List Int)):(Int×Int)->Option (Step (Int×Int) (Int×Bool)):=λs=>match s with
 |(Wz,i_2)=>bif i_2<(OZ.length:Int)then(aF OZ i_2).bind λPK=>bif PK=(0:Int)then some (.next (Wz,(i64.wrap (i_2+(1:Int)))))else
 bif Wz≠(0:Int)then bif Wz≠PK then some (.ret ((0:Int),false))else
 some (.next (PK,(i64.wrap (i_2+(1:Int)))))else
 some (.next (PK,(i64.wrap (i_2+(1:Int)))))else
 some (.exit (Wz,i_2))
def MU:Sum (Int×Int) (Int×Bool)->Option ((Int×Bool))
 |.inl (Wz,i_2)=>some (Wz,true)
 |.inr q=>some q
def ia (OZ:(List Int)):Option (Int×Bool):=(ao (zB OZ) fuel ((0:Int),(0:Int))).bind (MU)
instance gJoin11_ok {OZ : (List Int)} {r : Int × Bool} : OkC (ia OZ = some r) (PTz 236 [.one (.lst (OZ.map (λx => [AC.int .i64 x])))] (.tup [.one (.int .i64 r.1), .one (.bool r.2)])) := .mk λH => by
 unfold ia at H;refine po_ Tryz.func236 Tryz.ntmps236 ?_;refine a6 ?_;refine alM_ (λs:Int×Int=>match s with|(Wz,i_2)=>[(0,.one (.c (.lst (OZ.map (λx=>[AC.int .i64 x]))))),(4,.one (.c (.int .i64 Wz))),(5,.one (.c (.int .i64 i_2)))]) (λs=>match s with|(Wz,i_2)=>[]) H (λ_=>aqL _)
  (fm_ bE [] rfl bm trivial) ?_
 rintro⟨Wz,i_2⟩ QF OU Pz;unfold zB at OU;dsimp only at OU ⊢;obtain⟨P9,OU⟩|⟨P9,OU⟩:=aj OU
 ·obtain⟨PK,Rw,i1,Ri,OU⟩:=br (f:=(λx=>[AC.int .i64 x])) OU
  obtain⟨Q6,OU⟩|⟨Q6,OU⟩:=aj OU
  ·cases OU
   refine a6 ?_;exact⟨_,rfl,fm_ bE [] rfl bm trivial⟩
  obtain⟨QG,OU⟩|⟨QG,OU⟩:=aj OU
  ·obtain⟨R_,OU⟩|⟨R_,OU⟩:=aj OU
   ·exact bA OU Pz
   cases OU;refine a6 ?_;exact⟨_,rfl,fm_ bE [] rfl bm trivial⟩
  cases OU;refine a6 ?_;exact⟨_,rfl,fm_ bE [] rfl bm trivial⟩
 exact bA OU Pz
def gRs11 (OW:Ex)(OZ:(List Int))(O6:(List Int)):Option (Int×Bool):=bif OW.op=(1:Int)then some (OW.v.kind,true)else
 bif OW.op=(2:Int)then(aF O6 OW.int).bind λRD=>some (RD,true)else
 bif OW.op=(4:Int)then(f8 OZ (3:Int)).bind λPW=>some ((3:Int),PW)else
 bif OW.op=(5:Int)then(f8 OZ (3:Int)).bind λQk=>some ((3:Int),Qk)else
 bif OW.op=(6:Int)then(f8 OZ (3:Int)).bind λQw=>some ((3:Int),Qw)else
 bif OW.op=(7:Int)then(ia OZ).bind λQu=>some ((3:Int),Qu.2)else
 bif OW.op=(8:Int)then(ia OZ).bind λQv=>some ((3:Int),Qv.2)else
 bif OW.op=(9:Int)then(ia OZ).bind λSj=>some ((3:Int),Sj.2)else
 bif OW.op=(10:Int)then(ia OZ).bind λQ2=>some ((3:Int),Q2.2)else
 bif OW.op=(11:Int)then(ia OZ).bind λRF=>some ((3:Int),RF.2)else
 bif OW.op=(12:Int)then(ia OZ).bind λRH=>some ((3:Int),RH.2)else
 bif OW.op=(13:Int)then(f8 OZ (1:Int)).bind λTf=>some ((1:Int),Tf)else
 bif OW.op=(14:Int)then(f8 OZ (1:Int)).bind λUi=>some ((1:Int),Ui)else
 bif OW.op=(15:Int)then(f8 OZ (1:Int)).bind λVl=>some ((1:Int),Vl)else
 bif OW.op=(16:Int)then(f8 OZ (1:Int)).bind λQ3=>some ((1:Int),Q3)else
 bif OW.op=(17:Int)then(f8 OZ (1:Int)).bind λYJ=>some ((1:Int),YJ)else
 bif OW.op=(18:Int)then(f8 OZ (1:Int)).bind λW0=>some ((1:Int),W0)else
 bif OW.op=(19:Int)then(f8 OZ (2:Int)).bind λVm=>some ((2:Int),Vm)else
 bif OW.op=(20:Int)then(f8 OZ (2:Int)).bind λr_37=>some ((1:Int),r_37)else
 bif OW.op=(21:Int)then some ((3:Int),true)else
 bif OW.op=(22:Int)then(gU OZ (1:Int) (OZ.length:Int)).bind λs_40=>(ia s_40).bind λVn=>bif Vn.2 then(gU OZ (0:Int) (1:Int)).bind λs_43=>(f8 s_43 (3:Int)).bind λV_=>some (Vn.1,V_)else
 some (Vn.1,false)else
 bif OW.op=(23:Int)then(ia OZ).bind λUN=>some (UN.1,UN.2)else
 (f8 OZ (1:Int)).bind λr_47=>some ((3:Int),r_47)
instance gResult11_ok {OW : Ex} {OZ : (List Int)} {O6 : (List Int)} {r : Int × Bool} : OkC (gRs11 OW OZ O6 = some r) (PTz 201 [.agg (tE OW), .one (.lst (OZ.map (λx => [AC.int .i64 x]))), .one (.lst (O6.map (λx => [AC.int .i64 x])))] (.tup [.one (.int .i64 r.1), .one (.bool r.2)])) := .mk λH => by
 unfold gRs11 at H;rw[aC OW];refine po_ Tryz.func201 Tryz.ntmps201 ?_;obtain⟨QM,H⟩|⟨QM,H⟩:=aj H
 ·exact ay H
 obtain⟨Qr,H⟩|⟨Qr,H⟩:=aj H
 ·exact ay H
 refine a6 ?_;obtain⟨Qf,H⟩|⟨Qf,H⟩:=aj H
 ·exact ay H
 obtain⟨QG,H⟩|⟨QG,H⟩:=aj H
 ·exact ay H
 obtain⟨Si,H⟩|⟨Si,H⟩:=aj H
 ·exact ay H
 refine a6 ?_;obtain⟨Qn,H⟩|⟨Qn,H⟩:=aj H
 ·exact ay H
 obtain⟨Rj,H⟩|⟨Rj,H⟩:=aj H
 ·exact ay H
 obtain⟨QA,H⟩|⟨QA,H⟩:=aj H
 ·exact ay H
 refine a6 ?_;obtain⟨TO,H⟩|⟨TO,H⟩:=aj H
 ·exact ay H
 obtain⟨Rl,H⟩|⟨Rl,H⟩:=aj H
 ·exact ay H
 obtain⟨SU,H⟩|⟨SU,H⟩:=aj H
 ·exact ay H
 refine a6 ?_;obtain⟨TW,H⟩|⟨TW,H⟩:=aj H
 ·exact ay H
 obtain⟨UH,H⟩|⟨UH,H⟩:=aj H
 ·exact ay H
 obtain⟨YC,H⟩|⟨YC,H⟩:=aj H
 ·exact ay H
 refine a6 ?_;obtain⟨YH,H⟩|⟨YH,H⟩:=aj H
 ·exact ay H
 obtain⟨Yk,H⟩|⟨Yk,H⟩:=aj H
 ·exact ay H
 obtain⟨YK,H⟩|⟨YK,H⟩:=aj H
 ·exact ay H
 refine a6 ?_;obtain⟨Yl,H⟩|⟨Yl,H⟩:=aj H
 ·exact ay H
 obtain⟨Yn,H⟩|⟨Yn,H⟩:=aj H
 ·exact ay H
 obtain⟨Yo,H⟩|⟨Yo,H⟩:=aj H
 ·exact ay H
 refine a6 ?_;obtain⟨V2,H⟩|⟨V2,H⟩:=aj H
 ·obtain⟨s_40,u19,H⟩:=bd_ H
  obtain⟨⟨u19a,u19b,u19c⟩,u19⟩:=cQ u19;have u19x:=zm (f:=(λx=>[AC.int .i64 x])) u19;obtain⟨Vn,c20,H⟩:=bd_ H;replace c20:=gJoin11_ok c20;obtain⟨V3,H⟩|⟨V3,H⟩:=aj H
  ·obtain⟨s_43,u21,H⟩:=bd_ H
   obtain⟨⟨u21a,u21b,u21c⟩,u21⟩:=cQ u21;have u21x:=zm (f:=(λx=>[AC.int .i64 x])) u21;obtain⟨V_,c22,H⟩:=bd_ H;replace c22:=gAll11_ok c22
   cases H
   repeat' (first|refine gs_ ?_|rw[u19x]|rw[u21x]|rw[show((0:Nat):Int)=0 from rfl])
   refine aX (bg rfl ?_ ?_)
   ·repeat' (first|exact t7|rfl|exact aqA rfl|omega|apply And.intro)
   ·first|rfl|(simp only[aqD,aqB,aqF,aqv]<;>rfl)
  cases H
  repeat' (first|refine gs_ ?_|rw[u19x]|rw[show((0:Nat):Int)=0 from rfl])
  refine aX (bg rfl ?_ ?_)
  ·repeat' (first|exact t7|rfl|exact aqA rfl|omega|apply And.intro)
  ·first|rfl|(simp only[aqD,aqB,aqF,aqv]<;>rfl)
 exact ay H
def dA (OW:Ex)(rec:Ex->Option Int):(Int×Int)->Option (Step (Int×Int) (Int)):=λs=>match s with
 |(RS,i_2)=>bif i_2<(OW.args.length:Int)then(aF OW.args i_2).bind λPK=>(rec PK).bind λPW=>some (.next ((EE RS PW),(i64.wrap (i_2+(1:Int)))))else
 some (.exit (RS,i_2))
def Dt:Sum (Int×Int) (Int)->Option ((Int))
 |.inl (RS,i_2)=>some (i64.wrap (RS+(1:Int)))
 |.inr q=>some q
def nH (rec:Ex->Option Int)(OW:Ex):Option (Int):=(ao (dA OW rec) fuel ((0:Int),(0:Int))).bind (Dt)
theorem CU {rec:Ex->Option Int}  (Pm:∀ {x:Ex} {r:Int},rec x=some r->PTz 141 [.agg (tE x)] (.val (.one (.int .i64 r)))){OW:Ex}{r:Int}(H:nH rec OW=some r):PTz 141 [.agg (tE OW)] (.val (.one (.int .i64 r))):=by
 unfold nH at H;rw[aC OW];refine po_ Tryz.func141 Tryz.ntmps141 ?_;refine a6 ?_;refine alM_ (λs:Int×Int=>match s with|(RS,i_2)=>[(1,.one (.ptr 0 0)),(3,.one (.c (.int .i64 RS))),(4,.one (.c (.int .i64 i_2)))]) (λs=>match s with|(RS,i_2)=>[.box [.c (.int .i64 OW.op),.c (.int .i64 OW.int),.c (.int .i64 OW.v.kind),.c (.int .i64 OW.v.int),.c (.str OW.v.text),.c (.str OW.nm),.c (.lst (OW.args.map tE))]]) H (λ_=>aqL _)
  (fm_ bE [] rfl bm cm) ?_
 rintro⟨RS,i_2⟩ QF OU Pz;unfold dA at OU;dsimp only at OU ⊢;obtain⟨P9,OU⟩|⟨P9,OU⟩:=aj OU
 ·obtain⟨PK,Rw,i1,Ri,OU⟩:=br (f:=tE) OU
  simp only[aqD,aqB,aqF,aqv,aC]at Ri;obtain⟨PW,c2,OU⟩:=bd_ OU;replace c2:=Pm c2
  try simp only[aqD,aqB,aqF,aqv,aC]at c2
  cases OU;refine a6 ?_;exact⟨_,rfl,fm_ bE [] rfl bm cm⟩
 exact bA OU Pz
def lm:Nat->Ex->Option Int
 |0,_=>none
 |n+1,x=>nH (lm n) x
theorem wB:∀ (n:Nat) {x:Ex} {r:Int},lm n x=some r->PTz 141 [.agg (tE x)] (.val (.one (.int .i64 r)))
 |0,_,_,h=>nomatch h
 |n+1,_,_,h=>CU (wB n) h
def jR (OW:Ex)(O6:(List Int))(rec:Ex->List Int->Option (Int×Int)):((List Int)×Int)->Option (Step ((List Int)×Int) (Int×Int)):=λs=>match s with
 |(WA,Xi)=>bif Xi<(OW.args.length:Int)then(aF OW.args Xi).bind λRG=>(rec RG O6).bind λPM=>bif PM.2≠(0:Int)then some (.ret ((0:Int),PM.2))else
 bif WA.length+1<=17592186044416 then(some (.next ((WA++[PM.1]),(i64.wrap (Xi+(1:Int))))))else none else
 some (.exit (WA,Xi))
def Bc (OW:Ex)(O6:(List Int)):Sum ((List Int)×Int) (Int×Int)->Option ((Int×Int))
 |.inl (WA,Xi)=>(gRs11 OW WA O6).bind λRm=>bif (!Rm.2)then some ((0:Int),(7:Int))else
 some (Rm.1,(0:Int))
 |.inr q=>some q
def cg (OW:Ex)(O6:(List Int))(rec:Ex->List Int->Option (Int×Int)):((List Int)×Int)->Option (Step ((List Int)×Int) (Int×Int)):=λs=>match s with
 |(Ti,TY)=>bif TY<(OW.args.length:Int)then(aF OW.args TY).bind λUe=>(rec Ue O6).bind λQ7=>bif Q7.2≠(0:Int)then some (.ret ((0:Int),Q7.2))else
 bif Ti.length+1<=17592186044416 then(some (.next ((Ti++[Q7.1]),(i64.wrap (TY+(1:Int))))))else none else
 some (.exit (Ti,TY))
def sN (OW:Ex)(O6:(List Int)):Sum ((List Int)×Int) (Int×Int)->Option ((Int×Int))
 |.inl (Ti,TY)=>(gRs11 OW Ti O6).bind λVX=>bif (!VX.2)then some ((0:Int),(7:Int))else
 some (VX.1,(0:Int))
 |.inr q=>some q
def nB (rec:Ex->List Int->Option (Int×Int))(OW:Ex)(O6:(List Int)):Option (Int×Int):=(tn OW.op).bind λO7=>bif O7.1<(0:Int)then some ((0:Int),(7:Int))else
 (iy OW).bind λPY=>bif (!PY)then some ((0:Int),(8:Int))else
 bif OW.op=(2:Int)then bif OW.int<(0:Int)then some ((0:Int),(13:Int))else
 bif (O6.length:Int)<=OW.int then some ((0:Int),(13:Int))else
 (ao (jR OW O6 rec) fuel ([],(0:Int))).bind (Bc OW O6)else
 (ao (cg OW O6 rec) fuel ([],(0:Int))).bind (sN OW O6)
theorem Dc {rec:Ex->List Int->Option (Int×Int)}  (Pm:∀ {x:Ex} {y:List Int} {r:Int×Int},rec x y=some r->PTz 142 [.agg (tE x),.one (.lst (y.map (λx=>[AC.int .i64 x])))] (.tup [.one (.int .i64 r.1),.one (.int .i64 r.2)])){OW:Ex}{O6:(List Int)}{r:Int×Int}(H:nB rec OW O6=some r):PTz 142 [.agg (tE OW),.one (.lst (O6.map (λx=>[AC.int .i64 x])))] (.tup [.one (.int .i64 r.1),.one (.int .i64 r.2)]):=by
 unfold nB at H;rw[aC OW];refine po_ Tryz.func142 Tryz.ntmps142 ?_;obtain⟨O7,c1,H⟩:=bd_ H;replace c1:=gArity_ok c1;obtain⟨Qr,H⟩|⟨Qr,H⟩:=aj H
 ·exact ay H
 obtain⟨PY,c2,H⟩:=bd_ H;replace c2:=gFormedR_ok c2
 try simp only[aqD,aqB,aqF,aqv,aC]at c2
 obtain⟨Qf,H⟩|⟨Qf,H⟩:=aj H
 ·exact ay H
 obtain⟨Q6,H⟩|⟨Q6,H⟩:=aj H
 ·obtain⟨QG,H⟩|⟨QG,H⟩:=aj H
  ·exact ay H
  obtain⟨R_,H⟩|⟨R_,H⟩:=aj H
  ·exact ay H
  refine a6 ?_;refine bS 8 1 rfl ?_;refine alM_ (λs:(List Int)×Int=>match s with|(WA,Xi)=>[(1,.one (.c (.lst (O6.map (λx=>[AC.int .i64 x]))))),(2,.one (.ptr 0 0)),(8,.one (.own (WA.map (λx=>[AC.int .i64 x])) 1)),(9,.one (.c (.int .i64 Xi)))]) (λs=>match s with|(WA,Xi)=>[.box [.c (.int .i64 OW.op),.c (.int .i64 OW.int),.c (.int .i64 OW.v.kind),.c (.int .i64 OW.v.int),.c (.str OW.v.text),.c (.str OW.nm),.c (.lst (OW.args.map tE))],.spare WA.length 1]) H (λ_=>aqL _)
   (fm_ bE [] rfl bm cm) ?_
  rintro⟨WA,Xi⟩ QF OU Pz;unfold jR at OU;dsimp only at OU ⊢;obtain⟨Qn,OU⟩|⟨Qn,OU⟩:=aj OU
  ·obtain⟨RG,Y2,i3,XB,OU⟩:=br (f:=tE) OU
   simp only[aqD,aqB,aqF,aqv,aC]at XB;obtain⟨PM,c4,OU⟩:=bd_ OU;replace c4:=Pm c4
   try simp only[aqD,aqB,aqF,aqv,aC]at c4
   exact bA OU Pz
  exact bA OU Pz
 refine a6 ?_;refine bS 8 1 rfl ?_;refine alM_ (λs:(List Int)×Int=>match s with|(Ti,TY)=>[(1,.one (.c (.lst (O6.map (λx=>[AC.int .i64 x]))))),(2,.one (.ptr 0 0)),(8,.one (.own (Ti.map (λx=>[AC.int .i64 x])) 1)),(9,.one (.c (.int .i64 TY)))]) (λs=>match s with|(Ti,TY)=>[.box [.c (.int .i64 OW.op),.c (.int .i64 OW.int),.c (.int .i64 OW.v.kind),.c (.int .i64 OW.v.int),.c (.str OW.v.text),.c (.str OW.nm),.c (.lst (OW.args.map tE))],.spare Ti.length 1]) H (λ_=>aqL _)
  (fm_ bE [] rfl bm cm) ?_
 rintro⟨Ti,TY⟩ ZH PP UD;unfold cg at PP;dsimp only at PP ⊢;obtain⟨Rl,PP⟩|⟨Rl,PP⟩:=aj PP
 ·obtain⟨Ue,i7z,i7,i7x,PP⟩:=br (f:=tE) PP
  simp only[aqD,aqB,aqF,aqv,aC]at i7x;obtain⟨Q7,c8,PP⟩:=bd_ PP;replace c8:=Pm c8
  try simp only[aqD,aqB,aqF,aqv,aC]at c8
  exact bA PP UD
 exact bA PP UD
def iC:Nat->Ex->List Int->Option (Int×Int)
 |0,_,_=>none
 |n+1,x,y=>nB (iC n) x y
theorem vX:∀ (n:Nat) {x:Ex} {y:List Int} {r:Int×Int},iC n x y=some r->PTz 142 [.agg (tE x),.one (.lst (y.map (λx=>[AC.int .i64 x])))] (.tup [.one (.int .i64 r.1),.one (.int .i64 r.2)])
 |0,_,_,_,h=>nomatch h
 |n+1,_,_,_,h=>Dc (vX n) h
def vk (OW:Ex)(O6:(List Int)):Option (Int×Int):=(lm fuel OW).bind λO7=>bif (24:Int)<O7 then some ((0:Int),(26:Int))else
 (iC fuel OW O6).bind λPY=>some (PY.1,PY.2)
instance gChk11_ok {OW : Ex} {O6 : (List Int)} {r : Int × Int} : OkC (vk OW O6 = some r) (PTz 89 [.agg (tE OW), .one (.lst (O6.map (λx => [AC.int .i64 x])))] (.tup [.one (.int .i64 r.1), .one (.int .i64 r.2)])) := .mk λH => by
 unfold vk at H;rw[aC OW];refine po_ Tryz.func89 Tryz.ntmps89 ?_;obtain⟨O7,c1,H⟩:=bd_ H;replace c1:=wB fuel c1
 try simp only[aqD,aqB,aqF,aqv,aC]at c1
 obtain⟨Qr,H⟩|⟨Qr,H⟩:=aj H
 ·exact ay H
 obtain⟨PY,c2,H⟩:=bd_ H;replace c2:=vX fuel c2
 try simp only[aqD,aqB,aqF,aqv,aC]at c2
 exact ay H
def uh (OW:Ex)(O6:(List Int)):Option (Int):=(vk OW O6).bind λO7=>bif O7.2≠(0:Int)then some O7.2 else
 bif O7.1≠(3:Int)then bif O7.1≠(0:Int)then some (7:Int)else
 some (0:Int)else
 some (0:Int)
instance gPred21_ok {OW : Ex} {O6 : (List Int)} {r : Int} : OkC (uh OW O6 = some r) (PTz 49 [.agg (tE OW), .one (.lst (O6.map (λx => [AC.int .i64 x])))] (.val (.one (.int .i64 r)))) := .mk λH => by
 unfold uh at H;rw[aC OW];refine po_ Tryz.func49 Tryz.ntmps49 ?_;exact ay H
def dB (OW:Ex)(PS:Int)(rec:Ex->Int->Option Int):(Int×Int)->Option (Step (Int×Int) (Int)):=λs=>match s with
 |(RS,i_2)=>bif i_2<(OW.args.length:Int)then bif RS<PS then(aF OW.args i_2).bind λQa=>(rec Qa (i64.wrap (PS-RS))).bind λP1=>some (.next ((i64.wrap (RS+P1)),(i64.wrap (i_2+(1:Int)))))else
 some (.exit (RS,i_2))else
 some (.exit (RS,i_2))
def F8:Sum (Int×Int) (Int)->Option ((Int))
 |.inl (RS,i_2)=>some RS
 |.inr q=>some q
def q8 (rec:Ex->Int->Option Int)(OW:Ex)(PS:Int):Option (Int):=(ao (dB OW PS rec) fuel ((1:Int),(0:Int))).bind (F8)
theorem GR {rec:Ex->Int->Option Int}  (Pm:∀ {x:Ex} {y:Int} {r:Int},rec x y=some r->PTz 88 [.agg (tE x),.one (.int .i64 y)] (.val (.one (.int .i64 r)))){OW:Ex}{PS:Int}{r:Int}(H:q8 rec OW PS=some r):PTz 88 [.agg (tE OW),.one (.int .i64 PS)] (.val (.one (.int .i64 r))):=by
 unfold q8 at H;rw[aC OW];refine po_ Tryz.func88 Tryz.ntmps88 ?_;refine a6 ?_;refine alM_ (λs:Int×Int=>match s with|(RS,i_2)=>[(1,.one (.c (.int .i64 PS))),(2,.one (.ptr 0 0)),(5,.one (.c (.int .i64 RS))),(6,.one (.c (.int .i64 i_2)))]) (λs=>match s with|(RS,i_2)=>[.box [.c (.int .i64 OW.op),.c (.int .i64 OW.int),.c (.int .i64 OW.v.kind),.c (.int .i64 OW.v.int),.c (.str OW.v.text),.c (.str OW.nm),.c (.lst (OW.args.map tE))]]) H (λ_=>aqL _)
  (fm_ bE [] rfl bm cm) ?_
 rintro⟨RS,i_2⟩ QF OU Pz;unfold dB at OU;dsimp only at OU ⊢;obtain⟨P9,OU⟩|⟨P9,OU⟩:=aj OU
 ·obtain⟨Qf,OU⟩|⟨Qf,OU⟩:=aj OU
  ·obtain⟨Qa,Rw,i1,Ri,OU⟩:=br (f:=tE) OU
   simp only[aqD,aqB,aqF,aqv,aC]at Ri;obtain⟨P1,c2,OU⟩:=bd_ OU;replace c2:=Pm c2
   try simp only[aqD,aqB,aqF,aqv,aC]at c2
   cases OU;refine a6 ?_;exact⟨_,rfl,fm_ bE [] rfl bm cm⟩
  exact bA OU Pz
 exact bA OU Pz
def mU:Nat->Ex->Int->Option Int
 |0,_,_=>none
 |n+1,x,y=>q8 (mU n) x y
theorem zn:∀ (n:Nat) {x:Ex} {y:Int} {r:Int},mU n x y=some r->PTz 88 [.agg (tE x),.one (.int .i64 y)] (.val (.one (.int .i64 r)))
 |0,_,_,_,h=>nomatch h
 |n+1,_,_,_,h=>GR (zn n) h
def Eu (OZ:(List Ex))(PS:Int):Option (Bool):=(mU fuel (Ex.mk (0:Int) (0:Int) (⟨(0:Int),(0:Int),empty⟩:Val) empty OZ) (i64.wrap (PS+(2:Int)))).bind λO7=>some (decide (O7<=(i64.wrap (PS+(1:Int)))))
instance gSmall_ok {OZ : (List Ex)} {PS : Int} {r : Bool} : OkC (Eu OZ PS = some r) (PTz 48 [.one (.lst (OZ.map tE)), .one (.int .i64 PS)] (.val (.one (.bool r)))) := .mk λH => by
 unfold Eu at H;refine po_ Tryz.func48 Tryz.ntmps48 ?_;obtain⟨O7,c1,H⟩:=bd_ H;replace c1:=zn fuel c1
 try simp only[aqD,aqB,aqF,aqv,aC]at c1
 exact ay H
theorem wo (e:Ex)(m:Int)(hm:1<=m/\m<=1000)(rec:Ex->Int->Option Int)
  (Pm:∀ x∈e.args,∀ k:Int,1<=k->k<m ->∃ r,rec x k=some r/\1<=r/\r<=k/\(r<k->il r.toNat x)) :
  ∀ (N i:Nat) (c:Int),1<=c->c<=m->i<=e.args.length->(m-c).toNat<N->(i:Int)<=c ->
   ∃ r j,ao (dB e m rec) N (c,(i:Int))=some (.inl (r,j))/\c<=r/\r<=m/\(r<m->((e.args.length-i:Nat):Int)<=r-c /\ ∀ x∈e.args.drop i,il (r-c).toNat x)
 |0,i,c,_,_,_,h,_=>by omega
 |N+1,i,c,h1,h2,hi,hN,hic=>by
  rw[ao];by_cases O0:i<e.args.length
  ·obtain⟨x,hx⟩:=gol_ O0
   have R5:=aqw hx;by_cases hc:c<m
   ·obtain⟨w,hw,w1,w2,w3⟩:=Pm x R5 (m-c) m0 m0
    have hb:dB e m rec (c,(i:Int))=some (.next (c+w,((i+1:Nat):Int))):=by
     unfold dB;dsimp only;rw[aO hx,aqs,aqu hc,aqs,gn_ hx,aqo,dj m0,hw,aqo,dj m0,wrapN m0]
    rw[hb];obtain⟨r,j,e1,e2,e3,e4⟩:=wo e m hm rec Pm N (i+1) (c+w) m0 m0 m0 m0 m0;refine⟨r,j,e1,m0,e3,λhr=>?_⟩;obtain⟨f1,f2⟩:=e4 hr;refine⟨m0,λy hy=>?_⟩;rw[aqW O0,(aqp.1 hx).2]at hy;obtain rfl|hy:=aqH.1 hy
    ·exact nj m0 (w3 m0)
    ·exact nj m0 (f2 y hy)
   ·have hb:dB e m rec (c,(i:Int))=some (.exit (c,(i:Int))):=by
     unfold dB;dsimp only;rw[aO hx,aqs,aqt hc,aqr]
    rw[hb];exact⟨c,_,rfl,Int.le_refl _,h2,λhr=>absurd hr hc⟩
  ·have:i=e.args.length:=m0
   subst this;have hb:dB e m rec (c,(e.args.length:Int))=some (.exit (c,(e.args.length:Int))):=by
    unfold dB;dsimp only;rw[lF_,aqr]
   rw[hb];refine⟨c,_,rfl,Int.le_refl _,h2,λhr=>⟨m0,λy hy=>?_⟩⟩;rw[arn]at hy
   cases hy
theorem Ey:∀ (n:Nat) (e:Ex) (m:Int),1<=m->m<=1000->m<=(n:Int) ->∃ r,mU n e m=some r/\1<=r/\r<=m/\(r<m->il r.toNat e/\(e.args.length:Int)<r /\ ∀ x∈e.args,il (r-1).toNat x)
 |0,e,m,h1,_,h3=>by omega
 |n+1,e,m,h1,h2,h3=>by
  have Pm:∀ x∈e.args,∀ k:Int,1<=k->k<m ->∃ r,mU n x k=some r/\1<=r/\r<=k/\(r<k->il r.toNat x):=by
   intro x _ k k1 k2;obtain⟨r,e1,e2,e3,e4⟩:=Ey n x k k1 m0 m0;exact⟨r,e1,e2,e3,λh=>(e4 h).1⟩
  obtain⟨r,j,e1,e2,e3,e4⟩:=wo e m ⟨h1,h2⟩ (mU n) Pm fuel 0 1 (Int.le_refl _) h1 (aqL _) (by unfold fuel;omega) m0;refine⟨r,?_,e2,e3,λhr=>?_⟩
  ·show q8 (mU n) e m=_
   unfold q8;rw[show((0:Nat):Int)=0 from rfl]at e1;rw[e1];rfl
  ·obtain⟨f1,f2⟩:=e4 hr
   rw[List.drop_zero]at f2;refine⟨?_,m0,f2⟩;obtain⟨k,hk⟩:∃ k,r.toNat=k+1:=⟨r.toNat-1,m0⟩;rw[hk];refine⟨m0,λx hx=>?_⟩;have:=f2 x hx;rwa[show(r-1).toNat=k by omega]at this
theorem Ov (l:List Ex):∃ b,Eu l 200=some b/\(b=true->l.length<=200 /\ ∀ e∈l,il 200 e):=by
 obtain⟨r,e1,e2,e3,e4⟩:=Ey fuel (Ex.mk 0 0 ⟨0,0,empty⟩ empty l) 202 m0 m0 (by unfold fuel;omega);refine⟨decide (r<=201),?_,λh=>?_⟩
 ·unfold Eu
  rw[dj m0,dj m0];show(mU fuel (Ex.mk 0 0 ⟨0,0,empty⟩ empty l) 202).bind _=_;rw[e1];rfl
 ·have:=aqT h
  obtain⟨_,f1,f2⟩:=e4 m0;exact⟨by have:(l.length:Int)<r:=f1;omega,λe he=>nj m0 (f2 e he)⟩
theorem On {e:Ex}(h:il 200 e):il fuel e:=nj (by unfold fuel;omega) h
theorem zU (e:Ex)(m:Int)(hm:2<=m/\m<=1000)(B:Int)(hB:B<=4611686018427387904)(rec:Ex->Option Int)(Wa:Ex->Int->Option Int)
  (Pm:∀ x∈e.args,∃ d,rec x=some d/\1<=d/\d<=B/\Wa x (m-1)=some (min d (m-1))) (hlen:e.args.length<=100000) :
  ∀ (N i:Nat) (a:Int),0<=a->a<=max 0 B->i<=e.args.length->e.args.length-i<N ->
   ∃ r,ao (dA e rec) N (a,(i:Int))=some (.inl (r,(e.args.length:Int)))/\ao (ez e m Wa) N (min (a+1) m,(i:Int))=some (.inl (min (r+1) m,(e.args.length:Int)))/\0<=r/\r<=max 0 B
 |0,i,a,_,_,_,h=>by omega
 |N+1,i,a,h1,h2,hi,hN=>by
  rw[ao,ao];by_cases O0:i<e.args.length
  ·obtain⟨x,hx⟩:=gol_ O0
   obtain⟨d,e1,e2,e3,e4⟩:=Pm x (aqw hx);have hb:dA e rec (a,(i:Int))=some (.next (max a d,((i+1:Nat):Int))):=by
    unfold dA;dsimp only;rw[aO hx,aqs,gn_ hx,aqo,e1,aqo,wrapN m0];congr 3;unfold EE;split<;>omega
   have PP:ez e m Wa (min (a+1) m,(i:Int))=some (.next (min (max a d+1) m,((i+1:Nat):Int))):=by
    unfold ez;dsimp only;rw[aO hx,aqs,gn_ hx,aqo,dj m0,e4,aqo,dj m0,wrapN m0];congr 3;unfold EE;split<;>omega
   rw[hb,PP];exact zU e m hm B hB rec Wa Pm hlen N (i+1) (max a d) m0 m0 m0 m0
  ·have:i=e.args.length:=m0
   subst this;have hb:dA e rec (a,(e.args.length:Int))=some (.exit (a,(e.args.length:Int))):=by
    unfold dA;dsimp only;rw[lF_,aqr]
   have PP:ez e m Wa (min (a+1) m,(e.args.length:Int))=some (.exit (min (a+1) m,(e.args.length:Int))):=by
    unfold ez;dsimp only;rw[lF_,aqr]
   rw[hb,PP];exact⟨a,rfl,rfl,h1,h2⟩
theorem zw:∀ (n:Nat) (e:Ex),n<=4611686018427387904->il n e ->∃ d,lm n e=some d/\1<=d/\d<=(n:Int) /\ ∀ m:Int,1<=m->m<=1000->pZ n e m=some (min d m)
 |0,_,_,h=>h.elim
 |n+1,e,hn,h=>by
  have hd:∃ r,(∀ m:Int,2<=m->m<=1000->ao (ez e m (pZ n)) fuel (1,0)=some (.inl (min (r+1) m,(e.args.length:Int))))/\ao (dA e (lm n)) fuel (0,0)=some (.inl (r,(e.args.length:Int)))/\0<=r/\r<=max 0 (n:Int):=by
   have key:∀ m:Int,2<=m->m<=1000->_:=λm h1 h2=>zU e m ⟨h1,h2⟩ (n:Int) m0 (lm n) (pZ n) (by
    intro x hx;obtain⟨d,e1,e2,e3,e4⟩:=zw n x m0 (h.2 x hx);exact⟨d,e1,e2,e3,e4 (m-1) m0 m0⟩) h.1 fuel 0 0 (Int.le_refl _) m0 (aqL _) (by unfold fuel;have:=h.1;omega)
   obtain⟨r,e1,e2,e3,e4⟩:=key 2 m0 m0;refine⟨r,λm h1 h2=>?_,e1,e3,e4⟩;obtain⟨r',f1,f2,f3,f4⟩:=key m h1 h2;have:r'=r:=by
    rw[e1]at f1;have:=aqX f1;injection this with this
    injection this with this _
    exact this.symm
   subst this;rw[show min ((0:Int)+1) m=1 by omega]at f2;exact f2
  obtain⟨r,k1,k2,k3,k4⟩:=hd;refine⟨r+1,?_,m0,m0,λm h1 h2=>?_⟩
  ·show nH (lm n) e=_
   unfold nH;rw[k2];show some (i64.wrap (r+1))=_;rw[dj m0]
  ·show rV (pZ n) e m=_
   unfold rV;by_cases hm:m<=1
   ·rw[aqu hm,aqs]
    congr 1;omega
   ·rw[aqt hm,aqr,k1 m m0 h2];rfl
def M7:Int->List Int->Option Int
 |t,[]=>some t
 |t,x::l=>if x=0 then M7 t l else if t≠0/\t≠x then none else M7 x l
def al8 (o:Option Int):Int×Bool:=match o with|some k=>(k,true)|none=>(0,false)
theorem DF:∀ (l:List Int) (t:Int),cA (ρ:=Int×Bool) (λt x=>some (if x=0 then .inl t else if t≠0/\t≠x then .inr (0,false)else .inl x)) t l=some (match M7 t l with|some k => .inl k|none => .inr (0,false))
 |[],t=>rfl
 |x::l,t=>by
  rw[cA,M7];by_cases h:x=0
  ·rw[if_pos h,if_pos h];exact DF l t
  ·rw[if_neg h,if_neg h]
   by_cases h2:t≠0/\t≠x
   ·rw[if_pos h2,if_pos h2]
   ·rw[if_neg h2,if_neg h2];exact DF l x
theorem fe (l:List Int)(hl:l.length<=1000000):iT l=some (al8 (M7 0 l)):=by
 unfold iT;rw[bX (l:=l) (mk:=λt i=>(t,i)) (f:=λt x=>some (if x=0 then .inl t else if t≠0/\t≠x then .inr (0,false)else .inl x)) ?_ ?_ (by unfold fuel;omega) (0:Int)]
 ·rw[DF]
  cases M7 0 l<;>rfl
 ·intro s i x hx
  have hi:=(aqp.1 hx).1;unfold rZ;dsimp only;rw[aO hx,aqs,gn_ hx,wrapN m0];simp only[aqo];by_cases h:x=0
  ·rw[aqu h,aqs,if_pos h];rfl
  ·rw[aqt h,aqr,if_neg h]
   by_cases h1:s=0
   ·rw[aqt (show ¬ s≠0 by omega),aqr,if_neg m0];rfl
   ·rw[aqu (show s≠0 from h1),aqs]
    by_cases h2:s=x
    ·rw[aqt (show ¬ s≠x by omega),aqr,if_neg m0];rfl
    ·rw[aqu (show s≠x from h2),aqs,if_pos ⟨h1,h2⟩];rfl
 ·intro s
  unfold rZ;dsimp only;rw[lF_,aqr]
theorem jQ (l:List Int)(hl:l.length<=1000000):ia l=some (al8 (M7 0 l)):=(show ia l=iT l from rfl).trans (fe l hl)
def fo (l:List Int)(k:Int):Bool:=l.all λx=>decide (x=k)||decide (x=0)
theorem df (l:List Int)(k:Int)(hl:l.length<=1000000):f8 l k=some (fo l k):=by
 unfold f8;rw[bX (l:=l) (mk:=λ(_:Unit) i=>i) (f:=λ_ x=>some (if x=k\/x=0 then .inl ()else .inr false)) ?_ ?_ (by unfold fuel;omega) ()]
 ·have:∀ l:List Int,cA (ρ:=Bool) (λ(_:Unit) (x:Int)=>some (if x=k\/x=0 then .inl ()else .inr false)) () l=some (if fo l k=true then .inl ()else .inr false):=by
   intro l
   induction l with
   |nil=>rfl
   |cons x l ih =>
    rw[cA];by_cases h:x=k\/x=0
    ·rw[if_pos h]
     show cA _ () l=_;rw[ih];have:fo (x::l) k=fo l k:=by
      unfold fo;rw[List.all_cons];rcases h with h|h<;>simp[h]
     rw[this]
    ·rw[if_neg h]
     have:fo (x::l) k=false:=by
      unfold fo;rw[List.all_cons,aqt (λe=>h (.inl e)),aqt (λe=>h (.inr e))];rfl
     rw[this];rfl
  rw[this]
  cases fo l k<;>rfl
 ·intro s i x hx
  have hi:=(aqp.1 hx).1;unfold q7;dsimp only;rw[aO hx,aqs,gn_ hx,wrapN m0];simp only[aqo];by_cases h:x=k
  ·rw[aqt (show ¬ x≠k by omega),aqr,if_pos (.inl h)];rfl
  ·rw[aqu (show x≠k from h),aqs]
   by_cases h2:x=0
   ·rw[aqt (show ¬ x≠0 by omega),aqr,if_pos (.inr h2)];rfl
   ·rw[aqu (show x≠0 from h2),aqs,if_neg m0];rfl
 ·intro s
  unfold q7;dsimp only;rw[lF_,aqr]
theorem DL (k:Int)(hk:k≠0):∀ (l:List Int) (t:Int),M7 t (l++[k])=if (t=0\/t=k)/\fo l k=true then some k else none
 |[],t=>by
  show(if k=0 then some t else if t≠0/\t≠k then none else some k)=if (t=0\/t=k)/\true=true then some k else none
  rw[if_neg hk];by_cases h:t=0\/t=k
  ·rw[if_neg (show ¬ (t≠0/\t≠k)by omega),if_pos (show(t=0\/t=k)/\true=true from⟨h,rfl⟩)]
  ·rw[if_pos (show t≠0/\t≠k by omega),if_neg (λe=>h e.1)]
 |x::l,t=>by
  rw[List.cons_append,M7];by_cases h:x=0
  ·rw[if_pos h,DL k hk l t]
   have:fo (x::l) k=fo l k:=by unfold fo;rw[List.all_cons,aqu h,Bool.or_true,aqY]
   rw[this]
  ·rw[if_neg h]
   have ha:fo (x::l) k=(decide (x=k)&&fo l k):=by unfold fo;rw[List.all_cons,aqt h,Bool.or_false]
   rw[ha];by_cases h2:t≠0/\t≠x
   ·rw[if_pos h2,if_neg]
    rintro⟨h3,h4⟩;rw[aqI]at h4;have:=aqT h4.1;omega
   ·rw[if_neg h2,DL k hk l x]
    by_cases h3:x=k
    ·rw[aqu h3,aqY]
     by_cases h4:fo l k=true
     ·rw[if_pos ⟨.inr h3,h4⟩,if_pos ⟨m0,h4⟩]
     ·rw[if_neg (λe=>h4 e.2),if_neg (λe=>h4 e.2)]
    ·rw[aqt h3,Bool.false_and,if_neg m0,if_neg m5]
theorem ef {l:List Int}{k:Int}(h0:l≠[])(hl:l.length<=100000)(hk:k≠0):rQ l k=some (fo l k):=by
 have ho:NE l=true:=by
  unfold NE;rw[aqu hl,Bool.and_true]
  cases l with
  |nil=>exact absurd rfl h0
  |cons a b=>rfl
 unfold rQ;rw[ho,aqs,fe _ (by rw[aqy];simp;omega),aqo,DL k hk]
 cases h:fo l k with
 |true=>rw[if_pos ⟨.inl rfl,rfl⟩];show some (bif true then decide (k=k)else false)=_;simp
 |false=>rw[if_neg m5];rfl
theorem Gi {e:Ex}{l:List Int}{kinds:List Int}(PG:(kI e.op).1<=(l.length:Int))(PT:(l.length:Int)<=(kI e.op).2)(hl:l.length<=100000)(ho:e.op=1\/e.op=4\/e.op=5\/e.op=6\/e.op=7\/e.op=8\/e.op=9\/e.op=10\/e.op=11\/e.op=12\/e.op=13\/e.op=14\/e.op=15\/e.op=16\/e.op=17\/e.op=18\/e.op=19\/e.op=20\/e.op=21\/e.op=22\/e.op=23\/e.op=24):∃ r,gRs11 e l kinds=some r/\gRsP e l=some r:=by
 obtain ho|ho|ho|ho|ho|ho|ho|ho|ho|ho|ho|ho|ho|ho|ho|ho|ho|ho|ho|ho|ho|ho:=ho
 ·rw[ho,ar1]at PG PT
  dsimp only at PG PT;unfold gRs11 gRsP;simp only[ho,Int.reduceEq,sl9];exact⟨_,rfl,rfl⟩
 ·rw[ho,ar4]at PG PT
  dsimp only at PG PT;unfold gRs11 gRsP;simp only[ho,Int.reduceEq,sl9];rw[df _ _ m0,ef (by rintro rfl;simp at PG) hl m9];exact⟨_,rfl,rfl⟩
 ·rw[ho,ar5]at PG PT
  dsimp only at PG PT;unfold gRs11 gRsP;simp only[ho,Int.reduceEq,sl9];rw[df _ _ m0,ef (by rintro rfl;simp at PG) hl m9];exact⟨_,rfl,rfl⟩
 ·rw[ho,ar6]at PG PT
  dsimp only at PG PT;unfold gRs11 gRsP;simp only[ho,Int.reduceEq,sl9];rw[df _ _ m0,ef (by rintro rfl;simp at PG) hl m9];exact⟨_,rfl,rfl⟩
 ·rw[ho,ar7]at PG PT
  dsimp only at PG PT;unfold gRs11 gRsP;simp only[ho,Int.reduceEq,sl9];rw[jQ _ m0,fe _ m0];exact⟨_,rfl,rfl⟩
 ·rw[ho,ar8]at PG PT
  dsimp only at PG PT;unfold gRs11 gRsP;simp only[ho,Int.reduceEq,sl9];rw[jQ _ m0,fe _ m0];exact⟨_,rfl,rfl⟩
 ·rw[ho,ar9]at PG PT
  dsimp only at PG PT;unfold gRs11 gRsP;simp only[ho,Int.reduceEq,sl9];rw[jQ _ m0,fe _ m0];exact⟨_,rfl,rfl⟩
 ·rw[ho,apd]at PG PT
  dsimp only at PG PT;unfold gRs11 gRsP;simp only[ho,Int.reduceEq,sl9];rw[jQ _ m0,fe _ m0];exact⟨_,rfl,rfl⟩
 ·rw[ho,ao']at PG PT
  dsimp only at PG PT;unfold gRs11 gRsP;simp only[ho,Int.reduceEq,sl9];rw[jQ _ m0,fe _ m0];exact⟨_,rfl,rfl⟩
 ·rw[ho,aom]at PG PT
  dsimp only at PG PT;unfold gRs11 gRsP;simp only[ho,Int.reduceEq,sl9];rw[jQ _ m0,fe _ m0];exact⟨_,rfl,rfl⟩
 ·rw[ho,anu]at PG PT
  dsimp only at PG PT;unfold gRs11 gRsP;simp only[ho,Int.reduceEq,sl9];rw[df _ _ m0,ef (by rintro rfl;simp at PG) hl m9];exact⟨_,rfl,rfl⟩
 ·rw[ho,ank]at PG PT
  dsimp only at PG PT;unfold gRs11 gRsP;simp only[ho,Int.reduceEq,sl9];rw[df _ _ m0,ef (by rintro rfl;simp at PG) hl m9];exact⟨_,rfl,rfl⟩
 ·rw[ho,anF]at PG PT
  dsimp only at PG PT;unfold gRs11 gRsP;simp only[ho,Int.reduceEq,sl9];rw[df _ _ m0,ef (by rintro rfl;simp at PG) hl m9];exact⟨_,rfl,rfl⟩
 ·rw[ho,anI]at PG PT
  dsimp only at PG PT;unfold gRs11 gRsP;simp only[ho,Int.reduceEq,sl9];rw[df _ _ m0,ef (by rintro rfl;simp at PG) hl m9];exact⟨_,rfl,rfl⟩
 ·rw[ho,anJ]at PG PT
  dsimp only at PG PT;unfold gRs11 gRsP;simp only[ho,Int.reduceEq,sl9];rw[df _ _ m0,ef (by rintro rfl;simp at PG) hl m9];exact⟨_,rfl,rfl⟩
 ·rw[ho,ao5]at PG PT
  dsimp only at PG PT;unfold gRs11 gRsP;simp only[ho,Int.reduceEq,sl9];rw[df _ _ m0,ef (by rintro rfl;simp at PG) hl m9];exact⟨_,rfl,rfl⟩
 ·rw[ho,aob]at PG PT
  dsimp only at PG PT;unfold gRs11 gRsP;simp only[ho,Int.reduceEq,sl9];rw[df _ _ m0,ef (by rintro rfl;simp at PG) hl m9];exact⟨_,rfl,rfl⟩
 ·rw[ho,apj]at PG PT
  dsimp only at PG PT;unfold gRs11 gRsP;simp only[ho,Int.reduceEq,sl9];rw[df _ _ m0,ef (by rintro rfl;simp at PG) hl m9];exact⟨_,rfl,rfl⟩
 ·rw[ho,aox]at PG PT
  dsimp only at PG PT;unfold gRs11 gRsP;simp only[ho,Int.reduceEq,sl9];exact⟨_,rfl,rfl⟩
 ·rw[ho,al1]at PG PT
  dsimp only at PG PT;unfold gRs11 gRsP;simp only[ho,Int.reduceEq,sl9];obtain⟨a,b,c,rfl⟩:=ajX (l:=l) m0;rw[show gU [a,b,c] (1:Int) ((([a,b,c].length:Nat)):Int)=some [b,c]from rfl,show gU [a,b,c] (0:Int) (1:Int)=some [a]from rfl];simp only[aqo];rw[jQ _ m5,fe _ m5];simp only[aqo];rw[df _ _ m5,ef m5 m5 m9]
  cases (al8 (M7 0 [b,c])).2<;>exact⟨_,rfl,rfl⟩
 ·rw[ho,aoc]at PG PT
  dsimp only at PG PT;unfold gRs11 gRsP;simp only[ho,Int.reduceEq,sl9];rw[jQ _ m0,fe _ m0];exact⟨_,rfl,rfl⟩
 ·rw[ho,aoH]at PG PT
  dsimp only at PG PT;unfold gRs11 gRsP;simp only[ho,Int.reduceEq,sl9];rw[df _ _ m0,ef (by rintro rfl;simp at PG) hl m9];exact⟨_,rfl,rfl⟩
theorem zR (e:Ex)(kinds:List Int)(rec:Ex->List Int->Option (Int×Int))(Pm:∀ x∈e.args,∃ c,rec x kinds=some c)(hlen:e.args.length<=100000) :
  ∀ (N i:Nat) (s:List Int),s.length=i->i<=e.args.length->e.args.length-i<N ->∃ r,ao (cg e kinds rec) N (s,(i:Int))=some r /\ ∀ t j,r = .inl (t,j)->t.length=e.args.length
 |0,i,s,_,_,h=>by omega
 |N+1,i,s,hs,hi,hN=>by
  rw[ao];by_cases O0:i<e.args.length
  ·obtain⟨x,hx⟩:=gol_ O0
   obtain⟨c,hc⟩:=Pm x (aqw hx);by_cases h0:c.2=0
   ·have hb:cg e kinds rec (s,(i:Int))=some (.next (s++[c.1],((i+1:Nat):Int))):=by
     unfold cg;dsimp only;rw[aO hx,aqs,gn_ hx,aqo,hc,aqo,aqt (show ¬ c.2≠0 by omega),aqr,aqu m0,aqs,wrapN m0]
    rw[hb];exact zR e kinds rec Pm hlen N (i+1) (s++[c.1]) (by rw[aqy,hs];rfl) m0 m0
   ·have hb:cg e kinds rec (s,(i:Int))=some (.ret (0,c.2)):=by
     unfold cg;dsimp only;rw[aO hx,aqs,gn_ hx,aqo,hc,aqo,aqu (show c.2≠0 from h0),aqs]
    rw[hb];exact⟨_,rfl,λt j h=>by cases h⟩
  ·have:i=e.args.length:=m0
   subst this;have hb:cg e kinds rec (s,(e.args.length:Int))=some (.exit (s,(e.args.length:Int))):=by
    unfold cg;dsimp only;rw[lF_,aqr]
   rw[hb];exact⟨_,rfl,λt j h=>by injection h with h;injection h with h _;rw[<- h];exact hs⟩
theorem zL (kinds:List Int):∀ (n:Nat) (e:Ex),il n e ->∃ c,iC n e kinds=some c/\pE n e kinds=some c
 |0,_,h=>h.elim
 |n+1,e,h=>by
  have hx:∀ x∈e.args,∃ c,iC n x kinds=some c/\pE n x kinds=some c:=λx hx=>zL kinds n x (h.2 x hx)
  have hb:lI e kinds (pE n)=cg e kinds (iC n):=by
   funext s;obtain⟨l,i⟩:=s;unfold lI cg;dsimp only
   cases hg:aF e.args i with
   |none=>rfl
   |some x =>
    obtain⟨c,c1,c2⟩:=hx x (aqw (jd hg).2);simp only[aqo];rw[c1,c2]
  obtain⟨a1,a2,a3,a4⟩:=qe e.op (e.args.length:Int) (by have:=h.1;omega);show ∃ c,nB (iC n) e kinds=some c/\rI (pE n) e kinds=some c;unfold nB rI;rw[a1,a2,aqo,aqo];dsimp only;by_cases h00:(kI e.op).1<0
  ·rw[aqu h00,aqt (show ¬ 0<=(kI e.op).1 by omega),aqs]
   exact⟨_,rfl,rfl⟩
  have h0:0<=(kI e.op).1:=m0
  rw[aqt (show ¬ (kI e.op).1<0 by omega),aqu h0,Bool.not_true,aqr,aqr,ww h.1,yA h.1,aqo,aqo]
  cases hf:q_ e with
  |false=>exact⟨_,rfl,rfl⟩
  |true =>
   rw[Bool.not_true,aqr,aqr];obtain⟨hops,PG,PT,XN⟩:=sY h.1 hf;by_cases o2:e.op=2
   ·rw[aqu o2,aqs,aqs]
    by_cases i0:e.int<0
    ·rw[aqu i0];exact⟨_,rfl,rfl⟩
    rw[aqt i0,aqr,aqr];by_cases i1:(kinds.length:Int)<=e.int
    ·rw[aqu i1];exact⟨_,rfl,rfl⟩
    rw[aqt i1,aqr,aqr];obtain⟨x,O2⟩:=gol_ (l:=kinds) (i:=e.int.toNat) m0;have hg:aF kinds e.int=some x:=by unfold aF;rw[if_pos m0];exact O2
    rw[o2,ar2]at PT;dsimp only at PT;have hz:e.args.length=0:=m0
    have hbr:ao (jR e kinds (iC n)) fuel ([],(0:Int))=some (.inl ([],0)):=by
     have:fuel=(fuel-1)+1:=rfl;rw[this,ao];unfold jR;dsimp only;rw[hz,show decide ((0:Int)<((0:Nat):Int))=false from rfl,aqr]
    rw[hbr,hg];refine⟨(x,0),?_,rfl⟩;show(gRs11 e [] kinds).bind _=_;unfold gRs11;rw[o2,show decide ((2:Int)=1)=false from rfl,show decide ((2:Int)=2)=true from rfl,aqr,aqs,hg];rfl
   ·rw[aqt o2,aqr,aqr,hb]
    obtain⟨r,hr,hk⟩:=zR e kinds (iC n) (λx hm=>(hx x hm).imp λc hc=>hc.1) h.1 fuel 0 [] rfl (aqL _) (by unfold fuel;have:=h.1;omega);rw[show((0:Nat):Int)=0 from rfl]at hr;rw[hr,aqo,aqo]
    cases r with
    |inr q=>exact⟨q,rfl,rfl⟩
    |inl p =>
     obtain⟨t,j⟩:=p;have ht:=hk t j rfl;obtain⟨q,q1,q2⟩:=Gi (e:=e) (l:=t) (kinds:=kinds) (by rw[ht];exact PG) (by rw[ht];exact PT) (by rw[ht];exact h.1) m0;unfold sN vZ;dsimp only;rw[q1,q2,aqo]
     cases q.2<;>exact⟨_,rfl,rfl⟩
theorem MV {e:Ex}(kinds:List Int)(h:il fuel e):∃ c,vk e kinds=some c/\Me e kinds=some c:=by
 obtain⟨d,d1,d2,d3,d4⟩:=zw fuel e (by unfold fuel;omega) h;obtain⟨c,c1,c2⟩:=zL kinds fuel e h;unfold vk Me afH;rw[d1,d4 25 m0 m0,c1,c2];simp only[aqo];by_cases hd:(24:Int)<d
 ·rw[aqu hd,aqu (show(24:Int)<min d 25 by omega)];exact⟨_,rfl,rfl⟩
 ·rw[aqt hd,aqt (show ¬ (24:Int)<min d 25 by omega)];exact⟨_,rfl,rfl⟩
noncomputable section
def jo (OW:Ex)(O3:(List Val)):Option (Int):=(ik fuel OW O3).bind λO7=>(ft O7).bind λQd=>some Qd
instance gTruthR11_ok {OW : Ex} {O3 : (List Val)} {r : Int} : OkC (jo OW O3 = some r) (PTz 70 [.agg (tE OW), .one (.lst (O3.map cV))] (.val (.one (.int .i64 r)))) := .mk λH => by
 unfold jo at H;rw[aC OW];refine po_ Tryz.func70 Tryz.ntmps70 ?_;obtain⟨O7,c1,H⟩:=bd_ H;replace c1:=Ft fuel c1
 try simp only[aqD,aqB,aqF,aqv,aC]at c1
 exact ay H
def fb (Tj:bj):(Int)->Option (Step (Int) (Bool)):=λs=>match s with
 |i_1=>bif i_1<(Tj.facts.length:Int)then(aF Tj.facts i_1).bind λRD=>(cG RD.valid).bind λQm=>bif (!Qm)then some (.ret false)else
 (tu RD.row Tj.kinds).bind λP1=>bif (!P1)then some (.ret false)else
 some (.next (i64.wrap (i_1+(1:Int))))else
 some (.exit i_1)
def nk (Tj:bj):Sum (Int) (Bool)->Option ((Bool))
 |.inl i_1=>bif (0:Int)<(Tj.kinds.length:Int)then bif (Tj.kinds.length:Int)<=(48:Int)then(Eh Tj.kinds).bind λP7=>some P7 else
 some false else
 some false
 |.inr q=>some q
def wy (Tj:bj):Option (Bool):=(ao (fb Tj) fuel (0:Int)).bind (nk Tj)
instance gSound_ok {Tj : bj} {r : Bool} : OkC (wy Tj = some r) (PTz 47 [.agg (aW Tj)] (.val (.one (.bool r)))) := .mk λH => by
 unfold wy at H;refine po_ Tryz.func47 Tryz.ntmps47 ?_;refine a6 ?_;refine alM_ (λs:Int=>match s with|i_1=>[(1,.one (.ptr 0 0)),(3,.one (.c (.int .i64 i_1)))]) (λs=>match s with|i_1=>[.box [.c (.lst (Tj.kinds.map (λx=>[AC.int .i64 x]))),.c (.lst (Tj.facts.map aH))]]) H (λ_=>aqL _)
  (fm_ bE [] rfl bm cm) ?_
 rintro i_1 QF OU Pz;unfold fb at OU;dsimp only at OU ⊢;obtain⟨Qr,OU⟩|⟨Qr,OU⟩:=aj OU
 ·obtain⟨RD,Rw,i1,Ri,OU⟩:=br (f:=aH) OU
  obtain⟨Qm,c2,OU⟩:=bd_ OU;replace c2:=gValid1_ok c2;obtain⟨Q6,OU⟩|⟨Q6,OU⟩:=aj OU
  ·exact bA OU Pz
  obtain⟨P1,c3,OU⟩:=bd_ OU;replace c3:=gFits8_ok c3;obtain⟨R_,OU⟩|⟨R_,OU⟩:=aj OU
  ·exact bA OU Pz
  cases OU;refine a6 ?_;exact⟨_,rfl,fm_ bE [] rfl bm cm⟩
 exact bA OU Pz
end
def Db (e:Ex)(row:List Val):Val:=(ik fuel e row).getD bK
theorem val_ok {e:Ex}(h:il fuel e)(row:List Val):ik fuel e row=some (Db e row)/\uu fuel e row=some (Db e row)/\vF (Db e row)=true:=by
 obtain⟨v,h1,h2,h3⟩:=Ec row fuel e h;unfold Db;rw[h1];exact⟨rfl,h2,h3⟩
def iz (e:Ex)(row:List Val):Bool:=decide (tF_ (Db e row)=2)
theorem Jv {e:Ex}(h:il fuel e)(row:List Val):Bg e row=some (tF_ (Db e row)):=by
 unfold Bg;rw[(val_ok h row).2.1,aqo,gM];rfl
theorem mP {e:Ex}(h:il fuel e)(row:List Val):jo e row=some (tF_ (Db e row)):=by
 unfold jo;rw[(val_ok h row).1,aqo,kF];rfl
theorem KP {e:Ex}(kinds:List Int)(h:il fuel e):∃ n,uh e kinds=some n:=by
 obtain⟨c,c1,_⟩:=MV kinds h;unfold uh;rw[c1,aqo]
 cases decide (c.2≠0)<;>cases decide (c.1≠3)<;>cases decide (c.1≠0)<;>exact⟨_,rfl⟩
def ao0:TI :={ ae7 with dyn:=true }
theorem CZ:TIok Tryz.prog ao0:=⟨tab_ok.size,tab_ok.agg,tab_ok.elem,tab_ok.field,tab_ok.zero,tab_ok.bytes,tab_ok.kind,tab_ok.struct,tab_ok.zok,tab_ok.eqs⟩
def xE (e:Ex):List AC:=[.int .i64 e.op,.int .i64 e.int,.int .i64 e.v.kind,.int .i64 e.v.int,.str e.v.text,.str e.nm,.lst (e.args.map tE)]
def amL:TI :={ ae7 with soft:=true }
theorem KV:TIok Tryz.prog amL:=⟨tab_ok.size,tab_ok.agg,tab_ok.elem,tab_ok.field,tab_ok.zero,tab_ok.bytes,tab_ok.kind,tab_ok.struct,tab_ok.zok,tab_ok.eqs⟩
theorem FU:∀ {T' T:Tm},Ce T' T ->∀ p∈T,T'.lookup p.1=some p.2
 |T',[],_,p,hp=>by cases hp
 |T',q::T,h,p,hp=>by
  obtain rfl|hp:=aqH.1 hp
  ·exact h.1
  ·exact FU h.2 p hp
theorem k8.slots {N n0:Nat}{T T':Tm}{L:List Ob}(h:Ce T T'):k8 N n0 T L T' L:=k8.less λt x hx=>FU h _ (kp hx)
theorem MK {p q:ax}(h:jY p q=true):BG p q=some (o8 p q,true):=by
 obtain⟨h1,h2,h3,h4⟩:=(th p q).1 h;unfold BG Jj;rw[iN,aqo,h1,aqs,iN,aqo,h2,aqs,aqu h3,aqs,aqu h4];show some ((⟨EE p.lo q.lo,mnI p.hi q.hi⟩:ax),true)=_;rw[Cc,abF];rfl
theorem vN {x y:List Val}(h0:0<x.length+y.length)(h1:x.length+y.length<=1000000):u7 x y=some (x++y):=by
 unfold u7 abA;rw[aqu h0,aqu h1];rfl
def ae8 (e:Ex)(a b:List ap)(p:cD):Option (Nat×List Val×ax):=match a[p.a.toNat]?,b[p.b.toNat]? with
 |some f,some g=>bif iz e (f.row++g.row)then some (p.a.toNat,f.row++g.row,o8 f.valid g.valid)else none
 |_,_=>none
def adJ {σ:Type}(TC:σ->Nat->List Val->ax->σ)(s:σ):Option (Nat×List Val×ax)->σ
 |some (i,row,p)=>TC s i row p
 |none=>s
def qt {σ:Type}(TC:σ->Nat->List Val->ax->σ)(e:Ex)(a b:List ap)(l:List cD)(s:σ):σ:=l.foldl (λs p=>adJ TC s (ae8 e a b p)) s
theorem Oj {σ:Type}(TC:σ->Nat->List Val->ax->σ)(e:Ex)(a b:List ap)(l:List cD)(p:cD)(s:σ):qt TC e a b (l++[p]) s=adJ TC (qt TC e a b l s) (ae8 e a b p):=by
 unfold qt;rw[List.foldl_append];rfl
theorem abT {α:Type}{q:α->α->Bool}{a0 b:List α}:∀ {a pre:List α} {p:cD},a0=pre++a->p∈eP q b a pre.length ->∃ (i k:Nat) (x y:α),p=⟨(i:Int),(k:Int)⟩/\a0[i]?=some x/\b[k]?=some y/\q x y=true
 |[],pre,p,_,h=>by cases h
 |x::a,pre,p,h0,h=>by
  rw[eP,aqS]at h;obtain h|h:=h
  ·unfold mA at h
   obtain⟨j,hj,rfl⟩:=aq0.1 h;obtain⟨y,hy,hq,h0j⟩:=acl (q x) b b [] rfl j (by simpa using hj);refine⟨pre.length,j.toNat,x,y,?_,by rw[h0];simp,hy,hq⟩;rw[Int.toNat_of_nonneg h0j]
  ·exact abT (a:=a) (pre:=pre++[x]) (by rw[h0];simp) (by simpa using h)
def GT (a b:bj)(e:Ex)(g:FuncId)(TD:List cD)(k:Nat):Tm:=[(3,.one (.clo g [.ptr 4 0])),(4,.one (.c (.ref (aW a)))),(5,.one (.c (.ref (aW b)))),(6,.one (.c (.ref (xE e)))),(19,.one (.c (.lst (TD.map iF)))),(20,.one (.c (.int .i64 TD.length))),(21,.one (.c (.int .i64 k)))]
theorem CX (a b:bj)(e:Ex)(g:FuncId)(TD:List cD)(k:Nat):gQ 20 (GT a b e g TD k):=⟨(by intro x hx;simp at hx;subst hx;show 4<20;omega),t7,t7,t7,t7,t7,t7,t7⟩
def GL {σ:Type}(O:Nat->σ->Ob)(s:σ):List Ob:=FZ O s++[.dead,.dead,.dead]
theorem aoD {x:Cap}{m n:Nat}(h:x.below m)(hn:m<=n):x.below n:=by
 cases x with
 |c _=>trivial
 |ptr id _=>exact aq4 h hn
theorem svb {x:SV}{m n:Nat}(h:x.below m)(hn:m<=n):x.below n:=by
 cases x with
 |c _=>trivial
 |emp=>trivial
 |own _ _=>exact aq4 h hn
 |ptr _ _=>exact aq4 h hn
 |sl _ _ _ _=>exact aq4 h hn
 |ep _ _ _ _=>exact aq4 h hn
 |mp _=>exact aq4 h hn
 |clo _ Pj=>exact λy hy=>aoD (h y hy) hn
theorem avb {x:AV}{m n:Nat}(h:x.below m)(hn:m<=n):x.below n:=by
 cases x with
 |one _=>exact svb h hn
 |agg _=>exact λy hy=>svb (h y hy) hn
 |tup _=>trivial
 |tupS _=>exact λy hy=>svb (h y hy) hn
 |undef=>trivial
theorem amG {x:Ob}{n:Nat}(h:x.below 17)(hn:17<=n):x.below n:=by
 cases x with
 |box cs=>exact λy hy=>svb (h y hy) hn
 |spare _ _=>trivial
 |row _ es _=>exact λe he y hy=>svb (h e he y hy) hn
 |map Qe=>exact λp hp=>avb (h p hp) hn
 |dead=>trivial
theorem Bv {σ:Type}{O:Nat->σ->Ob}(hb:∀ s i,i<17->(O i s).below 17)(s:σ):n_ 20 (GL O s):=by
 refine rS λx hx=>?_
 obtain hx|hx:=aqS.1 hx
 ·exact amG (fc (hb s) x hx) m0
 ·simp at hx;subst hx;trivial
theorem JG {σ:Type}(O:Nat->σ->Ob)(g:FuncId)(TC:σ->Nat->List Val->ax->σ)(ok:Nat->σ->Prop)(a b:bj)(e:Ex)(Ze:∀ s i,i<17->(O i s).below 17)
  (Ud:∀ n s i row p,ok n s->n<=1000000->i<a.facts.length->RTz g (FZ O s) [.one (.c (.int .i64 (i:Int))),.one (.c (.lst (row.map cV))),.agg ((aP p).map SV.c),.one (.ptr 4 0)] (FZ O (TC s i row p)) (.tup [])/\ok (n+1) (TC s i row p))
  (hmono:∀ n s,ok n s->ok (n+1) s) (ha:a.facts.length<=1000) (Vp:b.facts.length<=1000) (XJ:∀ f∈a.facts,0<f.row.length/\f.row.length<=1000) (XK:∀ f∈b.facts,f.row.length<=1000) (he:il fuel e) (s0:σ) (h0:ok 0 s0) :
  RTz 52 (FZ O s0) [.agg ((aW a).map SV.c),.agg ((aW b).map SV.c),.agg ((tE e).map SV.c),.one (.clo g [.ptr 4 0])] (FZ O (qt TC e a.facts b.facts (eP (λx y:ap=>jY x.valid y.valid) b.facts a.facts 0) s0)) (.tup []):=by
 have Wb:=yR a.facts b.facts ha Vp;have Uo:(eP (λx y:ap=>jY x.valid y.valid) b.facts a.facts 0).length<=1000000:=Nat.le_trans (Cm _ _ _ _) (by have:=Nat.mul_le_mul ha Vp;omega);have hpm:=λp=>abT (q:=λx y:ap=>jY x.valid y.valid) (a0:=a.facts) (b:=b.facts) (a:=a.facts) (pre:=[]) (p:=p) rfl
 generalize eP (λx y:ap=>jY x.valid y.valid) b.facts a.facts 0=TD at Wb Uo hpm ⊢;have UX:∀ row,PTz 90 [.agg (xE e),.one (.lst (row.map cV))] (.val (.one (.int .i64 (tF_ (Db e row))))):=λrow=>by
  have:=gTruthE_ok (Jv he row);rw[aC e]at this;exact this
 rw[aC e];refine be am Tryz.func52 rfl rfl Tryz.ntmps52 m5 ?_;simp only[eL,aW,aqB,aqF];show Aw _ _ _ _ _ _ (FZ O s0);unfold FZ
 repeat' (first|(refine aT 17 (ts:=aW a) rfl rfl ?_)|(refine aT 18 (ts:=aW b) rfl rfl ?_)|(refine aT 19 (ts:=xE e) rfl rfl ?_)|refine aN rfl rfl rfl rfl Wb rfl ?_|refine gv_ CZ tabS_ok ?_|(refine gi_ (λhb=>?_) (λhb=>?_)<;>(try exact(fx_ hb).elim))|fail)
 refine cu (λk:Nat=>GT a b e g TD k) (λk=>GL O (qt TC e a.facts b.facts (TD.take k) s0)) (λk=>k<=TD.length/\ok k (qt TC e a.facts b.facts (TD.take k) s0)) (λk=>TD.length-k) 0 ⟨aqL _,h0⟩ (λ_ _=>(by show 17<=20;omega))
  (fm_ ⟨rfl,rfl,rfl,rfl,rfl,aU m5,rfl,t7⟩ [] rfl (CX _ _ _ _ _ _) (Bv Ze _)) ?_
 rintro k ⟨hk,Qy⟩;by_cases O0:k<TD.length
 ·obtain⟨pr,hpr⟩:=gol_ O0
  have U6:qt TC e a.facts b.facts (TD.take (k+1)) s0=adJ TC (qt TC e a.facts b.facts (TD.take k) s0) (ae8 e a.facts b.facts pr):=by rw[bN hpr,Oj]
  obtain⟨i,j,x,y,rfl,hx,hy,hov⟩:=hpm pr (aqw hpr);generalize qt TC e a.facts b.facts (TD.take k) s0=s at Qy U6 ⊢;have hix:i<a.facts.length:=(aqp.1 hx).1;have hxr:=XJ x (aqw hx);have hyr:=XK y (aqw hy);have XP:=uI (vN (x:=x.row) (y:=y.row) m0 m0);have hint:=gInterP_ok (MK hov);have UX:=UX (x.row++y.row);have hvf:ae8 e a.facts b.facts ⟨(i:Int),(j:Int)⟩=bif iz e (x.row++y.row)then some (i,x.row++y.row,o8 x.valid y.valid)else none:=by
   unfold ae8;simp only[Int.toNat_natCast,hx,hy]
  rw[hvf]at U6;have YQ:=Ud k s i (x.row++y.row) (o8 x.valid y.valid) Qy m0 hix;unfold iz at U6;unfold GT GL FZ
  cases Xj:decide (tF_ (Db e (x.row++y.row))=2)with
  |false =>
   have Pn:decide (tF_ (Db e (x.row++y.row))≠2)=true:=by have:=of_decide_eq_false Xj;exact aqu this
   rw[Xj,aqr]at U6
   repeat' (first|(refine aT 20 (ts:=iF ⟨i,j⟩) rfl rfl ?_;refine ak' [4,5,9] KV [(3,.one (.clo g [.ptr 4 0])),(4,.one (.c (.ref (aW a)))),(5,.one (.c (.ref (aW b)))),(6,.one (.c (.ref (xE e)))),(9,.one (.c (.ref (iF ⟨i,j⟩)))),(10,.one (.c (.ref (aH x)))),(11,.one (.c (.ref (aH y)))),(19,.one (.c (.lst (TD.map iF)))),(20,.one (.c (.int .i64 TD.length))),(21,.one (.c (.int .i64 k)))] (FZ O s++[.dead,.dead,.dead,.dead,.dead,.dead]) 12 m9 m9 mixed (by decide +kernel) (by decide +kernel) rfl ?_ ?_ ?_)|(refine(k8.box 21 rfl rfl).trans ((k8.box 22 rfl rfl).trans (k8.slots ?_));exact⟨rfl,rfl,rfl,rfl,rfl,rfl,rfl,rfl,rfl,rfl,t7⟩)|(refine bw rfl rfl rfl rfl rfl rfl rfl rfl (bu hx) ?_ ?_;· exact⟨Int.natCast_nonneg _,rfl⟩)|(refine bw rfl rfl rfl rfl rfl rfl rfl rfl (bu hy) ?_ ?_;· exact⟨Int.natCast_nonneg _,rfl⟩)|rw[Pn]|(refine bw rfl rfl rfl rfl rfl rfl rfl rfl (bu hpr) ?_ ?_;· exact⟨m0,rfl⟩)|refine aN rfl rfl rfl rfl XP rfl ?_|refine aN rfl rfl rfl rfl UX rfl ?_|refine aN rfl rfl rfl rfl hint rfl ?_|refine gv_ CZ tabS_ok ?_|(refine gi_ (λhb=>?_) (λhb=>?_)<;>(try exact(fx_ hb).elim))|fail)
   exact⟨k+1,⟨m0,by rw[U6];exact hmono _ _ Qy⟩,m0,fm_ ⟨rfl,rfl,rfl,rfl,rfl,rfl,aU (aZ m0 m0),t7⟩ [_,_,_] (by rw[U6];rfl) (CX _ _ _ _ _ _) (Bv Ze _)⟩
  |true =>
   have Pn:decide (tF_ (Db e (x.row++y.row))≠2)=false:=by have:=aqT Xj;rw[this];rfl
   rw[Xj,aqs]at U6;have U6:qt TC e a.facts b.facts (TD.take (k+1)) s0=TC s i (x.row++y.row) (o8 x.valid y.valid):=U6
   repeat' (first|(refine aT 20 (ts:=iF ⟨i,j⟩) rfl rfl ?_;refine ak' [4,5,9] KV [(3,.one (.clo g [.ptr 4 0])),(4,.one (.c (.ref (aW a)))),(5,.one (.c (.ref (aW b)))),(6,.one (.c (.ref (xE e)))),(9,.one (.c (.ref (iF ⟨i,j⟩)))),(10,.one (.c (.ref (aH x)))),(11,.one (.c (.ref (aH y)))),(19,.one (.c (.lst (TD.map iF)))),(20,.one (.c (.int .i64 TD.length))),(21,.one (.c (.int .i64 k)))] (FZ O s++[.dead,.dead,.dead,.dead,.dead,.dead]) 12 m9 m9 mixed (by decide +kernel) (by decide +kernel) rfl ?_ ?_ ?_)|(refine(k8.box 21 rfl rfl).trans ((k8.box 22 rfl rfl).trans (k8.slots ?_));exact⟨rfl,rfl,rfl,rfl,rfl,rfl,rfl,rfl,rfl,rfl,t7⟩)|(refine bw rfl rfl rfl rfl rfl rfl rfl rfl (bu hx) ?_ ?_;· exact⟨Int.natCast_nonneg _,rfl⟩)|(refine bw rfl rfl rfl rfl rfl rfl rfl rfl (bu hy) ?_ ?_;· exact⟨Int.natCast_nonneg _,rfl⟩)|rw[Pn]|(refine xI 17 (FZ O s) (FZ O (TC s i (x.row++y.row) (o8 x.valid y.valid))) [.dead,.dead,.dead,.dead,.dead,.dead,.box ((aP (o8 x.valid y.valid)).map SV.c)] rfl rfl rfl rfl rfl YQ.1 rfl rfl (fc (Ze _)) (fc (Ze _)) (bV ⟨t7,t7,(λz hz=>by have hz:z∈(aP (o8 x.valid y.valid)).map SV.c:=hz;obtain⟨w,_,rfl⟩:=aq0.1 hz;trivial),(by show 4<17;omega),t7⟩) ?_)|(refine bw rfl rfl rfl rfl rfl rfl rfl rfl (bu hpr) ?_ ?_;· exact⟨m0,rfl⟩)|refine aN rfl rfl rfl rfl XP rfl ?_|refine aN rfl rfl rfl rfl UX rfl ?_|refine aN rfl rfl rfl rfl hint rfl ?_|refine gv_ CZ tabS_ok ?_|(refine gi_ (λhb=>?_) (λhb=>?_)<;>(try exact(fx_ hb).elim))|fail)
   exact⟨k+1,⟨m0,by rw[U6];exact YQ.2⟩,m0,fm_ ⟨rfl,rfl,rfl,rfl,rfl,rfl,aU (aZ m0 m0),t7⟩ [_,_,_,_] (by rw[U6];rfl) (CX _ _ _ _ _ _) (Bv Ze _)⟩
 ·have UD:k=TD.length:=m0
  subst UD;rw[List.take_length];unfold GT GL
  repeat' (first|refine gv_ CZ tabS_ok ?_|(refine gi_ (λhb=>?_) (λhb=>?_)<;>(try exact(fx_ hb).elim))|fail)
  exact⟨.inl rfl,⟨.inr ⟨.tup [],⟨t7,rfl⟩,rfl⟩,⟨_,rfl⟩,aqG _,λx hx=>fc (Ze _) x hx,t7⟩⟩
section
variable {P:Program} {ti:TI} {N n0:Nat} {T:Tm} {L:List Ob}
theorem LU {Q:AX->Tm->List Ob->Prop}{c:Code}(id:Nat){O1 k:Nat}{es:List (List SV)}{cs:List (List AC)}(hid:L[id]?=some (.row O1 es k))(Qx:d_ es=some cs)(h:Aw P N n0 c Q T (L.set id (.row O1 (cs.map (List.map SV.c)) k))):Aw P N n0 c Q T L:=by
 intro hn B R γ w a hi hT;have O0:=(aqp.1 hid).1;have hlen:=nI Qx;have hm:Mv R R γ γ L (L.set id (.row O1 (cs.map (List.map SV.c)) k)):=by
  refine⟨PH.sub_refl _,m5,λt n k' P3 e=>⟨n,?_,aqG _,λ_=>rfl⟩,λt Po Ut k' P3 e=>?_,λi b e=>e⟩
  ·have Pn:t≠id:=by rintro rfl;rw[aqJ P3]at e;cases e
   rw[aqK (Ne.symm Pn)]at e;exact e
  ·by_cases Pn:t=id
   ·subst Pn
    rw[aqJ P3]at e;injection e with e
    injection e with e1 e2 e3
    subst e1 e2 e3;exact⟨O1,es,hid,aqG _,λ_=>⟨by rw[aqC];exact hlen,rfl⟩⟩
   ·rw[aqK (Ne.symm Pn)]at e
    exact⟨Po,Ut,e,aqG _,λ_=>⟨rfl,rfl⟩⟩
 refine wp_mono (h (by simpa using hn) B R γ w a ?_ (hT.mv hm)) λ_ _ _ hh=>hh.ext (Ext.refl _ _ _) hi.len (qF.of hn hm)
 refine⟨by simp[hi.len],hi.val,λq y g hy hg=>?_,hi.inj,hi.new,hi.bsz⟩;by_cases Us:q=id
 ·subst Us
  rw[aqJ O0]at hy;injection hy with hy;subst hy
  have QY:=hi.obj q _ _ hid hg
  match g,QY with
  |.arr b cp,⟨⟨vs,E,h1,h2,h3⟩,h4,h5,h6,h7⟩ =>
   refine⟨⟨vs,E,h1,h2,λi e j u x QP hu hx=>?_⟩,by rw[aqC,<- hlen];exact h4,h5,?_,h7⟩
   ·rw[aqN]at QP
    cases hc:cs[i]? with
    |none=>rw[hc]at QP;cases QP
    |some c0 =>
     rw[hc]at QP;simp only[Option.map_some,Option.some.injEq]at QP;subst QP;rw[aqN]at hx
     cases hj:c0[j]? with
     |none=>rw[hj]at hx;cases hx
     |some y =>
      rw[hj]at hx;simp only[Option.map_some,Option.some.injEq]at hx;subst hx;obtain⟨e,he,Pn⟩:=jn Qx i c0 hc;have hl:=dW Pn;have hje:j<e.length:=by rw[<- hl];exact(aqp.1 hj).1
      obtain⟨z,hz⟩:∃ z,e[j]?=some z:=⟨_,aqz hje⟩;exact SV.norm_rep (h3 i e j u z he hu hz) (i_ Pn j z y hz hj)
   ·intro e QP
    obtain⟨c0,hc0,rfl⟩:=aq0.1 QP;obtain⟨i,RJ,rfl⟩:=List.getElem_of_mem hc0;obtain⟨e,he,Pn⟩:=jn Qx i _ (aqz RJ);rw[aqC,dW Pn];exact h6 e (aqw he)
  |.none,QY =>
   have XT:es=[]:=QY;subst XT;have:cs=[]:=aqQ (by rw[<- hlen];rfl);subst this;rfl
 ·rw[aqK (Ne.symm Us)]at hy
  exact(hi.obj q y g hy hg).mv hm (λ_ _=>rfl) (λ_ _ _ h=>h)
theorem G3 {f:FuncId}{ps:List PV}{L1:List Ob}{r:AV}{p:PV}(h:Run P f [] (ps.map PV.av) L1 r)(hr:r.norm=some p):Pure P f ps (.val p):=by
 refine⟨h.1,λR w vs hR hs hv=>?_⟩;have hi:Inv (· <w.heap.size) R [] [] w:=⟨rfl,hR,λid x g hx=>by simp at hx,λi j gi gj h1=>by simp at h1,λi g b h1=>by simp at h1,λb hb=>hb⟩;refine(h.2 (· <w.heap.size) R [] w vs hi (by simpa using hs) λj v x Wn hx=>?_).mono ?_
 ·rw[aqN]at hx
  cases hp:ps[j]? with
  |none=>rw[hp]at hx;cases hx
  |some q =>
   rw[hp]at hx;simp only[Option.map_some,Option.some.injEq]at hx;subst hx;exact PV.av_rep (hv j v q Wn hp)
 ·rintro e w' ⟨v,R',γ',rfl,i1,i2,i3,i4⟩
  exact⟨v,R',rfl,i2,i1.val,AV.norm_rep i4 hr⟩
end
def M17 (O:Nat->Ob):List Ob:=[O 0,O 1,O 2,O 3,O 4,O 5,O 6,O 7,O 8,O 9,O 10,O 11,O 12,O 13,O 14,O 15,O 16]
theorem abu {O O':Nat->Ob}(h:∀ k,k<17->O k=O' k):M17 O=M17 O':=by
 unfold M17;rw[h 0 m0,h 1 m0,h 2 m0,h 3 m0,h 4 m0,h 5 m0,h 6 m0,h 7 m0,h 8 m0,h 9 m0,h 10 m0,h 11 m0,h 12 m0,h 13 m0,h 14 m0,h 15 m0,h 16 m0]
theorem Ie (O:Nat->Ob):M17 O=(List.range 17).map O:=rfl
theorem aiy (O:Nat->Ob)(G:List Ob){j:Nat}(hj:j<17):(M17 O++G)[j]?=some (O j):=by
 rw[Ie,aqE (by simpa using hj),aqN,List.getElem?_range hj];rfl
theorem aii (O:Nat->Ob)(G:List Ob){j:Nat}(hj:j<17)(x:Ob):(M17 O++G).set j x=M17 (λk=>if k=j then x else O k)++G:=by
 rw[Ie,Ie,List.set_append_left _ _ (by simpa using hj)];congr 1;refine List.ext_getElem? λk=>?_
 rw[List.getElem?_set,aqN,aqN];by_cases hk:j=k
 ·subst hk
  rw[if_pos rfl,if_pos (by simpa using hj),List.getElem?_range hj];simp
 ·rw[if_neg hk]
  by_cases hk17:k<17
  ·rw[List.getElem?_range hk17];simp[Ne.symm hk]
  ·rw[ard (by simpa using hk17)];rfl
section
variable {P:Program} {ti:TI} {N:Nat} {ds:List (Option Tmp)} {K:Tm->List Ob->Prop} {rest:List Oper} {o:Oper} {T:Tm} {L:List Ob}
theorem ao1 (L:List Ob)(x:Ob)(hx:x.ren [L.length]=x):joinL [] L [x]=L++[x]:=by
 simp[joinL,join,cZ,bY,eY,hx]
theorem co_ {g:FuncId}{R7:List AV}{es:List (List AC)}{n k d:Nat}(hd:o.dst=some d)(hN:Nat.blt d N=true)(hg:gg ds T o.guard=some true)(hp:cS ti (look T) o.op=some (g,R7))(h:aI P ti N ds K rest ((d,.one (.own es L.length))::T) (L++[.spare n k]))
  (hc:Run P g [] R7 [.spare n k] (.one (.own es 0)):=by assumption) (ha:R7=R7.map (AV.ren []):=by rfl) (hb:DN 0 R7=true:=by rfl):aI P ti N ds K (o::rest) T L :=
 cJ [] hd hN hg hp hc ha ⟨rfl,List.nodup_nil,λi y hy=>by simp at hy,λx hx=>(by cases hx),lN hb⟩ (by simp[AV.ren,SV.ren,bY,eY,ke]) (ao1 L _ rfl) h
end
theorem ana {p:Prop}(h:p:=by
 refine a6 ?_
 first
  |exact⟨.inl rfl,⟨.inl ⟨_,rfl,rfl⟩,⟨[],rfl⟩,aqL _,eV rfl,g_ rfl⟩⟩
  |exact⟨.inr rfl,⟨.inl ⟨_,rfl,rfl⟩,⟨[],rfl⟩,aqL _,eV rfl,g_ rfl⟩⟩):p:=h
noncomputable section
theorem LD {OZ:(List ap)}{RX:(List ax)->Option ((List ax))}{r:(List ap)}{F_a_f:FuncId}{caps_a_f:List AC}(UL:∀ (y0:(List ax)) (r:(List ax)),RX y0=some r->PTz F_a_f ([.one (.lst (y0.map aP))]++caps_a_f.map .one) (.val (.one (.lst (r.map aP)))))(H:yI OZ RX=some r):RTz 145 [] [.one (.c (.lst (OZ.map aH))),.one (.c (.fn F_a_f caps_a_f))] [.spare r.length 3] (.one (.own (r.map aH) 0)):=by
 unfold yI at H;refine be tab_ok Tryz.func145 rfl rfl Tryz.ntmps145 m5 ?_;simp only[eL];obtain⟨O7,c1,H⟩:=bd_ H;replace c1:=zH c1;refine a6 ?_;refine bS 5 3 rfl ?_;refine alM_ (λs:(List ap)×Int=>match s with|(O8,P5)=>[(1,.one (.c (.fn F_a_f caps_a_f))),(5,.one (.own (O8.map aH) 0)),(11,.one (.c (.lst (O7.map af)))),(12,.one (.c (.int .i64 (O7.length:Int)))),(13,.one (.c (.int .i64 P5)))]) (λs=>match s with|(O8,P5)=>[.spare O8.length 3]) H (λ_=>aqL _)
  (fm_ bE [] rfl bm cm) ?_
 rintro⟨O8,P5⟩ st3 Py R3;unfold nq at Py;dsimp only at Py ⊢;obtain⟨Qf,Py⟩|⟨Qf,Py⟩:=aj Py
 ·obtain⟨Qa,U0,i2,U2,Py⟩:=br (f:=af) Py
  obtain⟨P1,c3,Py⟩:=bd_ Py;replace c3:=UL _ _ c3
  try simp only[aqD,aqB,aqF,aqv,aC]at c3
  refine a6 ?_;refine alM_ (λs:(List ap)×Int=>match s with|(Px,SE)=>[(1,.one (.c (.fn F_a_f caps_a_f))),(5,.one (.own (Px.map aH) 0)),(7,.one (.ptr 1 0)),(11,.one (.c (.lst (O7.map af)))),(12,.one (.c (.int .i64 (O7.length:Int)))),(13,.one (.c (.int .i64 P5))),(20,.one (.c (.lst (P1.map aP)))),(21,.one (.c (.int .i64 (P1.length:Int)))),(22,.one (.c (.int .i64 SE)))]) (λs=>match s with|(Px,SE)=>[.spare Px.length 3,.box [.c (.lst (Qa.row.map cV)),.c (.lst (Qa.periods.map aP))]]) Py (λ_=>aqL _)
   (fm_ bE [] rfl bm cm) ?_
  rintro⟨Px,SE⟩ st4 O4 hk4;unfold nA at O4;dsimp only at O4 ⊢;obtain⟨S8,O4⟩|⟨S8,O4⟩:=aj O4
  ·obtain⟨Rq,Yg,i4,WX,O4⟩:=br (f:=aP) O4
   obtain⟨g5,O4⟩:=aL O4;obtain⟨g6,O4⟩:=aL O4
   cases O4;refine a6 ?_;exact⟨_,rfl,fm_ sg [_,_] qG bm cm⟩
  cases O4;have Qo:nu P5 (.inl (Px,SE))=some _:=hk4;unfold nu at Qo;dsimp only at Qo
  cases Qo;refine a6 ?_;exact⟨_,rfl,fm_ sg [_] qG bm cm⟩
 cases Py;have Sm:kH (.inl (O8,P5))=some _:=R3;unfold kH at Sm;dsimp only at Sm
 cases Sm;exact ana
end
