/- Parts. No condition. -/
import Derived.Test.YtdkmoemdipgikaaGreatDoorKBM
set_option maxHeartbeats 8000000
set_option maxRecDepth 100000
set_option linter.unusedSimpArgs false
set_option linter.unusedVariables false
namespace Go.Proofs.YtdkmoemdipgikaaGreatDoor
open IntKind (i64)
open Go.RowKit Go.MapKept
theorem jA (s:ByteArray):(s.toList==(⟨#[]⟩:ByteArray).toList)=true↔s=ByteArray.empty:=by
 rw[beq_iff_eq,ByteArray.toList_eq,ByteArray.toList_eq];constructor
 ·intro h
  have:s.data.toList=[]:=h;obtain⟨d⟩:=s;obtain⟨l⟩:=d;simp at this;subst this;rfl
 ·rintro rfl;rfl
structure VV (v:Val):Prop where
 kind:0<=v.kind/\v.kind<=3
 int : -1125899906842624<=v.int/\v.int<=1125899906842624
 text:v.text.size<=200
theorem sa {v:Val}(h:vF v=true):VV v:=by
 have hx:=fe v;rw[h]at hx;unfold cH at hx;have e0:∀ s:ByteArray,s=ByteArray.empty->s.size<=200:=by rintro s rfl;decide
 by_cases k0:v.kind=0
 ·rw[amA k0,amy]at hx
  by_cases i0:v.int=0
  ·rw[amA i0,amy]at hx
   have:=(jA _).1 (am3 hx);exact⟨m0,m0,e0 _ this⟩
  ·rw[amz i0,amx]at hx;cases hx
 rw[amz k0,amx]at hx;by_cases k1:v.kind=1
 ·rw[amA k1,amy]at hx
  by_cases t0:(v.text.toList==(⟨#[]⟩:ByteArray).toList)=true
  ·rw[t0,amy]at hx
   by_cases i1:(-1125899906842624:Int)<=v.int
   ·rw[amA i1,amy]at hx
    have:=amZ (am3 hx);exact⟨m0,⟨i1,this⟩,e0 _ ((jA _).1 t0)⟩
   ·rw[amz i1,amx]at hx;cases hx
  ·rw[Bool.not_eq_true]at t0
   rw[t0,amx]at hx;cases hx
 rw[amz k1,amx]at hx;by_cases k2:v.kind=2
 ·rw[amA k2,amy]at hx
  by_cases i0:v.int=0
  ·rw[amA i0,amy]at hx
   by_cases t2:((v.text.size:Nat):Int)<=200
   ·exact⟨m0,m0,m0⟩
   ·rw[amz t2,amx]at hx;cases hx
  ·rw[amz i0,amx]at hx;cases hx
 rw[amz k2,amx]at hx;by_cases k3:v.kind=3
 ·rw[amA k3,amy]at hx
  by_cases t0:(v.text.toList==(⟨#[]⟩:ByteArray).toList)=true
  ·rw[t0,amy]at hx
   by_cases i0:v.int=0
   ·exact⟨m0,m0,e0 _ ((jA _).1 t0)⟩
   ·rw[amz i0,amx]at hx
    have:=amZ (am3 hx);exact⟨m0,m0,e0 _ ((jA _).1 t0)⟩
  ·rw[Bool.not_eq_true]at t0
   rw[t0,amx]at hx;cases hx
 rw[amz k3,amx]at hx
 cases hx
theorem VV.vok {v:Val}(h:VV v):KD v:=⟨⟨by have:=h.kind;omega,by have:=h.kind;omega⟩,⟨by have:=h.int;omega,by have:=h.int;omega⟩,by have:=h.text;omega⟩
abbrev akr (n:Int):Val:=Hh ⟨1,n,ByteArray.empty⟩
abbrev akT (s:ByteArray):Val:=Hh ⟨2,0,s⟩
def agZ (op a b:Int):Val:=(cD op a b).getD gy
theorem aiX {a:Int}(h : -1125899906842624<=a/\a<=1125899906842624):Gk a (i64.wrap (0-a))=(a.natAbs:Int):=by
 rw[xM m0];unfold Gk;split<;>omega
theorem BX (a b:Int):pv a b=cD 15 a b:=by
 unfold pv cD;rw[show decide ((15:Int)=13)=false from rfl,show decide ((15:Int)=14)=false from rfl,show decide ((15:Int)=15)=true from rfl];simp only[amy,amx]
 cases decide (a≠0)with
 |false=>simp only[amx];rw[iE,gR]
 |true =>
  simp only[amy];unfold acI;simp only[amv];rw[iE,gR];rfl
theorem Gw {op a b:Int}(ha : -1125899906842624<=a/\a<=1125899906842624):∃ v,cD op a b=some v/\vF v=true:=by
 unfold cD;simp only[gR,amv,bU]
 cases decide (op=13)with
 |true=>exact⟨_,rfl,lV _⟩
 |false =>
 cases decide (op=14)with
 |true=>exact⟨_,rfl,lV _⟩
 |false =>
 cases decide (op=15)with
 |true =>
  simp only[amy,amx];by_cases h:a=0
  ·subst h;exact⟨_,rfl,lV _⟩
  ·rw[amA (show a≠0 from h),amy]
   unfold acI;simp only[amv];rw[aiX ha,amA (show((a.natAbs:Nat):Int)≠0 by omega),amy];generalize decide (i64.wrap ((1125899906842624:Int).tdiv ((a.natAbs:Nat):Int))<Gk b (i64.wrap (0-b)))=c
   cases c with
   |true=>exact⟨_,rfl,iR⟩
   |false=>exact⟨_,rfl,lV _⟩
 |false =>
  simp only[amx];by_cases h:b=0
  ·rw[amA h];exact⟨_,rfl,iR⟩
  ·rw[amz h,amA (show b≠0 from h)]
   simp only[amy,amx]
   cases decide (op=16)with
   |true=>exact⟨_,rfl,lV _⟩
   |false=>exact⟨_,rfl,lV _⟩
theorem dX {op a b:Int}(ha : -1125899906842624<=a/\a<=1125899906842624):cD op a b=some (agZ op a b)/\vF (agZ op a b)=true:=by
 obtain⟨v,h1,h2⟩:=Gw (op:=op) (b:=b) ha;unfold agZ;rw[h1];exact⟨rfl,h2⟩
theorem zw (l:List Val)(hl:l.length<=1099511627776):ap (nz l) fuel (0:Int)=some (bif dx l 1 then .inl ((l.length:Nat):Int)else .inr gy):=by
 rw[cm (l:=l) (mk:=fun(_:Unit) i=>i) (f:=fun _ v=>some (if v.kind≠1 then .inr gy else .inl ())) ?_ ?_ (by unfold fuel;omega) ()]
 ·have:∀ l:List Val,cE (ρ:=Val) (fun(_:Unit) (v:Val)=>some (if v.kind≠1 then .inr gy else .inl ())) () l=some (if dx l 1=true then .inl ()else .inr gy):=by
   intro l
   induction l with
   |nil=>rfl
   |cons v l ih =>
    rw[cE];by_cases h:v.kind=1
    ·simp only[ne_eq,h,not_true_eq_false,if_false]
     rw[ih];simp[dx,h]
    ·simp[dx,h]
  rw[this]
  cases dx l 1<;>rfl
 ·intro s i x hx
  have hi:=(amw.1 hx).1;unfold nz;dsimp only;rw[aC hx,amy,gn_ hx,wrapN m0];simp only[amv];by_cases h:x.kind=1
  ·simp[h,nj]
  ·simp[h,nj,iP]
 ·intro s
  unfold nz;dsimp only;rw[lF_,amx]
def dH (op:Int)(a b:Val):Val:=bif dx [a,b] 1 then agZ op a.int b.int else gy
theorem kp {op:Int}{a b:Val}(ha:VV a)(h:op=13\/op=14\/op=15\/op=16\/op=17):iS op [a,b]=some (dH op a b):=by
 unfold iS dH;rw[zw _ m5]
 cases dx [a,b] 1 with
 |false=>rfl
 |true =>
  simp only[amy,amv];have hc:=(dX (op:=op) (b:=b.int) ha.int).1;rw[<- hc];unfold qW;dsimp only;rw[show aq [a,b] (0:Int)=some a from rfl,amv,show aq [a,b] (i64.wrap ((([a,b].length:Nat):Int)-1))=some b from rfl,amv];rcases h with rfl|rfl|rfl|rfl|rfl
  ·unfold cD
   rw[show decide ((13:Int)=13)=true from rfl,amy,amy,gR,iE]
  ·unfold cD
   rw[show decide ((14:Int)=13)=false from rfl,show decide ((14:Int)=14)=true from rfl];simp only[amy,amx];rw[gR,iE]
  ·rw[show decide ((15:Int)=13)=false from rfl,show decide ((15:Int)=14)=false from rfl,show decide ((15:Int)=15)=true from rfl]
   simp only[amy,amx];rw[BX]
   cases cD 15 a.int b.int<;>rfl
  ·unfold cD
   rw[show decide ((16:Int)=13)=false from rfl,show decide ((16:Int)=14)=false from rfl,show decide ((16:Int)=15)=false from rfl,show decide ((16:Int)=18)=false from rfl,show decide ((16:Int)=16)=true from rfl];simp only[amy,amx,iE,gR,iP,bU]
  ·unfold cD
   rw[show decide ((17:Int)=13)=false from rfl,show decide ((17:Int)=14)=false from rfl,show decide ((17:Int)=15)=false from rfl,show decide ((17:Int)=18)=false from rfl,show decide ((17:Int)=16)=false from rfl];simp only[amy,amx,iE,gR,iP,bU]
def IP (a:Val):Val:=bif dx [a] 1 then akr (i64.wrap (0-a.int))else gy
theorem KL (a:Val):iS 18 [a]=some (IP a):=by
 unfold iS IP;rw[zw _ m5]
 cases dx [a] 1 with
 |false=>rfl
 |true =>
  simp only[amy,amv];show(lw _).bind _=_;rw[iE];rfl
def GE (a b:Val):Val:=bif dx [a,b] 2 then akT (a.text++b.text)else gy
def G_ (a:Val):Val:=bif dx [a] 2 then akr ((a.text.size:Nat):Int)else gy
theorem Lq {a b:Val}(ha:VV a)(hb:VV b):pL 19 [a,b]=some (GE a b):=by
 unfold pL GE;rw[jn _ _ m5,amv]
 cases dx [a,b] 2 with
 |false=>rfl
 |true =>
  have h1:=ha.text;have h2:=hb.text;rw[Bool.not_true,amx,amy,show decide ((19:Int)=19)=true from rfl,amy,show aq [a,b] (0:Int)=some a from rfl,amv,show aq [a,b] (1:Int)=some b from rfl,amv];rw[amA (show a.text.size+b.text.size<=9223372036854775807 by omega),amy,acR];rfl
theorem MH (a:Val):pL 20 [a]=some (G_ a):=by
 unfold pL G_;rw[jn _ _ m5,amv]
 cases dx [a] 2 with
 |false=>rfl
 |true =>
  rw[Bool.not_true,amx,amy,show decide ((20:Int)=19)=false from rfl,amx,show aq [a] (0:Int)=some a from rfl,amv,gR];rfl
def li (p:Int×ByteArray)(x:Val):Option (Sum (Int×ByteArray) Val):=bif decide (x.kind≠2)then some (.inr gy)else bif decide (p.2.size+x.text.size<=9223372036854775807)then some (.inl (i64.wrap (p.1+((x.text.size:Nat):Int)),p.2++x.text))else none
theorem yU (op:Int)(l:List Val)(hl:l.length<=1099511627776):pp op l=(Be (fun(p:Int×ByteArray) i=>(p.1,p.2,i)) l.length (cE li (0,⟨#[]⟩) l)).bind (EU op):=by
 unfold pp;rw[cm (l:=l) (mk:=fun(p:Int×ByteArray) i=>(p.1,p.2,i)) (f:=li) ?_ ?_ (by unfold fuel;omega) ((0:Int),(⟨#[]⟩:ByteArray))]
 ·intro s i x hx
  have hi:=(amw.1 hx).1;unfold qV li;dsimp only;rw[aC hx,amy,gn_ hx,wrapN m0];simp only[amv]
  cases decide (x.kind≠2)with
  |true=>rfl
  |false =>
   simp only[amx]
   cases decide (s.2.size+x.text.size<=9223372036854775807)<;>rfl
 ·intro s
  unfold qV;dsimp only;rw[lF_,amx]
theorem age (s:ByteArray):(⟨#[]⟩:ByteArray)++s=s:=by
 apply ByteArray.ext;simp
theorem LP {a b:Val}(ha:VV a)(hb:VV b):pp 19 [a,b]=some (GE a b):=by
 have h1:=ha.text;have h2:=hb.text;have h0:(⟨#[]⟩:ByteArray).size=0:=rfl;rw[yU _ _ m5];unfold GE;by_cases ka:a.kind=2
 ·by_cases kb:b.kind=2
  ·have e:dx [a,b] 2=true:=by simp[dx,ka,kb]
   rw[e];simp only[cE,li];rw[amz (show ¬ a.kind≠2 by omega),amx,amA (show(⟨#[]⟩:ByteArray).size+a.text.size<=9223372036854775807 by rw[h0];omega),amy];simp only[];rw[amz (show ¬ b.kind≠2 by omega),amx,age,amA (show a.text.size+b.text.size<=9223372036854775807 by omega),amy];show(u_ (a.text++b.text)).bind _=_;rw[aaN];rfl
  ·have e:dx [a,b] 2=false:=by simp[dx,kb]
   rw[e];simp only[cE,li];rw[amz (show ¬ a.kind≠2 by omega),amx,amA (show(⟨#[]⟩:ByteArray).size+a.text.size<=9223372036854775807 by rw[h0];omega),amy];simp only[];rw[amA (show b.kind≠2 from kb),amy];rfl
 ·have e:dx [a,b] 2=false:=by simp[dx,ka]
  rw[e];simp only[cE,li];rw[amA (show a.kind≠2 from ka),amy];rfl
theorem Lh {a:Val}(ha:VV a):pp 20 [a]=some (G_ a):=by
 have h1:=ha.text;have h0:(⟨#[]⟩:ByteArray).size=0:=rfl;rw[yU _ _ m5];unfold G_;by_cases ka:a.kind=2
 ·have e:dx [a] 2=true:=by simp[dx,ka]
  rw[e];simp only[cE,li];rw[amz (show ¬ a.kind≠2 by omega),amx,amA (show(⟨#[]⟩:ByteArray).size+a.text.size<=9223372036854775807 by rw[h0];omega),amy];show(lw (i64.wrap (0+((a.text.size:Nat):Int)))).bind _=_;rw[iE,Int.zero_add,xM m0];rfl
 ·have e:dx [a] 2=false:=by simp[dx,ka]
  rw[e];simp only[cE,li];rw[amA (show a.kind≠2 from ka),amy];rfl
def F3 (rel:Int)(a b c d:Val):Val :=
 bif dx [a,b,c,d] 1 then(if az ⟨a.int,b.int⟩=true/\az ⟨c.int,d.int⟩=true then ja (decide (dL ⟨a.int,b.int⟩ ⟨c.int,d.int⟩=rel))else gy)else gy
theorem Gu (rel:Int)(a b c d:Val):nf rel [a,b,c,d]=some (F3 rel a b c d):=by
 unfold nf F3;rw[jn _ _ m5,amv]
 cases dx [a,b,c,d] 1 with
 |false=>exact congrArg (fun o:Option Val=>o.bind fun r=>some r) bU
 |true =>
  rw[Bool.not_true,amx,amy,show aq [a,b,c,d] (0:Int)=some a from rfl,show aq [a,b,c,d] (1:Int)=some b from rfl,show aq [a,b,c,d] (2:Int)=some c from rfl,show aq [a,b,c,d] (3:Int)=some d from rfl];rw[amv,amv,amv,amv,aes,amv];generalize dL ⟨a.int,b.int⟩ ⟨c.int,d.int⟩=x;generalize az ⟨a.int,b.int⟩=y;generalize az ⟨c.int,d.int⟩=z
  cases y<;>cases z
  ·exact congrArg (fun o:Option Val=>o.bind fun r=>some r) bU
  ·exact congrArg (fun o:Option Val=>o.bind fun r=>some r) bU
  ·exact congrArg (fun o:Option Val=>o.bind fun r=>some r) bU
  ·exact congrArg (fun o:Option Val=>o.bind fun r=>some r) (rD _)
theorem IL (rel:Int)(a b c d:Val):pU rel [a,b,c,d]=some (F3 rel a b c d):=by
 unfold pU F3 uz;rw[show aq [a,b,c,d] (0:Int)=some a from rfl,show aq [a,b,c,d] (1:Int)=some b from rfl,show aq [a,b,c,d] (2:Int)=some c from rfl,show aq [a,b,c,d] (3:Int)=some d from rfl];simp only[amv];rw[ahf,amv,iP];have e:dx [a,b,c,d] 1=((decide (a.kind=1)&&decide (b.kind=1))&&(decide (c.kind=1)&&decide (d.kind=1))):=by
  simp[dx,Bool.and_assoc]
 rw[e];generalize (decide (a.kind=1)&&decide (b.kind=1))=u;generalize (decide (c.kind=1)&&decide (d.kind=1))=v;generalize dL ⟨a.int,b.int⟩ ⟨c.int,d.int⟩=x;generalize az ⟨a.int,b.int⟩=y;generalize az ⟨c.int,d.int⟩=z
 cases u
 ·rfl
 cases v
 ·rfl
 cases y<;>cases z
 ·rfl
 ·rfl
 ·rfl
 ·exact congrArg (fun o:Option Val=>o.bind fun r=>some r) (DT _)
theorem cI {n k:Int}:decide (n=k)=(decide (k<=n)&&decide (n<=k)):=by
 rw[Bool.eq_iff_iff];simp only[amO,decide_eq_true_eq];omega
theorem Ft {n k:Int}(h:n<=1099511627776):decide (k<=n)=(decide (k<=n)&&decide (n<=1099511627776)):=by
 rw[amA h,Bool.and_true]
def ii (op:Int):Int×Int:=(lI op).getD (-1,0)
theorem pJ (op n:Int)(h:n<=1099511627776):lI op=some (ii op)/\q_ op n=some (decide (0<=(ii op).1)&&(decide ((ii op).1<=n)&&decide (n<=(ii op).2)),decide (0<=(ii op).1))/\(0<=(ii op).1->op=1\/op=2\/op=4\/op=5\/op=6\/op=7\/op=8\/op=9\/op=10\/op=11\/op=12\/op=13\/op=14\/op=15\/op=16\/op=17\/op=18\/op=19\/op=20\/op=21\/op=22\/op=23\/op=24) /\ -1<=(ii op).1:=by
 by_cases h1:op=1
 ·subst h1
  refine⟨rfl,?_,fun _=>by simp,by decide⟩;show some (decide (n=0),true)=some (true&&(decide ((0:Int)<=n)&&decide (n<=0)),true);rw[am4,<- cI]
 by_cases h2:op=2
 ·subst h2
  refine⟨rfl,?_,fun _=>by simp,by decide⟩;show some (decide (n=0),true)=some (true&&(decide ((0:Int)<=n)&&decide (n<=0)),true);rw[am4,<- cI]
 by_cases h4:op=4
 ·subst h4
  refine⟨rfl,?_,fun _=>by simp,by decide⟩;show some (decide (n=1),true)=some (true&&(decide ((1:Int)<=n)&&decide (n<=1)),true);rw[am4,<- cI]
 by_cases h5:op=5
 ·subst h5
  refine⟨rfl,?_,fun _=>by simp,by decide⟩;show some (decide ((2:Int)<=n),true)=some (true&&(decide ((2:Int)<=n)&&decide (n<=1099511627776)),true);rw[am4,<- Ft h]
 by_cases h6:op=6
 ·subst h6
  refine⟨rfl,?_,fun _=>by simp,by decide⟩;show some (decide ((2:Int)<=n),true)=some (true&&(decide ((2:Int)<=n)&&decide (n<=1099511627776)),true);rw[am4,<- Ft h]
 by_cases h7:op=7
 ·subst h7
  refine⟨rfl,?_,fun _=>by simp,by decide⟩;show some (decide (n=2),true)=some (true&&(decide ((2:Int)<=n)&&decide (n<=2)),true);rw[am4,<- cI]
 by_cases h8:op=8
 ·subst h8
  refine⟨rfl,?_,fun _=>by simp,by decide⟩;show some (decide (n=2),true)=some (true&&(decide ((2:Int)<=n)&&decide (n<=2)),true);rw[am4,<- cI]
 by_cases h9:op=9
 ·subst h9
  refine⟨rfl,?_,fun _=>by simp,by decide⟩;show some (decide (n=2),true)=some (true&&(decide ((2:Int)<=n)&&decide (n<=2)),true);rw[am4,<- cI]
 by_cases h10:op=10
 ·subst h10
  refine⟨rfl,?_,fun _=>by simp,by decide⟩;show some (decide (n=2),true)=some (true&&(decide ((2:Int)<=n)&&decide (n<=2)),true);rw[am4,<- cI]
 by_cases h11:op=11
 ·subst h11
  refine⟨rfl,?_,fun _=>by simp,by decide⟩;show some (decide (n=2),true)=some (true&&(decide ((2:Int)<=n)&&decide (n<=2)),true);rw[am4,<- cI]
 by_cases h12:op=12
 ·subst h12
  refine⟨rfl,?_,fun _=>by simp,by decide⟩;show some (decide (n=2),true)=some (true&&(decide ((2:Int)<=n)&&decide (n<=2)),true);rw[am4,<- cI]
 by_cases h13:op=13
 ·subst h13
  refine⟨rfl,?_,fun _=>by simp,by decide⟩;show some (decide (n=2),true)=some (true&&(decide ((2:Int)<=n)&&decide (n<=2)),true);rw[am4,<- cI]
 by_cases h14:op=14
 ·subst h14
  refine⟨rfl,?_,fun _=>by simp,by decide⟩;show some (decide (n=2),true)=some (true&&(decide ((2:Int)<=n)&&decide (n<=2)),true);rw[am4,<- cI]
 by_cases h15:op=15
 ·subst h15
  refine⟨rfl,?_,fun _=>by simp,by decide⟩;show some (decide (n=2),true)=some (true&&(decide ((2:Int)<=n)&&decide (n<=2)),true);rw[am4,<- cI]
 by_cases h16:op=16
 ·subst h16
  refine⟨rfl,?_,fun _=>by simp,by decide⟩;show some (decide (n=2),true)=some (true&&(decide ((2:Int)<=n)&&decide (n<=2)),true);rw[am4,<- cI]
 by_cases h17:op=17
 ·subst h17
  refine⟨rfl,?_,fun _=>by simp,by decide⟩;show some (decide (n=2),true)=some (true&&(decide ((2:Int)<=n)&&decide (n<=2)),true);rw[am4,<- cI]
 by_cases h18:op=18
 ·subst h18
  refine⟨rfl,?_,fun _=>by simp,by decide⟩;show some (decide (n=1),true)=some (true&&(decide ((1:Int)<=n)&&decide (n<=1)),true);rw[am4,<- cI]
 by_cases h19:op=19
 ·subst h19
  refine⟨rfl,?_,fun _=>by simp,by decide⟩;show some (decide (n=2),true)=some (true&&(decide ((2:Int)<=n)&&decide (n<=2)),true);rw[am4,<- cI]
 by_cases h20:op=20
 ·subst h20
  refine⟨rfl,?_,fun _=>by simp,by decide⟩;show some (decide (n=1),true)=some (true&&(decide ((1:Int)<=n)&&decide (n<=1)),true);rw[am4,<- cI]
 by_cases h21:op=21
 ·subst h21
  refine⟨rfl,?_,fun _=>by simp,by decide⟩;show some (decide (n=1),true)=some (true&&(decide ((1:Int)<=n)&&decide (n<=1)),true);rw[am4,<- cI]
 by_cases h22:op=22
 ·subst h22
  refine⟨rfl,?_,fun _=>by simp,by decide⟩;show some (decide (n=3),true)=some (true&&(decide ((3:Int)<=n)&&decide (n<=3)),true);rw[am4,<- cI]
 by_cases h23:op=23
 ·subst h23
  refine⟨rfl,?_,fun _=>by simp,by decide⟩;show some (decide ((1:Int)<=n),true)=some (true&&(decide ((1:Int)<=n)&&decide (n<=1099511627776)),true);rw[am4,<- Ft h]
 by_cases h24:op=24
 ·subst h24
  refine⟨rfl,?_,fun _=>by simp,by decide⟩;show some (decide (n=4),true)=some (true&&(decide ((4:Int)<=n)&&decide (n<=4)),true);rw[am4,<- cI]
 have e1:lI op=some (-1,0):=by
  unfold lI;simp only[amz h1,amz h2,amz h4,amz h5,amz h6,amz h7,amz h8,amz h9,amz h10,amz h11,amz h12,amz h13,amz h14,amz h15,amz h16,amz h17,amz h18,amz h19,amz h20,amz h21,amz h22,amz h23,amz h24,amx]
 have e2:q_ op n=some (false,false):=by
  unfold q_;simp only[amz h1,amz h2,amz h4,amz h5,amz h6,amz h7,amz h8,amz h9,amz h10,amz h11,amz h12,amz h13,amz h14,amz h15,amz h16,amz h17,amz h18,amz h19,amz h20,amz h21,amz h22,amz h23,amz h24,amx]
 have e3:ii op=(-1,0):=by unfold ii;rw[e1];rfl
 rw[e1,e2,e3];exact⟨rfl,rfl,fun h=>absurd h m9,by decide⟩
theorem ar2:ii 2=(0,0):=rfl
theorem alq:ii 13=(2,2):=rfl
theorem al2:ii 14=(2,2):=rfl
theorem alM:ii 15=(2,2):=rfl
theorem alJ:ii 16=(2,2):=rfl
theorem alr:ii 17=(2,2):=rfl
theorem ajo:ii 22=(3,3):=rfl
def jd (e:Ex):Bool:=(ew e).getD false
def afc (v:Val):Bool:=bT [.c (.int .i64 v.kind),.c (.int .i64 v.int),.c (.str v.text)] [.c (.int .i64 (0:Int)),.c (.int .i64 (0:Int)),.c (.str ByteArray.empty)]
def uK (e:Ex):Bool:=(e.nm.toList==(⟨#[]⟩:ByteArray).toList)&&(if e.op=1 then decide (e.int=0)&&vF e.v else if e.op=2 then afc e.v else if e.op=24 then afc e.v&&(decide (0<=e.int)&&decide (e.int<13))else decide (e.int=0)&&afc e.v)
theorem kV (e:Ex)(h:e.args.length<=1099511627776):ew e=some ((decide (0<=(ii e.op).1)&&(decide ((ii e.op).1<=((e.args.length:Nat):Int))&&decide (((e.args.length:Nat):Int)<=(ii e.op).2)))&&uK e)/\om e=some ((decide (0<=(ii e.op).1)&&(decide ((ii e.op).1<=((e.args.length:Nat):Int))&&decide (((e.args.length:Nat):Int)<=(ii e.op).2)))&&uK e):=by
 obtain⟨h1,h2,h3,h4⟩:=pJ e.op ((e.args.length:Nat):Int) m0;generalize ii e.op=a at h1 h2 h3 h4;obtain⟨lo,hi⟩:=a;dsimp only at h1 h2 h3 h4 ⊢;have hR:ew e=(bif decide (0<=lo)&&(decide (lo<=((e.args.length:Nat):Int))&&decide (((e.args.length:Nat):Int)<=hi))then some (uK e)else some false):=by
  unfold ew;rw[h1,amv];dsimp only;by_cases c1:0<=lo
  ·rw[amz (show ¬ lo<0 by omega),amA c1,amx,am4]
   by_cases c2:lo<=((e.args.length:Nat):Int)
   ·rw[amz (show ¬ ((e.args.length:Nat):Int)<lo by omega),amA c2,amx,am4]
    by_cases c3:((e.args.length:Nat):Int)<=hi
    ·rw[amz (show ¬ hi<((e.args.length:Nat):Int)by omega),amA c3,amx,amy]
     unfold uK
     cases (e.nm.toList==(⟨#[]⟩:ByteArray).toList)with
     |false=>rfl
     |true =>
      rw[Bool.not_true,amx,am4];by_cases o1:e.op=1
      ·rw[amA o1,amy,if_pos o1,fe]
       cases decide (e.int=0)<;>rfl
      ·rw[amz o1,amx,if_neg o1,bU]
       by_cases o2:e.op=2
       ·rw[amA o2,amy,if_pos o2];rfl
       ·rw[amz o2,amx,if_neg o2]
        by_cases o3:e.op=24
        ·rw[amA o3,amy,if_pos o3]
         show(bif afc e.v then _ else _)=_
         cases afc e.v
         ·rfl
         ·rw[amy,am4]
          cases decide (0<=e.int)<;>rfl
        ·rw[amz o3,amx,if_neg o3]
         cases decide (e.int=0)<;>rfl
    ·rw[amA (show hi<((e.args.length:Nat):Int)by omega),amz c3,amy];rfl
   ·rw[amA (show((e.args.length:Nat):Int)<lo by omega),amz c2,amy];rfl
  ·rw[amA (show lo<0 by omega),amz c1,amy];rfl
 have hP:om e=(bif decide (0<=lo)&&(decide (lo<=((e.args.length:Nat):Int))&&decide (((e.args.length:Nat):Int)<=hi))then some (uK e)else some false):=by
  unfold om;rw[h2,amv];dsimp only
  cases (decide (0<=lo)&&(decide (lo<=((e.args.length:Nat):Int))&&decide (((e.args.length:Nat):Int)<=hi)))with
  |false=>rfl
  |true =>
   rw[Bool.not_true,amx,amy];unfold uK
   cases (e.nm.toList==(⟨#[]⟩:ByteArray).toList)with
   |false=>rfl
   |true =>
    rw[Bool.not_true,amx,am4];by_cases o1:e.op=1
    ·rw[amA o1,amy,if_pos o1,s5]
     cases decide (e.int=0)<;>rfl
    ·rw[amz o1,amx,if_neg o1]
     by_cases o3:e.op=24
     ·have o2:¬ e.op=2:=m0
      rw[amA o3,amy,if_neg o2,if_pos o3];by_cases i1:0<=e.int
      ·rw[amz (show ¬ e.int<0 by omega),amx,amA i1,am4]
       by_cases i2:e.int<13
       ·rw[amz (show ¬ 13<=e.int by omega),amx,amA i2,Bool.and_true];rfl
       ·rw[amA (show 13<=e.int by omega),amy,amz i2,Bool.and_false]
      ·rw[amA (show e.int<0 by omega),amy,amz i1,Bool.false_and,Bool.and_false]
     ·rw[amz o3,amx]
      by_cases o2:e.op=2
      ·rw[amA o2,amy,if_pos o2];rfl
      ·rw[amz o2,amx,if_neg o2,if_neg o3]
       cases decide (e.int=0)<;>rfl
 rw[hR,hP]
 cases (decide (0<=lo)&&(decide (lo<=((e.args.length:Nat):Int))&&decide (((e.args.length:Nat):Int)<=hi)))<;>exact⟨rfl,rfl⟩
theorem wI {e:Ex}(h:e.args.length<=1099511627776):ew e=some (jd e):=by unfold jd;rw[(kV e h).1];rfl
theorem Nw {e:Ex}(h:e.args.length<=1099511627776):om e=some (jd e):=by unfold jd;rw[(kV e h).2,(kV e h).1];rfl
theorem sO {e:Ex}(h:e.args.length<=1099511627776)(hf:jd e=true):(e.op=1\/e.op=2\/e.op=4\/e.op=5\/e.op=6\/e.op=7\/e.op=8\/e.op=9\/e.op=10\/e.op=11\/e.op=12\/e.op=13\/e.op=14\/e.op=15\/e.op=16\/e.op=17\/e.op=18\/e.op=19\/e.op=20\/e.op=21\/e.op=22\/e.op=23\/e.op=24)/\(ii e.op).1<=((e.args.length:Nat):Int)/\((e.args.length:Nat):Int)<=(ii e.op).2/\uK e=true:=by
 obtain⟨_,_,h3,_⟩:=pJ e.op ((e.args.length:Nat):Int) m0;unfold jd at hf;rw[(kV e h).1,Option.getD_some,amO,amO,amO]at hf;exact⟨h3 (amZ hf.1.1),amZ hf.1.2.1,amZ hf.1.2.2,hf.2⟩
theorem Me {e:Ex}(h:e.op=1)(hr:uK e=true):vF e.v=true:=by
 unfold uK at hr;rw[if_pos h,amO,amO]at hr;exact hr.2.2
theorem IZ {α β ρ:Type}{l:List α}{body:(List β×Int)->Option (Step (List β×Int) ρ)}(g:α->β)(h1:∀ (c:List β) (i:Nat) x,l[i]?=some x->i<c.length->body (c,(i:Int))=some (.next (c.set i (g x),((i+1:Nat):Int))))(h2:∀ c:List β,body (c,((l.length:Nat):Int))=some (.exit (c,((l.length:Nat):Int)))) :
  ∀ (n i:Nat) (c:List β),c.length=l.length->i<=l.length->l.length-i<n->ap body n (c,(i:Int))=some (.inl (c.take i++(l.drop i).map g,((l.length:Nat):Int)))
 |0,i,c,_,_,h=>by omega
 |n+1,i,c,hc,hi,hn=>by
  rw[ap];by_cases hlt:i<l.length
  ·obtain⟨x,hx⟩:=gol_ hlt
   have e1:=(amw.1 hx).2;rw[h1 c i x hx m0];show ap body n (c.set i (g x),((i+1:Nat):Int))=_;rw[IZ g h1 h2 n (i+1) (c.set i (g x)) (by rw[List.length_set];exact hc) m0 m0,am2 hlt,e1,amH];congr 3;rw[List.take_succ_eq_append_getElem (by rw[List.length_set];omega),List.getElem_set_self,amX,List.take_set_of_le (amM i)];rfl
  ·have:i=l.length:=m0
   subst this;rw[h2,anq,amL,am5,<- hc,List.take_length]
def nF:Nat->Ex->Prop
 |0,_=>False
 |n+1,e=>e.args.length<=1099511627776 /\ ∀ x∈e.args,nF n x
def tn (l:List Val):Val:=(l.find? fun v=>decide (v.kind≠0)).getD gy
theorem vv:∀ l:List Val,cE (ρ:=Val) (fun(_:Unit) (v:Val)=>some (if v.kind≠0 then .inr v else .inl ())) () l=some (match l.find? fun v=>decide (v.kind≠0)with|some v => .inr v|none => .inl ())
 |[]=>rfl
 |v::l=>by
  rw[cE];by_cases h:v.kind=0
  ·simp only[ne_eq,h,not_true_eq_false,if_false]
   rw[vv l,List.find?_cons_of_neg (by simp[h])]
  ·rw[List.find?_cons_of_pos (by simp[h])]
   simp[h]
theorem F5 (l:List Val)(hl:l.length<=1099511627776):oU 23 l=some (tn l):=by
 unfold oU;rw[show decide ((23:Int)=22)=false from rfl,amx];rw[cm (l:=l) (mk:=fun(_:Unit) i=>i) (f:=fun _ v=>some (if v.kind≠0 then .inr v else .inl ())) ?_ ?_ (by unfold fuel;omega) ()]
 ·rw[vv]
  unfold tn
  cases l.find? fun v=>decide (v.kind≠0)with
  |none=>exact congrArg (fun o:Option Val=>o.bind fun r=>some r) bU
  |some v=>rfl
 ·intro s i x hx
  have hi:=(amw.1 hx).1;unfold oq;dsimp only;rw[aC hx,amy,gn_ hx,wrapN m0];simp only[amv];by_cases h:x.kind=0
  ·simp[h,nj]
  ·simp[h,nj]
 ·intro s
  unfold oq;dsimp only;rw[lF_,amx]
theorem MD (l:List Val)(hl:l.length<=1099511627776):(ap (mF l) fuel (0:Int)).bind js=some (tn l):=by
 rw[cm (l:=l) (mk:=fun(_:Unit) i=>i) (f:=fun _ v=>some (if v.kind≠0 then .inr v else .inl ())) ?_ ?_ (by unfold fuel;omega) ()]
 ·rw[vv]
  unfold tn
  cases l.find? fun v=>decide (v.kind≠0)with
  |none=>exact congrArg (fun o:Option Val=>o.bind fun r=>some r) iP
  |some v=>rfl
 ·intro s i x hx
  have hi:=(amw.1 hx).1;unfold mF;dsimp only;rw[aC hx,amy,gn_ hx,wrapN m0];simp only[amv];by_cases h:x.kind=0
  ·simp[h,nj]
  ·simp[h,nj]
 ·intro s
  unfold mF;dsimp only;rw[lF_,amx]
theorem agE {l:List Val}(h:∀ v∈l,vF v=true):vF (tn l)=true:=by
 unfold tn
 cases e:l.find? fun v=>decide (v.kind≠0)with
 |none=>exact iR
 |some v=>exact h v (List.mem_of_find?_eq_some e)
theorem nA {op:Int}{a b:Val}(h:VV a):vF (dH op a b)=true:=by
 unfold dH
 cases dx [a,b] 1 with
 |false=>exact iR
 |true=>exact(dX h.int).2
theorem ai0 (a:Val):vF (IP a)=true:=by
 unfold IP
 cases dx [a] 1 with
 |false=>exact iR
 |true=>exact lV _
theorem aiW (a b:Val):vF (GE a b)=true:=by
 unfold GE
 cases dx [a,b] 2 with
 |false=>exact iR
 |true=>exact lV _
theorem aja (a:Val):vF (G_ a)=true:=by
 unfold G_
 cases dx [a] 2 with
 |false=>exact iR
 |true=>exact lV _
theorem aiS (r:Int)(a b c d:Val):vF (F3 r a b c d)=true:=by
 unfold F3
 cases dx [a,b,c,d] 1 with
 |false=>exact iR
 |true =>
  rw[amy];split
  ·exact xQ _
  ·exact iR
def kK (op k:Int)(l:List Val):Val :=
 if op=4 then tc (zV (tF_ (l5 l 0)))else if op=5 then tc (uq CH l.tail (tF_ (l5 l 0)))else if op=6 then tc (uq or3 l.tail (tF_ (l5 l 0)))
 else if op=7\/op=8\/op=9\/op=10\/op=11\/op=12 then tc (oH op (l5 l 0) (l5 l 1))
 else if op=18 then IP (l5 l 0)else if op=19 then GE (l5 l 0) (l5 l 1)else if op=20 then G_ (l5 l 0)else if op=21 then ja (decide ((l5 l 0).kind=0))
 else if op=22 then(bif decide (tF_ (l5 l 0)=2)then l5 l 1 else l5 l 2)else if op=23 then tn l else if op=24 then F3 k (l5 l 0) (l5 l 1) (l5 l 2) (l5 l 3)
 else dH op (l5 l 0) (l5 l 1)
theorem aiQ {α:Type}{l:List α}(h:l.length=1):∃ a,l=[a]:=match l,h with|[a],_=>⟨a,rfl⟩
theorem acA {α:Type}{l:List α}(h:l.length=2):∃ a b,l=[a,b]:=match l,h with|[a,b],_=>⟨a,b,rfl⟩
theorem af1 {α:Type}{l:List α}(h:l.length=3):∃ a b c,l=[a,b,c]:=match l,h with|[a,b,c],_=>⟨a,b,c,rfl⟩
theorem alX {α:Type}{l:List α}(h:l.length=4):∃ a b c d,l=[a,b,c,d]:=match l,h with|[a,b,c,d],_=>⟨a,b,c,d,rfl⟩
theorem aln {α:Type}{l:List α}(h:1<=l.length):∃ a m,l=a::m:=match l,h with|a::m,_=>⟨a,m,rfl⟩
structure n8 (op:Int)(l:List Val):Prop where
 lo:(ii op).1<=((l.length:Nat):Int)
 hi:((l.length:Nat):Int)<=(ii op).2
 len:l.length<=1099511627776
 vf:∀ v∈l,vF v=true
theorem sh1 {op:Int}{l:List Val}(A:n8 op l)(h:ii op=(1,1)):∃ a,l=[a]/\VV a:=by
 have h1:=A.lo;have h2:=A.hi;rw[h]at h1 h2;dsimp only at h1 h2;obtain⟨a,rfl⟩:=aiQ (l:=l) m0;exact⟨a,rfl,sa (A.vf a m5)⟩
theorem xG {op:Int}{l:List Val}(A:n8 op l)(h:ii op=(2,2)):∃ a b,l=[a,b]/\VV a/\VV b:=by
 have h1:=A.lo;have h2:=A.hi;rw[h]at h1 h2;dsimp only at h1 h2;obtain⟨a,b,rfl⟩:=acA (l:=l) m0;exact⟨a,b,rfl,sa (A.vf a m5),sa (A.vf b m5)⟩
theorem sh3 {op:Int}{l:List Val}(A:n8 op l)(h:ii op=(3,3)):∃ a b c,l=[a,b,c]:=by
 have h1:=A.lo;have h2:=A.hi;rw[h]at h1 h2;dsimp only at h1 h2;exact af1 (l:=l) m0
theorem sh4 {op:Int}{l:List Val}(A:n8 op l)(h:ii op=(4,4)):∃ a b c d,l=[a,b,c,d]:=by
 have h1:=A.lo;have h2:=A.hi;rw[h]at h1 h2;dsimp only at h1 h2;exact alX (l:=l) m0
theorem ack {op:Int}{l:List Val}(A:n8 op l)(h:1<=(ii op).1):∃ a m,l=a::m/\VV a/\m.length<=1099511627776:=by
 have h1:=A.lo;have h3:=A.len;obtain⟨a,m,rfl⟩:=aln (l:=l) m0;exact⟨a,m,rfl,sa (A.vf a m5),by rw[amS]at h3;omega⟩
theorem aey (e:Ex)(row l:List Val)(i:Int)(A:n8 e.op l)(ho:e.op=4\/e.op=5\/e.op=6\/e.op=7\/e.op=8\/e.op=9\/e.op=10\/e.op=11\/e.op=12\/e.op=13\/e.op=14\/e.op=15\/e.op=16\/e.op=17\/e.op=18\/e.op=19\/e.op=20\/e.op=21\/e.op=22\/e.op=23\/e.op=24):gER_K e row (.inl (l,i))=some (kK e.op e.int l):=by
 rcases ho with ho|ho|ho|ho|ho|ho|ho|ho|ho|ho|ho|ho|ho|ho|ho|ho|ho|ho|ho|ho|ho
 ·obtain⟨a,rfl,va⟩:=sh1 A (by rw[ho];rfl)
  have hv:kK 4 e.int [a]=tc (zV (tF_ a)):=rfl;rw[ho,hv];unfold gER_K;dsimp only;simp only[ho,Int.reduceEq,sl9];rw[show aq [a] (0:Int)=some a from rfl,amv,jK,amv,tM (fr a),amv,lp (n9 _)];rfl
 ·obtain⟨a,m,rfl,va,hm⟩:=ack A (by rw[ho];decide)
  have hv:kK 5 e.int (a::m)=tc (uq CH m (tF_ a)):=rfl;rw[ho,hv];unfold gER_K;dsimp only;simp only[ho,Int.reduceEq,sl9];rw[BG 5 CH FV (fun a b ha hb=>by rw[show decide ((5:Int)=5)=true from rfl];exact ac7 ha hb) a m hm];rfl
 ·obtain⟨a,m,rfl,va,hm⟩:=ack A (by rw[ho];decide)
  have hv:kK 6 e.int (a::m)=tc (uq or3 m (tF_ a)):=rfl;rw[ho,hv];unfold gER_K;dsimp only;simp only[ho,Int.reduceEq,sl9];rw[BG 6 or3 KG (fun a b ha hb=>by rw[show decide ((6:Int)=5)=false from rfl];exact agX ha hb) a m hm];rfl
 ·obtain⟨a,b,rfl,va,vb⟩:=xG A (by rw[ho];rfl)
  have hv:kK 7 e.int [a,b]=tc (oH 7 a b):=rfl;rw[ho,hv];unfold gER_K;dsimp only;simp only[ho,Int.reduceEq,sl9];rw[show aq [a,b] (0:Int)=some a from rfl,amv,show aq [a,b] (1:Int)=some b from rfl,amv,fq,amv,lp (fU _ _ _)];rfl
 ·obtain⟨a,b,rfl,va,vb⟩:=xG A (by rw[ho];rfl)
  have hv:kK 8 e.int [a,b]=tc (oH 8 a b):=rfl;rw[ho,hv];unfold gER_K;dsimp only;simp only[ho,Int.reduceEq,sl9];rw[show aq [a,b] (0:Int)=some a from rfl,amv,show aq [a,b] (1:Int)=some b from rfl,amv,fq,amv,lp (fU _ _ _)];rfl
 ·obtain⟨a,b,rfl,va,vb⟩:=xG A (by rw[ho];rfl)
  have hv:kK 9 e.int [a,b]=tc (oH 9 a b):=rfl;rw[ho,hv];unfold gER_K;dsimp only;simp only[ho,Int.reduceEq,sl9];rw[show aq [a,b] (0:Int)=some a from rfl,amv,show aq [a,b] (1:Int)=some b from rfl,amv,fq,amv,lp (fU _ _ _)];rfl
 ·obtain⟨a,b,rfl,va,vb⟩:=xG A (by rw[ho];rfl)
  have hv:kK 10 e.int [a,b]=tc (oH 10 a b):=rfl;rw[ho,hv];unfold gER_K;dsimp only;simp only[ho,Int.reduceEq,sl9];rw[show aq [a,b] (0:Int)=some a from rfl,amv,show aq [a,b] (1:Int)=some b from rfl,amv,fq,amv,lp (fU _ _ _)];rfl
 ·obtain⟨a,b,rfl,va,vb⟩:=xG A (by rw[ho];rfl)
  have hv:kK 11 e.int [a,b]=tc (oH 11 a b):=rfl;rw[ho,hv];unfold gER_K;dsimp only;simp only[ho,Int.reduceEq,sl9];rw[show aq [a,b] (0:Int)=some a from rfl,amv,show aq [a,b] (1:Int)=some b from rfl,amv,fq,amv,lp (fU _ _ _)];rfl
 ·obtain⟨a,b,rfl,va,vb⟩:=xG A (by rw[ho];rfl)
  have hv:kK 12 e.int [a,b]=tc (oH 12 a b):=rfl;rw[ho,hv];unfold gER_K;dsimp only;simp only[ho,Int.reduceEq,sl9];rw[show aq [a,b] (0:Int)=some a from rfl,amv,show aq [a,b] (1:Int)=some b from rfl,amv,fq,amv,lp (fU _ _ _)];rfl
 ·obtain⟨a,b,rfl,va,vb⟩:=xG A (by rw[ho];rfl)
  have hv:kK 13 e.int [a,b]=dH 13 a b:=rfl;rw[ho,hv];unfold gER_K;dsimp only;simp only[ho,Int.reduceEq,sl9];unfold dH;rw[jn _ _ m5,amv]
  cases dx [a,b] 1 with
  |false=>exact congrArg (fun o:Option Val=>o.bind fun r=>some r) bU
  |true=>exact congrArg (fun o:Option Val=>o.bind fun r=>some r) (dX va.int).1
 ·obtain⟨a,b,rfl,va,vb⟩:=xG A (by rw[ho];rfl)
  have hv:kK 14 e.int [a,b]=dH 14 a b:=rfl;rw[ho,hv];unfold gER_K;dsimp only;simp only[ho,Int.reduceEq,sl9];unfold dH;rw[jn _ _ m5,amv]
  cases dx [a,b] 1 with
  |false=>exact congrArg (fun o:Option Val=>o.bind fun r=>some r) bU
  |true=>exact congrArg (fun o:Option Val=>o.bind fun r=>some r) (dX va.int).1
 ·obtain⟨a,b,rfl,va,vb⟩:=xG A (by rw[ho];rfl)
  have hv:kK 15 e.int [a,b]=dH 15 a b:=rfl;rw[ho,hv];unfold gER_K;dsimp only;simp only[ho,Int.reduceEq,sl9];unfold dH;rw[jn _ _ m5,amv]
  cases dx [a,b] 1 with
  |false=>exact congrArg (fun o:Option Val=>o.bind fun r=>some r) bU
  |true=>exact congrArg (fun o:Option Val=>o.bind fun r=>some r) (dX va.int).1
 ·obtain⟨a,b,rfl,va,vb⟩:=xG A (by rw[ho];rfl)
  have hv:kK 16 e.int [a,b]=dH 16 a b:=rfl;rw[ho,hv];unfold gER_K;dsimp only;simp only[ho,Int.reduceEq,sl9];unfold dH;rw[jn _ _ m5,amv]
  cases dx [a,b] 1 with
  |false=>exact congrArg (fun o:Option Val=>o.bind fun r=>some r) bU
  |true=>exact congrArg (fun o:Option Val=>o.bind fun r=>some r) (dX va.int).1
 ·obtain⟨a,b,rfl,va,vb⟩:=xG A (by rw[ho];rfl)
  have hv:kK 17 e.int [a,b]=dH 17 a b:=rfl;rw[ho,hv];unfold gER_K;dsimp only;simp only[ho,Int.reduceEq,sl9];unfold dH;rw[jn _ _ m5,amv]
  cases dx [a,b] 1 with
  |false=>exact congrArg (fun o:Option Val=>o.bind fun r=>some r) bU
  |true=>exact congrArg (fun o:Option Val=>o.bind fun r=>some r) (dX va.int).1
 ·obtain⟨a,rfl,va⟩:=sh1 A (by rw[ho];rfl)
  have hv:kK 18 e.int [a]=IP a:=rfl;rw[ho,hv];unfold gER_K;dsimp only;simp only[ho,Int.reduceEq,sl9];unfold IP;rw[jn _ _ m5,amv]
  cases dx [a] 1 with
  |false=>exact congrArg (fun o:Option Val=>o.bind fun r=>some r) bU
  |true=>exact congrArg (fun o:Option Val=>o.bind fun r=>some r) (gR _)
 ·obtain⟨a,b,rfl,va,vb⟩:=xG A (by rw[ho];rfl)
  have hv:kK 19 e.int [a,b]=GE a b:=rfl;rw[ho,hv];unfold gER_K;dsimp only;simp only[ho,Int.reduceEq,sl9];rw[Lq va vb];rfl
 ·obtain⟨a,rfl,va⟩:=sh1 A (by rw[ho];rfl)
  have hv:kK 20 e.int [a]=G_ a:=rfl;rw[ho,hv];unfold gER_K;dsimp only;simp only[ho,Int.reduceEq,sl9];rw[MH];rfl
 ·obtain⟨a,rfl,va⟩:=sh1 A (by rw[ho];rfl)
  have hv:kK 21 e.int [a]=ja (decide (a.kind=0)):=rfl;rw[ho,hv];unfold gER_K;dsimp only;simp only[ho,Int.reduceEq,sl9];rw[show aq [a] (0:Int)=some a from rfl,amv,rD];rfl
 ·obtain⟨a,b,c,rfl⟩:=sh3 A (by rw[ho];rfl)
  have hv:kK 22 e.int [a,b,c]=(bif decide (tF_ a=2)then b else c):=rfl;rw[ho,hv];unfold gER_K;dsimp only;simp only[ho,Int.reduceEq,sl9];unfold oU;rw[show decide ((22:Int)=22)=true from rfl,amy,show aq [a,b,c] (0:Int)=some a from rfl,amv,jK,amv]
  cases decide (tF_ a=2)<;>rfl
 ·obtain⟨a,m,rfl,va,hm⟩:=ack A (by rw[ho];decide)
  have hv:kK 23 e.int (a::m)=tn (a::m):=rfl;rw[ho,hv];unfold gER_K;dsimp only;simp only[ho,Int.reduceEq,sl9];rw[F5 _ A.len];rfl
 ·obtain⟨a,b,c,d,rfl⟩:=sh4 A (by rw[ho];rfl)
  have hv:kK 24 e.int [a,b,c,d]=F3 e.int a b c d:=rfl;rw[ho,hv];unfold gER_K;dsimp only;simp only[ho,Int.reduceEq,sl9];rw[Gu];rfl
theorem aeo (e:Ex)(l:List Val)(i:Int)(A:n8 e.op l)(hle:l.length=e.args.length)(ho:e.op=4\/e.op=5\/e.op=6\/e.op=7\/e.op=8\/e.op=9\/e.op=10\/e.op=11\/e.op=12\/e.op=13\/e.op=14\/e.op=15\/e.op=16\/e.op=17\/e.op=18\/e.op=19\/e.op=20\/e.op=21\/e.op=23\/e.op=24):br e (.inl (l,i))=some (kK e.op e.int l):=by
 rcases ho with ho|ho|ho|ho|ho|ho|ho|ho|ho|ho|ho|ho|ho|ho|ho|ho|ho|ho|ho|ho
 ·obtain⟨a,rfl,va⟩:=sh1 A (by rw[ho];rfl)
  have hv:kK 4 e.int [a]=tc (zV (tF_ a)):=rfl;rw[ho,hv];unfold br;dsimp only;rw[amA hle,amy];simp only[ho,Int.reduceEq,sl9];rw[KU];rfl
 ·obtain⟨a,m,rfl,va,hm⟩:=ack A (by rw[ho];decide)
  have hv:kK 5 e.int (a::m)=tc (uq CH m (tF_ a)):=rfl;rw[ho,hv];unfold br;dsimp only;rw[amA hle,amy];simp only[ho,Int.reduceEq,sl9];rw[L9 a m hm];rfl
 ·obtain⟨a,m,rfl,va,hm⟩:=ack A (by rw[ho];decide)
  have hv:kK 6 e.int (a::m)=tc (uq or3 m (tF_ a)):=rfl;rw[ho,hv];unfold br;dsimp only;rw[amA hle,amy];simp only[ho,Int.reduceEq,sl9];rw[ab2 a m hm];rfl
 ·obtain⟨a,b,rfl,va,vb⟩:=xG A (by rw[ho];rfl)
  have hv:kK 7 e.int [a,b]=tc (oH 7 a b):=rfl;rw[ho,hv];unfold br;dsimp only;rw[amA hle,amy];simp only[ho,Int.reduceEq,sl9];rw[show aq [a,b] (0:Int)=some a from rfl,amv,show aq [a,b] (1:Int)=some b from rfl,amv,dE,amv,gz (fU _ _ _)];rfl
 ·obtain⟨a,b,rfl,va,vb⟩:=xG A (by rw[ho];rfl)
  have hv:kK 8 e.int [a,b]=tc (oH 8 a b):=rfl;rw[ho,hv];unfold br;dsimp only;rw[amA hle,amy];simp only[ho,Int.reduceEq,sl9];rw[show aq [a,b] (0:Int)=some a from rfl,amv,show aq [a,b] (1:Int)=some b from rfl,amv,dE,amv,gz (fU _ _ _)];rfl
 ·obtain⟨a,b,rfl,va,vb⟩:=xG A (by rw[ho];rfl)
  have hv:kK 9 e.int [a,b]=tc (oH 9 a b):=rfl;rw[ho,hv];unfold br;dsimp only;rw[amA hle,amy];simp only[ho,Int.reduceEq,sl9];rw[show aq [a,b] (0:Int)=some a from rfl,amv,show aq [a,b] (1:Int)=some b from rfl,amv,dE,amv,gz (fU _ _ _)];rfl
 ·obtain⟨a,b,rfl,va,vb⟩:=xG A (by rw[ho];rfl)
  have hv:kK 10 e.int [a,b]=tc (oH 10 a b):=rfl;rw[ho,hv];unfold br;dsimp only;rw[amA hle,amy];simp only[ho,Int.reduceEq,sl9];rw[show aq [a,b] (0:Int)=some a from rfl,amv,show aq [a,b] (1:Int)=some b from rfl,amv,dE,amv,gz (fU _ _ _)];rfl
 ·obtain⟨a,b,rfl,va,vb⟩:=xG A (by rw[ho];rfl)
  have hv:kK 11 e.int [a,b]=tc (oH 11 a b):=rfl;rw[ho,hv];unfold br;dsimp only;rw[amA hle,amy];simp only[ho,Int.reduceEq,sl9];rw[show aq [a,b] (0:Int)=some a from rfl,amv,show aq [a,b] (1:Int)=some b from rfl,amv,dE,amv,gz (fU _ _ _)];rfl
 ·obtain⟨a,b,rfl,va,vb⟩:=xG A (by rw[ho];rfl)
  have hv:kK 12 e.int [a,b]=tc (oH 12 a b):=rfl;rw[ho,hv];unfold br;dsimp only;rw[amA hle,amy];simp only[ho,Int.reduceEq,sl9];rw[show aq [a,b] (0:Int)=some a from rfl,amv,show aq [a,b] (1:Int)=some b from rfl,amv,dE,amv,gz (fU _ _ _)];rfl
 ·obtain⟨a,b,rfl,va,vb⟩:=xG A (by rw[ho];rfl)
  have hv:kK 13 e.int [a,b]=dH 13 a b:=rfl;rw[ho,hv];unfold br;dsimp only;rw[amA hle,amy];simp only[ho,Int.reduceEq,sl9];rw[kp va m0];rfl
 ·obtain⟨a,b,rfl,va,vb⟩:=xG A (by rw[ho];rfl)
  have hv:kK 14 e.int [a,b]=dH 14 a b:=rfl;rw[ho,hv];unfold br;dsimp only;rw[amA hle,amy];simp only[ho,Int.reduceEq,sl9];rw[kp va m0];rfl
 ·obtain⟨a,b,rfl,va,vb⟩:=xG A (by rw[ho];rfl)
  have hv:kK 15 e.int [a,b]=dH 15 a b:=rfl;rw[ho,hv];unfold br;dsimp only;rw[amA hle,amy];simp only[ho,Int.reduceEq,sl9];rw[kp va m0];rfl
 ·obtain⟨a,b,rfl,va,vb⟩:=xG A (by rw[ho];rfl)
  have hv:kK 16 e.int [a,b]=dH 16 a b:=rfl;rw[ho,hv];unfold br;dsimp only;rw[amA hle,amy];simp only[ho,Int.reduceEq,sl9];rw[kp va m0];rfl
 ·obtain⟨a,b,rfl,va,vb⟩:=xG A (by rw[ho];rfl)
  have hv:kK 17 e.int [a,b]=dH 17 a b:=rfl;rw[ho,hv];unfold br;dsimp only;rw[amA hle,amy];simp only[ho,Int.reduceEq,sl9];rw[kp va m0];rfl
 ·obtain⟨a,rfl,va⟩:=sh1 A (by rw[ho];rfl)
  have hv:kK 18 e.int [a]=IP a:=rfl;rw[ho,hv];unfold br;dsimp only;rw[amA hle,amy];simp only[ho,Int.reduceEq,sl9];rw[KL];rfl
 ·obtain⟨a,b,rfl,va,vb⟩:=xG A (by rw[ho];rfl)
  have hv:kK 19 e.int [a,b]=GE a b:=rfl;rw[ho,hv];unfold br;dsimp only;rw[amA hle,amy];simp only[ho,Int.reduceEq,sl9];rw[LP va vb];rfl
 ·obtain⟨a,rfl,va⟩:=sh1 A (by rw[ho];rfl)
  have hv:kK 20 e.int [a]=G_ a:=rfl;rw[ho,hv];unfold br;dsimp only;rw[amA hle,amy];simp only[ho,Int.reduceEq,sl9];rw[Lh va];rfl
 ·obtain⟨a,rfl,va⟩:=sh1 A (by rw[ho];rfl)
  have hv:kK 21 e.int [a]=ja (decide (a.kind=0)):=rfl;rw[ho,hv];unfold br;dsimp only;rw[amA hle,amy];simp only[ho,Int.reduceEq,sl9];rw[show aq [a] (0:Int)=some a from rfl,amv,DT];rfl
 ·obtain⟨a,m,rfl,va,hm⟩:=ack A (by rw[ho];decide)
  have hv:kK 23 e.int (a::m)=tn (a::m):=rfl;rw[ho,hv];unfold br;dsimp only;rw[amA hle,amy];simp only[ho,Int.reduceEq,sl9];exact MD _ A.len
 ·obtain⟨a,b,c,d,rfl⟩:=sh4 A (by rw[ho];rfl)
  have hv:kK 24 e.int [a,b,c,d]=F3 e.int a b c d:=rfl;rw[ho,hv];unfold br;dsimp only;rw[amA hle,amy];simp only[ho,Int.reduceEq,sl9];rw[IL];rfl
theorem akB (k:Int){op:Int}{l:List Val}(A:n8 op l)(ho:op=4\/op=5\/op=6\/op=7\/op=8\/op=9\/op=10\/op=11\/op=12\/op=13\/op=14\/op=15\/op=16\/op=17\/op=18\/op=19\/op=20\/op=21\/op=22\/op=23\/op=24):vF (kK op k l)=true:=by
 rcases ho with rfl|rfl|rfl|rfl|rfl|rfl|rfl|rfl|rfl|rfl|rfl|rfl|rfl|rfl|rfl|rfl|rfl|rfl|rfl|rfl|rfl
 ·exact oV _
 ·exact oV _
 ·exact oV _
 ·exact oV _
 ·exact oV _
 ·exact oV _
 ·exact oV _
 ·exact oV _
 ·exact oV _
 ·have hlo:=A.lo
  have hhi:=A.hi;rw[alq]at hlo hhi;dsimp only at hlo hhi;obtain⟨a,b,rfl⟩:=acA (l:=l) m0;exact nA (sa (A.vf a m5))
 ·have hlo:=A.lo
  have hhi:=A.hi;rw[al2]at hlo hhi;dsimp only at hlo hhi;obtain⟨a,b,rfl⟩:=acA (l:=l) m0;exact nA (sa (A.vf a m5))
 ·have hlo:=A.lo
  have hhi:=A.hi;rw[alM]at hlo hhi;dsimp only at hlo hhi;obtain⟨a,b,rfl⟩:=acA (l:=l) m0;exact nA (sa (A.vf a m5))
 ·have hlo:=A.lo
  have hhi:=A.hi;rw[alJ]at hlo hhi;dsimp only at hlo hhi;obtain⟨a,b,rfl⟩:=acA (l:=l) m0;exact nA (sa (A.vf a m5))
 ·have hlo:=A.lo
  have hhi:=A.hi;rw[alr]at hlo hhi;dsimp only at hlo hhi;obtain⟨a,b,rfl⟩:=acA (l:=l) m0;exact nA (sa (A.vf a m5))
 ·exact ai0 _
 ·exact aiW _ _
 ·exact aja _
 ·exact xQ _
 ·have hlo:=A.lo
  have hhi:=A.hi;rw[ajo]at hlo hhi;dsimp only at hlo hhi;obtain⟨a,b,c,rfl⟩:=af1 (l:=l) m0;show vF (bif decide (tF_ a=2)then b else c)=true
  cases decide (tF_ a=2)
  ·exact A.vf c m5
  ·exact A.vf b m5
 ·exact agE A.vf
 ·exact aiS _ _ _ _ _
theorem En (row:List Val):∀ (n:Nat) (e:Ex),nF n e ->∃ v,gH n e row=some v/\th n e row=some v/\vF v=true
 |0,_,h=>h.elim
 |n+1,e,h=>by
  have hx:∀ x∈e.args,gH n x row=some ((gH n x row).getD gy)/\th n x row=some ((gH n x row).getD gy)/\vF ((gH n x row).getD gy)=true:=by
   intro x hx;obtain⟨v,h1,h2,h3⟩:=En row n x (h.2 x hx);rw[h1];exact⟨rfl,h2,h3⟩
  generalize hg:(fun x=>(gH n x row).getD gy)=g at hx;have hx':∀ x∈e.args,gH n x row=some (g x)/\th n x row=some (g x)/\vF (g x)=true:=by subst hg;exact hx
  show ∃ v,qZ (gH n) e row=some v/\uW (th n) e row=some v/\vF v=true;have hR:qZ (gH n) e row=(bif jd e then gER_K e row (.inl (e.args.map g,((e.args.length:Nat):Int)))else some gy):=by
   unfold qZ;rw[wI h.1,amv,bU]
   cases jd e with
   |false=>rfl
   |true =>
    rw[Bool.not_true,amx,amy];have:=bA (l:=e.args) (body:=jO e row (gH n)) (fun x=>[g x]) 4398046511104 ?_ ?_ (by unfold fuel;have:=h.1;omega) [] ?_
    ·rw[this,amB,<- List.map_eq_flatMap];rfl
    ·intro s i x hx1 hb
     have hi:=(amw.1 hx1).1;have hlen:=h.1;unfold jO;dsimp only;rw[aC hx1,amy,gn_ hx1,wrapN m0,amv,(hx' x (amC hx1)).1,amv,amA (show s.length+1<=4398046511104 from hb),amy]
    ·intro s
     unfold jO;dsimp only;rw[lF_,amx]
    ·have:=h.1
     rw[<- List.map_eq_flatMap,amI];simp;omega
  have hP:uW (th n) e row=(bif jd e then(if e.op=1 then some e.v else if e.op=2 then some (Hh (l5 row e.int))else if e.op=22 then some (kK 22 e.int (e.args.map g))else br e (.inl (e.args.map g,((e.args.length:Nat):Int))))else some gy):=by
   unfold uW;rw[Nw h.1,amv,iP]
   cases hf:jd e with
   |false=>rfl
   |true =>
    rw[Bool.not_true,amx,amy];by_cases o1:e.op=1
    ·rw[amA o1,amy,if_pos o1]
    rw[amz o1,amx,if_neg o1];by_cases o2:e.op=2
    ·rw[amA o2,amy,if_pos o2,Ny];rfl
    rw[amz o2,amx,if_neg o2];by_cases o3:e.op=22
    ·rw[amA o3,amy,if_pos o3]
     obtain⟨_,hlo,hhi,_⟩:=sO h.1 hf;rw[o3,ajo]at hlo hhi;dsimp only at hlo hhi;obtain⟨a,b,c,ha⟩:=af1 (l:=e.args) m0;rw[ha]at hx' ⊢;unfold xP;rw[show aq [a,b,c] (0:Int)=some a from rfl,show aq [a,b,c] (1:Int)=some b from rfl,show aq [a,b,c] (2:Int)=some c from rfl];simp only[amv];rw[(hx' a m5).2.1,amv,f_,(hx' b m5).2.1,(hx' c m5).2.1];show _=some (bif decide (tF_ (g a)=2)then g b else g c);simp only[amv]
     cases decide (tF_ (g a)=2)<;>rfl
    ·rw[amz o3,amx,if_neg o3]
     have hlen:=h.1;rw[amA (show(0:Int)<=((e.args.length:Nat):Int)by omega),amA (show(32:Int)*((e.args.length:Nat):Int)<=281474976710656 by omega),amA (show((e.args.length:Nat):Int)<=9223372036854775807 by omega),amy,amy,amy];have:=IZ (l:=e.args) (body:=l6 e row (th n)) g ?_ ?_ fuel 0 (List.replicate e.args.length ⟨0,0,ByteArray.empty⟩) m5 (amR _) (by unfold fuel;omega)
     ·rw[show((0:Nat):Int)=0 from rfl]at this
      rw[this,List.take_zero,amB,List.drop_zero];rfl
     ·intro c i x hx1 hb
      have hi:=(amw.1 hx1).1;unfold l6;dsimp only;rw[aC hx1,amy,gn_ hx1,wrapN m0,amv,(hx' x (amC hx1)).2.1,amv,amA (show(0:Int)<=(i:Int)by omega),amy,amy,show 0+((i:Int)).toNat=i by omega,amA hb,amy]
     ·intro c
      unfold l6;dsimp only;rw[lF_,amx]
  rw[hR,hP]
  cases hf:jd e with
  |false=>exact⟨_,rfl,rfl,iR⟩
  |true =>
   rw[amy,amy];obtain⟨hops,hlo,hhi,hrest⟩:=sO h.1 hf;by_cases o1:e.op=1
   ·have hv:=Me o1 hrest
    refine⟨e.v,?_,by rw[if_pos o1],hv⟩;unfold gER_K;dsimp only;rw[amA o1,amy,Ip e row o1 hv];rfl
   by_cases o2:e.op=2
   ·refine⟨Hh (l5 row e.int),?_,by rw[if_neg o1,if_pos o2],lV _⟩
    unfold gER_K;dsimp only;rw[amz o1,amx,amA o2,amy,abv e row o2];rfl
   have A:n8 e.op (e.args.map g):=by
    refine⟨by rw[amI];exact hlo,by rw[amI];exact hhi,by rw[amI];exact h.1,fun v hv=>?_⟩;obtain⟨x,hx1,rfl⟩:=am6.1 hv;exact(hx' x hx1).2.2
   have hops2:e.op=4\/e.op=5\/e.op=6\/e.op=7\/e.op=8\/e.op=9\/e.op=10\/e.op=11\/e.op=12\/e.op=13\/e.op=14\/e.op=15\/e.op=16\/e.op=17\/e.op=18\/e.op=19\/e.op=20\/e.op=21\/e.op=22\/e.op=23\/e.op=24:=m0
   refine⟨kK e.op e.int (e.args.map g),aey e row _ _ A hops2,?_,akB _ A hops2⟩;rw[if_neg o1,if_neg o2];by_cases o3:e.op=22
   ·rw[if_pos o3,o3]
   ·rw[if_neg o3]
    exact aeo e _ _ A (by rw[amI]) m0
theorem qo {S ρ:Type}{body:S->Option (Step S ρ)}(P:Nat->S->Prop)(Q:S->Prop)(len:Nat)(h1:∀ i s,P i s->i<len->(∃ s',body s=some (.next s')/\P (i+1) s') \/ ∃ q,body s=some (.ret q))(h2:∀ s,P len s->body s=some (.exit s)/\Q s) :
  ∀ (n i:Nat) (s:S),P i s->i<=len->len-i<n ->∃ r,ap body n s=some r /\ ∀ s',r = .inl s'->Q s'
 |0,i,s,_,_,h=>by omega
 |n+1,i,s,hp,hi,hn=>by
  rw[ap];by_cases hlt:i<len
  ·rcases h1 i s hp hlt with⟨s',e,hp'⟩|⟨q,e⟩
   ·rw[e];exact qo P Q len h1 h2 n (i+1) s' hp' m0 m0
   ·rw[e];exact⟨.inr q,rfl,fun s' h=>by cases h⟩
  ·have:i=len:=m0
   subst this;obtain⟨e,hq⟩:=h2 s hp;rw[e];exact⟨.inl s,rfl,fun s' h=>by injection h with h;rw[<- h];exact hq⟩
theorem oY (l:List Int)(k:Int)(hl:l.length<=4000000000000):∃ b,fg l k=some b:=by
 obtain⟨r,hr,hq⟩:=qo (body:=mC l k) (fun i s=>s=(i:Int)) (fun _=>True) l.length (fun i s hs hi=>by
  subst hs;obtain⟨x,hx⟩:=gol_ hi;unfold mC;dsimp only;rw[aC hx,amy,gn_ hx,wrapN m0];simp only[amv]
  cases decide (x≠k)<;>cases decide (x≠0)<;>first|exact .inl ⟨_,rfl,rfl⟩|exact .inr ⟨_,rfl⟩) (fun s hs=>by
  subst hs;unfold mC;dsimp only;rw[lF_,amx];exact⟨rfl,t7⟩) fuel 0 0 rfl (amR _) (by unfold fuel;omega)
 unfold fg;rw[hr]
 cases r<;>exact⟨_,rfl⟩
theorem wV (l:List Int)(hl:l.length<=4000000000000):∃ b,fR l=some b:=by
 obtain⟨r,hr,hq⟩:=qo (body:=kD l) (fun i s=>s.2=(i:Int)) (fun _=>True) l.length (fun i s hs hi=>by
  obtain⟨k,j⟩:=s;obtain rfl:j=(i:Int):=hs;obtain⟨x,hx⟩:=gol_ hi;unfold kD;dsimp only;rw[aC hx,amy,gn_ hx,wrapN m0];simp only[amv]
  cases decide (x=0)<;>cases decide (k≠0)<;>cases decide (k≠x)<;>first|exact .inl ⟨_,rfl,rfl⟩|exact .inr ⟨_,rfl⟩) (fun s hs=>by
  obtain⟨k,j⟩:=s;obtain rfl:j=((l.length:Nat):Int):=hs;unfold kD;dsimp only;rw[lF_,amx];exact⟨rfl,t7⟩) fuel 0 (0,0) rfl (amR _) (by unfold fuel;omega)
 unfold fR;rw[hr]
 cases r<;>exact⟨_,rfl⟩
theorem t8 {α:Type}{b:Bool}{x y:Option α}(h1:∃ q,x=some q)(h2:∃ q,y=some q):∃ q,(bif b then x else y)=some q:=by cases b<;>assumption
theorem KH {e:Ex}{l kinds:List Int}(h2:e.op≠2)(h3:e.op=22->l.length=3)(hl:l.length<=4000000000000):∃ q,gRs11 e l kinds=some q:=by
 obtain⟨j,hj⟩:=wV l hl;obtain⟨a1,ha1⟩:=oY l 1 hl;obtain⟨a2,ha2⟩:=oY l 2 hl;obtain⟨a3,ha3⟩:=oY l 3 hl;unfold gRs11;rw[amz h2,hj,ha1,ha2,ha3];simp only[amv,amx];by_cases h22:e.op=22
 ·obtain⟨a,b,c,rfl⟩:=af1 (h3 h22)
  rw[show fM [a,b,c] (1:Int) ((([a,b,c].length:Nat)):Int)=some [b,c]from rfl,show fM [a,b,c] (0:Int) (1:Int)=some [a]from rfl];obtain⟨k,hk⟩:=wV [b,c] m5;obtain⟨a4,ha4⟩:=oY [a] 3 m5;simp only[amv,hk,ha4,h22,Int.reduceEq,sl9]
  cases k.2<;>exact⟨_,rfl⟩
 ·rw[amz h22,amx]
  repeat' (first|exact⟨_,rfl⟩|(refine t8 ?_ ?_))
theorem af9 {α:Type}{b:Bool}{x y:Option α}{a:α}{P:Prop}(h1:x=some a->P)(h2:y=some a->P):(bif b then x else y)=some a->P:=by cases b<;>assumption
theorem ah7 (op:Int):lI op=some (ii op)/\(ii op).2<=1099511627776:=by
 have h:=(pJ op 0 m0).1;refine⟨h,?_⟩;unfold lI at h;generalize ii op=a at h ⊢;revert h
 repeat' (first|refine af9 ?_ ?_|(intro h;injection h with h;subst h;decide))
theorem aaZ (e:Ex):ew e=some (jd e)/\(jd e=true->e.args.length<=1099511627776):=by
 by_cases hl:e.args.length<=1099511627776
 ·exact⟨wI hl,fun _=>hl⟩
 ·obtain⟨h1,h2⟩:=ah7 e.op
  have hf:ew e=some false:=by
   unfold ew;rw[h1,amv];by_cases c1:(ii e.op).1<0
   ·rw[amA c1];rfl
   ·rw[amz c1,amx]
    by_cases c2:((e.args.length:Nat):Int)<(ii e.op).1
    ·rw[amA c2];rfl
    ·rw[amz c2,amx,amA (show(ii e.op).2<((e.args.length:Nat):Int)by omega)];rfl
  have e2:jd e=false:=by unfold jd;rw[hf];rfl
  rw[hf,e2];exact⟨rfl,fun h=>by cases h⟩
theorem HQ {e:Ex}(h:xk e):e.args.length<=4000000000000 /\ ∀ x∈e.args,xk x:=by
 cases h with
 | @mk op int v nm args h0 h1 h2 h3 h4 g4 =>
  refine⟨?_,g4⟩;unfold reachBytes at h4;show args.length<=4000000000000;omega
theorem CX:∀ (n:Nat) (e:Ex),hgt e<=n->xk e ->∃ d,iM n e=some d
 |0,e,h,_=>by have:=Mc e;omega
 |n+1,e,h,ho=>by
  obtain⟨hl,ha⟩:=HQ ho;have hx:∀ x∈e.args,∃ d,iM n x=some d:=fun x hx=>CX n x (by have:=NZ hx;omega) (ha x hx)
  show ∃ d,mh (iM n) e=some d;obtain⟨r,hr,hq⟩:=qo (body:=gP e (iM n)) (fun i s=>s.2=(i:Int)) (fun _=>True) e.args.length (fun i s hs hi=>by
   obtain⟨k,j⟩:=s;obtain rfl:j=(i:Int):=hs;obtain⟨x,hxx⟩:=gol_ hi;obtain⟨d,hd⟩:=hx x (amC hxx);unfold gP;dsimp only;rw[aC hxx,amy,gn_ hxx,wrapN m0,amv,hd];exact .inl ⟨_,rfl,rfl⟩) (fun s hs=>by
   obtain⟨k,j⟩:=s;obtain rfl:j=((e.args.length:Nat):Int):=hs;unfold gP;dsimp only;rw[lF_,amx];exact⟨rfl,t7⟩) fuel 0 (0,0) rfl (amR _) (by unfold fuel;omega)
  unfold mh;rw[hr]
  cases r<;>exact⟨_,rfl⟩
theorem Eu (e:Ex)(kinds:List Int)(rec:Ex->List Int->Option (Int×Int))(hrec:∀ x∈e.args,∃ c,rec x kinds=some c){q:Int×Int}(hq:q.2=0):∀ (n:Nat) {s:List Int×Int},ap (cX e kinds rec) n s≠some (.inr q)
 |0,s=>by simp[ap]
 |n+1,(k,j)=>by
  have hb:∀ st,cX e kinds rec (k,j)=some st->st ≠ .ret q:=by
   intro st h e0;subst e0;unfold cX at h;dsimp only at h
   cases hlt:decide (j<((e.args.length:Nat):Int))with
   |false=>rw[hlt]at h;cases h
   |true =>
    rw[hlt,amy]at h;obtain⟨x,hx,h⟩:=bd_ h;obtain⟨c,hc,h⟩:=bd_ h
    cases h0:decide (c.2≠0)with
    |true=>rw[h0,amy]at h;cases h;exact(amZ h0) hq
    |false =>
     rw[h0,amx]at h;obtain⟨_,h⟩:=bo h
     cases h
  rw[ap]
  cases hs:cX e kinds rec (k,j)with
  |none=>simp
  |some st =>
   cases st with
   |next s'=>exact Eu e kinds rec hrec hq n
   |exit s'=>simp
   |ret r =>
    intro h;injection h with h
    injection h with h
    exact hb _ hs (by rw[h])
theorem C9 (kinds:List Int):∀ (n:Nat) (e:Ex),hgt e<=n->xk e ->∃ c,fJ n e kinds=some c/\(c.2=0->nF n e)
 |0,e,h,_=>by have:=Mc e;omega
 |n+1,e,h,ho=>by
  obtain⟨hl,ha⟩:=HQ ho;have hx:∀ x∈e.args,∃ c,fJ n x kinds=some c/\(c.2=0->nF n x):=fun x hx=>C9 kinds n x (by have:=NZ hx;omega) (ha x hx)
  obtain⟨h1,h2⟩:=ah7 e.op;obtain⟨f1,f2⟩:=aaZ e;show ∃ c,ni (fJ n) e kinds=some c/\(c.2=0->nF (n+1) e);unfold ni;rw[h1,amv];by_cases h00:(ii e.op).1<0
  ·rw[amA h00]
   exact⟨_,rfl,fun h=>by cases h⟩
  rw[amz h00,amx,f1,amv]
  cases hf:jd e with
  |false=>exact⟨_,rfl,fun h=>by cases h⟩
  |true =>
   have hlen:=f2 hf;obtain⟨hops,hlo,hhi,hrest⟩:=sO hlen hf;rw[Bool.not_true,amx];by_cases o2:e.op=2
   ·rw[amA o2,amy]
    by_cases i0:e.int<0
    ·rw[amA i0];exact⟨_,rfl,fun h=>by cases h⟩
    rw[amz i0,amx];by_cases i1:((kinds.length:Nat):Int)<=e.int
    ·rw[amA i1];exact⟨_,rfl,fun h=>by cases h⟩
    rw[amz i1,amx];obtain⟨x,hx1⟩:=gol_ (l:=kinds) (i:=e.int.toNat) m0;have hg:aq kinds e.int=some x:=by unfold aq;rw[if_pos m0];exact hx1
    rw[o2,ar2]at hhi;dsimp only at hhi;have hz:e.args.length=0:=m0
    have hbr:ap (jr e kinds (fJ n)) fuel ([],(0:Int))=some (.inl ([],0)):=by
     have:fuel=(fuel-1)+1:=rfl;rw[this,ap];unfold jr;dsimp only;rw[hz,show decide ((0:Int)<((0:Nat):Int))=false from rfl,amx]
    rw[hbr];refine⟨(x,0),?_,fun _=>⟨m0,fun y hy=>by rw[amW hz]at hy;cases hy⟩⟩;show(gRs11 e [] kinds).bind _=_;unfold gRs11;rw[o2,show decide ((2:Int)=1)=false from rfl,show decide ((2:Int)=2)=true from rfl,amx,amy,hg];rfl
   ·rw[amz o2,amx]
    obtain⟨r,hr,hq⟩:=qo (body:=cX e kinds (fJ n)) (fun i s=>s.2=(i:Int)/\s.1.length=i /\ ∀ x∈e.args.take i,nF n x) (fun s=>s.1.length=e.args.length /\ ∀ x∈e.args,nF n x) e.args.length (fun i s hs hi=>by
     obtain⟨k,j⟩:=s;obtain⟨hs1,hs2,hs3⟩:=hs;obtain rfl:j=(i:Int):=hs1;replace hs2:k.length=i:=hs2;obtain⟨x,hxx⟩:=gol_ hi;obtain⟨c,hc,hc2⟩:=hx x (amC hxx);unfold cX;dsimp only;rw[aC hxx,amy,gn_ hxx,wrapN m0,amv,hc,amv];by_cases h0:c.2=0
     ·rw[amz (show ¬ c.2≠0 by omega),amx,amA (show k.length+1<=17592186044416 by omega),amy]
      refine .inl ⟨_,rfl,rfl,by show(k++[c.1]).length=i+1;rw[amE,hs2];rfl,fun y hy=>?_⟩;rw[bu hxx]at hy;rcases amY.1 hy with hy|hy
      ·exact hs3 y hy
      ·rw[am'.1 hy];exact hc2 h0
     ·rw[amA (show c.2≠0 from h0),amy]
      exact .inr ⟨_,rfl⟩) (fun s hs=>by
     obtain⟨k,j⟩:=s;obtain⟨hs1,hs2,hs3⟩:=hs;obtain rfl:j=((e.args.length:Nat):Int):=hs1;unfold cX;dsimp only;rw[lF_,amx];refine⟨rfl,hs2,fun x hx=>hs3 x ?_⟩;rw[List.take_length];exact hx) fuel 0 ([],0) ⟨rfl,rfl,fun x hx=>by simp at hx⟩ (amR _) (by unfold fuel;omega)
    rw[hr,amv]

    cases r with
    |inr q =>
     refine⟨q,rfl,fun hq0=>?_⟩;exact absurd hr (Eu e kinds (fJ n) (fun x hm=>(hx x hm).imp fun c hc=>hc.1) hq0 fuel)
    |inl p =>
     obtain⟨t,j⟩:=p;obtain⟨ht,hall⟩:=hq (t,j) rfl;replace ht:t.length=e.args.length:=ht;obtain⟨q,q1⟩:=KH (e:=e) (l:=t) (kinds:=kinds) o2 (fun o22=>by rw[o22,ajo]at hlo hhi;dsimp only at hlo hhi;omega) m0;unfold uh;dsimp only;rw[q1,amv]
     cases q.2<;>exact⟨_,rfl,fun _=>⟨hlen,hall⟩⟩
