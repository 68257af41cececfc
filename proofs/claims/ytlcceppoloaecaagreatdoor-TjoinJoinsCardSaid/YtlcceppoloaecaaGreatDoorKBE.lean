/- Parts. No condition. -/
import Derived.Lib.Bytealg
import Derived.Test.YtlcceppoloaecaaGreatDoorKBD
set_option maxHeartbeats 8000000
set_option maxRecDepth 100000
set_option linter.unusedSimpArgs false
set_option linter.unusedVariables false
namespace Go.Proofs.YtlcceppoloaecaaGreatDoor
open IntKind (i64)
open Go.RowKit Go.MapKept
structure Fo {α:Type}(c:α->α->Int):Prop where
 refl:∀ a,c a a=0
 zero:∀ a b,c a b=0->a=b
 anti:∀ a b,c a b<0↔0<c b a
 trans:∀ a b d,c a b<0->c b d<0->c a d<0
theorem tCi_:Fo iw:=by
 refine⟨λa=>by simp[iw],λa b h=>?_,λa b=>?_,λa b d h1 h2=>?_⟩
 ·unfold iw at h;split at h
  ·omega
  ·split at h<;>omega
 ·unfold iw;split<;>split<;>(try split)<;>omega
 ·unfold iw at *
  split at h1
  ·split at h2
   ·rw[if_pos m0];omega
   ·split at h2<;>omega
  ·split at h1<;>omega
def oe {α:Type}(c:α->α->Int):List α->List α->Int
 |[],[]=>0
 |[],_::_ => -1
 |_::_,[]=>1
 |a::xs,b::ys=>if c a b≠0 then c a b else oe c xs ys
theorem L9 {α:Type}{c:α->α->Int}(h:Fo c):Fo (oe c):=by
 refine⟨?_,?_,?_,?_⟩
 ·intro a
  induction a with
  |nil=>rfl
  |cons x a ih=>simp[oe,h.refl x,ih]
 ·intro a
  induction a with
  |nil=>intro b hb;cases b with
   |nil=>rfl
   |cons _ _=>simp[oe]at hb
  |cons x a ih =>
   intro b hb
   cases b with
   |nil=>simp[oe]at hb
   |cons y b =>
    unfold oe at hb;split at hb
    ·rename_i h0;exact absurd hb h0
    ·rename_i h0
     have:=h.zero x y (by simpa using h0);subst this;rw[ih b hb]
 ·intro a
  induction a with
  |nil=>intro b;cases b with
   |nil=>simp[oe]
   |cons _ _=>simp[oe]
  |cons x a ih =>
   intro b
   cases b with
   |nil=>simp[oe]
   |cons y b =>
    unfold oe;by_cases h0:c x y=0
    ·have:=h.zero x y h0
     subst this;simp only[h.refl,ne_eq,not_true_eq_false,if_false];exact ih b
    ·have h1:c y x≠0:=λe=>h0 (by rw[h.zero y x e];exact h.refl x)
     rw[if_pos h0,if_pos h1];exact h.anti x y
 ·intro a
  induction a with
  |nil =>
   intro b d h1 h2
   cases b with
   |nil=>simp[oe]at h1
   |cons y b=>cases d with
    |nil=>simp[oe]at h2
    |cons _ _=>simp[oe]
  |cons x a ih =>
   intro b d h1 h2
   cases b with
   |nil=>simp[oe]at h1
   |cons y b =>
    cases d with
    |nil=>simp[oe]at h2
    |cons z d =>
     unfold oe at h1 h2 ⊢;by_cases e1:c x y=0
     ·have:=h.zero x y e1
      subst this;rw[if_neg (by simpa using e1)]at h1;by_cases e2:c x z=0
      ·rw[if_neg (by simpa using e2)]at h2 ⊢
       exact ih b d h1 h2
      ·rw[if_pos e2]at h2 ⊢
       exact h2
     ·rw[if_pos e1]at h1
      by_cases e2:c y z=0
      ·have:=h.zero y z e2
       subst this;rw[if_pos e1];exact h1
      ·rw[if_pos e2]at h2
       have:=h.trans x y z h1 h2;rw[if_pos m0];exact this
theorem n8:∀ a b:List Val,bL a b=oe uD a b
 |[],[]=>rfl
 |[],_::_=>rfl
 |_::_,[]=>rfl
 |a::xs,b::ys=>by rw[bL,oe,n8 xs ys]
def FI (x y:UInt8):Int:=if x<y then -1 else if y<x then 1 else 0
theorem N2:Fo FI:=by
 have key:∀ x y:UInt8,FI x y=iw (x.toNat:Int) (y.toNat:Int):=by
  intro x y;unfold FI iw;simp only[UInt8.lt_iff_toNat_lt,Int.ofNat_lt]
 refine⟨λa=>by rw[key];exact tCi_.refl _,λa b h=>?_,λa b=>by rw[key,key];exact tCi_.anti _ _,λa b d h1 h2=>by rw[key]at *;exact tCi_.trans _ _ _ h1 h2⟩;rw[key]at h;have:=tCi_.zero _ _ h;exact UInt8.toNat_inj.1 m0
theorem wE:∀ a b:List UInt8,Lib.compareBytes a b=oe FI a b
 |[],[]=>rfl
 |[],_::_=>rfl
 |_::_,[]=>rfl
 |x::a,y::b=>by
  have e:oe FI (x::a) (y::b)=if FI x y≠0 then FI x y else oe FI a b:=rfl
  rw[e,<- wE a b];have e2:Lib.compareBytes (x::a) (y::b)=if x<y then -1 else if y<x then 1 else Lib.compareBytes a b:=by rw[Lib.compareBytes]
  rw[e2];by_cases h1:x<y
  ·simp[h1,FI]
  ·by_cases h2:y<x
   ·simp[h1,h2,FI]
   ·simp[h1,h2,FI]
theorem qQ:Fo rp:=by
 have key:∀ a b:ByteArray,rp a b=oe FI a.data.toList b.data.toList:=by
  intro a b;unfold rp;rw[Lib.cmp_eq,wE]
 have t:=L9 N2;refine⟨λa=>by rw[key];exact t.refl _,λa b h=>?_,λa b=>by rw[key,key];exact t.anti _ _,λa b d h1 h2=>by rw[key]at *;exact t.trans _ _ _ h1 h2⟩;rw[key]at h;have:=t.zero _ _ h;obtain⟨⟨a⟩⟩:=a;obtain⟨⟨b⟩⟩:=b;simp at this;rw[this]
theorem aaO:Fo uD:=by
 refine⟨?_,?_,?_,?_⟩
 ·intro a;simp[uD,tCi_.refl,qQ.refl]
 ·intro a b h
  obtain⟨k,n,t⟩:=a;obtain⟨k',n',t'⟩:=b;unfold uD at h;dsimp only at h;split at h
  ·rename_i e;exact absurd h e
  ·rename_i e1
   split at h
   ·rename_i e;exact absurd h e
   ·rename_i e2
    have k1:=tCi_.zero _ _ (show iw k k'=0 by simpa using e1);have k2:=tCi_.zero _ _ (show iw n n'=0 by simpa using e2);have k3:=qQ.zero _ _ h;subst k1 k2 k3;rfl
 ·intro a b
  unfold uD;by_cases e1:iw a.kind b.kind=0
  ·have k:=tCi_.zero _ _ e1
   rw[k];simp only[tCi_.refl,ne_eq,not_true_eq_false,if_false];by_cases e2:iw a.int b.int=0
   ·have k2:=tCi_.zero _ _ e2
    rw[k2];simp only[tCi_.refl,ne_eq,not_true_eq_false,if_false];exact qQ.anti _ _
   ·have e2':iw b.int a.int≠0:=λe=>e2 (by rw[tCi_.zero _ _ e];exact tCi_.refl _)
    rw[if_pos e2,if_pos e2'];exact tCi_.anti _ _
  ·have e1':iw b.kind a.kind≠0:=λe=>e1 (by rw[tCi_.zero _ _ e];exact tCi_.refl _)
   rw[if_pos e1,if_pos e1'];exact tCi_.anti _ _
 ·intro a b d h1 h2
  unfold uD at *;by_cases e1:iw a.kind b.kind=0
  ·have k:=tCi_.zero _ _ e1
   rw[k]at h1 ⊢;simp only[tCi_.refl,ne_eq,not_true_eq_false,if_false]at h1;by_cases f1:iw b.kind d.kind=0
   ·rw[if_neg (by simpa using f1)]at h2 ⊢
    by_cases e2:iw a.int b.int=0
    ·have k2:=tCi_.zero _ _ e2
     rw[k2]at h1 ⊢;simp only[tCi_.refl,ne_eq,not_true_eq_false,if_false]at h1;by_cases f2:iw b.int d.int=0
     ·rw[if_neg (by simpa using f2)]at h2 ⊢
      exact qQ.trans _ _ _ h1 h2
     ·rw[if_pos f2]at h2 ⊢;exact h2
    ·rw[if_pos e2]at h1
     by_cases f2:iw b.int d.int=0
     ·have k2:=tCi_.zero _ _ f2
      rw[<- k2,if_pos e2];exact h1
     ·rw[if_pos f2]at h2
      have:=tCi_.trans _ _ _ h1 h2;rw[if_pos m0];exact this
   ·rw[if_pos f1]at h2 ⊢;exact h2
  ·rw[if_pos e1]at h1
   by_cases f1:iw b.kind d.kind=0
   ·have k:=tCi_.zero _ _ f1
    rw[<- k,if_pos e1];exact h1
   ·rw[if_pos f1]at h2
    have:=tCi_.trans _ _ _ h1 h2;rw[if_pos m0];exact this
theorem tCr_:Fo bL:=by
 have t:=L9 aaO;exact⟨λa=>by rw[n8];exact t.refl _,λa b h=>t.zero _ _ (by rw[<- n8];exact h),λa b=>by rw[n8,n8];exact t.anti _ _,λa b d h1 h2=>by rw[n8]at *;exact t.trans _ _ _ h1 h2⟩
section
variable {α:Type} {c:α->α->Int}
def Asc (c:α->α->Int)(l:List α):Prop:=l.Pairwise λa b=>c a b<=0
theorem Fo.le_trans (h:Fo c){a b d:α}(h1:c a b<=0)(h2:c b d<=0):c a d<=0:=by
 by_cases e1:c a b=0
 ·rw[h.zero a b e1];exact h2
 ·by_cases e2:c b d=0
  ·rw[<- h.zero b d e2];exact h1
  ·have:=h.trans a b d m0 m0;omega
theorem Fo.total (h:Fo c)(a b:α):c a b<=0\/c b a<=0:=by
 by_cases e:c a b<=0
 ·exact .inl e
 ·have:=(h.anti b a).2 m0;exact .inr m0
theorem tU (h:Fo c):∀ {l m:List α},Asc c l->Asc c m->l.Perm m->l=m
 |[],m,_,_,hp=>by rw[List.Perm.nil_eq hp]
 |x::l,[],_,_,hp=>by have:=hp.length_eq;simp at this
 |x::l,y::m,hl,hm,hp=>by
  have hx:x∈y::m:=hp.mem_iff.1 (arc ..);have hy:y∈x::l:=hp.mem_iff.2 (arc ..);rw[Asc,aro]at hl hm;have e:x=y:=by
   obtain e|hx:=aqH.1 hx
   ·exact e
   ·obtain e|hy:=aqH.1 hy
    ·exact e.symm
    ·have h1:=hm.1 x hx
     have h2:=hl.1 y hy;by_cases e0:c x y=0
     ·exact h.zero _ _ e0
     ·have:=(h.anti x y).1 m0;omega
  subst e;rw[tU h hl.2 hm.2 (List.Perm.cons_inv hp)]
end
theorem KA (x y:Int):I4 x y=some (iw x y):=by
 unfold I4 E_ iw;by_cases h1:x<y
 ·simp[h1]
 ·by_cases h2:y<x
  ·simp[h1,h2]
  ·simp[h1,h2]
def orS (_:Unit)(x:Int):Option (Sum Unit Int):=if x≠0 then some (.inr x)else some (.inl ())
theorem ao_ (a b c:Int):gOr [a,b,c]=some (if a≠0 then a else if b≠0 then b else c):=by
 unfold gOr;rw[bX (l:=[a,b,c]) (mk:=λ(_:Unit) i=>i) (f:=orS) ?_ ?_ (by unfold fuel;simp) ()]
 ·unfold orS
  by_cases h1:a=0
  ·by_cases h2:b=0
   ·by_cases h3:c=0
    ·simp[cA,GU,DX,h1,h2,h3]
    ·simp[cA,GU,DX,h1,h2,h3]
   ·simp[cA,GU,DX,h1,h2]
  ·simp[cA,GU,DX,h1]
 ·intro s i x hx
  have hi:i<3:=(aqp.1 hx).1;unfold Ln orS;dsimp only;rw[aO hx,aqs,gn_ hx];simp only[aqo];rw[wrapN m0];by_cases h:x=0
  ·simp[h,qf]
  ·simp[h,qf]
 ·intro s
  unfold Ln;dsimp only;rw[lF_,aqr]
theorem uQ (v w:Val):uv v w=some (uD v w):=by
 unfold uv;rw[KA,KA];simp only[aqo];rw[ao_];rfl
theorem Kr:∀ (b:List Val),bL [] b=if b=[]then 0 else -1
 |[]=>rfl
 |_::_=>rfl
theorem Em {a b:List Val}(ha:a.length<=4000000000000)(hb:b.length<=4000000000000):∀ (n i:Nat),i<=a.length->i<=b.length->a.length-i<n->(ao (jm a b λx0 x1=>uv x0 x1) n (i:Int)).bind (nw a b)=some (bL (a.drop i) (b.drop i))
 |0,_,_,_,h=>by omega
 |n+1,i,h1,h2,hn=>by
  rw[ao];by_cases O0:i<a.length
  ·obtain⟨x,hx⟩:=gol_ O0
   have ex:=(aqp.1 hx).2;have eb:jm a b (λx0 x1=>uv x0 x1) (i:Int)=bif (b.length:Int)<=(i:Int)then some (.ret (1:Int))else(aF b (i:Int)).bind λQa=>(uv x Qa).bind λP1=>bif P1≠(0:Int)then some (.ret P1)else some (.next (i64.wrap ((i:Int)+(1:Int)))):=by
    unfold jm;dsimp only;rw[aO hx,aqs,gn_ hx];rfl
   rw[eb,aqW O0,ex];by_cases TB:i<b.length
   ·obtain⟨y,hy⟩:=gol_ TB
    have ey:=(aqp.1 hy).2;rw[aqW TB,ey,show decide ((b.length:Int)<=(i:Int))=false from aqt m0,aqr,gn_ hy,bL];simp only[aqo,uQ];by_cases h:uD x y=0
    ·simp only[h,ne_eq,not_true_eq_false,decide_false,aqr,if_false]
     rw[wrapN m0];have k:=Em ha hb n (i+1) m0 m0 m0;simp only[uQ]at k;exact k
    ·simp[h,nw]
   ·have:i=b.length:=m0
    subst this;rw[arn,show decide ((b.length:Int)<=(b.length:Int))=true from aqu m0,aqs];rfl
  ·have:i=a.length:=m0
   subst this;have eb:jm a b (λx0 x1=>uv x0 x1) (a.length:Int)=some (.exit (a.length:Int)):=by
    unfold jm;dsimp only;rw[lF_,aqr]
   rw[eb,arn,Kr];show nw a b (.inl (a.length:Int))=_;unfold nw;by_cases h:a.length<b.length
   ·rw[show decide ((a.length:Int)<(b.length:Int))=true from aqu m0,aqs,if_neg (by rw[List.drop_eq_nil_iff];omega)]
   ·rw[show decide ((a.length:Int)<(b.length:Int))=false from aqt m0,aqr,if_pos (by rw[List.drop_eq_nil_iff];omega)]
theorem aey (a b:List Val)(ha:a.length<=4000000000000)(hb:b.length<=4000000000000):aaX a b=some (bL a b):=by
 unfold aaX IA;have:=Em ha hb fuel 0 (aqL _) (aqL _) (by unfold fuel;omega);rw[show(((0:Nat):Int))=0 from rfl]at this;rw[this];rfl
theorem bytesLess_eq:∀ a b:List UInt8,Op.bytesLess a b=decide (Lib.compareBytes a b<0)/\(a==b)=decide (Lib.compareBytes a b=0)
 |[],[]=>⟨rfl,rfl⟩
 |[],_::_=>⟨rfl,rfl⟩
 |_::_,[]=>⟨rfl,rfl⟩
 |x::a,y::b=>by
  have e2:Lib.compareBytes (x::a) (y::b)=if x<y then -1 else if y<x then 1 else Lib.compareBytes a b:=by rw[Lib.compareBytes]
  have e3:Op.bytesLess (x::a) (y::b)=(decide (x<y)||(x==y&&Op.bytesLess a b)):=by rw[Op.bytesLess]
  obtain⟨i1,i2⟩:=bytesLess_eq a b;rw[e2,e3,List.cons_beq_cons,i1,i2];by_cases h1:x<y
  ·have Pn:x≠y:=λe=>by rw[e]at h1;exact absurd h1 (UInt8.lt_irrefl y)
   simp[h1,Pn]
  ·by_cases h2:y<x
   ·have Pn:x≠y:=λe=>by rw[e]at h2;exact absurd h2 (UInt8.lt_irrefl y)
    simp[h1,h2,Pn]
   ·have heq:x=y:=UInt8.le_antisymm (UInt8.not_lt.1 h2) (UInt8.not_lt.1 h1)
    subst heq;simp[h1]
theorem Oy (a b:ByteArray):Op.bytesLess a.toList b.toList=decide (rp a b<0):=by
 unfold rp;rw[Lib.cmp_eq,ByteArray.toList_eq,ByteArray.toList_eq];exact(bytesLess_eq _ _).1
theorem ahO (a b:ByteArray):(a.toList==b.toList)=decide (rp a b=0):=by
 unfold rp;rw[Lib.cmp_eq,ByteArray.toList_eq,ByteArray.toList_eq];exact(bytesLess_eq _ _).2
theorem iO:∀ a b:List UInt8,Lib.compareBytes a b = -1\/Lib.compareBytes a b=0\/Lib.compareBytes a b=1
 |[],[] => .inr (.inl rfl)
 |[],_::_ => .inl rfl
 |_::_,[] => .inr (.inr rfl)
 |x::a,y::b=>by
  have e2:Lib.compareBytes (x::a) (y::b)=if x<y then -1 else if y<x then 1 else Lib.compareBytes a b:=by rw[Lib.compareBytes]
  rw[e2];split
  ·exact .inl rfl
  ·split
   ·exact .inr (.inr rfl)
   ·exact iO a b
theorem CE (v w:Val):v_ v w=some (uD v w):=by
 unfold v_ uD Ha;rw[Oy,ahO];have hr:rp v.text w.text = -1\/rp v.text w.text=0\/rp v.text w.text=1:=by unfold rp;rw[Lib.cmp_eq];exact iO _ _
 by_cases h1:v.kind=w.kind
 ·have e1:iw v.kind w.kind=0:=by rw[h1];exact tCi_.refl _
  by_cases h2:v.int=w.int
  ·have e2:iw v.int w.int=0:=by rw[h2];exact tCi_.refl _
   rw[e1,e2];simp only[h1,h2,ne_eq,not_true_eq_false,decide_false,aqr,if_false];rcases hr with h|h|h<;>rw[h]<;>rfl
  ·have e2:iw v.int w.int≠0:=λe=>h2 (tCi_.zero _ _ e)
   rw[e1];simp only[h1,h2,e2,ne_eq,not_true_eq_false,not_false_eq_true,sl9,if_false,if_true];unfold iw;by_cases h3:v.int<w.int
   ·simp[h3]
   ·have:w.int<v.int:=m0
    simp[h3,this]
 ·have e1:iw v.kind w.kind≠0:=λe=>h1 (tCi_.zero _ _ e)
  simp only[h1,e1,ne_eq,not_true_eq_false,not_false_eq_true,sl9,if_false,if_true];unfold iw;by_cases h3:v.kind<w.kind
  ·simp[h3]
  ·have:w.kind<v.kind:=m0
   simp[h3,this]
theorem IW {a b:List Val}(ha:a.length<=4000000000000)(hb:b.length<=4000000000000):∀ (n i:Nat),i<=a.length->i<=b.length->a.length-i<n->(ao (fL a b) n (i:Int)).bind (iI a b)=some (bL (a.drop i) (b.drop i))
 |0,_,_,_,h=>by omega
 |n+1,i,h1,h2,hn=>by
  rw[ao];by_cases O0:i<a.length
  ·obtain⟨x,hx⟩:=gol_ O0
   have ex:=(aqp.1 hx).2;rw[aqW O0,ex];by_cases TB:i<b.length
   ·obtain⟨y,hy⟩:=gol_ TB
    have ey:=(aqp.1 hy).2;have eb:fL a b (i:Int)=bif uD x y≠(0:Int)then some (.ret (uD x y))else some (.next (i64.wrap ((i:Int)+(1:Int)))):=by
     unfold fL;dsimp only;rw[aO hx,aqs,aO hy,aqs,gn_ hx,gn_ hy];simp only[aqo,CE]
    rw[eb,aqW TB,ey,bL];by_cases h:uD x y=0
    ·simp only[h,ne_eq,not_true_eq_false,decide_false,aqr,if_false]
     rw[wrapN m0];exact IW ha hb n (i+1) m0 m0 m0
    ·simp[h,iI]
   ·have:i=b.length:=m0
    subst this;have eb:fL a b (b.length:Int)=some (.exit (b.length:Int)):=by
     unfold fL;dsimp only;rw[aO hx,aqs,lF_,aqr]
    rw[eb,arn];show iI a b (.inl (b.length:Int))=_;unfold iI;rw[show decide ((a.length:Int)<(b.length:Int))=false from aqt m0,aqr,show decide ((b.length:Int)<(a.length:Int))=true from aqu m0,aqs];rfl
  ·have:i=a.length:=m0
   subst this;have eb:fL a b (a.length:Int)=some (.exit (a.length:Int)):=by
    unfold fL;dsimp only;rw[lF_,aqr]
   rw[eb,arn,Kr];show iI a b (.inl (a.length:Int))=_;unfold iI;by_cases h:a.length<b.length
   ·rw[show decide ((a.length:Int)<(b.length:Int))=true from aqu m0,aqs,if_neg (by rw[List.drop_eq_nil_iff];omega)]
   ·rw[show decide ((a.length:Int)<(b.length:Int))=false from aqt m0,aqr,show decide ((b.length:Int)<(a.length:Int))=false from aqt m0,aqr,if_pos (by rw[List.drop_eq_nil_iff];omega)]
theorem jx (a b:List Val)(ha:a.length<=4000000000000)(hb:b.length<=4000000000000):pi a b=some (bL a b):=by
 unfold pi;have:=IW ha hb fuel 0 (aqL _) (aqL _) (by unfold fuel;omega);rw[show(((0:Nat):Int))=0 from rfl]at this;rw[this];rfl
def uV (OX:ac)(OY:ac):Option (Int):=(aaX OX.row OY.row).bind λO7=>some O7
instance gRowsC_ok {OX : ac} {OY : ac} {r : Int} : OkC (uV OX OY = some r) (PTz 239 [.agg (af OX), .agg (af OY)] (.val (.one (.int .i64 r)))) := .mk λH => by
 unfold uV at H;refine po_ Tryz.func239 Tryz.ntmps239 ?_;obtain⟨O7,c1,H⟩:=bd_ H;replace c1:=gTCmp_ok c1
 try simp only[aqD,aqB,aqF,aqv,aC]at c1
 obtain rfl:=aqX H;exact LI
theorem aaE (a b:ac)(ha:a.row.length<=4000000000000)(hb:b.row.length<=4000000000000):uV a b=some (bL a.row b.row):=by
 unfold uV;rw[aey _ _ ha hb];rfl
def Hk {α:Type}(c:α->α->Int)(A:List α)(x:α):Nat->Nat
 |0=>0
 |j+1=>match A[j]? with
  |some y=>if c x y<0 then Hk c A x j else j+1
  |none=>j+1
def Hz {α:Type}(c:α->α->Int)(A:List α)(x:α):List α:=A.take (Hk c A x A.length)++x::A.drop (Hk c A x A.length)
def mo {α:Type}(c:α->α->Int)(l:List α):List α:=l.foldl (Hz c) []
theorem EA {α:Type}(c:α->α->Int)(B:List α)(x:α):∀ j,j<=B.length->Hk c B x j<=j/\(∀ i y,Hk c B x j<=i->i<j->B[i]?=some y->c x y<0)/\(∀ q,Hk c B x j=q+1 ->∃ y,B[q]?=some y /\ ¬ c x y<0)
 |0,_=>⟨aqG _,λi y _ h=>by omega,λq h=>by simp[Hk]at h⟩
 |j+1,hj=>by
  obtain⟨y,hy⟩:=gol_ (show j<B.length by omega);obtain⟨h1,h2,h3⟩:=EA c B x j m0;unfold Hk;simp only[hy];split
  ·rename_i O0
   refine⟨m0,λi z hi TF hz=>?_,h3⟩;by_cases e:i=j
   ·subst e;rw[hy]at hz;injection hz with hz;subst hz;exact O0
   ·exact h2 i z hi m0 hz
  ·rename_i Tu
   exact⟨aqG _,λi z hi TF _=>by omega,λq hq=>by injection hq with hq;subst hq;exact⟨y,hy,Tu⟩⟩
theorem aaZ {α:Type}(c:α->α->Int)(B:List α)(x:α):(Hz c B x).Perm (x::B):=by
 unfold Hz;refine List.perm_middle.trans ?_;rw[ara]
theorem lY {α:Type}(c:α->α->Int):∀ (l B:List α),(l.foldl (Hz c) B).Perm (l++B)
 |[],B=>List.Perm.refl _
 |x::l,B=>by
  rw[arh];refine(lY c l (Hz c B x)).trans ?_;refine((aaZ c B x).append_left l).trans ?_;exact List.perm_middle
theorem nO {α:Type}(c:α->α->Int)(l:List α):(mo c l).Perm l:=by
 have:=lY c l [];simpa[mo]using this
theorem adH {α:Type}{c:α->α->Int}(UX:∀ a b d,c a b<=0->c b d<=0->c a d<=0)(Yi:∀ a b,¬ c a b<0->c b a<=0){B:List α}(x:α)(h:B.Pairwise λa b=>c a b<=0):(Hz c B x).Pairwise λa b=>c a b<=0:=by
 obtain⟨h1,h2,h3⟩:=EA c B x B.length (aqG _);unfold Hz;generalize Hk c B x B.length=p at h1 h2 h3;have hd:∀ y∈B.drop p,c x y<=0:=by
  intro y hy;obtain⟨i,hi⟩:=List.getElem?_of_mem hy;rw[arb]at hi;have:=(aqp.1 hi).1;have:=h2 (p+i) y m0 this hi;omega
 have ht:∀ y∈B.take p,c y x<=0:=by
  intro y hy
  cases p with
  |zero=>simp at hy
  |succ q =>
   obtain⟨z,hz,Tu⟩:=h3 q rfl;have hzx:=Yi x z Tu;obtain⟨i,hi⟩:=List.getElem?_of_mem hy;have VC:i<q+1:=by have:=(aqp.1 hi).1;rw[ari]at this;omega
   rw[List.getElem?_take_of_lt VC]at hi;by_cases e:i=q
   ·subst e;rw[hi]at hz;injection hz with hz;subst hz;exact hzx
   ·have O0:i<q:=m0
    have RJ:=aqp.1 hi;have hz':=aqp.1 hz;have:=List.pairwise_iff_getElem.1 h i q RJ.1 hz'.1 O0;rw[RJ.2,hz'.2]at this;exact UX _ _ _ this hzx
 refine List.pairwise_append.2 ⟨h.sublist (List.take_sublist _ _),aro.2 ⟨hd,h.sublist (List.drop_sublist _ _)⟩,λa ha b hb=>?_⟩;obtain rfl|hb:=aqH.1 hb
 ·exact ht a ha
 ·exact UX _ _ _ (ht a ha) (hd b hb)
theorem FT {α:Type}{c:α->α->Int}(UX:∀ a b d,c a b<=0->c b d<=0->c a d<=0)(Yi:∀ a b,¬ c a b<0->c b a<=0)(l:List α):(mo c l).Pairwise λa b=>c a b<=0:=by
 have:∀ (l B:List α),(B.Pairwise λa b=>c a b<=0)->(l.foldl (Hz c) B).Pairwise λa b=>c a b<=0:=by
  intro l
  induction l with
  |nil=>intro B h;exact h
  |cons x l ih=>intro B h;exact ih _ (adH UX Yi x h)
 exact this l [] List.Pairwise.nil
abbrev fM (a b:ac):Int:=bL a.row b.row
abbrev ig (s:ac):gf:=(ce s.row,.lst (s.periods.map aP))
theorem aoZ {L:List Ob}{v k:Nat}{l:List gf}{x:AV}{xs:List AV}(h0:L[3]?=some (Ob.row v (l.map qH) k))(hx:∀ y∈x::xs,y.below 1):ge [3] [Ob.row v (l.map qH) k] (x::xs) L:=by
 refine⟨rfl,m5,λi y hy=>?_,a8 ⟨ct _ _ _ _,t7⟩,hx⟩
 match i,hy with
 |0,hy=>simp at hy;subst hy;rw[vH];exact h0
 |i+1,hy=>simp at hy
theorem jG3 {L L':List Ob}{v k:Nat}{l:List gf}(h:L.set 3 (Ob.row v (l.map qH) k)=L'):joinL [3] L [Ob.row v (l.map qH) k]=L':=by
 subst h;simp[joinL,join,cZ,bY,eY,vH]
def mm (l:List ap):List ac:=mo fM ((dn l).map λg=>⟨g.f.row,g.ps⟩)
theorem aiJ:PTz 276 [.one (.lst []),.one (.int .i64 0),.one (.int .i64 0),.one (.fn 239 [])] (.tup []):=by
 refine po_ Tryz.func276 Tryz.ntmps276 ?_;refine a6 ?_;refine alM_ (σ:=Unit) (ρ:=Unit) (body:=λ_=>some (.exit ())) (K:=λ_=>some ()) (r:=()) (s0:=()) (λ_=>[(0,.one (.c (.lst []))),(1,.one (.c (.int .i64 0))),(2,.one (.c (.int .i64 0))),(8,.one (.c (.int .i64 1)))]) (λ_=>[]) rfl (λ_=>aqL _) (fm_ bE [] rfl bm cm) ?_;rintro⟨⟩ st hb hk
 cases hb;refine a6 ?_;exact⟨.inl rfl,bg rfl (by repeat' (first|exact t7|rfl|apply And.intro)) rfl⟩
theorem ahE:PTz 254 [.one (.lst []),.one (.int .i64 0),.one (.fn 239 [])] (.tup []):=by
 have c:=aiJ;refine po_ Tryz.func254 Tryz.ntmps254 ?_;refine a6 ?_;refine alM_ (σ:=Unit) (ρ:=Unit) (body:=λ_=>some (.exit ())) (K:=λ_=>some ()) (r:=()) (s0:=()) (λ_=>[(0,.one (.c (.lst []))),(1,.one (.c (.int .i64 0))),(2,.one (.c (.fn 239 []))),(6,.one (.c (.int .i64 20))),(7,.one (.c (.int .i64 0))),(8,.one (.c (.int .i64 20)))]) (λ_=>[]) rfl (λ_=>aqL _) (fm_ bE [] rfl bm cm) ?_;rintro⟨⟩ st hb hk
 cases hb;refine a6 ?_;refine alM_ (σ:=Unit) (ρ:=Unit) (body:=λ_=>some (.exit ())) (K:=λ_=>some ()) (r:=()) (s0:=()) (λ_=>[(1,.one (.c (.int .i64 0))),(6,.one (.c (.int .i64 20)))]) (λ_=>[]) rfl (λ_=>aqL _) (fm_ bE [] rfl bm cm) ?_;rintro⟨⟩ st hb hk
 cases hb;refine a6 ?_;exact⟨.inl rfl,bg rfl (by repeat' (first|exact t7|rfl|apply And.intro)) rfl⟩
theorem Jp:PTz 238 [.one (.lst []),.one (.fn 239 [])] (.tup []):=by
 have c:=ahE;refine po_ Tryz.func238 Tryz.ntmps238 ?_;refine a6 ?_;exact⟨.inl rfl,bg rfl (by repeat' (first|exact t7|rfl|apply And.intro)) rfl⟩
abbrev cz {α:Type}(enc:α->List AC)(k v:Nat)(X:List α):Ob := .row v ((X.map enc).map (List.map SV.c)) k
theorem JA {α:Type}(enc:α->List AC)(k v:Nat)(X:List α)(σ:List Nat):(cz enc k v X).ren σ=cz enc k v X:=by
 show Ob.row v (((X.map enc).map (List.map SV.c)).map (List.map (SV.ren σ))) k=_;rw[List.map_map];congr 1;refine List.map_congr_left λe _=>?_
 show(e.map SV.c).map (SV.ren σ)=e.map SV.c;rw[List.map_map];rfl
theorem aR {α:Type}(n:Nat)(enc:α->List AC)(k v:Nat)(X:List α):(cz enc k v X).below n:=iW n v k enc X
theorem rfX {α:Type}{enc:α->List AC}{k v:Nat}{X:List α}{L:List Ob}{args:List AV}(h0:L[0]?=some (cz enc k v X))(hx:∀ y∈args,y.below 1):ge [0] [cz enc k v X] args L:=by
 refine⟨rfl,m5,λi y hy=>?_,a8 ⟨aR _ _ _ _ _,t7⟩,hx⟩
 match i,hy with
 |0,hy=>simp only[List.getElem?_cons_zero,Option.some.injEq]at hy;subst hy;rw[JA];exact h0
 |i+1,hy=>simp at hy
theorem jX {α:Type}{enc:α->List AC}{k v:Nat}{X:List α}{L L':List Ob}(h:L.set 0 (cz enc k v X)=L'):joinL [0] L [cz enc k v X]=L':=by
 subst h;simp only[joinL,join,cZ,bY,eY,aqB,aqF,JA];simp
section
variable {P:Program} {ti:TI} {N:Nat} {ds:List (Option Tmp)} {K:Tm->List Ob->Prop} {rest:List Oper} {o:Oper} {T:Tm} {L:List Ob}
theorem r_ {α:Type}{enc:α->List AC}{X Y:List α}{g:FuncId}{R7 args:List AV}{v k d:Nat}(hd:o.dst=some d)(hN:Nat.blt d N=true)(hg:gg ds T o.guard=some true)(hp:cS ti (look T) o.op=some (g,R7))(hL:L[0]?=some (cz enc k v X))(h:aI P ti N ds K rest ((d,.tup [])::T) (L.set 0 (cz enc k v Y)))
  (hc:Run P g [cz enc k v X] args [cz enc k v Y] (.tup []):=by assumption) (ha:R7=args.map (AV.ren [0]):=by rfl) (hb:∀ y∈args,y.below 1:=by refine bV ?_;repeat' (first|refine⟨?_,?_⟩|exact t7|exact lt_)):aI P ti N ds K (o::rest) T L :=
 cJ [0] hd hN hg hp hc ha (rfX hL hb) rfl (jX rfl) h
theorem anb {α:Type}{enc:α->List AC}{X:List α}{x:α}{t:TypeId}{p:Operand}{id O1 i k d:Nat}(hd:o.dst=some d)(hN:Nat.blt d N=true){g0:Bool}(hg:gg ds T o.guard=some g0)(ho:o.op = .load t p)(hp:look T p=some (.one (.ep id O1 i 0)))(hL:L[id]?=some (cz enc k O1 X))(ha:ti.agg t=some true)(hn:ti.size t=some k)(hk:∀ x,(enc x).length=k)
  (h:aI P ti N ds K rest ((d,.agg ((enc x).map SV.c))::T) L) (hx:X[i]?=some x:=by assumption) (RQ:g0=true:=by first|rfl|exact jK (by first|assumption|exact j8 (by assumption))|exact jq (by first|assumption|exact j7 (by assumption))):aI P ti N ds K (o::rest) T L:=by
 subst RQ;have hl:((enc x).map SV.c).length=k:=by rw[aqC,hk]
 refine Io hd hN hg ho hp hL ha hn (e:=(enc x).map SV.c) ?_ (by rw[List.drop_zero,<- hl,List.take_length]) m0 h;rw[aqN,aqN,hx];rfl
theorem am2 {α:Type}{enc:α->List AC}{X:List α}{x:α}{y:AC}{t:TypeId}{p:Operand}{id O1 i k d:Nat}(hd:o.dst=some d)(hN:Nat.blt d N=true){g0:Bool}(hg:gg ds T o.guard=some g0)(ho:o.op = .load t p)(hp:look T p=some (.one (.ep id O1 i 0)))(hL:L[id]?=some (cz enc k O1 X))(ha:ti.agg t=some false)
  (h:aI P ti N ds K rest ((d,.one (.c y))::T) L) (hx:X[i]?=some x:=by assumption) (hy:enc x=[y]:=by rfl) (RQ:g0=true:=by first|rfl|exact jK (by first|assumption|exact j8 (by assumption))|exact jq (by first|assumption|exact j7 (by assumption))):aI P ti N ds K (o::rest) T L:=by
 subst RQ;refine mf hd hN hg ho hp hL ha (e:=(enc x).map SV.c) (x := .c y) ?_ (by rw[hy];rfl) h;rw[aqN,aqN,hx];rfl
end
theorem ln {α β:Type}{X:List α}{i:Int}{k:α->Option β}{r:β}(H:(aF X i).bind k=some r):∃ x,X[0+i.toNat]?=some x/\k x=some r:=by
 obtain⟨x,h,K⟩:=bd_ H;obtain⟨h0,h1⟩:=jd h;exact⟨x,by rw[aq8];exact h1,K⟩
theorem w8 {p q:Prop}(k:q)(h:Bx q->p:=by
 intro hq
 repeat' (first
  |refine r_ rfl rfl rfl rfl rfl ?_|refine anb rfl rfl rfl rfl rfl rfl rfl rfl (λ_=>rfl) ?_|refine am2 rfl rfl rfl rfl rfl rfl rfl ?_|refine BF rfl rfl rfl rfl rfl m0 rfl (λ_=>rfl) rfl ?_|refine p_ rfl rfl rfl rfl rfl ?_|refine st_nil ?_|refine x_ rfl rfl rfl rfl rfl rfl rfl rfl ?_|refine l_ rfl rfl rfl rfl ?_|refine s_ rfl rfl rfl ?_|refine t_ rfl rfl rfl rfl ?_|refine k_ rfl rfl rfl ?_|refine k0_ rfl rfl ?_|refine c_ rfl rfl rfl rfl ?_|refine pick_t rfl rfl rfl rfl rfl rfl rfl ?_|refine pick_f rfl rfl rfl rfl rfl rfl rfl ?_|refine aw_seq ?_|refine aw_region am _ rfl ?_|refine aw_drawn2 aY _ rfl mixed (by decide +kernel) ?_|refine aw_condT rfl ?_|refine aw_condF rfl ?_|refine aw_block ?_|refine aw_exit ?_|refine aw_ret ?_|refine aw_skip ?_|rw[aqC]|rw[mn_norm]|rw[mx_norm])
 exact hq.out):p:=h ⟨k⟩
theorem jp {p:Prop}(h:p:=by
 repeat' (first
  |refine r_ rfl rfl rfl rfl rfl ?_|refine anb rfl rfl rfl rfl rfl rfl rfl rfl (λ_=>rfl) ?_|refine am2 rfl rfl rfl rfl rfl rfl rfl ?_|refine BF rfl rfl rfl rfl rfl m0 rfl (λ_=>rfl) rfl ?_|refine p_ rfl rfl rfl rfl rfl ?_|refine st_nil ?_|refine x_ rfl rfl rfl rfl rfl rfl rfl rfl ?_|refine l_ rfl rfl rfl rfl ?_|refine s_ rfl rfl rfl ?_|refine t_ rfl rfl rfl rfl ?_|refine k_ rfl rfl rfl ?_|refine k0_ rfl rfl ?_|refine c_ rfl rfl rfl rfl ?_|refine pick_t rfl rfl rfl rfl rfl rfl rfl ?_|refine pick_f rfl rfl rfl rfl rfl rfl rfl ?_|refine aw_seq ?_|refine aw_region am _ rfl ?_|refine aw_drawn2 aY _ rfl mixed (by decide +kernel) ?_|refine aw_condT rfl ?_|refine aw_condF rfl ?_|refine aw_block ?_|refine aw_exit ?_|refine aw_ret ?_|refine aw_skip ?_|rw[aqC]|rw[mn_norm]|rw[mx_norm])
 first
  |exact⟨.inl rfl,⟨.inr ⟨.tup [],⟨t7,rfl⟩,rfl⟩,⟨[],rfl⟩,m5,a8 ⟨aR _ _ _ _ _,t7⟩,t7⟩⟩
  |exact⟨.inr rfl,⟨.inr ⟨.tup [],⟨t7,rfl⟩,rfl⟩,⟨[],rfl⟩,m5,a8 ⟨aR _ _ _ _ _,t7⟩,t7⟩⟩):p:=h
abbrev bM (x:Int):Int:=i64.wrap (Int.fdiv (IntKind.u64.wrap x) (2 ^ (min (Int.toNat (1:Int)) (IntKind.bits .u64))))
def dG {α:Type}(OX:Int)(OY:Int)(PI:Int)(n:Nat):((List α)×Int)->Option (Step ((List α)×Int) (List α)):=λs=>match s with
 |(PX,i_2)=>bif i_2<PI then bif 0<=(i64.wrap (OY+i_2))then(bif (i64.wrap (OY+i_2))<(n:Int)then((aF PX (i64.wrap (OY+i_2))).bind λPK=>bif 0<=(i64.wrap (OX+i_2))then(bif (i64.wrap (OX+i_2))<(n:Int)then((aF PX (i64.wrap (OX+i_2))).bind λQa=>bif 0<=(i64.wrap (OX+i_2))then(bif (i64.wrap (OX+i_2))<(n:Int)then(bif (0+(i64.wrap (OX+i_2)).toNat)<PX.length then(bif 0<=(i64.wrap (OY+i_2))then(bif (i64.wrap (OY+i_2))<(n:Int)then(bif (0+(i64.wrap (OY+i_2)).toNat)<(PX.set (0+(i64.wrap (OX+i_2)).toNat) PK).length then(some (.next (((PX.set (0+(i64.wrap (OX+i_2)).toNat) PK).set (0+(i64.wrap (OY+i_2)).toNat) Qa),(i64.wrap (i_2+(1:Int))))))else none)else none)else none)else none)else none)else none)else none)else none)else none)else none else
 some (.exit (PX,i_2))
def kS {α:Type}:Sum ((List α)×Int) (List α)->Option ((List α))
 |.inl (PX,i_2)=>some PX
 |.inr q=>some q
def gk {α:Type}(n:Nat)(zd:(List α))(OX:Int)(OY:Int)(PI:Int)(a_cmp:α->α->Option (Int)):Option (List α):=(ao (dG OX OY PI n) fuel (zd,(0:Int))).bind (kS)
def eO {α:Type}(Pi:Int)(a_cmp:α->α->Option (Int))(n:Nat):((List α)×Int×Int)->Option (Step ((List α)×Int×Int) (List α)):=λs=>match s with
 |(PX,i_2,RU)=>bif i_2≠RU then bif RU<i_2 then(gk n PX (i64.wrap (Pi-i_2)) Pi RU a_cmp).bind λZI=>some (.next (ZI,(i64.wrap (i_2-RU)),RU))else
 (gk n PX (i64.wrap (Pi-i_2)) (i64.wrap ((i64.wrap (Pi+RU))-i_2)) i_2 a_cmp).bind λVs=>some (.next (Vs,i_2,(i64.wrap (RU-i_2))))else
 some (.exit (PX,i_2,RU))
def nT {α:Type}(Pi:Int)(a_cmp:α->α->Option (Int))(n:Nat):Sum ((List α)×Int×Int) (List α)->Option ((List α))
 |.inl (PX,i_2,RU)=>(gk n PX (i64.wrap (Pi-i_2)) Pi i_2 a_cmp).bind λc_8=>some c_8
 |.inr q=>some q
def mM {α:Type}(n:Nat)(zd:(List α))(OX:Int)(Pi:Int)(OY:Int)(a_cmp:α->α->Option (Int)):Option (List α):=(ao (eO Pi a_cmp n) fuel (zd,(i64.wrap (Pi-OX)),(i64.wrap (OY-Pi)))).bind (nT Pi a_cmp n)
def dF {α:Type}(OX:Int)(a_cmp:α->α->Option (Int))(n:Nat):((List α)×Int)->Option (Step ((List α)×Int) (List α)):=λs=>match s with
 |(UF,RN)=>bif OX<RN then bif 0<=RN then(bif RN<(n:Int)then((aF UF RN).bind λRE=>bif 0<=(i64.wrap (RN-(1:Int)))then(bif (i64.wrap (RN-(1:Int)))<(n:Int)then((aF UF (i64.wrap (RN-(1:Int)))).bind λR4=>(a_cmp RE R4).bind λQw=>bif Qw<(0:Int)then bif 0<=(i64.wrap (RN-(1:Int)))then(bif (i64.wrap (RN-(1:Int)))<(n:Int)then(bif 0<=RN then(bif RN<(n:Int)then(bif 0<=RN then(bif RN<(n:Int)then(bif (0+RN.toNat)<UF.length then(bif 0<=(i64.wrap (RN-(1:Int)))then(bif (i64.wrap (RN-(1:Int)))<(n:Int)then(bif (0+(i64.wrap (RN-(1:Int))).toNat)<(UF.set (0+RN.toNat) R4).length then(some (.next (((UF.set (0+RN.toNat) R4).set (0+(i64.wrap (RN-(1:Int))).toNat) RE),(i64.wrap (RN-(1:Int))))))else none)else none)else none)else none)else none)else none)else none)else none)else none)else none else
 some (.exit (UF,RN)))else none)else none)else none)else none else
 some (.exit (UF,RN))
def gO {α:Type}(i_2:Int):Sum ((List α)×Int) (List α)->Option (Step ((List α)×Int) (List α))
 |.inl (UF,RN)=>some (.next (UF,(i64.wrap (i_2+(1:Int)))))
 |.inr q=>some (.ret q)
def dC {α:Type}(OX:Int)(OY:Int)(a_cmp:α->α->Option (Int))(n:Nat):((List α)×Int)->Option (Step ((List α)×Int) (List α)):=λs=>match s with
 |(PX,i_2)=>bif i_2<OY then(ao (dF OX a_cmp n) fuel (PX,i_2)).bind (gO i_2)else
 some (.exit (PX,i_2))
def pR {α:Type}:Sum ((List α)×Int) (List α)->Option ((List α))
 |.inl (PX,i_2)=>some PX
 |.inr q=>some q
def oI {α:Type}(n:Nat)(zd:(List α))(OX:Int)(OY:Int)(a_cmp:α->α->Option (Int)):Option (List α):=(ao (dC OX OY a_cmp n) fuel (zd,(i64.wrap (OX+(1:Int))))).bind (pR)
def lF {α:Type}(n:Nat)(i_2:Int):((List α)×Int)->Option (Step ((List α)×Int) (List α)):=λs=>match s with
 |(Vf,PZ)=>bif PZ<(i64.wrap (i_2-(1:Int)))then bif 0<=(i64.wrap (PZ+(1:Int)))then(bif (i64.wrap (PZ+(1:Int)))<(n:Int)then((aF Vf (i64.wrap (PZ+(1:Int)))).bind λQ8=>bif 0<=PZ then(bif PZ<(n:Int)then((aF Vf PZ).bind λV0=>bif 0<=PZ then(bif PZ<(n:Int)then(bif (0+PZ.toNat)<Vf.length then(bif 0<=(i64.wrap (PZ+(1:Int)))then(bif (i64.wrap (PZ+(1:Int)))<(n:Int)then(bif (0+(i64.wrap (PZ+(1:Int))).toNat)<(Vf.set (0+PZ.toNat) Q8).length then(some (.next (((Vf.set (0+PZ.toNat) Q8).set (0+(i64.wrap (PZ+(1:Int))).toNat) V0),(i64.wrap (PZ+(1:Int))))))else none)else none)else none)else none)else none)else none)else none)else none)else none)else none else
 some (.exit (Vf,PZ))
def BM {α:Type}:Sum ((List α)×Int) (List α)->Option ((List α))
 |.inl (Vf,PZ)=>some Vf
 |.inr q=>some q
def nL {α:Type}(zd:List α)(OX:Int)(a_cmp:α->α->Option (Int))(n:Nat):(Int×Int)->Option (Step (Int×Int) (List α)):=λs=>match s with
 |(i_2,RU)=>bif i_2<RU then bif 0<=(bM (i64.wrap (i_2+RU)))then(bif (bM (i64.wrap (i_2+RU)))<(n:Int)then((aF zd (bM (i64.wrap (i_2+RU)))).bind λQa=>bif 0<=OX then(bif OX<(n:Int)then((aF zd OX).bind λS9=>(a_cmp Qa S9).bind λQk=>bif Qk<(0:Int)then some (.next ((i64.wrap ((bM (i64.wrap (i_2+RU)))+(1:Int))),RU))else
 some (.next (i_2,(bM (i64.wrap (i_2+RU))))))else none)else none)else none)else none else
 some (.exit (i_2,RU))
def rB {α:Type}(zd:List α)(OX:Int)(n:Nat):Sum (Int×Int) (List α)->Option ((List α))
 |.inl (i_2,RU)=>(ao (lF n i_2) fuel (zd,OX)).bind (BM)
 |.inr q=>some q
def lX {α:Type}(n:Nat)(Ql:Int):((List α)×Int)->Option (Step ((List α)×Int) (List α)):=λs=>match s with
 |(Sl,QI)=>bif Ql<QI then bif 0<=(i64.wrap (QI-(1:Int)))then(bif (i64.wrap (QI-(1:Int)))<(n:Int)then((aF Sl (i64.wrap (QI-(1:Int)))).bind λYj=>bif 0<=QI then(bif QI<(n:Int)then((aF Sl QI).bind λZJ=>bif 0<=QI then(bif QI<(n:Int)then(bif (0+QI.toNat)<Sl.length then(bif 0<=(i64.wrap (QI-(1:Int)))then(bif (i64.wrap (QI-(1:Int)))<(n:Int)then(bif (0+(i64.wrap (QI-(1:Int))).toNat)<(Sl.set (0+QI.toNat) Yj).length then(some (.next (((Sl.set (0+QI.toNat) Yj).set (0+(i64.wrap (QI-(1:Int))).toNat) ZJ),(i64.wrap (QI-(1:Int))))))else none)else none)else none)else none)else none)else none)else none)else none)else none)else none else
 some (.exit (Sl,QI))
def BR {α:Type}:Sum ((List α)×Int) (List α)->Option ((List α))
 |.inl (Sl,QI)=>some Sl
 |.inr q=>some q
def n7 {α:Type}(zd:List α)(Pi:Int)(a_cmp:α->α->Option (Int))(n:Nat):(Int×Int)->Option (Step (Int×Int) (List α)):=λs=>match s with
 |(Ql,RV)=>bif Ql<RV then bif 0<=Pi then(bif Pi<(n:Int)then((aF zd Pi).bind λV1=>bif 0<=(bM (i64.wrap (Ql+RV)))then(bif (bM (i64.wrap (Ql+RV)))<(n:Int)then((aF zd (bM (i64.wrap (Ql+RV)))).bind λUe=>(a_cmp V1 Ue).bind λQ7=>bif (!(decide (Q7<(0:Int))))then some (.next ((i64.wrap ((bM (i64.wrap (Ql+RV)))+(1:Int))),RV))else
 some (.next (Ql,(bM (i64.wrap (Ql+RV))))))else none)else none)else none)else none else
 some (.exit (Ql,RV))
def rz {α:Type}(zd:List α)(Pi:Int)(n:Nat):Sum (Int×Int) (List α)->Option ((List α))
 |.inl (Ql,RV)=>(ao (lX n Ql) fuel (zd,Pi)).bind (BR)
 |.inr q=>some q
def jT {α:Type}(zd:List α)(OX:Int)(Pi:Int)(OY:Int)(a_cmp:α->α->Option (Int))(n:Nat):(Int×Int)->Option (Step (Int×Int) (List α)):=λs=>match s with
 |(z6,Q3)=>bif z6<Q3 then bif 0<=(i64.wrap ((i64.wrap ((i64.wrap ((bM (i64.wrap (OX+OY)))+Pi))-(1:Int)))-(bM (i64.wrap (z6+Q3)))))then(bif (i64.wrap ((i64.wrap ((i64.wrap ((bM (i64.wrap (OX+OY)))+Pi))-(1:Int)))-(bM (i64.wrap (z6+Q3)))))<(n:Int)then((aF zd (i64.wrap ((i64.wrap ((i64.wrap ((bM (i64.wrap (OX+OY)))+Pi))-(1:Int)))-(bM (i64.wrap (z6+Q3)))))).bind λZK=>bif 0<=(bM (i64.wrap (z6+Q3)))then(bif (bM (i64.wrap (z6+Q3)))<(n:Int)then((aF zd (bM (i64.wrap (z6+Q3)))).bind λUG=>(a_cmp ZK UG).bind λW0=>bif (!(decide (W0<(0:Int))))then some (.next ((i64.wrap ((bM (i64.wrap (z6+Q3)))+(1:Int))),Q3))else
 some (.next (z6,(bM (i64.wrap (z6+Q3))))))else none)else none)else none)else none else
 some (.exit (z6,Q3))
def jH {α:Type}(zd:List α)(OX:Int)(Pi:Int)(OY:Int)(a_cmp:α->α->Option (Int))(n:Nat)(rec:Nat->List α->Int->Int->Int->(α->α->Option Int)->Option (List α)):Sum (Int×Int) (List α)->Option ((List α))
 |.inl (z6,Q3)=>bif z6<Pi then bif Pi<(i64.wrap ((i64.wrap ((bM (i64.wrap (OX+OY)))+Pi))-z6))then(mM n zd z6 Pi (i64.wrap ((i64.wrap ((bM (i64.wrap (OX+OY)))+Pi))-z6)) a_cmp).bind λUg=>bif OX<z6 then bif z6<(bM (i64.wrap (OX+OY)))then(rec n Ug OX z6 (bM (i64.wrap (OX+OY))) a_cmp).bind λW2=>bif (bM (i64.wrap (OX+OY)))<(i64.wrap ((i64.wrap ((bM (i64.wrap (OX+OY)))+Pi))-z6))then bif (i64.wrap ((i64.wrap ((bM (i64.wrap (OX+OY)))+Pi))-z6))<OY then(rec n W2 (bM (i64.wrap (OX+OY))) (i64.wrap ((i64.wrap ((bM (i64.wrap (OX+OY)))+Pi))-z6)) OY a_cmp).bind λZL=>some ZL else
 some W2 else
 some W2 else
 bif (bM (i64.wrap (OX+OY)))<(i64.wrap ((i64.wrap ((bM (i64.wrap (OX+OY)))+Pi))-z6))then bif (i64.wrap ((i64.wrap ((bM (i64.wrap (OX+OY)))+Pi))-z6))<OY then(rec n Ug (bM (i64.wrap (OX+OY))) (i64.wrap ((i64.wrap ((bM (i64.wrap (OX+OY)))+Pi))-z6)) OY a_cmp).bind λZM=>some ZM else
 some Ug else
 some Ug else
 bif (bM (i64.wrap (OX+OY)))<(i64.wrap ((i64.wrap ((bM (i64.wrap (OX+OY)))+Pi))-z6))then bif (i64.wrap ((i64.wrap ((bM (i64.wrap (OX+OY)))+Pi))-z6))<OY then(rec n Ug (bM (i64.wrap (OX+OY))) (i64.wrap ((i64.wrap ((bM (i64.wrap (OX+OY)))+Pi))-z6)) OY a_cmp).bind λZN=>some ZN else
 some Ug else
 some Ug else
 bif OX<z6 then bif z6<(bM (i64.wrap (OX+OY)))then(rec n zd OX z6 (bM (i64.wrap (OX+OY))) a_cmp).bind λW3=>bif (bM (i64.wrap (OX+OY)))<(i64.wrap ((i64.wrap ((bM (i64.wrap (OX+OY)))+Pi))-z6))then bif (i64.wrap ((i64.wrap ((bM (i64.wrap (OX+OY)))+Pi))-z6))<OY then(rec n W3 (bM (i64.wrap (OX+OY))) (i64.wrap ((i64.wrap ((bM (i64.wrap (OX+OY)))+Pi))-z6)) OY a_cmp).bind λZO=>some ZO else
 some W3 else
 some W3 else
 bif (bM (i64.wrap (OX+OY)))<(i64.wrap ((i64.wrap ((bM (i64.wrap (OX+OY)))+Pi))-z6))then bif (i64.wrap ((i64.wrap ((bM (i64.wrap (OX+OY)))+Pi))-z6))<OY then(rec n zd (bM (i64.wrap (OX+OY))) (i64.wrap ((i64.wrap ((bM (i64.wrap (OX+OY)))+Pi))-z6)) OY a_cmp).bind λZP=>some ZP else
 some zd else
 some zd else
 bif (bM (i64.wrap (OX+OY)))<(i64.wrap ((i64.wrap ((bM (i64.wrap (OX+OY)))+Pi))-z6))then bif (i64.wrap ((i64.wrap ((bM (i64.wrap (OX+OY)))+Pi))-z6))<OY then(rec n zd (bM (i64.wrap (OX+OY))) (i64.wrap ((i64.wrap ((bM (i64.wrap (OX+OY)))+Pi))-z6)) OY a_cmp).bind λZQ=>some ZQ else
 some zd else
 some zd else
 bif OX<z6 then bif z6<(bM (i64.wrap (OX+OY)))then(rec n zd OX z6 (bM (i64.wrap (OX+OY))) a_cmp).bind λW4=>bif (bM (i64.wrap (OX+OY)))<(i64.wrap ((i64.wrap ((bM (i64.wrap (OX+OY)))+Pi))-z6))then bif (i64.wrap ((i64.wrap ((bM (i64.wrap (OX+OY)))+Pi))-z6))<OY then(rec n W4 (bM (i64.wrap (OX+OY))) (i64.wrap ((i64.wrap ((bM (i64.wrap (OX+OY)))+Pi))-z6)) OY a_cmp).bind λZR=>some ZR else
 some W4 else
 some W4 else
 bif (bM (i64.wrap (OX+OY)))<(i64.wrap ((i64.wrap ((bM (i64.wrap (OX+OY)))+Pi))-z6))then bif (i64.wrap ((i64.wrap ((bM (i64.wrap (OX+OY)))+Pi))-z6))<OY then(rec n zd (bM (i64.wrap (OX+OY))) (i64.wrap ((i64.wrap ((bM (i64.wrap (OX+OY)))+Pi))-z6)) OY a_cmp).bind λZS=>some ZS else
 some zd else
 some zd else
 bif (bM (i64.wrap (OX+OY)))<(i64.wrap ((i64.wrap ((bM (i64.wrap (OX+OY)))+Pi))-z6))then bif (i64.wrap ((i64.wrap ((bM (i64.wrap (OX+OY)))+Pi))-z6))<OY then(rec n zd (bM (i64.wrap (OX+OY))) (i64.wrap ((i64.wrap ((bM (i64.wrap (OX+OY)))+Pi))-z6)) OY a_cmp).bind λZT=>some ZT else
 some zd else
 some zd
 |.inr q=>some q
def wm {α:Type}(zd:List α)(OX:Int)(Pi:Int)(OY:Int)(a_cmp:α->α->Option (Int))(n:Nat):(Int×Int)->Option (Step (Int×Int) (List α)):=λs=>match s with
 |(z7,Ro)=>bif z7<Ro then bif 0<=(i64.wrap ((i64.wrap ((i64.wrap ((bM (i64.wrap (OX+OY)))+Pi))-(1:Int)))-(bM (i64.wrap (z7+Ro)))))then(bif (i64.wrap ((i64.wrap ((i64.wrap ((bM (i64.wrap (OX+OY)))+Pi))-(1:Int)))-(bM (i64.wrap (z7+Ro)))))<(n:Int)then((aF zd (i64.wrap ((i64.wrap ((i64.wrap ((bM (i64.wrap (OX+OY)))+Pi))-(1:Int)))-(bM (i64.wrap (z7+Ro)))))).bind λZU=>bif 0<=(bM (i64.wrap (z7+Ro)))then(bif (bM (i64.wrap (z7+Ro)))<(n:Int)then((aF zd (bM (i64.wrap (z7+Ro)))).bind λZV=>(a_cmp ZU ZV).bind λZW=>bif (!(decide (ZW<(0:Int))))then some (.next ((i64.wrap ((bM (i64.wrap (z7+Ro)))+(1:Int))),Ro))else
 some (.next (z7,(bM (i64.wrap (z7+Ro))))))else none)else none)else none)else none else
 some (.exit (z7,Ro))
def r6 {α:Type}(zd:List α)(OX:Int)(Pi:Int)(OY:Int)(a_cmp:α->α->Option (Int))(n:Nat)(rec:Nat->List α->Int->Int->Int->(α->α->Option Int)->Option (List α)):Sum (Int×Int) (List α)->Option ((List α))
 |.inl (z7,Ro)=>bif z7<Pi then bif Pi<(i64.wrap ((i64.wrap ((bM (i64.wrap (OX+OY)))+Pi))-z7))then(mM n zd z7 Pi (i64.wrap ((i64.wrap ((bM (i64.wrap (OX+OY)))+Pi))-z7)) a_cmp).bind λUh=>bif OX<z7 then bif z7<(bM (i64.wrap (OX+OY)))then(rec n Uh OX z7 (bM (i64.wrap (OX+OY))) a_cmp).bind λW5=>bif (bM (i64.wrap (OX+OY)))<(i64.wrap ((i64.wrap ((bM (i64.wrap (OX+OY)))+Pi))-z7))then bif (i64.wrap ((i64.wrap ((bM (i64.wrap (OX+OY)))+Pi))-z7))<OY then(rec n W5 (bM (i64.wrap (OX+OY))) (i64.wrap ((i64.wrap ((bM (i64.wrap (OX+OY)))+Pi))-z7)) OY a_cmp).bind λZX=>some ZX else
 some W5 else
 some W5 else
 bif (bM (i64.wrap (OX+OY)))<(i64.wrap ((i64.wrap ((bM (i64.wrap (OX+OY)))+Pi))-z7))then bif (i64.wrap ((i64.wrap ((bM (i64.wrap (OX+OY)))+Pi))-z7))<OY then(rec n Uh (bM (i64.wrap (OX+OY))) (i64.wrap ((i64.wrap ((bM (i64.wrap (OX+OY)))+Pi))-z7)) OY a_cmp).bind λZY=>some ZY else
 some Uh else
 some Uh else
 bif (bM (i64.wrap (OX+OY)))<(i64.wrap ((i64.wrap ((bM (i64.wrap (OX+OY)))+Pi))-z7))then bif (i64.wrap ((i64.wrap ((bM (i64.wrap (OX+OY)))+Pi))-z7))<OY then(rec n Uh (bM (i64.wrap (OX+OY))) (i64.wrap ((i64.wrap ((bM (i64.wrap (OX+OY)))+Pi))-z7)) OY a_cmp).bind λZZ=>some ZZ else
 some Uh else
 some Uh else
 bif OX<z7 then bif z7<(bM (i64.wrap (OX+OY)))then(rec n zd OX z7 (bM (i64.wrap (OX+OY))) a_cmp).bind λW6=>bif (bM (i64.wrap (OX+OY)))<(i64.wrap ((i64.wrap ((bM (i64.wrap (OX+OY)))+Pi))-z7))then bif (i64.wrap ((i64.wrap ((bM (i64.wrap (OX+OY)))+Pi))-z7))<OY then(rec n W6 (bM (i64.wrap (OX+OY))) (i64.wrap ((i64.wrap ((bM (i64.wrap (OX+OY)))+Pi))-z7)) OY a_cmp).bind λXC=>some XC else
 some W6 else
 some W6 else
 bif (bM (i64.wrap (OX+OY)))<(i64.wrap ((i64.wrap ((bM (i64.wrap (OX+OY)))+Pi))-z7))then bif (i64.wrap ((i64.wrap ((bM (i64.wrap (OX+OY)))+Pi))-z7))<OY then(rec n zd (bM (i64.wrap (OX+OY))) (i64.wrap ((i64.wrap ((bM (i64.wrap (OX+OY)))+Pi))-z7)) OY a_cmp).bind λXD=>some XD else
 some zd else
 some zd else
 bif (bM (i64.wrap (OX+OY)))<(i64.wrap ((i64.wrap ((bM (i64.wrap (OX+OY)))+Pi))-z7))then bif (i64.wrap ((i64.wrap ((bM (i64.wrap (OX+OY)))+Pi))-z7))<OY then(rec n zd (bM (i64.wrap (OX+OY))) (i64.wrap ((i64.wrap ((bM (i64.wrap (OX+OY)))+Pi))-z7)) OY a_cmp).bind λXE=>some XE else
 some zd else
 some zd else
 bif OX<z7 then bif z7<(bM (i64.wrap (OX+OY)))then(rec n zd OX z7 (bM (i64.wrap (OX+OY))) a_cmp).bind λU4=>bif (bM (i64.wrap (OX+OY)))<(i64.wrap ((i64.wrap ((bM (i64.wrap (OX+OY)))+Pi))-z7))then bif (i64.wrap ((i64.wrap ((bM (i64.wrap (OX+OY)))+Pi))-z7))<OY then(rec n U4 (bM (i64.wrap (OX+OY))) (i64.wrap ((i64.wrap ((bM (i64.wrap (OX+OY)))+Pi))-z7)) OY a_cmp).bind λXF=>some XF else
 some U4 else
 some U4 else
 bif (bM (i64.wrap (OX+OY)))<(i64.wrap ((i64.wrap ((bM (i64.wrap (OX+OY)))+Pi))-z7))then bif (i64.wrap ((i64.wrap ((bM (i64.wrap (OX+OY)))+Pi))-z7))<OY then(rec n zd (bM (i64.wrap (OX+OY))) (i64.wrap ((i64.wrap ((bM (i64.wrap (OX+OY)))+Pi))-z7)) OY a_cmp).bind λXG=>some XG else
 some zd else
 some zd else
 bif (bM (i64.wrap (OX+OY)))<(i64.wrap ((i64.wrap ((bM (i64.wrap (OX+OY)))+Pi))-z7))then bif (i64.wrap ((i64.wrap ((bM (i64.wrap (OX+OY)))+Pi))-z7))<OY then(rec n zd (bM (i64.wrap (OX+OY))) (i64.wrap ((i64.wrap ((bM (i64.wrap (OX+OY)))+Pi))-z7)) OY a_cmp).bind λXH=>some XH else
 some zd else
 some zd
 |.inr q=>some q
def rf {α:Type}(rec:Nat->List α->Int->Int->Int->(α->α->Option Int)->Option (List α))(n:Nat)(zd:(List α))(OX:Int)(Pi:Int)(OY:Int)(a_cmp:α->α->Option (Int)):Option (List α):=bif (i64.wrap (Pi-OX))=(1:Int)then(ao (nL zd OX a_cmp n) fuel (Pi,OY)).bind (rB zd OX n)else
 bif (i64.wrap (OY-Pi))=(1:Int)then(ao (n7 zd Pi a_cmp n) fuel (OX,Pi)).bind (rz zd Pi n)else
 bif (bM (i64.wrap (OX+OY)))<Pi then(ao (jT zd OX Pi OY a_cmp n) fuel ((i64.wrap ((i64.wrap ((bM (i64.wrap (OX+OY)))+Pi))-OY)),(bM (i64.wrap (OX+OY))))).bind (jH zd OX Pi OY a_cmp n rec)else
 (ao (wm zd OX Pi OY a_cmp n) fuel (OX,Pi)).bind (r6 zd OX Pi OY a_cmp n rec)
def HH {α:Type}:Nat->Nat->List α->Int->Int->Int->(α->α->Option Int)->Option (List α)
 |0,_,_,_,_,_,_=>none
 |q+1,n,X,a,m,b,cmp=>rf (HH q) n X a m b cmp
def gv {α:Type}(PI:Int)(a_cmp:α->α->Option (Int))(n:Nat)(O9:Int):((List α)×Int×Int)->Option (Step ((List α)×Int×Int) (List α)):=λs=>match s with
 |(Ta,SJ,SX)=>bif SX<=PI then(HH fuel n Ta SJ (i64.wrap (SJ+O9)) SX a_cmp).bind λZ1=>some (.next (Z1,SX,(i64.wrap (SX+(i64.wrap ((2:Int)*O9))))))else
 some (.exit (Ta,SJ,SX))
def oj {α:Type}(PI:Int)(a_cmp:α->α->Option (Int))(n:Nat)(O9:Int):Sum ((List α)×Int×Int) (List α)->Option (Step ((List α)×Int) (List α))
 |.inl (Ta,SJ,SX)=>bif (i64.wrap (SJ+O9))<PI then(HH fuel n Ta SJ (i64.wrap (SJ+O9)) PI a_cmp).bind λZ2=>some (.next (Z2,(i64.wrap (O9*(2:Int)))))else
 some (.next (Ta,(i64.wrap (O9*(2:Int)))))
 |.inr q=>some (.ret q)
def gV {α:Type}(PI:Int)(a_cmp:α->α->Option (Int))(n:Nat):((List α)×Int)->Option (Step ((List α)×Int) (List α)):=λs=>match s with
 |(Vs,O9)=>bif O9<PI then(ao (gv PI a_cmp n O9) fuel (Vs,(0:Int),(i64.wrap ((2:Int)*O9)))).bind (oj PI a_cmp n O9)else
 some (.exit (Vs,O9))
def s8 {α:Type}:Sum ((List α)×Int) (List α)->Option ((List α))
 |.inl (Vs,O9)=>some Vs
 |.inr q=>some q
def gw {α:Type}(PI:Int)(a_cmp:α->α->Option (Int))(n:Nat):((List α)×Int×Int)->Option (Step ((List α)×Int×Int) (List α)):=λs=>match s with
 |(PX,W7,UB)=>bif UB<=PI then(oI n PX W7 UB a_cmp).bind λT9=>some (.next (T9,UB,(i64.wrap (UB+(20:Int)))))else
 some (.exit (PX,W7,UB))
def og {α:Type}(PI:Int)(a_cmp:α->α->Option (Int))(n:Nat):Sum ((List α)×Int×Int) (List α)->Option ((List α))
 |.inl (PX,W7,UB)=>(oI n PX W7 PI a_cmp).bind λZI=>(ao (gV PI a_cmp n) fuel (ZI,(20:Int))).bind (s8)
 |.inr q=>some q
def xJ {α:Type}(n:Nat)(zd:(List α))(PI:Int)(a_cmp:α->α->Option (Int)):Option (List α):=(ao (gw PI a_cmp n) fuel (zd,(0:Int),(20:Int))).bind (og PI a_cmp n)
def xu {α:Type}(n:Nat)(a_x:(List α))(a_cmp:α->α->Option (Int)):Option (List α):=(xJ n a_x (n:Int) a_cmp).bind λPX=>some PX
theorem jA {n:Nat}  {zd:(List ac)}{OX:Int}{OY:Int}{PI:Int}{a_cmp:ac->ac->Option (Int)}{v:Nat}{r:List ac}{zr:FuncId}{zc:List AC}(zj:∀ (y0:ac) (y1:ac) (r:Int),a_cmp y0 y1=some r->PTz zr ([.agg (af y0),.agg (af y1)]++zc.map .one) (.val (.one (.int .i64 r))))(H:gk n zd OX OY PI a_cmp=some r):RTz 305 [cz af 2 v zd] [.one (.sl 0 v 0 n),.one (.c (.int .i64 OX)),.one (.c (.int .i64 OY)),.one (.c (.int .i64 PI)),.one (.c (.fn zr zc))] [cz af 2 v r] (.tup []):=by
 unfold gk at H;refine be am Tryz.func305 rfl rfl Tryz.ntmps305 m5 ?_;simp only[eL];refine w8 ?_;refine alM_ (λs:(List ac)×Int=>match s with|(PX,i_2)=>[(0,.one (.sl 0 v 0 n)),(1,.one (.c (.int .i64 OX))),(2,.one (.c (.int .i64 OY))),(3,.one (.c (.int .i64 PI))),(10,.one (.c (.int .i64 i_2)))]) (λs=>match s with|(PX,i_2)=>[cz af 2 v PX]) H (λ_=>aqG _)
  (fm_ bE [] rfl bm ⟨aR _ _ _ _ _,t7⟩) ?_
 rintro⟨PX,i_2⟩ QF OU Pz;unfold dG at OU;dsimp only at OU ⊢;obtain⟨P9,OU⟩|⟨P9,OU⟩:=aj OU
 ·obtain⟨g1,OU⟩:=aL OU
  obtain⟨g2,OU⟩:=aL OU;obtain⟨PK,i3,OU⟩:=ln OU;obtain⟨g4,OU⟩:=aL OU;obtain⟨g5,OU⟩:=aL OU;obtain⟨Qa,i6,OU⟩:=ln OU;obtain⟨g7,OU⟩:=aL OU;obtain⟨g8,OU⟩:=aL OU;obtain⟨g9,OU⟩:=aL OU;obtain⟨g10,OU⟩:=aL OU;obtain⟨g11,OU⟩:=aL OU;obtain⟨g12,OU⟩:=aL OU
  cases OU;refine w8 ?_;exact⟨_,rfl,fm_ bE [] rfl bm ⟨aR _ _ _ _ _,t7⟩⟩
 cases OU;have O2:kS (.inl (PX,i_2))=some _:=Pz;unfold kS at O2;dsimp only at O2
 cases O2;exact jp
theorem vT {n:Nat}  {zd:(List ac)}{OX:Int}{Pi:Int}{OY:Int}{a_cmp:ac->ac->Option (Int)}{v:Nat}{r:List ac}{zr:FuncId}{zc:List AC}(zj:∀ (y0:ac) (y1:ac) (r:Int),a_cmp y0 y1=some r->PTz zr ([.agg (af y0),.agg (af y1)]++zc.map .one) (.val (.one (.int .i64 r))))(H:mM n zd OX Pi OY a_cmp=some r):RTz 295 [cz af 2 v zd] [.one (.sl 0 v 0 n),.one (.c (.int .i64 OX)),.one (.c (.int .i64 Pi)),.one (.c (.int .i64 OY)),.one (.c (.fn zr zc))] [cz af 2 v r] (.tup []):=by
 unfold mM at H;refine be am Tryz.func295 rfl rfl Tryz.ntmps295 m5 ?_;simp only[eL];refine w8 ?_;refine alM_ (λs:(List ac)×Int×Int=>match s with|(PX,i_2,RU)=>[(0,.one (.sl 0 v 0 n)),(2,.one (.c (.int .i64 Pi))),(4,.one (.c (.fn zr zc))),(10,.one (.c (.int .i64 i_2))),(11,.one (.c (.int .i64 RU)))]) (λs=>match s with|(PX,i_2,RU)=>[cz af 2 v PX]) H (λ_=>aqG _)
  (fm_ bE [] rfl bm ⟨aR _ _ _ _ _,t7⟩) ?_
 rintro⟨PX,i_2,RU⟩ QF OU Pz;unfold eO at OU;dsimp only at OU ⊢;obtain⟨Qf,OU⟩|⟨Qf,OU⟩:=aj OU
 ·obtain⟨Q6,OU⟩|⟨Q6,OU⟩:=aj OU
  ·obtain⟨ZI,c1,OU⟩:=bd_ OU
   replace c1:=jA (v:=v) (zc:=zc) zj c1
   cases OU;refine w8 ?_;exact⟨_,rfl,fm_ bE [] rfl bm ⟨aR _ _ _ _ _,t7⟩⟩
  obtain⟨Vs,c2,OU⟩:=bd_ OU;replace c2:=jA (v:=v) (zc:=zc) zj c2
  cases OU;refine w8 ?_;exact⟨_,rfl,fm_ bE [] rfl bm ⟨aR _ _ _ _ _,t7⟩⟩
 cases OU;have O2:nT Pi a_cmp n (.inl (PX,i_2,RU))=some _:=Pz;unfold nT at O2;dsimp only at O2;obtain⟨c_8,c3,O2⟩:=bd_ O2;replace c3:=jA (v:=v) (zc:=zc) zj c3
 cases O2;exact jp
theorem tZ {n:Nat}  {zd:(List ac)}{OX:Int}{OY:Int}{a_cmp:ac->ac->Option (Int)}{v:Nat}{r:List ac}{zr:FuncId}{zc:List AC}(zj:∀ (y0:ac) (y1:ac) (r:Int),a_cmp y0 y1=some r->PTz zr ([.agg (af y0),.agg (af y1)]++zc.map .one) (.val (.one (.int .i64 r))))(H:oI n zd OX OY a_cmp=some r):RTz 276 [cz af 2 v zd] [.one (.sl 0 v 0 n),.one (.c (.int .i64 OX)),.one (.c (.int .i64 OY)),.one (.c (.fn zr zc))] [cz af 2 v r] (.tup []):=by
 unfold oI at H;refine be am Tryz.func276 rfl rfl Tryz.ntmps276 m5 ?_;simp only[eL];refine w8 ?_;refine alM_ (λs:(List ac)×Int=>match s with|(PX,i_2)=>[(0,.one (.sl 0 v 0 n)),(1,.one (.c (.int .i64 OX))),(2,.one (.c (.int .i64 OY))),(3,.one (.c (.fn zr zc))),(8,.one (.c (.int .i64 i_2)))]) (λs=>match s with|(PX,i_2)=>[cz af 2 v PX]) H (λ_=>aqG _)
  (fm_ bE [] rfl bm ⟨aR _ _ _ _ _,t7⟩) ?_
 rintro⟨PX,i_2⟩ st3 Py R3;unfold dC at Py;dsimp only at Py ⊢;obtain⟨P9,Py⟩|⟨P9,Py⟩:=aj Py
 ·refine w8 ?_
  refine alM_ (λs:(List ac)×Int=>match s with|(UF,RN)=>[(0,.one (.sl 0 v 0 n)),(1,.one (.c (.int .i64 OX))),(2,.one (.c (.int .i64 OY))),(3,.one (.c (.fn zr zc))),(8,.one (.c (.int .i64 i_2))),(9,.one (.c (.int .i64 RN)))]) (λs=>match s with|(UF,RN)=>[cz af 2 v UF]) Py (λ_=>aqG _)
   (fm_ bE [] rfl bm ⟨aR _ _ _ _ _,t7⟩) ?_
  rintro⟨UF,RN⟩ st4 O4 hk4;unfold dF at O4;dsimp only at O4 ⊢;obtain⟨QG,O4⟩|⟨QG,O4⟩:=aj O4
  ·obtain⟨g1,O4⟩:=aL O4
   obtain⟨g2,O4⟩:=aL O4;obtain⟨RE,i3,O4⟩:=ln O4;obtain⟨g4,O4⟩:=aL O4;obtain⟨g5,O4⟩:=aL O4;obtain⟨R4,i6,O4⟩:=ln O4;obtain⟨Qw,c7,O4⟩:=bd_ O4;replace c7:=zj _ _ _ c7;obtain⟨Qn,O4⟩|⟨Qn,O4⟩:=aj O4
   ·obtain⟨g8,O4⟩:=aL O4
    obtain⟨g9,O4⟩:=aL O4;obtain⟨g10,O4⟩:=aL O4;obtain⟨g11,O4⟩:=aL O4;obtain⟨g12,O4⟩:=aL O4;obtain⟨g13,O4⟩:=aL O4;obtain⟨g14,O4⟩:=aL O4;obtain⟨g15,O4⟩:=aL O4;obtain⟨g16,O4⟩:=aL O4;obtain⟨g17,O4⟩:=aL O4
    cases O4;refine w8 ?_;exact⟨_,rfl,fm_ bE [] rfl bm ⟨aR _ _ _ _ _,t7⟩⟩
   cases O4;have Qo:gO i_2 (.inl (UF,RN))=some _:=hk4;unfold gO at Qo;dsimp only at Qo
   cases Qo;refine w8 ?_;exact⟨_,rfl,fm_ bE [] rfl bm ⟨aR _ _ _ _ _,t7⟩⟩
  cases O4;have Qo:gO i_2 (.inl (UF,RN))=some _:=hk4;unfold gO at Qo;dsimp only at Qo
  cases Qo;refine w8 ?_;exact⟨_,rfl,fm_ bE [] rfl bm ⟨aR _ _ _ _ _,t7⟩⟩
 cases Py;have Sm:pR (.inl (PX,i_2))=some _:=R3;unfold pR at Sm;dsimp only at Sm
 cases Sm;exact jp
