/- Parts. No condition. -/
import Derived.Test.YtlcceppoloaecaaGreatDoorKBO
import Derived.ProofKit
import Derived.OpenShut
import Derived.ChangeOld
import Derived.Deep.Slices
set_option linter.unusedSimpArgs false
set_option linter.unusedVariables false
namespace Go.Proofs.YtlcceppoloaecaaGreatDoor
open _root_.List (replicate)
open Go.RowKit Go.MapKept
set_option maxRecDepth 100000
theorem KH (x y:List Val)(hx:x.length<=1000000)(hy:y.length<=1000000):so x y []=some (decide (bK x y<0)):=by
 unfold so;rw[bX (l:=([]:List Fb)) (mk:=fun(_:Unit) i=>i) (f:=fun(_:Unit) (_:Fb)=>(none:Option (Sum Unit Bool))) ?_ ?_ (by unfold fuel;simp) ()]
 ·show uz x y (.inl ((([]:List Fb).length:Nat):Int))=_
  unfold uz;rw[jJ x y m0 m0];rfl
 ·intro s i x hx;simp at hx
 ·intro s
  unfold uH;dsimp only;rw[lF_,ap']
def tM (x y:List Val):Bool := !decide (bK y x<0)
theorem kE (x y:List Val):tM x y=true↔bK x y<=0:=by
 unfold tM;have:=tCr_.anti x y;have:=tCr_.anti y x;simp;omega
theorem oZ {a b:List (List Val)}(ha:a.length<=1000000)(hb:b.length<=1000000)(hra:∀ r∈a,r.length<=1000000)(hrb:∀ r∈b,r.length<=1000000):∀ (n i k:Nat) (out:List (List Val)),i<=a.length->k<=b.length->out.length=i+k->(a.length-i)+(b.length-k)<n->(ao (dU a b []) n (out,(i:Int),(k:Int))).bind D9=some (out++List.merge (a.drop i) (b.drop k) tM)
 |0,_,_,_,_,_,_,h=>by omega
 |n+1,i,k,out,h1,h2,ho,hn=>by
  have hg:decide (out.length+1<=5864062014805)=true:=aqc m0;rw[ao];by_cases hlt:i<a.length
  ·obtain⟨x,hx⟩:=gol_ hlt
   have ex:=(ap_.1 hx).2;have hne:decide ((i:Int)=((a.length:Nat):Int))=false:=aqb m0;have ihA:=oZ ha hb hra hrb n (i+1) k (out++[x]) m0 m0 m8 m0;by_cases hlb:k<b.length
   ·obtain⟨y,hy⟩:=gol_ hlb
    have ey:=(ap_.1 hy).2;have ihB:=oZ ha hb hra hrb n i (k+1) (out++[y]) m0 m0 m8 m0;have eb:dU a b [] (out,(i:Int),(k:Int))=bif decide (bK y x<0)then some (.next (out++[y],(i:Int),((k+1:Nat):Int)))else some (.next (out++[x],((i+1:Nat):Int),(k:Int))):=by
     unfold dU;dsimp only;rw[aO hx,aqa,hne,ap',aO hy,aqa,gn_ hy,gn_ hx];simp only[ap9];rw[KH y x (hrb y (aqe hy)) (hra x (aqe hx)),wrapN m0,wrapN m0,hg];rfl
    rw[eb,aqF hlt,aqF hlb,ex,ey,List.cons_merge_cons];rw[aqF hlb,ey]at ihA;rw[aqF hlt,ex]at ihB;by_cases hc:bK y x<0
    ·rw[show decide (bK y x<0)=true from aqc hc,aqa,if_neg (by unfold tM;simp[hc])]
     dsimp only;rw[ihB];simp
    ·rw[show decide (bK y x<0)=false from aqb hc,ap',if_pos (by unfold tM;simp[hc])]
     dsimp only;rw[ihA];simp
   ·have hk:k=b.length:=m0
    have eb:dU a b [] (out,(i:Int),(k:Int))=some (.next (out++[x],((i+1:Nat):Int),(k:Int))):=by
     unfold dU;dsimp only;rw[aO hx,aqa,hne,ap',hk,lF_,ap',gn_ hx];simp only[ap9];rw[wrapN m0,hg];rfl
    rw[eb];dsimp only;rw[ihA,aqF hlt,ex,hk,aq4,List.merge_right,List.merge_right];simp
  ·have hi:i=a.length:=m0
   subst hi;by_cases hlb:k<b.length
   ·obtain⟨y,hy⟩:=gol_ hlb
    have ey:=(ap_.1 hy).2;have ihB:=oZ ha hb hra hrb n a.length (k+1) (out++[y]) m0 m0 m8 m0;have eb:dU a b [] (out,((a.length:Nat):Int),(k:Int))=some (.next (out++[y],((a.length:Nat):Int),((k+1:Nat):Int))):=by
     unfold dU;dsimp only;rw[lF_,ap',aO hy,aqa,show decide (((a.length:Nat):Int)=((a.length:Nat):Int))=true from aqc rfl,aqa,gn_ hy];simp only[ap9];rw[wrapN m0,hg];rfl
    rw[eb];dsimp only;rw[ihB,aqF hlb,ey,aq4,List.nil_merge,List.nil_merge];simp
   ·have hk:k=b.length:=m0
    subst hk;have eb:dU a b [] (out,((a.length:Nat):Int),((b.length:Nat):Int))=some (.exit (out,((a.length:Nat):Int),((b.length:Nat):Int))):=by
     unfold dU;dsimp only;rw[lF_,ap',lF_,ap']
    rw[eb,aq4,aq4,List.nil_merge,aqI];rfl
theorem aaI {a b:List (List Val)}(ha:a.length<=1000000)(hb:b.length<=1000000)(hra:∀ r∈a,r.length<=1000000)(hrb:∀ r∈b,r.length<=1000000):wj a b []=some (List.merge a b tM):=by
 unfold wj;have:=oZ ha hb hra hrb fuel 0 0 [] (aqu _) (aqu _) rfl (by unfold fuel;omega);rw[show(((0:Nat):Int))=0 from rfl]at this;rw[this];simp
theorem aeT {a b:List (List Val)}(ha:Asc bK a)(hb:Asc bK b):Asc bK (List.merge a b tM):=by
 have:=List.pairwise_merge (le:=tM) (fun x y z h1 h2=>(kE x z).2 (tCr_.le_trans ((kE x y).1 h1) ((kE y z).1 h2))) (fun x y=>by
  rw[Bool.or_eq_true,kE,kE];exact tCr_.total x y) a b (ha.imp fun h=>(kE _ _).2 h) (hb.imp fun h=>(kE _ _).2 h)
 exact this.imp fun h=>(kE _ _).1 h
theorem afS:∀ (n:Nat) (l:List (List Val)),l.length<=n->l.length<=1000000->(∀ r∈l,r.length<=1000000) ->∃ r,xP (n+1) l []=some r/\Asc bK r/\r.Perm l:=by
 intro n
 induction n with
 |zero =>
  intro l h _ _;have:l=[]:=by cases l with|nil=>rfl|cons _ _=>simp at h
  subst this;exact⟨[],rfl,List.Pairwise.nil,List.Perm.refl _⟩
 |succ n ih =>
  intro l h hl hr
  match l,h,hl,hr with
  |[],_,_,_=>exact⟨[],rfl,List.Pairwise.nil,List.Perm.refl _⟩
  |[x],_,_,hr =>
   have hx:=hr x m5;refine⟨[x],?_,by simp[Asc],List.Perm.refl _⟩;show po (xP (n+1)) [x] []=_;unfold po;simp only[aqv,aqE];rw[show aF [x] 0=some x from rfl];simp only[ap9];rw[show decide (x.length<=4398046511104)=true from aqc m0];rfl
  |x::y::t,h,hl,hr =>
   generalize hL:x::y::t=l at h hl hr;have h2:2<=l.length:=by rw[<- hL];simp
   have hm:IntKind.i64.wrap (((l.length:Nat):Int).tdiv (2:Int))=((l.length/2:Nat):Int):=by
    rw[show((l.length:Nat):Int).tdiv 2=((l.length/2:Nat):Int)from rfl];exact a7 m0 m0
   have s1:ga l 0 ((l.length/2:Nat):Int)=some (l.take (l.length/2)):=by
    unfold ga;rw[if_pos m0,Int.toNat_natCast];rfl
   have s2:ga l ((l.length/2:Nat):Int) ((l.length:Nat):Int)=some (l.drop (l.length/2)):=by
    unfold ga;rw[if_pos m0,Int.toNat_natCast,Int.toNat_natCast,List.take_length]
   obtain⟨r1,e1,a1,p1⟩:=ih (l.take (l.length/2)) m8 m8 fun r hr'=>hr r (aq6 hr')
   obtain⟨r2,e2,a2,p2⟩:=ih (l.drop (l.length/2)) m8 m8 fun r hr'=>hr r (List.mem_of_mem_drop hr')
   refine⟨List.merge r1 r2 tM,?_,aeT a1 a2,?_⟩
   ·show po (xP (n+1)) l []=_
    unfold po;rw[show decide (((l.length:Nat):Int)=0)=false from aqb m0,ap',show decide (((l.length:Nat):Int)=1)=false from aqb m0,ap',show decide ((2:Int)≠0)=true from rfl,aqa,hm,s1,s2];simp only[ap9];rw[e1,e2];simp only[ap9];rw[aaI (by rw[p1.length_eq];simp;omega) (by rw[p2.length_eq];simp;omega) (fun r hr'=>hr r (aq6 (p1.mem_iff.1 hr'))) (fun r hr'=>hr r (List.mem_of_mem_drop (p2.mem_iff.1 hr')))];rfl
   ·refine(List.merge_perm_append tM).trans ((p1.append p2).trans ?_)
    rw[aqU]
theorem x9 (l:List (List Val))(hl:l.length<=300)(hr:∀ r∈l,r.length<=1000000):ut l=some (gf l):=by
 obtain⟨r,e,a,p⟩:=afS 300 l hl m0 hr;unfold ut;rw[e,Iu a p];rfl
theorem tT {s:ByteArray}(hs:s.size<=1000000):∀ (n i:Nat),i<=s.size->s.size-i<n ->∃ r,(ao (jy s) n (i:Int)).bind dl=some r
 |0,_,_,h=>by omega
 |n+1,i,h1,hn=>by
  rw[ao];unfold jy;dsimp only;by_cases hlt:i<s.size
  ·rw[show decide ((i:Int)<((s.size:Nat):Int))=true from aqc m0,aqa]
   obtain⟨b,hb⟩:∃ b,afk s (i:Int)=some b:=by
    unfold afk;rw[if_pos m0];exact⟨s[i],by simp[hlt]⟩
   rw[hb];simp only[ap9]
   cases decide (((b.toNat:Nat):Int)<32)with
   |true=>exact⟨_,rfl⟩
   |false =>
    cases decide ((126:Int)<((b.toNat:Nat):Int))with
    |true=>exact⟨_,rfl⟩
    |false =>
     simp only[ap'];rw[wrapN m0];exact tT hs n (i+1) m0 m0
  ·rw[show decide ((i:Int)<((s.size:Nat):Int))=false from aqb m0,ap']
   exact⟨_,rfl⟩
theorem FQ {s:ByteArray}(hs:s.size<=1000000):∃ r,lJ s=some r:=by
 have:=tT hs fuel 0 (aqu _) (by unfold fuel;omega);rw[show(((0:Nat):Int))=0 from rfl]at this;exact this
theorem Do (v:Val):∃ r,dc v=some r:=by
 unfold dc
 cases decide (v.kind=0)with
 |true=>cases decide (v.int=0)<;>exact⟨_,rfl⟩
 |false =>
  cases decide (v.kind=1)with
  |true=>cases (v.text.toList==(⟨#[]⟩:ByteArray).toList)<;>cases decide ((-1125899906842624:Int)<=v.int)<;>exact⟨_,rfl⟩
  |false =>
   cases decide (v.kind=2)with
   |true =>
    cases decide (v.int=0)with
    |false=>exact⟨_,rfl⟩
    |true =>
     by_cases h:((v.text.size:Nat):Int)<=200
     ·obtain⟨r,hr⟩:=FQ (s:=v.text) m0
      rw[show decide (((v.text.size:Nat):Int)<=200)=true from aqc h,hr];exact⟨_,rfl⟩
     ·rw[show decide (((v.text.size:Nat):Int)<=200)=false from aqb h]
      exact⟨_,rfl⟩
   |false =>
    cases decide (v.kind=3)with
    |true=>cases (v.text.toList==(⟨#[]⟩:ByteArray).toList)<;>cases decide (v.int=0)<;>exact⟨_,rfl⟩
    |false=>exact⟨_,rfl⟩
theorem aeh (row:List Val)(kinds:List Int)(h:row.length<=1000000):∃ r,qS row kinds=some r:=by
 unfold qS;by_cases he:row.length=kinds.length
 ·rw[show decide (((row.length:Nat):Int)≠((kinds.length:Nat):Int))=false from aqb m0,ap']
  have hz:(row.zip kinds).length=row.length:=by simp;omega
  have k:=bX (l:=row.zip kinds) (body:=fW row kinds) (mk:=fun(_:Unit) i=>i) (f:=fun(_:Unit) (x:Val×Int)=>(dc x.1).bind fun r=>bif (!r)then some (.inr false)else bif decide (x.1.kind≠0)then bif decide (x.1.kind≠x.2)then some (.inr false)else some (.inl ())else some (.inl ())) ?_ ?_ (by unfold fuel;omega) ()
  ·obtain⟨r,hr⟩:=J1 (σ:=Unit) (ρ:=Bool) (f:=fun(_:Unit) (x:Val×Int)=>(dc x.1).bind fun r=>bif (!r)then some (.inr false)else bif decide (x.1.kind≠0)then bif decide (x.1.kind≠x.2)then some (.inr false)else some (.inl ())else some (.inl ())) (row.zip kinds) () (by
    intro s x _;obtain⟨r,hr⟩:=Do x.1;rw[hr]
    cases r<;>cases decide (x.1.kind≠0)<;>cases decide (x.1.kind≠x.2)<;>exact⟨_,rfl⟩)
   rw[k,hr]
   cases r with
   |inl _=>exact⟨_,rfl⟩
   |inr _=>exact⟨_,rfl⟩
  ·intro s i x hx
   obtain⟨h1,h2⟩:=List.getElem?_zip_eq_some.1 hx;have hi:i<row.length:=(ap_.1 h1).1;unfold fW;dsimp only;rw[aO h1,aqa,gn_ h1,gn_ h2];simp only[ap9];rw[wrapN m0]
   cases dc x.1 with
   |none=>rfl
   |some r=>cases r<;>cases decide (x.1.kind≠0)<;>cases decide (x.1.kind≠x.2)<;>rfl
  ·intro s
   unfold fW;dsimp only;rw[hz,lF_,ap']
 ·rw[show decide (((row.length:Nat):Int)≠((kinds.length:Nat):Int))=true from aqc m0]
  exact⟨_,rfl⟩
theorem aho (k:Int):∃ r,zp k=some r:=by
 unfold zp
 cases decide (k=1)<;>cases decide (k=2)<;>exact⟨_,rfl⟩
theorem afu (l:List Int)(h:l.length<=1000000):∃ r,Dj l=some r:=by
 unfold Dj;have k:=bX (l:=l) (body:=nt l) (mk:=fun(_:Unit) i=>i) (f:=fun(_:Unit) (x:Int)=>(zp x).bind fun r=>bif (!r)then some (.inr false)else some (.inl ())) ?_ ?_ (by unfold fuel;omega) ()
 ·obtain⟨r,hr⟩:=J1 (σ:=Unit) (ρ:=Bool) (f:=fun(_:Unit) (x:Int)=>(zp x).bind fun r=>bif (!r)then some (.inr false)else some (.inl ())) l () (by
   intro s x _;obtain⟨r,hr⟩:=aho x;rw[hr]
   cases r<;>exact⟨_,rfl⟩)
  rw[k,hr]
  cases r with
  |inl _=>exact⟨_,rfl⟩
  |inr _=>exact⟨_,rfl⟩
 ·intro s i x hx
  have hi:i<l.length:=(ap_.1 hx).1;unfold nt;dsimp only;rw[aO hx,aqa,gn_ hx];simp only[ap9];rw[wrapN m0]
  cases zp x with
  |none=>rfl
  |some r=>cases r<;>rfl
 ·intro s
  unfold nt;dsimp only;rw[lF_,ap']
theorem wZ {α:Type}:∀ {l:List α},l.length=2 ->∃ c0 c1,l=[c0,c1]
 |[c0,c1],_=>⟨c0,c1,rfl⟩
theorem ach {α:Type}:∀ {l:List α},l.length=3 ->∃ c0 c1 c2,l=[c0,c1,c2]
 |[c0,c1,c2],_=>⟨c0,c1,c2,rfl⟩
theorem anN {α:Type}:∀ {l:List α},l.length=7 ->∃ c0 c1 c2 c3 c4 c5 c6,l=[c0,c1,c2,c3,c4,c5,c6]
 |[c0,c1,c2,c3,c4,c5,c6],_=>⟨c0,c1,c2,c3,c4,c5,c6,rfl⟩
theorem addr_add (b o n:Nat):(⟨b,o,none⟩:Addr).add n=⟨b,o+n,none⟩:=by
 unfold Addr.add;split<;>simp_all
def RW {W:World}(hT:gL (fun b o=>W.cell? ⟨b,o,none⟩)):PH:=⟨fun b o=>W.cell? ⟨b,o,none⟩,hT⟩
def iz {W:World}(hT:gL (fun b o=>W.cell? ⟨b,o,none⟩))(cs:List Value)(es:List AC):Prop:=cs.length=es.length /\ ∀ (j:Nat) u x,cs[j]?=some u->es[j]?=some x->bD (RW hT) u x
theorem iz.app {W:World}{hT:gL (fun b o=>W.cell? ⟨b,o,none⟩)}{c1 c2:List Value}{e1 e2:List AC}(h1:iz hT c1 e1)(h2:iz hT c2 e2):iz hT (c1++c2) (e1++e2):=by
 refine⟨by rw[aqg,aqg,h1.1,h2.1],fun j u x hu hx=>?_⟩;have hl:=h1.1;by_cases hj:j<c1.length
 ·rw[aqm hj]at hu
  rw[aqm m0]at hx;exact h1.2 j u x hu hx
 ·rw[aqf m0]at hu
  rw[aqf m0,<- hl]at hx;exact h2.2 _ u x hu hx
theorem iz.one {W:World}{hT:gL (fun b o=>W.cell? ⟨b,o,none⟩)}{v:Value}{e:AC}(h:bD (RW hT) v e):iz hT [v] [e]:=by
 refine⟨rfl,fun j u x hu hx=>?_⟩
 match j,hu,hx with
 |0,hu,hx=>simp at hu hx;subst hu hx;exact h
 |j+1,hu,hx=>simp at hu
def Aa (n:Int):Prop := -9223372036854775808<=n/\n<=9223372036854775807
def SOk (s:ByteArray):Prop:=s.size<=9223372036854775807
def vo {α:Type}(k:Nat)(Q:α->Prop)(l:List α):Prop:=l.length*k<=reachBytes /\ ∀ a∈l,Q a
def ln {H:Type}(t:TypeId)(d:DataW H):Prop :=∀ n∈DataW.weights Tryz.prog t d,n<=reachBytes
theorem acu {H:Type}{e:TypeId}:∀ {l:List (DataW H)} {d:DataW H},d∈l ->∀ n∈DataW.weights Tryz.prog e d,n∈DataW.weightsAll Tryz.prog e l
 |x::l,d,h,n,hn=>by
  rw[DataW.weightsAll,aqB];rcases aqp.1 h with rfl|h
  ·exact .inl hn
  ·exact .inr (acu h n hn)
theorem eh {H:Type}:∀ {ts:List TypeId} {l:List (DataW H)} {i:Nat} {t:TypeId} {d:DataW H},ts[i]?=some t->l[i]?=some d ->∀ n∈DataW.weights Tryz.prog t d,n∈DataW.weightsEach Tryz.prog ts l
 |t0::ts,d0::l,0,t,d,h1,h2,n,hn=>by
  simp at h1 h2;subst h1 h2;rw[DataW.weightsEach,aqB];exact .inl hn
 |t0::ts,d0::l,i+1,t,d,h1,h2,n,hn=>by
  rw[DataW.weightsEach,aqB];exact .inr (eh (by simpa using h1) (by simpa using h2) n hn)
 |[],_,i,t,d,h1,_,n,hn=>by simp at h1
 |_::_,[],i,t,d,_,h2,n,hn=>by simp at h2
section
variable {H:Type} {enc:TypeId × Value->H} {W:World} {hT:gL (fun b o=>W.cell? ⟨b,o,none⟩)} {base:Nat} {spare:Nat->Bool} {held:Bool}
theorem ct {t:TypeId}(ht:Tryz.prog.underlying t=some (.int .i64)){cs:List Value}{fuel:Nat}{x:DataW H×List MemPlace}(h:DataW.trod enc Tryz.prog W base spare held fuel t cs=some x):∃ n:Int,iz hT cs [.int .i64 n]/\Aa n:=by
 obtain⟨n,rfl,_,hw⟩:=DataW.trod_int ht h;rw[Lit.wf,aqr]at hw;exact⟨n,iz.one (.int _ _),aqC hw.1,aqC hw.2⟩
theorem K4 {t:TypeId}(ht:Tryz.prog.underlying t=some .string){cs:List Value}{fuel:Nat}{x:DataW H×List MemPlace}(h:DataW.trod enc Tryz.prog W base spare held fuel t cs=some x):∃ s:ByteArray,iz hT cs [.str s]/\SOk s:=by
 obtain⟨s,rfl,_,hs⟩:=DataW.trod_string ht h;exact⟨s,iz.one (.str _),hs⟩
theorem bV {α:Type}{t e:TypeId}{k:Nat}{f:α->List AC}{Q:α->Prop}(ht:Tryz.prog.underlying t=some (.slice e))(hk:Tryz.prog.cellsOf e=k){by_:Nat}(hby:Tryz.prog.bytesOf e=by_)(hk0:0<k)(hf:∀ x,(f x).length=k){cs:List Value}{fuel:Nat}{x:DataW H×List MemPlace}(h:DataW.trod enc Tryz.prog W base spare held fuel t cs=some x)(hw:ln t x.1)
  (hr:∀ (fuel':Nat) (cs':List Value) (x':DataW H×List MemPlace),fuel'<fuel->DataW.trod enc Tryz.prog W base spare held fuel' e cs'=some x'->ln e x'.1 ->∃ a,iz hT cs' (f a)/\Q a):∃ l:List α,iz hT cs [.lst (l.map f)]/\vo by_ Q l:=by
 rcases DataW.trod_slice ht h with⟨rfl,_⟩|⟨a,len,cap,elems,rest,n,hfu,rfl,hxe,_,hlc,hm,hel,hx,_,_⟩
 ·exact⟨[],iz.one (dq _ _ _),m5,fun a ha=>by cases ha⟩
 ·have hww:(∀ n∈DataW.weightsAll Tryz.prog e (elems.map (·.1)),n<=reachBytes)/\len*by_<=reachBytes:=by
   rw[hxe]at hw;unfold ln at hw;simp only[DataW.weights,ht]at hw;refine⟨fun n hn=>hw n (aqx _ (List.mem_append_left _ hn)),?_⟩;have:=hw _ (aqW ..);simp only[aqk,hel,hby]at this;exact Nat.le_trans (aqL _ (Nat.le_add_right _ _)) this
  have hi:∀ i,i<len ->∃ y,(∃ cs',W.cells? base (a.add (i*k)) k=some cs'/\iz hT cs' (f y))/\Q y:=by
   intro i hlt;have h1:=hx i hlt;rw[aqh m0,hk]at h1
   cases hc:W.cells? base (a.add (i*k)) k with
   |none=>rw[hc]at h1;cases h1
   |some cs'=>rw[hc]at h1;obtain⟨y,h2,h3⟩:=hr n cs' _ m0 h1 (fun m hm=>hww.1 m (acu (List.mem_map_of_mem (f:=fun p:DataW H×List MemPlace=>p.1) (List.getElem_mem m0)) m hm));exact⟨y,⟨cs',rfl,h2⟩,h3⟩
  rcases Nat.eq_zero_or_pos len with h0|h0
  ·subst h0;exact⟨[],iz.one (dq _ _ _),m5,fun a ha=>by cases ha⟩
  ·obtain⟨y0,⟨cs0,hc0,_⟩,_⟩:=hi 0 h0
   let g:Nat->α:=fun i=>if h:i<len then Classical.choose (hi i h)else y0
   have hg:∀ i,i<len->(∃ cs',W.cells? base (a.add (i*k)) k=some cs'/\iz hT cs' (f (g i)))/\Q (g i):=by
    intro i hlt;have:g i=Classical.choose (hi i hlt):=by simp[g,hlt]
    rw[this];exact Classical.choose_spec (hi i hlt)
   obtain⟨b,off,spot⟩:=a;have hs0:spot=none:=by
    obtain⟨_,hl,hat⟩:=World.cells?_some hc0;have h1:=hat 0 hk0;rw[aqh m0]at h1;have:=World.cell?_spot h1;simpa[Addr.add]using this
   subst hs0;refine⟨(List.range len).map g,iz.one ?_,(by rw[aqk,List.length_range];exact hww.2),?_⟩
   ·have cell:∀ i,i<len ->∀ j,j<k ->∃ u y,W.cell? ⟨b,off+(i*k+j),none⟩=some u/\(f (g i))[j]?=some y/\bD (RW hT) u y:=by
     intro i hlt j hj;obtain⟨⟨cs',hc,hcr⟩,_⟩:=hg i hlt;obtain⟨_,hl,hat⟩:=World.cells?_some hc;have h1:=hat j hj;rw[aqh m0]at h1;have hfl:=hf (g i);refine⟨_,_,?_,aqh m0,hcr.2 j _ _ (aqh m0) (aqh m0)⟩;rw[addr_add,addr_add,Nat.add_assoc]at h1;exact h1
    refine .lst (some ⟨b,off,none⟩) len cap _ k (fun j=>(W.cell? ⟨b,off+j,none⟩).getD (.bool false)) b off m5 hlc ?_ (fun _=>rfl) ?_ ?_
    ·intro e he
     simp only[List.map_map,aqJ]at he;obtain⟨i,_,rfl⟩:=he;exact hf _
    ·intro j hj
     have hd:j/k<len:=by rw[Nat.div_lt_iff_lt_mul hk0];exact hj
     obtain⟨u,y,h1,_,_⟩:=cell (j/k) hd (j%k) (Nat.mod_lt _ hk0);have hjj:j/k*k+j%k=j:=by rw[Nat.mul_comm];exact Nat.div_add_mod j k
     rw[hjj]at h1;show W.cell? _=_;rw[h1];rfl
    ·intro i e j x he hxx
     have hlt:i<len:=by have:=(ap_.1 he).1;simpa using this
     have:e=f (g i):=by simp[hlt]at he;exact he.symm
     subst this;have hj:j<k:=by have:=(ap_.1 hxx).1;rw[hf]at this;exact this
     obtain⟨u,y,h1,h2,h3⟩:=cell i hlt j hj;rw[h2]at hxx;obtain rfl:=aqG hxx;rw[h1];exact h3
   ·intro a ha
    simp only[aqJ,List.mem_range]at ha;obtain⟨i,hlt,rfl⟩:=ha;exact(hg i hlt).2
theorem qK {s:TypeId}{x:DataW H×List MemPlace}{fs:Array Field}{n:Nat}{cs:List Value}{xs:List (DataW H×List MemPlace)}(hs:Tryz.prog.underlying s=some (.struct fs))(hx:x=(.agg (xs.map (·.1)),xs.flatMap (·.2)))(hw:ln s x.1)(hl:xs.length=fs.size)(hf:∀ (i:Nat) (f:Field),fs[i]?=some f->DataW.trod enc Tryz.prog W base spare held n f.type ((cs.drop f.offset).take (Tryz.prog.cellsOf f.type))=xs[i]?)
  (i:Nat) {f:Field} {t o k:Nat} (hi:fs[i]?=some f) (h1:f.type=t) (h2:f.offset=o) (h3:Tryz.prog.cellsOf t=k):∃ y,DataW.trod enc Tryz.prog W base spare held n t ((cs.drop o).take k)=some y/\ln t y.1:=by
 have hlt:i<fs.size:=(aqT.1 hi).1;have:=hf i f hi;rw[h1,h2,h3,aqh m0]at this;refine⟨_,this,fun m hm=>?_⟩;rw[hx]at hw;unfold ln at hw;simp only[DataW.weights,hs]at hw;refine hw m (eh (i:=i) ?_ ?_ m hm)
 ·rw[aqw,Array.getElem?_toList,hi];simp[h1]
 ·rw[aqw,aqh m0];rfl
end
structure ub (x:Val):Prop where
 kind:Aa x.kind
 int:Aa x.int
 text:SOk x.text
section
variable {H:Type} {enc:TypeId × Value->H} {W:World} {hT:gL (fun b o=>W.cell? ⟨b,o,none⟩)} {base:Nat} {spare:Nat->Bool} {held:Bool}
theorem aiy:∀ (fuel:Nat) {cs:List Value} {x:DataW H×List MemPlace},DataW.trod enc Tryz.prog W base spare held fuel 33 cs=some x->ln 33 x.1 ->∃ a:Val,iz hT cs (cV a)/\ub a:=by
 intro fuel;intro cs x h hw;obtain⟨xs,n,hfu,hxe,hlen,hxs,hf⟩:=DataW.trod_struct Tryz.underlying33 h;rw[show Tryz.prog.cellsOf 33=3 by kernel_rfl]at hlen;obtain⟨c0,c1,c2,rfl⟩:=ach hlen;obtain⟨y0,h0,w0⟩:=qK Tryz.underlying33 hxe hw hxs hf 0 (t:=3) (o:=0) (k:=1) rfl rfl rfl k7;replace h0:DataW.trod enc Tryz.prog W base spare held n 3 [c0]=some y0:=h0;obtain⟨l0,r0,q0⟩:=ct Tryz.underlying3 h0;obtain⟨y1,h1,w1⟩:=qK Tryz.underlying33 hxe hw hxs hf 1 (t:=3) (o:=1) (k:=1) rfl rfl rfl k7;replace h1:DataW.trod enc Tryz.prog W base spare held n 3 [c1]=some y1:=h1;obtain⟨l1,r1,q1⟩:=ct Tryz.underlying3 h1;obtain⟨y2,h2,w2⟩:=qK Tryz.underlying33 hxe hw hxs hf 2 (t:=9) (o:=2) (k:=1) rfl rfl rfl k7;replace h2:DataW.trod enc Tryz.prog W base spare held n 9 [c2]=some y2:=h2;obtain⟨l2,r2,q2⟩:=K4 Tryz.underlying9 h2;exact⟨⟨l0,l1,l2⟩,((r0.app r1).app r2),⟨q0,q1,q2⟩⟩
end
structure yY (x:ax):Prop where
 lo:Aa x.lo
 hi:Aa x.hi
section
variable {H:Type} {enc:TypeId × Value->H} {W:World} {hT:gL (fun b o=>W.cell? ⟨b,o,none⟩)} {base:Nat} {spare:Nat->Bool} {held:Bool}
theorem aam:∀ (fuel:Nat) {cs:List Value} {x:DataW H×List MemPlace},DataW.trod enc Tryz.prog W base spare held fuel 53 cs=some x->ln 53 x.1 ->∃ a:ax,iz hT cs (aN a)/\yY a:=by
 intro fuel;intro cs x h hw;obtain⟨xs,n,hfu,hxe,hlen,hxs,hf⟩:=DataW.trod_struct Tryz.underlying53 h;rw[show Tryz.prog.cellsOf 53=2 by kernel_rfl]at hlen;obtain⟨c0,c1,rfl⟩:=wZ hlen;obtain⟨y0,h0,w0⟩:=qK Tryz.underlying53 hxe hw hxs hf 0 (t:=3) (o:=0) (k:=1) rfl rfl rfl k7;replace h0:DataW.trod enc Tryz.prog W base spare held n 3 [c0]=some y0:=h0;obtain⟨l0,r0,q0⟩:=ct Tryz.underlying3 h0;obtain⟨y1,h1,w1⟩:=qK Tryz.underlying53 hxe hw hxs hf 1 (t:=3) (o:=1) (k:=1) rfl rfl rfl k7;replace h1:DataW.trod enc Tryz.prog W base spare held n 3 [c1]=some y1:=h1;obtain⟨l1,r1,q1⟩:=ct Tryz.underlying3 h1;exact⟨⟨l0,l1⟩,(r0.app r1),⟨q0,q1⟩⟩
theorem Kp {cs:List Value}{fuel:Nat}{x:DataW H×List MemPlace}(h:DataW.trod enc Tryz.prog W base spare held fuel 50 cs=some x)(hw:ln 50 x.1):∃ l:List Val,iz hT cs [.lst (l.map cV)]/\vo 32 ub l :=
 bV (k:=3) (f:=cV) (Q:=ub) Tryz.underlying50 k7 k7 m9 (fun _=>rfl) h hw (fun f c x _ h hw=>aiy f h hw)
end
structure acQ (x:ap):Prop where
 row:(vo 32 ub) x.row
 valid:yY x.valid
section
variable {H:Type} {enc:TypeId × Value->H} {W:World} {hT:gL (fun b o=>W.cell? ⟨b,o,none⟩)} {base:Nat} {spare:Nat->Bool} {held:Bool}
theorem alI:∀ (fuel:Nat) {cs:List Value} {x:DataW H×List MemPlace},DataW.trod enc Tryz.prog W base spare held fuel 55 cs=some x->ln 55 x.1 ->∃ a:ap,iz hT cs (aG a)/\acQ a:=by
 intro fuel;intro cs x h hw;obtain⟨xs,n,hfu,hxe,hlen,hxs,hf⟩:=DataW.trod_struct Tryz.underlying55 h;rw[show Tryz.prog.cellsOf 55=3 by kernel_rfl]at hlen;obtain⟨c0,c1,c2,rfl⟩:=ach hlen;obtain⟨y0,h0,w0⟩:=qK Tryz.underlying55 hxe hw hxs hf 0 (t:=50) (o:=0) (k:=1) rfl rfl rfl k7;replace h0:DataW.trod enc Tryz.prog W base spare held n 50 [c0]=some y0:=h0;obtain⟨l0,r0,q0⟩:=Kp h0 w0;obtain⟨y1,h1,w1⟩:=qK Tryz.underlying55 hxe hw hxs hf 1 (t:=53) (o:=1) (k:=2) rfl rfl rfl k7;replace h1:DataW.trod enc Tryz.prog W base spare held n 53 [c1,c2]=some y1:=h1;obtain⟨l1,r1,q1⟩:=aam n h1 w1;exact⟨⟨l0,l1⟩,(r0.app r1),⟨q0,q1⟩⟩
theorem aiX {cs:List Value}{fuel:Nat}{x:DataW H×List MemPlace}(h:DataW.trod enc Tryz.prog W base spare held fuel 29 cs=some x)(hw:ln 29 x.1):∃ l:List Int,iz hT cs [.lst (l.map (fun x=>[AC.int .i64 x]))]/\vo 8 Aa l :=
 bV (k:=1) (f:=(fun x=>[AC.int .i64 x])) (Q:=Aa) Tryz.underlying29 k7 k7 m9 (fun _=>rfl) h hw (fun f c x _ h hw=>ct Tryz.underlying3 h)
theorem amm {cs:List Value}{fuel:Nat}{x:DataW H×List MemPlace}(h:DataW.trod enc Tryz.prog W base spare held fuel 22 cs=some x)(hw:ln 22 x.1):∃ l:List ap,iz hT cs [.lst (l.map aG)]/\vo 40 acQ l :=
 bV (k:=3) (f:=aG) (Q:=acQ) Tryz.underlying22 k7 k7 m9 (fun _=>rfl) h hw (fun f c x _ h hw=>alI f h hw)
end
structure kW (x:a6):Prop where
 kinds:(vo 8 Aa) x.kinds
 facts:(vo 40 acQ) x.facts
section
variable {H:Type} {enc:TypeId × Value->H} {W:World} {hT:gL (fun b o=>W.cell? ⟨b,o,none⟩)} {base:Nat} {spare:Nat->Bool} {held:Bool}
theorem qT:∀ (fuel:Nat) {cs:List Value} {x:DataW H×List MemPlace},DataW.trod enc Tryz.prog W base spare held fuel 31 cs=some x->ln 31 x.1 ->∃ a:a6,iz hT cs (aU a)/\kW a:=by
 intro fuel;intro cs x h hw;obtain⟨xs,n,hfu,hxe,hlen,hxs,hf⟩:=DataW.trod_struct Tryz.underlying31 h;rw[show Tryz.prog.cellsOf 31=2 by kernel_rfl]at hlen;obtain⟨c0,c1,rfl⟩:=wZ hlen;obtain⟨y0,h0,w0⟩:=qK Tryz.underlying31 hxe hw hxs hf 0 (t:=29) (o:=0) (k:=1) rfl rfl rfl k7;replace h0:DataW.trod enc Tryz.prog W base spare held n 29 [c0]=some y0:=h0;obtain⟨l0,r0,q0⟩:=aiX h0 w0;obtain⟨y1,h1,w1⟩:=qK Tryz.underlying31 hxe hw hxs hf 1 (t:=22) (o:=1) (k:=1) rfl rfl rfl k7;replace h1:DataW.trod enc Tryz.prog W base spare held n 22 [c1]=some y1:=h1;obtain⟨l1,r1,q1⟩:=amm h1 w1;exact⟨⟨l0,l1⟩,(r0.app r1),⟨q0,q1⟩⟩
end
inductive wX:Ex->Prop
 |mk {op:Int} {int:Int} {v:Val} {nm:ByteArray} {args:(List Ex)} (h0:Aa op) (h1:Aa int) (h2:ub v) (h3:SOk nm) (h4:args.length*88<=reachBytes) (g4:∀ a∈args,wX a):wX (.mk op int v nm args)
section
variable {H:Type} {enc:TypeId × Value->H} {W:World} {hT:gL (fun b o=>W.cell? ⟨b,o,none⟩)} {base:Nat} {spare:Nat->Bool} {held:Bool}
theorem K6:∀ (fuel:Nat) {cs:List Value} {x:DataW H×List MemPlace},DataW.trod enc Tryz.prog W base spare held fuel 36 cs=some x->ln 36 x.1 ->∃ a:Ex,iz hT cs (tE a)/\wX a:=by
 intro fuel
 induction fuel using Nat.strongRecOn with
 |ind fuel ih =>
 intro cs x h hw;obtain⟨xs,n,hfu,hxe,hlen,hxs,hf⟩:=DataW.trod_struct Tryz.underlying36 h;rw[show Tryz.prog.cellsOf 36=7 by kernel_rfl]at hlen;obtain⟨c0,c1,c2,c3,c4,c5,c6,rfl⟩:=anN hlen;obtain⟨y0,h0,w0⟩:=qK Tryz.underlying36 hxe hw hxs hf 0 (t:=3) (o:=0) (k:=1) rfl rfl rfl k7;replace h0:DataW.trod enc Tryz.prog W base spare held n 3 [c0]=some y0:=h0;obtain⟨l0,r0,q0⟩:=ct Tryz.underlying3 h0;obtain⟨y1,h1,w1⟩:=qK Tryz.underlying36 hxe hw hxs hf 1 (t:=3) (o:=1) (k:=1) rfl rfl rfl k7;replace h1:DataW.trod enc Tryz.prog W base spare held n 3 [c1]=some y1:=h1;obtain⟨l1,r1,q1⟩:=ct Tryz.underlying3 h1;obtain⟨y2,h2,w2⟩:=qK Tryz.underlying36 hxe hw hxs hf 2 (t:=33) (o:=2) (k:=3) rfl rfl rfl k7;replace h2:DataW.trod enc Tryz.prog W base spare held n 33 [c2,c3,c4]=some y2:=h2;obtain⟨l2,r2,q2⟩:=aiy n h2 w2;obtain⟨y3,h3,w3⟩:=qK Tryz.underlying36 hxe hw hxs hf 3 (t:=9) (o:=5) (k:=1) rfl rfl rfl k7;replace h3:DataW.trod enc Tryz.prog W base spare held n 9 [c5]=some y3:=h3;obtain⟨l3,r3,q3⟩:=K4 Tryz.underlying9 h3;obtain⟨y4,h4,w4⟩:=qK Tryz.underlying36 hxe hw hxs hf 4 (t:=34) (o:=6) (k:=1) rfl rfl rfl k7;replace h4:DataW.trod enc Tryz.prog W base spare held n 34 [c6]=some y4:=h4;obtain⟨l4,r4,q4⟩:=bV (k:=7) (f:=tE) (Q:=wX) Tryz.underlying34 k7 k7 m9 I2 h4 w4 (fun f c x hlt h hw=>ih f m0 h hw)
 exact⟨.mk l0 l1 l2 l3 l4,(by rw[aC];exact((((r0.app r1).app r2).app r3).app r4)),.mk q0 q1 q2 q3 q4.1 q4.2⟩
end
theorem Ab:∀ (a b x y:List UInt8),(32:UInt8)∉a->(32:UInt8)∉b->a++32::x=b++32::y->a=b/\x=y
 |[],[],x,y,_,_,h=>by simpa using h
 |[],c::b,x,y,_,hb,h=>by
  simp at h;exact absurd h.1.symm (fun e=>hb (by rw[e];simp))
 |c::a,[],x,y,ha,_,h=>by
  simp at h;exact absurd h.1 (fun e=>ha (by rw[e];simp))
 |c::a,d::b,x,y,ha,hb,h=>by
  simp at h;obtain⟨h1,h2⟩:=Ab a b x y (fun q=>ha (aqx _ q)) (fun q=>hb (aqx _ q)) h.2;exact⟨by rw[h.1,h1],h2⟩
def ahN (b:UInt8):Prop:=48<=b.toNat/\b.toNat<=57
theorem JB {d:Nat}(h:d<10):(UInt8.ofNat (48+d)).toNat=48+d:=by
 rw[UInt8.toNat_ofNat'];omega
theorem mZ (u:Nat):∀ b∈Lib.decDigits u,ahN b:=by
 induction u using Nat.strongRecOn with
 |_ u ih =>
  intro b hb;rw[Lib.decDigits]at hb;split at hb
  ·rename_i h
   rw[aqP.1 hb];unfold ahN;rw[JB h];omega
  ·rename_i h
   rcases aqB.1 hb with hb|hb
   ·exact ih (u/10) m0 b hb
   ·rw[aqP.1 hb];unfold ahN;rw[JB m0];omega
def Jr (l:List UInt8):Nat:=l.foldl (fun a b=>a*10+(b.toNat-48)) 0
theorem MG (l:List UInt8)(b:UInt8):Jr (l++[b])=Jr l*10+(b.toNat-48):=by unfold Jr;rw[List.foldl_append];rfl
theorem t8 (u:Nat):Jr (Lib.decDigits u)=u:=by
 induction u using Nat.strongRecOn with
 |_ u ih =>
  rw[Lib.decDigits];split
  ·rename_i h
   show 0*10+((UInt8.ofNat (48+u)).toNat-48)=u;rw[JB h];omega
  ·rename_i h
   rw[MG,ih (u/10) m0,JB m0];omega
theorem ua {u v:Nat}(h:Lib.decDigits u=Lib.decDigits v):u=v:=by rw[<- t8 u,h,t8]
theorem kL (n:Int):(32:UInt8)∉Lib.itoa n:=by
 intro h;unfold Lib.itoa at h;split at h
 ·rcases aqp.1 h with h|h
  ·exact absurd h m9
  ·have:=(mZ _ _ h).1;exact absurd this m9
 ·have:=(mZ _ _ h).1;exact absurd this m9
theorem EA {n m:Int}(h:Lib.itoa n=Lib.itoa m):n=m:=by
 have key:∀ (a b:Nat),Lib.decDigits a≠45::Lib.decDigits b:=by
  intro a b e;have:=(mZ a 45 (by rw[e];simp)).1;exact absurd this m9
 unfold Lib.itoa at h;split at h<;>split at h
 ·have:=ua (List.cons.inj h).2;omega
 ·exact absurd h.symm (key _ _)
 ·exact absurd h (key _ _)
 ·have:=ua h;omega
def xt (v:Val):List UInt8:=Lib.itoa v.kind++32::(Lib.itoa v.int++32::(Lib.itoa v.text.size++32::v.text.data.toList))
def Fp (l:List Val):List UInt8:=l.flatMap xt
theorem alS (a b:ByteArray):(a++b).data.toList=a.data.toList++b.data.toList:=by simp
theorem G7 (l:List Val):(cH l).data.toList=Fp l:=by
 have:∀ (l:List Val) (a:ByteArray),(l.foldl (fun a v=>jm a (vZ v)++v.text) a).data.toList=a.data.toList++Fp l:=by
  intro l
  induction l with
  |nil=>intro a;simp[Fp]
  |cons v l ih =>
   intro a;rw[aqZ,ih];have e:jm a (vZ v)=a++iT v.kind++c32++iT v.int++c32++iT v.text.size++c32:=rfl;have e1:∀ n,(iT n).data.toList=Lib.itoa n:=fun n=>rfl
   have e2:c32.data.toList=[32]:=rfl;rw[e];simp only[alS,e1,e2,Fp,aqM,xt,aqA,List.cons_append,aqd]
 have:=this l ⟨#[]⟩;simpa[cH]using this
theorem aeJ {v w:Val}{x y:List UInt8}(h:xt v++x=xt w++y):v=w/\x=y:=by
 unfold xt at h;simp only[aqA,List.cons_append]at h;obtain⟨h1,h⟩:=Ab _ _ _ _ (kL _) (kL _) h;obtain⟨h2,h⟩:=Ab _ _ _ _ (kL _) (kL _) h;obtain⟨h3,h⟩:=Ab _ _ _ _ (kL _) (kL _) h;have h3:=EA h3;have hs:v.text.data.toList.length=w.text.data.toList.length:=by
  have e:∀ s:ByteArray,s.data.toList.length=s.size:=fun s=>rfl
  rw[e,e];omega
 obtain⟨h4,h5⟩:=List.append_inj h hs;refine⟨?_,h5⟩;obtain⟨a,b,⟨⟨c⟩⟩⟩:=v;obtain⟨a',b',⟨⟨c'⟩⟩⟩:=w;simp only at h1 h2 h4;rw[EA h1,EA h2,h4]
theorem Nh:∀ (a b:List Val),Fp a=Fp b->a=b
 |[],[],_=>rfl
 |[],w::b,h=>by
  have:=congrArg List.length h;simp[Fp,xt]at this
 |v::a,[],h=>by
  have:=congrArg List.length h;simp[Fp,xt]at this
 |v::a,w::b,h=>by
  have h':xt v++Fp a=xt w++Fp b:=h;obtain⟨h1,h2⟩:=aeJ h';rw[h1,Nh a b h2]
theorem key_inj {a b:List Val}(h:cH a=cH b):a=b:=Nh a b (by rw[<- G7,<- G7,h])
end Go.Proofs.YtlcceppoloaecaaGreatDoor
namespace Go.Proofs.YtlcceppoloaecaaGreatDoor.St
open _root_.List (replicate)
open Go.RowKit
theorem ahs {A B:List ((Int×Int)×Int)}(h:(vk A).Perm (vk B)):KG A=KG B:=by
 have h1:mc A=mc B:=by
  funext p;rw[pm,pm,<- wW A p,<- wW B p,HQ h]
 have h2:ft A=ft B:=by
  refine(fG A).1.ext (fG B).1 fun x=>?_
  rw[(fG A).2,(fG B).2];constructor
  ·rintro⟨h3|⟨y,hy⟩,h4⟩
   ·exact⟨.inl h3,h4⟩
   ·exact⟨.inr ⟨y,h.mem_iff.1 hy⟩,h4⟩
  ·rintro⟨h3|⟨y,hy⟩,h4⟩
   ·exact⟨.inl h3,h4⟩
   ·exact⟨.inr ⟨y,h.mem_iff.2 hy⟩,h4⟩
 unfold KG;rw[h1,h2]
theorem FL {P:List Int}(h:cN P):P.Pairwise (· < ·):=List.pairwise_iff_getElem.2 fun i j hi hj hij=>h i j _ _ hij (aqh hi) (aqh hj)
theorem zL {l:List (Int×Int)}(h:l.Pairwise fun x y=>x.1<y.1):Asc l:=by
 intro i j x y hij hx hy;obtain⟨hi,rfl⟩:=ap_.1 hx;obtain⟨hj,rfl⟩:=ap_.1 hy;exact List.pairwise_iff_getElem.1 h i j hi hj hij
theorem GU (f:Int->Int):∀ (P:List Int) (acc:List (Int×Int)),P.Pairwise (· < ·)->(acc.Pairwise fun x y=>x.1<y.1)->(∀ s∈acc,∀ x∈P,s.1<x)->(∀ s∈acc,s.2=f s.1) ->
  ((P.foldl (fun acc p=>dB acc (p,f p)) acc).Pairwise fun x y=>x.1<y.1) /\ ∀ s∈P.foldl (fun acc p=>dB acc (p,f p)) acc,(s∈acc\/s.1∈P)/\s.2=f s.1
 |[],acc,_,h2,_,h4=>⟨h2,fun s hs=>⟨.inl hs,h4 s hs⟩⟩
 |x::P,acc,h1,h2,h3,h4=>by
  rw[aqZ];have hp:=aq5.1 h1;have hput:∀ s∈dB acc (x,f x),s∈acc\/s=(x,f x):=by
   intro s hs;unfold dB at hs;split at hs
   ·exact .inl hs
   ·rcases aqB.1 hs with hs|hs
    ·exact .inl hs
    ·exact .inr (aqP.1 hs)
  have hpw:(dB acc (x,f x)).Pairwise fun x y=>x.1<y.1:=by
   unfold dB;split
   ·exact h2
   ·refine List.pairwise_append.2 ⟨h2,List.pairwise_singleton _ _,fun a ha b hb=>?_⟩
    rw[aqP.1 hb];exact h3 a ha x m5
  obtain⟨q1,q2⟩:=GU f P (dB acc (x,f x)) hp.2 hpw (fun s hs y hy=>by
   rcases hput s hs with h|rfl
   ·exact h3 s h y (aqx _ hy)
   ·exact hp.1 y hy) (fun s hs=>by
   rcases hput s hs with h|rfl
   ·exact h4 s h
   ·rfl)
  refine⟨q1,fun s hs=>?_⟩;obtain⟨h5,h6⟩:=q2 s hs;refine⟨?_,h6⟩;rcases h5 with h5|h5
  ·rcases hput s h5 with h|rfl
   ·exact .inl h
   ·exact .inr m5
  ·exact .inr (aqx _ h5)
theorem Di (l:List ((Int×Int)×Int)):Asc (KG l) /\ ∀ s∈KG l,s.1<1099511627776/\s.2=mc l s.1:=by
 obtain⟨h1,h2⟩:=GU (mc l) (ft l) [] (FL (fG l).1) List.Pairwise.nil (fun s hs=>by cases hs) (fun s hs=>by cases hs);refine⟨zL h1,fun s hs=>?_⟩;obtain⟨h3,h4⟩:=h2 s hs;rcases h3 with h3|h3
 ·cases h3
 ·exact⟨((fG l).2 s.1).1 h3 |>.2,h4⟩
theorem adv (l:List ((Int×Int)×Int)):(KG l).length<=1+2*l.length:=by
 have h1:=nu (mc l) (ft l);have h2:(ft l).length<=1+2*l.length:=by
  have ha:∀ (l:List ((Int×Int)×Int)) (p:List Int),(l.foldl (fun p c=>if aQ c.1 then ins c.1.2 (ins c.1.1 p)else p) p).length<=p.length+2*l.length:=by
   intro l
   induction l with
   |nil=>intro p;simp
   |cons c l ih =>
    intro p;rw[aqZ,aqv];have:=ih (if aQ c.1 then ins c.1.2 (ins c.1.1 p)else p);have h3:(if aQ c.1 then ins c.1.2 (ins c.1.1 p)else p).length<=p.length+2:=by
     split
     ·have q1:=Aq c.1.2 (ins c.1.1 p);have q2:=Aq c.1.1 p;omega
     ·omega
    omega
  have h4:=ha l [0];have h5:(ft l).length<=(Gy l).length:=by unfold ft;exact tX _ _
  have h6:Gy l=l.foldl (fun p c=>if aQ c.1 then ins c.1.2 (ins c.1.1 p)else p) [0]:=rfl;rw[h6]at h5;simp at h4;omega
 show(cQ (mc l) (ft l)).length<=_;omega
theorem xw (p:Int):∀ l:List ((Int×Int)×Int),(∀ c∈l,c.2=1)->0<=mX l p/\mX l p<=l.length
 |[],_=>by simp[mX]
 |c::l,h=>by
  have ih:=xw p l fun x hx=>h x (aqx _ hx)
  have hi:mX (c::l) p=(if aW c.1 p then c.2 else 0)+mX l p:=by simp[mX]
  have hc:=h c m5;rw[hi,aqv];split<;>omega
theorem oe {l:List ((Int×Int)×Int)}(p:Int)(h:∀ c∈l,c.2=1)(hn:l.length<=1000000):mc l p=mX l p:=by
 have:=xw p l h;rw[pm];unfold wrap64;omega
end Go.Proofs.YtlcceppoloaecaaGreatDoor.St
namespace Go.Proofs.YtlcceppoloaecaaGreatDoor
open _root_.List (replicate)
open Go.RowKit
def ones (ps:List ax):List yD:=ps.map fun p=>⟨p,1⟩
def bI (ps:List ax):List ax:=yu (vm (ones ps))
theorem q9 (ps:List ax):∀ c∈(ones ps).map toC,c.2=1:=by
 intro c hc;obtain⟨x,hx,rfl⟩:=aqJ.1 hc;obtain⟨p,_,rfl⟩:=aqJ.1 hx;rfl
theorem Oi (ps:List ax)(hn:ps.length<=300):N9 (vm (ones ps)):=by
 have hl:((ones ps).map toC).length=ps.length:=by simp[ones]
 obtain⟨h1,h2⟩:=St.Di ((ones ps).map toC);have h3:=St.adv ((ones ps).map toC);rw[hl]at h3;have e:(vm (ones ps)).map toS=St.KG ((ones ps).map toC):=by
  unfold vm;rw[List.map_map];have:(toS∘ofS)=id:=by funext x;rfl
  rw[this,List.map_id]
 refine⟨by unfold vm;rw[aqk];omega,by rw[e];exact h1,fun s hs=>?_,fun s hs=>?_⟩
 ·have:toS s∈St.KG ((ones ps).map toC):=by rw[<- e];exact List.mem_map_of_mem hs
  exact(h2 _ this).1
 ·have:toS s∈St.KG ((ones ps).map toC):=by rw[<- e];exact List.mem_map_of_mem hs
  have h4:=(h2 _ this).2;rw[St.oe _ (q9 ps) m0]at h4;have h5:=(St.xw (toS s).1 _ (q9 ps)).2;rw[hl]at h5;show(toS s).2<=600;omega
theorem Ol (ps:List ax):St.vk ((ones ps).map toC)=ps.flatMap fun p=>St.kj (toP p,1):=by
 unfold St.vk ones;rw[List.map_map,List.flatMap_map];rfl
theorem aaH {ps qs:List ax}(h:(ps.filter fun p=>St.aQ (toP p)).Perm (qs.filter fun p=>St.aQ (toP p))):bI ps=bI qs:=by
 have key:∀ l:List ax,(l.flatMap fun p=>St.kj (toP p,1))=(l.filter fun p=>St.aQ (toP p)).flatMap fun p=>St.kj (toP p,1):=by
  intro l
  induction l with
  |nil=>rfl
  |cons p l ih =>
   rw[aqM,ih,List.filter_cons];by_cases hp:St.aQ (toP p)=true
   ·rw[if_pos hp,aqM]
   ·have e:St.kj (toP p,1)=[]:=by unfold St.kj;rw[if_neg hp]
    rw[if_neg hp,e,aqd]
 have:vm (ones ps)=vm (ones qs):=by
  unfold vm;rw[St.ahs (A:=(ones ps).map toC) (B:=(ones qs).map toC)];rw[Ol,Ol,key ps,key qs];exact h.flatMap_right _
 unfold bI;rw[this]
theorem agA {x:Int×Int}{l:List (Int×Int)}(h1:St.DI l 1=[x])(h2:∀ j:Nat,St.DI l ((j:Int)+2)=[]):St.qG l=[x]:=by
 have:St.gq l=[x]:=by
  unfold St.gq;rw[show(600:Nat)=599+1 from rfl,List.range_succ_eq_map,aqM];rw[show St.DI l (((0:Nat):Int)+1)=[x]from h1];have:(List.map Nat.succ (List.range 599)).flatMap (fun j:Nat=>St.DI l ((j:Int)+1))=[]:=by
   rw[List.flatMap_eq_nil_iff];intro j hj;obtain⟨k,_,rfl⟩:=aqJ.1 hj;have:=h2 k;rw[show((k:Int)+2)=((Nat.succ k:Nat):Int)+1 by push_cast;omega]at this;exact this
  rw[this,aqI]
 unfold St.qG;rw[this];simp[St.gS]
theorem sa (p:Int×Int)(t:Int):St.mc [(p,1)] t=if St.aW p t then 1 else 0:=by
 rw[St.oe t m5 m5];simp[St.mX]
theorem afF (p:ax)(hp:St.aQ (toP p)=true):bI [p]=[p]:=by
 obtain⟨a,b⟩:=p;have hv:0<=a/\a<b/\b<=1099511627776:=by
  have h:St.aQ (a,b)=true:=hp;simp[St.aQ]at h;omega
 have hpts:St.ft [(((a,b):Int×Int),1)]=(if a=0 then [0]else [0,a])++(if b<1099511627776 then [b]else []):=by
  have e:St.Gy [(((a,b):Int×Int),1)]=St.ins b (St.ins a [0]):=by
   unfold St.Gy;simp only[aqZ,List.foldl_nil];rw[if_pos (show St.aQ (a,b)=true from hp)]
  unfold St.ft;rw[e];have hF:(0:Int)<1099511627776:=by decide
  by_cases h0:a=0
  ·subst h0
   rw[show St.ins 0 [0]=[0]by simp[St.ins],show St.ins b [0]=[0,b]by simp only[St.ins];rw[if_pos m0]];by_cases hb:b<1099511627776
   ·simp[List.takeWhile,hb]
   ·simp[List.takeWhile,hb]
  ·rw[show St.ins a [0]=[0,a]by simp only[St.ins];rw[if_pos m0],show St.ins b [0,a]=[0,a,b]by simp only[St.ins];rw[if_pos m0,if_pos m0]]
   have ha:a<1099511627776:=m0
   by_cases hb:b<1099511627776
   ·simp[List.takeWhile,hb,ha,h0]
   ·simp[List.takeWhile,hb,ha,h0]
 have hof:St.KG [(((a,b):Int×Int),1)]=(if a=0 then [(0,1)]else [(0,0),(a,1)])++(if b<1099511627776 then [(b,0)]else []):=by
  unfold St.KG;rw[hpts];have r0:St.mc [(((a,b):Int×Int),1)] 0=if a=0 then 1 else 0:=by
   rw[sa];unfold St.aW;have:St.aQ (a,b)=true:=hp;rw[this];by_cases h0:a=0
   ·subst h0;simp;omega
   ·have:¬ a<=0:=m0
    simp[h0,this]
  have ra:St.mc [(((a,b):Int×Int),1)] a=1:=by
   rw[sa];unfold St.aW;have:St.aQ (a,b)=true:=hp;rw[this];simp;omega
  have rb:St.mc [(((a,b):Int×Int),1)] b=0:=by
   rw[sa];unfold St.aW;have:St.aQ (a,b)=true:=hp;rw[this];simp
  by_cases h0:a=0
  ·rw[if_pos h0,if_pos h0]
   rw[if_pos h0]at r0;by_cases hb:b<1099511627776
   ·rw[if_pos hb,if_pos hb]
    simp[St.cQ,St.dB,r0,rb]
   ·rw[if_neg hb,if_neg hb]
    simp[St.cQ,St.dB,r0]
  ·rw[if_neg h0,if_neg h0]
   rw[if_neg h0]at r0;by_cases hb:b<1099511627776
   ·rw[if_pos hb,if_pos hb]
    simp[St.cQ,St.dB,r0,ra,rb]
   ·rw[if_neg hb,if_neg hb]
    simp[St.cQ,St.dB,r0,ra]
 have hl:St.qG (St.KG [(((a,b):Int×Int),1)])=[(a,b)]:=by
  rw[hof];refine agA ?_ fun j=>?_
  ·by_cases h0:a=0
   ·subst h0
    by_cases hb:b<1099511627776
    ·simp[hb,St.DI,St.kC,St.cE,St.eY]
    ·have:b=1099511627776:=m0
     simp[this,St.DI,St.kC,St.cE,St.eY]
   ·by_cases hb:b<1099511627776
    ·simp[hb,h0,St.DI,St.kC,St.cE,St.eY]
    ·have:b=1099511627776:=m0
     simp[this,h0,St.DI,St.kC,St.cE,St.eY]
  ·refine St.AK.2 fun s hs=>?_
   have:s.2=0\/s.2=1:=by
    rcases aqB.1 hs with hs|hs
    ·split at hs
     ·rw[aqP.1 hs];exact .inr rfl
     ·rcases aqp.1 hs with rfl|hs
      ·exact .inl rfl
      ·rw[aqP.1 hs];exact .inr rfl
    ·split at hs
     ·rw[aqP.1 hs];exact .inl rfl
     ·cases hs
   omega
 unfold bI yu vm ones;rw[List.map_map,show(toS∘ofS)=id from rfl,List.map_id];show((St.qG (St.KG [(((a,b):Int×Int),1)])).map ofP)=_;rw[hl];rfl
open Go.RowKit Go.MapKept
theorem cu {α β ρ:Type}{l:List α}{body:(List β×Int)->Option (Step (List β×Int) ρ)}(g:α->List β)(N:Nat)(h1:∀ (s:List β) (i:Nat) x,l[i]?=some x->s.length+(g x).length<=N->body (s,(i:Int))=some (.next (s++g x,((i+1:Nat):Int))))(h2:∀ s:List β,body (s,((l.length:Nat):Int))=some (.exit (s,((l.length:Nat):Int))))(hl:l.length<fuel)(s:List β)(hN:s.length+(l.flatMap g).length<=N) :
  ao body fuel (s,(0:Int))=some (.inl (s++l.flatMap g,((l.length:Nat):Int))):=by
 have key:∀ (n i:Nat) (s:List β),i<=l.length->l.length-i<n->s.length+((l.drop i).flatMap g).length<=N->ao body n (s,(i:Int))=some (.inl (s++(l.drop i).flatMap g,((l.length:Nat):Int))):=by
  intro n
  induction n with
  |zero=>intro i s _ h _;omega
  |succ n ih =>
   intro i s hi hn hs;rw[ao];by_cases hlt:i<l.length
   ·obtain⟨x,hx⟩:=gol_ hlt
    have e1:=(ap_.1 hx).2;rw[aqF hlt,e1,aqM]at hs ⊢;rw[aqg]at hs;rw[h1 s i x hx m0];show ao body n _=_;rw[ih (i+1) (s++g x) m0 m0 (by rw[aqg];omega),aqA]
   ·have:i=l.length:=m0
    subst this;rw[h2,aq4];simp
 have:=key fuel 0 s (aqu _) m0 (by simpa using hN);simpa using this
def qO (l:List (List Val)):Prop:=l.Pairwise fun a b=>bK a b<0
theorem xH:∀ {a b:List (List Val)},qO a->qO b->(∀ x,x∈a↔x∈b)->a=b
 |[],[],_,_,_=>rfl
 |[],y::b,_,_,h=>by have:=(h y).2 m5;cases this
 |x::a,[],_,_,h=>by have:=(h x).1 m5;cases this
 |x::a,y::b,ha,hb,h=>by
  have ha:=aq5.1 ha;have hb:=aq5.1 hb;have irr:∀ z,¬ bK z z<0:=fun z=>by rw[tCr_.refl];omega
  have hxy:x=y:=by
   rcases aqp.1 ((h x).1 m5)with e|e
   ·exact e
   ·rcases aqp.1 ((h y).2 m5)with e2|e2
    ·exact e2.symm
    ·exact absurd (tCr_.trans _ _ _ (ha.1 y e2) (hb.1 x e)) (irr x)
  subst hxy;rw[xH ha.2 hb.2 fun z=>?_];constructor
  ·intro hz
   rcases aqp.1 ((h z).1 (aqx _ hz))with rfl|e
   ·exact absurd (ha.1 z hz) (irr z)
   ·exact e
  ·intro hz
   rcases aqp.1 ((h z).2 (aqx _ hz))with rfl|e
   ·exact absurd (hb.1 z hz) (irr z)
   ·exact e
instance decRow (a b : List Val) : Decidable (a = b) := if h : bK a b = 0 then .isTrue (tCr_.zero _ _ h) else .isFalse fun e => h (by rw [e]; exact tCr_.refl _)
def bm (l:List ap)(r:List Val):List ax:=(l.filter fun f=>aq f.valid&&decide (f.row=r)).map (·.valid)
def dA (l:List ap)(R:List (List Val)):Prop:=qO R /\ ∀ x,x∈R ↔ ∃ f∈l,aq f.valid=true/\f.row=x
def dw (l:List ap)(R:List (List Val)):List ap:=R.flatMap fun r=>(bI (bm l r)).map fun p=>⟨r,p⟩
theorem dA.ext {l:List ap}{R S:List (List Val)}(h:dA l R)(k:dA l S):R=S:=xH h.1 k.1 fun x=>(h.2 x).trans (k.2 x).symm
theorem lO (l:List ap)(f:ap)(r:List Val):bm (l++[f]) r=bm l r++(if aq f.valid&&decide (f.row=r)then [f.valid]else []):=by
 unfold bm;rw[List.filter_append,aql];congr 1;by_cases h:(aq f.valid&&decide (f.row=r))=true
 ·simp[h]
 ·simp[h]
theorem BN {s:ByteArray}:∀ {G:List bA} {i:Nat},d_ s G=some i ->∃ g,G[i]?=some g/\cH g.f.row=s
 |[],_,h=>by simp[d_]at h
 |g::r,i,h=>by
  unfold d_ at h;split at h
  ·rename_i e;injection h with h;subst h;exact⟨g,rfl,e.symm⟩
  ·cases hr:d_ s r with
   |none=>rw[hr]at h;cases h
   |some j =>
    rw[hr]at h;injection h with h;subst h
    obtain⟨g',h1,h2⟩:=BN hr;exact⟨g',by simpa using h1,h2⟩
theorem CZ {s:ByteArray}:∀ {G:List bA},d_ s G=none ->∀ g∈G,cH g.f.row≠s
 |[],_,g,hg=>by cases hg
 |x::r,h,g,hg=>by
  unfold d_ at h;split at h
  ·cases h
  ·rename_i e
   cases hr:d_ s r with
   |none =>
    rcases aqp.1 hg with rfl|hg
    ·exact fun q=>e q.symm
    ·exact CZ hr g hg
   |some j=>rw[hr]at h;cases h
structure GInv (l:List ap)(G:List bA):Prop where
 nd:G.Pairwise fun g h=>g.f.row≠h.f.row
 ps:∀ g∈G,g.ps=bm l g.f.row
 mem:∀ g∈G,∃ f∈l,aq f.valid=true/\f.row=g.f.row
 all:∀ f∈l,aq f.valid=true ->∃ g∈G,g.f.row=f.row
theorem GInv.step {l:List ap}{G:List bA}(h:GInv l G)(f:ap):GInv (l++[f]) (fp G f):=by
 unfold fp
 cases hv:aq f.valid with
 |false =>
  rw[ap'];refine⟨h.nd,fun g hg=>?_,fun g hg=>?_,fun f' hf' hv'=>?_⟩
  ·rw[lO,hv];simpa using h.ps g hg
  ·obtain⟨f',h1,h2⟩:=h.mem g hg;exact⟨f',List.mem_append_left _ h1,h2⟩
  ·rcases aqB.1 hf' with hf'|hf'
   ·exact h.all f' hf' hv'
   ·rw[aqP.1 hf']at hv';rw[hv]at hv';cases hv'
 |true =>
  rw[aqa]
  cases hf:d_ (cH f.row) G with
  |none =>
   have hne:∀ g∈G,g.f.row≠f.row:=fun g hg e=>CZ hf g hg (by rw[e])
   have hemp:bm l f.row=[]:=by
    unfold bm;rw[List.map_eq_nil_iff,List.filter_eq_nil_iff];intro f' hf' hc;rw[aqr]at hc;obtain⟨g,hg,e⟩:=h.all f' hf' hc.1;exact hne g hg (e.trans (aqC hc.2))
   refine⟨List.pairwise_append.2 ⟨h.nd,List.pairwise_singleton _ _,fun g hg g' hg'=>by rw[aqP.1 hg'];exact hne g hg⟩,fun g hg=>?_,fun g hg=>?_,fun f' hf' hv'=>?_⟩
   ·rcases aqB.1 hg with hg|hg
    ·rw[lO,hv,show decide (f.row=g.f.row)=false from aqb fun e=>hne g hg e.symm]
     simpa using h.ps g hg
    ·rw[aqP.1 hg,lO,hv,hemp];simp
   ·rcases aqB.1 hg with hg|hg
    ·obtain⟨f',h1,h2⟩:=h.mem g hg;exact⟨f',List.mem_append_left _ h1,h2⟩
    ·rw[aqP.1 hg];exact⟨f,m5,hv,rfl⟩
   ·rcases aqB.1 hf' with hf'|hf'
    ·obtain⟨g,hg,e⟩:=h.all f' hf' hv';exact⟨g,List.mem_append_left _ hg,e⟩
    ·rw[aqP.1 hf'];exact⟨⟨f,[f.valid]⟩,m5,rfl⟩
  |some i =>
   obtain⟨g0,hg0,hk⟩:=BN hf;have hrow:g0.f.row=f.row:=key_inj hk;dsimp only;rw[hg0];dsimp only;have hil:=(ap_.1 hg0).1;have hmap:(G.set i ⟨g0.f,g0.ps++[f.valid]⟩).map (·.f.row)=G.map (·.f.row):=by
    rw[List.map_set];refine List.ext_getElem? fun j=>?_
    rw[List.getElem?_set];split
    ·rename_i e;subst e
     rw[aqk,if_pos hil,aqw,hg0];rfl
    ·rfl
   have hnd:(G.set i ⟨g0.f,g0.ps++[f.valid]⟩).Pairwise fun g h=>g.f.row≠h.f.row:=by
    have h1:(G.map (·.f.row)).Pairwise (· ≠ ·):=List.pairwise_map.2 h.nd;rw[<- hmap]at h1;exact List.pairwise_map.1 h1
   have hmemG:∀ g∈G.set i ⟨g0.f,g0.ps++[f.valid]⟩,(g∈G/\g.f.row≠f.row)\/g=⟨g0.f,g0.ps++[f.valid]⟩:=by
    intro g hg;obtain⟨j,hj⟩:=List.getElem?_of_mem hg;rw[List.getElem?_set]at hj;split at hj
    ·rename_i e
     injection hj with hj
     exact .inr hj.symm
    ·rename_i e
     refine .inl ⟨aqe hj,fun q=>?_⟩;have hjl:=(ap_.1 hj).1;have e1:=(ap_.1 hj).2;have e2:=(ap_.1 hg0).2;rcases Nat.lt_or_gt_of_ne e with hlt|hlt
     ·have:=List.pairwise_iff_getElem.1 h.nd i j hil hjl hlt
      rw[e1,e2]at this;exact this (hrow.trans q.symm)
     ·have:=List.pairwise_iff_getElem.1 h.nd j i hjl hil hlt
      rw[e1,e2]at this;exact this (q.trans hrow.symm)
   have hg0m:=aqe hg0;refine⟨hnd,fun g hg=>?_,fun g hg=>?_,fun f' hf' hv'=>?_⟩
   ·rcases hmemG g hg with⟨hg,hne⟩|rfl
    ·rw[lO,hv,show decide (f.row=g.f.row)=false from aqb fun e=>hne e.symm]
     simpa using h.ps g hg
    ·show g0.ps++[f.valid]=bm (l++[f]) g0.f.row
     rw[lO,hv,show decide (f.row=g0.f.row)=true from aqc hrow.symm,<- h.ps g0 hg0m];rfl
   ·rcases hmemG g hg with⟨hg,_⟩|rfl
    ·obtain⟨f',h1,h2⟩:=h.mem g hg;exact⟨f',List.mem_append_left _ h1,h2⟩
    ·exact⟨f,m5,hv,hrow.symm⟩
   ·have hex:∃ g∈G,g.f.row=f'.row:=by
     rcases aqB.1 hf' with hf'|hf'
     ·exact h.all f' hf' hv'
     ·rw[aqP.1 hf'];exact⟨g0,hg0m,hrow⟩
    obtain⟨g,hg,e⟩:=hex;have:g.f.row∈(G.set i ⟨g0.f,g0.ps++[f.valid]⟩).map (·.f.row):=by rw[hmap];exact List.mem_map_of_mem hg
    obtain⟨g',hg',e'⟩:=aqJ.1 this;exact⟨g',hg',e'.trans e⟩
theorem aaE (l:List ap):GInv l (df l):=by
 have:∀ (l l0:List ap) (G:List bA),GInv l0 G->GInv (l0++l) (l.foldl fp G):=by
  intro l
  induction l with
  |nil=>intro l0 G h;simpa using h
  |cons f l ih =>
   intro l0 G h;have:=ih (l0++[f]) _ (h.step f);rw[aqA]at this;exact this
 have:=this l [] [] ⟨List.Pairwise.nil,fun g hg=>(by cases hg),fun g hg=>(by cases hg),fun f hf=>(by cases hf)⟩;simpa[df]using this
theorem tP (a b d:List Val)(h1:bK a b<=0)(h2:bK b d<=0):bK a d<=0:=by
 rcases Int.lt_or_eq_of_le h1 with h1|h1
 ·rcases Int.lt_or_eq_of_le h2 with h2|h2
  ·exact Int.le_of_lt (tCr_.trans _ _ _ h1 h2)
  ·rw[<- tCr_.zero _ _ h2];exact Int.le_of_lt h1
 ·rw[tCr_.zero _ _ h1];exact h2
theorem ahB (a b:List Val)(h:¬ bK a b<0):bK b a<=0:=by
 have:=(tCr_.anti a b);omega
theorem Dw (l:List ap):∃ R,dA l R/\lR l=R.map fun r=>⟨r,bm l r⟩:=by
 have hi:=aaE l;have hp:=oY fr ((df l).map fun g=>(⟨g.f.row,g.ps⟩:ac));have ha:=Gm (c:=fr) (fun a b d=>tP a.row b.row d.row) (fun a b=>ahB a.row b.row) ((df l).map fun g=>(⟨g.f.row,g.ps⟩:ac));have hn:(lR l).Pairwise fun a b=>a.row≠b.row:=by
  have h1:((df l).map fun g=>(⟨g.f.row,g.ps⟩:ac)).Pairwise fun a b=>a.row≠b.row:=List.pairwise_map.2 hi.nd
  exact(List.Perm.pairwise_iff (fun {a b} h=>Ne.symm h) hp).2 h1
 have hmem:∀ s∈lR l,s.periods=bm l s.row /\ ∃ f∈l,aq f.valid=true/\f.row=s.row:=by
  intro s hs;obtain⟨g,hg,rfl⟩:=aqJ.1 (hp.mem_iff.1 hs);exact⟨hi.ps g hg,hi.mem g hg⟩
 refine⟨(lR l).map (·.row),⟨?_,fun x=>?_⟩,?_⟩
 ·refine List.pairwise_map.2 ?_
  refine(List.Pairwise.and ha hn).imp ?_;rintro a b ⟨h1,h2⟩;rcases Int.lt_or_eq_of_le h1 with h|h
  ·exact h
  ·exact absurd (tCr_.zero _ _ h) h2
 ·constructor
  ·intro hx
   obtain⟨s,hs,rfl⟩:=aqJ.1 hx;exact(hmem s hs).2
  ·rintro⟨f,hf,hv,rfl⟩
   obtain⟨g,hg,e⟩:=hi.all f hf hv;exact aqJ.2 ⟨⟨g.f.row,g.ps⟩,hp.mem_iff.2 (aqJ.2 ⟨g,hg,rfl⟩),e⟩
 ·rw[List.map_map]
  refine(List.map_id (lR l)).symm.trans (List.map_congr_left fun s hs=>?_);have:=(hmem s hs).1;obtain⟨r,ps⟩:=s;show(⟨r,ps⟩:ac)=⟨r,bm l r⟩;rw[<- this]
theorem fo_ {α β:Type}(f:α->β):∀ l:List α,(l.flatMap fun x=>[f x])=l.map f
 |[]=>rfl
 |x::l=>by rw[aqM,fo_ f l];rfl
theorem Nn (ps:List ax)(hn:ps.length<=100000):ri ps=some (vm (ones ps)):=by
 unfold ri;rw[cu (l:=ps) (fun p=>[(⟨p,1⟩:yD)]) 5864062014805 ?_ ?_ (by unfold fuel;omega) [] (by rw[fo_];simp;omega)]
 ·rw[ap9,fo_,aqd]
  show(agN (ones ps)).bind _=_;unfold agN;rw[show decide ((ones ps).length<=100000)=true from aqc (by simpa[ones]using hn)];rfl
 ·intro s i x hx hs
  have hi:=(ap_.1 hx).1;unfold mo;dsimp only;rw[aO hx,aqa,gn_ hx];simp only[ap9];rw[show decide (s.length+1<=5864062014805)=true from aqc (by simpa using hs),aqa,wrapN m0]
 ·intro s
  unfold mo;dsimp only;rw[lF_,ap']
theorem Gq (ps:List ax):(bI ps).length<=600*(1+2*ps.length):=by
 unfold bI yu;rw[aqk,(St.yF _).2.length_eq];have h1:=St.GI ((vm (ones ps)).map toS) 600;have h2:St.gq ((vm (ones ps)).map toS)=St.nr ((vm (ones ps)).map toS) 600:=rfl;rw[h2];have h3:((vm (ones ps)).map toS).length<=1+2*ps.length:=by
  rw[aqk];unfold vm;rw[aqk];have:=St.adv ((ones ps).map toC);simpa[ones]using this
 exact Nat.le_trans h1 (Nat.mul_le_mul_left _ h3)
theorem ais (ps:List ax)(hn:ps.length<=300)(hv:∀ p∈ps,aq p=true):LH ps=some (bI ps):=by
 unfold LH;by_cases h1:ps.length=1
 ·rw[show decide (((ps.length:Nat):Int)=1)=true from aqc m0,aqa]
  match ps,h1 with
  |[p],_=>rw[afF p (hv p m5)]
 ·rw[show decide (((ps.length:Nat):Int)=1)=false from aqb m0,ap',Nn ps m0,ap9]
  unfold acZ;rw[if_pos (Oi ps hn)];rfl
theorem HY (l:List ap)(r:List Val):(bm l r).length<=l.length:=by unfold bm;rw[aqk];exact List.length_filter_le _ _
theorem yW (l:List ap)(r:List Val):∀ p∈bm l r,aq p=true:=by
 intro p hp;obtain⟨f,hf,rfl⟩:=aqJ.1 hp;have:=(List.mem_filter.1 hf).2;rw[aqr]at this;exact this.1
def FA (s:ac):List ap:=(bI s.periods).map fun p=>⟨s.row,p⟩
theorem acY (l:List ap)(h:bz l):∃ R,dA l R/\pi l=some (dw l R):=by
 obtain⟨R,hR,hr⟩:=Dw l;refine⟨R,hR,?_⟩;have hmem:∀ s∈lR l,s.periods.length<=300/\(∀ p∈s.periods,aq p=true)/\s.row.length<=1000:=by
  intro s hs;rw[hr]at hs;obtain⟨r,hrR,rfl⟩:=aqJ.1 hs;obtain⟨f,hf,_,e⟩:=(hR.2 r).1 hrR;refine⟨Nat.le_trans (HY l r) h.1,yW l r,?_⟩;show r.length<=1000;rw[<- e];exact(h.2 f hf).1
 have hlen:(lR l).length<=300:=by
  have h1:=(oY fr ((df l).map fun g=>(⟨g.f.row,g.ps⟩:ac))).length_eq;have h2:=uB l;have h3:=h.1;show(lH fr _).length<=300;rw[h1,aqk];omega
 have hg:∀ s∈lR l,(FA s).length<=360600:=by
  intro s hs;unfold FA;rw[aqk];have h1:=Gq s.periods;have h2:=(hmem s hs).1;omega
 have htot:((lR l).flatMap FA).length<=300*360600:=by
  have:∀ (L:List ac),(∀ s∈L,(FA s).length<=360600)->(L.flatMap FA).length<=L.length*360600:=by
   intro L
   induction L with
   |nil=>intro _;simp
   |cons s L ih =>
    intro hL;have h1:=ih fun x hx=>hL x (aqx _ hx)
    have h2:=hL s m5;rw[aqM,aqg,aqv];omega
  exact Nat.le_trans (this _ hg) (aqL _ hlen)
 have hb:dw l R=(lR l).flatMap FA:=by
  rw[hr,List.flatMap_map];rfl
 unfold pi xR;have e1:wA l=some (lR l):=by unfold wA;rw[if_pos h]
 rw[e1,ap9];generalize lR l=X at hmem hlen hg htot hb ⊢;rw[cu (l:=X) FA 3518437208883 ?_ ?_ (by unfold fuel;omega) [] (by simp only[aqE];omega)]
 ·simp only[ap9,kK,aqd,hb]
 ·intro s i x hx hs
  have hi:=(ap_.1 hx).1;obtain⟨m1,m2,m3⟩:=hmem x (aqe hx);unfold nR;dsimp only;rw[aO hx,aqa,gn_ hx];simp only[ap9];rw[ais x.periods m0 m2,ap9];have hgl:(FA x).length=(bI x.periods).length:=by unfold FA;rw[aqk]
  have hgx:=hg x (aqe hx);rw[cu (l:=bI x.periods) (fun p=>[(⟨x.row,p⟩:ap)]) 3518437208883 ?_ ?_ (by unfold fuel;omega) s (by rw[fo_,aqk];omega)]
  ·rw[ap9,fo_]
   show some (Step.next (s++FA x,_))=_;rw[wrapN m0]
  ·intro s' j y hy hs'
   have hj:=(ap_.1 hy).1;unfold oh;dsimp only;rw[aO hy,aqa,gn_ hy];simp only[ap9];rw[show decide (x.row.length<=4398046511104)=true from aqc m0,aqa,show decide (s'.length+1<=3518437208883)=true from aqc (by simpa using hs'),aqa,wrapN m0]
  ·intro s'
   unfold oh;dsimp only;rw[lF_,ap']
 ·intro s
  unfold nR;dsimp only;rw[lF_,ap']
set_option maxRecDepth 100000
def abb (l:List ap):Prop:=l.Pairwise fun a b=>bK a.row b.row<=0
def leF (x y:ap):Bool:=tM x.row y.row
theorem my (x y:ap):leF x y=true↔bK x.row y.row<=0:=kE x.row y.row
theorem kG {a b:List ap}(ha:a.length<=1000000)(hb:b.length<=1000000)(hra:∀ r∈a,r.row.length<=1000000)(hrb:∀ r∈b,r.row.length<=1000000):∀ (n i k:Nat) (out:List ap),i<=a.length->k<=b.length->out.length=i+k->(a.length-i)+(b.length-k)<n->(ao (cJ a b) n (out,(i:Int),(k:Int))).bind wa=some (out++List.merge (a.drop i) (b.drop k) leF)
 |0,_,_,_,_,_,_,h=>by omega
 |n+1,i,k,out,h1,h2,ho,hn=>by
  have hg:decide (out.length+1<=3518437208883)=true:=aqc m0;rw[ao];by_cases hlt:i<a.length
  ·obtain⟨x,hx⟩:=gol_ hlt
   have ex:=(ap_.1 hx).2;have hne:decide ((i:Int)=((a.length:Nat):Int))=false:=aqb m0;have ihA:=kG ha hb hra hrb n (i+1) k (out++[x]) m0 m0 m8 m0;by_cases hlb:k<b.length
   ·obtain⟨y,hy⟩:=gol_ hlb
    have ey:=(ap_.1 hy).2;have ihB:=kG ha hb hra hrb n i (k+1) (out++[y]) m0 m0 m8 m0;have eb:cJ a b (out,(i:Int),(k:Int))=bif decide (bK y.row x.row<0)then some (.next (out++[y],(i:Int),((k+1:Nat):Int)))else some (.next (out++[x],((i+1:Nat):Int),(k:Int))):=by
     unfold cJ;dsimp only;rw[aO hx,aqa,hne,ap',aO hy,aqa,gn_ hy,gn_ hx];simp only[ap9];rw[jJ y.row x.row (by have:=hrb y (aqe hy);omega) (by have:=hra x (aqe hx);omega),wrapN m0,wrapN m0,hg];rfl
    rw[eb,aqF hlt,aqF hlb,ex,ey,List.cons_merge_cons];rw[aqF hlb,ey]at ihA;rw[aqF hlt,ex]at ihB;by_cases hc:bK y.row x.row<0
    ·rw[show decide (bK y.row x.row<0)=true from aqc hc,aqa,if_neg (by unfold leF tM;simp[hc])]
     dsimp only;rw[ihB];simp
    ·rw[show decide (bK y.row x.row<0)=false from aqb hc,ap',if_pos (by unfold leF tM;simp[hc])]
     dsimp only;rw[ihA];simp
   ·have hk:k=b.length:=m0
    have eb:cJ a b (out,(i:Int),(k:Int))=some (.next (out++[x],((i+1:Nat):Int),(k:Int))):=by
     unfold cJ;dsimp only;rw[aO hx,aqa,hne,ap',hk,lF_,ap',gn_ hx];simp only[ap9];rw[wrapN m0,hg];rfl
    rw[eb];dsimp only;rw[ihA,aqF hlt,ex,hk,aq4,List.merge_right,List.merge_right];simp
  ·have hi:i=a.length:=m0
   subst hi;by_cases hlb:k<b.length
   ·obtain⟨y,hy⟩:=gol_ hlb
    have ey:=(ap_.1 hy).2;have ihB:=kG ha hb hra hrb n a.length (k+1) (out++[y]) m0 m0 m8 m0;have eb:cJ a b (out,((a.length:Nat):Int),(k:Int))=some (.next (out++[y],((a.length:Nat):Int),((k+1:Nat):Int))):=by
     unfold cJ;dsimp only;rw[lF_,ap',aO hy,aqa,show decide (((a.length:Nat):Int)=((a.length:Nat):Int))=true from aqc rfl,aqa,gn_ hy];simp only[ap9];rw[wrapN m0,hg];rfl
    rw[eb];dsimp only;rw[ihB,aqF hlb,ey,aq4,List.nil_merge,List.nil_merge];simp
   ·have hk:k=b.length:=m0
    subst hk;have eb:cJ a b (out,((a.length:Nat):Int),((b.length:Nat):Int))=some (.exit (out,((a.length:Nat):Int),((b.length:Nat):Int))):=by
     unfold cJ;dsimp only;rw[lF_,ap',lF_,ap']
    rw[eb,aq4,aq4,List.nil_merge,aqI];rfl
theorem Jc {a b:List ap}(ha:a.length<=1000000)(hb:b.length<=1000000)(hra:∀ r∈a,r.row.length<=1000000)(hrb:∀ r∈b,r.row.length<=1000000):n8 a b=some (List.merge a b leF):=by
 unfold n8;have:=kG ha hb hra hrb fuel 0 0 [] (aqu _) (aqu _) rfl (by unfold fuel;omega);rw[show(((0:Nat):Int))=0 from rfl]at this;rw[this];simp
theorem abk {a b:List ap}(ha:abb a)(hb:abb b):abb (List.merge a b leF):=by
 have:=List.pairwise_merge (le:=leF) (fun x y z h1 h2=>(my x z).2 (tP _ _ _ ((my x y).1 h1) ((my y z).1 h2))) (fun x y=>by
  rw[Bool.or_eq_true,my,my];exact tCr_.total x.row y.row) a b (ha.imp fun h=>(my _ _).2 h) (hb.imp fun h=>(my _ _).2 h)
 exact this.imp fun h=>(my _ _).1 h
theorem K3:∀ (n:Nat) (l:List ap),l.length<=n->l.length<=1000000->(∀ r∈l,r.row.length<=1000000) ->∃ r,qL (n+1) l=some r/\abb r/\r.Perm l:=by
 intro n
 induction n with
 |zero =>
  intro l h _ _;have:l=[]:=by cases l with|nil=>rfl|cons _ _=>simp at h
  subst this;exact⟨[],rfl,List.Pairwise.nil,List.Perm.refl _⟩
 |succ n ih =>
  intro l h hl hr
  match l,h,hl,hr with
  |[],_,_,_=>exact⟨[],rfl,List.Pairwise.nil,List.Perm.refl _⟩
  |[x],_,_,hr=>exact⟨[x],rfl,by simp[abb],List.Perm.refl _⟩
  |x::y::t,h,hl,hr =>
   generalize hL:x::y::t=l at h hl hr;have h2:2<=l.length:=by rw[<- hL];simp
   have hm:IntKind.i64.wrap (((l.length:Nat):Int).tdiv (2:Int))=((l.length/2:Nat):Int):=by
    rw[show((l.length:Nat):Int).tdiv 2=((l.length/2:Nat):Int)from rfl];exact a7 m0 m0
   have s1:ga l 0 ((l.length/2:Nat):Int)=some (l.take (l.length/2)):=by
    unfold ga;rw[if_pos m0,Int.toNat_natCast];rfl
   have s2:ga l ((l.length/2:Nat):Int) ((l.length:Nat):Int)=some (l.drop (l.length/2)):=by
    unfold ga;rw[if_pos m0,Int.toNat_natCast,Int.toNat_natCast,List.take_length]
   obtain⟨r1,e1,a1,p1⟩:=ih (l.take (l.length/2)) m8 m8 fun r hr'=>hr r (aq6 hr')
   obtain⟨r2,e2,a2,p2⟩:=ih (l.drop (l.length/2)) m8 m8 fun r hr'=>hr r (List.mem_of_mem_drop hr')
   refine⟨List.merge r1 r2 leF,?_,abk a1 a2,?_⟩
   ·show nG (qL (n+1)) l=_
    unfold nG;rw[show decide (((l.length:Nat):Int)<2)=false from aqb m0,ap',show decide ((2:Int)≠0)=true from rfl,aqa,hm,s1];simp only[ap9];rw[e1,ap9,s2,ap9,e2,ap9];rw[Jc (by rw[p1.length_eq];simp;omega) (by rw[p2.length_eq];simp;omega) (fun r hr'=>hr r (aq6 (p1.mem_iff.1 hr'))) (fun r hr'=>hr r (List.mem_of_mem_drop (p2.mem_iff.1 hr')))];rfl
   ·refine(List.merge_perm_append leF).trans ((p1.append p2).trans ?_)
    rw[aqU]
theorem l8 (p:ax):dh p=some (aq p):=by
 unfold dh aq
 cases h1:decide (0<=p.lo)<;>cases h2:decide (p.lo<p.hi)<;>cases h3:decide (p.hi<=1099511627776)<;>simp_all
theorem Jk (x:List Val)(h:x.length<=1000000):iB x x=some true:=by
 unfold iB;rw[jJ x x m0 m0,ap9,tCr_.refl];rfl
theorem Bv (r:List Val)(hr:r.length<=1000000)(k:Nat)(hk:k<=300):jn (replicate k r)=some (if k=0 then []else [r]):=by
 unfold jn;have hp:=cY (replicate k r);have hs:gf (replicate k r)=replicate k r:=by
  refine List.eq_replicate_iff.2 ⟨by rw[hp.length_eq];simp,fun b hb=>?_⟩;exact(List.mem_replicate.1 (hp.mem_iff.1 hb)).2
 rw[x9 _ (by simpa using hk) (fun x hx=>by rw[(List.mem_replicate.1 hx).2];exact hr),ap9,hs];have hlen:(replicate k r).length=k:=by simp
 have get:∀ i,i<k->(replicate k r)[i]?=some r:=fun i hi=>by rw[List.getElem?_replicate];simp[hi]
 have loop:∀ (n i:Nat),1<=i->i<=k->k-i<n->ao (bR (replicate k r)) n ([r],(i:Int))=some (.inl ([r],(k:Int))):=by
  intro n
  induction n with
  |zero=>intro i _ _ h;omega
  |succ n ih =>
   intro i h1 h2 hn;rw[ao];by_cases hlt:i<k
   ·have hx:=get i hlt
    have e:bR (replicate k r) ([r],(i:Int))=some (.next ([r],((i+1:Nat):Int))):=by
     unfold bR;dsimp only;rw[aO hx,aqa,show decide ((i:Int)=0)=false from aqb m0,ap',show IntKind.i64.wrap ((i:Int)-1)=((i-1:Nat):Int)from a7 m0 m0,gn_ (get (i-1) m0),gn_ hx];simp only[ap9];rw[Jk r hr];simp only[ap9,Bool.not_true,ap'];rw[wrapN m0]
    rw[e];exact ih (i+1) m0 m0 m0
   ·have:i=k:=m0
    subst this;have e:bR (replicate i r) ([r],(i:Int))=some (.exit ([r],(i:Int))):=by
     unfold bR;dsimp only;rw[show decide ((i:Int)<(((replicate i r).length:Nat):Int))=false from aqb m5,ap']
    rw[e]
 by_cases h0:k=0
 ·subst h0
  rw[if_pos rfl];have e:bR (replicate 0 r) ([],0)=some (.exit ([],0)):=by
   unfold bR;rfl
  show(ao (bR (replicate 0 r)) (4611686018427387903+1) ([],0)).bind nj=_;rw[ao,e];rfl
 ·rw[if_neg h0]
  have hx:=get 0 m0;have e:bR (replicate k r) ([],0)=some (.next ([r],((1:Nat):Int))):=by
   have hg:=gn_ hx;unfold bR;dsimp only;rw[show decide ((0:Int)<(((replicate k r).length:Nat):Int))=true from aqc m8,aqa,show decide ((0:Int)=0)=true from rfl,aqa];rw[show aF (replicate k r) 0=some r from hg];rfl
  show(ao (bR (replicate k r)) (4611686018427387903+1) ([],0)).bind nj=_;rw[ao,e];dsimp only;rw[loop 4611686018427387903 1 m0 m0 m0];rfl
theorem MU (s:List ap)(r:List Val)(hr:r.length<=1000000)(hs:∀ f∈s,f.row=r)(hn:s.length<=300):vz s=some (if s.any fun f=>aq f.valid then [r]else []):=by
 unfold vz;have hfm:∀ l:List ap,(∀ f∈l,f.row=r)->(l.flatMap fun f=>if aq f.valid then [f.row]else [])=replicate (l.countP fun f=>aq f.valid) r:=by
  intro l
  induction l with
  |nil=>intro _;rfl
  |cons f l ih =>
   intro h;rw[aqM,ih fun x hx=>h x (aqx _ hx),List.countP_cons,h f m5];by_cases hv:aq f.valid=true
   ·rw[if_pos hv,if_pos hv,List.replicate_succ];rfl
   ·rw[if_neg hv,if_neg hv];rfl
 have hc:s.countP (fun f=>aq f.valid)<=s.length:=List.countP_le_length;rw[cu (l:=s) (fun f=>if aq f.valid then [f.row]else []) 5864062014805 ?_ ?_ (by unfold fuel;omega) [] (by rw[hfm s hs];simp;omega)]
 ·rw[ap9,hfm s hs,aqd]
  show(jn _).bind _=_;rw[Bv r hr _ m0,ap9];by_cases ha:(s.any fun f=>aq f.valid)=true
  ·rw[if_pos ha,if_neg]
   intro e;obtain⟨f,hf,hv⟩:=List.any_eq_true.1 ha;have:=(List.countP_pos_iff (p:=fun f:ap=>aq f.valid)).2 ⟨f,hf,hv⟩;omega
  ·rw[if_neg ha,if_pos]
   rw[List.countP_eq_zero];intro f hf hv;exact ha (List.any_eq_true.2 ⟨f,hf,hv⟩)
 ·intro o i x hx ho
  have hi:=(ap_.1 hx).1;unfold uU;dsimp only;rw[aO hx,aqa,gn_ hx];simp only[ap9];rw[l8,ap9];by_cases hv:aq x.valid=true
  ·rw[if_pos hv]at ho ⊢
   rw[hv,aqa,show decide (o.length+1<=5864062014805)=true from aqc (by simpa using ho),aqa,wrapN m0]
  ·rw[if_neg hv]
   rw[Bool.not_eq_true]at hv;rw[hv,ap',wrapN m0,aqI]
 ·intro o
  unfold uU;dsimp only;rw[lF_,ap']
def di (l:List ap)(r:List Val):List ax:=(l.filter fun f=>decide (f.row=r)).map (·.valid)
theorem JG (s:List ap)(r:List Val)(hr:r.length<=1000000)(hs:∀ f∈s,f.row.length<=1000000)(hn:s.length<=1000):nY s r=some (vm (ones (di s r))):=by
 unfold nY;have hfm:∀ l:List ap,(l.flatMap fun f=>if f.row=r then [(⟨f.valid,1⟩:yD)]else [])=ones (di l r):=by
  intro l
  induction l with
  |nil=>rfl
  |cons f l ih =>
   rw[aqM,ih];unfold di ones;by_cases e:f.row=r
   ·rw[if_pos e,List.filter_cons_of_pos (by simpa using e)];rfl
   ·rw[if_neg e,List.filter_cons_of_neg (by simpa using e)];rfl
 have hl:(di s r).length<=s.length:=by unfold di;rw[aqk];exact List.length_filter_le _ _
 have hl2:(ones (di s r)).length=(di s r).length:=by unfold ones;simp
 rw[cu (l:=s) (fun f=>if f.row=r then [(⟨f.valid,1⟩:yD)]else []) 5864062014805 ?_ ?_ (by unfold fuel;omega) [] (by rw[hfm];simp;omega)]
 ·rw[ap9,hfm,aqd]
  show(agL _).bind _=_;unfold agL;rw[show decide ((ones (di s r)).length<=100000)=true from aqc m0];rfl
 ·intro o i x hx ho
  have hi:=(ap_.1 hx).1;unfold kB;dsimp only;rw[aO hx,aqa,gn_ hx];simp only[ap9];rw[jJ x.row r (by have:=hs x (aqe hx);omega) m0,ap9];by_cases e:x.row=r
  ·rw[if_pos e]at ho ⊢
   rw[show decide (bK x.row r=0)=true from aqc (by rw[e];exact tCr_.refl r),aqa,show decide (o.length+1<=5864062014805)=true from aqc (by simpa using ho),aqa,wrapN m0]
  ·rw[if_neg e,show decide (bK x.row r=0)=false from aqb fun q=>e (tCr_.zero _ _ q),ap',wrapN m0,aqI]
 ·intro o
  unfold kB;dsimp only;rw[lF_,ap']
theorem uh (r:List Val)(ps:List ax)(hn:ps.length<=1000000):kH r ps=some (ps.map fun p=>⟨r,p⟩):=by
 unfold kH;rw[cu (l:=ps) (fun p=>[(⟨r,p⟩:ap)]) 3518437208883 ?_ ?_ (by unfold fuel;omega) [] (by rw[fo_];simp;omega)]
 ·rw[ap9,fo_,aqd];rfl
 ·intro o i x hx ho
  have hi:=(ap_.1 hx).1;unfold uW;dsimp only;rw[aO hx,aqa,gn_ hx];simp only[ap9];rw[show decide (o.length+1<=3518437208883)=true from aqc (by simpa using ho),aqa,wrapN m0]
 ·intro o
  unfold uW;dsimp only;rw[lF_,ap']
