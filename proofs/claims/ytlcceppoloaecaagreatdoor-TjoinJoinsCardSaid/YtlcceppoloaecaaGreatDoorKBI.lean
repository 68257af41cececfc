/- Parts. No condition. -/
import Derived.Test.YtlcceppoloaecaaGreatDoorKBF
import Derived.Test.YtlcceppoloaecaaGreatDoorKBG
import Derived.Test.YtlcceppoloaecaaGreatDoorKBH
set_option maxHeartbeats 8000000
set_option maxRecDepth 100000
set_option linter.unusedSimpArgs false
set_option linter.unusedVariables false
namespace Go.Proofs.YtlcceppoloaecaaGreatDoor
open IntKind (i64)
open Go.RowKit Go.MapKept
theorem aaa {rec:Nat->List ac->Int->Int->Int->(ac->ac->Option Int)->Option (List ac)}{n:Nat}  (Pm:∀ {n:Nat} {X:List ac} {a m b:Int} {cmp:ac->ac->Option Int} {v:Nat} {zr:FuncId} {zc:List AC} (zj:∀ (y0:ac) (y1:ac) (r:Int),cmp y0 y1=some r->PTz zr ([.agg (af y0),.agg (af y1)]++zc.map .one) (.val (.one (.int .i64 r)))) {r:List ac},rec n X a m b cmp=some r->RTz 277 [cz af 2 v X] [.one (.sl 0 v 0 n),.one (.c (.int .i64 a)),.one (.c (.int .i64 m)),.one (.c (.int .i64 b)),.one (.c (.fn zr zc))] [cz af 2 v r] (.tup [])){zd:(List ac)}{OX:Int}{Pi:Int}{OY:Int}{a_cmp:ac->ac->Option (Int)}{v:Nat}{r:List ac}{zr:FuncId}{zc:List AC}(zj:∀ (y0:ac) (y1:ac) (r:Int),a_cmp y0 y1=some r->PTz zr ([.agg (af y0),.agg (af y1)]++zc.map .one) (.val (.one (.int .i64 r))))(H:rf rec n zd OX Pi OY a_cmp=some r):RTz 277 [cz af 2 v zd] [.one (.sl 0 v 0 n),.one (.c (.int .i64 OX)),.one (.c (.int .i64 Pi)),.one (.c (.int .i64 OY)),.one (.c (.fn zr zc))] [cz af 2 v r] (.tup []):=by
 rcases Vt:(decide ((i64.wrap (Pi-OX))=(1:Int)))with _|_
 ·rcases Tz:(decide ((i64.wrap (OY-Pi))=(1:Int)))with _|_
  ·rcases UU:(decide ((bM (i64.wrap (OX+OY)))<Pi))with _|_
   ·exact JJ Pm zj Vt Tz UU H
   ·exact Kp Pm zj Vt Tz UU H
  ·exact Nh Pm zj Vt Tz H
 ·exact J6 Pm zj Vt H
theorem Bo:∀ (q:Nat) {n:Nat} {X:List ac} {a m b:Int} {cmp:ac->ac->Option Int} {v:Nat} {zr:FuncId} {zc:List AC} (zj:∀ (y0:ac) (y1:ac) (r:Int),cmp y0 y1=some r->PTz zr ([.agg (af y0),.agg (af y1)]++zc.map .one) (.val (.one (.int .i64 r)))) {r:List ac},HH q n X a m b cmp=some r->RTz 277 [cz af 2 v X] [.one (.sl 0 v 0 n),.one (.c (.int .i64 a)),.one (.c (.int .i64 m)),.one (.c (.int .i64 b)),.one (.c (.fn zr zc))] [cz af 2 v r] (.tup [])
 |0,_,_,_,_,_,_,_,_,_,_,_,h=>nomatch h
 |q+1,_,_,_,_,_,_,_,_,_,hf,_,h=>aaa (Bo q) hf h
theorem F6 {n:Nat}  {zd:(List ac)}{PI:Int}{a_cmp:ac->ac->Option (Int)}{v:Nat}{r:List ac}{zr:FuncId}{zc:List AC}(zj:∀ (y0:ac) (y1:ac) (r:Int),a_cmp y0 y1=some r->PTz zr ([.agg (af y0),.agg (af y1)]++zc.map .one) (.val (.one (.int .i64 r))))(H:xJ n zd PI a_cmp=some r):RTz 254 [cz af 2 v zd] [.one (.sl 0 v 0 n),.one (.c (.int .i64 PI)),.one (.c (.fn zr zc))] [cz af 2 v r] (.tup []):=by
 unfold xJ at H;refine be am Tryz.func254 rfl rfl Tryz.ntmps254 m5 ?_;simp only[eL];refine w8 ?_;refine alM_ (λs:(List ac)×Int×Int=>match s with|(PX,W7,UB)=>[(0,.one (.sl 0 v 0 n)),(1,.one (.c (.int .i64 PI))),(2,.one (.c (.fn zr zc))),(6,.one (.c (.int .i64 (20:Int)))),(7,.one (.c (.int .i64 W7))),(8,.one (.c (.int .i64 UB)))]) (λs=>match s with|(PX,W7,UB)=>[cz af 2 v PX]) H (λ_=>aqG _)
  (fm_ bE [] rfl bm ⟨aR _ _ _ _ _,t7⟩) ?_
 rintro⟨PX,W7,UB⟩ QF OU Pz;unfold gw at OU;dsimp only at OU ⊢;obtain⟨Qf,OU⟩|⟨Qf,OU⟩:=aj OU
 ·obtain⟨T9,c1,OU⟩:=bd_ OU
  replace c1:=tZ (v:=v) (zc:=zc) zj c1
  cases OU;refine w8 ?_;exact⟨_,rfl,fm_ bE [] rfl bm ⟨aR _ _ _ _ _,t7⟩⟩
 cases OU;have O2:og PI a_cmp n (.inl (PX,W7,UB))=some _:=Pz;unfold og at O2;dsimp only at O2;obtain⟨ZI,c2,O2⟩:=bd_ O2;replace c2:=tZ (v:=v) (zc:=zc) zj c2;refine w8 ?_;refine alM_ (λs:(List ac)×Int=>match s with|(Vs,O9)=>[(0,.one (.sl 0 v 0 n)),(1,.one (.c (.int .i64 PI))),(2,.one (.c (.fn zr zc))),(6,.one (.c (.int .i64 O9)))]) (λs=>match s with|(Vs,O9)=>[cz af 2 v Vs]) O2 (λ_=>aqG _)
  (fm_ bE [] rfl bm ⟨aR _ _ _ _ _,t7⟩) ?_
 rintro⟨Vs,O9⟩ st4 O4 hk4;unfold gV at O4;dsimp only at O4 ⊢;obtain⟨S8,O4⟩|⟨S8,O4⟩:=aj O4
 ·refine w8 ?_
  refine alM_ (λs:(List ac)×Int×Int=>match s with|(Ta,SJ,SX)=>[(0,.one (.sl 0 v 0 n)),(1,.one (.c (.int .i64 PI))),(2,.one (.c (.fn zr zc))),(6,.one (.c (.int .i64 O9))),(7,.one (.c (.int .i64 SJ))),(8,.one (.c (.int .i64 SX)))]) (λs=>match s with|(Ta,SJ,SX)=>[cz af 2 v Ta]) O4 (λ_=>aqG _)
   (fm_ bE [] rfl bm ⟨aR _ _ _ _ _,t7⟩) ?_
  rintro⟨Ta,SJ,SX⟩ st5 Qp hk5;unfold gv at Qp;dsimp only at Qp ⊢;obtain⟨Q1,Qp⟩|⟨Q1,Qp⟩:=aj Qp
  ·obtain⟨Z1,c3,Qp⟩:=bd_ Qp
   replace c3:=Bo fuel (v:=v) (zc:=zc) zj c3
   cases Qp;refine w8 ?_;exact⟨_,rfl,fm_ bE [] rfl bm ⟨aR _ _ _ _ _,t7⟩⟩
  cases Qp;have Pg:oj PI a_cmp n O9 (.inl (Ta,SJ,SX))=some _:=hk5;unfold oj at Pg;dsimp only at Pg;obtain⟨Rk,Pg⟩|⟨Rk,Pg⟩:=aj Pg
  ·obtain⟨Z2,c4,Pg⟩:=bd_ Pg
   replace c4:=Bo fuel (v:=v) (zc:=zc) zj c4
   cases Pg;refine w8 ?_;exact⟨_,rfl,fm_ bE [] rfl bm ⟨aR _ _ _ _ _,t7⟩⟩
  cases Pg;refine w8 ?_;exact⟨_,rfl,fm_ bE [] rfl bm ⟨aR _ _ _ _ _,t7⟩⟩
 cases O4;have Qo:s8 (.inl (Vs,O9))=some _:=hk4;unfold s8 at Qo;dsimp only at Qo
 cases Qo;exact jp
theorem Gt {n:Nat}  {a_x:(List ac)}{a_cmp:ac->ac->Option (Int)}{v:Nat}{r:List ac}{zr:FuncId}{zc:List AC}(zj:∀ (y0:ac) (y1:ac) (r:Int),a_cmp y0 y1=some r->PTz zr ([.agg (af y0),.agg (af y1)]++zc.map .one) (.val (.one (.int .i64 r))))(H:xu n a_x a_cmp=some r):RTz 238 [cz af 2 v a_x] [.one (.sl 0 v 0 n),.one (.c (.fn zr zc))] [cz af 2 v r] (.tup []):=by
 unfold xu at H;refine be am Tryz.func238 rfl rfl Tryz.ntmps238 m5 ?_;simp only[eL];obtain⟨PX,c1,H⟩:=bd_ H;replace c1:=F6 (v:=v) (zc:=zc) zj c1
 cases H;exact jp
section
variable {α:Type} {lt:α->α->Bool} {S:α->Prop}
structure AE (lt:α->α->Bool)(S:α->Prop):Prop where
 irr:∀ x,S x->lt x x=false
 tr:∀ x y z,S x->S y->S z->lt x y=true->lt y z=true->lt x z=true
 tot:∀ x y,S x->S y->lt x y=false->lt y x=false->x=y
theorem AE.mono {S':α->Prop}(h:AE lt S)(k:∀ x,S' x->S x):AE lt S' :=
 ⟨λx hx=>h.irr x (k x hx),λx y z hx hy hz=>h.tr x y z (k x hx) (k y hy) (k z hz),λx y hx hy=>h.tot x y (k x hx) (k y hy)⟩
def dS (lt:α->α->Bool)(l:List α):Prop:=l.Pairwise λa b=>lt b a=false
theorem AE.le_tr (h:AE lt S){x y z:α}(sx:S x)(sy:S y)(sz:S z)(h1:lt y x=false)(h2:lt z y=false):lt z x=false:=by
 cases h3:lt z x with
 |false=>rfl
 |true =>
  cases h4:lt x y with
  |true=>rw[h.tr z x y sz sx sy h3 h4]at h2;cases h2
  |false=>have:=h.tot x y sx sy h4 h1;subst this;rw[h3]at h2;cases h2
theorem AE.le_of (h:AE lt S){x y:α}(sx:S x)(sy:S y)(h1:lt x y=true):lt y x=false:=by
 cases h2:lt y x with
 |false=>rfl
 |true=>have:=h.tr x y x sx sy sx h1 h2;rw[h.irr x sx]at this;cases this
theorem EV (h:AE lt S):∀ {l m:List α},(∀ x∈l,S x)->dS lt l->dS lt m->l.Perm m->l=m
 |[],m,_,_,_,p=>by have:=p.length_eq;cases m with|nil=>rfl|cons y m=>simp at this
 |x::l,[],_,_,_,p=>by have:=p.length_eq;simp at this
 |x::l,y::m,hS,ha,hb,p=>by
  have SC:x=y:=by
   have hx:x∈y::m:=p.mem_iff.1 m5;have hy:y∈x::l:=p.mem_iff.2 m5;have sy:=hS y hy;obtain e|hx:=aqH.1 hx
   ·exact e
   ·obtain e|hy:=aqH.1 hy
    ·exact e.symm
    ·exact h.tot x y (hS x m5) sy ((aro.1 hb).1 x hx) ((aro.1 ha).1 y hy)
  subst SC;rw[EV h (λz hz=>hS z (by simp[hz])) (aro.1 ha).2 (aro.1 hb).2 ((List.perm_cons x).1 p)]
theorem Ld (h:AE lt S){L:List α}{x y:α}(hS:∀ z∈L++[x],S z)(ha:dS lt (L++[x]))(hy:y∈L++[x]):lt x y=false:=by
 obtain hy|hy:=aqS.1 hy
 ·exact(List.pairwise_append.1 ha).2.2 y hy x m5
 ·simp at hy;subst hy;exact h.irr y (hS y m5)
theorem IU (h:AE lt S){L:List α}{x y:α}(hS:∀ z∈x::L,S z)(ha:dS lt (x::L))(hy:y∈x::L):lt y x=false:=by
 obtain rfl|hy:=aqH.1 hy
 ·exact h.irr y (hS y m5)
 ·exact(aro.1 ha).1 y hy
theorem adm (h:AE lt S){A B:List α}(hA:∀ z∈A,S z)(hB:∀ z∈B,S z)(a:dS lt A)(b:dS lt B)(hg:A=[]\/B=[] \/ ∃ A' x y B',A=A'++[x]/\B=y::B'/\lt y x=false):∀ x∈A,∀ y∈B,lt y x=false:=by
 intro u hu v hv;obtain rfl|rfl|⟨A',x,y,B',rfl,rfl,SC⟩:=hg
 ·simp at hu
 ·simp at hv
 ·have s1:=hA u hu;have s2:=hA x m5;have s3:=hB y m5;have s4:=hB v hv
  exact h.le_tr s1 s2 s4 (Ld h hA a hu) (h.le_tr s2 s3 s4 SC (IU h hB b hv))
theorem C2 (h:AE lt S){L1 L2:List α}{x:α}(sx:S x)(hS:∀ z∈L1++L2,S z)(ha:dS lt (L1++L2))(h1:L1=[] \/ ∃ L y,L1=L++[y]/\lt x y=false)(h2:L2=[] \/ ∃ z L,L2=z::L/\lt z x=false):dS lt (L1++x::L2):=by
 have hp:=List.pairwise_append.1 ha;refine List.pairwise_append.2 ⟨hp.1,aro.2 ⟨λv hv=>?_,hp.2.1⟩,λu hu v hv=>?_⟩
 ·obtain rfl|⟨z,L,rfl,hz⟩:=h2
  ·simp at hv
  ·exact h.le_tr sx (hS z m5) (hS v (by simp at hv ⊢;exact .inr hv)) hz (IU h (λw hw=>hS w (by simp at hw ⊢;exact .inr hw)) hp.2.1 hv)
 ·obtain rfl|hv:=aqH.1 hv
  ·obtain rfl|⟨L,y,rfl,hy⟩:=h1
   ·simp at hu
   ·exact h.le_tr (hS u (by simp at hu ⊢;rcases hu with hu|hu;exact .inl hu;exact .inr (.inl hu))) (hS y m5) sx (Ld h (λw hw=>hS w (List.mem_append_left _ hw)) hp.1 hu) hy
  ·exact hp.2.2 u hu v hv
theorem IX (h:AE lt S){A1 A2 B1 B2 M1 M2:List α}(hS:∀ z∈(A1++A2)++(B1++B2),S z)(hA:dS lt (A1++A2))(hB:dS lt (B1++B2))(h1:A1=[]\/B2=[] \/ ∃ A' x y B',A1=A'++[x]/\B2=y::B'/\lt y x=false)(h2:B1=[]\/A2=[] \/ ∃ A' x y B',B1=A'++[x]/\A2=y::B'/\lt y x=false)
  (m1:dS lt M1) (m2:dS lt M2) (p1:M1.Perm (A1++B1)) (p2:M2.Perm (A2++B2)):dS lt (M1++M2):=by
 have pa:=List.pairwise_append.1 hA;have pb:=List.pairwise_append.1 hB;have g1:=adm h (λz hz=>hS z (by simp[hz])) (λz hz=>hS z (by simp[hz])) pa.1 pb.2.1 h1;have g2:=adm h (λz hz=>hS z (by simp[hz])) (λz hz=>hS z (by simp[hz])) pb.1 pa.2.1 h2;refine List.pairwise_append.2 ⟨m1,m2,λx hx y hy=>?_⟩;rcases aqS.1 (p1.mem_iff.1 hx)with hx|hx<;>rcases aqS.1 (p2.mem_iff.1 hy)with hy|hy
 ·exact pa.2.2 x hx y hy
 ·exact g1 x hx y hy
 ·exact g2 x hx y hy
 ·exact pb.2.2 x hx y hy
theorem G1 {A1 A2 B1 B2 M1 M2:List α}(p1:M1.Perm (A1++B1))(p2:M2.Perm (A2++B2)):(M1++M2).Perm ((A1++A2)++(B1++B2)):=by
 refine(p1.append p2).trans ?_;rw[aqR,aqR];refine List.Perm.append_left A1 ?_;rw[<- aqR,<- aqR];exact List.Perm.append_right B2 List.perm_append_comm
theorem afh {β:Type}(f:α->β)(U V T:List α)(x y:α):(((U++x::(V++y::T)).map f).set U.length (f y)).set (U.length+1+V.length) (f x)=(U++y::(V++x::T)).map f:=by
 rw[aqD,aqB,List.set_append_right _ _ m5];simp only[aqC,Nat.sub_self,List.set_cons_zero];rw[List.set_append_right _ _ m8];simp only[aqC];rw[show U.length+1+V.length-U.length=V.length+1 by omega,List.set_cons_succ,aqD,List.set_append_right _ _ m5];simp
theorem get_at (U:List α)(x:α)(T:List α):(U++x::T)[U.length]?=some x:=by simp
theorem CG (U V T:List α)(x y:α):(U++x::(V++y::T))[U.length+1+V.length]?=some y:=by
 rw[aqx m0,show U.length+1+V.length-U.length=V.length+1 by omega,List.getElem?_cons_succ,aqx m0];simp
end
section
variable {α:Type}
theorem wrA (a b:Nat)(h:a+b<=4611686018427387904):i64.wrap ((a:Int)+(b:Int))=((a+b:Nat):Int):=by rw[dj m0];omega
theorem wrS (a b:Nat)(h:b<=a)(h2:a<=4611686018427387904):i64.wrap ((a:Int)-(b:Int))=((a-b:Nat):Int):=by rw[dj m0];omega
theorem Np {i n:Nat}(h:i<n):decide ((i:Int)<((n:Nat):Int))=true:=aqu m0
theorem ab0 (i:Nat):decide ((0:Int)<=(i:Int))=true:=aqu m0
theorem ae5 (i:Nat):0+((i:Int)).toNat=i:=m0
theorem Oa {n:Nat}{c:List α}{a b k i:Nat}{x y:α}(hn:c.length=n)(P8:n<=1000000000)(hk:i<k)(ha:c[a+i]?=some x)(hb:c[b+i]?=some y):dG (a:Int) (b:Int) (k:Int) n (c,(i:Int))=some (.next ((c.set (a+i) y).set (b+i) x,((i+1:Nat):Int))):=by
 have h1:=(aqp.1 ha).1;have h2:=(aqp.1 hb).1;unfold dG;dsimp only;rw[wrA a i m0,wrA b i m0,wrapN m0];simp only[Np hk,ab0,Np (show a+i<n by omega),Np (show b+i<n by omega),aqs,gn_ ha,gn_ hb,aqo,ae5,List.length_set,aqu (show a+i<c.length by omega),aqu (show b+i<c.length by omega)]
theorem aaH {n:Nat}{c:List α}{a b:Int}{k i:Nat}(hk:¬ i<k):dG a b (k:Int) n (c,(i:Int))=some (.exit (c,(i:Int))):=by
 unfold dG;dsimp only;rw[aqt m0,aqr]
theorem D5 {n:Nat}(P8:n<=1000000000)(a b k:Nat):∀ (U W P V Q:List α) (N i:Nat),U.length=W.length->P.length=a+i->P.length+U.length+V.length=b+i->i+U.length=k->(P++(U++(V++(W++Q)))).length=n->U.length<N->ao (dG (a:Int) (b:Int) (k:Int) n) N (P++(U++(V++(W++Q))),(i:Int))=some (.inl (P++(W++(V++(U++Q))),((k:Nat):Int)))
 |U,W,P,V,Q,0,i,_,_,_,_,_,h=>by omega
 |[],W,P,V,Q,N+1,i,hl,hp,hb,hi,hn,_=>by
  have hW:W=[]:=aq1.1 hl.symm;subst hW;rw[ao,aaH (by simp at hi;omega)];simp only[aqV,Nat.add_zero]at hi;subst hi;rfl
 |u::U,[],P,V,Q,N+1,i,hl,_,_,_,_,_=>by simp at hl
 |u::U,w::W,P,V,Q,N+1,i,hl,hp,hb,hi,hn,hN=>by
  simp only[aqM]at hl hb hi hN;have e:P++(u::U++(V++(w::W++Q)))=P++u::((U++V)++w::(W++Q)):=by simp
  rw[ao,e,Oa (x:=u) (y:=w) (by rw[<- e];exact hn) P8 m0 (by rw[<- hp];exact get_at _ _ _) (by have:=CG P (U++V) (W++Q) u w;rwa[show P.length+1+(U++V).length=b+i by simp;omega]at this)];have s2:=afh (f:=λx:α=>x) P (U++V) (W++Q) u w;rw[List.map_id',List.map_id',show P.length+1+(U++V).length=b+i by simp;omega,hp]at s2;rw[s2];have e2:P++w::((U++V)++u::(W++Q))=(P++[w])++(U++((V++[u])++(W++Q))):=by simp
  show ao _ N (P++w::((U++V)++u::(W++Q)),((i+1:Nat):Int))=_;rw[e2,D5 P8 a b k U W (P++[w]) (V++[u]) Q N (i+1) m0 m8 m8 m0 (by rw[<- hn];simp only[aqy,aqM,aqV];omega) m0];simp
theorem k9 {n:Nat}(P8:n<=1000000000){P U V W Q:List α}(cmp:α->α->Option Int)(hl:U.length=W.length)(hn:(P++(U++(V++(W++Q)))).length=n):gk n (P++(U++(V++(W++Q)))) (P.length:Int) ((P.length+U.length+V.length:Nat):Int) (U.length:Int) cmp=some (P++(W++(V++(U++Q)))):=by
 unfold gk;have:=D5 P8 P.length (P.length+U.length+V.length) U.length U W P V Q fuel 0 hl m0 m0 m0 hn (by simp at hn;unfold fuel;omega);rw[show((0:Nat):Int)=0 from rfl]at this;rw[this];rfl
theorem pP {n:Nat}(P8:n<=1000000000)(cmp:α->α->Option Int)(m:Nat):∀ (N:Nat) (P A B Q:List α),P.length+A.length=m->0<A.length->0<B.length->(P++(A++(B++Q))).length=n->A.length+B.length<N ->∃ P' A' B' Q',ao (eO (m:Int) cmp n) N (P++(A++(B++Q)),(A.length:Int),(B.length:Int))=some (.inl (P'++(A'++(B'++Q')),(A'.length:Int),(B'.length:Int)))/\A'.length=B'.length/\P'.length+A'.length=m/\P'++(B'++(A'++Q'))=P++(B++(A++Q))/\(P'++(A'++(B'++Q'))).length=n
 |0,P,A,B,Q,_,_,_,_,h=>by omega
 |N+1,P,A,B,Q,hm,hA,hB,hn,hN=>by
  have Qx:=hn;simp only[aqy]at Qx;rw[ao];by_cases h0:A.length=B.length
  ·have hb:eO (m:Int) cmp n (P++(A++(B++Q)),(A.length:Int),(B.length:Int))=some (.exit (P++(A++(B++Q)),(A.length:Int),(B.length:Int))):=by
    unfold eO;dsimp only;rw[aqt m0,aqr]
   rw[hb];exact⟨P,A,B,Q,rfl,h0,hm,rfl,hn⟩
  ·by_cases h1:B.length<A.length
   ·have hs:=k9 P8 (P:=P) (U:=A.take B.length) (V:=A.drop B.length) (W:=B) (Q:=Q) cmp (by rw[ari];omega) (by rw[<- hn];simp;omega)
    have eA:A.take B.length++(A.drop B.length++(B++Q))=A++(B++Q):=by rw[<- aqR,ara]
    rw[eA]at hs;have hb:eO (m:Int) cmp n (P++(A++(B++Q)),(A.length:Int),(B.length:Int))=some (.next (P++(B++(A.drop B.length++(A.take B.length++Q))),((A.length-B.length:Nat):Int),(B.length:Int))):=by
     unfold eO;dsimp only;rw[aqu (show(A.length:Int)≠(B.length:Int)by omega),aqs,aqu (show(B.length:Int)<(A.length:Int)by omega),aqs,wrS m A.length m0 m0,wrS A.length B.length m0 m0,show m-A.length=P.length by omega];rw[ari,List.length_drop,Nat.min_eq_left m0,show P.length+B.length+(A.length-B.length)=m by omega]at hs;rw[hs];rfl
    rw[hb];obtain⟨P',A',B',Q',k1,k2,k3,k4,k5⟩:=pP P8 cmp m N (P++B) (A.drop B.length) (A.take B.length) Q m8 m8 m8 (by rw[<- hn];simp;omega) m8;refine⟨P',A',B',Q',?_,k2,k3,?_,k5⟩
    ·rw[<- k1]
     simp only[List.length_drop,ari,Nat.min_eq_left (Nat.le_of_lt h1),aqR]
    ·rw[k4]
     simp only[aqR];rw[<- aqR (A.take B.length),ara]
   ·have hs:=k9 P8 (P:=P) (U:=A) (V:=B.take (B.length-A.length)) (W:=B.drop (B.length-A.length)) (Q:=Q) cmp (by rw[List.length_drop];omega) (by rw[<- hn];simp;omega)
    have eB:B.take (B.length-A.length)++(B.drop (B.length-A.length)++Q)=B++Q:=by rw[<- aqR,ara]
    rw[eB]at hs;have hb:eO (m:Int) cmp n (P++(A++(B++Q)),(A.length:Int),(B.length:Int))=some (.next (P++(B.drop (B.length-A.length)++(B.take (B.length-A.length)++(A++Q))),(A.length:Int),((B.length-A.length:Nat):Int))):=by
     unfold eO;dsimp only;rw[aqu (show(A.length:Int)≠(B.length:Int)by omega),aqs,aqt (show ¬ (B.length:Int)<(A.length:Int)by omega),aqr,wrS m A.length m0 m0,wrA m B.length m0,wrS (m+B.length) A.length m0 m0,wrS B.length A.length m0 m0,show m-A.length=P.length by omega];rw[ari,Nat.min_eq_left m0,show P.length+A.length+(B.length-A.length)=m+B.length-A.length by omega]at hs;rw[hs];rfl
    rw[hb];obtain⟨P',A',B',Q',k1,k2,k3,k4,k5⟩:=pP P8 cmp m N P (B.drop (B.length-A.length)) (B.take (B.length-A.length)) (A++Q) m8 m8 m8 (by rw[<- hn];simp;omega) m8;refine⟨P',A',B',Q',?_,k2,k3,?_,k5⟩
    ·rw[<- k1]
     simp only[List.length_drop,ari,Nat.min_eq_left (Nat.sub_le _ _),show B.length-(B.length-A.length)=A.length by omega]
    ·rw[k4]
     simp only[<- aqR];rw[aqR P,ara]
theorem Iz {n:Nat}(P8:n<=1000000000){P A B Q:List α}(cmp:α->α->Option Int)(hA:0<A.length)(hB:0<B.length)(hn:(P++(A++(B++Q))).length=n):mM n (P++(A++(B++Q))) (P.length:Int) ((P.length+A.length:Nat):Int) ((P.length+A.length+B.length:Nat):Int) cmp=some (P++(B++(A++Q))):=by
 have Qx:=hn;simp only[aqy]at Qx;unfold mM;rw[wrS (P.length+A.length) P.length m0 m0,wrS (P.length+A.length+B.length) (P.length+A.length) m0 m0,show P.length+A.length-P.length=A.length by omega,show P.length+A.length+B.length-(P.length+A.length)=B.length by omega];obtain⟨P',A',B',Q',k1,k2,k3,k4,k5⟩:=pP P8 cmp (P.length+A.length) fuel P A B Q rfl hA hB hn (by unfold fuel;omega);rw[k1,aqo];unfold nT;dsimp only;have k5':=k5;simp only[aqy]at k5';have hs:=k9 P8 (P:=P') (U:=A') (V:=[]) (W:=B') (Q:=Q') cmp k2 k5;rw[aqv,aqv,aqV,Nat.add_zero,k3]at hs;rw[wrS (P.length+A.length) A'.length m0 m0,show P.length+A.length-A'.length=P'.length by omega,hs,k4];rfl
end
section
variable {α:Type} {lt:α->α->Bool} {S:α->Prop} {cmp:α->α->Option Int}
theorem u64_in {x:Int}(h0:0<=x)(h:x<=4611686018427387904):IntKind.u64.wrap x=x:=by
 simp only[IntKind.wrap,IntKind.bits,IntKind.signed];simp;omega
theorem zq {i j:Nat}(h:i+j<=4611686018427387904):bM (i64.wrap ((i:Int)+(j:Int)))=(((i+j)/2:Nat):Int):=by
 rw[wrA i j h];show i64.wrap (Int.fdiv (IntKind.u64.wrap ((i+j:Nat):Int)) 2)=_;rw[u64_in m0 m0,Int.fdiv_eq_ediv_of_nonneg _ m0,dj m0];omega
def mi (cmp:α->α->Option Int)(lt:α->α->Bool)(S:α->Prop):Prop :=∀ x y,S x->S y ->∃ r,cmp x y=some r/\decide (r<0)=lt x y
theorem wr1 (a:Nat)(h:1<=a)(h2:a<=4611686018427387904):i64.wrap ((a:Int)-1)=((a-1:Nat):Int):=by rw[dj m0];omega
theorem Fh (h:AE lt S)(hc:mi cmp lt S){n:Nat}(P8:n<=1000000000)(P Q:List α)(x:α)(sx:S x):∀ (k:Nat) (L1 L2:List α) (N:Nat),L1.length=k->(∀ z∈L1++L2,S z)->dS lt (L1++L2)->(L2=[] \/ ∃ z L,L2=z::L/\lt z x=false)->(P++((L1++x::L2)++Q)).length=n->k<N ->
  ∃ M j,ao (dF (P.length:Int) cmp n) N (P++((L1++x::L2)++Q),((P.length+k:Nat):Int))=some (.inl (P++(M++Q),j))/\dS lt M/\M.Perm (x::(L1++L2))
 |k,L1,L2,0,_,_,_,_,_,hN=>by omega
 |0,L1,L2,N+1,hk,hS,ha,h2,hn,hN=>by
  have:L1=[]:=aq1.1 hk;subst this;rw[ao];have hb:dF (P.length:Int) cmp n (P++(([]++x::L2)++Q),((P.length+0:Nat):Int))=some (.exit (P++(([]++x::L2)++Q),((P.length+0:Nat):Int))):=by
   unfold dF;dsimp only;rw[aqt m0,aqr]
  rw[hb];refine⟨x::L2,_,rfl,?_,.refl _⟩;have:=C2 h (L1:=[]) (L2:=L2) sx hS ha (.inl rfl) h2;exact this
 |k+1,L1,L2,N+1,hk,hS,ha,h2,hn,hN=>by
  obtain⟨L,y,rfl⟩:∃ L y,L1=L++[y]:=by
   obtain e|⟨L,y,e⟩:=List.eq_nil_or_concat L1
   ·subst e;simp at hk
   ·exact⟨L,y,by simpa using e⟩
  have hL:L.length=k:=by simp at hk;exact hk
  have Qx:=hn;simp only[aqy,aqM,aqV]at Qx;have sy:S y:=hS y m5;have e1:P++((L++[y])++x::L2++Q)=(P++L)++y::([]++x::(L2++Q)):=by simp
  have g1:(P++((L++[y])++x::L2++Q))[P.length+k]?=some y:=by rw[e1,<- hL,<- aqy];exact get_at _ _ _
  have g2:(P++((L++[y])++x::L2++Q))[P.length+(k+1)]?=some x:=by
   have:=CG (P++L) [] (L2++Q) y x;rw[<- e1]at this;rwa[show(P++L).length+1+([]:List α).length=P.length+(k+1)by simp;omega]at this
  obtain⟨r,hr,Un⟩:=hc x y sx sy;rw[ao]
  cases SC:lt x y with
  |false =>
   have hb:dF (P.length:Int) cmp n (P++((L++[y])++x::L2++Q),((P.length+(k+1):Nat):Int))=some (.exit (P++((L++[y])++x::L2++Q),((P.length+(k+1):Nat):Int))):=by
    unfold dF;dsimp only;rw[wr1 _ m0 m0,show P.length+(k+1)-1=P.length+k by omega];simp only[aqu (show(P.length:Int)<((P.length+(k+1):Nat):Int)by omega),ab0,Np (show P.length+(k+1)<n by omega),Np (show P.length+k<n by omega),aqs,gn_ g1,gn_ g2,aqo,hr,Un,SC,aqr]
   rw[hb];refine⟨(L++[y])++x::L2,_,rfl,C2 h sx hS ha (.inr ⟨L,y,rfl,SC⟩) h2,List.perm_middle⟩
  |true =>
   have hb:dF (P.length:Int) cmp n (P++((L++[y])++x::L2++Q),((P.length+(k+1):Nat):Int))=some (.next (P++((L++x::(y::L2))++Q),((P.length+k:Nat):Int))):=by
    unfold dF;dsimp only;rw[wr1 _ m0 m0,show P.length+(k+1)-1=P.length+k by omega];simp only[aqu (show(P.length:Int)<((P.length+(k+1):Nat):Int)by omega),ab0,Np (show P.length+(k+1)<n by omega),Np (show P.length+k<n by omega),aqs,gn_ g1,gn_ g2,aqo,hr,Un,SC,ae5,List.length_set,aqu (show P.length+(k+1)<(P++((L++[y])++x::L2++Q)).length by omega),aqu (show P.length+k<(P++((L++[y])++x::L2++Q)).length by omega)];have s2:=afh (f:=λz:α=>z) (P++L) [] (L2++Q) y x;rw[List.map_id',List.map_id',<- e1,show(P++L).length=P.length+k by simp;omega,aqV,show P.length+k+1+0=P.length+(k+1)by omega]at s2;rw[List.set_comm _ _ m0,s2];simp
   rw[hb];obtain⟨M,j,k1,k2,k3⟩:=Fh h hc P8 P Q x sx k L (y::L2) N hL (λz hz=>hS z (by simp at hz ⊢;rcases hz with hz|hz|hz<;>simp[hz])) (by simpa using ha) (.inr ⟨y,L2,rfl,h.le_of sx sy SC⟩) (by rw[<- hn];simp) m0;exact⟨M,j,k1,k2,k3.trans m5⟩
theorem FK (h:AE lt S)(hc:mi cmp lt S){n:Nat}(P8:n<=1000000000)(P Q:List α)(b:Nat):∀ (R M:List α) (N:Nat),P.length+M.length+R.length=b->(∀ z∈M++R,S z)->dS lt M->(P++(M++(R++Q))).length=n->R.length<N ->
  ∃ M',ao (dC (P.length:Int) (b:Int) cmp n) N (P++(M++(R++Q)),((P.length+M.length:Nat):Int))=some (.inl (P++(M'++Q),(b:Int)))/\dS lt M'/\M'.Perm (M++R)
 |R,M,0,_,_,_,_,hN=>by omega
 |[],M,N+1,hb,hS,ha,hn,hN=>by
  simp only[aqV,Nat.add_zero]at hb;subst hb;rw[ao];have hB:dC (P.length:Int) ((P.length+M.length:Nat):Int) cmp n (P++(M++([]++Q)),((P.length+M.length:Nat):Int))=some (.exit (P++(M++([]++Q)),((P.length+M.length:Nat):Int))):=by
   unfold dC;dsimp only;rw[aqt m0,aqr]
  rw[hB];exact⟨M,rfl,ha,m5⟩
 |x::R,M,N+1,hb,hS,ha,hn,hN=>by
  have Qx:=hn;simp only[aqy,aqM]at Qx hb;obtain⟨M1,j,k1,k2,k3⟩:=Fh h hc P8 P (R++Q) x (hS x m5) M.length M [] fuel rfl (λz hz=>hS z (by simp at hz ⊢;exact .inl hz)) (by simpa using ha) (.inl rfl) (by rw[<- hn];simp) (by unfold fuel;omega);have hl:M1.length=M.length+1:=by rw[k3.length_eq];simp
  have e1:P++((M++x::[])++(R++Q))=P++(M++(x::R++Q)):=by simp
  rw[e1]at k1;rw[ao];have hB:dC (P.length:Int) (b:Int) cmp n (P++(M++(x::R++Q)),((P.length+M.length:Nat):Int))=some (.next (P++(M1++(R++Q)),((P.length+M1.length:Nat):Int))):=by
   unfold dC;dsimp only;rw[aqu (show((P.length+M.length:Nat):Int)<(b:Int)by omega),aqs,k1,aqo];unfold gO;dsimp only;rw[wrapN m0,hl,Nat.add_assoc]
  rw[hB];obtain⟨M',q1,q2,q3⟩:=FK h hc P8 P Q b R M1 N m0 (λz hz=>by
   obtain hz|hz:=aqS.1 hz
   ·have:=k3.mem_iff.1 hz;simp at this;obtain rfl|hz:=this
    ·exact hS z m5
    ·exact hS z (by simp[hz])
   ·exact hS z (by simp[hz])) k2 (by rw[<- hn];simp[hl];omega) (by simp at hN;omega)
  refine⟨M',q1,q2,q3.trans ?_⟩;refine(k3.append_right R).trans ?_;simp only[aqZ,List.cons_append];exact(List.perm_middle (a:=x) (l₁:=M) (l₂:=R)).symm
theorem wj (h:AE lt S)(hc:mi cmp lt S){n:Nat}(P8:n<=1000000000){P M Q:List α}(hS:∀ z∈M,S z)(hn:(P++(M++Q)).length=n):∃ M',oI n (P++(M++Q)) (P.length:Int) ((P.length+M.length:Nat):Int) cmp=some (P++(M'++Q))/\dS lt M'/\M'.Perm M:=by
 have Qx:=hn;simp only[aqy]at Qx;unfold oI;rw[show i64.wrap ((P.length:Int)+1)=((P.length+1:Nat):Int)from wrapN m0]
 match M,hS,hn,Qx with
 |[],hS,hn,Qx =>
  refine⟨[],?_,List.Pairwise.nil,.refl _⟩;have hf:fuel=(fuel-1)+1:=rfl;rw[hf,ao];have hB:dC (P.length:Int) ((P.length+([]:List α).length:Nat):Int) cmp n (P++([]++Q),((P.length+1:Nat):Int))=some (.exit (P++([]++Q),((P.length+1:Nat):Int))):=by
   unfold dC;dsimp only;rw[aqt (by simp only[aqV];omega),aqr]
  rw[hB];rfl
 |x::M,hS,hn,Qx =>
  simp only[aqM]at Qx;obtain⟨M',q1,q2,q3⟩:=FK h hc P8 P Q (P.length+(x::M).length) M [x] fuel m8 (by simpa using hS) (by simp[dS]) (by rw[<- hn];simp) (by unfold fuel;omega);refine⟨M',?_,q2,by simpa using q3⟩;have e:P++([x]++(M++Q))=P++(x::M++Q):=by simp
  rw[e,show P.length+[x].length=P.length+1 from rfl]at q1;rw[q1];rfl
end
section
variable {α:Type} {lt:α->α->Bool} {S:α->Prop} {cmp:α->α->Option Int}
theorem xA {β:Type}{body:Int×Int->Option (Step (Int×Int) β)}(lo hi:Nat)(p:Nat->Bool)(hB:∀ i j:Nat,lo<=i->i<j->j<=hi->body ((i:Int),(j:Int))=some (.next (bif p ((i+j)/2)then((((i+j)/2+1:Nat):Int),(j:Int))else((i:Int),(((i+j)/2:Nat):Int)))))(hE:∀ i:Nat,body ((i:Int),(i:Int))=some (.exit ((i:Int),(i:Int)))) :
  ∀ (N i j:Nat),lo<=i->i<=j->j<=hi->j-i<N->(i=lo\/p (i-1)=true)->(j=hi\/p j=false) ->∃ s:Nat,ao body N ((i:Int),(j:Int))=some (.inl ((s:Int),(s:Int)))/\lo<=s/\s<=hi/\(s=lo\/p (s-1)=true)/\(s=hi\/p s=false)
 |0,i,j,_,_,_,h,_,_=>by omega
 |N+1,i,j,h1,h2,h3,hN,RL,VH=>by
  rw[ao];by_cases he:i=j
  ·subst he
   rw[hE];exact⟨i,rfl,h1,h3,RL,VH⟩
  ·rw[hB i j h1 m0 h3]
   cases hp:p ((i+j)/2)with
   |true =>
    rw[aqs];exact xA lo hi p hB hE N ((i+j)/2+1) j m0 m0 h3 m0 (.inr (by rw[Nat.add_sub_cancel];exact hp)) VH
   |false =>
    rw[aqr];exact xA lo hi p hB hE N i ((i+j)/2) h1 m0 m0 m0 RL (.inr hp)
theorem ahc {n:Nat}(P8:n<=1000000000)(x:α)(Q:List α)(i:Nat):∀ (B P:List α) (N:Nat),P.length+B.length+1=i->(P++x::(B++Q)).length=n->B.length<N ->∃ k,ao (lF n (i:Int)) N (P++x::(B++Q),(P.length:Int))=some (.inl (P++(B++x::Q),k))
 |B,P,0,_,_,hN=>by omega
 |[],P,N+1,hi,hn,hN=>by
  simp only[aqV,Nat.add_zero]at hi;have Qx:=hn;simp only[aqy,aqM]at Qx;subst hi;rw[ao];have hb:lF n ((P.length+1:Nat):Int) (P++x::([]++Q),(P.length:Int))=some (.exit (P++x::([]++Q),(P.length:Int))):=by
   unfold lF;dsimp only;rw[wr1 _ m0 m0,aqt m0,aqr]
  rw[hb];exact⟨_,rfl⟩
 |y::B,P,N+1,hi,hn,hN=>by
  simp only[aqM]at hi hN;have Qx:=hn;simp only[aqy,aqM]at Qx;have g1:(P++x::(y::B++Q))[P.length]?=some x:=get_at _ _ _;have g2:(P++x::(y::B++Q))[P.length+1]?=some y:=CG P [] (B++Q) x y;rw[ao];have hb:lF n (i:Int) (P++x::(y::B++Q),(P.length:Int))=some (.next ((P++[y])++x::(B++Q),(((P++[y]).length:Nat):Int))):=by
   unfold lF;dsimp only;rw[wr1 _ m0 m0,wrapN m0];have s2:=afh (f:=λz:α=>z) P [] (B++Q) x y;rw[List.map_id',List.map_id',aqV,Nat.add_zero]at s2;have s3:((P++x::(y::B++Q)).set P.length y).set (P.length+1) x=P++y::x::(B++Q):=s2;simp only[aqu (show(P.length:Int)<((i-1:Nat):Int)by omega),ab0,Np (show P.length+1<n by omega),Np (show P.length<n by omega),aqs,gn_ g1,gn_ g2,aqo,ae5,List.length_set,aqu (show P.length+1<(P++x::(y::B++Q)).length by rw[hn];omega),aqu (show P.length<(P++x::(y::B++Q)).length by rw[hn];omega),s3];simp
  rw[hb];obtain⟨k,hk⟩:=ahc P8 x Q i B (P++[y]) N m8 (by rw[<- hn];simp only[aqy,aqM,aqV];omega) m0;exact⟨k,by show ao _ N _=_;rw[hk];simp⟩
theorem ag3 {n:Nat}(P8:n<=1000000000)(x:α)(P:List α):∀ (l:Nat) (A Q:List α) (N:Nat),A.length=l->(P++(A++x::Q)).length=n->l<N ->∃ k,ao (lX n (P.length:Int)) N (P++(A++x::Q),((P.length+l:Nat):Int))=some (.inl (P++x::(A++Q),k))
 |l,A,Q,0,_,_,hN=>by omega
 |0,A,Q,N+1,hl,hn,hN=>by
  have:A=[]:=aq1.1 hl;subst this;rw[ao];have hb:lX n (P.length:Int) (P++([]++x::Q),((P.length+0:Nat):Int))=some (.exit (P++([]++x::Q),((P.length+0:Nat):Int))):=by
   unfold lX;dsimp only;rw[aqt m0,aqr]
  rw[hb];exact⟨_,rfl⟩
 |l+1,A,Q,N+1,hl,hn,hN=>by
  obtain⟨L,y,rfl⟩:∃ L y,A=L++[y]:=by
   obtain e|⟨L,y,e⟩:=List.eq_nil_or_concat A
   ·subst e;simp at hl
   ·exact⟨L,y,by simpa using e⟩
  have hL:L.length=l:=by simp at hl;exact hl
  have Qx:=hn;simp only[aqy,aqM,aqV]at Qx;have e1:P++((L++[y])++x::Q)=(P++L)++y::([]++x::Q):=by simp
  have g1:(P++((L++[y])++x::Q))[P.length+l]?=some y:=by rw[e1,<- hL,<- aqy];exact get_at _ _ _
  have g2:(P++((L++[y])++x::Q))[P.length+(l+1)]?=some x:=by
   have:=CG (P++L) [] Q y x;rw[<- e1]at this;rwa[show(P++L).length+1+([]:List α).length=P.length+(l+1)by simp;omega]at this
  rw[ao];have hb:lX n (P.length:Int) (P++((L++[y])++x::Q),((P.length+(l+1):Nat):Int))=some (.next (P++(L++x::(y::Q)),((P.length+l:Nat):Int))):=by
   unfold lX;dsimp only;rw[wr1 _ m0 m0,show P.length+(l+1)-1=P.length+l by omega];have s2:=afh (f:=λz:α=>z) (P++L) [] Q y x;rw[List.map_id',List.map_id',<- e1,show(P++L).length=P.length+l by simp;omega,aqV,show P.length+l+1+0=P.length+(l+1)by omega,List.set_comm _ _ m0]at s2;simp only[aqu (show(P.length:Int)<((P.length+(l+1):Nat):Int)by omega),ab0,Np (show P.length+(l+1)<n by omega),Np (show P.length+l<n by omega),aqs,gn_ g1,gn_ g2,aqo,ae5,List.length_set,aqu (show P.length+(l+1)<(P++((L++[y])++x::Q)).length by rw[hn];omega),aqu (show P.length+l<(P++((L++[y])++x::Q)).length by rw[hn];omega),s2];simp
  rw[hb];obtain⟨k,hk⟩:=ag3 P8 x P l L (y::Q) N hL (by rw[<- hn];simp) m0;exact⟨k,by show ao _ N _=_;rw[hk];simp⟩
theorem rK {l:List α}{s:Nat}(h:s<=l.length):∃ a b,l=a++b/\a.length=s:=⟨l.take s,l.drop s,(ara _ _).symm,by rw[ari];omega⟩
theorem DO {A:List α}(h:0<A.length):∃ L y,A=L++[y]:=by
 obtain e|⟨L,y,e⟩:=List.eq_nil_or_concat A
 ·subst e;simp at h
 ·exact⟨L,y,by simpa using e⟩
theorem AM {A:List α}(h:0<A.length):∃ y L,A=y::L:=match A,h with|y::L,_=>⟨y,L,rfl⟩
def p1F (lt:α->α->Bool)(D:List α)(x:α)(i:Nat):Bool:=match D[i]? with|some y=>lt y x|none=>false
def p3F (lt:α->α->Bool)(D:List α)(x:α)(i:Nat):Bool:=match D[i]? with|some y => !lt x y|none=>false
def p5F (lt:α->α->Bool)(D:List α)(p i:Nat):Bool:=match D[p-i]?,D[i]? with|some x,some y => !lt x y|_,_=>false
theorem aiR (h:AE lt S)(hc:mi cmp lt S){n:Nat}(P8:n<=1000000000){P Q B:List α}{x:α}(sx:S x)(sB:∀ z∈B,S z)(hB:dS lt B)(hn:(P++x::(B++Q)).length=n) :
  ∃ M,((ao (nL (P++x::(B++Q)) (P.length:Int) cmp n) fuel (((P.length+1:Nat):Int),((P.length+1+B.length:Nat):Int))).bind (rB (P++x::(B++Q)) (P.length:Int) n))=some (P++(M++Q))/\dS lt M/\M.Perm (x::B):=by
 have Qx:=hn;simp only[aqy,aqM]at Qx;have gx:(P++x::(B++Q))[P.length]?=some x:=get_at _ _ _;have gB:∀ i y,B[i]?=some y->(P++x::(B++Q))[P.length+1+i]?=some y:=by
  intro i y hy;have hi:=(aqp.1 hy).1;rw[aqx m0,show P.length+1+i-P.length=i+1 by omega,List.getElem?_cons_succ,aqE hi];exact hy
 obtain⟨s,hs,s1,s2,s3,s4⟩:=xA (body:=nL (P++x::(B++Q)) (P.length:Int) cmp n) (P.length+1) (P.length+1+B.length) (p1F lt (P++x::(B++Q)) x) (by
  intro i j hi TF hj;obtain⟨y,hy⟩:=gol_ (l:=B) (i:=(i+j)/2-(P.length+1)) m0;have gy:=gB _ _ hy;rw[show P.length+1+((i+j)/2-(P.length+1))=(i+j)/2 by omega]at gy;obtain⟨r,hr,Un⟩:=hc y x (sB y (aqw hy)) sx;unfold nL;dsimp only;rw[zq m0,wrapN m0];simp only[Np TF,ab0,Np (show(i+j)/2<n by omega),Np (show P.length<n by omega),aqs,gn_ gy,gn_ gx,aqo,hr,Un];unfold p1F;rw[gy];dsimp only
  cases lt y x<;>rfl) (by
  intro i;unfold nL;dsimp only;rw[aqt m0,aqr]) fuel (P.length+1) (P.length+1+B.length) (aqG _) m0 (aqG _) (by unfold fuel;omega) (.inl rfl) (.inl rfl)
 rw[hs,aqo];obtain⟨B1,B2,rfl,Y3⟩:=rK (l:=B) (s:=s-(P.length+1)) m0;unfold rB;dsimp only;have e1:P++x::(B1++B2++Q)=P++x::(B1++(B2++Q)):=by simp
 rw[e1];obtain⟨k,hk⟩:=ahc P8 x (B2++Q) s B1 P fuel m0 (by rw[<- e1];exact hn) (by simp at Qx;unfold fuel;omega);rw[hk];refine⟨B1++x::B2,by show some (P++(B1++x::(B2++Q)))=_;simp,C2 h sx sB hB ?_ ?_,List.perm_middle⟩
 ·by_cases h0:0<B1.length
  ·obtain⟨L,y,rfl⟩:=DO h0
   refine .inr ⟨L,y,rfl,?_⟩;have sy:=sB y m5;obtain e|e:=s3
   ·simp at Y3;omega
   ·have gy:=gB (s-1-(P.length+1)) y (by
     have:(L++[y]).length=s-(P.length+1):=Y3;simp at this;rw[aqR,aqx m0,show s-1-(P.length+1)-L.length=0 by omega];rfl)
    rw[show P.length+1+(s-1-(P.length+1))=s-1 by simp at Y3;omega]at gy;unfold p1F at e;rw[gy]at e;exact h.le_of sy sx e
  ·exact .inl (aq1.1 m0)
 ·by_cases h0:0<B2.length
  ·obtain⟨z,L,rfl⟩:=AM h0
   refine .inr ⟨z,L,rfl,?_⟩;obtain e|e:=s4
   ·simp at e;omega
   ·have gz:=gB (s-(P.length+1)) z (by rw[<- Y3];exact get_at _ _ _)
    rw[show P.length+1+(s-(P.length+1))=s by omega]at gz;unfold p1F at e;rw[gz]at e;exact e
  ·exact .inl (aq1.1 m0)
theorem aik (h:AE lt S)(hc:mi cmp lt S){n:Nat}(P8:n<=1000000000){P Q A:List α}{x:α}(sx:S x)(sA:∀ z∈A,S z)(hA:dS lt A)(hn:(P++(A++x::Q)).length=n) :
  ∃ M,((ao (n7 (P++(A++x::Q)) ((P.length+A.length:Nat):Int) cmp n) fuel ((P.length:Int),((P.length+A.length:Nat):Int))).bind (rz (P++(A++x::Q)) ((P.length+A.length:Nat):Int) n))=some (P++(M++Q))/\dS lt M/\M.Perm (A++[x]):=by
 have Qx:=hn;simp only[aqy,aqM]at Qx;have gx:(P++(A++x::Q))[P.length+A.length]?=some x:=by rw[<- aqR,<- aqy];exact get_at _ _ _
 have gA:∀ i y,A[i]?=some y->(P++(A++x::Q))[P.length+i]?=some y:=by
  intro i y hy;have hi:=(aqp.1 hy).1;rw[aqx m0,show P.length+i-P.length=i by omega,aqE hi];exact hy
 obtain⟨s,hs,s1,s2,s3,s4⟩:=xA (body:=n7 (P++(A++x::Q)) ((P.length+A.length:Nat):Int) cmp n) P.length (P.length+A.length) (p3F lt (P++(A++x::Q)) x) (by
  intro i j hi TF hj;obtain⟨y,hy⟩:=gol_ (l:=A) (i:=(i+j)/2-P.length) m0;have gy:=gA _ _ hy;rw[show P.length+((i+j)/2-P.length)=(i+j)/2 by omega]at gy;obtain⟨r,hr,Un⟩:=hc x y sx (sA y (aqw hy));unfold n7;dsimp only;rw[zq m0,wrapN m0];simp only[Np TF,ab0,Np (show(i+j)/2<n by omega),Np (show P.length+A.length<n by omega),aqs,gn_ gy,gn_ gx,aqo,hr,Un];unfold p3F;rw[gy];dsimp only
  cases lt x y<;>rfl) (by
  intro i;unfold n7;dsimp only;rw[aqt m0,aqr]) fuel P.length (P.length+A.length) (aqG _) m0 (aqG _) (by unfold fuel;omega) (.inl rfl) (.inl rfl)
 rw[hs,aqo];obtain⟨A1,A2,rfl,Y4⟩:=rK (l:=A) (s:=s-P.length) m0;unfold rz;dsimp only;have e1:P++(A1++A2++x::Q)=(P++A1)++(A2++x::Q):=by simp
 have hlA:(P++A1).length=s:=by simp;omega
 rw[e1,<- hlA];have VL:P.length+(A1++A2).length=(P++A1).length+A2.length:=by simp;omega
 rw[VL];obtain⟨k,hk⟩:=ag3 P8 x (P++A1) A2.length A2 Q fuel rfl (by rw[<- e1];exact hn) (by simp at Qx;unfold fuel;omega);rw[hk];refine⟨A1++x::A2,by show some ((P++A1)++x::(A2++Q))=_;simp,C2 h sx sA hA ?_ ?_,?_⟩
 ·by_cases h0:0<A1.length
  ·obtain⟨L,y,rfl⟩:=DO h0
   refine .inr ⟨L,y,rfl,?_⟩;obtain e|e:=s3
   ·simp at Y4;omega
   ·have gy:=gA (s-1-P.length) y (by
     have:(L++[y]).length=s-P.length:=Y4;simp at this;rw[aqR,aqx m0,show s-1-P.length-L.length=0 by omega];rfl)
    rw[show P.length+(s-1-P.length)=s-1 by simp at Y4;omega]at gy;unfold p3F at e;rw[gy]at e;simpa using e
  ·exact .inl (aq1.1 m0)
 ·by_cases h0:0<A2.length
  ·obtain⟨z,L,rfl⟩:=AM h0
   refine .inr ⟨z,L,rfl,?_⟩;have sz:=sA z m5;obtain e|e:=s4
   ·simp at e Y4;omega
   ·have gz:=gA (s-P.length) z (by rw[<- Y4];exact get_at _ _ _)
    rw[show P.length+(s-P.length)=s by omega]at gz;unfold p3F at e;rw[gz]at e;exact h.le_of sx sz (by simpa using e)
  ·exact .inl (aq1.1 m0)
 ·rw[aqR]
  refine List.Perm.append_left A1 ?_;exact(List.perm_append_comm (l₁:=[x]) (l₂:=A2))
end
section
variable {α:Type} {lt:α->α->Bool} {S:α->Prop} {cmp:α->α->Option Int}
def HU (rec:Nat->List α->Int->Int->Int->(α->α->Option Int)->Option (List α))(cmp:α->α->Option Int)(n:Nat)(D:List α)(a s m e mid b:Int):Option (List α) :=
 (bif decide (s<m)&&decide (m<e)then mM n D s m e cmp else some D).bind λc1 =>
 (bif decide (a<s)&&decide (s<mid)then rec n c1 a s mid cmp else some c1).bind λc2 =>
 (bif decide (mid<e)&&decide (e<b)then rec n c2 mid e b cmp else some c2).bind λc3=>some c3
theorem aek (rec:Nat->List α->Int->Int->Int->(α->α->Option Int)->Option (List α))(n:Nat)(D:List α)(a m b s:Int):jH D a m b cmp n rec (.inl (s,s))=HU rec cmp n D a s m (i64.wrap ((i64.wrap ((bM (i64.wrap (a+b)))+m))-s)) (bM (i64.wrap (a+b))) b:=by
 unfold jH HU;dsimp only;generalize bM (i64.wrap (a+b))=mid;generalize i64.wrap (i64.wrap (mid+m)-s)=e;generalize decide (s<m)=d1;generalize decide (m<e)=d2;generalize decide (a<s)=d3;generalize decide (s<mid)=d4;generalize decide (mid<e)=d5;generalize decide (e<b)=d6
 cases d1<;>cases d2<;>cases d3<;>cases d4<;>cases d5<;>cases d6<;>rfl
theorem amR (D:List α)(a m b:Int)(n:Nat):wm D a m b cmp n=jT D a m b cmp n:=rfl
theorem amQ (rec:Nat->List α->Int->Int->Int->(α->α->Option Int)->Option (List α))(D:List α)(a m b:Int)(n:Nat):r6 D a m b cmp n rec=jH D a m b cmp n rec:=by
 funext q
 cases q<;>rfl
theorem acL (h:AE lt S)(hc:mi cmp lt S){n:Nat}(P8:n<=1000000000){D:List α}(hD:D.length=n)(hS:∀ z∈D,S z){a m b lo hi:Nat}(hab:a<m/\m<b/\b<=n)(hlh:lo<=hi)(PG:a<=lo)(PT:hi<=m)(hlo2:(a+b)/2+m<=lo+b)(hhi2:hi+a<=(a+b)/2+m )(hhi3:hi<=(a+b)/2)(hlo3:m<=(a+b)/2+m-hi) :
  ∃ s:Nat,ao (jT D (a:Int) (m:Int) (b:Int) cmp n) fuel ((lo:Int),(hi:Int))=some (.inl ((s:Int),(s:Int)))/\lo<=s/\s<=hi/\(s=lo \/ ∃ x y,D[s-1]?=some x/\D[(a+b)/2+m-s]?=some y/\lt y x=false)/\(s=hi \/ ∃ x y,D[(a+b)/2+m-1-s]?=some x/\D[s]?=some y/\lt x y=true):=by
 obtain⟨s,hs,s1,s2,s3,s4⟩:=xA (body:=jT D (a:Int) (m:Int) (b:Int) cmp n) lo hi (p5F lt D ((a+b)/2+m-1)) (by
  intro i j RL TF hj;obtain⟨x,hx⟩:=gol_ (l:=D) (i:=(a+b)/2+m-1-(i+j)/2) m0;obtain⟨y,hy⟩:=gol_ (l:=D) (i:=(i+j)/2) m0;obtain⟨r,hr,Un⟩:=hc x y (hS x (aqw hx)) (hS y (aqw hy));unfold jT;dsimp only;rw[zq (i:=i) (j:=j) m0,zq (i:=a) (j:=b) m0,wrA ((a+b)/2) m m0,wr1 _ m0 m0,wrS ((a+b)/2+m-1) ((i+j)/2) m0 m0,wrapN m0];simp only[Np TF,ab0,Np (show(i+j)/2<n by omega),Np (show(a+b)/2+m-1-(i+j)/2<n by omega),aqs,gn_ hx,gn_ hy,aqo,hr,Un];unfold p5F;rw[hx,hy];dsimp only
  cases lt x y<;>rfl) (by
  intro i;unfold jT;dsimp only;rw[aqt m0,aqr]) fuel lo hi (aqG _) hlh (aqG _) (by unfold fuel;omega) (.inl rfl) (.inl rfl)
 refine⟨s,hs,s1,s2,?_,?_⟩
 ·obtain e|e:=s3
  ·exact .inl e
  ·by_cases VP:s=lo
   ·exact .inl VP
   ·refine .inr ?_
    obtain⟨x,hx⟩:=gol_ (l:=D) (i:=s-1) m0;obtain⟨y,hy⟩:=gol_ (l:=D) (i:=(a+b)/2+m-s) m0;unfold p5F at e;rw[show(a+b)/2+m-1-(s-1)=(a+b)/2+m-s by omega,hy,hx]at e;exact⟨x,y,hx,hy,by simpa using e⟩
 ·by_cases WC:s=hi
  ·exact .inl WC
  ·obtain e|e:=s4
   ·exact .inl e
   ·refine .inr ?_
    obtain⟨x,hx⟩:=gol_ (l:=D) (i:=(a+b)/2+m-1-s) m0;obtain⟨y,hy⟩:=gol_ (l:=D) (i:=s) m0;unfold p5F at e;rw[hx,hy]at e;exact⟨x,y,hx,hy,by simpa using e⟩
theorem BD (h:AE lt S)(hc:mi cmp lt S){n:Nat}(P8:n<=1000000000):∀ (q:Nat) (P A B Q:List α),A.length+B.length<=q->0<A.length->0<B.length->(∀ z∈P++(A++(B++Q)),S z)->dS lt A->dS lt B->(P++(A++(B++Q))).length=n ->
  ∃ M,HH q n (P++(A++(B++Q))) (P.length:Int) ((P.length+A.length:Nat):Int) ((P.length+A.length+B.length:Nat):Int) cmp=some (P++(M++Q))/\dS lt M/\M.Perm (A++B)
 |0,P,A,B,Q,hq,hA,hB,_,_,_,_=>by omega
 |q+1,P,A,B,Q,hq,hA,hB,hS,aA,aB,hn=>by
  have Qx:=hn;simp only[aqy]at Qx;have sA:∀ z∈A,S z:=λz hz=>hS z (by simp[hz])
  have sB:∀ z∈B,S z:=λz hz=>hS z (by simp[hz])
  show ∃ M,rf (HH q) n (P++(A++(B++Q))) (P.length:Int) ((P.length+A.length:Nat):Int) ((P.length+A.length+B.length:Nat):Int) cmp=some (P++(M++Q))/\_;unfold rf;rw[wrS (P.length+A.length) P.length m0 m0,wrS (P.length+A.length+B.length) (P.length+A.length) m0 m0,show P.length+A.length-P.length=A.length by omega,show P.length+A.length+B.length-(P.length+A.length)=B.length by omega];by_cases c1:A.length=1
  ·obtain⟨x,rfl⟩:∃ x,A=[x]:=match A,c1 with|[x],_=>⟨x,rfl⟩
   rw[aqu (show(([x]:List α).length:Int)=1 from rfl),aqs];obtain⟨M,k1,k2,k3⟩:=aiR h hc P8 (P:=P) (Q:=Q) (sA x m5) sB aB hn;exact⟨M,k1,k2,k3⟩
  ·rw[aqt (show ¬ (A.length:Int)=1 by omega),aqr]
   by_cases c2:B.length=1
   ·obtain⟨x,rfl⟩:∃ x,B=[x]:=match B,c2 with|[x],_=>⟨x,rfl⟩
    rw[aqu (show(([x]:List α).length:Int)=1 from rfl),aqs];obtain⟨M,k1,k2,k3⟩:=aik h hc P8 (P:=P) (Q:=Q) (sB x m5) sA aA hn;exact⟨M,k1,k2,k3⟩
   ·rw[aqt (show ¬ (B.length:Int)=1 by omega),aqr,zq m0]
    have hD:(P++(A++(B++Q))).length=n:=hn;have gA:∀ i y,A[i]?=some y->(P++(A++(B++Q)))[P.length+i]?=some y:=by
     intro i y hy;have hi:=(aqp.1 hy).1;rw[aqx m0,show P.length+i-P.length=i by omega,aqE hi];exact hy
    have gB:∀ i y,B[i]?=some y->(P++(A++(B++Q)))[P.length+A.length+i]?=some y:=by
     intro i y hy;have hi:=(aqp.1 hy).1;rw[aqx m0,aqx m0,show P.length+A.length+i-P.length-A.length=i by omega,aqE hi];exact hy
    generalize W8:(P.length+(P.length+A.length+B.length))/2=mid

    have key:∃ s:Nat,((bif decide (((mid:Nat):Int)<((P.length+A.length:Nat):Int))then(ao (jT (P++(A++(B++Q))) (P.length:Int) ((P.length+A.length:Nat):Int) ((P.length+A.length+B.length:Nat):Int) cmp n) fuel ((i64.wrap ((i64.wrap (((mid:Nat):Int)+((P.length+A.length:Nat):Int)))-((P.length+A.length+B.length:Nat):Int))),((mid:Nat):Int))).bind (jH (P++(A++(B++Q))) (P.length:Int) ((P.length+A.length:Nat):Int) ((P.length+A.length+B.length:Nat):Int) cmp n (HH q))else
      (ao (wm (P++(A++(B++Q))) (P.length:Int) ((P.length+A.length:Nat):Int) ((P.length+A.length+B.length:Nat):Int) cmp n) fuel ((P.length:Int),((P.length+A.length:Nat):Int))).bind (r6 (P++(A++(B++Q))) (P.length:Int) ((P.length+A.length:Nat):Int) ((P.length+A.length+B.length:Nat):Int) cmp n (HH q))))=jH (P++(A++(B++Q))) (P.length:Int) ((P.length+A.length:Nat):Int) ((P.length+A.length+B.length:Nat):Int) cmp n (HH q) (.inl ((s:Int),(s:Int))) /\
      P.length<=s/\s<=P.length+A.length/\P.length+A.length<=mid+(P.length+A.length)-s/\mid+(P.length+A.length)-s<=P.length+A.length+B.length/\s<=mid+(P.length+A.length) /\
      (s=P.length\/mid+(P.length+A.length)-s=P.length+A.length+B.length \/ ∃ x y,(P++(A++(B++Q)))[s-1]?=some x/\(P++(A++(B++Q)))[mid+(P.length+A.length)-s]?=some y/\lt y x=false) /\
      (mid+(P.length+A.length)-s=P.length+A.length\/s=P.length+A.length \/ ∃ x y,(P++(A++(B++Q)))[mid+(P.length+A.length)-1-s]?=some x/\(P++(A++(B++Q)))[s]?=some y/\lt x y=true):=by
     by_cases hm:mid<P.length+A.length
     ·rw[aqu (show((mid:Nat):Int)<((P.length+A.length:Nat):Int)by omega),aqs,wrA mid (P.length+A.length) m0,wrS (mid+(P.length+A.length)) (P.length+A.length+B.length) m0 m0]
      obtain⟨s,hs,s1,s2,s3,s4⟩:=acL h hc P8 hD hS (a:=P.length) (m:=P.length+A.length) (b:=P.length+A.length+B.length) (lo:=mid+(P.length+A.length)-(P.length+A.length+B.length)) (hi:=mid) m0 m0 m0 m0 m0 m0 m0 m0;rw[hs,aqo];rw[W8]at s3 s4;refine⟨s,rfl,m0,m0,m0,m0,m0,?_,?_⟩
      ·obtain e|e:=s3
       ·exact .inr (.inl m0)
       ·exact .inr (.inr e)
      ·obtain e|e:=s4
       ·exact .inl m0
       ·exact .inr (.inr e)
     ·rw[aqt (show ¬ ((mid:Nat):Int)<((P.length+A.length:Nat):Int)by omega),aqr,amR,amQ]
      obtain⟨s,hs,s1,s2,s3,s4⟩:=acL h hc P8 hD hS (a:=P.length) (m:=P.length+A.length) (b:=P.length+A.length+B.length) (lo:=P.length) (hi:=P.length+A.length) m0 m0 m0 m0 m0 m0 m0 m0;rw[hs,aqo];rw[W8]at s3 s4;refine⟨s,rfl,m0,m0,m0,m0,m0,?_,?_⟩
      ·obtain e|e:=s3
       ·exact .inl e
       ·exact .inr (.inr e)
      ·obtain e|e:=s4
       ·exact .inr (.inl e)
       ·exact .inr (.inr e)
    obtain⟨s,hk,s1,s2,s3,s4,s4b,s5,s6⟩:=key;rw[hk,aek,zq m0,W8,wrA mid (P.length+A.length) m0,wrS (mid+(P.length+A.length)) s s4b m0];obtain⟨A1,A2,rfl,Y4⟩:=rK (l:=A) (s:=s-P.length) m0;obtain⟨B1,B2,rfl,Y3⟩:=rK (l:=B) (s:=mid+(P.length+(A1++A2).length)-s-(P.length+(A1++A2).length)) m0;simp only[aqy]at hk s1 s2 s3 s4 s4b s5 s6 hA hB hq c1 c2 W8 Y3 Qx ⊢;have eS:s=P.length+A1.length:=m0
    have eE:mid+(P.length+(A1.length+A2.length))-s=P.length+(A1.length+A2.length)+B1.length:=m0
    have eM:mid=P.length+A1.length+B1.length:=m0

    have h1:A1=[]\/B2=[] \/ ∃ A' x y B',A1=A'++[x]/\B2=y::B'/\lt y x=false:=by
     by_cases z1:0<A1.length
     ·by_cases z2:0<B2.length
      ·obtain⟨A',x,rfl⟩:=DO z1
       obtain⟨y,B',rfl⟩:=AM z2;refine .inr (.inr ⟨A',x,y,B',rfl,rfl,?_⟩);simp only[aqy,aqM,aqV]at *;obtain e|e|⟨x',y',e1,e2,e3⟩:=s5
       ·omega
       ·omega
       ·have g1:=gA A'.length x m5
        have g2:=gB B1.length y m5;rw[show P.length+A'.length=s-1 by omega,e1]at g1
        try simp only[aqy,aqM,aqV]at g2
        rw[show P.length+(A'.length+(0+1)+A2.length)+B1.length=mid+(P.length+(A'.length+(0+1)+A2.length))-s by omega,e2]at g2;rw[<- aqX g1,<- aqX g2];exact e3
      ·exact .inr (.inl (aq1.1 m0))
     ·exact .inl (aq1.1 m0)
    have h2:B1=[]\/A2=[] \/ ∃ A' x y B',B1=A'++[x]/\A2=y::B'/\lt y x=false:=by
     by_cases z1:0<B1.length
     ·by_cases z2:0<A2.length
      ·obtain⟨B',x,rfl⟩:=DO z1
       obtain⟨y,A',rfl⟩:=AM z2;refine .inr (.inr ⟨B',x,y,A',rfl,rfl,?_⟩);have sx:=sB x m5;have sy:=sA y m5;simp only[aqy,aqM,aqV]at *;obtain e|e|⟨x',y',e1,e2,e3⟩:=s6
       ·omega
       ·omega
       ·have g1:=gB B'.length x m5
        have g2:=gA A1.length y m5
        try simp only[aqy,aqM,aqV]at g1
        rw[show P.length+(A1.length+(A'.length+1))+B'.length=mid+(P.length+(A1.length+(A'.length+1)))-1-s by omega,e1]at g1;rw[<- eS,e2]at g2;rw[aqX g1,aqX g2]at e3;exact h.le_of sx sy e3
      ·exact .inr (.inl (aq1.1 m0))
     ·exact .inl (aq1.1 m0)
    have pA:=List.pairwise_append.1 aA;have pB:=List.pairwise_append.1 aB

    unfold HU;rw[eE,eS,eM];have r1:(bif decide (((P.length+A1.length:Nat):Int)<((P.length+(A1.length+A2.length):Nat):Int))&&decide (((P.length+(A1.length+A2.length):Nat):Int)<((P.length+(A1.length+A2.length)+B1.length:Nat):Int))then mM n (P++(A1++A2++(B1++B2++Q))) ((P.length+A1.length:Nat):Int) ((P.length+(A1.length+A2.length):Nat):Int) ((P.length+(A1.length+A2.length)+B1.length:Nat):Int) cmp else some (P++(A1++A2++(B1++B2++Q))))=some (P++(A1++(B1++(A2++(B2++Q))))):=by
     have e0:P++(A1++A2++(B1++B2++Q))=(P++A1)++(A2++(B1++(B2++Q))):=by simp
     by_cases z1:0<A2.length
     ·by_cases z2:0<B1.length
      ·rw[aqu m0,aqu m0,Bool.and_self,aqs]
       have hr:=Iz P8 (P:=P++A1) (A:=A2) (B:=B1) (Q:=B2++Q) cmp z1 z2 (by rw[<- e0];exact hn);rw[e0];simp only[aqy]at hr;rw[show P.length+(A1.length+A2.length)=P.length+A1.length+A2.length by omega,hr];simp
      ·have:B1=[]:=aq1.1 m0
       subst this;rw[show decide (((P.length+(A1.length+A2.length):Nat):Int)<((P.length+(A1.length+A2.length)+([]:List α).length:Nat):Int))=false from aqt m5,Bool.and_false,aqr];simp
     ·have:A2=[]:=aq1.1 m0
      subst this;rw[show decide (((P.length+A1.length:Nat):Int)<((P.length+(A1.length+([]:List α).length):Nat):Int))=false from aqt m5,Bool.false_and,aqr];simp
    rw[r1,aqo];have r2:∃ M1,(bif decide ((P.length:Int)<((P.length+A1.length:Nat):Int))&&decide (((P.length+A1.length:Nat):Int)<((P.length+A1.length+B1.length:Nat):Int))then HH q n (P++(A1++(B1++(A2++(B2++Q))))) (P.length:Int) ((P.length+A1.length:Nat):Int) ((P.length+A1.length+B1.length:Nat):Int) cmp else some (P++(A1++(B1++(A2++(B2++Q))))))=some (P++(M1++(A2++(B2++Q))))/\dS lt M1/\M1.Perm (A1++B1):=by
     by_cases z1:0<A1.length
     ·by_cases z2:0<B1.length
      ·rw[aqu m0,aqu m0,Bool.and_self,aqs]
       exact BD h hc P8 q P A1 B1 (A2++(B2++Q)) m0 z1 z2 (λz hz=>hS z (by simp only[aqS]at hz ⊢;rcases hz with hz|hz|hz|hz|hz|hz<;>simp[hz])) pA.1 pB.1 (by rw[<- hn];simp only[aqy];omega)
      ·have:B1=[]:=aq1.1 m0
       subst this;rw[show decide (((P.length+A1.length:Nat):Int)<((P.length+A1.length+([]:List α).length:Nat):Int))=false from aqt m5,Bool.and_false,aqr];exact⟨A1,m5,pA.1,m5⟩
     ·have:A1=[]:=aq1.1 m0
      subst this;rw[show decide ((P.length:Int)<((P.length+([]:List α).length:Nat):Int))=false from aqt m5,Bool.false_and,aqr];exact⟨B1,m5,pB.1,m5⟩
    obtain⟨M1,r2,m1,p1⟩:=r2;rw[r2,aqo];have hM1:M1.length=A1.length+B1.length:=by rw[p1.length_eq,aqy]
    have r3:∃ M2,(bif decide (((P.length+A1.length+B1.length:Nat):Int)<((P.length+(A1.length+A2.length)+B1.length:Nat):Int))&&decide (((P.length+(A1.length+A2.length)+B1.length:Nat):Int)<((P.length+(A1.length+A2.length)+(B1.length+B2.length):Nat):Int))then HH q n (P++(M1++(A2++(B2++Q)))) ((P.length+A1.length+B1.length:Nat):Int) ((P.length+(A1.length+A2.length)+B1.length:Nat):Int) ((P.length+(A1.length+A2.length)+(B1.length+B2.length):Nat):Int) cmp else some (P++(M1++(A2++(B2++Q)))))=some (P++(M1++(M2++Q)))/\dS lt M2/\M2.Perm (A2++B2):=by
     by_cases z1:0<A2.length
     ·by_cases z2:0<B2.length
      ·rw[aqu m0,aqu m0,Bool.and_self,aqs]
       obtain⟨M2,k1,k2,k3⟩:=BD h hc P8 q (P++M1) A2 B2 Q m0 z1 z2 (λz hz=>by
        simp only[aqS]at hz;obtain(hz|hz)|hz|hz|hz:=hz
        ·exact hS z (by simp[hz])
        ·have:=p1.mem_iff.1 hz
         simp only[aqS]at this;rcases this with hz|hz<;>exact hS z (by simp[hz])
        ·exact hS z (by simp[hz])
        ·exact hS z (by simp[hz])
        ·exact hS z (by simp[hz])) pA.2.1 pB.2.1 (by rw[<- hn];simp only[aqy];omega)
       refine⟨M2,?_,k2,k3⟩;simp only[aqy,hM1]at k1;rw[show P.length+A1.length+B1.length=P.length+(A1.length+B1.length)by omega,show P.length+(A1.length+A2.length)+B1.length=P.length+(A1.length+B1.length)+A2.length by omega,show P.length+(A1.length+A2.length)+(B1.length+B2.length)=P.length+(A1.length+B1.length)+A2.length+B2.length by omega];have e0:P++(M1++(A2++(B2++Q)))=(P++M1)++(A2++(B2++Q)):=by simp
       rw[e0,k1];simp
      ·have:B2=[]:=aq1.1 m0
       subst this;rw[show decide (((P.length+(A1.length+A2.length)+B1.length:Nat):Int)<((P.length+(A1.length+A2.length)+(B1.length+([]:List α).length):Nat):Int))=false from aqt m5,Bool.and_false,aqr];exact⟨A2,m5,pA.2.1,m5⟩
     ·have:A2=[]:=aq1.1 m0
      subst this;rw[show decide (((P.length+A1.length+B1.length:Nat):Int)<((P.length+(A1.length+([]:List α).length)+B1.length:Nat):Int))=false from aqt m5,Bool.false_and,aqr];exact⟨B2,m5,pB.2.1,m5⟩
    obtain⟨M2,r3,m2,p2⟩:=r3;rw[r3];refine⟨M1++M2,m5,IX h (λz hz=>?_) aA aB h1 h2 m1 m2 p1 p2,G1 p1 p2⟩;simp only[aqS]at hz;rcases hz with(hz|hz)|hz|hz<;>exact hS z (by simp[hz])
end
section
variable {α:Type} {lt:α->α->Bool} {S:α->Prop} {cmp:α->α->Option Int}
inductive Rn (lt:α->α->Bool)(bs:Nat):List α->Prop
 |last {A:List α}:A.length<=bs->dS lt A->Rn lt bs A
 |cons {A R:List α}:A.length=bs->dS lt A->Rn lt bs R->Rn lt bs (A++R)
inductive Fu (lt:α->α->Bool)(bs:Nat):List α->Prop
 |nil:Fu lt bs []
 |snoc {P A:List α}:Fu lt bs P->A.length=bs->dS lt A->Fu lt bs (P++A)
theorem Fu.rn {bs:Nat}{P:List α}(h:Fu lt bs P):∀ {R:List α},Rn lt bs R->Rn lt bs (P++R):=by
 induction h with
 |nil=>intro R h;exact h
 | @snoc P A _ hl ha ih =>
  intro R h;rw[aqR];exact ih (.cons hl ha h)
theorem Rn.asc {bs:Nat}{l:List α}(h:Rn lt bs l)(hb:0<bs)(hl:l.length<=bs):dS lt l:=by
 cases h with
 |last _ ha=>exact ha
 | @cons A R h1 h2 h3 =>
  have:R=[]:=aq1.1 (by rw[aqy]at hl;omega);subst this;rw[aqZ];exact h2
theorem abx (h:AE lt S)(hc:mi cmp lt S){n:Nat}(P8:n<=100000000):∀ (N:Nat) (P R:List α),Fu lt 20 P->(∀ z∈P++R,S z)->(P++R).length=n->R.length<N ->
  ∃ P' R' b,ao (gw (n:Int) cmp n) N (P++R,(P.length:Int),((P.length+20:Nat):Int))=some (.inl (P'++R',(P'.length:Int),b))/\Fu lt 20 P'/\R'.length<20/\(P'++R').Perm (P++R)
 |0,P,R,_,_,_,hN=>by omega
 |N+1,P,R,hF,hS,hn,hN=>by
  have Qx:=hn;rw[aqy]at Qx;rw[ao];by_cases hb:P.length+20<=n
  ·obtain⟨M,R1,rfl,hM⟩:=rK (l:=R) (s:=20) m0
   rw[aqy]at Qx hN;obtain⟨M',k1,k2,k3⟩:=wj h hc (n:=n) m0 (P:=P) (M:=M) (Q:=R1) (λz hz=>hS z (by simp[hz])) hn;have hM':M'.length=20:=by rw[k3.length_eq,hM]
   have hB:gw (n:Int) cmp n (P++(M++R1),(P.length:Int),((P.length+20:Nat):Int))=some (.next ((P++M')++R1,(((P++M').length:Nat):Int),(((P++M').length+20:Nat):Int))):=by
    unfold gw;dsimp only;rw[aqu (show((P.length+20:Nat):Int)<=(n:Int)by omega),aqs,<- hM,k1,aqo,hM,show i64.wrap (((P.length+20:Nat):Int)+20)=((P.length+20+20:Nat):Int)from wrA _ 20 m0];simp[hM']
   rw[hB];obtain⟨P',R',b,q1,q2,q3,q4⟩:=abx h hc P8 N (P++M') R1 (.snoc hF hM' k2) (λz hz=>by
    simp only[aqS]at hz;obtain(hz|hz)|hz:=hz
    ·exact hS z (by simp[hz])
    ·exact hS z (by simp[k3.mem_iff.1 hz])
    ·exact hS z (by simp[hz])) (by rw[aqy,aqy];omega) m0
   refine⟨P',R',b,q1,q2,q3,q4.trans ?_⟩;rw[aqR];exact(k3.append_right R1).append_left P
  ·have hB:gw (n:Int) cmp n (P++R,(P.length:Int),((P.length+20:Nat):Int))=some (.exit (P++R,(P.length:Int),((P.length+20:Nat):Int))):=by
    unfold gw;dsimp only;rw[aqt m0,aqr]
   rw[hB];exact⟨P,R,_,rfl,hF,m0,.refl _⟩
theorem ab6 (h:AE lt S)(hc:mi cmp lt S){n bs:Nat}(P8:n<=100000000)(hb:0<bs)(PP:bs<=n):∀ (N:Nat) (P R:List α),Fu lt (2*bs) P->Rn lt bs R->(∀ z∈P++R,S z)->(P++R).length=n->R.length<N ->
  ∃ P' R' b,ao (gv (n:Int) cmp n (bs:Int)) N (P++R,(P.length:Int),((P.length+2*bs:Nat):Int))=some (.inl (P'++R',(P'.length:Int),b))/\Fu lt (2*bs) P'/\Rn lt bs R'/\R'.length<2*bs/\(P'++R').Perm (P++R)
 |0,P,R,_,_,_,_,hN=>by omega
 |N+1,P,R,hF,hR,hS,hn,hN=>by
  have Qx:=hn;rw[aqy]at Qx;rw[ao];by_cases hle:P.length+2*bs<=n
  ·
   obtain⟨A,B,Q,rfl,hA,hB,aA,aB,hQ⟩:∃ A B Q,R=A++(B++Q)/\A.length=bs/\B.length=bs/\dS lt A/\dS lt B/\Rn lt bs Q:=by
    cases hR with
    |last h1 _=>omega
    | @cons A R1 h1 h2 h3 =>
     rw[aqy]at Qx
     cases h3 with
     |last g1 g2=>exact⟨A,R1,[],by rw[aqZ],h1,m0,h2,g2,.last (aqL _) List.Pairwise.nil⟩
     | @cons B R2 g1 g2 g3=>exact⟨A,B,R2,rfl,h1,g1,h2,g2,g3⟩
   rw[aqy,aqy]at Qx hN;obtain⟨M,k1,k2,k3⟩:=BD h hc (n:=n) m0 fuel P A B Q (by unfold fuel;omega) m0 m0 hS aA aB hn;have hM:M.length=2*bs:=by rw[k3.length_eq,aqy];omega
   have hBo:gv (n:Int) cmp n (bs:Int) (P++(A++(B++Q)),(P.length:Int),((P.length+2*bs:Nat):Int))=some (.next ((P++M)++Q,(((P++M).length:Nat):Int),(((P++M).length+2*bs:Nat):Int))):=by
    unfold gv;dsimp only;rw[hA,hB,show P.length+bs+bs=P.length+2*bs by omega]at k1;rw[aqu (show((P.length+2*bs:Nat):Int)<=(n:Int)by omega),aqs,wrA P.length bs m0,k1,aqo,show i64.wrap ((2:Int)*(bs:Int))=((2*bs:Nat):Int)by rw[dj m0];omega,wrA _ (2*bs) m0];simp[hM]
   rw[hBo];obtain⟨P',R',b,q1,q2,q3,q4,q5⟩:=ab6 h hc P8 hb PP N (P++M) Q (.snoc hF hM k2) hQ (λz hz=>by
    simp only[aqS]at hz;obtain(hz|hz)|hz:=hz
    ·exact hS z (by simp[hz])
    ·have:=k3.mem_iff.1 hz;simp only[aqS]at this
     rcases this with hz|hz<;>exact hS z (by simp[hz])
    ·exact hS z (by simp[hz])) (by rw[aqy,aqy];omega) m0
   refine⟨P',R',b,q1,q2,q3,q4,q5.trans ?_⟩;rw[aqR];refine List.Perm.append_left P ?_;rw[<- aqR];exact k3.append_right Q
  ·have hBo:gv (n:Int) cmp n (bs:Int) (P++R,(P.length:Int),((P.length+2*bs:Nat):Int))=some (.exit (P++R,(P.length:Int),((P.length+2*bs:Nat):Int))):=by
    unfold gv;dsimp only;rw[aqt m0,aqr]
   rw[hBo];exact⟨P,R,_,rfl,hF,hR,m0,.refl _⟩
theorem Gv (h:AE lt S)(hc:mi cmp lt S){n bs:Nat}(P8:n<=100000000)(hb:0<bs)(PP:bs<n){c:List α}(hR:Rn lt bs c)(hS:∀ z∈c,S z)(hn:c.length=n):∃ c',gV (n:Int) cmp n (c,(bs:Int))=some (.next (c',((2*bs:Nat):Int)))/\Rn lt (2*bs) c'/\c'.Perm c:=by
 obtain⟨P,R,b,q1,q2,q3,q4,q5⟩:=ab6 h hc P8 hb m0 fuel [] c .nil hR hS hn (by unfold fuel;omega);rw[aqv]at q1 q5;have hl:=q5.length_eq;rw[aqy,hn]at hl;have e2:i64.wrap ((2:Int)*(bs:Int))=((2*bs:Nat):Int):=by rw[dj m0];omega
 have e3:i64.wrap ((bs:Int)*2)=((2*bs:Nat):Int):=by rw[dj m0];omega
 simp only[aqV,aq8]at q1;unfold gV;dsimp only;rw[aqu (show(bs:Int)<(n:Int)by omega),aqs,e2];rw[show((0:Nat):Int)=0 from rfl]at q1;rw[q1,aqo];unfold oj;dsimp only;rw[wrA P.length bs m0,e3];have hS':∀ z∈P++R,S z:=λz hz=>hS z (q5.mem_iff.1 hz)
 by_cases O0:P.length+bs<n
 ·rw[aqu (show((P.length+bs:Nat):Int)<(n:Int)by omega),aqs]
  obtain⟨A,B,rfl,hA,hB,aA,aB⟩:∃ A B,R=A++B/\A.length=bs/\0<B.length/\dS lt A/\dS lt B:=by
   cases q3 with
   |last h1 _=>omega
   | @cons A R1 h1 h2 h3 =>
    rw[aqy]at hl q4;exact⟨A,R1,rfl,h1,m0,h2,h3.asc hb m0⟩
  rw[aqy]at hl q4;obtain⟨M,k1,k2,k3⟩:=BD h hc (n:=n) m0 fuel P A B [] (by unfold fuel;omega) m0 hB (by simpa using hS') aA aB (by rw[aqZ,aqy,aqy];omega);have hM:M.length=A.length+B.length:=by rw[k3.length_eq,aqy]
  rw[hA,show P.length+bs+B.length=n by omega,aqZ]at k1;rw[k1,aqo,aqZ];exact⟨P++M,rfl,q2.rn (.last m0 k2),(k3.append_left P).trans q5⟩
 ·rw[aqt (show ¬ ((P.length+bs:Nat):Int)<(n:Int)by omega),aqr]
  exact⟨P++R,rfl,q2.rn (.last m0 (q3.asc hb m0)),q5⟩
theorem acg (h:AE lt S)(hc:mi cmp lt S){n:Nat}(P8:n<=100000000):∀ (N bs:Nat) (c:List α),0<bs->bs<=2*n+20->Rn lt bs c->(∀ z∈c,S z)->c.length=n->n-bs<N ->
  ∃ c' b,ao (gV (n:Int) cmp n) N (c,(bs:Int))=some (.inl (c',b))/\dS lt c'/\c'.Perm c
 |0,bs,c,_,_,_,_,_,hN=>by omega
 |N+1,bs,c,hb,PP,hR,hS,hn,hN=>by
  rw[ao];by_cases O0:bs<n
  ·obtain⟨c',k1,k2,k3⟩:=Gv h hc P8 hb O0 hR hS hn
   rw[k1];obtain⟨c2,b,q1,q2,q3⟩:=acg h hc P8 N (2*bs) c' m0 m0 k2 (λz hz=>hS z (k3.mem_iff.1 hz)) (by rw[k3.length_eq];exact hn) m0;exact⟨c2,b,q1,q2,q3.trans k3⟩
  ·have hB:gV (n:Int) cmp n (c,(bs:Int))=some (.exit (c,(bs:Int))):=by
    unfold gV;dsimp only;rw[aqt m0,aqr]
   rw[hB];exact⟨c,_,rfl,hR.asc hb m0,.refl _⟩
theorem IL (h:AE lt S)(hc:mi cmp lt S){n:Nat}(P8:n<=100000000){l:List α}(hS:∀ z∈l,S z)(hn:l.length=n):∃ r,xJ n l (n:Int) cmp=some r/\dS lt r/\r.Perm l:=by
 obtain⟨P,R,b,q1,q2,q3,q4⟩:=abx h hc P8 fuel [] l .nil hS hn (by unfold fuel;omega);rw[aqv]at q1 q4;have hl:=q4.length_eq;rw[aqy,hn]at hl;have hS':∀ z∈P++R,S z:=λz hz=>hS z (q4.mem_iff.1 hz)
 obtain⟨M,k1,k2,k3⟩:=wj h hc (n:=n) m0 (P:=P) (M:=R) (Q:=[]) (λz hz=>hS' z (by simp[hz])) (by rw[aqZ,aqy];omega);rw[show P.length+R.length=n by omega,aqZ,aqZ]at k1;have hM:M.length=R.length:=k3.length_eq;obtain⟨c,b2,w1,w2,w3⟩:=acg h hc P8 fuel 20 (P++M) m0 m0 (q2.rn (.last m0 k2)) (λz hz=>by
  obtain hz|hz:=aqS.1 hz
  ·exact hS' z (by simp[hz])
  ·exact hS' z (by simp[k3.mem_iff.1 hz])) (by rw[aqy];omega) (by unfold fuel;omega)
 refine⟨c,?_,w2,(w3.trans (k3.append_left P)).trans q4⟩;unfold xJ;simp only[aqV,aq8]at q1;rw[show((0:Nat):Int)=0 from rfl,show((20:Nat):Int)=20 from rfl]at q1;rw[show((20:Nat):Int)=20 from rfl]at w1;rw[q1,aqo];unfold og;dsimp only;rw[k1,aqo,w1];rfl
theorem IK (h:AE lt S)(hc:mi cmp lt S){n:Nat}(P8:n<=100000000){l:List α}(hS:∀ z∈l,S z)(hn:l.length=n):∃ r,xu n l cmp=some r/\dS lt r/\r.Perm l:=by
 obtain⟨r,h1,h2,h3⟩:=IL h hc P8 hS hn;refine⟨r,?_,h2,h3⟩;unfold xu;rw[h1];rfl
end
theorem J2 {s:ByteArray}:∀ {G:List bC},eQ s G=none ->∀ g∈G,s≠cL g.f.row
 |[],_,_,h=>by cases h
 |g0::G,h,g,hg=>by
  unfold eQ at h;by_cases e:s=cL g0.f.row
  ·rw[if_pos e]at h;cases h
  ·rw[if_neg e]at h
   cases hr:eQ s G with
   |none =>
    obtain rfl|hg:=aqH.1 hg
    ·exact e
    ·exact J2 hr g hg
   |some j=>rw[hr]at h;cases h
theorem afz {G:List bC}(h:G.Pairwise λa b=>cL a.f.row≠cL b.f.row)(f:ap):(fm G f).Pairwise λa b=>cL a.f.row≠cL b.f.row:=by
 unfold fm
 cases aw f.valid with
 |false=>exact h
 |true =>
  rw[aqs]
  cases hf:eQ (cL f.row) G with
  |none =>
   show(G++[(⟨f,[f.valid]⟩:bC)]).Pairwise _;refine List.pairwise_append.2 ⟨h,m5,λa ha b hb=>?_⟩;rw[aq6.1 hb];exact λe=>J2 hf a ha e.symm
  |some i =>
   show(match G[i]? with|some g=>G.set i (⟨g.f,g.ps++[f.valid]⟩:bC)|none=>G).Pairwise _
   cases hg:G[i]? with
   |none=>exact h
   |some g =>
    show(G.set i (⟨g.f,g.ps++[f.valid]⟩:bC)).Pairwise _;have hk:(G.set i (⟨g.f,g.ps++[f.valid]⟩:bC)).map (λa=>cL a.f.row)=G.map λa=>cL a.f.row:=by
     rw[List.map_set];have:(G.map λa=>cL a.f.row)[i]?=some (cL g.f.row):=by rw[aqN,hg];rfl
     apply List.ext_getElem?;intro j;by_cases e:i=j
     ·subst e
      have O0:=(aqp.1 this).1;rw[aqJ O0,this]
     ·rw[aqK e]
    have hp:∀ l:List bC,(l.map λa=>cL a.f.row).Pairwise (λa b=>a≠b)↔l.Pairwise λa b=>cL a.f.row≠cL b.f.row:=λl=>List.pairwise_map
    rw[<- hp,hk,hp];exact h
theorem afB (l:List ap):(dn l).Pairwise λa b=>cL a.f.row≠cL b.f.row:=by
 have:∀ (l:List ap) (G:List bC),(G.Pairwise λa b=>cL a.f.row≠cL b.f.row)->(l.foldl fm G).Pairwise λa b=>cL a.f.row≠cL b.f.row:=by
  intro l
  induction l with
  |nil=>intro G h;exact h
  |cons f l ih=>intro G h;exact ih _ (afz h f)
 exact this l [] List.Pairwise.nil
theorem NY (l:List ap):((dn l).map λg=>(⟨g.f.row,g.ps⟩:ac)).Pairwise λa b=>a.row≠b.row:=by
 rw[List.pairwise_map];refine(afB l).imp ?_;intro a b h e;exact h (by show cL a.f.row=cL b.f.row;rw[show a.f.row=b.f.row from e])
def ak1 (a b:ac):Bool:=decide (fM a b<0)
theorem ahb {α:Type}{R:α->α->Prop}(hs:∀ a b,R a b->R b a):∀ {l:List α},l.Pairwise R ->∀ a∈l,∀ b∈l,a≠b->R a b
 |[],_,a,ha,_,_,_=>by cases ha
 |x::l,h,a,ha,b,hb,Pn=>by
  obtain⟨h1,h2⟩:=aro.1 h;obtain ea|ha:=aqH.1 ha
  ·obtain eb|hb:=aqH.1 hb
   ·exact absurd (ea.trans eb.symm) Pn
   ·rw[ea];exact h1 b hb
  ·obtain eb|hb:=aqH.1 hb
   ·rw[eb];exact hs _ _ (h1 a ha)
   ·exact ahb hs h2 a ha b hb Pn
theorem af4 {X:List ac}(hd:X.Pairwise λa b=>a.row≠b.row):AE ak1 (λx=>x∈X):=by
 refine⟨λx _=>?_,λx y z _ _ _ h1 h2=>?_,λx y hx hy h1 h2=>?_⟩
 ·unfold ak1 fM
  rw[tCr_.refl];rfl
 ·exact aqu (tCr_.trans _ _ _ (aqT h1) (aqT h2))
 ·have h1:¬ bL x.row y.row<0:=of_decide_eq_false h1
  have h2:¬ bL y.row x.row<0:=of_decide_eq_false h2;have hz:bL x.row y.row=0:=by
   have:=tCr_.anti x.row y.row;have:=tCr_.anti y.row x.row;omega
  have X6:=tCr_.zero _ _ hz;refine Classical.byContradiction λPn=>?_
  exact ahb (R:=λa b:ac=>a.row≠b.row) (λ_ _ h e=>h e.symm) hd x hx y hy Pn X6
theorem Lr (X:List ac):dS ak1 (mo fM X):=by
 refine(FT (c:=fM) (λa b d h1 h2=>?_) (λa b h=>?_) X).imp ?_
 ·have:=tCr_.anti
  by_cases e1:bL a.row b.row=0
  ·have:=tCr_.zero _ _ e1;show bL a.row d.row<=0;rw[this];exact h2
  ·by_cases e2:bL b.row d.row=0
   ·have:=tCr_.zero _ _ e2;show bL a.row d.row<=0;rw[<- this];exact h1
   ·exact Int.le_of_lt (tCr_.trans _ _ _ (show bL a.row b.row<0 by have:bL a.row b.row<=0:=h1;omega) (show bL b.row d.row<0 by have:bL b.row d.row<=0:=h2;omega))
 ·have:=tCr_.anti b.row a.row
  show bL b.row a.row<=0;have h:¬ bL a.row b.row<0:=h;have h3:=tCr_.anti a.row b.row;omega
 ·intro a b h
  have h:bL a.row b.row<=0:=h;refine aqt ?_;show ¬ bL b.row a.row<0;have:=tCr_.anti b.row a.row;omega
theorem ad7 (X:List ac)(hr:∀ s∈X,s.row.length<=4000000000000):mi uV ak1 (λx=>x∈X):=λx y hx hy=>⟨_,aaE x y (hr x hx) (hr y hy),rfl⟩
theorem NQ {X:List ac}(hd:X.Pairwise λa b=>a.row≠b.row)(hl:X.length<=100000000)(hr:∀ s∈X,s.row.length<=4000000000000):xu X.length X uV=some (mo fM X):=by
 obtain⟨r,h1,h2,h3⟩:=IK (af4 hd) (ad7 X hr) hl (λz hz=>hz) rfl;rw[h1,EV (af4 hd) (λx hx=>h3.mem_iff.1 hx) h2 (Lr X) (h3.trans (nO fM X).symm)]
theorem adg (v:Nat)(X:List ac):cz af 2 v X = .row v ((X.map ig).map qH) 2:=by
 unfold cz;rw[List.map_map,List.map_map];rfl
theorem aas (v:Nat){X:List ac}{n:Nat}(hn:X.length=n)(hd:X.Pairwise λa b=>a.row≠b.row)(hl:n<=100000000)(hr:∀ s∈X,s.row.length<=4000000000000):RTz 238 [.row v ((X.map ig).map qH) 2] [.one (.sl 0 v 0 n),.one (.c (.fn 239 []))] [.row v (((mo fM X).map ig).map qH) 2] (.tup []):=by
 subst hn;have:=Gt (n:=X.length) (a_x:=X) (a_cmp:=uV) (v:=v) (zr:=239) (zc:=[]) (λy0 y1 r h=>gRowsC_ok h) (NQ hd hl hr);rw[adg,adg]at this;exact this
theorem aih {P:Program}{ti:TI}{N:Nat}{ds:List (Option Tmp)}{K:Tm->List Ob->Prop}{o:Oper}{rest:List Oper}{T:Tm}{L L':List Ob}{x y:Operand}{t tx E:TypeId}{es xs:List (List AC)}{i n k by_ d:Nat}{vx:AV}(hd:o.dst=some d)(hN:Nat.blt d N=true)(hg:gg ds T o.guard=some true)
  (ho:o.op = .call { callee := .builtin .append,args :=#[x,y],argTypes :=#[t,tx] }) (hx:look T x=some (.one (.own es i))) (hy:look T y=some vx) (hl:dw vx=some xs) (ht:ti.elem t=some E) (P2:ti.size E=some k) (hb:ti.bytes E=some by_) (hL:L[i]?=some (.spare n k))
  (hφ:(ti.elem tx).isSome/\es.length=n/\(ti.zok E=true/\0<k)/\(∀ e∈xs,e.length=k)/\(n+xs.length)*by_<=140737488355328/\n+xs.length<=140737488355328) (WI:L.set i (.spare (n+xs.length) k)=L')
  (h:aI P ti N ds K rest ((d,.one (.own (es++xs) i))::T) L'):aI P ti N ds K (o::rest) T L :=
 st_lop hd hN hg (v := .one (.own (es++xs) i)) (L':=L.set i (.spare (n+xs.length) k)) (φ:=(ti.elem tx).isSome/\k=k/\es.length=n/\(ti.zok E=true/\0<k)/\(∀ e∈xs,e.length=k)/\(n+xs.length)*by_<=140737488355328/\n+xs.length<=140737488355328)
  (by rw[ho];simp[Gz,hx,hy,su,hl,ht,P2,hb,hL]) ⟨hφ.1,rfl,hφ.2⟩ (by rw[WI];exact h)
theorem Ox (l:List ap)(hl:l.length<=300)(h:∀ f∈l,f.row.length<=1000 /\ ∀ v∈f.row,VOK v):PTz 202 [.one (.lst (l.map aH))] (.val (.one (.lst ((mm l).map af)))):=by
 refine pa_ ci Tryz.func202 rfl rfl Tryz.ntmps202 m5 ?_;simp only[argT,PV.av,aqB,aqF];obtain⟨n,hn⟩:∃ n,l.length=n:=⟨_,rfl⟩;have hml:(((l.map aH).length:Nat):Int)=n:=by simp[hn]
 repeat' (first|refine gw_ ci aY ?_|refine gi_ (λhb=>?_) (λhb=>?_)|(refine b9 rfl rfl rfl rfl rfl u_ ?_)|fail)
 refine cu (λi:Nat=>[(0,.one (.c (.lst (l.map aH)))),(3,.one (.mp 0)),(4,aaV (dn (l.take i))),(11,.one (.c (.lst (l.map aH)))),(12,.one (.c (.int .i64 n))),(13,.one (.c (.int .i64 i)))]) (λi=>acS (dn (l.take i))) (λi=>i<=n) (λi=>n-i) 0 m0 (λ_ _=>aqL _)
  (fm_ ⟨rfl,rfl,rfl,rfl,aU hml,rfl,t7⟩ [] rfl ⟨t7,(by cases (dn (l.take 0))<;>first|(show 0<_;simp[acS,uE])|skip),pg _,t7,t7,t7,t7⟩ (kq _)) ?_
 intro i hi;have VF:=tj (l.take i);have hgm:=Ag (l.take i);rw[ari]at VF;by_cases O0:i<n
 ·obtain⟨f,hx⟩:=gol_ (show i<l.length by omega)
  have hfm:=aqw hx;have hN:decide ((i:Int)<n)=true:=by simp;exact O0
  have QH:dn (l.take (i+1))=fm (dn (l.take i)) f:=by rw[bN hx];exact G8 _ _
  have QQ:=gPV_ok (iN f.valid);have Y5:=N5 f.row (h f hfm).1 (h f hfm).2;have W9:(l.map aH)[((i:Nat):Int).toNat]?=some (aH f):=bu hx;generalize dn (l.take i)=G at VF hgm QH;unfold fm at QH;obtain⟨row,lo,Rb⟩:=f;dsimp only at QH Y5 QQ;have VQ:l.length<=300:=hl
  repeat' (first|refine gw_ trivial trivial ?_|refine gi_ (λhb=>?_) (λhb=>?_)|fail)
  refine aw_region ci _ rfl ?_
  repeat' (first|rw[hN]|(refine bw rfl rfl rfl rfl rfl rfl rfl rfl W9 ?_ ?_;· exact⟨m0,rfl⟩)|refine gw_ trivial trivial ?_|refine gi_ (λhb=>?_) (λhb=>?_)|fail)
  refine aw_region ci _ rfl ?_
  repeat' (first|(refine Og rfl rfl rfl rfl rfl rfl rfl ?_)|(refine bw rfl rfl rfl rfl rfl rfl rfl rfl W9 ?_ ?_;· exact⟨m0,rfl⟩)|refine gw_ trivial trivial ?_|refine gi_ (λhb=>?_) (λhb=>?_)|fail)
  refine aiz (A:=acS G) rfl (by simp only[aqB,aqF,afp];simp only[unA,unS,if_true,List.drop_zero];rfl) ?_
  cases hv:aw ⟨lo,Rb⟩with
  |false =>
   rw[hv,aqr]at QH;rw[hv]at QQ
   repeat' (first|rw[hN]|(refine bw rfl rfl rfl rfl rfl rfl rfl rfl W9 ?_ ?_;· exact⟨m0,rfl⟩)|refine aN rfl rfl rfl rfl QQ rfl ?_|refine aN rfl rfl rfl rfl Y5 rfl ?_|refine gw_ ci aY ?_|refine gi_ (λhb=>?_) (λhb=>?_)|fail)
   exact⟨i+1,m0,m0,by rw[QH];exact fm_ ⟨rfl,rfl,rfl,rfl,rfl,aU (aZ m0 m0),t7⟩ [.dead] rfl ⟨t7,(by cases G<;>first|(show 0<_;simp[acS,uE])),pg _,t7,t7,t7,t7⟩ (kq _)⟩
  |true =>
   rw[hv,aqs]at QH;rw[hv]at QQ
   cases hf:eQ (cL row) G with
   |some j =>
    have WR:=BP hf;obtain⟨g,hg⟩:=gol_ WR;rw[hf]at QH;dsimp only at QH;rw[hg]at QH;dsimp only at QH;have Vg:G≠[]:=by intro e;rw[e]at WR;simp at WR
    have Yw:=(hgm g (aqw hg)).1;rw[ari]at Yw;rw[qc Vg,rU Vg];have ej:0+((j:Nat):Int).toNat=j:=by simp
    have hgj:(fB 0 G)[0+((j:Nat):Int).toNat]?=some [.c (ce g.f.row),.own (wk g.ps) (4+3*(0+j))]:=by rw[ej];exact KU G 0 j g hg
    have hLl:=lW Vg;have hLj:(uE G++[Ob.dead])[4+3*(0+j)]?=some (.spare g.ps.length 2):=by
     rw[aqE m0];rw[show 4+3*(0+j)=3*j+1+1+1+1 by omega];exact aic hg
    have VD:(uE G++[Ob.dead]).set (4+3*(0+j)) (.spare (g.ps.length+1) 2) = .map (qI 0 G) :: .dead::Hj G :: .row (194+65536*G.length) (fB 0 G) 2::(x5 (G.set j ⟨g.f,g.ps++[⟨lo,Rb⟩]⟩)++[.dead]):=by
     rw[List.set_append_left _ _ m0];have e6:g.ps.length+1=(g.ps++[(⟨lo,Rb⟩:ax)]).length:=by simp
     rw[e6,show 4+3*(0+j)=3*j+1+1+1+1 by omega,<- ahP (g.ps++[(⟨lo,Rb⟩:ax)]) hg];rfl
    have Uo:(wk g.ps).length=g.ps.length:=by simp[wk]
    have Yx:(.map (qI 0 G) :: .dead::Hj G :: .row (194+65536*G.length) (fB 0 G) 2::(x5 (G.set j ⟨g.f,g.ps++[⟨lo,Rb⟩]⟩)++[Ob.dead])).set 3 (.row (194+65536*G.length) ((fB 0 G).set (0+((j:Nat):Int).toNat) [.c (ce g.f.row),.own (wk g.ps++[[.int .i64 lo,.int .i64 Rb]]) (4+3*(0+j))]) 2)=uE (G.set j ⟨g.f,g.ps++[⟨lo,Rb⟩]⟩)++[.dead]:=by
     have e7:wk g.ps++[[.int .i64 lo,.int .i64 Rb]]=wk (g.ps++[⟨lo,Rb⟩]):=by simp[wk,aP]
     rw[ej,e7,Jz G 0 j g _ hg];unfold uE;rw[ahR _ hg,aiA hg,List.length_set];rfl
    have TS:G.set j ⟨g.f,g.ps++[⟨lo,Rb⟩]⟩≠[]:=by intro e;have:=congrArg List.length e;simp at this;exact Vg this
    repeat' (first|(refine mf rfl rfl rfl rfl rfl rfl rfl (e:=[.c (ce g.f.row),.own (wk g.ps) (4+3*(0+j))]) (by exact hgj) rfl ?_)|(refine aih (k:=2) (by_:=16) rfl rfl rfl rfl rfl rfl rfl rfl rfl rfl (by exact hLj) ⟨rfl,Uo,⟨rfl,by decide⟩,by intro e he;simp at he;subst he;rfl,by show(_+1)*16<=_;omega,by show _+1<=_;omega⟩ (by exact VD) ?_)|(refine oK rfl rfl rfl rfl rfl rfl (e:=[.c (ce g.f.row),.own (wk g.ps) (4+3*(0+j))]) (by exact hgj) ⟨aqG _,rfl⟩ (by exact Yx) ?_)|refine aN rfl rfl rfl rfl QQ rfl ?_|refine aN rfl rfl rfl rfl Y5 rfl ?_|refine gw_ ci aY ?_|refine gi_ (λhb=>?_) (λhb=>?_)|(refine dR rfl rfl rfl rfl rfl (aeC ci hf rfl rfl rfl rfl rfl rfl) ?_)|fail)
    exact⟨i+1,m0,m0,by rw[QH,qc TS,rU TS,List.length_set];exact fm_ ⟨rfl,rfl,rfl,rfl,rfl,aU (aZ m0 m0),t7⟩ [.dead] rfl ⟨t7,(by show 0<_;rw[lW TS];omega),(by show 3<_;rw[lW TS,List.length_set];omega),t7,t7,t7,t7⟩ (by rw[<- qc TS];exact kq _)⟩
   |none =>
    rw[hf]at QH;dsimp only at QH
    cases Y6:G with
    |nil =>
     rw[Y6]at hf QH
     repeat' (first|(refine Iq rfl rfl rfl rfl (Ci (G:=[]) ⟨⟨row,⟨lo,Rb⟩⟩,[⟨lo,Rb⟩]⟩ ci hf rfl rfl rfl rfl rfl rfl rfl) ?_)|(refine b9 rfl rfl rfl rfl rfl (zV (k:=2) (E:=194) (cs:=[.c (ce row),.emp]) ci rfl rfl m9 m9 rfl m9 rfl rfl) ?_)|(refine b9 rfl rfl rfl rfl rfl (IY (E:=194) (k:=2) (by_:=48) (xs:=[[.c (ce row),.emp]]) ci rfl rfl rfl ⟨rfl,_,rfl,aqA rfl⟩ rfl m9 rfl rfl rfl m9 (aqA rfl) (aqA rfl) (aqA rfl)) ?_)|(refine mf rfl rfl rfl rfl rfl rfl rfl (e:=[.c (ce row),.emp]) r5 rfl ?_)|(refine oK rfl rfl rfl rfl rfl rfl (e:=[.c (ce row),.emp]) r5 ⟨aqG _,rfl⟩ rfl ?_)|refine aN rfl rfl rfl rfl QQ rfl ?_|refine aN rfl rfl rfl rfl Y5 rfl ?_|refine gw_ ci aY ?_|refine gi_ (λhb=>?_) (λhb=>?_)|(refine dR rfl rfl rfl rfl rfl (Cb (G:=[]) ci hf rfl rfl rfl rfl rfl rfl) ?_)|fail)
     exact⟨i+1,m0,m0,by rw[QH];exact fm_ ⟨rfl,rfl,rfl,rfl,rfl,aU (aZ m0 m0),t7⟩ [] rfl ⟨t7,(by show 0<5;omega),pg _,t7,t7,t7,t7⟩ (kq _)⟩
    |cons g0 G0 =>
     have Vg:G≠[]:=by rw[Y6];simp
     rw[<- Y6];rw[qc Vg,rU Vg];have htl:=acx Vg;obtain⟨gn,Xz⟩:∃ gn:bC,gn=⟨⟨row,⟨lo,Rb⟩⟩,[⟨lo,Rb⟩]⟩:=⟨_,rfl⟩;have hgk:cL gn.f.row=cL row:=by rw[Xz]
     rw[<- Xz]at QH;have hgbe:gbG gn=Ob.row (194+65536) [[SV.c (ce row),SV.emp]] 2:=by rw[Xz];rfl
     have hLa:(Ob.map (qI 0 (G++[gn]))::Ob.dead::Hj G::Ob.row (194+65536*G.length) (fB 0 G) 2::(x5 G++[Ob.dead])).length=3+3*G.length:=by simp;omega
     have hq:((Ob.map (qI 0 (G++[gn]))::Ob.dead::Hj G::Ob.row (194+65536*G.length) (fB 0 G) 2::(x5 G++[Ob.dead]))++[Ob.row (194+65536) [[SV.c (ce row),SV.emp]] 2])[3+3*G.length]?=some (Ob.row (194+65536) [[SV.c (ce row),SV.emp]] 2):=by
      rw[aqx (by rw[hLa];exact aqG _),hLa,Nat.sub_self];rfl
     have TJ:ab7 ((Ob.map (qI 0 (G++[gn]))::Ob.dead::Hj G::Ob.row (194+65536*G.length) (fB 0 G) 2::(x5 G++[Ob.dead]))++[Ob.row (194+65536) [[SV.c (ce row),SV.emp]] 2]) (.one (.sl (3+3*G.length) (194+65536) 0 1))=some [[SV.c (ce row),SV.emp]]:=by
      simp only[ab7,hq];rfl
     have hsok:Gj ani ((Ob.map (qI 0 (G++[gn]))::Ob.dead::Hj G::Ob.row (194+65536*G.length) (fB 0 G) 2::(x5 G++[Ob.dead]))++[Ob.row (194+65536) [[SV.c (ce row),SV.emp]] 2]) 2 191 (.one (.sl (3+3*G.length) (194+65536) 0 1)):=⟨rfl,[[SV.c (ce row),SV.emp]],hq,aqG _⟩;have hL2:((Ob.map (qI 0 (G++[gn]))::Ob.dead::Hj G::Ob.row (194+65536*G.length) (fB 0 G) 2::(x5 G++[Ob.dead]))++[Ob.row (194+65536) [[SV.c (ce row),SV.emp]] 2]).set 3 (Ob.row (194+65536*G.length+65536) (fB 0 G++[[SV.c (ce row),SV.emp]]) 2)=Ob.map (qI 0 (G++[gn]))::Ob.dead::Hj G::Ob.row (194+65536*G.length+65536) (fB 0 G++[[SV.c (ce row),SV.emp]]) 2::(x5 G++[Ob.dead,Ob.row (194+65536) [[SV.c (ce row),SV.emp]] 2]):=by simp
     have hL2l:(Ob.map (qI 0 (G++[gn]))::Ob.dead::Hj G::Ob.row (194+65536*G.length+65536) (fB 0 G++[[SV.c (ce row),SV.emp]]) 2::(x5 G++[Ob.dead,Ob.row (194+65536) [[SV.c (ce row),SV.emp]] 2])).length=4+3*G.length:=by simp;omega
     have eG:0+(G.length:Int).toNat=G.length:=by simp
     have hgG:(fB 0 G++[[SV.c (ce row),.emp]])[0+(G.length:Int).toNat]?=some [SV.c (ce row),SV.emp]:=by
      rw[eG,aqx (by rw[oP];exact aqG _),oP];simp
     have e10:(G++[gn]).length=G.length+1:=by simp
     have e9:194+65536*(G++[gn]).length=194+65536*G.length+65536:=by rw[e10];omega
     have TS:G++[gn]≠[]:=by simp
     have Yx:((Ob.map (qI 0 (G++[gn]))::Ob.dead::Hj G::Ob.row (194+65536*G.length+65536) (fB 0 G++[[SV.c (ce row),SV.emp]]) 2::(x5 G++[Ob.dead,Ob.row (194+65536) [[SV.c (ce row),SV.emp]] 2]))++[Ob.spare 1 2]).set 3 (Ob.row (194+65536*G.length+65536) ((fB 0 G++[[SV.c (ce row),.emp]]).set (0+(G.length:Int).toNat) [SV.c (ce row),SV.own [[.int .i64 lo,.int .i64 Rb]] (Ob.map (qI 0 (G++[gn]))::Ob.dead::Hj G::Ob.row (194+65536*G.length+65536) (fB 0 G++[[SV.c (ce row),SV.emp]]) 2::(x5 G++[Ob.dead,Ob.row (194+65536) [[SV.c (ce row),SV.emp]] 2])).length]) 2)=uE (G++[gn]):=by
      have e8:(fB 0 G++[[SV.c (ce row),.emp]]).set G.length [SV.c (ce row),SV.own [[.int .i64 lo,.int .i64 Rb]] (4+3*G.length)]=fB 0 (G++[gn]):=by
       rw[Fp,List.set_append_right _ _ (by rw[oP];exact aqG _),oP,Xz];simp[wk,aP]
      rw[eG,hL2l,e8];unfold uE;rw[adz gn Vg,adZ gn Vg,e9,hgbe,Xz];simp[bxG]
     repeat' (first|refine aN rfl rfl rfl rfl QQ rfl ?_|refine aN rfl rfl rfl rfl Y5 rfl ?_|refine gw_ ci aY ?_|refine gi_ (λhb=>?_) (λhb=>?_)|(refine dR rfl rfl rfl rfl rfl (Cb (G:=G) ci hf rfl rfl rfl rfl rfl rfl) ?_)|fail)
     refine Iq (L':=(Ob.map (qI 0 (G++[gn]))::Ob.dead::Hj G::Ob.row (194+65536*G.length) (fB 0 G) 2::(x5 G++[Ob.dead]))) rfl rfl rfl rfl (Ci (G:=G) (id:=0) gn ci hf hgk rfl rfl rfl rfl rfl rfl) ?_
     repeat' (first|(refine Iq (L':=(Ob.map (qI 0 (G++[gn]))::Ob.dead::Hj G::Ob.row (194+65536*G.length) (fB 0 G) 2::(x5 G++[Ob.dead]))) rfl rfl rfl rfl (Ci (G:=G) (id:=0) gn ci hf hgk rfl rfl rfl rfl rfl rfl) ?_)|(refine b9 (v := .one (.sl (3+3*G.length) (194+65536) 0 1)) (L':=(Ob.map (qI 0 (G++[gn]))::Ob.dead::Hj G::Ob.row (194+65536*G.length) (fB 0 G) 2::(x5 G++[Ob.dead]))++[Ob.row (194+65536) [[SV.c (ce row),SV.emp]] 2]) rfl rfl rfl rfl rfl (by rw[<- hLa];exact zV (k:=2) (E:=194) (cs:=[SV.c (ce row),SV.emp]) ci rfl rfl m9 m9 rfl m9 rfl rfl) ?_)|(refine b9 (v := .one (.sl 3 (194+65536*G.length+65536) 0 (G.length+1))) (L':=(Ob.map (qI 0 (G++[gn]))::Ob.dead::Hj G::Ob.row (194+65536*G.length+65536) (fB 0 G++[[SV.c (ce row),SV.emp]]) 2::(x5 G++[Ob.dead,Ob.row (194+65536) [[SV.c (ce row),SV.emp]] 2]))) rfl rfl rfl rfl rfl (by rw[<- hL2];exact ee (k:=2) (by_:=48) (xs:=[[SV.c (ce row),SV.emp]]) ci rfl rfl rfl TJ hsok rfl (by show(194+65536*G.length)%65536=194;omega) rfl rfl rfl m9 (oP G 0) (by show(_+1)*48<=_;omega) (by show _+1<=_;omega)) ?_)|(refine mf rfl rfl rfl rfl rfl rfl rfl (e:=[SV.c (ce row),SV.emp]) (by exact hgG) rfl ?_)|(refine oK rfl rfl rfl rfl rfl rfl (e:=[SV.c (ce row),SV.emp]) (by exact hgG) ⟨aqG _,rfl⟩ (by exact Yx) ?_)|refine aN rfl rfl rfl rfl QQ rfl ?_|refine aN rfl rfl rfl rfl Y5 rfl ?_|refine gw_ ci aY ?_|refine gi_ (λhb=>?_) (λhb=>?_)|(refine dR rfl rfl rfl rfl rfl (Cb (G:=G) ci hf rfl rfl rfl rfl rfl rfl) ?_)|fail)
     exact⟨i+1,m0,m0,by rw[QH,qc TS,rU TS,e9,e10];exact fm_ ⟨rfl,rfl,rfl,rfl,rfl,aU (aZ m0 m0),t7⟩ [] (aqZ _).symm ⟨t7,(by show 0<_;rw[lW TS];omega),(by show 3<_;rw[lW TS,e10];omega),t7,t7,t7,t7⟩ (by rw[<- qc TS];exact kq _)⟩
 ·have htk:l.take i=l:=aq5 m0
  have hN:decide ((i:Int)<n)=false:=by simp;omega
  rw[htk]at VF hgm ⊢;have Yw:=tj l;have hrP:mm l=mo fM ((dn l).map λg=>(⟨g.f.row,g.ps⟩:ac)):=rfl;rw[hrP];clear hrP;have hgm2:∀ g∈dn l,g.f.row.length<=1000:=λg hg=>(h _ (Ag l g hg).2.1).1
  have Yy:=NY l;generalize dn l=G at VF hgm Yw hgm2 Yy ⊢
  repeat' (first|refine gw_ trivial trivial ?_|refine gi_ (λhb=>?_) (λhb=>?_)|fail)
  refine aw_region ci _ rfl ?_
  repeat' (first|rw[hN]|(refine bw rfl rfl rfl rfl rfl rfl rfl rfl W9 ?_ ?_;· exact⟨m0,rfl⟩)|refine gw_ trivial trivial ?_|refine gi_ (λhb=>?_) (λhb=>?_)|fail)
  cases Y6:G with
  |nil =>
   have e0:(mo fM (([]:List bC).map λg=>(⟨g.f.row,g.ps⟩:ac))).map af=[]:=rfl;rw[e0]
   repeat' (first|refine aN rfl rfl rfl rfl Jp rfl ?_|refine gw_ ci aY ?_|refine gi_ (λhb=>?_) (λhb=>?_)|fail)
   exact aX (bg rfl (by trivial) rfl)
  |cons g0 G0 =>
   have Vg:G≠[]:=by rw[Y6];simp
   rw[<- Y6,qc Vg,rU Vg];refine JU 3 rfl (y7 G 0) ?_;have e1:(G.map λg=>[ce g.f.row,AC.lst (wk g.ps)]).map (List.map SV.c)=((G.map λg=>(⟨g.f.row,g.ps⟩:ac)).map ig).map qH:=by
    simp only[List.map_map];rfl
   rw[e1];obtain⟨X,hX⟩:∃ X:List ac,X=G.map λg=>⟨g.f.row,g.ps⟩:=⟨_,rfl⟩
   have hXl:X.length=G.length:=by rw[hX];simp
   have hXr:∀ s∈X,s.row.length<=1000:=by
    intro s hs;rw[hX]at hs;obtain⟨g,hg,rfl⟩:=aq0.1 hs;exact hgm2 g hg
   rw[<- hX];have e2:(uE G).set 3 (.row (194+65536*G.length) ((X.map ig).map qH) 2) = .map (qI 0 G) :: .dead::Hj G :: .row (194+65536*G.length) ((X.map ig).map qH) 2::x5 G:=rfl;rw[e2];rw[<- hX]at Yy;have Pl:=aas (194+65536*G.length) (X:=X) (n:=G.length) hXl Yy m0 (λs hs=>by have:=hXr s hs;omega);refine aw_region ci _ rfl ?_
   repeat' (first|(refine cJ [3] rfl rfl rfl rfl Pl rfl (aoZ rfl (bV ⟨(by show 0<1;omega),t7,t7⟩)) rfl (jG3 (L' := .map (qI 0 G) :: .dead::Hj G :: .row (194+65536*G.length) (((mo fM X).map ig).map qH) 2::x5 G) rfl) ?_)|refine gw_ trivial trivial ?_|refine gi_ (λhb=>?_) (λhb=>?_)|fail)
   refine mK 3 (L := .map (qI 0 G) :: .dead::Hj G :: .row (194+65536*G.length) (((mo fM X).map ig).map qH) 2::x5 G) rfl (NG _) ?_;simp only[aqB,aqF,thA,thS,and_self,if_true,List.drop_zero];have e3:(((mo fM X).map ig).map λx=>[x.1,x.2]).take G.length=(mo fM X).map af:=by
    rw[aq5 (by simp[(nO fM X).length_eq,hXl]),List.map_map];rfl
   rw[e3]
   repeat' (first|refine gw_ ci aY ?_|refine gi_ (λhb=>?_) (λhb=>?_)|fail)
   exact aX (bg rfl (by trivial) rfl)
