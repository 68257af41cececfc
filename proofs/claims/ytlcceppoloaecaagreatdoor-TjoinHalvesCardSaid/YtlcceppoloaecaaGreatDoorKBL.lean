/- Parts. No condition. -/
import Derived.Test.YtlcceppoloaecaaGreatDoorKBI
import Derived.Test.YtlcceppoloaecaaGreatDoorKBJ
import Derived.Test.YtlcceppoloaecaaGreatDoorKBK
set_option maxHeartbeats 8000000
set_option maxRecDepth 100000
set_option linter.unusedSimpArgs false
set_option linter.unusedVariables false
namespace Go.Proofs.YtlcceppoloaecaaGreatDoor
open IntKind (i64)
open Go.RowKit Go.MapKept
theorem afg {rec:Nat->List ac->Int->Int->Int->(ac->ac->Option Int)->Option (List ac)}{n:Nat}  (Pi:∀ {n:Nat} {X:List ac} {a m b:Int} {cmp:ac->ac->Option Int} {v:Nat} {zr:FuncId} {zc:List AC} (zj:∀ (y0:ac) (y1:ac) (r:Int),cmp y0 y1=some r->PTz zr ([.agg (af y0),.agg (af y1)]++zc.map .one) (.val (.one (.int .i64 r)))) {r:List ac},rec n X a m b cmp=some r->RTz 277 [cl af 2 v X] [.one (.sl 0 v 0 n),.one (.c (.int .i64 a)),.one (.c (.int .i64 m)),.one (.c (.int .i64 b)),.one (.c (.fn zr zc))] [cl af 2 v r] (.tup [])){zd:(List ac)}{OV:Int}{Pe:Int}{OW:Int}{a_cmp:ac->ac->Option (Int)}{v:Nat}{r:List ac}{zr:FuncId}{zc:List AC}(zj:∀ (y0:ac) (y1:ac) (r:Int),a_cmp y0 y1=some r->PTz zr ([.agg (af y0),.agg (af y1)]++zc.map .one) (.val (.one (.int .i64 r))))(H:qz rec n zd OV Pe OW a_cmp=some r):RTz 277 [cl af 2 v zd] [.one (.sl 0 v 0 n),.one (.c (.int .i64 OV)),.one (.c (.int .i64 Pe)),.one (.c (.int .i64 OW)),.one (.c (.fn zr zc))] [cl af 2 v r] (.tup []):=by
 rcases U4:(decide ((i64.wrap (Pe-OV))=(1:Int)))with _|_
 ·rcases SX:(decide ((i64.wrap (OW-Pe))=(1:Int)))with _|_
  ·rcases Ut:(decide ((bL (i64.wrap (OV+OW)))<Pe))with _|_
   ·exact abp Pi zj U4 SX Ut H
   ·exact OA Pi zj U4 SX Ut H
  ·exact abv Pi zj U4 SX H
 ·exact aa7 Pi zj U4 H
theorem D6:∀ (q:Nat) {n:Nat} {X:List ac} {a m b:Int} {cmp:ac->ac->Option Int} {v:Nat} {zr:FuncId} {zc:List AC} (zj:∀ (y0:ac) (y1:ac) (r:Int),cmp y0 y1=some r->PTz zr ([.agg (af y0),.agg (af y1)]++zc.map .one) (.val (.one (.int .i64 r)))) {r:List ac},EC q n X a m b cmp=some r->RTz 277 [cl af 2 v X] [.one (.sl 0 v 0 n),.one (.c (.int .i64 a)),.one (.c (.int .i64 m)),.one (.c (.int .i64 b)),.one (.c (.fn zr zc))] [cl af 2 v r] (.tup [])
 |0,_,_,_,_,_,_,_,_,_,_,_,h=>nomatch h
 |q+1,_,_,_,_,_,_,_,_,_,hf,_,h=>afg (D6 q) hf h
theorem LG {n:Nat}  {zd:(List ac)}{PQ:Int}{a_cmp:ac->ac->Option (Int)}{v:Nat}{r:List ac}{zr:FuncId}{zc:List AC}(zj:∀ (y0:ac) (y1:ac) (r:Int),a_cmp y0 y1=some r->PTz zr ([.agg (af y0),.agg (af y1)]++zc.map .one) (.val (.one (.int .i64 r))))(H:vH n zd PQ a_cmp=some r):RTz 254 [cl af 2 v zd] [.one (.sl 0 v 0 n),.one (.c (.int .i64 PQ)),.one (.c (.fn zr zc))] [cl af 2 v r] (.tup []):=by
 unfold vH at H;refine bo am Tryz.func254 rfl rfl Tryz.ntmps254 m5 ?_;simp only[ed];refine tJ ?_;refine alM_ (fun s:(List ac)×Int×Int=>match s with|(PP,WE,Ub)=>[(0,.one (.sl 0 v 0 n)),(1,.one (.c (.int .i64 PQ))),(2,.one (.c (.fn zr zc))),(6,.one (.c (.int .i64 (20:Int)))),(7,.one (.c (.int .i64 WE))),(8,.one (.c (.int .i64 Ub)))]) (fun s=>match s with|(PP,WE,Ub)=>[cl af 2 v PP]) H (fun _=>aqo _)
  (fm_ bF [] rfl bn ⟨aR _ _ _ _ _,t7⟩) ?_
 rintro⟨PP,WE,Ub⟩ st1 OU Py;unfold hJ at OU;dsimp only at OU ⊢;rcases aj OU with⟨P9,OU⟩|⟨P9,OU⟩
 ·obtain⟨c_5,c1,OU⟩:=bd_ OU
  replace c1:=wF (v:=v) (zc:=zc) zj c1
  cases OU;refine tJ ?_;exact⟨_,rfl,fm_ bF [] rfl bn ⟨aR _ _ _ _ _,t7⟩⟩
 cases OU;have O3:qg PQ a_cmp n (.inl (PP,WE,Ub))=some _:=Py;unfold qg at O3;dsimp only at O3;obtain⟨Zg,c2,O3⟩:=bd_ O3;replace c2:=wF (v:=v) (zc:=zc) zj c2;refine tJ ?_;refine alM_ (fun s:(List ac)×Int=>match s with|(U3,O5)=>[(0,.one (.sl 0 v 0 n)),(1,.one (.c (.int .i64 PQ))),(2,.one (.c (.fn zr zc))),(6,.one (.c (.int .i64 O5)))]) (fun s=>match s with|(U3,O5)=>[cl af 2 v U3]) O3 (fun _=>aqo _)
  (fm_ bF [] rfl bn ⟨aR _ _ _ _ _,t7⟩) ?_
 rintro⟨U3,O5⟩ st4 O9 hk4;unfold ie at O9;dsimp only at O9 ⊢;rcases aj O9 with⟨S_,O9⟩|⟨S_,O9⟩
 ·refine tJ ?_
  refine alM_ (fun s:(List ac)×Int×Int=>match s with|(SK,RZ,Sm)=>[(0,.one (.sl 0 v 0 n)),(1,.one (.c (.int .i64 PQ))),(2,.one (.c (.fn zr zc))),(6,.one (.c (.int .i64 O5))),(7,.one (.c (.int .i64 RZ))),(8,.one (.c (.int .i64 Sm)))]) (fun s=>match s with|(SK,RZ,Sm)=>[cl af 2 v SK]) O9 (fun _=>aqo _)
   (fm_ bF [] rfl bn ⟨aR _ _ _ _ _,t7⟩) ?_
  rintro⟨SK,RZ,Sm⟩ st5 QB hk5;unfold g7 at QB;dsimp only at QB ⊢;rcases aj QB with⟨Si,QB⟩|⟨Si,QB⟩
  ·obtain⟨Zy,c3,QB⟩:=bd_ QB
   replace c3:=D6 fuel (v:=v) (zc:=zc) zj c3
   cases QB;refine tJ ?_;exact⟨_,rfl,fm_ bF [] rfl bn ⟨aR _ _ _ _ _,t7⟩⟩
  cases QB;have Pg:qa PQ a_cmp n O5 (.inl (SK,RZ,Sm))=some _:=hk5;unfold qa at Pg;dsimp only at Pg;rcases aj Pg with⟨Q7,Pg⟩|⟨Q7,Pg⟩
  ·obtain⟨Zz,c4,Pg⟩:=bd_ Pg
   replace c4:=D6 fuel (v:=v) (zc:=zc) zj c4
   cases Pg;refine tJ ?_;exact⟨_,rfl,fm_ bF [] rfl bn ⟨aR _ _ _ _ _,t7⟩⟩
  cases Pg;refine tJ ?_;exact⟨_,rfl,fm_ bF [] rfl bn ⟨aR _ _ _ _ _,t7⟩⟩
 cases O9;have RH:vg (.inl (U3,O5))=some _:=hk4;unfold vg at RH;dsimp only at RH
 cases RH;exact iw
theorem MY {n:Nat}  {a_x:(List ac)}{a_cmp:ac->ac->Option (Int)}{v:Nat}{r:List ac}{zr:FuncId}{zc:List AC}(zj:∀ (y0:ac) (y1:ac) (r:Int),a_cmp y0 y1=some r->PTz zr ([.agg (af y0),.agg (af y1)]++zc.map .one) (.val (.one (.int .i64 r))))(H:xb n a_x a_cmp=some r):RTz 238 [cl af 2 v a_x] [.one (.sl 0 v 0 n),.one (.c (.fn zr zc))] [cl af 2 v r] (.tup []):=by
 unfold xb at H;refine bo am Tryz.func238 rfl rfl Tryz.ntmps238 m5 ?_;simp only[ed];obtain⟨PP,c1,H⟩:=bd_ H;replace c1:=LG (v:=v) (zc:=zc) zj c1
 cases H;exact iw
section
variable {α:Type} {lt:α->α->Bool} {S:α->Prop}
structure wV (lt:α->α->Bool)(S:α->Prop):Prop where
 irr:∀ x,S x->lt x x=false
 tr:∀ x y z,S x->S y->S z->lt x y=true->lt y z=true->lt x z=true
 tot:∀ x y,S x->S y->lt x y=false->lt y x=false->x=y
theorem wV.mono {S':α->Prop}(h:wV lt S)(k:∀ x,S' x->S x):wV lt S' :=
 ⟨fun x hx=>h.irr x (k x hx),fun x y z hx hy hz=>h.tr x y z (k x hx) (k y hy) (k z hz),fun x y hx hy=>h.tot x y (k x hx) (k y hy)⟩
def dC (lt:α->α->Bool)(l:List α):Prop:=l.Pairwise fun a b=>lt b a=false
theorem wV.le_tr (h:wV lt S){x y z:α}(sx:S x)(sy:S y)(sz:S z)(h1:lt y x=false)(h2:lt z y=false):lt z x=false:=by
 cases h3:lt z x with
 |false=>rfl
 |true =>
  cases h4:lt x y with
  |true=>rw[h.tr z x y sz sx sy h3 h4]at h2;cases h2
  |false=>have:=h.tot x y sx sy h4 h1;subst this;rw[h3]at h2;cases h2
theorem wV.le_of (h:wV lt S){x y:α}(sx:S x)(sy:S y)(h1:lt x y=true):lt y x=false:=by
 cases h2:lt y x with
 |false=>rfl
 |true=>have:=h.tr x y x sx sy sx h1 h2;rw[h.irr x sx]at this;cases this
theorem Ia (h:wV lt S):∀ {l m:List α},(∀ x∈l,S x)->dC lt l->dC lt m->l.Perm m->l=m
 |[],m,_,_,_,p=>by have:=p.length_eq;cases m with|nil=>rfl|cons y m=>simp at this
 |x::l,[],_,_,_,p=>by have:=p.length_eq;simp at this
 |x::l,y::m,hS,ha,hb,p=>by
  have SQ:x=y:=by
   have hx:x∈y::m:=p.mem_iff.1 m5;have hy:y∈x::l:=p.mem_iff.2 m5;have sy:=hS y hy;rcases aqp.1 hx with e|hx
   ·exact e
   ·rcases aqp.1 hy with e|hy
    ·exact e.symm
    ·exact h.tot x y (hS x m5) sy ((aq5.1 hb).1 x hx) ((aq5.1 ha).1 y hy)
  subst SQ;rw[Ia h (fun z hz=>hS z (by simp[hz])) (aq5.1 ha).2 (aq5.1 hb).2 ((List.perm_cons x).1 p)]
theorem N6 (h:wV lt S){L:List α}{x y:α}(hS:∀ z∈L++[x],S z)(ha:dC lt (L++[x]))(hy:y∈L++[x]):lt x y=false:=by
 rcases aqB.1 hy with hy|hy
 ·exact(List.pairwise_append.1 ha).2.2 y hy x m5
 ·simp at hy;subst hy;exact h.irr y (hS y m5)
theorem KT (h:wV lt S){L:List α}{x y:α}(hS:∀ z∈x::L,S z)(ha:dC lt (x::L))(hy:y∈x::L):lt y x=false:=by
 rcases aqp.1 hy with rfl|hy
 ·exact h.irr y (hS y m5)
 ·exact(aq5.1 ha).1 y hy
theorem adu (h:wV lt S){A B:List α}(hA:∀ z∈A,S z)(hB:∀ z∈B,S z)(a:dC lt A)(b:dC lt B)(hg:A=[]\/B=[] \/ ∃ A' x y B',A=A'++[x]/\B=y::B'/\lt y x=false):∀ x∈A,∀ y∈B,lt y x=false:=by
 intro u hu v hv;rcases hg with rfl|rfl|⟨A',x,y,B',rfl,rfl,SQ⟩
 ·simp at hu
 ·simp at hv
 ·have s1:=hA u hu;have s2:=hA x m5;have s3:=hB y m5;have s4:=hB v hv
  exact h.le_tr s1 s2 s4 (N6 h hA a hu) (h.le_tr s2 s3 s4 SQ (KT h hB b hv))
theorem Ag (h:wV lt S){L1 L2:List α}{x:α}(sx:S x)(hS:∀ z∈L1++L2,S z)(ha:dC lt (L1++L2))(h1:L1=[] \/ ∃ L y,L1=L++[y]/\lt x y=false)(h2:L2=[] \/ ∃ z L,L2=z::L/\lt z x=false):dC lt (L1++x::L2):=by
 have hp:=List.pairwise_append.1 ha;refine List.pairwise_append.2 ⟨hp.1,aq5.2 ⟨fun v hv=>?_,hp.2.1⟩,fun u hu v hv=>?_⟩
 ·rcases h2 with rfl|⟨z,L,rfl,hz⟩
  ·simp at hv
  ·exact h.le_tr sx (hS z m5) (hS v (by simp at hv ⊢;exact .inr hv)) hz (KT h (fun w hw=>hS w (by simp at hw ⊢;exact .inr hw)) hp.2.1 hv)
 ·rcases aqp.1 hv with rfl|hv
  ·rcases h1 with rfl|⟨L,y,rfl,hy⟩
   ·simp at hu
   ·exact h.le_tr (hS u (by simp at hu ⊢;rcases hu with hu|hu;exact .inl hu;exact .inr (.inl hu))) (hS y m5) sx (N6 h (fun w hw=>hS w (List.mem_append_left _ hw)) hp.1 hu) hy
  ·exact hp.2.2 u hu v hv
theorem aaK (h:wV lt S){A1 A2 B1 B2 M1 M2:List α}(hS:∀ z∈(A1++A2)++(B1++B2),S z)(hA:dC lt (A1++A2))(hB:dC lt (B1++B2))(h1:A1=[]\/B2=[] \/ ∃ A' x y B',A1=A'++[x]/\B2=y::B'/\lt y x=false)(h2:B1=[]\/A2=[] \/ ∃ A' x y B',B1=A'++[x]/\A2=y::B'/\lt y x=false)
  (m1:dC lt M1) (m2:dC lt M2) (p1:M1.Perm (A1++B1)) (p2:M2.Perm (A2++B2)):dC lt (M1++M2):=by
 have pa:=List.pairwise_append.1 hA;have pb:=List.pairwise_append.1 hB;have g1:=adu h (fun z hz=>hS z (by simp[hz])) (fun z hz=>hS z (by simp[hz])) pa.1 pb.2.1 h1;have g2:=adu h (fun z hz=>hS z (by simp[hz])) (fun z hz=>hS z (by simp[hz])) pb.1 pa.2.1 h2;refine List.pairwise_append.2 ⟨m1,m2,fun x hx y hy=>?_⟩;rcases aqB.1 (p1.mem_iff.1 hx)with hx|hx<;>rcases aqB.1 (p2.mem_iff.1 hy)with hy|hy
 ·exact pa.2.2 x hx y hy
 ·exact g1 x hx y hy
 ·exact g2 x hx y hy
 ·exact pb.2.2 x hx y hy
theorem Lm {A1 A2 B1 B2 M1 M2:List α}(p1:M1.Perm (A1++B1))(p2:M2.Perm (A2++B2)):(M1++M2).Perm ((A1++A2)++(B1++B2)):=by
 refine(p1.append p2).trans ?_;rw[aqA,aqA];refine List.Perm.append_left A1 ?_;rw[<- aqA,<- aqA];exact List.Perm.append_right B2 List.perm_append_comm
theorem acI {β:Type}(f:α->β)(U V T:List α)(x y:α):(((U++x::(V++y::T)).map f).set U.length (f y)).set (U.length+1+V.length) (f x)=(U++y::(V++x::T)).map f:=by
 rw[aql,aqj,List.set_append_right _ _ m5];simp only[aqk,Nat.sub_self,List.set_cons_zero];rw[List.set_append_right _ _ m8];simp only[aqk];rw[show U.length+1+V.length-U.length=V.length+1 by omega,List.set_cons_succ,aql,List.set_append_right _ _ m5];simp
theorem get_at (U:List α)(x:α)(T:List α):(U++x::T)[U.length]?=some x:=by simp
theorem AB (U V T:List α)(x y:α):(U++x::(V++y::T))[U.length+1+V.length]?=some y:=by
 rw[aqf m0,show U.length+1+V.length-U.length=V.length+1 by omega,List.getElem?_cons_succ,aqf m0];simp
end
section
variable {α:Type}
theorem wrA (a b:Nat)(h:a+b<=4611686018427387904):i64.wrap ((a:Int)+(b:Int))=((a+b:Nat):Int):=by rw[dj m0];omega
theorem wrS (a b:Nat)(h:b<=a)(h2:a<=4611686018427387904):i64.wrap ((a:Int)-(b:Int))=((a-b:Nat):Int):=by rw[dj m0];omega
theorem Ir {i n:Nat}(h:i<n):decide ((i:Int)<((n:Nat):Int))=true:=aqc m0
theorem KI (i:Nat):decide ((0:Int)<=(i:Int))=true:=aqc m0
theorem ac8 (i:Nat):0+((i:Int)).toNat=i:=m0
theorem afL {n:Nat}{c:List α}{a b k i:Nat}{x y:α}(hn:c.length=n)(PR:n<=1000000000)(hk:i<k)(ha:c[a+i]?=some x)(hb:c[b+i]?=some y):dQ (a:Int) (b:Int) (k:Int) n (c,(i:Int))=some (.next ((c.set (a+i) y).set (b+i) x,((i+1:Nat):Int))):=by
 have h1:=(ap_.1 ha).1;have h2:=(ap_.1 hb).1;unfold dQ;dsimp only;rw[wrA a i m0,wrA b i m0,wrapN m0];simp only[Ir hk,KI,Ir (show a+i<n by omega),Ir (show b+i<n by omega),aqa,gn_ ha,gn_ hb,ap9,ac8,List.length_set,aqc (show a+i<c.length by omega),aqc (show b+i<c.length by omega)]
theorem af7 {n:Nat}{c:List α}{a b:Int}{k i:Nat}(hk:¬ i<k):dQ a b (k:Int) n (c,(i:Int))=some (.exit (c,(i:Int))):=by
 unfold dQ;dsimp only;rw[aqb m0,ap']
theorem Hu {n:Nat}(PR:n<=1000000000)(a b k:Nat):∀ (U W P V Q:List α) (N i:Nat),U.length=W.length->P.length=a+i->P.length+U.length+V.length=b+i->i+U.length=k->(P++(U++(V++(W++Q)))).length=n->U.length<N->ao (dQ (a:Int) (b:Int) (k:Int) n) N (P++(U++(V++(W++Q))),(i:Int))=some (.inl (P++(W++(V++(U++Q))),((k:Nat):Int)))
 |U,W,P,V,Q,0,i,_,_,_,_,_,h=>by omega
 |[],W,P,V,Q,N+1,i,hl,hp,hb,hi,hn,_=>by
  have hW:W=[]:=aqK.1 hl.symm;subst hW;rw[ao,af7 (by simp at hi;omega)];simp only[aqE,Nat.add_zero]at hi;subst hi;rfl
 |u::U,[],P,V,Q,N+1,i,hl,_,_,_,_,_=>by simp at hl
 |u::U,w::W,P,V,Q,N+1,i,hl,hp,hb,hi,hn,hN=>by
  simp only[aqv]at hl hb hi hN;have e:P++(u::U++(V++(w::W++Q)))=P++u::((U++V)++w::(W++Q)):=by simp
  rw[ao,e,afL (x:=u) (y:=w) (by rw[<- e];exact hn) PR m0 (by rw[<- hp];exact get_at _ _ _) (by have:=AB P (U++V) (W++Q) u w;rwa[show P.length+1+(U++V).length=b+i by simp;omega]at this)];have s2:=acI (f:=fun x:α=>x) P (U++V) (W++Q) u w;rw[List.map_id',List.map_id',show P.length+1+(U++V).length=b+i by simp;omega,hp]at s2;rw[s2];have e2:P++w::((U++V)++u::(W++Q))=(P++[w])++(U++((V++[u])++(W++Q))):=by simp
  show ao _ N (P++w::((U++V)++u::(W++Q)),((i+1:Nat):Int))=_;rw[e2,Hu PR a b k U W (P++[w]) (V++[u]) Q N (i+1) m0 m8 m8 m0 (by rw[<- hn];simp only[aqg,aqv,aqE];omega) m0];simp
theorem mS {n:Nat}(PR:n<=1000000000){P U V W Q:List α}(cmp:α->α->Option Int)(hl:U.length=W.length)(hn:(P++(U++(V++(W++Q)))).length=n):gV n (P++(U++(V++(W++Q)))) (P.length:Int) ((P.length+U.length+V.length:Nat):Int) (U.length:Int) cmp=some (P++(W++(V++(U++Q)))):=by
 unfold gV;have:=Hu PR P.length (P.length+U.length+V.length) U.length U W P V Q fuel 0 hl m0 m0 m0 hn (by simp at hn;unfold fuel;omega);rw[show((0:Nat):Int)=0 from rfl]at this;rw[this];rfl
theorem rr {n:Nat}(PR:n<=1000000000)(cmp:α->α->Option Int)(m:Nat):∀ (N:Nat) (P A B Q:List α),P.length+A.length=m->0<A.length->0<B.length->(P++(A++(B++Q))).length=n->A.length+B.length<N ->∃ P' A' B' Q',ao (eP (m:Int) cmp n) N (P++(A++(B++Q)),(A.length:Int),(B.length:Int))=some (.inl (P'++(A'++(B'++Q')),(A'.length:Int),(B'.length:Int)))/\A'.length=B'.length/\P'.length+A'.length=m/\P'++(B'++(A'++Q'))=P++(B++(A++Q))/\(P'++(A'++(B'++Q'))).length=n
 |0,P,A,B,Q,_,_,_,_,h=>by omega
 |N+1,P,A,B,Q,hm,hA,hB,hn,hN=>by
  have Qj:=hn;simp only[aqg]at Qj;rw[ao];by_cases h0:A.length=B.length
  ·have hb:eP (m:Int) cmp n (P++(A++(B++Q)),(A.length:Int),(B.length:Int))=some (.exit (P++(A++(B++Q)),(A.length:Int),(B.length:Int))):=by
    unfold eP;dsimp only;rw[aqb m0,ap']
   rw[hb];exact⟨P,A,B,Q,rfl,h0,hm,rfl,hn⟩
  ·by_cases h1:B.length<A.length
   ·have hs:=mS PR (P:=P) (U:=A.take B.length) (V:=A.drop B.length) (W:=B) (Q:=Q) cmp (by rw[aq0];omega) (by rw[<- hn];simp;omega)
    have eA:A.take B.length++(A.drop B.length++(B++Q))=A++(B++Q):=by rw[<- aqA,aqU]
    rw[eA]at hs;have hb:eP (m:Int) cmp n (P++(A++(B++Q)),(A.length:Int),(B.length:Int))=some (.next (P++(B++(A.drop B.length++(A.take B.length++Q))),((A.length-B.length:Nat):Int),(B.length:Int))):=by
     unfold eP;dsimp only;rw[aqc (show(A.length:Int)≠(B.length:Int)by omega),aqa,aqc (show(B.length:Int)<(A.length:Int)by omega),aqa,wrS m A.length m0 m0,wrS A.length B.length m0 m0,show m-A.length=P.length by omega];rw[aq0,List.length_drop,Nat.min_eq_left m0,show P.length+B.length+(A.length-B.length)=m by omega]at hs;rw[hs];rfl
    rw[hb];obtain⟨P',A',B',Q',k1,k2,k3,k4,k5⟩:=rr PR cmp m N (P++B) (A.drop B.length) (A.take B.length) Q m8 m8 m8 (by rw[<- hn];simp;omega) m8;refine⟨P',A',B',Q',?_,k2,k3,?_,k5⟩
    ·rw[<- k1]
     simp only[List.length_drop,aq0,Nat.min_eq_left (Nat.le_of_lt h1),aqA]
    ·rw[k4]
     simp only[aqA];rw[<- aqA (A.take B.length),aqU]
   ·have hs:=mS PR (P:=P) (U:=A) (V:=B.take (B.length-A.length)) (W:=B.drop (B.length-A.length)) (Q:=Q) cmp (by rw[List.length_drop];omega) (by rw[<- hn];simp;omega)
    have eB:B.take (B.length-A.length)++(B.drop (B.length-A.length)++Q)=B++Q:=by rw[<- aqA,aqU]
    rw[eB]at hs;have hb:eP (m:Int) cmp n (P++(A++(B++Q)),(A.length:Int),(B.length:Int))=some (.next (P++(B.drop (B.length-A.length)++(B.take (B.length-A.length)++(A++Q))),(A.length:Int),((B.length-A.length:Nat):Int))):=by
     unfold eP;dsimp only;rw[aqc (show(A.length:Int)≠(B.length:Int)by omega),aqa,aqb (show ¬ (B.length:Int)<(A.length:Int)by omega),ap',wrS m A.length m0 m0,wrA m B.length m0,wrS (m+B.length) A.length m0 m0,wrS B.length A.length m0 m0,show m-A.length=P.length by omega];rw[aq0,Nat.min_eq_left m0,show P.length+A.length+(B.length-A.length)=m+B.length-A.length by omega]at hs;rw[hs];rfl
    rw[hb];obtain⟨P',A',B',Q',k1,k2,k3,k4,k5⟩:=rr PR cmp m N P (B.drop (B.length-A.length)) (B.take (B.length-A.length)) (A++Q) m8 m8 m8 (by rw[<- hn];simp;omega) m8;refine⟨P',A',B',Q',?_,k2,k3,?_,k5⟩
    ·rw[<- k1]
     simp only[List.length_drop,aq0,Nat.min_eq_left (Nat.sub_le _ _),show B.length-(B.length-A.length)=A.length by omega]
    ·rw[k4]
     simp only[<- aqA];rw[aqA P,aqU]
theorem abU {n:Nat}(PR:n<=1000000000){P A B Q:List α}(cmp:α->α->Option Int)(hA:0<A.length)(hB:0<B.length)(hn:(P++(A++(B++Q))).length=n):mA n (P++(A++(B++Q))) (P.length:Int) ((P.length+A.length:Nat):Int) ((P.length+A.length+B.length:Nat):Int) cmp=some (P++(B++(A++Q))):=by
 have Qj:=hn;simp only[aqg]at Qj;unfold mA;rw[wrS (P.length+A.length) P.length m0 m0,wrS (P.length+A.length+B.length) (P.length+A.length) m0 m0,show P.length+A.length-P.length=A.length by omega,show P.length+A.length+B.length-(P.length+A.length)=B.length by omega];obtain⟨P',A',B',Q',k1,k2,k3,k4,k5⟩:=rr PR cmp (P.length+A.length) fuel P A B Q rfl hA hB hn (by unfold fuel;omega);rw[k1,ap9];unfold pf;dsimp only;have k5':=k5;simp only[aqg]at k5';have hs:=mS PR (P:=P') (U:=A') (V:=[]) (W:=B') (Q:=Q') cmp k2 k5;rw[aqd,aqd,aqE,Nat.add_zero,k3]at hs;rw[wrS (P.length+A.length) A'.length m0 m0,show P.length+A.length-A'.length=P'.length by omega,hs,k4];rfl
end
section
variable {α:Type} {lt:α->α->Bool} {S:α->Prop} {cmp:α->α->Option Int}
theorem u64_in {x:Int}(h0:0<=x)(h:x<=4611686018427387904):IntKind.u64.wrap x=x:=by
 simp only[IntKind.wrap,IntKind.bits,IntKind.signed];simp;omega
theorem xB {i j:Nat}(h:i+j<=4611686018427387904):bL (i64.wrap ((i:Int)+(j:Int)))=(((i+j)/2:Nat):Int):=by
 rw[wrA i j h];show i64.wrap (Int.fdiv (IntKind.u64.wrap ((i+j:Nat):Int)) 2)=_;rw[u64_in m0 m0,Int.fdiv_eq_ediv_of_nonneg _ m0,dj m0];omega
def lY (cmp:α->α->Option Int)(lt:α->α->Bool)(S:α->Prop):Prop :=∀ x y,S x->S y ->∃ r,cmp x y=some r/\decide (r<0)=lt x y
theorem wr1 (a:Nat)(h:1<=a)(h2:a<=4611686018427387904):i64.wrap ((a:Int)-1)=((a-1:Nat):Int):=by rw[dj m0];omega
theorem Hr (h:wV lt S)(hc:lY cmp lt S){n:Nat}(PR:n<=1000000000)(P Q:List α)(x:α)(sx:S x):∀ (k:Nat) (L1 L2:List α) (N:Nat),L1.length=k->(∀ z∈L1++L2,S z)->dC lt (L1++L2)->(L2=[] \/ ∃ z L,L2=z::L/\lt z x=false)->(P++((L1++x::L2)++Q)).length=n->k<N ->
  ∃ M j,ao (dH (P.length:Int) cmp n) N (P++((L1++x::L2)++Q),((P.length+k:Nat):Int))=some (.inl (P++(M++Q),j))/\dC lt M/\M.Perm (x::(L1++L2))
 |k,L1,L2,0,_,_,_,_,_,hN=>by omega
 |0,L1,L2,N+1,hk,hS,ha,h2,hn,hN=>by
  have:L1=[]:=aqK.1 hk;subst this;rw[ao];have hb:dH (P.length:Int) cmp n (P++(([]++x::L2)++Q),((P.length+0:Nat):Int))=some (.exit (P++(([]++x::L2)++Q),((P.length+0:Nat):Int))):=by
   unfold dH;dsimp only;rw[aqb m0,ap']
  rw[hb];refine⟨x::L2,_,rfl,?_,.refl _⟩;have:=Ag h (L1:=[]) (L2:=L2) sx hS ha (.inl rfl) h2;exact this
 |k+1,L1,L2,N+1,hk,hS,ha,h2,hn,hN=>by
  obtain⟨L,y,rfl⟩:∃ L y,L1=L++[y]:=by
   rcases List.eq_nil_or_concat L1 with e|⟨L,y,e⟩
   ·subst e;simp at hk
   ·exact⟨L,y,by simpa using e⟩
  have hL:L.length=k:=by simp at hk;exact hk
  have Qj:=hn;simp only[aqg,aqv,aqE]at Qj;have sy:S y:=hS y m5;have e1:P++((L++[y])++x::L2++Q)=(P++L)++y::([]++x::(L2++Q)):=by simp
  have g1:(P++((L++[y])++x::L2++Q))[P.length+k]?=some y:=by rw[e1,<- hL,<- aqg];exact get_at _ _ _
  have g2:(P++((L++[y])++x::L2++Q))[P.length+(k+1)]?=some x:=by
   have:=AB (P++L) [] (L2++Q) y x;rw[<- e1]at this;rwa[show(P++L).length+1+([]:List α).length=P.length+(k+1)by simp;omega]at this
  obtain⟨r,hr,SE⟩:=hc x y sx sy;rw[ao]
  cases SQ:lt x y with
  |false =>
   have hb:dH (P.length:Int) cmp n (P++((L++[y])++x::L2++Q),((P.length+(k+1):Nat):Int))=some (.exit (P++((L++[y])++x::L2++Q),((P.length+(k+1):Nat):Int))):=by
    unfold dH;dsimp only;rw[wr1 _ m0 m0,show P.length+(k+1)-1=P.length+k by omega];simp only[aqc (show(P.length:Int)<((P.length+(k+1):Nat):Int)by omega),KI,Ir (show P.length+(k+1)<n by omega),Ir (show P.length+k<n by omega),aqa,gn_ g1,gn_ g2,ap9,hr,SE,SQ,ap']
   rw[hb];refine⟨(L++[y])++x::L2,_,rfl,Ag h sx hS ha (.inr ⟨L,y,rfl,SQ⟩) h2,List.perm_middle⟩
  |true =>
   have hb:dH (P.length:Int) cmp n (P++((L++[y])++x::L2++Q),((P.length+(k+1):Nat):Int))=some (.next (P++((L++x::(y::L2))++Q),((P.length+k:Nat):Int))):=by
    unfold dH;dsimp only;rw[wr1 _ m0 m0,show P.length+(k+1)-1=P.length+k by omega];simp only[aqc (show(P.length:Int)<((P.length+(k+1):Nat):Int)by omega),KI,Ir (show P.length+(k+1)<n by omega),Ir (show P.length+k<n by omega),aqa,gn_ g1,gn_ g2,ap9,hr,SE,SQ,ac8,List.length_set,aqc (show P.length+(k+1)<(P++((L++[y])++x::L2++Q)).length by omega),aqc (show P.length+k<(P++((L++[y])++x::L2++Q)).length by omega)];have s2:=acI (f:=fun z:α=>z) (P++L) [] (L2++Q) y x;rw[List.map_id',List.map_id',<- e1,show(P++L).length=P.length+k by simp;omega,aqE,show P.length+k+1+0=P.length+(k+1)by omega]at s2;rw[List.set_comm _ _ m0,s2];simp
   rw[hb];obtain⟨M,j,k1,k2,k3⟩:=Hr h hc PR P Q x sx k L (y::L2) N hL (fun z hz=>hS z (by simp at hz ⊢;rcases hz with hz|hz|hz<;>simp[hz])) (by simpa using ha) (.inr ⟨y,L2,rfl,h.le_of sx sy SQ⟩) (by rw[<- hn];simp) m0;exact⟨M,j,k1,k2,k3.trans m5⟩
theorem F7 (h:wV lt S)(hc:lY cmp lt S){n:Nat}(PR:n<=1000000000)(P Q:List α)(b:Nat):∀ (R M:List α) (N:Nat),P.length+M.length+R.length=b->(∀ z∈M++R,S z)->dC lt M->(P++(M++(R++Q))).length=n->R.length<N ->
  ∃ M',ao (dL (P.length:Int) (b:Int) cmp n) N (P++(M++(R++Q)),((P.length+M.length:Nat):Int))=some (.inl (P++(M'++Q),(b:Int)))/\dC lt M'/\M'.Perm (M++R)
 |R,M,0,_,_,_,_,hN=>by omega
 |[],M,N+1,hb,hS,ha,hn,hN=>by
  simp only[aqE,Nat.add_zero]at hb;subst hb;rw[ao];have hB:dL (P.length:Int) ((P.length+M.length:Nat):Int) cmp n (P++(M++([]++Q)),((P.length+M.length:Nat):Int))=some (.exit (P++(M++([]++Q)),((P.length+M.length:Nat):Int))):=by
   unfold dL;dsimp only;rw[aqb m0,ap']
  rw[hB];exact⟨M,rfl,ha,m5⟩
 |x::R,M,N+1,hb,hS,ha,hn,hN=>by
  have Qj:=hn;simp only[aqg,aqv]at Qj hb;obtain⟨M1,j,k1,k2,k3⟩:=Hr h hc PR P (R++Q) x (hS x m5) M.length M [] fuel rfl (fun z hz=>hS z (by simp at hz ⊢;exact .inl hz)) (by simpa using ha) (.inl rfl) (by rw[<- hn];simp) (by unfold fuel;omega);have hl:M1.length=M.length+1:=by rw[k3.length_eq];simp
  have e1:P++((M++x::[])++(R++Q))=P++(M++(x::R++Q)):=by simp
  rw[e1]at k1;rw[ao];have hB:dL (P.length:Int) (b:Int) cmp n (P++(M++(x::R++Q)),((P.length+M.length:Nat):Int))=some (.next (P++(M1++(R++Q)),((P.length+M1.length:Nat):Int))):=by
   unfold dL;dsimp only;rw[aqc (show((P.length+M.length:Nat):Int)<(b:Int)by omega),aqa,k1,ap9];unfold il;dsimp only;rw[wrapN m0,hl,Nat.add_assoc]
  rw[hB];obtain⟨M',q1,q2,q3⟩:=F7 h hc PR P Q b R M1 N m0 (fun z hz=>by
   rcases aqB.1 hz with hz|hz
   ·have:=k3.mem_iff.1 hz;simp at this;rcases this with rfl|hz
    ·exact hS z m5
    ·exact hS z (by simp[hz])
   ·exact hS z (by simp[hz])) k2 (by rw[<- hn];simp[hl];omega) (by simp at hN;omega)
  refine⟨M',q1,q2,q3.trans ?_⟩;refine(k3.append_right R).trans ?_;simp only[aqI,List.cons_append];exact(List.perm_middle (a:=x) (l₁:=M) (l₂:=R)).symm
theorem yZ (h:wV lt S)(hc:lY cmp lt S){n:Nat}(PR:n<=1000000000){P M Q:List α}(hS:∀ z∈M,S z)(hn:(P++(M++Q)).length=n):∃ M',nN n (P++(M++Q)) (P.length:Int) ((P.length+M.length:Nat):Int) cmp=some (P++(M'++Q))/\dC lt M'/\M'.Perm M:=by
 have Qj:=hn;simp only[aqg]at Qj;unfold nN;rw[show i64.wrap ((P.length:Int)+1)=((P.length+1:Nat):Int)from wrapN m0]
 match M,hS,hn,Qj with
 |[],hS,hn,Qj =>
  refine⟨[],?_,List.Pairwise.nil,.refl _⟩;have hf:fuel=(fuel-1)+1:=rfl;rw[hf,ao];have hB:dL (P.length:Int) ((P.length+([]:List α).length:Nat):Int) cmp n (P++([]++Q),((P.length+1:Nat):Int))=some (.exit (P++([]++Q),((P.length+1:Nat):Int))):=by
   unfold dL;dsimp only;rw[aqb (by simp only[aqE];omega),ap']
  rw[hB];rfl
 |x::M,hS,hn,Qj =>
  simp only[aqv]at Qj;obtain⟨M',q1,q2,q3⟩:=F7 h hc PR P Q (P.length+(x::M).length) M [x] fuel m8 (by simpa using hS) (by simp[dC]) (by rw[<- hn];simp) (by unfold fuel;omega);refine⟨M',?_,q2,by simpa using q3⟩;have e:P++([x]++(M++Q))=P++(x::M++Q):=by simp
  rw[e,show P.length+[x].length=P.length+1 from rfl]at q1;rw[q1];rfl
end
section
variable {α:Type} {lt:α->α->Bool} {S:α->Prop} {cmp:α->α->Option Int}
theorem wU {β:Type}{body:Int×Int->Option (Step (Int×Int) β)}(lo hi:Nat)(p:Nat->Bool)(hB:∀ i j:Nat,lo<=i->i<j->j<=hi->body ((i:Int),(j:Int))=some (.next (bif p ((i+j)/2)then((((i+j)/2+1:Nat):Int),(j:Int))else((i:Int),(((i+j)/2:Nat):Int)))))(hE:∀ i:Nat,body ((i:Int),(i:Int))=some (.exit ((i:Int),(i:Int)))) :
  ∀ (N i j:Nat),lo<=i->i<=j->j<=hi->j-i<N->(i=lo\/p (i-1)=true)->(j=hi\/p j=false) ->∃ s:Nat,ao body N ((i:Int),(j:Int))=some (.inl ((s:Int),(s:Int)))/\lo<=s/\s<=hi/\(s=lo\/p (s-1)=true)/\(s=hi\/p s=false)
 |0,i,j,_,_,_,h,_,_=>by omega
 |N+1,i,j,h1,h2,h3,hN,QZ,Vj=>by
  rw[ao];by_cases he:i=j
  ·subst he
   rw[hE];exact⟨i,rfl,h1,h3,QZ,Vj⟩
  ·rw[hB i j h1 m0 h3]
   cases hp:p ((i+j)/2)with
   |true =>
    rw[aqa];exact wU lo hi p hB hE N ((i+j)/2+1) j m0 m0 h3 m0 (.inr (by rw[Nat.add_sub_cancel];exact hp)) Vj
   |false =>
    rw[ap'];exact wU lo hi p hB hE N i ((i+j)/2) h1 m0 m0 m0 QZ (.inr hp)
theorem agi {n:Nat}(PR:n<=1000000000)(x:α)(Q:List α)(i:Nat):∀ (B P:List α) (N:Nat),P.length+B.length+1=i->(P++x::(B++Q)).length=n->B.length<N ->∃ k,ao (kV n (i:Int)) N (P++x::(B++Q),(P.length:Int))=some (.inl (P++(B++x::Q),k))
 |B,P,0,_,_,hN=>by omega
 |[],P,N+1,hi,hn,hN=>by
  simp only[aqE,Nat.add_zero]at hi;have Qj:=hn;simp only[aqg,aqv]at Qj;subst hi;rw[ao];have hb:kV n ((P.length+1:Nat):Int) (P++x::([]++Q),(P.length:Int))=some (.exit (P++x::([]++Q),(P.length:Int))):=by
   unfold kV;dsimp only;rw[wr1 _ m0 m0,aqb m0,ap']
  rw[hb];exact⟨_,rfl⟩
 |y::B,P,N+1,hi,hn,hN=>by
  simp only[aqv]at hi hN;have Qj:=hn;simp only[aqg,aqv]at Qj;have g1:(P++x::(y::B++Q))[P.length]?=some x:=get_at _ _ _;have g2:(P++x::(y::B++Q))[P.length+1]?=some y:=AB P [] (B++Q) x y;rw[ao];have hb:kV n (i:Int) (P++x::(y::B++Q),(P.length:Int))=some (.next ((P++[y])++x::(B++Q),(((P++[y]).length:Nat):Int))):=by
   unfold kV;dsimp only;rw[wr1 _ m0 m0,wrapN m0];have s2:=acI (f:=fun z:α=>z) P [] (B++Q) x y;rw[List.map_id',List.map_id',aqE,Nat.add_zero]at s2;have s3:((P++x::(y::B++Q)).set P.length y).set (P.length+1) x=P++y::x::(B++Q):=s2;simp only[aqc (show(P.length:Int)<((i-1:Nat):Int)by omega),KI,Ir (show P.length+1<n by omega),Ir (show P.length<n by omega),aqa,gn_ g1,gn_ g2,ap9,ac8,List.length_set,aqc (show P.length+1<(P++x::(y::B++Q)).length by rw[hn];omega),aqc (show P.length<(P++x::(y::B++Q)).length by rw[hn];omega),s3];simp
  rw[hb];obtain⟨k,hk⟩:=agi PR x Q i B (P++[y]) N m8 (by rw[<- hn];simp only[aqg,aqv,aqE];omega) m0;exact⟨k,by show ao _ N _=_;rw[hk];simp⟩
theorem ahW {n:Nat}(PR:n<=1000000000)(x:α)(P:List α):∀ (l:Nat) (A Q:List α) (N:Nat),A.length=l->(P++(A++x::Q)).length=n->l<N ->∃ k,ao (l7 n (P.length:Int)) N (P++(A++x::Q),((P.length+l:Nat):Int))=some (.inl (P++x::(A++Q),k))
 |l,A,Q,0,_,_,hN=>by omega
 |0,A,Q,N+1,hl,hn,hN=>by
  have:A=[]:=aqK.1 hl;subst this;rw[ao];have hb:l7 n (P.length:Int) (P++([]++x::Q),((P.length+0:Nat):Int))=some (.exit (P++([]++x::Q),((P.length+0:Nat):Int))):=by
   unfold l7;dsimp only;rw[aqb m0,ap']
  rw[hb];exact⟨_,rfl⟩
 |l+1,A,Q,N+1,hl,hn,hN=>by
  obtain⟨L,y,rfl⟩:∃ L y,A=L++[y]:=by
   rcases List.eq_nil_or_concat A with e|⟨L,y,e⟩
   ·subst e;simp at hl
   ·exact⟨L,y,by simpa using e⟩
  have hL:L.length=l:=by simp at hl;exact hl
  have Qj:=hn;simp only[aqg,aqv,aqE]at Qj;have e1:P++((L++[y])++x::Q)=(P++L)++y::([]++x::Q):=by simp
  have g1:(P++((L++[y])++x::Q))[P.length+l]?=some y:=by rw[e1,<- hL,<- aqg];exact get_at _ _ _
  have g2:(P++((L++[y])++x::Q))[P.length+(l+1)]?=some x:=by
   have:=AB (P++L) [] Q y x;rw[<- e1]at this;rwa[show(P++L).length+1+([]:List α).length=P.length+(l+1)by simp;omega]at this
  rw[ao];have hb:l7 n (P.length:Int) (P++((L++[y])++x::Q),((P.length+(l+1):Nat):Int))=some (.next (P++(L++x::(y::Q)),((P.length+l:Nat):Int))):=by
   unfold l7;dsimp only;rw[wr1 _ m0 m0,show P.length+(l+1)-1=P.length+l by omega];have s2:=acI (f:=fun z:α=>z) (P++L) [] Q y x;rw[List.map_id',List.map_id',<- e1,show(P++L).length=P.length+l by simp;omega,aqE,show P.length+l+1+0=P.length+(l+1)by omega,List.set_comm _ _ m0]at s2;simp only[aqc (show(P.length:Int)<((P.length+(l+1):Nat):Int)by omega),KI,Ir (show P.length+(l+1)<n by omega),Ir (show P.length+l<n by omega),aqa,gn_ g1,gn_ g2,ap9,ac8,List.length_set,aqc (show P.length+(l+1)<(P++((L++[y])++x::Q)).length by rw[hn];omega),aqc (show P.length+l<(P++((L++[y])++x::Q)).length by rw[hn];omega),s2];simp
  rw[hb];obtain⟨k,hk⟩:=ahW PR x P l L (y::Q) N hL (by rw[<- hn];simp) m0;exact⟨k,by show ao _ N _=_;rw[hk];simp⟩
theorem rP {l:List α}{s:Nat}(h:s<=l.length):∃ a b,l=a++b/\a.length=s:=⟨l.take s,l.drop s,(aqU _ _).symm,by rw[aq0];omega⟩
theorem Ap {A:List α}(h:0<A.length):∃ L y,A=L++[y]:=by
 rcases List.eq_nil_or_concat A with e|⟨L,y,e⟩
 ·subst e;simp at h
 ·exact⟨L,y,by simpa using e⟩
theorem Am {A:List α}(h:0<A.length):∃ y L,A=y::L:=match A,h with|y::L,_=>⟨y,L,rfl⟩
def p1F (lt:α->α->Bool)(D:List α)(x:α)(i:Nat):Bool:=match D[i]? with|some y=>lt y x|none=>false
def p3F (lt:α->α->Bool)(D:List α)(x:α)(i:Nat):Bool:=match D[i]? with|some y => !lt x y|none=>false
def p5F (lt:α->α->Bool)(D:List α)(p i:Nat):Bool:=match D[p-i]?,D[i]? with|some x,some y => !lt x y|_,_=>false
theorem ajg (h:wV lt S)(hc:lY cmp lt S){n:Nat}(PR:n<=1000000000){P Q B:List α}{x:α}(sx:S x)(sB:∀ z∈B,S z)(hB:dC lt B)(hn:(P++x::(B++Q)).length=n) :
  ∃ M,((ao (np (P++x::(B++Q)) (P.length:Int) cmp n) fuel (((P.length+1:Nat):Int),((P.length+1+B.length:Nat):Int))).bind (rc (P++x::(B++Q)) (P.length:Int) n))=some (P++(M++Q))/\dC lt M/\M.Perm (x::B):=by
 have Qj:=hn;simp only[aqg,aqv]at Qj;have gx:(P++x::(B++Q))[P.length]?=some x:=get_at _ _ _;have gB:∀ i y,B[i]?=some y->(P++x::(B++Q))[P.length+1+i]?=some y:=by
  intro i y hy;have hi:=(ap_.1 hy).1;rw[aqf m0,show P.length+1+i-P.length=i+1 by omega,List.getElem?_cons_succ,aqm hi];exact hy
 obtain⟨s,hs,s1,s2,s3,s4⟩:=wU (body:=np (P++x::(B++Q)) (P.length:Int) cmp n) (P.length+1) (P.length+1+B.length) (p1F lt (P++x::(B++Q)) x) (by
  intro i j hi S3 hj;obtain⟨y,hy⟩:=gol_ (l:=B) (i:=(i+j)/2-(P.length+1)) m0;have gy:=gB _ _ hy;rw[show P.length+1+((i+j)/2-(P.length+1))=(i+j)/2 by omega]at gy;obtain⟨r,hr,SE⟩:=hc y x (sB y (aqe hy)) sx;unfold np;dsimp only;rw[xB m0,wrapN m0];simp only[Ir S3,KI,Ir (show(i+j)/2<n by omega),Ir (show P.length<n by omega),aqa,gn_ gy,gn_ gx,ap9,hr,SE];unfold p1F;rw[gy];dsimp only
  cases lt y x<;>rfl) (by
  intro i;unfold np;dsimp only;rw[aqb m0,ap']) fuel (P.length+1) (P.length+1+B.length) (aqo _) m0 (aqo _) (by unfold fuel;omega) (.inl rfl) (.inl rfl)
 rw[hs,ap9];obtain⟨B1,B2,rfl,Yt⟩:=rP (l:=B) (s:=s-(P.length+1)) m0;unfold rc;dsimp only;have e1:P++x::(B1++B2++Q)=P++x::(B1++(B2++Q)):=by simp
 rw[e1];obtain⟨k,hk⟩:=agi PR x (B2++Q) s B1 P fuel m0 (by rw[<- e1];exact hn) (by simp at Qj;unfold fuel;omega);rw[hk];refine⟨B1++x::B2,by show some (P++(B1++x::(B2++Q)))=_;simp,Ag h sx sB hB ?_ ?_,List.perm_middle⟩
 ·by_cases h0:0<B1.length
  ·obtain⟨L,y,rfl⟩:=Ap h0
   refine .inr ⟨L,y,rfl,?_⟩;have sy:=sB y m5;rcases s3 with e|e
   ·simp at Yt;omega
   ·have gy:=gB (s-1-(P.length+1)) y (by
     have:(L++[y]).length=s-(P.length+1):=Yt;simp at this;rw[aqA,aqf m0,show s-1-(P.length+1)-L.length=0 by omega];rfl)
    rw[show P.length+1+(s-1-(P.length+1))=s-1 by simp at Yt;omega]at gy;unfold p1F at e;rw[gy]at e;exact h.le_of sy sx e
  ·exact .inl (aqK.1 m0)
 ·by_cases h0:0<B2.length
  ·obtain⟨z,L,rfl⟩:=Am h0
   refine .inr ⟨z,L,rfl,?_⟩;rcases s4 with e|e
   ·simp at e;omega
   ·have gz:=gB (s-(P.length+1)) z (by rw[<- Yt];exact get_at _ _ _)
    rw[show P.length+1+(s-(P.length+1))=s by omega]at gz;unfold p1F at e;rw[gz]at e;exact e
  ·exact .inl (aqK.1 m0)
theorem akn (h:wV lt S)(hc:lY cmp lt S){n:Nat}(PR:n<=1000000000){P Q A:List α}{x:α}(sx:S x)(sA:∀ z∈A,S z)(hA:dC lt A)(hn:(P++(A++x::Q)).length=n) :
  ∃ M,((ao (om (P++(A++x::Q)) ((P.length+A.length:Nat):Int) cmp n) fuel ((P.length:Int),((P.length+A.length:Nat):Int))).bind (qZ (P++(A++x::Q)) ((P.length+A.length:Nat):Int) n))=some (P++(M++Q))/\dC lt M/\M.Perm (A++[x]):=by
 have Qj:=hn;simp only[aqg,aqv]at Qj;have gx:(P++(A++x::Q))[P.length+A.length]?=some x:=by rw[<- aqA,<- aqg];exact get_at _ _ _
 have gA:∀ i y,A[i]?=some y->(P++(A++x::Q))[P.length+i]?=some y:=by
  intro i y hy;have hi:=(ap_.1 hy).1;rw[aqf m0,show P.length+i-P.length=i by omega,aqm hi];exact hy
 obtain⟨s,hs,s1,s2,s3,s4⟩:=wU (body:=om (P++(A++x::Q)) ((P.length+A.length:Nat):Int) cmp n) P.length (P.length+A.length) (p3F lt (P++(A++x::Q)) x) (by
  intro i j hi S3 hj;obtain⟨y,hy⟩:=gol_ (l:=A) (i:=(i+j)/2-P.length) m0;have gy:=gA _ _ hy;rw[show P.length+((i+j)/2-P.length)=(i+j)/2 by omega]at gy;obtain⟨r,hr,SE⟩:=hc x y sx (sA y (aqe hy));unfold om;dsimp only;rw[xB m0,wrapN m0];simp only[Ir S3,KI,Ir (show(i+j)/2<n by omega),Ir (show P.length+A.length<n by omega),aqa,gn_ gy,gn_ gx,ap9,hr,SE];unfold p3F;rw[gy];dsimp only
  cases lt x y<;>rfl) (by
  intro i;unfold om;dsimp only;rw[aqb m0,ap']) fuel P.length (P.length+A.length) (aqo _) m0 (aqo _) (by unfold fuel;omega) (.inl rfl) (.inl rfl)
 rw[hs,ap9];obtain⟨A1,A2,rfl,Yu⟩:=rP (l:=A) (s:=s-P.length) m0;unfold qZ;dsimp only;have e1:P++(A1++A2++x::Q)=(P++A1)++(A2++x::Q):=by simp
 have hlA:(P++A1).length=s:=by simp;omega
 rw[e1,<- hlA];have UG:P.length+(A1++A2).length=(P++A1).length+A2.length:=by simp;omega
 rw[UG];obtain⟨k,hk⟩:=ahW PR x (P++A1) A2.length A2 Q fuel rfl (by rw[<- e1];exact hn) (by simp at Qj;unfold fuel;omega);rw[hk];refine⟨A1++x::A2,by show some ((P++A1)++x::(A2++Q))=_;simp,Ag h sx sA hA ?_ ?_,?_⟩
 ·by_cases h0:0<A1.length
  ·obtain⟨L,y,rfl⟩:=Ap h0
   refine .inr ⟨L,y,rfl,?_⟩;rcases s3 with e|e
   ·simp at Yu;omega
   ·have gy:=gA (s-1-P.length) y (by
     have:(L++[y]).length=s-P.length:=Yu;simp at this;rw[aqA,aqf m0,show s-1-P.length-L.length=0 by omega];rfl)
    rw[show P.length+(s-1-P.length)=s-1 by simp at Yu;omega]at gy;unfold p3F at e;rw[gy]at e;simpa using e
  ·exact .inl (aqK.1 m0)
 ·by_cases h0:0<A2.length
  ·obtain⟨z,L,rfl⟩:=Am h0
   refine .inr ⟨z,L,rfl,?_⟩;have sz:=sA z m5;rcases s4 with e|e
   ·simp at e Yu;omega
   ·have gz:=gA (s-P.length) z (by rw[<- Yu];exact get_at _ _ _)
    rw[show P.length+(s-P.length)=s by omega]at gz;unfold p3F at e;rw[gz]at e;exact h.le_of sx sz (by simpa using e)
  ·exact .inl (aqK.1 m0)
 ·rw[aqA]
  refine List.Perm.append_left A1 ?_;exact(List.perm_append_comm (l₁:=[x]) (l₂:=A2))
end
section
variable {α:Type} {lt:α->α->Bool} {S:α->Prop} {cmp:α->α->Option Int}
def JM (rec:Nat->List α->Int->Int->Int->(α->α->Option Int)->Option (List α))(cmp:α->α->Option Int)(n:Nat)(D:List α)(a s m e mid b:Int):Option (List α) :=
 (bif decide (s<m)&&decide (m<e)then mA n D s m e cmp else some D).bind fun c1 =>
 (bif decide (a<s)&&decide (s<mid)then rec n c1 a s mid cmp else some c1).bind fun c2 =>
 (bif decide (mid<e)&&decide (e<b)then rec n c2 mid e b cmp else some c2).bind fun c3=>some c3
theorem ag9 (rec:Nat->List α->Int->Int->Int->(α->α->Option Int)->Option (List α))(n:Nat)(D:List α)(a m b s:Int):jG D a m b cmp n rec (.inl (s,s))=JM rec cmp n D a s m (i64.wrap ((i64.wrap ((bL (i64.wrap (a+b)))+m))-s)) (bL (i64.wrap (a+b))) b:=by
 unfold jG JM;dsimp only;generalize bL (i64.wrap (a+b))=mid;generalize i64.wrap (i64.wrap (mid+m)-s)=e;generalize decide (s<m)=d1;generalize decide (m<e)=d2;generalize decide (a<s)=d3;generalize decide (s<mid)=d4;generalize decide (mid<e)=d5;generalize decide (e<b)=d6
 cases d1<;>cases d2<;>cases d3<;>cases d4<;>cases d5<;>cases d6<;>rfl
theorem aog (D:List α)(a m b:Int)(n:Nat):vu D a m b cmp n=j7 D a m b cmp n:=rfl
theorem ank (rec:Nat->List α->Int->Int->Int->(α->α->Option Int)->Option (List α))(D:List α)(a m b:Int)(n:Nat):rp D a m b cmp n rec=jG D a m b cmp n rec:=by
 funext q
 cases q<;>rfl
theorem acA (h:wV lt S)(hc:lY cmp lt S){n:Nat}(PR:n<=1000000000){D:List α}(hD:D.length=n)(hS:∀ z∈D,S z){a m b lo hi:Nat}(hab:a<m/\m<b/\b<=n)(hlh:lo<=hi)(Po:a<=lo)(PG:hi<=m)(hlo2:(a+b)/2+m<=lo+b)(hhi2:hi+a<=(a+b)/2+m )(hhi3:hi<=(a+b)/2)(hlo3:m<=(a+b)/2+m-hi) :
  ∃ s:Nat,ao (j7 D (a:Int) (m:Int) (b:Int) cmp n) fuel ((lo:Int),(hi:Int))=some (.inl ((s:Int),(s:Int)))/\lo<=s/\s<=hi/\(s=lo \/ ∃ x y,D[s-1]?=some x/\D[(a+b)/2+m-s]?=some y/\lt y x=false)/\(s=hi \/ ∃ x y,D[(a+b)/2+m-1-s]?=some x/\D[s]?=some y/\lt x y=true):=by
 obtain⟨s,hs,s1,s2,s3,s4⟩:=wU (body:=j7 D (a:Int) (m:Int) (b:Int) cmp n) lo hi (p5F lt D ((a+b)/2+m-1)) (by
  intro i j QZ S3 hj;obtain⟨x,hx⟩:=gol_ (l:=D) (i:=(a+b)/2+m-1-(i+j)/2) m0;obtain⟨y,hy⟩:=gol_ (l:=D) (i:=(i+j)/2) m0;obtain⟨r,hr,SE⟩:=hc x y (hS x (aqe hx)) (hS y (aqe hy));unfold j7;dsimp only;rw[xB (i:=i) (j:=j) m0,xB (i:=a) (j:=b) m0,wrA ((a+b)/2) m m0,wr1 _ m0 m0,wrS ((a+b)/2+m-1) ((i+j)/2) m0 m0,wrapN m0];simp only[Ir S3,KI,Ir (show(i+j)/2<n by omega),Ir (show(a+b)/2+m-1-(i+j)/2<n by omega),aqa,gn_ hx,gn_ hy,ap9,hr,SE];unfold p5F;rw[hx,hy];dsimp only
  cases lt x y<;>rfl) (by
  intro i;unfold j7;dsimp only;rw[aqb m0,ap']) fuel lo hi (aqo _) hlh (aqo _) (by unfold fuel;omega) (.inl rfl) (.inl rfl)
 refine⟨s,hs,s1,s2,?_,?_⟩
 ·rcases s3 with e|e
  ·exact .inl e
  ·by_cases VT:s=lo
   ·exact .inl VT
   ·refine .inr ?_
    obtain⟨x,hx⟩:=gol_ (l:=D) (i:=s-1) m0;obtain⟨y,hy⟩:=gol_ (l:=D) (i:=(a+b)/2+m-s) m0;unfold p5F at e;rw[show(a+b)/2+m-1-(s-1)=(a+b)/2+m-s by omega,hy,hx]at e;exact⟨x,y,hx,hy,by simpa using e⟩
 ·by_cases V4:s=hi
  ·exact .inl V4
  ·rcases s4 with e|e
   ·exact .inl e
   ·refine .inr ?_
    obtain⟨x,hx⟩:=gol_ (l:=D) (i:=(a+b)/2+m-1-s) m0;obtain⟨y,hy⟩:=gol_ (l:=D) (i:=s) m0;unfold p5F at e;rw[hx,hy]at e;exact⟨x,y,hx,hy,by simpa using e⟩
theorem Ak (h:wV lt S)(hc:lY cmp lt S){n:Nat}(PR:n<=1000000000):∀ (q:Nat) (P A B Q:List α),A.length+B.length<=q->0<A.length->0<B.length->(∀ z∈P++(A++(B++Q)),S z)->dC lt A->dC lt B->(P++(A++(B++Q))).length=n ->
  ∃ M,EC q n (P++(A++(B++Q))) (P.length:Int) ((P.length+A.length:Nat):Int) ((P.length+A.length+B.length:Nat):Int) cmp=some (P++(M++Q))/\dC lt M/\M.Perm (A++B)
 |0,P,A,B,Q,hq,hA,hB,_,_,_,_=>by omega
 |q+1,P,A,B,Q,hq,hA,hB,hS,aA,aB,hn=>by
  have Qj:=hn;simp only[aqg]at Qj;have sA:∀ z∈A,S z:=fun z hz=>hS z (by simp[hz])
  have sB:∀ z∈B,S z:=fun z hz=>hS z (by simp[hz])
  show ∃ M,qz (EC q) n (P++(A++(B++Q))) (P.length:Int) ((P.length+A.length:Nat):Int) ((P.length+A.length+B.length:Nat):Int) cmp=some (P++(M++Q))/\_;unfold qz;rw[wrS (P.length+A.length) P.length m0 m0,wrS (P.length+A.length+B.length) (P.length+A.length) m0 m0,show P.length+A.length-P.length=A.length by omega,show P.length+A.length+B.length-(P.length+A.length)=B.length by omega];by_cases c1:A.length=1
  ·obtain⟨x,rfl⟩:∃ x,A=[x]:=match A,c1 with|[x],_=>⟨x,rfl⟩
   rw[aqc (show(([x]:List α).length:Int)=1 from rfl),aqa];obtain⟨M,k1,k2,k3⟩:=ajg h hc PR (P:=P) (Q:=Q) (sA x m5) sB aB hn;exact⟨M,k1,k2,k3⟩
  ·rw[aqb (show ¬ (A.length:Int)=1 by omega),ap']
   by_cases c2:B.length=1
   ·obtain⟨x,rfl⟩:∃ x,B=[x]:=match B,c2 with|[x],_=>⟨x,rfl⟩
    rw[aqc (show(([x]:List α).length:Int)=1 from rfl),aqa];obtain⟨M,k1,k2,k3⟩:=akn h hc PR (P:=P) (Q:=Q) (sB x m5) sA aA hn;exact⟨M,k1,k2,k3⟩
   ·rw[aqb (show ¬ (B.length:Int)=1 by omega),ap',xB m0]
    have hD:(P++(A++(B++Q))).length=n:=hn;have gA:∀ i y,A[i]?=some y->(P++(A++(B++Q)))[P.length+i]?=some y:=by
     intro i y hy;have hi:=(ap_.1 hy).1;rw[aqf m0,show P.length+i-P.length=i by omega,aqm hi];exact hy
    have gB:∀ i y,B[i]?=some y->(P++(A++(B++Q)))[P.length+A.length+i]?=some y:=by
     intro i y hy;have hi:=(ap_.1 hy).1;rw[aqf m0,aqf m0,show P.length+A.length+i-P.length-A.length=i by omega,aqm hi];exact hy
    generalize WF:(P.length+(P.length+A.length+B.length))/2=mid

    have key:∃ s:Nat,((bif decide (((mid:Nat):Int)<((P.length+A.length:Nat):Int))then(ao (j7 (P++(A++(B++Q))) (P.length:Int) ((P.length+A.length:Nat):Int) ((P.length+A.length+B.length:Nat):Int) cmp n) fuel ((i64.wrap ((i64.wrap (((mid:Nat):Int)+((P.length+A.length:Nat):Int)))-((P.length+A.length+B.length:Nat):Int))),((mid:Nat):Int))).bind (jG (P++(A++(B++Q))) (P.length:Int) ((P.length+A.length:Nat):Int) ((P.length+A.length+B.length:Nat):Int) cmp n (EC q))else
      (ao (vu (P++(A++(B++Q))) (P.length:Int) ((P.length+A.length:Nat):Int) ((P.length+A.length+B.length:Nat):Int) cmp n) fuel ((P.length:Int),((P.length+A.length:Nat):Int))).bind (rp (P++(A++(B++Q))) (P.length:Int) ((P.length+A.length:Nat):Int) ((P.length+A.length+B.length:Nat):Int) cmp n (EC q))))=jG (P++(A++(B++Q))) (P.length:Int) ((P.length+A.length:Nat):Int) ((P.length+A.length+B.length:Nat):Int) cmp n (EC q) (.inl ((s:Int),(s:Int))) /\
      P.length<=s/\s<=P.length+A.length/\P.length+A.length<=mid+(P.length+A.length)-s/\mid+(P.length+A.length)-s<=P.length+A.length+B.length/\s<=mid+(P.length+A.length) /\
      (s=P.length\/mid+(P.length+A.length)-s=P.length+A.length+B.length \/ ∃ x y,(P++(A++(B++Q)))[s-1]?=some x/\(P++(A++(B++Q)))[mid+(P.length+A.length)-s]?=some y/\lt y x=false) /\
      (mid+(P.length+A.length)-s=P.length+A.length\/s=P.length+A.length \/ ∃ x y,(P++(A++(B++Q)))[mid+(P.length+A.length)-1-s]?=some x/\(P++(A++(B++Q)))[s]?=some y/\lt x y=true):=by
     by_cases hm:mid<P.length+A.length
     ·rw[aqc (show((mid:Nat):Int)<((P.length+A.length:Nat):Int)by omega),aqa,wrA mid (P.length+A.length) m0,wrS (mid+(P.length+A.length)) (P.length+A.length+B.length) m0 m0]
      obtain⟨s,hs,s1,s2,s3,s4⟩:=acA h hc PR hD hS (a:=P.length) (m:=P.length+A.length) (b:=P.length+A.length+B.length) (lo:=mid+(P.length+A.length)-(P.length+A.length+B.length)) (hi:=mid) m0 m0 m0 m0 m0 m0 m0 m0;rw[hs,ap9];rw[WF]at s3 s4;refine⟨s,rfl,m0,m0,m0,m0,m0,?_,?_⟩
      ·rcases s3 with e|e
       ·exact .inr (.inl m0)
       ·exact .inr (.inr e)
      ·rcases s4 with e|e
       ·exact .inl m0
       ·exact .inr (.inr e)
     ·rw[aqb (show ¬ ((mid:Nat):Int)<((P.length+A.length:Nat):Int)by omega),ap',aog,ank]
      obtain⟨s,hs,s1,s2,s3,s4⟩:=acA h hc PR hD hS (a:=P.length) (m:=P.length+A.length) (b:=P.length+A.length+B.length) (lo:=P.length) (hi:=P.length+A.length) m0 m0 m0 m0 m0 m0 m0 m0;rw[hs,ap9];rw[WF]at s3 s4;refine⟨s,rfl,m0,m0,m0,m0,m0,?_,?_⟩
      ·rcases s3 with e|e
       ·exact .inl e
       ·exact .inr (.inr e)
      ·rcases s4 with e|e
       ·exact .inr (.inl e)
       ·exact .inr (.inr e)
    obtain⟨s,hk,s1,s2,s3,s4,s4b,s5,s6⟩:=key;rw[hk,ag9,xB m0,WF,wrA mid (P.length+A.length) m0,wrS (mid+(P.length+A.length)) s s4b m0];obtain⟨A1,A2,rfl,Yu⟩:=rP (l:=A) (s:=s-P.length) m0;obtain⟨B1,B2,rfl,Yt⟩:=rP (l:=B) (s:=mid+(P.length+(A1++A2).length)-s-(P.length+(A1++A2).length)) m0;simp only[aqg]at hk s1 s2 s3 s4 s4b s5 s6 hA hB hq c1 c2 WF Yt Qj ⊢;have eS:s=P.length+A1.length:=m0
    have eE:mid+(P.length+(A1.length+A2.length))-s=P.length+(A1.length+A2.length)+B1.length:=m0
    have eM:mid=P.length+A1.length+B1.length:=m0

    have h1:A1=[]\/B2=[] \/ ∃ A' x y B',A1=A'++[x]/\B2=y::B'/\lt y x=false:=by
     by_cases z1:0<A1.length
     ·by_cases z2:0<B2.length
      ·obtain⟨A',x,rfl⟩:=Ap z1
       obtain⟨y,B',rfl⟩:=Am z2;refine .inr (.inr ⟨A',x,y,B',rfl,rfl,?_⟩);simp only[aqg,aqv,aqE]at *;rcases s5 with e|e|⟨x',y',e1,e2,e3⟩
       ·omega
       ·omega
       ·have g1:=gA A'.length x m5
        have g2:=gB B1.length y m5;rw[show P.length+A'.length=s-1 by omega,e1]at g1
        try simp only[aqg,aqv,aqE]at g2
        rw[show P.length+(A'.length+(0+1)+A2.length)+B1.length=mid+(P.length+(A'.length+(0+1)+A2.length))-s by omega,e2]at g2;rw[<- aqG g1,<- aqG g2];exact e3
      ·exact .inr (.inl (aqK.1 m0))
     ·exact .inl (aqK.1 m0)
    have h2:B1=[]\/A2=[] \/ ∃ A' x y B',B1=A'++[x]/\A2=y::B'/\lt y x=false:=by
     by_cases z1:0<B1.length
     ·by_cases z2:0<A2.length
      ·obtain⟨B',x,rfl⟩:=Ap z1
       obtain⟨y,A',rfl⟩:=Am z2;refine .inr (.inr ⟨B',x,y,A',rfl,rfl,?_⟩);have sx:=sB x m5;have sy:=sA y m5;simp only[aqg,aqv,aqE]at *;rcases s6 with e|e|⟨x',y',e1,e2,e3⟩
       ·omega
       ·omega
       ·have g1:=gB B'.length x m5
        have g2:=gA A1.length y m5
        try simp only[aqg,aqv,aqE]at g1
        rw[show P.length+(A1.length+(A'.length+1))+B'.length=mid+(P.length+(A1.length+(A'.length+1)))-1-s by omega,e1]at g1;rw[<- eS,e2]at g2;rw[aqG g1,aqG g2]at e3;exact h.le_of sx sy e3
      ·exact .inr (.inl (aqK.1 m0))
     ·exact .inl (aqK.1 m0)
    have pA:=List.pairwise_append.1 aA;have pB:=List.pairwise_append.1 aB

    unfold JM;rw[eE,eS,eM];have r1:(bif decide (((P.length+A1.length:Nat):Int)<((P.length+(A1.length+A2.length):Nat):Int))&&decide (((P.length+(A1.length+A2.length):Nat):Int)<((P.length+(A1.length+A2.length)+B1.length:Nat):Int))then mA n (P++(A1++A2++(B1++B2++Q))) ((P.length+A1.length:Nat):Int) ((P.length+(A1.length+A2.length):Nat):Int) ((P.length+(A1.length+A2.length)+B1.length:Nat):Int) cmp else some (P++(A1++A2++(B1++B2++Q))))=some (P++(A1++(B1++(A2++(B2++Q))))):=by
     have e0:P++(A1++A2++(B1++B2++Q))=(P++A1)++(A2++(B1++(B2++Q))):=by simp
     by_cases z1:0<A2.length
     ·by_cases z2:0<B1.length
      ·rw[aqc m0,aqc m0,Bool.and_self,aqa]
       have hr:=abU PR (P:=P++A1) (A:=A2) (B:=B1) (Q:=B2++Q) cmp z1 z2 (by rw[<- e0];exact hn);rw[e0];simp only[aqg]at hr;rw[show P.length+(A1.length+A2.length)=P.length+A1.length+A2.length by omega,hr];simp
      ·have:B1=[]:=aqK.1 m0
       subst this;rw[show decide (((P.length+(A1.length+A2.length):Nat):Int)<((P.length+(A1.length+A2.length)+([]:List α).length:Nat):Int))=false from aqb m5,Bool.and_false,ap'];simp
     ·have:A2=[]:=aqK.1 m0
      subst this;rw[show decide (((P.length+A1.length:Nat):Int)<((P.length+(A1.length+([]:List α).length):Nat):Int))=false from aqb m5,Bool.false_and,ap'];simp
    rw[r1,ap9];have r2:∃ M1,(bif decide ((P.length:Int)<((P.length+A1.length:Nat):Int))&&decide (((P.length+A1.length:Nat):Int)<((P.length+A1.length+B1.length:Nat):Int))then EC q n (P++(A1++(B1++(A2++(B2++Q))))) (P.length:Int) ((P.length+A1.length:Nat):Int) ((P.length+A1.length+B1.length:Nat):Int) cmp else some (P++(A1++(B1++(A2++(B2++Q))))))=some (P++(M1++(A2++(B2++Q))))/\dC lt M1/\M1.Perm (A1++B1):=by
     by_cases z1:0<A1.length
     ·by_cases z2:0<B1.length
      ·rw[aqc m0,aqc m0,Bool.and_self,aqa]
       exact Ak h hc PR q P A1 B1 (A2++(B2++Q)) m0 z1 z2 (fun z hz=>hS z (by simp only[aqB]at hz ⊢;rcases hz with hz|hz|hz|hz|hz|hz<;>simp[hz])) pA.1 pB.1 (by rw[<- hn];simp only[aqg];omega)
      ·have:B1=[]:=aqK.1 m0
       subst this;rw[show decide (((P.length+A1.length:Nat):Int)<((P.length+A1.length+([]:List α).length:Nat):Int))=false from aqb m5,Bool.and_false,ap'];exact⟨A1,m5,pA.1,m5⟩
     ·have:A1=[]:=aqK.1 m0
      subst this;rw[show decide ((P.length:Int)<((P.length+([]:List α).length:Nat):Int))=false from aqb m5,Bool.false_and,ap'];exact⟨B1,m5,pB.1,m5⟩
    obtain⟨M1,r2,m1,p1⟩:=r2;rw[r2,ap9];have hM1:M1.length=A1.length+B1.length:=by rw[p1.length_eq,aqg]
    have r3:∃ M2,(bif decide (((P.length+A1.length+B1.length:Nat):Int)<((P.length+(A1.length+A2.length)+B1.length:Nat):Int))&&decide (((P.length+(A1.length+A2.length)+B1.length:Nat):Int)<((P.length+(A1.length+A2.length)+(B1.length+B2.length):Nat):Int))then EC q n (P++(M1++(A2++(B2++Q)))) ((P.length+A1.length+B1.length:Nat):Int) ((P.length+(A1.length+A2.length)+B1.length:Nat):Int) ((P.length+(A1.length+A2.length)+(B1.length+B2.length):Nat):Int) cmp else some (P++(M1++(A2++(B2++Q)))))=some (P++(M1++(M2++Q)))/\dC lt M2/\M2.Perm (A2++B2):=by
     by_cases z1:0<A2.length
     ·by_cases z2:0<B2.length
      ·rw[aqc m0,aqc m0,Bool.and_self,aqa]
       obtain⟨M2,k1,k2,k3⟩:=Ak h hc PR q (P++M1) A2 B2 Q m0 z1 z2 (fun z hz=>by
        simp only[aqB]at hz;rcases hz with(hz|hz)|hz|hz|hz
        ·exact hS z (by simp[hz])
        ·have:=p1.mem_iff.1 hz
         simp only[aqB]at this;rcases this with hz|hz<;>exact hS z (by simp[hz])
        ·exact hS z (by simp[hz])
        ·exact hS z (by simp[hz])
        ·exact hS z (by simp[hz])) pA.2.1 pB.2.1 (by rw[<- hn];simp only[aqg];omega)
       refine⟨M2,?_,k2,k3⟩;simp only[aqg,hM1]at k1;rw[show P.length+A1.length+B1.length=P.length+(A1.length+B1.length)by omega,show P.length+(A1.length+A2.length)+B1.length=P.length+(A1.length+B1.length)+A2.length by omega,show P.length+(A1.length+A2.length)+(B1.length+B2.length)=P.length+(A1.length+B1.length)+A2.length+B2.length by omega];have e0:P++(M1++(A2++(B2++Q)))=(P++M1)++(A2++(B2++Q)):=by simp
       rw[e0,k1];simp
      ·have:B2=[]:=aqK.1 m0
       subst this;rw[show decide (((P.length+(A1.length+A2.length)+B1.length:Nat):Int)<((P.length+(A1.length+A2.length)+(B1.length+([]:List α).length):Nat):Int))=false from aqb m5,Bool.and_false,ap'];exact⟨A2,m5,pA.2.1,m5⟩
     ·have:A2=[]:=aqK.1 m0
      subst this;rw[show decide (((P.length+A1.length+B1.length:Nat):Int)<((P.length+(A1.length+([]:List α).length)+B1.length:Nat):Int))=false from aqb m5,Bool.false_and,ap'];exact⟨B2,m5,pB.2.1,m5⟩
    obtain⟨M2,r3,m2,p2⟩:=r3;rw[r3];refine⟨M1++M2,m5,aaK h (fun z hz=>?_) aA aB h1 h2 m1 m2 p1 p2,Lm p1 p2⟩;simp only[aqB]at hz;rcases hz with(hz|hz)|hz|hz<;>exact hS z (by simp[hz])
end
section
variable {α:Type} {lt:α->α->Bool} {S:α->Prop} {cmp:α->α->Option Int}
inductive Rn (lt:α->α->Bool)(bs:Nat):List α->Prop
 |last {A:List α}:A.length<=bs->dC lt A->Rn lt bs A
 |cons {A R:List α}:A.length=bs->dC lt A->Rn lt bs R->Rn lt bs (A++R)
inductive Fu (lt:α->α->Bool)(bs:Nat):List α->Prop
 |nil:Fu lt bs []
 |snoc {P A:List α}:Fu lt bs P->A.length=bs->dC lt A->Fu lt bs (P++A)
theorem Fu.rn {bs:Nat}{P:List α}(h:Fu lt bs P):∀ {R:List α},Rn lt bs R->Rn lt bs (P++R):=by
 induction h with
 |nil=>intro R h;exact h
 | @snoc P A _ hl ha ih =>
  intro R h;rw[aqA];exact ih (.cons hl ha h)
theorem Rn.asc {bs:Nat}{l:List α}(h:Rn lt bs l)(hb:0<bs)(hl:l.length<=bs):dC lt l:=by
 cases h with
 |last _ ha=>exact ha
 | @cons A R h1 h2 h3 =>
  have:R=[]:=aqK.1 (by rw[aqg]at hl;omega);subst this;rw[aqI];exact h2
theorem acm (h:wV lt S)(hc:lY cmp lt S){n:Nat}(PR:n<=100000000):∀ (N:Nat) (P R:List α),Fu lt 20 P->(∀ z∈P++R,S z)->(P++R).length=n->R.length<N ->
  ∃ P' R' b,ao (hJ (n:Int) cmp n) N (P++R,(P.length:Int),((P.length+20:Nat):Int))=some (.inl (P'++R',(P'.length:Int),b))/\Fu lt 20 P'/\R'.length<20/\(P'++R').Perm (P++R)
 |0,P,R,_,_,_,hN=>by omega
 |N+1,P,R,hF,hS,hn,hN=>by
  have Qj:=hn;rw[aqg]at Qj;rw[ao];by_cases hb:P.length+20<=n
  ·obtain⟨M,R1,rfl,hM⟩:=rP (l:=R) (s:=20) m0
   rw[aqg]at Qj hN;obtain⟨M',k1,k2,k3⟩:=yZ h hc (n:=n) m0 (P:=P) (M:=M) (Q:=R1) (fun z hz=>hS z (by simp[hz])) hn;have hM':M'.length=20:=by rw[k3.length_eq,hM]
   have hB:hJ (n:Int) cmp n (P++(M++R1),(P.length:Int),((P.length+20:Nat):Int))=some (.next ((P++M')++R1,(((P++M').length:Nat):Int),(((P++M').length+20:Nat):Int))):=by
    unfold hJ;dsimp only;rw[aqc (show((P.length+20:Nat):Int)<=(n:Int)by omega),aqa,<- hM,k1,ap9,hM,show i64.wrap (((P.length+20:Nat):Int)+20)=((P.length+20+20:Nat):Int)from wrA _ 20 m0];simp[hM']
   rw[hB];obtain⟨P',R',b,q1,q2,q3,q4⟩:=acm h hc PR N (P++M') R1 (.snoc hF hM' k2) (fun z hz=>by
    simp only[aqB]at hz;rcases hz with(hz|hz)|hz
    ·exact hS z (by simp[hz])
    ·exact hS z (by simp[k3.mem_iff.1 hz])
    ·exact hS z (by simp[hz])) (by rw[aqg,aqg];omega) m0
   refine⟨P',R',b,q1,q2,q3,q4.trans ?_⟩;rw[aqA];exact(k3.append_right R1).append_left P
  ·have hB:hJ (n:Int) cmp n (P++R,(P.length:Int),((P.length+20:Nat):Int))=some (.exit (P++R,(P.length:Int),((P.length+20:Nat):Int))):=by
    unfold hJ;dsimp only;rw[aqb m0,ap']
   rw[hB];exact⟨P,R,_,rfl,hF,m0,.refl _⟩
theorem acT (h:wV lt S)(hc:lY cmp lt S){n bs:Nat}(PR:n<=100000000)(hb:0<bs)(Pz:bs<=n):∀ (N:Nat) (P R:List α),Fu lt (2*bs) P->Rn lt bs R->(∀ z∈P++R,S z)->(P++R).length=n->R.length<N ->
  ∃ P' R' b,ao (g7 (n:Int) cmp n (bs:Int)) N (P++R,(P.length:Int),((P.length+2*bs:Nat):Int))=some (.inl (P'++R',(P'.length:Int),b))/\Fu lt (2*bs) P'/\Rn lt bs R'/\R'.length<2*bs/\(P'++R').Perm (P++R)
 |0,P,R,_,_,_,_,hN=>by omega
 |N+1,P,R,hF,hR,hS,hn,hN=>by
  have Qj:=hn;rw[aqg]at Qj;rw[ao];by_cases hle:P.length+2*bs<=n
  ·
   obtain⟨A,B,Q,rfl,hA,hB,aA,aB,hQ⟩:∃ A B Q,R=A++(B++Q)/\A.length=bs/\B.length=bs/\dC lt A/\dC lt B/\Rn lt bs Q:=by
    cases hR with
    |last h1 _=>omega
    | @cons A R1 h1 h2 h3 =>
     rw[aqg]at Qj
     cases h3 with
     |last g1 g2=>exact⟨A,R1,[],by rw[aqI],h1,m0,h2,g2,.last (aqu _) List.Pairwise.nil⟩
     | @cons B R2 g1 g2 g3=>exact⟨A,B,R2,rfl,h1,g1,h2,g2,g3⟩
   rw[aqg,aqg]at Qj hN;obtain⟨M,k1,k2,k3⟩:=Ak h hc (n:=n) m0 fuel P A B Q (by unfold fuel;omega) m0 m0 hS aA aB hn;have hM:M.length=2*bs:=by rw[k3.length_eq,aqg];omega
   have hBo:g7 (n:Int) cmp n (bs:Int) (P++(A++(B++Q)),(P.length:Int),((P.length+2*bs:Nat):Int))=some (.next ((P++M)++Q,(((P++M).length:Nat):Int),(((P++M).length+2*bs:Nat):Int))):=by
    unfold g7;dsimp only;rw[hA,hB,show P.length+bs+bs=P.length+2*bs by omega]at k1;rw[aqc (show((P.length+2*bs:Nat):Int)<=(n:Int)by omega),aqa,wrA P.length bs m0,k1,ap9,show i64.wrap ((2:Int)*(bs:Int))=((2*bs:Nat):Int)by rw[dj m0];omega,wrA _ (2*bs) m0];simp[hM]
   rw[hBo];obtain⟨P',R',b,q1,q2,q3,q4,q5⟩:=acT h hc PR hb Pz N (P++M) Q (.snoc hF hM k2) hQ (fun z hz=>by
    simp only[aqB]at hz;rcases hz with(hz|hz)|hz
    ·exact hS z (by simp[hz])
    ·have:=k3.mem_iff.1 hz;simp only[aqB]at this
     rcases this with hz|hz<;>exact hS z (by simp[hz])
    ·exact hS z (by simp[hz])) (by rw[aqg,aqg];omega) m0
   refine⟨P',R',b,q1,q2,q3,q4,q5.trans ?_⟩;rw[aqA];refine List.Perm.append_left P ?_;rw[<- aqA];exact k3.append_right Q
  ·have hBo:g7 (n:Int) cmp n (bs:Int) (P++R,(P.length:Int),((P.length+2*bs:Nat):Int))=some (.exit (P++R,(P.length:Int),((P.length+2*bs:Nat):Int))):=by
    unfold g7;dsimp only;rw[aqb m0,ap']
   rw[hBo];exact⟨P,R,_,rfl,hF,hR,m0,.refl _⟩
theorem ND (h:wV lt S)(hc:lY cmp lt S){n bs:Nat}(PR:n<=100000000)(hb:0<bs)(Pz:bs<n){c:List α}(hR:Rn lt bs c)(hS:∀ z∈c,S z)(hn:c.length=n):∃ c',ie (n:Int) cmp n (c,(bs:Int))=some (.next (c',((2*bs:Nat):Int)))/\Rn lt (2*bs) c'/\c'.Perm c:=by
 obtain⟨P,R,b,q1,q2,q3,q4,q5⟩:=acT h hc PR hb m0 fuel [] c .nil hR hS hn (by unfold fuel;omega);rw[aqd]at q1 q5;have hl:=q5.length_eq;rw[aqg,hn]at hl;have e2:i64.wrap ((2:Int)*(bs:Int))=((2*bs:Nat):Int):=by rw[dj m0];omega
 have e3:i64.wrap ((bs:Int)*2)=((2*bs:Nat):Int):=by rw[dj m0];omega
 simp only[aqE,aqR]at q1;unfold ie;dsimp only;rw[aqc (show(bs:Int)<(n:Int)by omega),aqa,e2];rw[show((0:Nat):Int)=0 from rfl]at q1;rw[q1,ap9];unfold qa;dsimp only;rw[wrA P.length bs m0,e3];have ZO:∀ z∈P++R,S z:=fun z hz=>hS z (q5.mem_iff.1 hz)
 by_cases O0:P.length+bs<n
 ·rw[aqc (show((P.length+bs:Nat):Int)<(n:Int)by omega),aqa]
  obtain⟨A,B,rfl,hA,hB,aA,aB⟩:∃ A B,R=A++B/\A.length=bs/\0<B.length/\dC lt A/\dC lt B:=by
   cases q3 with
   |last h1 _=>omega
   | @cons A R1 h1 h2 h3 =>
    rw[aqg]at hl q4;exact⟨A,R1,rfl,h1,m0,h2,h3.asc hb m0⟩
  rw[aqg]at hl q4;obtain⟨M,k1,k2,k3⟩:=Ak h hc (n:=n) m0 fuel P A B [] (by unfold fuel;omega) m0 hB (by simpa using ZO) aA aB (by rw[aqI,aqg,aqg];omega);have hM:M.length=A.length+B.length:=by rw[k3.length_eq,aqg]
  rw[hA,show P.length+bs+B.length=n by omega,aqI]at k1;rw[k1,ap9,aqI];exact⟨P++M,rfl,q2.rn (.last m0 k2),(k3.append_left P).trans q5⟩
 ·rw[aqb (show ¬ ((P.length+bs:Nat):Int)<(n:Int)by omega),ap']
  exact⟨P++R,rfl,q2.rn (.last m0 (q3.asc hb m0)),q5⟩
theorem ac4 (h:wV lt S)(hc:lY cmp lt S){n:Nat}(PR:n<=100000000):∀ (N bs:Nat) (c:List α),0<bs->bs<=2*n+20->Rn lt bs c->(∀ z∈c,S z)->c.length=n->n-bs<N ->
  ∃ c' b,ao (ie (n:Int) cmp n) N (c,(bs:Int))=some (.inl (c',b))/\dC lt c'/\c'.Perm c
 |0,bs,c,_,_,_,_,_,hN=>by omega
 |N+1,bs,c,hb,Pz,hR,hS,hn,hN=>by
  rw[ao];by_cases O0:bs<n
  ·obtain⟨c',k1,k2,k3⟩:=ND h hc PR hb O0 hR hS hn
   rw[k1];obtain⟨c2,b,q1,q2,q3⟩:=ac4 h hc PR N (2*bs) c' m0 m0 k2 (fun z hz=>hS z (k3.mem_iff.1 hz)) (by rw[k3.length_eq];exact hn) m0;exact⟨c2,b,q1,q2,q3.trans k3⟩
  ·have hB:ie (n:Int) cmp n (c,(bs:Int))=some (.exit (c,(bs:Int))):=by
    unfold ie;dsimp only;rw[aqb m0,ap']
   rw[hB];exact⟨c,_,rfl,hR.asc hb m0,.refl _⟩
theorem abQ (h:wV lt S)(hc:lY cmp lt S){n:Nat}(PR:n<=100000000){l:List α}(hS:∀ z∈l,S z)(hn:l.length=n):∃ r,vH n l (n:Int) cmp=some r/\dC lt r/\r.Perm l:=by
 obtain⟨P,R,b,q1,q2,q3,q4⟩:=acm h hc PR fuel [] l .nil hS hn (by unfold fuel;omega);rw[aqd]at q1 q4;have hl:=q4.length_eq;rw[aqg,hn]at hl;have ZO:∀ z∈P++R,S z:=fun z hz=>hS z (q4.mem_iff.1 hz)
 obtain⟨M,k1,k2,k3⟩:=yZ h hc (n:=n) m0 (P:=P) (M:=R) (Q:=[]) (fun z hz=>ZO z (by simp[hz])) (by rw[aqI,aqg];omega);rw[show P.length+R.length=n by omega,aqI,aqI]at k1;have hM:M.length=R.length:=k3.length_eq;obtain⟨c,b2,w1,w2,w3⟩:=ac4 h hc PR fuel 20 (P++M) m0 m0 (q2.rn (.last m0 k2)) (fun z hz=>by
  rcases aqB.1 hz with hz|hz
  ·exact ZO z (by simp[hz])
  ·exact ZO z (by simp[k3.mem_iff.1 hz])) (by rw[aqg];omega) (by unfold fuel;omega)
 refine⟨c,?_,w2,(w3.trans (k3.append_left P)).trans q4⟩;unfold vH;simp only[aqE,aqR]at q1;rw[show((0:Nat):Int)=0 from rfl,show((20:Nat):Int)=20 from rfl]at q1;rw[show((20:Nat):Int)=20 from rfl]at w1;rw[q1,ap9];unfold qg;dsimp only;rw[k1,ap9,w1];rfl
theorem aao (h:wV lt S)(hc:lY cmp lt S){n:Nat}(PR:n<=100000000){l:List α}(hS:∀ z∈l,S z)(hn:l.length=n):∃ r,xb n l cmp=some r/\dC lt r/\r.Perm l:=by
 obtain⟨r,h1,h2,h3⟩:=abQ h hc PR hS hn;refine⟨r,?_,h2,h3⟩;unfold xb;rw[h1];rfl
end
