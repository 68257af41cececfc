/- Parts. No condition. -/
import Derived.Test.YtlcceppoloaecaaGreatDoorXZB
import Derived.Test.YtlcceppoloaecaaGreatDoorXZC
set_option maxHeartbeats 8000000
set_option maxRecDepth 100000
set_option linter.unusedSimpArgs false
set_option linter.unusedVariables false
namespace Go.Proofs.YtlcceppoloaecaaGreatDoor
open IntKind (i64)
open Go.RowKit Go.MapKept
theorem afc {rec:Nat->List ac->Int->Int->Int->(ac->ac->Option Int)->Option (List ac)}{n:Nat}  (O_:∀ {n:Nat} {X:List ac} {a m b:Int} {cmp:ac->ac->Option Int} {v:Nat} {zr:FuncId} {zc:List AC} (zj:∀ (y0:ac) (y1:ac) (r:Int),cmp y0 y1=some r->PTz zr ([.agg (af y0),.agg (af y1)]++zc.map .one) (.val (.one (.int .i64 r)))) {r:List ac},rec n X a m b cmp=some r->RTz 277 [ct af 2 v X] [.one (.sl 0 v 0 n),.one (.c (.int .i64 a)),.one (.c (.int .i64 m)),.one (.c (.int .i64 b)),.one (.c (.fn zr zc))] [ct af 2 v r] (.tup [])){zd:(List ac)}{OW:Int}{O6:Int}{OX:Int}{a_cmp:ac->ac->Option (Int)}{v:Nat}{r:List ac}{zr:FuncId}{zc:List AC}(zj:∀ (y0:ac) (y1:ac) (r:Int),a_cmp y0 y1=some r->PTz zr ([.agg (af y0),.agg (af y1)]++zc.map .one) (.val (.one (.int .i64 r))))(H:rk rec n zd OW O6 OX a_cmp=some r):RTz 277 [ct af 2 v zd] [.one (.sl 0 v 0 n),.one (.c (.int .i64 OW)),.one (.c (.int .i64 O6)),.one (.c (.int .i64 OX)),.one (.c (.fn zr zc))] [ct af 2 v r] (.tup []):=by
 rcases UI:(decide ((i64.wrap (O6-OW))=(1:Int)))with _|_
 ·rcases SA:(decide ((i64.wrap (OX-O6))=(1:Int)))with _|_
  ·rcases T9:(decide ((bN (i64.wrap (OW+OX)))<O6))with _|_
   ·exact acI O_ zj UI SA T9 H
   ·exact aaA O_ zj UI SA T9 H
  ·exact abQ O_ zj UI SA H
 ·exact abo O_ zj UI H
theorem FQ:∀ (q:Nat) {n:Nat} {X:List ac} {a m b:Int} {cmp:ac->ac->Option Int} {v:Nat} {zr:FuncId} {zc:List AC} (zj:∀ (y0:ac) (y1:ac) (r:Int),cmp y0 y1=some r->PTz zr ([.agg (af y0),.agg (af y1)]++zc.map .one) (.val (.one (.int .i64 r)))) {r:List ac},CW q n X a m b cmp=some r->RTz 277 [ct af 2 v X] [.one (.sl 0 v 0 n),.one (.c (.int .i64 a)),.one (.c (.int .i64 m)),.one (.c (.int .i64 b)),.one (.c (.fn zr zc))] [ct af 2 v r] (.tup [])
 |0,_,_,_,_,_,_,_,_,_,_,_,h=>nomatch h
 |q+1,_,_,_,_,_,_,_,_,_,hf,_,h=>afc (FQ q) hf h
theorem NN {n:Nat}  {zd:(List ac)}{PS:Int}{a_cmp:ac->ac->Option (Int)}{v:Nat}{r:List ac}{zr:FuncId}{zc:List AC}(zj:∀ (y0:ac) (y1:ac) (r:Int),a_cmp y0 y1=some r->PTz zr ([.agg (af y0),.agg (af y1)]++zc.map .one) (.val (.one (.int .i64 r))))(H:wv n zd PS a_cmp=some r):RTz 254 [ct af 2 v zd] [.one (.sl 0 v 0 n),.one (.c (.int .i64 PS)),.one (.c (.fn zr zc))] [ct af 2 v r] (.tup []):=by
 unfold wv at H;refine bo am Tryz.func254 rfl rfl Tryz.ntmps254 m5 ?_;simp only[eI];refine uo ?_;refine alM_ (fun s:(List ac)×Int×Int=>match s with|(PU,We,TK)=>[(0,.one (.sl 0 v 0 n)),(1,.one (.c (.int .i64 PS))),(2,.one (.c (.fn zr zc))),(6,.one (.c (.int .i64 (20:Int)))),(7,.one (.c (.int .i64 We))),(8,.one (.c (.int .i64 TK)))]) (fun s=>match s with|(PU,We,TK)=>[ct af 2 v PU]) H (fun _=>aro _)
  (fm_ bG [] rfl a8 ⟨aR _ _ _ _ _,t7⟩) ?_
 rintro⟨PU,We,TK⟩ st1 OU PM;unfold iz at OU;dsimp only at OU ⊢;rcases aj OU with⟨Qk,OU⟩|⟨Qk,OU⟩
 ·obtain⟨c_5,c1,OU⟩:=bd_ OU
  replace c1:=xB (v:=v) (zc:=zc) zj c1
  cases OU;refine uo ?_;exact⟨_,rfl,fm_ bG [] rfl a8 ⟨aR _ _ _ _ _,t7⟩⟩
 cases OU;have O0:qE PS a_cmp n (.inl (PU,We,TK))=some _:=PM;unfold qE at O0;dsimp only at O0;obtain⟨YS,c2,O0⟩:=bd_ O0;replace c2:=xB (v:=v) (zc:=zc) zj c2;refine uo ?_;refine alM_ (fun s:(List ac)×Int=>match s with|(UG,O1)=>[(0,.one (.sl 0 v 0 n)),(1,.one (.c (.int .i64 PS))),(2,.one (.c (.fn zr zc))),(6,.one (.c (.int .i64 O1)))]) (fun s=>match s with|(UG,O1)=>[ct af 2 v UG]) O0 (fun _=>aro _)
  (fm_ bG [] rfl a8 ⟨aR _ _ _ _ _,t7⟩) ?_
 rintro⟨UG,O1⟩ st4 O7 hk4;unfold iw at O7;dsimp only at O7 ⊢;rcases aj O7 with⟨U_,O7⟩|⟨U_,O7⟩
 ·refine uo ?_
  refine alM_ (fun s:(List ac)×Int×Int=>match s with|(Sm,RG,RZ)=>[(0,.one (.sl 0 v 0 n)),(1,.one (.c (.int .i64 PS))),(2,.one (.c (.fn zr zc))),(6,.one (.c (.int .i64 O1))),(7,.one (.c (.int .i64 RG))),(8,.one (.c (.int .i64 RZ)))]) (fun s=>match s with|(Sm,RG,RZ)=>[ct af 2 v Sm]) O7 (fun _=>aro _)
   (fm_ bG [] rfl a8 ⟨aR _ _ _ _ _,t7⟩) ?_
  rintro⟨Sm,RG,RZ⟩ st5 P_ hk5;unfold iy at P_;dsimp only at P_ ⊢;rcases aj P_ with⟨Xt,P_⟩|⟨Xt,P_⟩
  ·obtain⟨Y_,c3,P_⟩:=bd_ P_
   replace c3:=FQ fuel (v:=v) (zc:=zc) zj c3
   cases P_;refine uo ?_;exact⟨_,rfl,fm_ bG [] rfl a8 ⟨aR _ _ _ _ _,t7⟩⟩
  cases P_;have O5:qJ PS a_cmp n O1 (.inl (Sm,RG,RZ))=some _:=hk5;unfold qJ at O5;dsimp only at O5;rcases aj O5 with⟨TL,O5⟩|⟨TL,O5⟩
  ·obtain⟨Zb,c4,O5⟩:=bd_ O5
   replace c4:=FQ fuel (v:=v) (zc:=zc) zj c4
   cases O5;refine uo ?_;exact⟨_,rfl,fm_ bG [] rfl a8 ⟨aR _ _ _ _ _,t7⟩⟩
  cases O5;refine uo ?_;exact⟨_,rfl,fm_ bG [] rfl a8 ⟨aR _ _ _ _ _,t7⟩⟩
 cases O7;have SR:vU (.inl (UG,O1))=some _:=hk4;unfold vU at SR;dsimp only at SR
 cases SR;exact iR
theorem LI {n:Nat}  {a_x:(List ac)}{a_cmp:ac->ac->Option (Int)}{v:Nat}{r:List ac}{zr:FuncId}{zc:List AC}(zj:∀ (y0:ac) (y1:ac) (r:Int),a_cmp y0 y1=some r->PTz zr ([.agg (af y0),.agg (af y1)]++zc.map .one) (.val (.one (.int .i64 r))))(H:wI n a_x a_cmp=some r):RTz 238 [ct af 2 v a_x] [.one (.sl 0 v 0 n),.one (.c (.fn zr zc))] [ct af 2 v r] (.tup []):=by
 unfold wI at H;refine bo am Tryz.func238 rfl rfl Tryz.ntmps238 m5 ?_;simp only[eI];obtain⟨PU,c1,H⟩:=bd_ H;replace c1:=NN (v:=v) (zc:=zc) zj c1
 cases H;exact iR
section
variable {α:Type} {lt:α->α->Bool} {S:α->Prop}
structure xG (lt:α->α->Bool)(S:α->Prop):Prop where
 irr:∀ x,S x->lt x x=false
 tr:∀ x y z,S x->S y->S z->lt x y=true->lt y z=true->lt x z=true
 tot:∀ x y,S x->S y->lt x y=false->lt y x=false->x=y
theorem xG.mono {S':α->Prop}(h:xG lt S)(k:∀ x,S' x->S x):xG lt S' :=
 ⟨fun x hx=>h.irr x (k x hx),fun x y z hx hy hz=>h.tr x y z (k x hx) (k y hy) (k z hz),fun x y hx hy=>h.tot x y (k x hx) (k y hy)⟩
def dI (lt:α->α->Bool)(l:List α):Prop:=l.Pairwise fun a b=>lt b a=false
theorem xG.le_tr (h:xG lt S){x y z:α}(sx:S x)(sy:S y)(sz:S z)(h1:lt y x=false)(h2:lt z y=false):lt z x=false:=by
 cases h3:lt z x with
 |false=>rfl
 |true =>
  cases h4:lt x y with
  |true=>rw[h.tr z x y sz sx sy h3 h4]at h2;cases h2
  |false=>have:=h.tot x y sx sy h4 h1;subst this;rw[h3]at h2;cases h2
theorem xG.le_of (h:xG lt S){x y:α}(sx:S x)(sy:S y)(h1:lt x y=true):lt y x=false:=by
 cases h2:lt y x with
 |false=>rfl
 |true=>have:=h.tr x y x sx sy sx h1 h2;rw[h.irr x sx]at this;cases this
theorem G9 (h:xG lt S):∀ {l m:List α},(∀ x∈l,S x)->dI lt l->dI lt m->l.Perm m->l=m
 |[],m,_,_,_,p=>by have:=p.length_eq;cases m with|nil=>rfl|cons y m=>simp at this
 |x::l,[],_,_,_,p=>by have:=p.length_eq;simp at this
 |x::l,y::m,hS,ha,hb,p=>by
  have R5:x=y:=by
   have hx:x∈y::m:=p.mem_iff.1 m5;have hy:y∈x::l:=p.mem_iff.2 m5;have sy:=hS y hy;rcases arp.1 hx with e|hx
   ·exact e
   ·rcases arp.1 hy with e|hy
    ·exact e.symm
    ·exact h.tot x y (hS x m5) sy ((ase.1 hb).1 x hx) ((ase.1 ha).1 y hy)
  subst R5;rw[G9 h (fun z hz=>hS z (by simp[hz])) (ase.1 ha).2 (ase.1 hb).2 ((List.perm_cons x).1 p)]
theorem OA (h:xG lt S){L:List α}{x y:α}(hS:∀ z∈L++[x],S z)(ha:dI lt (L++[x]))(hy:y∈L++[x]):lt x y=false:=by
 rcases arB.1 hy with hy|hy
 ·exact(List.pairwise_append.1 ha).2.2 y hy x m5
 ·simp at hy;subst hy;exact h.irr y (hS y m5)
theorem NE (h:xG lt S){L:List α}{x y:α}(hS:∀ z∈x::L,S z)(ha:dI lt (x::L))(hy:y∈x::L):lt y x=false:=by
 rcases arp.1 hy with rfl|hy
 ·exact h.irr y (hS y m5)
 ·exact(ase.1 ha).1 y hy
theorem ac2 (h:xG lt S){A B:List α}(hA:∀ z∈A,S z)(hB:∀ z∈B,S z)(a:dI lt A)(b:dI lt B)(hg:A=[]\/B=[] \/ ∃ A' x y B',A=A'++[x]/\B=y::B'/\lt y x=false):∀ x∈A,∀ y∈B,lt y x=false:=by
 intro u hu v hv;rcases hg with rfl|rfl|⟨A',x,y,B',rfl,rfl,R5⟩
 ·simp at hu
 ·simp at hv
 ·have s1:=hA u hu;have s2:=hA x m5;have s3:=hB y m5;have s4:=hB v hv
  exact h.le_tr s1 s2 s4 (OA h hA a hu) (h.le_tr s2 s3 s4 R5 (NE h hB b hv))
theorem Bn (h:xG lt S){L1 L2:List α}{x:α}(sx:S x)(hS:∀ z∈L1++L2,S z)(ha:dI lt (L1++L2))(h1:L1=[] \/ ∃ L y,L1=L++[y]/\lt x y=false)(h2:L2=[] \/ ∃ z L,L2=z::L/\lt z x=false):dI lt (L1++x::L2):=by
 have hp:=List.pairwise_append.1 ha;refine List.pairwise_append.2 ⟨hp.1,ase.2 ⟨fun v hv=>?_,hp.2.1⟩,fun u hu v hv=>?_⟩
 ·rcases h2 with rfl|⟨z,L,rfl,hz⟩
  ·simp at hv
  ·exact h.le_tr sx (hS z m5) (hS v (by simp at hv ⊢;exact .inr hv)) hz (NE h (fun w hw=>hS w (by simp at hw ⊢;exact .inr hw)) hp.2.1 hv)
 ·rcases arp.1 hv with rfl|hv
  ·rcases h1 with rfl|⟨L,y,rfl,hy⟩
   ·simp at hu
   ·exact h.le_tr (hS u (by simp at hu ⊢;rcases hu with hu|hu;exact .inl hu;exact .inr (.inl hu))) (hS y m5) sx (OA h (fun w hw=>hS w (List.mem_append_left _ hw)) hp.1 hu) hy
  ·exact hp.2.2 u hu v hv
theorem abb (h:xG lt S){A1 A2 B1 B2 M1 M2:List α}(hS:∀ z∈(A1++A2)++(B1++B2),S z)(hA:dI lt (A1++A2))(hB:dI lt (B1++B2))(h1:A1=[]\/B2=[] \/ ∃ A' x y B',A1=A'++[x]/\B2=y::B'/\lt y x=false)(h2:B1=[]\/A2=[] \/ ∃ A' x y B',B1=A'++[x]/\A2=y::B'/\lt y x=false)
  (m1:dI lt M1) (m2:dI lt M2) (p1:M1.Perm (A1++B1)) (p2:M2.Perm (A2++B2)):dI lt (M1++M2):=by
 have pa:=List.pairwise_append.1 hA;have pb:=List.pairwise_append.1 hB;have g1:=ac2 h (fun z hz=>hS z (by simp[hz])) (fun z hz=>hS z (by simp[hz])) pa.1 pb.2.1 h1;have g2:=ac2 h (fun z hz=>hS z (by simp[hz])) (fun z hz=>hS z (by simp[hz])) pb.1 pa.2.1 h2;refine List.pairwise_append.2 ⟨m1,m2,fun x hx y hy=>?_⟩;rcases arB.1 (p1.mem_iff.1 hx)with hx|hx<;>rcases arB.1 (p2.mem_iff.1 hy)with hy|hy
 ·exact pa.2.2 x hx y hy
 ·exact g1 x hx y hy
 ·exact g2 x hx y hy
 ·exact pb.2.2 x hx y hy
theorem MS {A1 A2 B1 B2 M1 M2:List α}(p1:M1.Perm (A1++B1))(p2:M2.Perm (A2++B2)):(M1++M2).Perm ((A1++A2)++(B1++B2)):=by
 refine(p1.append p2).trans ?_;rw[arA,arA];refine List.Perm.append_left A1 ?_;rw[<- arA,<- arA];exact List.Perm.append_right B2 List.perm_append_comm
theorem ad3 {β:Type}(f:α->β)(U V T:List α)(x y:α):(((U++x::(V++y::T)).map f).set U.length (f y)).set (U.length+1+V.length) (f x)=(U++y::(V++x::T)).map f:=by
 rw[ark,ari,List.set_append_right _ _ m5];simp only[arj,Nat.sub_self,List.set_cons_zero];rw[List.set_append_right _ _ m8];simp only[arj];rw[show U.length+1+V.length-U.length=V.length+1 by omega,List.set_cons_succ,ark,List.set_append_right _ _ m5];simp
theorem get_at (U:List α)(x:α)(T:List α):(U++x::T)[U.length]?=some x:=by simp
theorem Br (U V T:List α)(x y:α):(U++x::(V++y::T))[U.length+1+V.length]?=some y:=by
 rw[arc m0,show U.length+1+V.length-U.length=V.length+1 by omega,List.getElem?_cons_succ,arc m0];simp
end
section
variable {α:Type}
theorem wrA (a b:Nat)(h:a+b<=4611686018427387904):i64.wrap ((a:Int)+(b:Int))=((a+b:Nat):Int):=by rw[dh m0];omega
theorem wrS (a b:Nat)(h:b<=a)(h2:a<=4611686018427387904):i64.wrap ((a:Int)-(b:Int))=((a-b:Nat):Int):=by rw[dh m0];omega
theorem HW {i n:Nat}(h:i<n):decide ((i:Int)<((n:Nat):Int))=true:=aq_ m0
theorem Nx (i:Nat):decide ((0:Int)<=(i:Int))=true:=aq_ m0
theorem aea (i:Nat):0+((i:Int)).toNat=i:=m0
theorem aeN {n:Nat}{c:List α}{a b k i:Nat}{x y:α}(hn:c.length=n)(PG:n<=1000000000)(hk:i<k)(ha:c[a+i]?=some x)(hb:c[b+i]?=some y):dY (a:Int) (b:Int) (k:Int) n (c,(i:Int))=some (.next ((c.set (a+i) y).set (b+i) x,((i+1:Nat):Int))):=by
 have h1:=(aq6.1 ha).1;have h2:=(aq6.1 hb).1;unfold dY;dsimp only;rw[wrA a i m0,wrA b i m0,wrapN m0];simp only[HW hk,Nx,HW (show a+i<n by omega),HW (show b+i<n by omega),aq8,gn_ ha,gn_ hb,aq5,aea,List.length_set,aq_ (show a+i<c.length by omega),aq_ (show b+i<c.length by omega)]
theorem afs {n:Nat}{c:List α}{a b:Int}{k i:Nat}(hk:¬ i<k):dY a b (k:Int) n (c,(i:Int))=some (.exit (c,(i:Int))):=by
 unfold dY;dsimp only;rw[aq9 m0,aq7]
theorem HV {n:Nat}(PG:n<=1000000000)(a b k:Nat):∀ (U W P V Q:List α) (N i:Nat),U.length=W.length->P.length=a+i->P.length+U.length+V.length=b+i->i+U.length=k->(P++(U++(V++(W++Q)))).length=n->U.length<N->ao (dY (a:Int) (b:Int) (k:Int) n) N (P++(U++(V++(W++Q))),(i:Int))=some (.inl (P++(W++(V++(U++Q))),((k:Nat):Int)))
 |U,W,P,V,Q,0,i,_,_,_,_,_,h=>by omega
 |[],W,P,V,Q,N+1,i,hl,hp,hb,hi,hn,_=>by
  have hW:W=[]:=arL.1 hl.symm;subst hW;rw[ao,afs (by simp at hi;omega)];simp only[arE,Nat.add_zero]at hi;subst hi;rfl
 |u::U,[],P,V,Q,N+1,i,hl,_,_,_,_,_=>by simp at hl
 |u::U,w::W,P,V,Q,N+1,i,hl,hp,hb,hi,hn,hN=>by
  simp only[arv]at hl hb hi hN;have e:P++(u::U++(V++(w::W++Q)))=P++u::((U++V)++w::(W++Q)):=by simp
  rw[ao,e,aeN (x:=u) (y:=w) (by rw[<- e];exact hn) PG m0 (by rw[<- hp];exact get_at _ _ _) (by have:=Br P (U++V) (W++Q) u w;rwa[show P.length+1+(U++V).length=b+i by simp;omega]at this)];have s2:=ad3 (f:=fun x:α=>x) P (U++V) (W++Q) u w;rw[List.map_id',List.map_id',show P.length+1+(U++V).length=b+i by simp;omega,hp]at s2;rw[s2];have e2:P++w::((U++V)++u::(W++Q))=(P++[w])++(U++((V++[u])++(W++Q))):=by simp
  show ao _ N (P++w::((U++V)++u::(W++Q)),((i+1:Nat):Int))=_;rw[e2,HV PG a b k U W (P++[w]) (V++[u]) Q N (i+1) m0 m8 m8 m0 (by rw[<- hn];simp only[ard,arv,arE];omega) m0];simp
theorem nI {n:Nat}(PG:n<=1000000000){P U V W Q:List α}(cmp:α->α->Option Int)(hl:U.length=W.length)(hn:(P++(U++(V++(W++Q)))).length=n):ii n (P++(U++(V++(W++Q)))) (P.length:Int) ((P.length+U.length+V.length:Nat):Int) (U.length:Int) cmp=some (P++(W++(V++(U++Q)))):=by
 unfold ii;have:=HV PG P.length (P.length+U.length+V.length) U.length U W P V Q fuel 0 hl m0 m0 m0 hn (by simp at hn;unfold fuel;omega);rw[show((0:Nat):Int)=0 from rfl]at this;rw[this];rfl
theorem si {n:Nat}(PG:n<=1000000000)(cmp:α->α->Option Int)(m:Nat):∀ (N:Nat) (P A B Q:List α),P.length+A.length=m->0<A.length->0<B.length->(P++(A++(B++Q))).length=n->A.length+B.length<N ->∃ P' A' B' Q',ao (eX (m:Int) cmp n) N (P++(A++(B++Q)),(A.length:Int),(B.length:Int))=some (.inl (P'++(A'++(B'++Q')),(A'.length:Int),(B'.length:Int)))/\A'.length=B'.length/\P'.length+A'.length=m/\P'++(B'++(A'++Q'))=P++(B++(A++Q))/\(P'++(A'++(B'++Q'))).length=n
 |0,P,A,B,Q,_,_,_,_,h=>by omega
 |N+1,P,A,B,Q,hm,hA,hB,hn,hN=>by
  have P5:=hn;simp only[ard]at P5;rw[ao];by_cases h0:A.length=B.length
  ·have hb:eX (m:Int) cmp n (P++(A++(B++Q)),(A.length:Int),(B.length:Int))=some (.exit (P++(A++(B++Q)),(A.length:Int),(B.length:Int))):=by
    unfold eX;dsimp only;rw[aq9 m0,aq7]
   rw[hb];exact⟨P,A,B,Q,rfl,h0,hm,rfl,hn⟩
  ·by_cases h1:B.length<A.length
   ·have hs:=nI PG (P:=P) (U:=A.take B.length) (V:=A.drop B.length) (W:=B) (Q:=Q) cmp (by rw[ar3];omega) (by rw[<- hn];simp;omega)
    have eA:A.take B.length++(A.drop B.length++(B++Q))=A++(B++Q):=by rw[<- arA,arV]
    rw[eA]at hs;have hb:eX (m:Int) cmp n (P++(A++(B++Q)),(A.length:Int),(B.length:Int))=some (.next (P++(B++(A.drop B.length++(A.take B.length++Q))),((A.length-B.length:Nat):Int),(B.length:Int))):=by
     unfold eX;dsimp only;rw[aq_ (show(A.length:Int)≠(B.length:Int)by omega),aq8,aq_ (show(B.length:Int)<(A.length:Int)by omega),aq8,wrS m A.length m0 m0,wrS A.length B.length m0 m0,show m-A.length=P.length by omega];rw[ar3,List.length_drop,Nat.min_eq_left m0,show P.length+B.length+(A.length-B.length)=m by omega]at hs;rw[hs];rfl
    rw[hb];obtain⟨P',A',B',Q',k1,k2,k3,k4,k5⟩:=si PG cmp m N (P++B) (A.drop B.length) (A.take B.length) Q m8 m8 m8 (by rw[<- hn];simp;omega) m8;refine⟨P',A',B',Q',?_,k2,k3,?_,k5⟩
    ·rw[<- k1]
     simp only[List.length_drop,ar3,Nat.min_eq_left (Nat.le_of_lt h1),arA]
    ·rw[k4]
     simp only[arA];rw[<- arA (A.take B.length),arV]
   ·have hs:=nI PG (P:=P) (U:=A) (V:=B.take (B.length-A.length)) (W:=B.drop (B.length-A.length)) (Q:=Q) cmp (by rw[List.length_drop];omega) (by rw[<- hn];simp;omega)
    have eB:B.take (B.length-A.length)++(B.drop (B.length-A.length)++Q)=B++Q:=by rw[<- arA,arV]
    rw[eB]at hs;have hb:eX (m:Int) cmp n (P++(A++(B++Q)),(A.length:Int),(B.length:Int))=some (.next (P++(B.drop (B.length-A.length)++(B.take (B.length-A.length)++(A++Q))),(A.length:Int),((B.length-A.length:Nat):Int))):=by
     unfold eX;dsimp only;rw[aq_ (show(A.length:Int)≠(B.length:Int)by omega),aq8,aq9 (show ¬ (B.length:Int)<(A.length:Int)by omega),aq7,wrS m A.length m0 m0,wrA m B.length m0,wrS (m+B.length) A.length m0 m0,wrS B.length A.length m0 m0,show m-A.length=P.length by omega];rw[ar3,Nat.min_eq_left m0,show P.length+A.length+(B.length-A.length)=m+B.length-A.length by omega]at hs;rw[hs];rfl
    rw[hb];obtain⟨P',A',B',Q',k1,k2,k3,k4,k5⟩:=si PG cmp m N P (B.drop (B.length-A.length)) (B.take (B.length-A.length)) (A++Q) m8 m8 m8 (by rw[<- hn];simp;omega) m8;refine⟨P',A',B',Q',?_,k2,k3,?_,k5⟩
    ·rw[<- k1]
     simp only[List.length_drop,ar3,Nat.min_eq_left (Nat.sub_le _ _),show B.length-(B.length-A.length)=A.length by omega]
    ·rw[k4]
     simp only[<- arA];rw[arA P,arV]
theorem aaS {n:Nat}(PG:n<=1000000000){P A B Q:List α}(cmp:α->α->Option Int)(hA:0<A.length)(hB:0<B.length)(hn:(P++(A++(B++Q))).length=n):np n (P++(A++(B++Q))) (P.length:Int) ((P.length+A.length:Nat):Int) ((P.length+A.length+B.length:Nat):Int) cmp=some (P++(B++(A++Q))):=by
 have P5:=hn;simp only[ard]at P5;unfold np;rw[wrS (P.length+A.length) P.length m0 m0,wrS (P.length+A.length+B.length) (P.length+A.length) m0 m0,show P.length+A.length-P.length=A.length by omega,show P.length+A.length+B.length-(P.length+A.length)=B.length by omega];obtain⟨P',A',B',Q',k1,k2,k3,k4,k5⟩:=si PG cmp (P.length+A.length) fuel P A B Q rfl hA hB hn (by unfold fuel;omega);rw[k1,aq5];unfold qH;dsimp only;have k5':=k5;simp only[ard]at k5';have hs:=nI PG (P:=P') (U:=A') (V:=[]) (W:=B') (Q:=Q') cmp k2 k5;rw[ara,ara,arE,Nat.add_zero,k3]at hs;rw[wrS (P.length+A.length) A'.length m0 m0,show P.length+A.length-A'.length=P'.length by omega,hs,k4];rfl
end
section
variable {α:Type} {lt:α->α->Bool} {S:α->Prop} {cmp:α->α->Option Int}
theorem u64_in {x:Int}(h0:0<=x)(h:x<=4611686018427387904):IntKind.u64.wrap x=x:=by
 simp only[IntKind.wrap,IntKind.bits,IntKind.signed];simp;omega
theorem yy {i j:Nat}(h:i+j<=4611686018427387904):bN (i64.wrap ((i:Int)+(j:Int)))=(((i+j)/2:Nat):Int):=by
 rw[wrA i j h];show i64.wrap (Int.fdiv (IntKind.u64.wrap ((i+j:Nat):Int)) 2)=_;rw[u64_in m0 m0,Int.fdiv_eq_ediv_of_nonneg _ m0,dh m0];omega
def l9 (cmp:α->α->Option Int)(lt:α->α->Bool)(S:α->Prop):Prop :=∀ x y,S x->S y ->∃ r,cmp x y=some r/\decide (r<0)=lt x y
theorem wr1 (a:Nat)(h:1<=a)(h2:a<=4611686018427387904):i64.wrap ((a:Int)-1)=((a-1:Nat):Int):=by rw[dh m0];omega
theorem H6 (h:xG lt S)(hc:l9 cmp lt S){n:Nat}(PG:n<=1000000000)(P Q:List α)(x:α)(sx:S x):∀ (k:Nat) (L1 L2:List α) (N:Nat),L1.length=k->(∀ z∈L1++L2,S z)->dI lt (L1++L2)->(L2=[] \/ ∃ z L,L2=z::L/\lt z x=false)->(P++((L1++x::L2)++Q)).length=n->k<N ->
  ∃ M j,ao (dN (P.length:Int) cmp n) N (P++((L1++x::L2)++Q),((P.length+k:Nat):Int))=some (.inl (P++(M++Q),j))/\dI lt M/\M.Perm (x::(L1++L2))
 |k,L1,L2,0,_,_,_,_,_,hN=>by omega
 |0,L1,L2,N+1,hk,hS,ha,h2,hn,hN=>by
  have:L1=[]:=arL.1 hk;subst this;rw[ao];have hb:dN (P.length:Int) cmp n (P++(([]++x::L2)++Q),((P.length+0:Nat):Int))=some (.exit (P++(([]++x::L2)++Q),((P.length+0:Nat):Int))):=by
   unfold dN;dsimp only;rw[aq9 m0,aq7]
  rw[hb];refine⟨x::L2,_,rfl,?_,.refl _⟩;have:=Bn h (L1:=[]) (L2:=L2) sx hS ha (.inl rfl) h2;exact this
 |k+1,L1,L2,N+1,hk,hS,ha,h2,hn,hN=>by
  obtain⟨L,y,rfl⟩:∃ L y,L1=L++[y]:=by
   rcases List.eq_nil_or_concat L1 with e|⟨L,y,e⟩
   ·subst e;simp at hk
   ·exact⟨L,y,by simpa using e⟩
  have hL:L.length=k:=by simp at hk;exact hk
  have P5:=hn;simp only[ard,arv,arE]at P5;have sy:S y:=hS y m5;have e1:P++((L++[y])++x::L2++Q)=(P++L)++y::([]++x::(L2++Q)):=by simp
  have g1:(P++((L++[y])++x::L2++Q))[P.length+k]?=some y:=by rw[e1,<- hL,<- ard];exact get_at _ _ _
  have g2:(P++((L++[y])++x::L2++Q))[P.length+(k+1)]?=some x:=by
   have:=Br (P++L) [] (L2++Q) y x;rw[<- e1]at this;rwa[show(P++L).length+1+([]:List α).length=P.length+(k+1)by simp;omega]at this
  obtain⟨r,hr,SL⟩:=hc x y sx sy;rw[ao]
  cases R5:lt x y with
  |false =>
   have hb:dN (P.length:Int) cmp n (P++((L++[y])++x::L2++Q),((P.length+(k+1):Nat):Int))=some (.exit (P++((L++[y])++x::L2++Q),((P.length+(k+1):Nat):Int))):=by
    unfold dN;dsimp only;rw[wr1 _ m0 m0,show P.length+(k+1)-1=P.length+k by omega];simp only[aq_ (show(P.length:Int)<((P.length+(k+1):Nat):Int)by omega),Nx,HW (show P.length+(k+1)<n by omega),HW (show P.length+k<n by omega),aq8,gn_ g1,gn_ g2,aq5,hr,SL,R5,aq7]
   rw[hb];refine⟨(L++[y])++x::L2,_,rfl,Bn h sx hS ha (.inr ⟨L,y,rfl,R5⟩) h2,List.perm_middle⟩
  |true =>
   have hb:dN (P.length:Int) cmp n (P++((L++[y])++x::L2++Q),((P.length+(k+1):Nat):Int))=some (.next (P++((L++x::(y::L2))++Q),((P.length+k:Nat):Int))):=by
    unfold dN;dsimp only;rw[wr1 _ m0 m0,show P.length+(k+1)-1=P.length+k by omega];simp only[aq_ (show(P.length:Int)<((P.length+(k+1):Nat):Int)by omega),Nx,HW (show P.length+(k+1)<n by omega),HW (show P.length+k<n by omega),aq8,gn_ g1,gn_ g2,aq5,hr,SL,R5,aea,List.length_set,aq_ (show P.length+(k+1)<(P++((L++[y])++x::L2++Q)).length by omega),aq_ (show P.length+k<(P++((L++[y])++x::L2++Q)).length by omega)];have s2:=ad3 (f:=fun z:α=>z) (P++L) [] (L2++Q) y x;rw[List.map_id',List.map_id',<- e1,show(P++L).length=P.length+k by simp;omega,arE,show P.length+k+1+0=P.length+(k+1)by omega]at s2;rw[List.set_comm _ _ m0,s2];simp
   rw[hb];obtain⟨M,j,k1,k2,k3⟩:=H6 h hc PG P Q x sx k L (y::L2) N hL (fun z hz=>hS z (by simp at hz ⊢;rcases hz with hz|hz|hz<;>simp[hz])) (by simpa using ha) (.inr ⟨y,L2,rfl,h.le_of sx sy R5⟩) (by rw[<- hn];simp) m0;exact⟨M,j,k1,k2,k3.trans m5⟩
theorem H_ (h:xG lt S)(hc:l9 cmp lt S){n:Nat}(PG:n<=1000000000)(P Q:List α)(b:Nat):∀ (R M:List α) (N:Nat),P.length+M.length+R.length=b->(∀ z∈M++R,S z)->dI lt M->(P++(M++(R++Q))).length=n->R.length<N ->
  ∃ M',ao (dO (P.length:Int) (b:Int) cmp n) N (P++(M++(R++Q)),((P.length+M.length:Nat):Int))=some (.inl (P++(M'++Q),(b:Int)))/\dI lt M'/\M'.Perm (M++R)
 |R,M,0,_,_,_,_,hN=>by omega
 |[],M,N+1,hb,hS,ha,hn,hN=>by
  simp only[arE,Nat.add_zero]at hb;subst hb;rw[ao];have hB:dO (P.length:Int) ((P.length+M.length:Nat):Int) cmp n (P++(M++([]++Q)),((P.length+M.length:Nat):Int))=some (.exit (P++(M++([]++Q)),((P.length+M.length:Nat):Int))):=by
   unfold dO;dsimp only;rw[aq9 m0,aq7]
  rw[hB];exact⟨M,rfl,ha,m5⟩
 |x::R,M,N+1,hb,hS,ha,hn,hN=>by
  have P5:=hn;simp only[ard,arv]at P5 hb;obtain⟨M1,j,k1,k2,k3⟩:=H6 h hc PG P (R++Q) x (hS x m5) M.length M [] fuel rfl (fun z hz=>hS z (by simp at hz ⊢;exact .inl hz)) (by simpa using ha) (.inl rfl) (by rw[<- hn];simp) (by unfold fuel;omega);have hl:M1.length=M.length+1:=by rw[k3.length_eq];simp
  have e1:P++((M++x::[])++(R++Q))=P++(M++(x::R++Q)):=by simp
  rw[e1]at k1;rw[ao];have hB:dO (P.length:Int) (b:Int) cmp n (P++(M++(x::R++Q)),((P.length+M.length:Nat):Int))=some (.next (P++(M1++(R++Q)),((P.length+M1.length:Nat):Int))):=by
   unfold dO;dsimp only;rw[aq_ (show((P.length+M.length:Nat):Int)<(b:Int)by omega),aq8,k1,aq5];unfold iP;dsimp only;rw[wrapN m0,hl,Nat.add_assoc]
  rw[hB];obtain⟨M',q1,q2,q3⟩:=H_ h hc PG P Q b R M1 N m0 (fun z hz=>by
   rcases arB.1 hz with hz|hz
   ·have:=k3.mem_iff.1 hz;simp at this;rcases this with rfl|hz
    ·exact hS z m5
    ·exact hS z (by simp[hz])
   ·exact hS z (by simp[hz])) k2 (by rw[<- hn];simp[hl];omega) (by simp at hN;omega)
  refine⟨M',q1,q2,q3.trans ?_⟩;refine(k3.append_right R).trans ?_;simp only[arJ,List.cons_append];exact(List.perm_middle (a:=x) (l₁:=M) (l₂:=R)).symm
theorem zR (h:xG lt S)(hc:l9 cmp lt S){n:Nat}(PG:n<=1000000000){P M Q:List α}(hS:∀ z∈M,S z)(hn:(P++(M++Q)).length=n):∃ M',pu n (P++(M++Q)) (P.length:Int) ((P.length+M.length:Nat):Int) cmp=some (P++(M'++Q))/\dI lt M'/\M'.Perm M:=by
 have P5:=hn;simp only[ard]at P5;unfold pu;rw[show i64.wrap ((P.length:Int)+1)=((P.length+1:Nat):Int)from wrapN m0]
 match M,hS,hn,P5 with
 |[],hS,hn,P5 =>
  refine⟨[],?_,List.Pairwise.nil,.refl _⟩;have hf:fuel=(fuel-1)+1:=rfl;rw[hf,ao];have hB:dO (P.length:Int) ((P.length+([]:List α).length:Nat):Int) cmp n (P++([]++Q),((P.length+1:Nat):Int))=some (.exit (P++([]++Q),((P.length+1:Nat):Int))):=by
   unfold dO;dsimp only;rw[aq9 (by simp only[arE];omega),aq7]
  rw[hB];rfl
 |x::M,hS,hn,P5 =>
  simp only[arv]at P5;obtain⟨M',q1,q2,q3⟩:=H_ h hc PG P Q (P.length+(x::M).length) M [x] fuel m8 (by simpa using hS) (by simp[dI]) (by rw[<- hn];simp) (by unfold fuel;omega);refine⟨M',?_,q2,by simpa using q3⟩;have e:P++([x]++(M++Q))=P++(x::M++Q):=by simp
  rw[e,show P.length+[x].length=P.length+1 from rfl]at q1;rw[q1];rfl
end
section
variable {α:Type} {lt:α->α->Bool} {S:α->Prop} {cmp:α->α->Option Int}
theorem xf {β:Type}{body:Int×Int->Option (Step (Int×Int) β)}(lo hi:Nat)(p:Nat->Bool)(hB:∀ i j:Nat,lo<=i->i<j->j<=hi->body ((i:Int),(j:Int))=some (.next (bif p ((i+j)/2)then((((i+j)/2+1:Nat):Int),(j:Int))else((i:Int),(((i+j)/2:Nat):Int)))))(hE:∀ i:Nat,body ((i:Int),(i:Int))=some (.exit ((i:Int),(i:Int)))) :
  ∀ (N i j:Nat),lo<=i->i<=j->j<=hi->j-i<N->(i=lo\/p (i-1)=true)->(j=hi\/p j=false) ->∃ s:Nat,ao body N ((i:Int),(j:Int))=some (.inl ((s:Int),(s:Int)))/\lo<=s/\s<=hi/\(s=lo\/p (s-1)=true)/\(s=hi\/p s=false)
 |0,i,j,_,_,_,h,_,_=>by omega
 |N+1,i,j,h1,h2,h3,hN,Q5,VO=>by
  rw[ao];by_cases he:i=j
  ·subst he
   rw[hE];exact⟨i,rfl,h1,h3,Q5,VO⟩
  ·rw[hB i j h1 m0 h3]
   cases hp:p ((i+j)/2)with
   |true =>
    rw[aq8];exact xf lo hi p hB hE N ((i+j)/2+1) j m0 m0 h3 m0 (.inr (by rw[Nat.add_sub_cancel];exact hp)) VO
   |false =>
    rw[aq7];exact xf lo hi p hB hE N i ((i+j)/2) h1 m0 m0 m0 Q5 (.inr hp)
theorem aja {n:Nat}(PG:n<=1000000000)(x:α)(Q:List α)(i:Nat):∀ (B P:List α) (N:Nat),P.length+B.length+1=i->(P++x::(B++Q)).length=n->B.length<N ->∃ k,ao (me n (i:Int)) N (P++x::(B++Q),(P.length:Int))=some (.inl (P++(B++x::Q),k))
 |B,P,0,_,_,hN=>by omega
 |[],P,N+1,hi,hn,hN=>by
  simp only[arE,Nat.add_zero]at hi;have P5:=hn;simp only[ard,arv]at P5;subst hi;rw[ao];have hb:me n ((P.length+1:Nat):Int) (P++x::([]++Q),(P.length:Int))=some (.exit (P++x::([]++Q),(P.length:Int))):=by
   unfold me;dsimp only;rw[wr1 _ m0 m0,aq9 m0,aq7]
  rw[hb];exact⟨_,rfl⟩
 |y::B,P,N+1,hi,hn,hN=>by
  simp only[arv]at hi hN;have P5:=hn;simp only[ard,arv]at P5;have g1:(P++x::(y::B++Q))[P.length]?=some x:=get_at _ _ _;have g2:(P++x::(y::B++Q))[P.length+1]?=some y:=Br P [] (B++Q) x y;rw[ao];have hb:me n (i:Int) (P++x::(y::B++Q),(P.length:Int))=some (.next ((P++[y])++x::(B++Q),(((P++[y]).length:Nat):Int))):=by
   unfold me;dsimp only;rw[wr1 _ m0 m0,wrapN m0];have s2:=ad3 (f:=fun z:α=>z) P [] (B++Q) x y;rw[List.map_id',List.map_id',arE,Nat.add_zero]at s2;have s3:((P++x::(y::B++Q)).set P.length y).set (P.length+1) x=P++y::x::(B++Q):=s2;simp only[aq_ (show(P.length:Int)<((i-1:Nat):Int)by omega),Nx,HW (show P.length+1<n by omega),HW (show P.length<n by omega),aq8,gn_ g1,gn_ g2,aq5,aea,List.length_set,aq_ (show P.length+1<(P++x::(y::B++Q)).length by rw[hn];omega),aq_ (show P.length<(P++x::(y::B++Q)).length by rw[hn];omega),s3];simp
  rw[hb];obtain⟨k,hk⟩:=aja PG x Q i B (P++[y]) N m8 (by rw[<- hn];simp only[ard,arv,arE];omega) m0;exact⟨k,by show ao _ N _=_;rw[hk];simp⟩
theorem ahH {n:Nat}(PG:n<=1000000000)(x:α)(P:List α):∀ (l:Nat) (A Q:List α) (N:Nat),A.length=l->(P++(A++x::Q)).length=n->l<N ->∃ k,ao (mB n (P.length:Int)) N (P++(A++x::Q),((P.length+l:Nat):Int))=some (.inl (P++x::(A++Q),k))
 |l,A,Q,0,_,_,hN=>by omega
 |0,A,Q,N+1,hl,hn,hN=>by
  have:A=[]:=arL.1 hl;subst this;rw[ao];have hb:mB n (P.length:Int) (P++([]++x::Q),((P.length+0:Nat):Int))=some (.exit (P++([]++x::Q),((P.length+0:Nat):Int))):=by
   unfold mB;dsimp only;rw[aq9 m0,aq7]
  rw[hb];exact⟨_,rfl⟩
 |l+1,A,Q,N+1,hl,hn,hN=>by
  obtain⟨L,y,rfl⟩:∃ L y,A=L++[y]:=by
   rcases List.eq_nil_or_concat A with e|⟨L,y,e⟩
   ·subst e;simp at hl
   ·exact⟨L,y,by simpa using e⟩
  have hL:L.length=l:=by simp at hl;exact hl
  have P5:=hn;simp only[ard,arv,arE]at P5;have e1:P++((L++[y])++x::Q)=(P++L)++y::([]++x::Q):=by simp
  have g1:(P++((L++[y])++x::Q))[P.length+l]?=some y:=by rw[e1,<- hL,<- ard];exact get_at _ _ _
  have g2:(P++((L++[y])++x::Q))[P.length+(l+1)]?=some x:=by
   have:=Br (P++L) [] Q y x;rw[<- e1]at this;rwa[show(P++L).length+1+([]:List α).length=P.length+(l+1)by simp;omega]at this
  rw[ao];have hb:mB n (P.length:Int) (P++((L++[y])++x::Q),((P.length+(l+1):Nat):Int))=some (.next (P++(L++x::(y::Q)),((P.length+l:Nat):Int))):=by
   unfold mB;dsimp only;rw[wr1 _ m0 m0,show P.length+(l+1)-1=P.length+l by omega];have s2:=ad3 (f:=fun z:α=>z) (P++L) [] Q y x;rw[List.map_id',List.map_id',<- e1,show(P++L).length=P.length+l by simp;omega,arE,show P.length+l+1+0=P.length+(l+1)by omega,List.set_comm _ _ m0]at s2;simp only[aq_ (show(P.length:Int)<((P.length+(l+1):Nat):Int)by omega),Nx,HW (show P.length+(l+1)<n by omega),HW (show P.length+l<n by omega),aq8,gn_ g1,gn_ g2,aq5,aea,List.length_set,aq_ (show P.length+(l+1)<(P++((L++[y])++x::Q)).length by rw[hn];omega),aq_ (show P.length+l<(P++((L++[y])++x::Q)).length by rw[hn];omega),s2];simp
  rw[hb];obtain⟨k,hk⟩:=ahH PG x P l L (y::Q) N hL (by rw[<- hn];simp) m0;exact⟨k,by show ao _ N _=_;rw[hk];simp⟩
theorem rY {l:List α}{s:Nat}(h:s<=l.length):∃ a b,l=a++b/\a.length=s:=⟨l.take s,l.drop s,(arV _ _).symm,by rw[ar3];omega⟩
theorem Bt {A:List α}(h:0<A.length):∃ L y,A=L++[y]:=by
 rcases List.eq_nil_or_concat A with e|⟨L,y,e⟩
 ·subst e;simp at h
 ·exact⟨L,y,by simpa using e⟩
theorem AY {A:List α}(h:0<A.length):∃ y L,A=y::L:=match A,h with|y::L,_=>⟨y,L,rfl⟩
def p1F (lt:α->α->Bool)(D:List α)(x:α)(i:Nat):Bool:=match D[i]? with|some y=>lt y x|none=>false
def p3F (lt:α->α->Bool)(D:List α)(x:α)(i:Nat):Bool:=match D[i]? with|some y => !lt x y|none=>false
def p5F (lt:α->α->Bool)(D:List α)(p i:Nat):Bool:=match D[p-i]?,D[i]? with|some x,some y => !lt x y|_,_=>false
theorem aj8 (h:xG lt S)(hc:l9 cmp lt S){n:Nat}(PG:n<=1000000000){P Q B:List α}{x:α}(sx:S x)(sB:∀ z∈B,S z)(hB:dI lt B)(hn:(P++x::(B++Q)).length=n) :
  ∃ M,((ao (o9 (P++x::(B++Q)) (P.length:Int) cmp n) fuel (((P.length+1:Nat):Int),((P.length+1+B.length:Nat):Int))).bind (s9 (P++x::(B++Q)) (P.length:Int) n))=some (P++(M++Q))/\dI lt M/\M.Perm (x::B):=by
 have P5:=hn;simp only[ard,arv]at P5;have gx:(P++x::(B++Q))[P.length]?=some x:=get_at _ _ _;have gB:∀ i y,B[i]?=some y->(P++x::(B++Q))[P.length+1+i]?=some y:=by
  intro i y hy;have hi:=(aq6.1 hy).1;rw[arc m0,show P.length+1+i-P.length=i+1 by omega,List.getElem?_cons_succ,arl hi];exact hy
 obtain⟨s,hs,s1,s2,s3,s4⟩:=xf (body:=o9 (P++x::(B++Q)) (P.length:Int) cmp n) (P.length+1) (P.length+1+B.length) (p1F lt (P++x::(B++Q)) x) (by
  intro i j hi S1 hj;obtain⟨y,hy⟩:=gol_ (l:=B) (i:=(i+j)/2-(P.length+1)) m0;have gy:=gB _ _ hy;rw[show P.length+1+((i+j)/2-(P.length+1))=(i+j)/2 by omega]at gy;obtain⟨r,hr,SL⟩:=hc y x (sB y (arb hy)) sx;unfold o9;dsimp only;rw[yy m0,wrapN m0];simp only[HW S1,Nx,HW (show(i+j)/2<n by omega),HW (show P.length<n by omega),aq8,gn_ gy,gn_ gx,aq5,hr,SL];unfold p1F;rw[gy];dsimp only
  cases lt y x<;>rfl) (by
  intro i;unfold o9;dsimp only;rw[aq9 m0,aq7]) fuel (P.length+1) (P.length+1+B.length) (aro _) m0 (aro _) (by unfold fuel;omega) (.inl rfl) (.inl rfl)
 rw[hs,aq5];obtain⟨B1,B2,rfl,Ye⟩:=rY (l:=B) (s:=s-(P.length+1)) m0;unfold s9;dsimp only;have e1:P++x::(B1++B2++Q)=P++x::(B1++(B2++Q)):=by simp
 rw[e1];obtain⟨k,hk⟩:=aja PG x (B2++Q) s B1 P fuel m0 (by rw[<- e1];exact hn) (by simp at P5;unfold fuel;omega);rw[hk];refine⟨B1++x::B2,by show some (P++(B1++x::(B2++Q)))=_;simp,Bn h sx sB hB ?_ ?_,List.perm_middle⟩
 ·by_cases h0:0<B1.length
  ·obtain⟨L,y,rfl⟩:=Bt h0
   refine .inr ⟨L,y,rfl,?_⟩;have sy:=sB y m5;rcases s3 with e|e
   ·simp at Ye;omega
   ·have gy:=gB (s-1-(P.length+1)) y (by
     have:(L++[y]).length=s-(P.length+1):=Ye;simp at this;rw[arA,arc m0,show s-1-(P.length+1)-L.length=0 by omega];rfl)
    rw[show P.length+1+(s-1-(P.length+1))=s-1 by simp at Ye;omega]at gy;unfold p1F at e;rw[gy]at e;exact h.le_of sy sx e
  ·exact .inl (arL.1 m0)
 ·by_cases h0:0<B2.length
  ·obtain⟨z,L,rfl⟩:=AY h0
   refine .inr ⟨z,L,rfl,?_⟩;rcases s4 with e|e
   ·simp at e;omega
   ·have gz:=gB (s-(P.length+1)) z (by rw[<- Ye];exact get_at _ _ _)
    rw[show P.length+1+(s-(P.length+1))=s by omega]at gz;unfold p1F at e;rw[gz]at e;exact e
  ·exact .inl (arL.1 m0)
theorem alh (h:xG lt S)(hc:l9 cmp lt S){n:Nat}(PG:n<=1000000000){P Q A:List α}{x:α}(sx:S x)(sA:∀ z∈A,S z)(hA:dI lt A)(hn:(P++(A++x::Q)).length=n) :
  ∃ M,((ao (ol (P++(A++x::Q)) ((P.length+A.length:Nat):Int) cmp n) fuel ((P.length:Int),((P.length+A.length:Nat):Int))).bind (sU (P++(A++x::Q)) ((P.length+A.length:Nat):Int) n))=some (P++(M++Q))/\dI lt M/\M.Perm (A++[x]):=by
 have P5:=hn;simp only[ard,arv]at P5;have gx:(P++(A++x::Q))[P.length+A.length]?=some x:=by rw[<- arA,<- ard];exact get_at _ _ _
 have gA:∀ i y,A[i]?=some y->(P++(A++x::Q))[P.length+i]?=some y:=by
  intro i y hy;have hi:=(aq6.1 hy).1;rw[arc m0,show P.length+i-P.length=i by omega,arl hi];exact hy
 obtain⟨s,hs,s1,s2,s3,s4⟩:=xf (body:=ol (P++(A++x::Q)) ((P.length+A.length:Nat):Int) cmp n) P.length (P.length+A.length) (p3F lt (P++(A++x::Q)) x) (by
  intro i j hi S1 hj;obtain⟨y,hy⟩:=gol_ (l:=A) (i:=(i+j)/2-P.length) m0;have gy:=gA _ _ hy;rw[show P.length+((i+j)/2-P.length)=(i+j)/2 by omega]at gy;obtain⟨r,hr,SL⟩:=hc x y sx (sA y (arb hy));unfold ol;dsimp only;rw[yy m0,wrapN m0];simp only[HW S1,Nx,HW (show(i+j)/2<n by omega),HW (show P.length+A.length<n by omega),aq8,gn_ gy,gn_ gx,aq5,hr,SL];unfold p3F;rw[gy];dsimp only
  cases lt x y<;>rfl) (by
  intro i;unfold ol;dsimp only;rw[aq9 m0,aq7]) fuel P.length (P.length+A.length) (aro _) m0 (aro _) (by unfold fuel;omega) (.inl rfl) (.inl rfl)
 rw[hs,aq5];obtain⟨A1,A2,rfl,Yf⟩:=rY (l:=A) (s:=s-P.length) m0;unfold sU;dsimp only;have e1:P++(A1++A2++x::Q)=(P++A1)++(A2++x::Q):=by simp
 have hlA:(P++A1).length=s:=by simp;omega
 rw[e1,<- hlA];have Xe:P.length+(A1++A2).length=(P++A1).length+A2.length:=by simp;omega
 rw[Xe];obtain⟨k,hk⟩:=ahH PG x (P++A1) A2.length A2 Q fuel rfl (by rw[<- e1];exact hn) (by simp at P5;unfold fuel;omega);rw[hk];refine⟨A1++x::A2,by show some ((P++A1)++x::(A2++Q))=_;simp,Bn h sx sA hA ?_ ?_,?_⟩
 ·by_cases h0:0<A1.length
  ·obtain⟨L,y,rfl⟩:=Bt h0
   refine .inr ⟨L,y,rfl,?_⟩;rcases s3 with e|e
   ·simp at Yf;omega
   ·have gy:=gA (s-1-P.length) y (by
     have:(L++[y]).length=s-P.length:=Yf;simp at this;rw[arA,arc m0,show s-1-P.length-L.length=0 by omega];rfl)
    rw[show P.length+(s-1-P.length)=s-1 by simp at Yf;omega]at gy;unfold p3F at e;rw[gy]at e;simpa using e
  ·exact .inl (arL.1 m0)
 ·by_cases h0:0<A2.length
  ·obtain⟨z,L,rfl⟩:=AY h0
   refine .inr ⟨z,L,rfl,?_⟩;have sz:=sA z m5;rcases s4 with e|e
   ·simp at e Yf;omega
   ·have gz:=gA (s-P.length) z (by rw[<- Yf];exact get_at _ _ _)
    rw[show P.length+(s-P.length)=s by omega]at gz;unfold p3F at e;rw[gz]at e;exact h.le_of sx sz (by simpa using e)
  ·exact .inl (arL.1 m0)
 ·rw[arA]
  refine List.Perm.append_left A1 ?_;exact(List.perm_append_comm (l₁:=[x]) (l₂:=A2))
end
