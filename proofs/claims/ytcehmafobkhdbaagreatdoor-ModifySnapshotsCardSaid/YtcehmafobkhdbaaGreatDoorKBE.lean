/- Parts of the proof, joined. No condition. -/
import Derived.Test.YtcehmafobkhdbaaGreatDoorKAA
import Derived.Test.YtcehmafobkhdbaaGreatDoorKBB
import Derived.Test.YtcehmafobkhdbaaGreatDoorKBC
import Derived.Test.YtcehmafobkhdbaaGreatDoorKBD
import Derived.Test.YtcehmafobkhdbaaGreatDoorKAD
import Derived.Test.YtcehmafobkhdbaaGreatDoorKBA
import Derived.Test.YtcehmafobkhdbaaGreatDoorKAE
import Derived.Test.YtcehmafobkhdbaaGreatDoorKAZ
set_option linter.unusedSimpArgs false
set_option linter.unusedVariables false
namespace Go.Proofs.YtcehmafobkhdbaaGreatDoor
open Go.RowKit Go.MapKept
set_option maxRecDepth 100000
set_option maxHeartbeats 8000000
theorem YE {rec:Nat->List aa->Int->Int->Int->(aa->aa->Option Int)->Option (List aa)} {n:Nat}  (hrec : ∀ {n:Nat} {X:List aa} {a m b:Int} {cmp:aa->aa->Option Int} {v:Nat} {F_a_cmp:FuncId} {caps_a_cmp:List AC} (hf_a_cmp : ∀ (y0:aa) (y1:aa) (r:Int),cmp y0 y1=some r->Pure Tryz.prog F_a_cmp ([.agg (ae y0), .agg (ae y1)]++caps_a_cmp.map .one) (.val (.one (.int .i64 r)))) {r:List aa}, rec n X a m b cmp=some r->Run Tryz.prog 196 [dC ae 2 v X] [.one (.sl 0 v 0 n), .one (.c (.int .i64 a)), .one (.c (.int .i64 m)), .one (.c (.int .i64 b)), .one (.c (.fn F_a_cmp caps_a_cmp))] [dC ae 2 v r] (.tup [])) {a_data:(List aa)} {a_a:Int} {a_m:Int} {a_b:Int} {a_cmp:aa->aa->Option (Int)} {v:Nat} {r:List aa} {F_a_cmp:FuncId} {caps_a_cmp:List AC} (hf_a_cmp : ∀ (y0:aa) (y1:aa) (r:Int),a_cmp y0 y1=some r->Pure Tryz.prog F_a_cmp ([.agg (ae y0), .agg (ae y1)]++caps_a_cmp.map .one) (.val (.one (.int .i64 r)))) (H:xN rec n a_data a_a a_m a_b a_cmp=some r):Run Tryz.prog 196 [dC ae 2 v a_data] [.one (.sl 0 v 0 n), .one (.c (.int .i64 a_a)), .one (.c (.int .i64 a_m)), .one (.c (.int .i64 a_b)), .one (.c (.fn F_a_cmp caps_a_cmp))] [dC ae 2 v r] (.tup []):=by
 rcases hq0:(decide ((IntKind.i64.wrap (a_m-a_a))=(1:Int))) with _|_
 ·rcases hq1:(decide ((IntKind.i64.wrap (a_b-a_m))=(1:Int))) with _|_
  ·rcases hq2:(decide ((bT (IntKind.i64.wrap (a_a+a_b)))<a_m)) with _|_
   ·exact Un hrec hf_a_cmp hq0 hq1 hq2 H
   ·exact SF hrec hf_a_cmp hq0 hq1 hq2 H
  ·exact TE hrec hf_a_cmp hq0 hq1 H
 ·exact TS hrec hf_a_cmp hq0 H
theorem Jf : ∀ (q:Nat) {n:Nat} {X:List aa} {a m b:Int} {cmp:aa->aa->Option Int} {v:Nat} {F_a_cmp:FuncId} {caps_a_cmp:List AC} (hf_a_cmp : ∀ (y0:aa) (y1:aa) (r:Int),cmp y0 y1=some r->Pure Tryz.prog F_a_cmp ([.agg (ae y0), .agg (ae y1)]++caps_a_cmp.map .one) (.val (.one (.int .i64 r)))) {r:List aa}, HY q n X a m b cmp=some r->Run Tryz.prog 196 [dC ae 2 v X] [.one (.sl 0 v 0 n), .one (.c (.int .i64 a)), .one (.c (.int .i64 m)), .one (.c (.int .i64 b)), .one (.c (.fn F_a_cmp caps_a_cmp))] [dC ae 2 v r] (.tup [])
 | 0,_,_,_,_,_,_,_,_,_,_,_,h=>nomatch h
 | q+1,_,_,_,_,_,_,_,_,_,hf,_,h=>YE (Jf q) hf h
theorem QU {n:Nat}  {a_data:(List aa)} {a_n:Int} {a_cmp:aa->aa->Option (Int)} {v:Nat} {r:List aa} {F_a_cmp:FuncId} {caps_a_cmp:List AC} (hf_a_cmp : ∀ (y0:aa) (y1:aa) (r:Int),a_cmp y0 y1=some r->Pure Tryz.prog F_a_cmp ([.agg (ae y0), .agg (ae y1)]++caps_a_cmp.map .one) (.val (.one (.int .i64 r)))) (H:D7 n a_data a_n a_cmp=some r):Run Tryz.prog 178 [dC ae 2 v a_data] [.one (.sl 0 v 0 n), .one (.c (.int .i64 a_n)), .one (.c (.fn F_a_cmp caps_a_cmp))] [dC ae 2 v r] (.tup []):=by
 unfold D7 at H
 refine bN ay Tryz.func178 rfl rfl Tryz.ntmps178 (by simp) ?_
 simp only [kP]
 refine AJ ?_
 refine alM_ (fun s:(List aa) × Int × Int=>match s with|(c_1,a_2,b_3)=>[(0, .one (.sl 0 v 0 n)),(1, .one (.c (.int .i64 a_n))),(2, .one (.c (.fn F_a_cmp caps_a_cmp))),(6, .one (.c (.int .i64 (20:Int)))),(7, .one (.c (.int .i64 a_2))),(8, .one (.c (.int .i64 b_3)))]) (fun s=>match s with|(c_1,a_2,b_3)=>[dC ae 2 v c_1]) H (fun _=>ag' _)
  (fm_ dh [] rfl bH ⟨aT _ _ _ _ _,trivial⟩) ?_
 rintro ⟨c_1,a_2,b_3⟩ st1 hb1 hk1
 unfold lQ at hb1
 dsimp only at hb1 ⊢
 rcases af hb1 with ⟨q_4,hb1⟩|⟨q_4,hb1⟩
 ·obtain ⟨c_5,c1,hb1⟩:=bd_ hb1
  replace c1:=DJ (v:=v) (caps_a_cmp:=caps_a_cmp) hf_a_cmp c1
  cases hb1
  refine AJ ?_
  exact ⟨_,rfl,fm_ dh [] rfl bH ⟨aT _ _ _ _ _,trivial⟩⟩
 cases hb1
 have hx1:v_ a_n a_cmp n (.inl (c_1,a_2,b_3))=some _:=hk1
 unfold v_ at hx1
 dsimp only at hx1
 obtain ⟨c_6,c2,hx1⟩:=bd_ hx1
 replace c2:=DJ (v:=v) (caps_a_cmp:=caps_a_cmp) hf_a_cmp c2
 refine AJ ?_
 refine alM_ (fun s:(List aa) × Int=>match s with|(c_7,blockSize_8)=>[(0, .one (.sl 0 v 0 n)),(1, .one (.c (.int .i64 a_n))),(2, .one (.c (.fn F_a_cmp caps_a_cmp))),(6, .one (.c (.int .i64 blockSize_8)))]) (fun s=>match s with|(c_7,blockSize_8)=>[dC ae 2 v c_7]) hx1 (fun _=>ag' _)
  (fm_ dh [] rfl bH ⟨aT _ _ _ _ _,trivial⟩) ?_
 rintro ⟨c_7,blockSize_8⟩ st4 hb4 hk4
 unfold lJ at hb4
 dsimp only at hb4 ⊢
 rcases af hb4 with ⟨q_9,hb4⟩|⟨q_9,hb4⟩
 ·refine AJ ?_
  refine alM_ (fun s:(List aa) × Int × Int=>match s with|(c_10,a_11,b_12)=>[(0, .one (.sl 0 v 0 n)),(1, .one (.c (.int .i64 a_n))),(2, .one (.c (.fn F_a_cmp caps_a_cmp))),(6, .one (.c (.int .i64 blockSize_8))),(7, .one (.c (.int .i64 a_11))),(8, .one (.c (.int .i64 b_12)))]) (fun s=>match s with|(c_10,a_11,b_12)=>[dC ae 2 v c_10]) hb4 (fun _=>ag' _)
   (fm_ dh [] rfl bH ⟨aT _ _ _ _ _,trivial⟩) ?_
  rintro ⟨c_10,a_11,b_12⟩ st5 hb5 hk5
  unfold lG at hb5
  dsimp only at hb5 ⊢
  rcases af hb5 with ⟨q_13,hb5⟩|⟨q_13,hb5⟩
  ·obtain ⟨c_14,c3,hb5⟩:=bd_ hb5
   replace c3:=Jf fuel (v:=v) (caps_a_cmp:=caps_a_cmp) hf_a_cmp c3
   cases hb5
   refine AJ ?_
   exact ⟨_,rfl,fm_ dh [] rfl bH ⟨aT _ _ _ _ _,trivial⟩⟩
  cases hb5
  have hx5:vR a_n a_cmp n blockSize_8 (.inl (c_10,a_11,b_12))=some _:=hk5
  unfold vR at hx5
  dsimp only at hx5
  rcases af hx5 with ⟨q_15,hx5⟩|⟨q_15,hx5⟩
  ·obtain ⟨c_16,c4,hx5⟩:=bd_ hx5
   replace c4:=Jf fuel (v:=v) (caps_a_cmp:=caps_a_cmp) hf_a_cmp c4
   cases hx5
   refine AJ ?_
   exact ⟨_,rfl,fm_ dh [] rfl bH ⟨aT _ _ _ _ _,trivial⟩⟩
  cases hx5
  refine AJ ?_
  exact ⟨_,rfl,fm_ dh [] rfl bH ⟨aT _ _ _ _ _,trivial⟩⟩
 cases hb4
 have hx4:BF (.inl (c_7,blockSize_8))=some _:=hk4
 unfold BF at hx4
 dsimp only at hx4
 cases hx4
 exact mi
theorem RD {n:Nat}  {a_x:(List aa)} {a_cmp:aa->aa->Option (Int)} {v:Nat} {r:List aa} {F_a_cmp:FuncId} {caps_a_cmp:List AC} (hf_a_cmp : ∀ (y0:aa) (y1:aa) (r:Int),a_cmp y0 y1=some r->Pure Tryz.prog F_a_cmp ([.agg (ae y0), .agg (ae y1)]++caps_a_cmp.map .one) (.val (.one (.int .i64 r)))) (H:Dl n a_x a_cmp=some r):Run Tryz.prog 154 [dC ae 2 v a_x] [.one (.sl 0 v 0 n), .one (.c (.fn F_a_cmp caps_a_cmp))] [dC ae 2 v r] (.tup []):=by
 unfold Dl at H
 refine bN ay Tryz.func154 rfl rfl Tryz.ntmps154 (by simp) ?_
 simp only [kP]
 obtain ⟨c_1,c1,H⟩:=bd_ H
 replace c1:=QU (v:=v) (caps_a_cmp:=caps_a_cmp) hf_a_cmp c1
 cases H
 exact mi
section
variable {α:Type} {lt:α->α->Bool} {S:α->Prop}
structure DC (lt:α->α->Bool) (S:α->Prop):Prop where
 irr : ∀ x,S x->lt x x=false
 tr : ∀ x y z,S x->S y->S z->lt x y=true->lt y z=true->lt x z=true
 tot : ∀ x y,S x->S y->lt x y=false->lt y x=false->x=y
theorem DC.mono {S':α->Prop} (h:DC lt S) (k : ∀ x,S' x->S x):DC lt S' :=
 ⟨fun x hx=>h.irr x (k x hx),fun x y z hx hy hz=>h.tr x y z (k x hx) (k y hy) (k z hz),fun x y hx hy=>h.tot x y (k x hx) (k y hy)⟩
def fT (lt:α->α->Bool) (l:List α):Prop:=l.Pairwise fun a b=>lt b a=false
theorem DC.le_tr (h:DC lt S) {x y z:α} (sx:S x) (sy:S y) (sz:S z) (h1:lt y x=false) (h2:lt z y=false):lt z x=false:=by
 cases h3:lt z x with
 | false=>rfl
 | true =>
  cases h4:lt x y with
  | true=>rw [h.tr z x y sz sx sy h3 h4] at h2;cases h2
  | false=>have:=h.tot x y sx sy h4 h1;subst this;rw [h3] at h2;cases h2
theorem DC.le_of (h:DC lt S) {x y:α} (sx:S x) (sy:S y) (h1:lt x y=true):lt y x=false:=by
 cases h2:lt y x with
 | false=>rfl
 | true=>have:=h.tr x y x sx sy sx h1 h2;rw [h.irr x sx] at this;cases this
theorem Mh (h:DC lt S) : ∀ {l m:List α}, (∀ x∈l,S x)->fT lt l->fT lt m->l.Perm m->l=m
 | [],m,_,_,_,p=>by have:=p.length_eq;cases m with|nil=>rfl|cons y m=>simp at this
 | x::l,[],_,_,_,p=>by have:=p.length_eq;simp at this
 | x::l,y::m,hS,ha,hb,p=>by
  have hxy:x=y:=by
   have hx:x∈y::m:=p.mem_iff.1 (by simp)
   have hy:y∈x::l:=p.mem_iff.2 (by simp)
   have sy:=hS y hy
   rcases aha.1 hx with e|hx
   ·exact e
   ·rcases aha.1 hy with e|hy
    ·exact e.symm
    ·exact h.tot x y (hS x (by simp)) sy ((ahP.1 hb).1 x hx) ((ahP.1 ha).1 y hy)
  subst hxy
  rw [Mh h (fun z hz=>hS z (by simp [hz])) (ahP.1 ha).2 (ahP.1 hb).2 ((List.perm_cons x).1 p)]
theorem Sm (h:DC lt S) {L:List α} {x y:α} (hS : ∀ z∈L++[x],S z) (ha:fT lt (L++[x])) (hy:y∈L++[x]):lt x y=false:=by
 rcases ahl.1 hy with hy|hy
 ·exact (List.pairwise_append.1 ha).2.2 y hy x (by simp)
 ·simp at hy;subst hy;exact h.irr y (hS y (by simp))
theorem Qh (h:DC lt S) {L:List α} {x y:α} (hS : ∀ z∈x::L,S z) (ha:fT lt (x::L)) (hy:y∈x::L):lt y x=false:=by
 rcases aha.1 hy with rfl|hy
 ·exact h.irr y (hS y (by simp))
 ·exact (ahP.1 ha).1 y hy
theorem V6 (h:DC lt S) {A B:List α} (hA : ∀ z∈A,S z) (hB : ∀ z∈B,S z) (a:fT lt A) (b:fT lt B) (hg:A=[]\/B=[] \/ ∃ A' x y B',A=A'++[x]/\B=y::B'/\lt y x=false) : ∀ x∈A, ∀ y∈B,lt y x=false:=by
 intro u hu v hv
 rcases hg with rfl|rfl|⟨A',x,y,B',rfl,rfl,hxy⟩
 ·simp at hu
 ·simp at hv
 ·have s1:=hA u hu;have s2:=hA x (by simp);have s3:=hB y (by simp);have s4:=hB v hv
  exact h.le_tr s1 s2 s4 (Sm h hA a hu) (h.le_tr s2 s3 s4 hxy (Qh h hB b hv))
theorem Ht (h:DC lt S) {L1 L2:List α} {x:α} (sx:S x) (hS : ∀ z∈L1++L2,S z) (ha:fT lt (L1++L2)) (h1:L1=[] \/ ∃ L y,L1=L++[y]/\lt x y=false) (h2:L2=[] \/ ∃ z L,L2=z::L/\lt z x=false):fT lt (L1++x::L2):=by
 have hp:=List.pairwise_append.1 ha
 refine List.pairwise_append.2 ⟨hp.1,ahP.2 ⟨fun v hv=>?_,hp.2.1⟩,fun u hu v hv=>?_⟩
 ·rcases h2 with rfl|⟨z,L,rfl,hz⟩
  ·simp at hv
  ·exact h.le_tr sx (hS z (by simp)) (hS v (by simp at hv ⊢;exact .inr hv)) hz (Qh h (fun w hw=>hS w (by simp at hw ⊢;exact .inr hw)) hp.2.1 hv)
 ·rcases aha.1 hv with rfl|hv
  ·rcases h1 with rfl|⟨L,y,rfl,hy⟩
   ·simp at hu
   ·exact h.le_tr (hS u (by simp at hu ⊢;rcases hu with hu|hu;exact .inl hu;exact .inr (.inl hu))) (hS y (by simp)) sx (Sm h (fun w hw=>hS w (List.mem_append_left _ hw)) hp.1 hu) hy
  ·exact hp.2.2 u hu v hv
theorem SB (h:DC lt S) {A1 A2 B1 B2 M1 M2:List α} (hS : ∀ z∈(A1++A2)++(B1++B2),S z) (hA:fT lt (A1++A2)) (hB:fT lt (B1++B2)) (h1:A1=[]\/B2=[] \/ ∃ A' x y B',A1=A'++[x]/\B2=y::B'/\lt y x=false) (h2:B1=[]\/A2=[] \/ ∃ A' x y B',B1=A'++[x]/\A2=y::B'/\lt y x=false)
  (m1:fT lt M1) (m2:fT lt M2) (p1:M1.Perm (A1++B1)) (p2:M2.Perm (A2++B2)):fT lt (M1++M2):=by
 have pa:=List.pairwise_append.1 hA
 have pb:=List.pairwise_append.1 hB
 have g1:=V6 h (fun z hz=>hS z (by simp [hz])) (fun z hz=>hS z (by simp [hz])) pa.1 pb.2.1 h1
 have g2:=V6 h (fun z hz=>hS z (by simp [hz])) (fun z hz=>hS z (by simp [hz])) pb.1 pa.2.1 h2
 refine List.pairwise_append.2 ⟨m1,m2,fun x hx y hy=>?_⟩
 rcases ahl.1 (p1.mem_iff.1 hx) with hx|hx<;>rcases ahl.1 (p2.mem_iff.1 hy) with hy|hy
 ·exact pa.2.2 x hx y hy
 ·exact g1 x hx y hy
 ·exact g2 x hx y hy
 ·exact pb.2.2 x hx y hy
theorem RQ {A1 A2 B1 B2 M1 M2:List α} (p1:M1.Perm (A1++B1)) (p2:M2.Perm (A2++B2)):(M1++M2).Perm ((A1++A2)++(B1++B2)):=by
 refine (p1.append p2).trans ?_
 rw [ahk,ahk]
 refine List.Perm.append_left A1 ?_
 rw [<- ahk, <- ahk]
 exact List.Perm.append_right B2 List.perm_append_comm
theorem VQ {β:Type} (f:α->β) (U V T:List α) (x y:α):(((U++x::(V++y::T)).map f).set U.length (f y)).set (U.length+1+V.length) (f x)=(U++y::(V++x::T)).map f:=by
 rw [ag8,ag6,List.set_append_right _ _ (by simp)]
 simp only [ag7,Nat.sub_self,List.set_cons_zero]
 rw [List.set_append_right _ _ (by simp;omega)]
 simp only [ag7]
 rw [show U.length+1+V.length-U.length=V.length+1 by omega,List.set_cons_succ,ag8,List.set_append_right _ _ (by simp)]
 simp
theorem get_at (U:List α) (x:α) (T:List α):(U++x::T)[U.length]?=some x:=by simp
theorem G5 (U V T:List α) (x y:α):(U++x::(V++y::T))[U.length+1+V.length]?=some y:=by
 rw [ag2 (by omega),show U.length+1+V.length-U.length=V.length+1 by omega,List.getElem?_cons_succ,ag2 (by omega)]
 simp
end
section
variable {α:Type}
theorem Y4 (a b:Nat) (h:a+b<=4611686018427387904):IntKind.i64.wrap ((a:Int)+(b:Int))=((a+b:Nat):Int):=by rw [fK (by omega)];omega
theorem Xi (a b:Nat) (h:b<=a) (h2:a<=4611686018427387904):IntKind.i64.wrap ((a:Int)-(b:Int))=((a-b:Nat):Int):=by rw [fK (by omega)];omega
theorem Mx {i n:Nat} (h:i<n):decide ((i:Int)<((n:Nat):Int))=true:=agZ (by omega)
theorem Sd (i:Nat):decide ((0:Int)<=(i:Int))=true:=agZ (by omega)
theorem VP (i:Nat):0+((i:Int)).toNat=i:=by omega
theorem WL {n:Nat} {c:List α} {a b k i:Nat} {x y:α} (hn:c.length=n) (hn2:n<=1000000000) (hk:i<k) (ha:c[a+i]?=some x) (hb:c[b+i]?=some y):gN (a:Int) (b:Int) (k:Int) n (c,(i:Int))=some (.next ((c.set (a+i) y).set (b+i) x,((i+1:Nat):Int))):=by
 have h1:=(agV.1 ha).1
 have h2:=(agV.1 hb).1
 unfold gN
 dsimp only
 rw [Y4 a i (by omega),Y4 b i (by omega),wrapN (by omega)]
 simp only [Mx hk,Sd,Mx (show a+i<n by omega),Mx (show b+i<n by omega),agX,gn_ ha,gn_ hb,agU,VP,List.length_set,agZ (show a+i<c.length by omega),agZ (show b+i<c.length by omega)]
theorem WZ {n:Nat} {c:List α} {a b:Int} {k i:Nat} (hk : ¬ i<k):gN a b (k:Int) n (c,(i:Int))=some (.exit (c,(i:Int))):=by
 unfold gN
 dsimp only
 rw [agY (by omega),agW]
theorem NH {n:Nat} (hn2:n<=1000000000) (a b k:Nat) : ∀ (U W P V Q:List α) (N i:Nat),U.length=W.length->P.length=a+i->P.length+U.length+V.length=b+i->i+U.length=k->(P++(U++(V++(W++Q)))).length=n->U.length<N->ax (gN (a:Int) (b:Int) (k:Int) n) N (P++(U++(V++(W++Q))),(i:Int))=some (.inl (P++(W++(V++(U++Q))),((k:Nat):Int)))
 | U,W,P,V,Q,0,i,_,_,_,_,_,h=>by omega
 | [],W,P,V,Q,N+1,i,hl,hp,hb,hi,hn,_=>by
  have hW:W=[]:=ahu.1 hl.symm
  subst hW
  rw [ax,WZ (by simp at hi;omega)]
  simp only [aho,Nat.add_zero] at hi
  subst hi
  rfl
 | u::U,[],P,V,Q,N+1,i,hl,_,_,_,_,_=>by simp at hl
 | u::U,w::W,P,V,Q,N+1,i,hl,hp,hb,hi,hn,hN=>by
  simp only [ahf] at hl hb hi hN
  have e:P++(u::U++(V++(w::W++Q)))=P++u::((U++V)++w::(W++Q)):=by simp
  rw [ax,e,WL (x:=u) (y:=w) (by rw [<- e];exact hn) hn2 (by omega) (by rw [<- hp];exact get_at _ _ _) (by have:=G5 P (U++V) (W++Q) u w;rwa [show P.length+1+(U++V).length=b+i by simp;omega] at this)]
  have s2:=VQ (f:=fun x:α=>x) P (U++V) (W++Q) u w
  rw [List.map_id',List.map_id',show P.length+1+(U++V).length=b+i by simp;omega,hp] at s2
  rw [s2]
  have e2:P++w::((U++V)++u::(W++Q))=(P++[w])++(U++((V++[u])++(W++Q))):=by simp
  show ax _ N (P++w::((U++V)++u::(W++Q)),((i+1:Nat):Int))=_
  rw [e2,NH hn2 a b k U W (P++[w]) (V++[u]) Q N (i+1) (by omega) (by simp;omega) (by simp;omega) (by omega) (by rw [<- hn];simp only [ag3,ahf,aho];omega) (by omega)]
  simp
theorem tX {n:Nat} (hn2:n<=1000000000) {P U V W Q:List α} (cmp:α->α->Option Int) (hl:U.length=W.length) (hn:(P++(U++(V++(W++Q)))).length=n):lI n (P++(U++(V++(W++Q)))) (P.length:Int) ((P.length+U.length+V.length:Nat):Int) (U.length:Int) cmp=some (P++(W++(V++(U++Q)))):=by
 unfold lI
 have:=NH hn2 P.length (P.length+U.length+V.length) U.length U W P V Q fuel 0 hl (by omega) (by omega) (by omega) hn (by simp at hn;unfold fuel;omega)
 rw [show ((0:Nat):Int)=0 from rfl] at this
 rw [this];rfl
theorem yZ {n:Nat} (hn2:n<=1000000000) (cmp:α->α->Option Int) (m:Nat) : ∀ (N:Nat) (P A B Q:List α),P.length+A.length=m->0<A.length->0<B.length->(P++(A++(B++Q))).length=n->A.length+B.length<N -> ∃ P' A' B' Q',ax (iV (m:Int) cmp n) N (P++(A++(B++Q)),(A.length:Int),(B.length:Int))=some (.inl (P'++(A'++(B'++Q')),(A'.length:Int),(B'.length:Int)))/\A'.length=B'.length/\P'.length+A'.length=m/\P'++(B'++(A'++Q'))=P++(B++(A++Q))/\(P'++(A'++(B'++Q'))).length=n
 | 0,P,A,B,Q,_,_,_,_,h=>by omega
 | N+1,P,A,B,Q,hm,hA,hB,hn,hN=>by
  have hn':=hn
  simp only [ag3] at hn'
  rw [ax]
  by_cases h0:A.length=B.length
  ·have hb:iV (m:Int) cmp n (P++(A++(B++Q)),(A.length:Int),(B.length:Int))=some (.exit (P++(A++(B++Q)),(A.length:Int),(B.length:Int))):=by
    unfold iV
    dsimp only
    rw [agY (by omega),agW]
   rw [hb]
   exact ⟨P,A,B,Q,rfl,h0,hm,rfl,hn⟩
  ·by_cases h1:B.length<A.length
   ·have hs:=tX hn2 (P:=P) (U:=A.take B.length) (V:=A.drop B.length) (W:=B) (Q:=Q) cmp (by rw [ahK];omega) (by rw [<- hn];simp;omega)
    have eA:A.take B.length++(A.drop B.length++(B++Q))=A++(B++Q):=by rw [<- ahk,ahE]
    rw [eA] at hs
    have hb:iV (m:Int) cmp n (P++(A++(B++Q)),(A.length:Int),(B.length:Int))=some (.next (P++(B++(A.drop B.length++(A.take B.length++Q))),((A.length-B.length:Nat):Int),(B.length:Int))):=by
     unfold iV
     dsimp only
     rw [agZ (show (A.length:Int)≠(B.length:Int) by omega),agX,agZ (show (B.length:Int)<(A.length:Int) by omega),agX,Xi m A.length (by omega) (by omega),Xi A.length B.length (by omega) (by omega),show m-A.length=P.length by omega]
     rw [ahK,List.length_drop,Nat.min_eq_left (by omega),show P.length+B.length+(A.length-B.length)=m by omega] at hs
     rw [hs];rfl
    rw [hb]
    obtain ⟨P',A',B',Q',k1,k2,k3,k4,k5⟩:=yZ hn2 cmp m N (P++B) (A.drop B.length) (A.take B.length) Q (by simp;omega) (by simp;omega) (by simp;omega) (by rw [<- hn];simp;omega) (by simp;omega)
    refine ⟨P',A',B',Q',?_,k2,k3,?_,k5⟩
    ·rw [<- k1]
     simp only [List.length_drop,ahK,Nat.min_eq_left (Nat.le_of_lt h1),ahk]
    ·rw [k4]
     simp only [ahk]
     rw [<- ahk (A.take B.length),ahE]
   ·have hs:=tX hn2 (P:=P) (U:=A) (V:=B.take (B.length-A.length)) (W:=B.drop (B.length-A.length)) (Q:=Q) cmp (by rw [List.length_drop];omega) (by rw [<- hn];simp;omega)
    have eB:B.take (B.length-A.length)++(B.drop (B.length-A.length)++Q)=B++Q:=by rw [<- ahk,ahE]
    rw [eB] at hs
    have hb:iV (m:Int) cmp n (P++(A++(B++Q)),(A.length:Int),(B.length:Int))=some (.next (P++(B.drop (B.length-A.length)++(B.take (B.length-A.length)++(A++Q))),(A.length:Int),((B.length-A.length:Nat):Int))):=by
     unfold iV
     dsimp only
     rw [agZ (show (A.length:Int)≠(B.length:Int) by omega),agX,agY (show ¬ (B.length:Int)<(A.length:Int) by omega),agW,Xi m A.length (by omega) (by omega),Y4 m B.length (by omega),Xi (m+B.length) A.length (by omega) (by omega),Xi B.length A.length (by omega) (by omega),show m-A.length=P.length by omega]
     rw [ahK,Nat.min_eq_left (by omega),show P.length+A.length+(B.length-A.length)=m+B.length-A.length by omega] at hs
     rw [hs];rfl
    rw [hb]
    obtain ⟨P',A',B',Q',k1,k2,k3,k4,k5⟩:=yZ hn2 cmp m N P (B.drop (B.length-A.length)) (B.take (B.length-A.length)) (A++Q) (by simp;omega) (by simp;omega) (by simp;omega) (by rw [<- hn];simp;omega) (by simp;omega)
    refine ⟨P',A',B',Q',?_,k2,k3,?_,k5⟩
    ·rw [<- k1]
     simp only [List.length_drop,ahK,Nat.min_eq_left (Nat.sub_le _ _),show B.length-(B.length-A.length)=A.length by omega]
    ·rw [k4]
     simp only [<- ahk]
     rw [ahk P,ahE]
theorem TJ {n:Nat} (hn2:n<=1000000000) {P A B Q:List α} (cmp:α->α->Option Int) (hA:0<A.length) (hB:0<B.length) (hn:(P++(A++(B++Q))).length=n):sU n (P++(A++(B++Q))) (P.length:Int) ((P.length+A.length:Nat):Int) ((P.length+A.length+B.length:Nat):Int) cmp=some (P++(B++(A++Q))):=by
 have hn':=hn
 simp only [ag3] at hn'
 unfold sU
 rw [Xi (P.length+A.length) P.length (by omega) (by omega),Xi (P.length+A.length+B.length) (P.length+A.length) (by omega) (by omega),show P.length+A.length-P.length=A.length by omega,show P.length+A.length+B.length-(P.length+A.length)=B.length by omega]
 obtain ⟨P',A',B',Q',k1,k2,k3,k4,k5⟩:=yZ hn2 cmp (P.length+A.length) fuel P A B Q rfl hA hB hn (by unfold fuel;omega)
 rw [k1,agU]
 unfold wD
 dsimp only
 have k5':=k5
 simp only [ag3] at k5'
 have hs:=tX hn2 (P:=P') (U:=A') (V:=[]) (W:=B') (Q:=Q') cmp k2 k5
 rw [ag0,ag0,aho,Nat.add_zero,k3] at hs
 rw [Xi (P.length+A.length) A'.length (by omega) (by omega),show P.length+A.length-A'.length=P'.length by omega,hs,k4];rfl
end
section
variable {α:Type} {lt:α->α->Bool} {S:α->Prop} {cmp:α->α->Option Int}
theorem u64_in {x:Int} (h0:0<=x) (h:x<=4611686018427387904):IntKind.u64.wrap x=x:=by
 simp only [IntKind.wrap,IntKind.bits,IntKind.signed]
 simp
 omega
theorem FI {i j:Nat} (h:i+j<=4611686018427387904):bT (IntKind.i64.wrap ((i:Int)+(j:Int)))=(((i+j)/2:Nat):Int):=by
 rw [Y4 i j h]
 show IntKind.i64.wrap (Int.fdiv (IntKind.u64.wrap ((i+j:Nat):Int)) 2)=_
 rw [u64_in (by omega) (by omega),Int.fdiv_eq_ediv_of_nonneg _ (by omega),fK (by omega)]
 omega
def qz (cmp:α->α->Option Int) (lt:α->α->Bool) (S:α->Prop):Prop := ∀ x y,S x->S y -> ∃ r,cmp x y=some r/\decide (r<0)=lt x y
theorem wr1 (a:Nat) (h:1<=a) (h2:a<=4611686018427387904):IntKind.i64.wrap ((a:Int)-1)=((a-1:Nat):Int):=by rw [fK (by omega)];omega
theorem MZ (h:DC lt S) (hc:qz cmp lt S) {n:Nat} (hn2:n<=1000000000) (P Q:List α) (x:α) (sx:S x) : ∀ (k:Nat) (L1 L2:List α) (N:Nat),L1.length=k->(∀ z∈L1++L2,S z)->fT lt (L1++L2)->(L2=[] \/ ∃ z L,L2=z::L/\lt z x=false)->(P++((L1++x::L2)++Q)).length=n->k<N ->
  ∃ M j,ax (gq (P.length:Int) cmp n) N (P++((L1++x::L2)++Q),((P.length+k:Nat):Int))=some (.inl (P++(M++Q),j))/\fT lt M/\M.Perm (x::(L1++L2))
 | k,L1,L2,0,_,_,_,_,_,hN=>by omega
 | 0,L1,L2,N+1,hk,hS,ha,h2,hn,hN=>by
  have:L1=[]:=ahu.1 hk
  subst this
  rw [ax]
  have hb:gq (P.length:Int) cmp n (P++(([]++x::L2)++Q),((P.length+0:Nat):Int))=some (.exit (P++(([]++x::L2)++Q),((P.length+0:Nat):Int))):=by
   unfold gq
   dsimp only
   rw [agY (by omega),agW]
  rw [hb]
  refine ⟨x::L2,_,rfl,?_, .refl _⟩
  have:=Ht h (L1:=[]) (L2:=L2) sx hS ha (.inl rfl) h2
  exact this
 | k+1,L1,L2,N+1,hk,hS,ha,h2,hn,hN=>by
  obtain ⟨L,y,rfl⟩ : ∃ L y,L1=L++[y]:=by
   rcases List.eq_nil_or_concat L1 with e|⟨L,y,e⟩
   ·subst e;simp at hk
   ·exact ⟨L,y,by simpa using e⟩
  have hL:L.length=k:=by simp at hk;exact hk
  have hn':=hn
  simp only [ag3,ahf,aho] at hn'
  have sy:S y:=hS y (by simp)
  have e1:P++((L++[y])++x::L2++Q)=(P++L)++y::([]++x::(L2++Q)):=by simp
  have g1:(P++((L++[y])++x::L2++Q))[P.length+k]?=some y:=by rw [e1, <- hL, <- ag3];exact get_at _ _ _
  have g2:(P++((L++[y])++x::L2++Q))[P.length+(k+1)]?=some x:=by
   have:=G5 (P++L) [] (L2++Q) y x
   rw [<- e1] at this
   rwa [show (P++L).length+1+([]:List α).length=P.length+(k+1) by simp;omega] at this
  obtain ⟨r,hr,hr2⟩:=hc x y sx sy
  rw [ax]
  cases hxy:lt x y with
  | false =>
   have hb:gq (P.length:Int) cmp n (P++((L++[y])++x::L2++Q),((P.length+(k+1):Nat):Int))=some (.exit (P++((L++[y])++x::L2++Q),((P.length+(k+1):Nat):Int))):=by
    unfold gq
    dsimp only
    rw [wr1 _ (by omega) (by omega),show P.length+(k+1)-1=P.length+k by omega]
    simp only [agZ (show (P.length:Int)<((P.length+(k+1):Nat):Int) by omega),Sd,Mx (show P.length+(k+1)<n by omega),Mx (show P.length+k<n by omega),agX,gn_ g1,gn_ g2,agU,hr,hr2,hxy,agW]
   rw [hb]
   refine ⟨(L++[y])++x::L2,_,rfl,Ht h sx hS ha (.inr ⟨L,y,rfl,hxy⟩) h2,List.perm_middle⟩
  | true =>
   have hb:gq (P.length:Int) cmp n (P++((L++[y])++x::L2++Q),((P.length+(k+1):Nat):Int))=some (.next (P++((L++x::(y::L2))++Q),((P.length+k:Nat):Int))):=by
    unfold gq
    dsimp only
    rw [wr1 _ (by omega) (by omega),show P.length+(k+1)-1=P.length+k by omega]
    simp only [agZ (show (P.length:Int)<((P.length+(k+1):Nat):Int) by omega),Sd,Mx (show P.length+(k+1)<n by omega),Mx (show P.length+k<n by omega),agX,gn_ g1,gn_ g2,agU,hr,hr2,hxy,VP,List.length_set,agZ (show P.length+(k+1)<(P++((L++[y])++x::L2++Q)).length by omega),agZ (show P.length+k<(P++((L++[y])++x::L2++Q)).length by omega)]
    have s2:=VQ (f:=fun z:α=>z) (P++L) [] (L2++Q) y x
    rw [List.map_id',List.map_id', <- e1,show (P++L).length=P.length+k by simp;omega,aho,show P.length+k+1+0=P.length+(k+1) by omega] at s2
    rw [List.set_comm _ _ (by omega),s2]
    simp
   rw [hb]
   obtain ⟨M,j,k1,k2,k3⟩:=MZ h hc hn2 P Q x sx k L (y::L2) N hL (fun z hz=>hS z (by simp at hz ⊢;rcases hz with hz|hz|hz<;>simp [hz])) (by simpa using ha) (.inr ⟨y,L2,rfl,h.le_of sx sy hxy⟩) (by rw [<- hn];simp) (by omega)
   exact ⟨M,j,k1,k2,k3.trans (by simp)⟩
theorem M8 (h:DC lt S) (hc:qz cmp lt S) {n:Nat} (hn2:n<=1000000000) (P Q:List α) (b:Nat) : ∀ (R M:List α) (N:Nat),P.length+M.length+R.length=b->(∀ z∈M++R,S z)->fT lt M->(P++(M++(R++Q))).length=n->R.length<N ->
  ∃ M',ax (gm (P.length:Int) (b:Int) cmp n) N (P++(M++(R++Q)),((P.length+M.length:Nat):Int))=some (.inl (P++(M'++Q),(b:Int)))/\fT lt M'/\M'.Perm (M++R)
 | R,M,0,_,_,_,_,hN=>by omega
 | [],M,N+1,hb,hS,ha,hn,hN=>by
  simp only [aho,Nat.add_zero] at hb
  subst hb
  rw [ax]
  have hB:gm (P.length:Int) ((P.length+M.length:Nat):Int) cmp n (P++(M++([]++Q)),((P.length+M.length:Nat):Int))=some (.exit (P++(M++([]++Q)),((P.length+M.length:Nat):Int))):=by
   unfold gm
   dsimp only
   rw [agY (by omega),agW]
  rw [hB]
  exact ⟨M,rfl,ha,by simp⟩
 | x::R,M,N+1,hb,hS,ha,hn,hN=>by
  have hn':=hn
  simp only [ag3,ahf] at hn' hb
  obtain ⟨M1,j,k1,k2,k3⟩:=MZ h hc hn2 P (R++Q) x (hS x (by simp)) M.length M [] fuel rfl (fun z hz=>hS z (by simp at hz ⊢;exact .inl hz)) (by simpa using ha) (.inl rfl) (by rw [<- hn];simp) (by unfold fuel;omega)
  have hl:M1.length=M.length+1:=by rw [k3.length_eq];simp
  have e1:P++((M++x::[])++(R++Q))=P++(M++(x::R++Q)):=by simp
  rw [e1] at k1
  rw [ax]
  have hB:gm (P.length:Int) (b:Int) cmp n (P++(M++(x::R++Q)),((P.length+M.length:Nat):Int))=some (.next (P++(M1++(R++Q)),((P.length+M1.length:Nat):Int))):=by
   unfold gm
   dsimp only
   rw [agZ (show ((P.length+M.length:Nat):Int)<(b:Int) by omega),agX,k1,agU]
   unfold lX
   dsimp only
   rw [wrapN (by omega),hl,Nat.add_assoc]
  rw [hB]
  obtain ⟨M',q1,q2,q3⟩:=M8 h hc hn2 P Q b R M1 N (by omega) (fun z hz=>by
   rcases ahl.1 hz with hz|hz
   ·have:=k3.mem_iff.1 hz;simp at this;rcases this with rfl|hz
    ·exact hS z (by simp)
    ·exact hS z (by simp [hz])
   ·exact hS z (by simp [hz])) k2 (by rw [<- hn];simp [hl];omega) (by simp at hN;omega)
  refine ⟨M',q1,q2,q3.trans ?_⟩
  refine (k3.append_right R).trans ?_
  simp only [ahs,List.cons_append]
  exact (List.perm_middle (a:=x) (l₁:=M) (l₂:=R)).symm
theorem Gu (h:DC lt S) (hc:qz cmp lt S) {n:Nat} (hn2:n<=1000000000) {P M Q:List α} (hS : ∀ z∈M,S z) (hn:(P++(M++Q)).length=n) : ∃ M',uE n (P++(M++Q)) (P.length:Int) ((P.length+M.length:Nat):Int) cmp=some (P++(M'++Q))/\fT lt M'/\M'.Perm M:=by
 have hn':=hn
 simp only [ag3] at hn'
 unfold uE
 rw [show IntKind.i64.wrap ((P.length:Int)+1)=((P.length+1:Nat):Int) from wrapN (by omega)]
 match M,hS,hn,hn' with
 | [],hS,hn,hn' =>
  refine ⟨[],?_,List.Pairwise.nil, .refl _⟩
  have hf:fuel=(fuel-1)+1:=rfl
  rw [hf,ax]
  have hB:gm (P.length:Int) ((P.length+([]:List α).length:Nat):Int) cmp n (P++([]++Q),((P.length+1:Nat):Int))=some (.exit (P++([]++Q),((P.length+1:Nat):Int))):=by
   unfold gm
   dsimp only
   rw [agY (by simp only [aho];omega),agW]
  rw [hB];rfl
 | x::M,hS,hn,hn' =>
  simp only [ahf] at hn'
  obtain ⟨M',q1,q2,q3⟩:=M8 h hc hn2 P Q (P.length+(x::M).length) M [x] fuel (by simp;omega) (by simpa using hS) (by simp [fT]) (by rw [<- hn];simp) (by unfold fuel;omega)
  refine ⟨M',?_,q2,by simpa using q3⟩
  have e:P++([x]++(M++Q))=P++(x::M++Q):=by simp
  rw [e,show P.length+[x].length=P.length+1 from rfl] at q1
  rw [q1];rfl
end
section
variable {α:Type} {lt:α->α->Bool} {S:α->Prop} {cmp:α->α->Option Int}
theorem Dr {β:Type} {body:Int × Int->Option (Step (Int × Int) β)} (lo hi:Nat) (p:Nat->Bool) (hB : ∀ i j:Nat,lo<=i->i<j->j<=hi->body ((i:Int),(j:Int))=some (.next (bif p ((i+j)/2) then ((((i+j)/2+1:Nat):Int),(j:Int)) else ((i:Int),(((i+j)/2:Nat):Int))))) (hE : ∀ i:Nat,body ((i:Int),(i:Int))=some (.exit ((i:Int),(i:Int)))) :
  ∀ (N i j:Nat),lo<=i->i<=j->j<=hi->j-i<N->(i=lo\/p (i-1)=true)->(j=hi\/p j=false) -> ∃ s:Nat,ax body N ((i:Int),(j:Int))=some (.inl ((s:Int),(s:Int)))/\lo<=s/\s<=hi/\(s=lo\/p (s-1)=true)/\(s=hi\/p s=false)
 | 0,i,j,_,_,_,h,_,_=>by omega
 | N+1,i,j,h1,h2,h3,hN,hi1,hj1=>by
  rw [ax]
  by_cases he:i=j
  ·subst he
   rw [hE]
   exact ⟨i,rfl,h1,h3,hi1,hj1⟩
  ·rw [hB i j h1 (by omega) h3]
   cases hp:p ((i+j)/2) with
   | true =>
    rw [agX]
    exact Dr lo hi p hB hE N ((i+j)/2+1) j (by omega) (by omega) h3 (by omega) (.inr (by rw [Nat.add_sub_cancel];exact hp)) hj1
   | false =>
    rw [agW]
    exact Dr lo hi p hB hE N i ((i+j)/2) h1 (by omega) (by omega) (by omega) hi1 (.inr hp)
theorem aah {n:Nat} (hn2:n<=1000000000) (x:α) (Q:List α) (i:Nat) : ∀ (B P:List α) (N:Nat),P.length+B.length+1=i->(P++x::(B++Q)).length=n->B.length<N -> ∃ k,ax (rq n (i:Int)) N (P++x::(B++Q),(P.length:Int))=some (.inl (P++(B++x::Q),k))
 | B,P,0,_,_,hN=>by omega
 | [],P,N+1,hi,hn,hN=>by
  simp only [aho,Nat.add_zero] at hi
  have hn':=hn
  simp only [ag3,ahf] at hn'
  subst hi
  rw [ax]
  have hb:rq n ((P.length+1:Nat):Int) (P++x::([]++Q),(P.length:Int))=some (.exit (P++x::([]++Q),(P.length:Int))):=by
   unfold rq
   dsimp only
   rw [wr1 _ (by omega) (by omega),agY (by omega),agW]
  rw [hb]
  exact ⟨_,rfl⟩
 | y::B,P,N+1,hi,hn,hN=>by
  simp only [ahf] at hi hN
  have hn':=hn
  simp only [ag3,ahf] at hn'
  have g1:(P++x::(y::B++Q))[P.length]?=some x:=get_at _ _ _
  have g2:(P++x::(y::B++Q))[P.length+1]?=some y:=G5 P [] (B++Q) x y
  rw [ax]
  have hb:rq n (i:Int) (P++x::(y::B++Q),(P.length:Int))=some (.next ((P++[y])++x::(B++Q),(((P++[y]).length:Nat):Int))):=by
   unfold rq
   dsimp only
   rw [wr1 _ (by omega) (by omega),wrapN (by omega)]
   have s2:=VQ (f:=fun z:α=>z) P [] (B++Q) x y
   rw [List.map_id',List.map_id',aho,Nat.add_zero] at s2
   have s3:((P++x::(y::B++Q)).set P.length y).set (P.length+1) x=P++y::x::(B++Q):=s2
   simp only [agZ (show (P.length:Int)<((i-1:Nat):Int) by omega),Sd,Mx (show P.length+1<n by omega),Mx (show P.length<n by omega),agX,gn_ g1,gn_ g2,agU,VP,List.length_set,agZ (show P.length+1<(P++x::(y::B++Q)).length by rw [hn];omega),agZ (show P.length<(P++x::(y::B++Q)).length by rw [hn];omega),s3]
   simp
  rw [hb]
  obtain ⟨k,hk⟩:=aah hn2 x Q i B (P++[y]) N (by simp;omega) (by rw [<- hn];simp only [ag3,ahf,aho];omega) (by omega)
  exact ⟨k,by show ax _ N _=_;rw [hk];simp⟩
theorem aao {n:Nat} (hn2:n<=1000000000) (x:α) (P:List α) : ∀ (l:Nat) (A Q:List α) (N:Nat),A.length=l->(P++(A++x::Q)).length=n->l<N -> ∃ k,ax (q9 n (P.length:Int)) N (P++(A++x::Q),((P.length+l:Nat):Int))=some (.inl (P++x::(A++Q),k))
 | l,A,Q,0,_,_,hN=>by omega
 | 0,A,Q,N+1,hl,hn,hN=>by
  have:A=[]:=ahu.1 hl
  subst this
  rw [ax]
  have hb:q9 n (P.length:Int) (P++([]++x::Q),((P.length+0:Nat):Int))=some (.exit (P++([]++x::Q),((P.length+0:Nat):Int))):=by
   unfold q9
   dsimp only
   rw [agY (by omega),agW]
  rw [hb]
  exact ⟨_,rfl⟩
 | l+1,A,Q,N+1,hl,hn,hN=>by
  obtain ⟨L,y,rfl⟩ : ∃ L y,A=L++[y]:=by
   rcases List.eq_nil_or_concat A with e|⟨L,y,e⟩
   ·subst e;simp at hl
   ·exact ⟨L,y,by simpa using e⟩
  have hL:L.length=l:=by simp at hl;exact hl
  have hn':=hn
  simp only [ag3,ahf,aho] at hn'
  have e1:P++((L++[y])++x::Q)=(P++L)++y::([]++x::Q):=by simp
  have g1:(P++((L++[y])++x::Q))[P.length+l]?=some y:=by rw [e1, <- hL, <- ag3];exact get_at _ _ _
  have g2:(P++((L++[y])++x::Q))[P.length+(l+1)]?=some x:=by
   have:=G5 (P++L) [] Q y x
   rw [<- e1] at this
   rwa [show (P++L).length+1+([]:List α).length=P.length+(l+1) by simp;omega] at this
  rw [ax]
  have hb:q9 n (P.length:Int) (P++((L++[y])++x::Q),((P.length+(l+1):Nat):Int))=some (.next (P++(L++x::(y::Q)),((P.length+l:Nat):Int))):=by
   unfold q9
   dsimp only
   rw [wr1 _ (by omega) (by omega),show P.length+(l+1)-1=P.length+l by omega]
   have s2:=VQ (f:=fun z:α=>z) (P++L) [] Q y x
   rw [List.map_id',List.map_id', <- e1,show (P++L).length=P.length+l by simp;omega,aho,show P.length+l+1+0=P.length+(l+1) by omega,List.set_comm _ _ (by omega)] at s2
   simp only [agZ (show (P.length:Int)<((P.length+(l+1):Nat):Int) by omega),Sd,Mx (show P.length+(l+1)<n by omega),Mx (show P.length+l<n by omega),agX,gn_ g1,gn_ g2,agU,VP,List.length_set,agZ (show P.length+(l+1)<(P++((L++[y])++x::Q)).length by rw [hn];omega),agZ (show P.length+l<(P++((L++[y])++x::Q)).length by rw [hn];omega),s2]
   simp
  rw [hb]
  obtain ⟨k,hk⟩:=aao hn2 x P l L (y::Q) N hL (by rw [<- hn];simp) (by omega)
  exact ⟨k,by show ax _ N _=_;rw [hk];simp⟩
theorem ye {l:List α} {s:Nat} (h:s<=l.length) : ∃ a b,l=a++b/\a.length=s:=⟨l.take s,l.drop s,(ahE _ _).symm,by rw [ahK];omega⟩
theorem GM {A:List α} (h:0<A.length) : ∃ L y,A=L++[y]:=by
 rcases List.eq_nil_or_concat A with e|⟨L,y,e⟩
 ·subst e;simp at h
 ·exact ⟨L,y,by simpa using e⟩
theorem Hw {A:List α} (h:0<A.length) : ∃ y L,A=y::L:=match A,h with|y::L,_=>⟨y,L,rfl⟩
def p1F (lt:α->α->Bool) (D:List α) (x:α) (i:Nat):Bool:=match D[i]? with|some y=>lt y x|none=>false
def p3F (lt:α->α->Bool) (D:List α) (x:α) (i:Nat):Bool:=match D[i]? with|some y => !lt x y|none=>false
def p5F (lt:α->α->Bool) (D:List α) (p i:Nat):Bool:=match D[p-i]?,D[i]? with|some x,some y => !lt x y|_,_=>false
theorem abz (h:DC lt S) (hc:qz cmp lt S) {n:Nat} (hn2:n<=1000000000) {P Q B:List α} {x:α} (sx:S x) (sB : ∀ z∈B,S z) (hB:fT lt B) (hn:(P++x::(B++Q)).length=n) :
  ∃ M,((ax (uq (P++x::(B++Q)) (P.length:Int) cmp n) fuel (((P.length+1:Nat):Int),((P.length+1+B.length:Nat):Int))).bind (zB (P++x::(B++Q)) (P.length:Int) n))=some (P++(M++Q))/\fT lt M/\M.Perm (x::B):=by
 have hn':=hn
 simp only [ag3,ahf] at hn'
 have gx:(P++x::(B++Q))[P.length]?=some x:=get_at _ _ _
 have gB : ∀ i y,B[i]?=some y->(P++x::(B++Q))[P.length+1+i]?=some y:=by
  intro i y hy
  have hi:=(agV.1 hy).1
  rw [ag2 (by omega),show P.length+1+i-P.length=i+1 by omega,List.getElem?_cons_succ,ag9 hi]
  exact hy
 obtain ⟨s,hs,s1,s2,s3,s4⟩:=Dr (body:=uq (P++x::(B++Q)) (P.length:Int) cmp n) (P.length+1) (P.length+1+B.length) (p1F lt (P++x::(B++Q)) x) (by
  intro i j hi hij hj
  obtain ⟨y,hy⟩:=gol_ (l:=B) (i:=(i+j)/2-(P.length+1)) (by omega)
  have gy:=gB _ _ hy
  rw [show P.length+1+((i+j)/2-(P.length+1))=(i+j)/2 by omega] at gy
  obtain ⟨r,hr,hr2⟩:=hc y x (sB y (ag1 hy)) sx
  unfold uq
  dsimp only
  rw [FI (by omega),wrapN (by omega)]
  simp only [Mx hij,Sd,Mx (show (i+j)/2<n by omega),Mx (show P.length<n by omega),agX,gn_ gy,gn_ gx,agU,hr,hr2]
  unfold p1F
  rw [gy]
  dsimp only
  cases lt y x<;>rfl) (by
  intro i
  unfold uq
  dsimp only
  rw [agY (by omega),agW]) fuel (P.length+1) (P.length+1+B.length) (ag' _) (by omega) (ag' _) (by unfold fuel;omega) (.inl rfl) (.inl rfl)
 rw [hs,agU]
 obtain ⟨B1,B2,rfl,hB1⟩:=ye (l:=B) (s:=s-(P.length+1)) (by omega)
 unfold zB
 dsimp only
 have e1:P++x::(B1++B2++Q)=P++x::(B1++(B2++Q)):=by simp
 rw [e1]
 obtain ⟨k,hk⟩:=aah hn2 x (B2++Q) s B1 P fuel (by omega) (by rw [<- e1];exact hn) (by simp at hn';unfold fuel;omega)
 rw [hk]
 refine ⟨B1++x::B2,by show some (P++(B1++x::(B2++Q)))=_;simp,Ht h sx sB hB ?_ ?_,List.perm_middle⟩
 ·by_cases h0:0<B1.length
  ·obtain ⟨L,y,rfl⟩:=GM h0
   refine .inr ⟨L,y,rfl,?_⟩
   have sy:=sB y (by simp)
   rcases s3 with e|e
   ·simp at hB1;omega
   ·have gy:=gB (s-1-(P.length+1)) y (by
     have:(L++[y]).length=s-(P.length+1):=hB1
     simp at this
     rw [ahk,ag2 (by omega),show s-1-(P.length+1)-L.length=0 by omega];rfl)
    rw [show P.length+1+(s-1-(P.length+1))=s-1 by simp at hB1;omega] at gy
    unfold p1F at e
    rw [gy] at e
    exact h.le_of sy sx e
  ·exact .inl (ahu.1 (by omega))
 ·by_cases h0:0<B2.length
  ·obtain ⟨z,L,rfl⟩:=Hw h0
   refine .inr ⟨z,L,rfl,?_⟩
   rcases s4 with e|e
   ·simp at e;omega
   ·have gz:=gB (s-(P.length+1)) z (by rw [<- hB1];exact get_at _ _ _)
    rw [show P.length+1+(s-(P.length+1))=s by omega] at gz
    unfold p1F at e
    rw [gz] at e
    exact e
  ·exact .inl (ahu.1 (by omega))
theorem abW (h:DC lt S) (hc:qz cmp lt S) {n:Nat} (hn2:n<=1000000000) {P Q A:List α} {x:α} (sx:S x) (sA : ∀ z∈A,S z) (hA:fT lt A) (hn:(P++(A++x::Q)).length=n) :
  ∃ M,((ax (ve (P++(A++x::Q)) ((P.length+A.length:Nat):Int) cmp n) fuel ((P.length:Int),((P.length+A.length:Nat):Int))).bind (zk (P++(A++x::Q)) ((P.length+A.length:Nat):Int) n))=some (P++(M++Q))/\fT lt M/\M.Perm (A++[x]):=by
 have hn':=hn
 simp only [ag3,ahf] at hn'
 have gx:(P++(A++x::Q))[P.length+A.length]?=some x:=by rw [<- ahk, <- ag3];exact get_at _ _ _
 have gA : ∀ i y,A[i]?=some y->(P++(A++x::Q))[P.length+i]?=some y:=by
  intro i y hy
  have hi:=(agV.1 hy).1
  rw [ag2 (by omega),show P.length+i-P.length=i by omega,ag9 hi]
  exact hy
 obtain ⟨s,hs,s1,s2,s3,s4⟩:=Dr (body:=ve (P++(A++x::Q)) ((P.length+A.length:Nat):Int) cmp n) P.length (P.length+A.length) (p3F lt (P++(A++x::Q)) x) (by
  intro i j hi hij hj
  obtain ⟨y,hy⟩:=gol_ (l:=A) (i:=(i+j)/2-P.length) (by omega)
  have gy:=gA _ _ hy
  rw [show P.length+((i+j)/2-P.length)=(i+j)/2 by omega] at gy
  obtain ⟨r,hr,hr2⟩:=hc x y sx (sA y (ag1 hy))
  unfold ve
  dsimp only
  rw [FI (by omega),wrapN (by omega)]
  simp only [Mx hij,Sd,Mx (show (i+j)/2<n by omega),Mx (show P.length+A.length<n by omega),agX,gn_ gy,gn_ gx,agU,hr,hr2]
  unfold p3F
  rw [gy]
  dsimp only
  cases lt x y<;>rfl) (by
  intro i
  unfold ve
  dsimp only
  rw [agY (by omega),agW]) fuel P.length (P.length+A.length) (ag' _) (by omega) (ag' _) (by unfold fuel;omega) (.inl rfl) (.inl rfl)
 rw [hs,agU]
 obtain ⟨A1,A2,rfl,hA1⟩:=ye (l:=A) (s:=s-P.length) (by omega)
 unfold zk
 dsimp only
 have e1:P++(A1++A2++x::Q)=(P++A1)++(A2++x::Q):=by simp
 have hlA:(P++A1).length=s:=by simp;omega
 rw [e1, <- hlA]
 have hl2:P.length+(A1++A2).length=(P++A1).length+A2.length:=by simp;omega
 rw [hl2]
 obtain ⟨k,hk⟩:=aao hn2 x (P++A1) A2.length A2 Q fuel rfl (by rw [<- e1];exact hn) (by simp at hn';unfold fuel;omega)
 rw [hk]
 refine ⟨A1++x::A2,by show some ((P++A1)++x::(A2++Q))=_;simp,Ht h sx sA hA ?_ ?_,?_⟩
 ·by_cases h0:0<A1.length
  ·obtain ⟨L,y,rfl⟩:=GM h0
   refine .inr ⟨L,y,rfl,?_⟩
   rcases s3 with e|e
   ·simp at hA1;omega
   ·have gy:=gA (s-1-P.length) y (by
     have:(L++[y]).length=s-P.length:=hA1
     simp at this
     rw [ahk,ag2 (by omega),show s-1-P.length-L.length=0 by omega];rfl)
    rw [show P.length+(s-1-P.length)=s-1 by simp at hA1;omega] at gy
    unfold p3F at e
    rw [gy] at e
    simpa using e
  ·exact .inl (ahu.1 (by omega))
 ·by_cases h0:0<A2.length
  ·obtain ⟨z,L,rfl⟩:=Hw h0
   refine .inr ⟨z,L,rfl,?_⟩
   have sz:=sA z (by simp)
   rcases s4 with e|e
   ·simp at e hA1;omega
   ·have gz:=gA (s-P.length) z (by rw [<- hA1];exact get_at _ _ _)
    rw [show P.length+(s-P.length)=s by omega] at gz
    unfold p3F at e
    rw [gz] at e
    exact h.le_of sx sz (by simpa using e)
  ·exact .inl (ahu.1 (by omega))
 ·rw [ahk]
  refine List.Perm.append_left A1 ?_
  exact (List.perm_append_comm (l₁:=[x]) (l₂:=A2))
end
set_option maxHeartbeats 4000000
section
variable {α:Type} {lt:α->α->Bool} {S:α->Prop} {cmp:α->α->Option Int}
def OE (rec:Nat->List α->Int->Int->Int->(α->α->Option Int)->Option (List α)) (cmp:α->α->Option Int) (n:Nat) (D:List α) (a s m e mid b:Int):Option (List α) :=
 (bif decide (s<m)&&decide (m<e) then sU n D s m e cmp else some D).bind fun c1 =>
 (bif decide (a<s)&&decide (s<mid) then rec n c1 a s mid cmp else some c1).bind fun c2 =>
 (bif decide (mid<e)&&decide (e<b) then rec n c2 mid e b cmp else some c2).bind fun c3=>some c3
theorem aaN (rec:Nat->List α->Int->Int->Int->(α->α->Option Int)->Option (List α)) (n:Nat) (D:List α) (a m b s:Int):pg D a m b cmp n rec (.inl (s,s))=OE rec cmp n D a s m (IntKind.i64.wrap ((IntKind.i64.wrap ((bT (IntKind.i64.wrap (a+b)))+m))-s)) (bT (IntKind.i64.wrap (a+b))) b:=by
 unfold pg OE
 dsimp only
 generalize bT (IntKind.i64.wrap (a+b))=mid
 generalize IntKind.i64.wrap (IntKind.i64.wrap (mid+m)-s)=e
 generalize decide (s<m)=d1
 generalize decide (m<e)=d2
 generalize decide (a<s)=d3
 generalize decide (s<mid)=d4
 generalize decide (mid<e)=d5
 generalize decide (e<b)=d6
 cases d1<;>cases d2<;>cases d3<;>cases d4<;>cases d5<;>cases d6<;>rfl
theorem afq (D:List α) (a m b:Int) (n:Nat):Dz D a m b cmp n=oQ D a m b cmp n:=rfl
theorem afb (rec:Nat->List α->Int->Int->Int->(α->α->Option Int)->Option (List α)) (D:List α) (a m b:Int) (n:Nat):yU D a m b cmp n rec=pg D a m b cmp n rec:=by
 funext q
 cases q<;>rfl
theorem UU (h:DC lt S) (hc:qz cmp lt S) {n:Nat} (hn2:n<=1000000000) {D:List α} (hD:D.length=n) (hS : ∀ z∈D,S z) {a m b lo hi:Nat} (hab:a<m/\m<b/\b<=n) (hlh:lo<=hi) (hlo:a<=lo) (hhi:hi<=m) (hlo2:(a+b)/2+m<=lo+b) (hhi2:hi+a<=(a+b)/2+m ) (hhi3:hi<=(a+b)/2) (hlo3:m<=(a+b)/2+m-hi) :
  ∃ s:Nat,ax (oQ D (a:Int) (m:Int) (b:Int) cmp n) fuel ((lo:Int),(hi:Int))=some (.inl ((s:Int),(s:Int)))/\lo<=s/\s<=hi/\(s=lo \/ ∃ x y,D[s-1]?=some x/\D[(a+b)/2+m-s]?=some y/\lt y x=false)/\(s=hi \/ ∃ x y,D[(a+b)/2+m-1-s]?=some x/\D[s]?=some y/\lt x y=true):=by
 obtain ⟨s,hs,s1,s2,s3,s4⟩:=Dr (body:=oQ D (a:Int) (m:Int) (b:Int) cmp n) lo hi (p5F lt D ((a+b)/2+m-1)) (by
  intro i j hi1 hij hj
  obtain ⟨x,hx⟩:=gol_ (l:=D) (i:=(a+b)/2+m-1-(i+j)/2) (by omega)
  obtain ⟨y,hy⟩:=gol_ (l:=D) (i:=(i+j)/2) (by omega)
  obtain ⟨r,hr,hr2⟩:=hc x y (hS x (ag1 hx)) (hS y (ag1 hy))
  unfold oQ
  dsimp only
  rw [FI (i:=i) (j:=j) (by omega),FI (i:=a) (j:=b) (by omega),Y4 ((a+b)/2) m (by omega),wr1 _ (by omega) (by omega),Xi ((a+b)/2+m-1) ((i+j)/2) (by omega) (by omega),wrapN (by omega)]
  simp only [Mx hij,Sd,Mx (show (i+j)/2<n by omega),Mx (show (a+b)/2+m-1-(i+j)/2<n by omega),agX,gn_ hx,gn_ hy,agU,hr,hr2]
  unfold p5F
  rw [hx,hy]
  dsimp only
  cases lt x y<;>rfl) (by
  intro i
  unfold oQ
  dsimp only
  rw [agY (by omega),agW]) fuel lo hi (ag' _) hlh (ag' _) (by unfold fuel;omega) (.inl rfl) (.inl rfl)
 refine ⟨s,hs,s1,s2,?_,?_⟩
 ·rcases s3 with e|e
  ·exact .inl e
  ·by_cases hsl:s=lo
   ·exact .inl hsl
   ·refine .inr ?_
    obtain ⟨x,hx⟩:=gol_ (l:=D) (i:=s-1) (by omega)
    obtain ⟨y,hy⟩:=gol_ (l:=D) (i:=(a+b)/2+m-s) (by omega)
    unfold p5F at e
    rw [show (a+b)/2+m-1-(s-1)=(a+b)/2+m-s by omega,hy,hx] at e
    exact ⟨x,y,hx,hy,by simpa using e⟩
 ·by_cases hsh:s=hi
  ·exact .inl hsh
  ·rcases s4 with e|e
   ·exact .inl e
   ·refine .inr ?_
    obtain ⟨x,hx⟩:=gol_ (l:=D) (i:=(a+b)/2+m-1-s) (by omega)
    obtain ⟨y,hy⟩:=gol_ (l:=D) (i:=s) (by omega)
    unfold p5F at e
    rw [hx,hy] at e
    exact ⟨x,y,hx,hy,by simpa using e⟩
theorem GU (h:DC lt S) (hc:qz cmp lt S) {n:Nat} (hn2:n<=1000000000) : ∀ (q:Nat) (P A B Q:List α),A.length+B.length<=q->0<A.length->0<B.length->(∀ z∈P++(A++(B++Q)),S z)->fT lt A->fT lt B->(P++(A++(B++Q))).length=n ->
  ∃ M,HY q n (P++(A++(B++Q))) (P.length:Int) ((P.length+A.length:Nat):Int) ((P.length+A.length+B.length:Nat):Int) cmp=some (P++(M++Q))/\fT lt M/\M.Perm (A++B)
 | 0,P,A,B,Q,hq,hA,hB,_,_,_,_=>by omega
 | q+1,P,A,B,Q,hq,hA,hB,hS,aA,aB,hn=>by
  have hn':=hn
  simp only [ag3] at hn'
  have sA : ∀ z∈A,S z:=fun z hz=>hS z (by simp [hz])
  have sB : ∀ z∈B,S z:=fun z hz=>hS z (by simp [hz])
  show ∃ M,xN (HY q) n (P++(A++(B++Q))) (P.length:Int) ((P.length+A.length:Nat):Int) ((P.length+A.length+B.length:Nat):Int) cmp=some (P++(M++Q))/\_
  unfold xN
  rw [Xi (P.length+A.length) P.length (by omega) (by omega),Xi (P.length+A.length+B.length) (P.length+A.length) (by omega) (by omega),show P.length+A.length-P.length=A.length by omega,show P.length+A.length+B.length-(P.length+A.length)=B.length by omega]
  by_cases c1:A.length=1
  ·obtain ⟨x,rfl⟩ : ∃ x,A=[x]:=match A,c1 with|[x],_=>⟨x,rfl⟩
   rw [agZ (show (([x]:List α).length:Int)=1 from rfl),agX]
   obtain ⟨M,k1,k2,k3⟩:=abz h hc hn2 (P:=P) (Q:=Q) (sA x (by simp)) sB aB hn
   exact ⟨M,k1,k2,k3⟩
  ·rw [agY (show ¬ (A.length:Int)=1 by omega),agW]
   by_cases c2:B.length=1
   ·obtain ⟨x,rfl⟩ : ∃ x,B=[x]:=match B,c2 with|[x],_=>⟨x,rfl⟩
    rw [agZ (show (([x]:List α).length:Int)=1 from rfl),agX]
    obtain ⟨M,k1,k2,k3⟩:=abW h hc hn2 (P:=P) (Q:=Q) (sB x (by simp)) sA aA hn
    exact ⟨M,k1,k2,k3⟩
   ·rw [agY (show ¬ (B.length:Int)=1 by omega),agW,FI (by omega)]
    have hD:(P++(A++(B++Q))).length=n:=hn
    have gA : ∀ i y,A[i]?=some y->(P++(A++(B++Q)))[P.length+i]?=some y:=by
     intro i y hy
     have hi:=(agV.1 hy).1
     rw [ag2 (by omega),show P.length+i-P.length=i by omega,ag9 hi]
     exact hy
    have gB : ∀ i y,B[i]?=some y->(P++(A++(B++Q)))[P.length+A.length+i]?=some y:=by
     intro i y hy
     have hi:=(agV.1 hy).1
     rw [ag2 (by omega),ag2 (by omega),show P.length+A.length+i-P.length-A.length=i by omega,ag9 hi]
     exact hy
    generalize hmid:(P.length+(P.length+A.length+B.length))/2=mid

    have key : ∃ s:Nat,((bif decide (((mid:Nat):Int)<((P.length+A.length:Nat):Int)) then (ax (oQ (P++(A++(B++Q))) (P.length:Int) ((P.length+A.length:Nat):Int) ((P.length+A.length+B.length:Nat):Int) cmp n) fuel ((IntKind.i64.wrap ((IntKind.i64.wrap (((mid:Nat):Int)+((P.length+A.length:Nat):Int)))-((P.length+A.length+B.length:Nat):Int))),((mid:Nat):Int))).bind (pg (P++(A++(B++Q))) (P.length:Int) ((P.length+A.length:Nat):Int) ((P.length+A.length+B.length:Nat):Int) cmp n (HY q)) else
      (ax (Dz (P++(A++(B++Q))) (P.length:Int) ((P.length+A.length:Nat):Int) ((P.length+A.length+B.length:Nat):Int) cmp n) fuel ((P.length:Int),((P.length+A.length:Nat):Int))).bind (yU (P++(A++(B++Q))) (P.length:Int) ((P.length+A.length:Nat):Int) ((P.length+A.length+B.length:Nat):Int) cmp n (HY q))))=pg (P++(A++(B++Q))) (P.length:Int) ((P.length+A.length:Nat):Int) ((P.length+A.length+B.length:Nat):Int) cmp n (HY q) (.inl ((s:Int),(s:Int))) /\
      P.length<=s/\s<=P.length+A.length/\P.length+A.length<=mid+(P.length+A.length)-s/\mid+(P.length+A.length)-s<=P.length+A.length+B.length/\s<=mid+(P.length+A.length) /\
      (s=P.length\/mid+(P.length+A.length)-s=P.length+A.length+B.length \/ ∃ x y,(P++(A++(B++Q)))[s-1]?=some x/\(P++(A++(B++Q)))[mid+(P.length+A.length)-s]?=some y/\lt y x=false) /\
      (mid+(P.length+A.length)-s=P.length+A.length\/s=P.length+A.length \/ ∃ x y,(P++(A++(B++Q)))[mid+(P.length+A.length)-1-s]?=some x/\(P++(A++(B++Q)))[s]?=some y/\lt x y=true):=by
     by_cases hm:mid<P.length+A.length
     ·rw [agZ (show ((mid:Nat):Int)<((P.length+A.length:Nat):Int) by omega),agX,Y4 mid (P.length+A.length) (by omega),Xi (mid+(P.length+A.length)) (P.length+A.length+B.length) (by omega) (by omega)]
      obtain ⟨s,hs,s1,s2,s3,s4⟩:=UU h hc hn2 hD hS (a:=P.length) (m:=P.length+A.length) (b:=P.length+A.length+B.length) (lo:=mid+(P.length+A.length)-(P.length+A.length+B.length)) (hi:=mid) (by omega) (by omega) (by omega) (by omega) (by omega) (by omega) (by omega) (by omega)
      rw [hs,agU]
      rw [hmid] at s3 s4
      refine ⟨s,rfl,by omega,by omega,by omega,by omega,by omega,?_,?_⟩
      ·rcases s3 with e|e
       ·exact .inr (.inl (by omega))
       ·exact .inr (.inr e)
      ·rcases s4 with e|e
       ·exact .inl (by omega)
       ·exact .inr (.inr e)
     ·rw [agY (show ¬ ((mid:Nat):Int)<((P.length+A.length:Nat):Int) by omega),agW,afq,afb]
      obtain ⟨s,hs,s1,s2,s3,s4⟩:=UU h hc hn2 hD hS (a:=P.length) (m:=P.length+A.length) (b:=P.length+A.length+B.length) (lo:=P.length) (hi:=P.length+A.length) (by omega) (by omega) (by omega) (by omega) (by omega) (by omega) (by omega) (by omega)
      rw [hs,agU]
      rw [hmid] at s3 s4
      refine ⟨s,rfl,by omega,by omega,by omega,by omega,by omega,?_,?_⟩
      ·rcases s3 with e|e
       ·exact .inl e
       ·exact .inr (.inr e)
      ·rcases s4 with e|e
       ·exact .inr (.inl e)
       ·exact .inr (.inr e)
    obtain ⟨s,hk,s1,s2,s3,s4,s4b,s5,s6⟩:=key
    rw [hk,aaN,FI (by omega),hmid,Y4 mid (P.length+A.length) (by omega),Xi (mid+(P.length+A.length)) s s4b (by omega)]
    obtain ⟨A1,A2,rfl,hA1⟩:=ye (l:=A) (s:=s-P.length) (by omega)
    obtain ⟨B1,B2,rfl,hB1⟩:=ye (l:=B) (s:=mid+(P.length+(A1++A2).length)-s-(P.length+(A1++A2).length)) (by omega)
    simp only [ag3] at hk s1 s2 s3 s4 s4b s5 s6 hA hB hq c1 c2 hmid hB1 hn' ⊢
    have eS:s=P.length+A1.length:=by omega
    have eE:mid+(P.length+(A1.length+A2.length))-s=P.length+(A1.length+A2.length)+B1.length:=by omega
    have eM:mid=P.length+A1.length+B1.length:=by omega

    have h1:A1=[]\/B2=[] \/ ∃ A' x y B',A1=A'++[x]/\B2=y::B'/\lt y x=false:=by
     by_cases z1:0<A1.length
     ·by_cases z2:0<B2.length
      ·obtain ⟨A',x,rfl⟩:=GM z1
       obtain ⟨y,B',rfl⟩:=Hw z2
       refine .inr (.inr ⟨A',x,y,B',rfl,rfl,?_⟩)
       simp only [ag3,ahf,aho] at *
       rcases s5 with e|e|⟨x',y',e1,e2,e3⟩
       ·omega
       ·omega
       ·have g1:=gA A'.length x (by simp)
        have g2:=gB B1.length y (by simp)
        rw [show P.length+A'.length=s-1 by omega,e1] at g1
        try simp only [ag3,ahf,aho] at g2
        rw [show P.length+(A'.length+(0+1)+A2.length)+B1.length=mid+(P.length+(A'.length+(0+1)+A2.length))-s by omega,e2] at g2
        rw [<- ahq g1, <- ahq g2];exact e3
      ·exact .inr (.inl (ahu.1 (by omega)))
     ·exact .inl (ahu.1 (by omega))
    have h2:B1=[]\/A2=[] \/ ∃ A' x y B',B1=A'++[x]/\A2=y::B'/\lt y x=false:=by
     by_cases z1:0<B1.length
     ·by_cases z2:0<A2.length
      ·obtain ⟨B',x,rfl⟩:=GM z1
       obtain ⟨y,A',rfl⟩:=Hw z2
       refine .inr (.inr ⟨B',x,y,A',rfl,rfl,?_⟩)
       have sx:=sB x (by simp)
       have sy:=sA y (by simp)
       simp only [ag3,ahf,aho] at *
       rcases s6 with e|e|⟨x',y',e1,e2,e3⟩
       ·omega
       ·omega
       ·have g1:=gB B'.length x (by simp)
        have g2:=gA A1.length y (by simp)
        try simp only [ag3,ahf,aho] at g1
        rw [show P.length+(A1.length+(A'.length+1))+B'.length=mid+(P.length+(A1.length+(A'.length+1)))-1-s by omega,e1] at g1
        rw [<- eS,e2] at g2
        rw [ahq g1,ahq g2] at e3
        exact h.le_of sx sy e3
      ·exact .inr (.inl (ahu.1 (by omega)))
     ·exact .inl (ahu.1 (by omega))
    have pA:=List.pairwise_append.1 aA
    have pB:=List.pairwise_append.1 aB

    unfold OE
    rw [eE,eS,eM]
    have r1:(bif decide (((P.length+A1.length:Nat):Int)<((P.length+(A1.length+A2.length):Nat):Int))&&decide (((P.length+(A1.length+A2.length):Nat):Int)<((P.length+(A1.length+A2.length)+B1.length:Nat):Int)) then sU n (P++(A1++A2++(B1++B2++Q))) ((P.length+A1.length:Nat):Int) ((P.length+(A1.length+A2.length):Nat):Int) ((P.length+(A1.length+A2.length)+B1.length:Nat):Int) cmp else some (P++(A1++A2++(B1++B2++Q))))=some (P++(A1++(B1++(A2++(B2++Q))))):=by
     have e0:P++(A1++A2++(B1++B2++Q))=(P++A1)++(A2++(B1++(B2++Q))):=by simp
     by_cases z1:0<A2.length
     ·by_cases z2:0<B1.length
      ·rw [agZ (by omega),agZ (by omega),Bool.and_self,agX]
       have hr:=TJ hn2 (P:=P++A1) (A:=A2) (B:=B1) (Q:=B2++Q) cmp z1 z2 (by rw [<- e0];exact hn)
       rw [e0]
       simp only [ag3] at hr
       rw [show P.length+(A1.length+A2.length)=P.length+A1.length+A2.length by omega,hr]
       simp
      ·have:B1=[]:=ahu.1 (by omega)
       subst this
       rw [show decide (((P.length+(A1.length+A2.length):Nat):Int)<((P.length+(A1.length+A2.length)+([]:List α).length:Nat):Int))=false from agY (by simp),Bool.and_false,agW]
       simp
     ·have:A2=[]:=ahu.1 (by omega)
      subst this
      rw [show decide (((P.length+A1.length:Nat):Int)<((P.length+(A1.length+([]:List α).length):Nat):Int))=false from agY (by simp),Bool.false_and,agW]
      simp
    rw [r1,agU]
    have r2 : ∃ M1,(bif decide ((P.length:Int)<((P.length+A1.length:Nat):Int))&&decide (((P.length+A1.length:Nat):Int)<((P.length+A1.length+B1.length:Nat):Int)) then HY q n (P++(A1++(B1++(A2++(B2++Q))))) (P.length:Int) ((P.length+A1.length:Nat):Int) ((P.length+A1.length+B1.length:Nat):Int) cmp else some (P++(A1++(B1++(A2++(B2++Q))))))=some (P++(M1++(A2++(B2++Q))))/\fT lt M1/\M1.Perm (A1++B1):=by
     by_cases z1:0<A1.length
     ·by_cases z2:0<B1.length
      ·rw [agZ (by omega),agZ (by omega),Bool.and_self,agX]
       exact GU h hc hn2 q P A1 B1 (A2++(B2++Q)) (by omega) z1 z2 (fun z hz=>hS z (by simp only [ahl] at hz ⊢;rcases hz with hz|hz|hz|hz|hz|hz<;>simp [hz])) pA.1 pB.1 (by rw [<- hn];simp only [ag3];omega)
      ·have:B1=[]:=ahu.1 (by omega)
       subst this
       rw [show decide (((P.length+A1.length:Nat):Int)<((P.length+A1.length+([]:List α).length:Nat):Int))=false from agY (by simp),Bool.and_false,agW]
       exact ⟨A1,by simp,pA.1,by simp⟩
     ·have:A1=[]:=ahu.1 (by omega)
      subst this
      rw [show decide ((P.length:Int)<((P.length+([]:List α).length:Nat):Int))=false from agY (by simp),Bool.false_and,agW]
      exact ⟨B1,by simp,pB.1,by simp⟩
    obtain ⟨M1,r2,m1,p1⟩:=r2
    rw [r2,agU]
    have hM1:M1.length=A1.length+B1.length:=by rw [p1.length_eq,ag3]
    have r3 : ∃ M2,(bif decide (((P.length+A1.length+B1.length:Nat):Int)<((P.length+(A1.length+A2.length)+B1.length:Nat):Int))&&decide (((P.length+(A1.length+A2.length)+B1.length:Nat):Int)<((P.length+(A1.length+A2.length)+(B1.length+B2.length):Nat):Int)) then HY q n (P++(M1++(A2++(B2++Q)))) ((P.length+A1.length+B1.length:Nat):Int) ((P.length+(A1.length+A2.length)+B1.length:Nat):Int) ((P.length+(A1.length+A2.length)+(B1.length+B2.length):Nat):Int) cmp else some (P++(M1++(A2++(B2++Q)))))=some (P++(M1++(M2++Q)))/\fT lt M2/\M2.Perm (A2++B2):=by
     by_cases z1:0<A2.length
     ·by_cases z2:0<B2.length
      ·rw [agZ (by omega),agZ (by omega),Bool.and_self,agX]
       obtain ⟨M2,k1,k2,k3⟩:=GU h hc hn2 q (P++M1) A2 B2 Q (by omega) z1 z2 (fun z hz=>by
        simp only [ahl] at hz
        rcases hz with (hz|hz)|hz|hz|hz
        ·exact hS z (by simp [hz])
        ·have:=p1.mem_iff.1 hz
         simp only [ahl] at this
         rcases this with hz|hz<;>exact hS z (by simp [hz])
        ·exact hS z (by simp [hz])
        ·exact hS z (by simp [hz])
        ·exact hS z (by simp [hz])) pA.2.1 pB.2.1 (by rw [<- hn];simp only [ag3];omega)
       refine ⟨M2,?_,k2,k3⟩
       simp only [ag3,hM1] at k1
       rw [show P.length+A1.length+B1.length=P.length+(A1.length+B1.length) by omega,show P.length+(A1.length+A2.length)+B1.length=P.length+(A1.length+B1.length)+A2.length by omega,show P.length+(A1.length+A2.length)+(B1.length+B2.length)=P.length+(A1.length+B1.length)+A2.length+B2.length by omega]
       have e0:P++(M1++(A2++(B2++Q)))=(P++M1)++(A2++(B2++Q)):=by simp
       rw [e0,k1]
       simp
      ·have:B2=[]:=ahu.1 (by omega)
       subst this
       rw [show decide (((P.length+(A1.length+A2.length)+B1.length:Nat):Int)<((P.length+(A1.length+A2.length)+(B1.length+([]:List α).length):Nat):Int))=false from agY (by simp),Bool.and_false,agW]
       exact ⟨A2,by simp,pA.2.1,by simp⟩
     ·have:A2=[]:=ahu.1 (by omega)
      subst this
      rw [show decide (((P.length+A1.length+B1.length:Nat):Int)<((P.length+(A1.length+([]:List α).length)+B1.length:Nat):Int))=false from agY (by simp),Bool.false_and,agW]
      exact ⟨B2,by simp,pB.2.1,by simp⟩
    obtain ⟨M2,r3,m2,p2⟩:=r3
    rw [r3]
    refine ⟨M1++M2,by simp,SB h (fun z hz=>?_) aA aB h1 h2 m1 m2 p1 p2,RQ p1 p2⟩
    simp only [ahl] at hz
    rcases hz with (hz|hz)|hz|hz<;>exact hS z (by simp [hz])
end
set_option maxHeartbeats 4000000
section
variable {α:Type} {lt:α->α->Bool} {S:α->Prop} {cmp:α->α->Option Int}
inductive Rn (lt:α->α->Bool) (bs:Nat):List α->Prop
 | last {A:List α} : A.length<=bs->fT lt A->Rn lt bs A
 | cons {A R:List α} : A.length=bs->fT lt A->Rn lt bs R->Rn lt bs (A++R)
inductive Fu (lt:α->α->Bool) (bs:Nat):List α->Prop
 | nil:Fu lt bs []
 | snoc {P A:List α} : Fu lt bs P->A.length=bs->fT lt A->Fu lt bs (P++A)
theorem Fu.rn {bs:Nat} {P:List α} (h:Fu lt bs P) : ∀ {R:List α}, Rn lt bs R->Rn lt bs (P++R):=by
 induction h with
 | nil=>intro R h;exact h
 | @snoc P A _ hl ha ih =>
  intro R h
  rw [ahk]
  exact ih (.cons hl ha h)
theorem Rn.asc {bs:Nat} {l:List α} (h:Rn lt bs l) (hb:0<bs) (hl:l.length<=bs):fT lt l:=by
 cases h with
 | last _ ha=>exact ha
 | @cons A R h1 h2 h3 =>
  have:R=[]:=ahu.1 (by rw [ag3] at hl;omega)
  subst this
  rw [ahs];exact h2
theorem Vo (h:DC lt S) (hc:qz cmp lt S) {n:Nat} (hn2:n<=100000000) : ∀ (N:Nat) (P R:List α),Fu lt 20 P->(∀ z∈P++R,S z)->(P++R).length=n->R.length<N ->
  ∃ P' R' b,ax (lQ (n:Int) cmp n) N (P++R,(P.length:Int),((P.length+20:Nat):Int))=some (.inl (P'++R',(P'.length:Int),b))/\Fu lt 20 P'/\R'.length<20/\(P'++R').Perm (P++R)
 | 0,P,R,_,_,_,hN=>by omega
 | N+1,P,R,hF,hS,hn,hN=>by
  have hn':=hn
  rw [ag3] at hn'
  rw [ax]
  by_cases hb:P.length+20<=n
  ·obtain ⟨M,R1,rfl,hM⟩:=ye (l:=R) (s:=20) (by omega)
   rw [ag3] at hn' hN
   obtain ⟨M',k1,k2,k3⟩:=Gu h hc (n:=n) (by omega) (P:=P) (M:=M) (Q:=R1) (fun z hz=>hS z (by simp [hz])) hn
   have hM':M'.length=20:=by rw [k3.length_eq,hM]
   have hB:lQ (n:Int) cmp n (P++(M++R1),(P.length:Int),((P.length+20:Nat):Int))=some (.next ((P++M')++R1,(((P++M').length:Nat):Int),(((P++M').length+20:Nat):Int))):=by
    unfold lQ
    dsimp only
    rw [agZ (show ((P.length+20:Nat):Int)<=(n:Int) by omega),agX, <- hM,k1,agU,hM,show IntKind.i64.wrap (((P.length+20:Nat):Int)+20)=((P.length+20+20:Nat):Int) from Y4 _ 20 (by omega)]
    simp [hM']
   rw [hB]
   obtain ⟨P',R',b,q1,q2,q3,q4⟩:=Vo h hc hn2 N (P++M') R1 (.snoc hF hM' k2) (fun z hz=>by
    simp only [ahl] at hz
    rcases hz with (hz|hz)|hz
    ·exact hS z (by simp [hz])
    ·exact hS z (by simp [k3.mem_iff.1 hz])
    ·exact hS z (by simp [hz])) (by rw [ag3,ag3];omega) (by omega)
   refine ⟨P',R',b,q1,q2,q3,q4.trans ?_⟩
   rw [ahk]
   exact (k3.append_right R1).append_left P
  ·have hB:lQ (n:Int) cmp n (P++R,(P.length:Int),((P.length+20:Nat):Int))=some (.exit (P++R,(P.length:Int),((P.length+20:Nat):Int))):=by
    unfold lQ
    dsimp only
    rw [agY (by omega),agW]
   rw [hB]
   exact ⟨P,R,_,rfl,hF,by omega, .refl _⟩
theorem Vk (h:DC lt S) (hc:qz cmp lt S) {n bs:Nat} (hn2:n<=100000000) (hb:0<bs) (hb2:bs<=n) : ∀ (N:Nat) (P R:List α),Fu lt (2*bs) P->Rn lt bs R->(∀ z∈P++R,S z)->(P++R).length=n->R.length<N ->
  ∃ P' R' b,ax (lG (n:Int) cmp n (bs:Int)) N (P++R,(P.length:Int),((P.length+2*bs:Nat):Int))=some (.inl (P'++R',(P'.length:Int),b))/\Fu lt (2*bs) P'/\Rn lt bs R'/\R'.length<2*bs/\(P'++R').Perm (P++R)
 | 0,P,R,_,_,_,_,hN=>by omega
 | N+1,P,R,hF,hR,hS,hn,hN=>by
  have hn':=hn
  rw [ag3] at hn'
  rw [ax]
  by_cases hle:P.length+2*bs<=n
  ·
   obtain ⟨A,B,Q,rfl,hA,hB,aA,aB,hQ⟩ : ∃ A B Q,R=A++(B++Q)/\A.length=bs/\B.length=bs/\fT lt A/\fT lt B/\Rn lt bs Q:=by
    cases hR with
    | last h1 _=>omega
    | @cons A R1 h1 h2 h3 =>
     rw [ag3] at hn'
     cases h3 with
     | last g1 g2=>exact ⟨A,R1,[],by rw [ahs],h1,by omega,h2,g2, .last (ahe _) List.Pairwise.nil⟩
     | @cons B R2 g1 g2 g3=>exact ⟨A,B,R2,rfl,h1,g1,h2,g2,g3⟩
   rw [ag3,ag3] at hn' hN
   obtain ⟨M,k1,k2,k3⟩:=GU h hc (n:=n) (by omega) fuel P A B Q (by unfold fuel;omega) (by omega) (by omega) hS aA aB hn
   have hM:M.length=2*bs:=by rw [k3.length_eq,ag3];omega
   have hBo:lG (n:Int) cmp n (bs:Int) (P++(A++(B++Q)),(P.length:Int),((P.length+2*bs:Nat):Int))=some (.next ((P++M)++Q,(((P++M).length:Nat):Int),(((P++M).length+2*bs:Nat):Int))):=by
    unfold lG
    dsimp only
    rw [hA,hB,show P.length+bs+bs=P.length+2*bs by omega] at k1
    rw [agZ (show ((P.length+2*bs:Nat):Int)<=(n:Int) by omega),agX,Y4 P.length bs (by omega),k1,agU,show IntKind.i64.wrap ((2:Int)*(bs:Int))=((2*bs:Nat):Int) by rw [fK (by omega)];omega,Y4 _ (2*bs) (by omega)]
    simp [hM]
   rw [hBo]
   obtain ⟨P',R',b,q1,q2,q3,q4,q5⟩:=Vk h hc hn2 hb hb2 N (P++M) Q (.snoc hF hM k2) hQ (fun z hz=>by
    simp only [ahl] at hz
    rcases hz with (hz|hz)|hz
    ·exact hS z (by simp [hz])
    ·have:=k3.mem_iff.1 hz;simp only [ahl] at this
     rcases this with hz|hz<;>exact hS z (by simp [hz])
    ·exact hS z (by simp [hz])) (by rw [ag3,ag3];omega) (by omega)
   refine ⟨P',R',b,q1,q2,q3,q4,q5.trans ?_⟩
   rw [ahk]
   refine List.Perm.append_left P ?_
   rw [<- ahk]
   exact k3.append_right Q
  ·have hBo:lG (n:Int) cmp n (bs:Int) (P++R,(P.length:Int),((P.length+2*bs:Nat):Int))=some (.exit (P++R,(P.length:Int),((P.length+2*bs:Nat):Int))):=by
    unfold lG
    dsimp only
    rw [agY (by omega),agW]
   rw [hBo]
   exact ⟨P,R,_,rfl,hF,hR,by omega, .refl _⟩
theorem Q7 (h:DC lt S) (hc:qz cmp lt S) {n bs:Nat} (hn2:n<=100000000) (hb:0<bs) (hb2:bs<n) {c:List α} (hR:Rn lt bs c) (hS : ∀ z∈c,S z) (hn:c.length=n) : ∃ c',lJ (n:Int) cmp n (c,(bs:Int))=some (.next (c',((2*bs:Nat):Int)))/\Rn lt (2*bs) c'/\c'.Perm c:=by
 obtain ⟨P,R,b,q1,q2,q3,q4,q5⟩:=Vk h hc hn2 hb (by omega) fuel [] c .nil hR hS hn (by unfold fuel;omega)
 rw [ag0] at q1 q5
 have hl:=q5.length_eq
 rw [ag3,hn] at hl
 have e2:IntKind.i64.wrap ((2:Int)*(bs:Int))=((2*bs:Nat):Int):=by rw [fK (by omega)];omega
 have e3:IntKind.i64.wrap ((bs:Int)*2)=((2*bs:Nat):Int):=by rw [fK (by omega)];omega
 simp only [aho,ahB] at q1
 unfold lJ
 dsimp only
 rw [agZ (show (bs:Int)<(n:Int) by omega),agX,e2]
 rw [show ((0:Nat):Int)=0 from rfl] at q1
 rw [q1,agU]
 unfold vR
 dsimp only
 rw [Y4 P.length bs (by omega),e3]
 have hS' : ∀ z∈P++R,S z:=fun z hz=>hS z (q5.mem_iff.1 hz)
 by_cases hlt:P.length+bs<n
 ·rw [agZ (show ((P.length+bs:Nat):Int)<(n:Int) by omega),agX]
  obtain ⟨A,B,rfl,hA,hB,aA,aB⟩ : ∃ A B,R=A++B/\A.length=bs/\0<B.length/\fT lt A/\fT lt B:=by
   cases q3 with
   | last h1 _=>omega
   | @cons A R1 h1 h2 h3 =>
    rw [ag3] at hl q4
    exact ⟨A,R1,rfl,h1,by omega,h2,h3.asc hb (by omega)⟩
  rw [ag3] at hl q4
  obtain ⟨M,k1,k2,k3⟩:=GU h hc (n:=n) (by omega) fuel P A B [] (by unfold fuel;omega) (by omega) hB (by simpa using hS') aA aB (by rw [ahs,ag3,ag3];omega)
  have hM:M.length=A.length+B.length:=by rw [k3.length_eq,ag3]
  rw [hA,show P.length+bs+B.length=n by omega,ahs] at k1
  rw [k1,agU,ahs]
  exact ⟨P++M,rfl,q2.rn (.last (by omega) k2),(k3.append_left P).trans q5⟩
 ·rw [agY (show ¬ ((P.length+bs:Nat):Int)<(n:Int) by omega),agW]
  exact ⟨P++R,rfl,q2.rn (.last (by omega) (q3.asc hb (by omega))),q5⟩
theorem Vw (h:DC lt S) (hc:qz cmp lt S) {n:Nat} (hn2:n<=100000000) : ∀ (N bs:Nat) (c:List α),0<bs->bs<=2*n+20->Rn lt bs c->(∀ z∈c,S z)->c.length=n->n-bs<N ->
  ∃ c' b,ax (lJ (n:Int) cmp n) N (c,(bs:Int))=some (.inl (c',b))/\fT lt c'/\c'.Perm c
 | 0,bs,c,_,_,_,_,_,hN=>by omega
 | N+1,bs,c,hb,hb2,hR,hS,hn,hN=>by
  rw [ax]
  by_cases hlt:bs<n
  ·obtain ⟨c',k1,k2,k3⟩:=Q7 h hc hn2 hb hlt hR hS hn
   rw [k1]
   obtain ⟨c2,b,q1,q2,q3⟩:=Vw h hc hn2 N (2*bs) c' (by omega) (by omega) k2 (fun z hz=>hS z (k3.mem_iff.1 hz)) (by rw [k3.length_eq];exact hn) (by omega)
   exact ⟨c2,b,q1,q2,q3.trans k3⟩
  ·have hB:lJ (n:Int) cmp n (c,(bs:Int))=some (.exit (c,(bs:Int))):=by
    unfold lJ
    dsimp only
    rw [agY (by omega),agW]
   rw [hB]
   exact ⟨c,_,rfl,hR.asc hb (by omega), .refl _⟩
theorem SQ (h:DC lt S) (hc:qz cmp lt S) {n:Nat} (hn2:n<=100000000) {l:List α} (hS : ∀ z∈l,S z) (hn:l.length=n) : ∃ r,D7 n l (n:Int) cmp=some r/\fT lt r/\r.Perm l:=by
 obtain ⟨P,R,b,q1,q2,q3,q4⟩:=Vo h hc hn2 fuel [] l .nil hS hn (by unfold fuel;omega)
 rw [ag0] at q1 q4
 have hl:=q4.length_eq
 rw [ag3,hn] at hl
 have hS' : ∀ z∈P++R,S z:=fun z hz=>hS z (q4.mem_iff.1 hz)
 obtain ⟨M,k1,k2,k3⟩:=Gu h hc (n:=n) (by omega) (P:=P) (M:=R) (Q:=[]) (fun z hz=>hS' z (by simp [hz])) (by rw [ahs,ag3];omega)
 rw [show P.length+R.length=n by omega,ahs,ahs] at k1
 have hM:M.length=R.length:=k3.length_eq
 obtain ⟨c,b2,w1,w2,w3⟩:=Vw h hc hn2 fuel 20 (P++M) (by omega) (by omega) (q2.rn (.last (by omega) k2)) (fun z hz=>by
  rcases ahl.1 hz with hz|hz
  ·exact hS' z (by simp [hz])
  ·exact hS' z (by simp [k3.mem_iff.1 hz])) (by rw [ag3];omega) (by unfold fuel;omega)
 refine ⟨c,?_,w2,(w3.trans (k3.append_left P)).trans q4⟩
 unfold D7
 simp only [aho,ahB] at q1
 rw [show ((0:Nat):Int)=0 from rfl,show ((20:Nat):Int)=20 from rfl] at q1
 rw [show ((20:Nat):Int)=20 from rfl] at w1
 rw [q1,agU]
 unfold v_
 dsimp only
 rw [k1,agU,w1];rfl
theorem TA (h:DC lt S) (hc:qz cmp lt S) {n:Nat} (hn2:n<=100000000) {l:List α} (hS : ∀ z∈l,S z) (hn:l.length=n) : ∃ r,Dl n l cmp=some r/\fT lt r/\r.Perm l:=by
 obtain ⟨r,h1,h2,h3⟩:=SQ h hc hn2 hS hn
 refine ⟨r,?_,h2,h3⟩
 unfold Dl
 rw [h1];rfl
end
theorem Qg {s:ByteArray} : ∀ {G:List bL}, ik s G=none -> ∀ g∈G,s≠dP g.f.row
 | [],_,_,h=>by cases h
 | g0::G,h,g,hg=>by
  unfold ik at h
  by_cases e:s=dP g0.f.row
  ·rw [if_pos e] at h;cases h
  ·rw [if_neg e] at h
   cases hr:ik s G with
   | none =>
    rcases aha.1 hg with rfl|hg
    ·exact e
    ·exact Qg hr g hg
   | some j=>rw [hr] at h;cases h
theorem aad {G:List bL} (h:G.Pairwise fun a b=>dP a.f.row≠dP b.f.row) (f:aj):(jq G f).Pairwise fun a b=>dP a.f.row≠dP b.f.row:=by
 unfold jq
 cases aL f.valid with
 | false=>exact h
 | true =>
  rw [agX]
  cases hf:ik (dP f.row) G with
  | none =>
   show (G++[(⟨f,[f.valid]⟩:bL)]).Pairwise _
   refine List.pairwise_append.2 ⟨h,by simp,fun a ha b hb=>?_⟩
   rw [ahz.1 hb]
   exact fun e=>Qg hf a ha e.symm
  | some i =>
   show (match G[i]? with|some g=>G.set i (⟨g.f,g.ps++[f.valid]⟩:bL)|none=>G).Pairwise _
   cases hg:G[i]? with
   | none=>exact h
   | some g =>
    show (G.set i (⟨g.f,g.ps++[f.valid]⟩:bL)).Pairwise _
    have hk:(G.set i (⟨g.f,g.ps++[f.valid]⟩:bL)).map (fun a=>dP a.f.row)=G.map fun a=>dP a.f.row:=by
     rw [List.map_set]
     have:(G.map fun a=>dP a.f.row)[i]?=some (dP g.f.row):=by rw [ahg,hg];rfl
     apply List.ext_getElem?
     intro j
     by_cases e:i=j
     ·subst e
      have hlt:=(agV.1 this).1
      rw [ahc hlt,this]
     ·rw [ahd e]
    have hp : ∀ l:List bL,(l.map fun a=>dP a.f.row).Pairwise (fun a b=>a≠b)↔l.Pairwise fun a b=>dP a.f.row≠dP b.f.row:=fun l=>List.pairwise_map
    rw [<- hp,hk,hp]
    exact h
theorem aa_ (l:List aj):(eT l).Pairwise fun a b=>dP a.f.row≠dP b.f.row:=by
 have : ∀ (l:List aj) (G:List bL),(G.Pairwise fun a b=>dP a.f.row≠dP b.f.row)->(l.foldl jq G).Pairwise fun a b=>dP a.f.row≠dP b.f.row:=by
  intro l
  induction l with
  | nil=>intro G h;exact h
  | cons f l ih=>intro G h;exact ih _ (aad h f)
 exact this l [] List.Pairwise.nil
theorem Yd (l:List aj):((eT l).map fun g=>(⟨g.f.row,g.ps⟩:aa)).Pairwise fun a b=>a.row≠b.row:=by
 rw [List.pairwise_map]
 refine (aa_ l).imp ?_
 intro a b h e
 exact h (by show dP a.f.row=dP b.f.row;rw [show a.f.row=b.f.row from e])
def acQ (a b:aa):Bool:=decide (jw a b<0)
theorem Zz {α:Type} {R:α->α->Prop} (hs : ∀ a b,R a b->R b a) : ∀ {l:List α}, l.Pairwise R -> ∀ a∈l, ∀ b∈l,a≠b->R a b
 | [],_,a,ha,_,_,_=>by cases ha
 | x::l,h,a,ha,b,hb,hne=>by
  obtain ⟨h1,h2⟩:=ahP.1 h
  rcases aha.1 ha with ea|ha
  ·rcases aha.1 hb with eb|hb
   ·exact absurd (ea.trans eb.symm) hne
   ·rw [ea];exact h1 b hb
  ·rcases aha.1 hb with eb|hb
   ·rw [eb];exact hs _ _ (h1 a ha)
   ·exact Zz hs h2 a ha b hb hne
theorem ZB {X:List aa} (hd:X.Pairwise fun a b=>a.row≠b.row):DC acQ (fun x=>x∈X):=by
 refine ⟨fun x _=>?_,fun x y z _ _ _ h1 h2=>?_,fun x y hx hy h1 h2=>?_⟩
 ·unfold acQ jw
  rw [tCr_.refl];rfl
 ·exact agZ (tCr_.trans _ _ _ (ahm h1) (ahm h2))
 ·have h1 : ¬ bS x.row y.row<0:=of_decide_eq_false h1
  have h2 : ¬ bS y.row x.row<0:=of_decide_eq_false h2
  have hz:bS x.row y.row=0:=by
   have:=tCr_.anti x.row y.row
   have:=tCr_.anti y.row x.row
   omega
  have hrow:=tCr_.zero _ _ hz
  refine Classical.byContradiction fun hne=>?_
  exact Zz (R:=fun a b:aa=>a.row≠b.row) (fun _ _ h e=>h e.symm) hd x hx y hy hne hrow
theorem Uf (X:List aa):fT acQ (qZ jw X):=by
 refine (MF (c:=jw) (fun a b d h1 h2=>?_) (fun a b h=>?_) X).imp ?_
 ·have:=tCr_.anti
  by_cases e1:bS a.row b.row=0
  ·have:=tCr_.zero _ _ e1;show bS a.row d.row<=0;rw [this];exact h2
  ·by_cases e2:bS b.row d.row=0
   ·have:=tCr_.zero _ _ e2;show bS a.row d.row<=0;rw [<- this];exact h1
   ·exact Int.le_of_lt (tCr_.trans _ _ _ (show bS a.row b.row<0 by have:bS a.row b.row<=0:=h1;omega) (show bS b.row d.row<0 by have:bS b.row d.row<=0:=h2;omega))
 ·have:=tCr_.anti b.row a.row
  show bS b.row a.row<=0
  have h : ¬ bS a.row b.row<0:=h
  have h3:=tCr_.anti a.row b.row
  omega
 ·intro a b h
  have h:bS a.row b.row<=0:=h
  refine agY ?_
  show ¬ bS b.row a.row<0
  have:=tCr_.anti b.row a.row
  omega
theorem aae (X:List aa) (hr : ∀ s∈X,s.row.length<=4000000000000):qz Cj acQ (fun x=>x∈X):=fun x y hx hy=>⟨_,Yl x y (hr x hx) (hr y hy),rfl⟩
theorem XW {X:List aa} (hd:X.Pairwise fun a b=>a.row≠b.row) (hl:X.length<=100000000) (hr : ∀ s∈X,s.row.length<=4000000000000):Dl X.length X Cj=some (qZ jw X):=by
 obtain ⟨r,h1,h2,h3⟩:=TA (ZB hd) (aae X hr) hl (fun z hz=>hz) rfl
 rw [h1,Mh (ZB hd) (fun x hx=>h3.mem_iff.1 hx) h2 (Uf X) (h3.trans (wN jw X).symm)]
theorem Wh (v:Nat) (X:List aa):dC ae 2 v X = .row v ((X.map kT).map uB) 2:=by
 unfold dC
 rw [List.map_map,List.map_map]
 rfl
theorem WO (v:Nat) {X:List aa} {n:Nat} (hn:X.length=n) (hd:X.Pairwise fun a b=>a.row≠b.row) (hl:n<=100000000) (hr : ∀ s∈X,s.row.length<=4000000000000):Run Tryz.prog 154 [.row v ((X.map kT).map uB) 2] [.one (.sl 0 v 0 n), .one (.c (.fn 155 []))] [.row v (((qZ jw X).map kT).map uB) 2] (.tup []):=by
 subst hn
 have:=RD (n:=X.length) (a_x:=X) (a_cmp:=Cj) (v:=v) (F_a_cmp:=155) (caps_a_cmp:=[]) (fun y0 y1 r h=>Ww h) (XW hd hl hr)
 rw [Wh,Wh] at this
 exact this
theorem acX {P:Program} {ti:TI} {N:Nat} {ds:List (Option Tmp)} {K:Tm->List Ob->Prop} {o:Oper} {rest:List Oper} {T:Tm} {L L':List Ob} {x y:Operand} {t tx E:TypeId} {es xs:List (List AC)} {i n k by_ d:Nat} {vx:AV} (hd:o.dst=some d) (hN:Nat.blt d N=true) (hg:kJ ds T o.guard=some true)
  (ho:o.op = .call { callee := .builtin .append,args := #[x,y],argTypes := #[t,tx] }) (hx:look T x=some (.one (.own es i))) (hy:look T y=some vx) (hl:fZ vx=some xs) (ht:ti.elem t=some E) (hsz:ti.size E=some k) (hb:ti.bytes E=some by_) (hL:L[i]?=some (.spare n k))
  (hφ:(ti.elem tx).isSome/\es.length=n/\(ti.zok E=true/\0<k)/\(∀ e∈xs,e.length=k)/\(n+xs.length)*by_<=140737488355328/\n+xs.length<=140737488355328) (hL':L.set i (.spare (n+xs.length) k)=L')
  (h:aQ P ti N ds K rest ((d, .one (.own (es++xs) i))::T) L'):aQ P ti N ds K (o::rest) T L :=
 bq hd hN hg (v := .one (.own (es++xs) i)) (L':=L.set i (.spare (n+xs.length) k)) (φ:=(ti.elem tx).isSome/\k=k/\es.length=n/\(ti.zok E=true/\0<k)/\(∀ e∈xs,e.length=k)/\(n+xs.length)*by_<=140737488355328/\n+xs.length<=140737488355328)
  (by rw [ho];simp [He,hx,hy,Bw,hl,ht,hsz,hb,hL]) ⟨hφ.1,rfl,hφ.2⟩ (by rw [hL'];exact h)
set_option maxHeartbeats 8000000 in
theorem WQ (l:List aj) (hl:l.length<=300) (h : ∀ f∈l,f.row.length<=1000 /\ ∀ v∈f.row,VOK v):Pure Tryz.prog 113 [.one (.lst (l.map aJ))] (.val (.one (.lst ((rD l).map ae)))):=by
 refine pa_ dB Tryz.func113 rfl rfl Tryz.ntmps113 (by simp) ?_
 simp only [argT,PV.av,ag6,ag_]
 obtain ⟨n,hn⟩ : ∃ n,l.length=n:=⟨_,rfl⟩
 have hml:(((l.map aJ).length:Nat):Int)=n:=by simp [hn]
 repeat' (first
  | refine st_nil ?_
  | refine aZ rfl rfl rfl rfl ph_ ?_
  | refine bq rfl rfl rfl rfl ph_ ?_
  | refine sS_ rfl rfl rfl ph_ ?_
  | refine bn rfl rfl rfl rfl ph_ ?_
  | refine aW rfl rfl rfl ?_
  | refine sk0_ rfl rfl ?_
  | (refine bQ rfl (fun hb=>?_) (fun hb=>?_)<;>(first|exact (fx_ hb).elim|rw [hb]))
  | refine aw_seq ?_
  | refine aw_region dB _ rfl ?_
  | refine aw_drawn2 bf _ rfl mixed (by decide +kernel) ?_
  | (refine aU rfl (fun hb=>?_) (fun hb=>?_)<;>(try exact (fx_ hb).elim))
  | refine aw_block ?_
  | refine aw_exit ?_
  | refine aw_ret ?_
  | refine aw_skip ?_
  | (refine jQ rfl rfl rfl rfl rfl Gq ?_))
 refine sN (fun i:Nat=>[(0, .one (.c (.lst (l.map aJ)))),(3, .one (.mp 0)),(4,Qz (eT (l.take i))),(11, .one (.c (.lst (l.map aJ)))),(12, .one (.c (.int .i64 n))),(13, .one (.c (.int .i64 i)))]) (fun i=>Qv (eT (l.take i))) (fun i=>i<=n) (fun i=>n-i) 0 (by omega) (fun _ _=>ahe _)
  (fm_ ⟨rfl,rfl,rfl,rfl,jE hml,rfl,trivial⟩ [] rfl ⟨trivial,(by cases (eT (l.take 0))<;>first|(show 0<_;simp [Qv,yP])|skip),yc _,trivial,trivial,trivial,trivial⟩ (qV _)) ?_
 intro i hi
 have hgl:=Bu (l.take i)
 have hgm:=Iw (l.take i)
 rw [ahK] at hgl
 by_cases hlt:i<n
 ·obtain ⟨f,hx⟩:=gol_ (show i<l.length by omega)
  have hfm:=ag1 hx
  have hN:decide ((i:Int)<n)=true:=by simp;exact hlt
  have hnx:eT (l.take (i+1))=jq (eT (l.take i)) f:=by rw [nN hx];exact Rt _ _
  have hpv:=CK (Bj f.valid)
  have hky:=Xh f.row (h f hfm).1 (h f hfm).2
  have hidx:(l.map aJ)[((i:Nat):Int).toNat]?=some (aJ f):=Ow hx
  generalize eT (l.take i)=G at hgl hgm hnx
  unfold jq at hnx
  obtain ⟨row,lo,hi2⟩:=f
  dsimp only at hnx hky hpv
  have hcnt:l.length<=300:=hl
  repeat' (first
   | refine st_nil ?_
   | refine aZ rfl rfl rfl rfl ph_ ?_
   | refine bq rfl rfl rfl rfl ph_ ?_
   | refine sS_ rfl rfl rfl ph_ ?_
   | refine bn rfl rfl rfl rfl ph_ ?_
   | refine aW rfl rfl rfl ?_
   | refine sk0_ rfl rfl ?_
   | (refine bQ rfl (fun hb=>?_) (fun hb=>?_)<;>(first|exact (fx_ hb).elim|rw [hb]))
   | refine aw_seq ?_
   | (refine aU rfl (fun hb=>?_) (fun hb=>?_)<;>(try exact (fx_ hb).elim))
   | refine aw_block ?_
   | refine aw_exit ?_
   | refine aw_ret ?_
   | refine aw_skip ?_)
  refine aw_region dB _ rfl ?_
  repeat' (first
   | refine st_nil ?_
   | rw [hN]
   | refine aZ rfl rfl rfl rfl ph_ ?_
   | (refine CB rfl rfl rfl rfl rfl rfl rfl rfl hidx ?_ ?_; · exact ⟨by omega,rfl⟩)
   | refine bq rfl rfl rfl rfl ph_ ?_
   | refine sS_ rfl rfl rfl ph_ ?_
   | refine bn rfl rfl rfl rfl ph_ ?_
   | refine aW rfl rfl rfl ?_
   | refine sk0_ rfl rfl ?_
   | (refine bQ rfl (fun hb=>?_) (fun hb=>?_)<;>(first|exact (fx_ hb).elim|rw [hb]))
   | refine aw_seq ?_
   | (refine aU rfl (fun hb=>?_) (fun hb=>?_)<;>(try exact (fx_ hb).elim))
   | refine aw_block ?_
   | refine aw_exit ?_
   | refine aw_ret ?_
   | refine aw_skip ?_)
  refine aw_region dB _ rfl ?_
  repeat' (first
   | refine st_nil ?_
   | (refine X8 rfl rfl rfl rfl rfl rfl rfl ?_)
   | refine aZ rfl rfl rfl rfl ph_ ?_
   | (refine CB rfl rfl rfl rfl rfl rfl rfl rfl hidx ?_ ?_; · exact ⟨by omega,rfl⟩)
   | refine bq rfl rfl rfl rfl ph_ ?_
   | refine sS_ rfl rfl rfl ph_ ?_
   | refine bn rfl rfl rfl rfl ph_ ?_
   | refine aW rfl rfl rfl ?_
   | refine sk0_ rfl rfl ?_
   | (refine bQ rfl (fun hb=>?_) (fun hb=>?_)<;>(first|exact (fx_ hb).elim|rw [hb]))
   | refine aw_seq ?_
   | (refine aU rfl (fun hb=>?_) (fun hb=>?_)<;>(try exact (fx_ hb).elim))
   | refine aw_block ?_
   | refine aw_exit ?_
   | refine aw_ret ?_
   | refine aw_skip ?_)
  refine abM (A:=Qv G) rfl (by simp only [ag6,ag_,aal];simp only [Md,Ns,if_true,List.drop_zero];rfl) ?_
  cases hv:aL ⟨lo,hi2⟩ with
  | false =>
   rw [hv,agW] at hnx
   rw [hv] at hpv
   repeat' (first
    | refine st_nil ?_
    | rw [hN]
    | refine aZ rfl rfl rfl rfl ph_ ?_
    | (refine CB rfl rfl rfl rfl rfl rfl rfl rfl hidx ?_ ?_; · exact ⟨by omega,rfl⟩)
    | refine bq rfl rfl rfl rfl ph_ ?_
    | refine sS_ rfl rfl rfl ph_ ?_
    | refine bn rfl rfl rfl rfl ph_ ?_
    | refine aW rfl rfl rfl ?_
    | refine sk0_ rfl rfl ?_
    | refine dG rfl rfl rfl rfl hpv rfl ?_
    | refine dG rfl rfl rfl rfl hky rfl ?_
    | (refine bQ rfl (fun hb=>?_) (fun hb=>?_)<;>(first|exact (fx_ hb).elim|rw [hb]))
    | refine aw_seq ?_
    | refine aw_region dB _ rfl ?_
    | refine aw_drawn2 bf _ rfl mixed (by decide +kernel) ?_
    | (refine aU rfl (fun hb=>?_) (fun hb=>?_)<;>(try exact (fx_ hb).elim))
    | refine aw_block ?_
    | refine aw_exit ?_
    | refine aw_ret ?_
    | refine aw_skip ?_)
   exact ⟨i+1,by omega,by omega,by rw [hnx];exact fm_ ⟨rfl,rfl,rfl,rfl,rfl,jE (ko (by omega) (by omega)),trivial⟩ [.dead] rfl ⟨trivial,(by cases G<;>first|(show 0<_;simp [Qv,yP])),yc _,trivial,trivial,trivial,trivial⟩ (qV _)⟩
  | true =>
   rw [hv,agX] at hnx
   rw [hv] at hpv
   cases hf:ik (dP row) G with
   | some j =>
    have hjl:=JF hf
    obtain ⟨g,hg⟩:=gol_ hjl
    rw [hf] at hnx
    dsimp only at hnx
    rw [hg] at hnx
    dsimp only at hnx
    have hGn:G≠[]:=by intro e;rw [e] at hjl;simp at hjl
    have hgl2:=(hgm g (ag1 hg)).1
    rw [ahK] at hgl2
    rw [xe hGn,yR hGn]
    have ej:0+((j:Nat):Int).toNat=j:=by simp
    have hgj:(iZ 0 G)[0+((j:Nat):Int).toNat]?=some [.c (dW g.f.row), .own (AB g.ps) (4+3*(0+j))]:=by rw [ej];exact Qt G 0 j g hg
    have hLl:=qJ hGn
    have hLj:(yP G++[Ob.dead])[4+3*(0+j)]?=some (.spare g.ps.length 2):=by
     rw [ag9 (by omega)]
     rw [show 4+3*(0+j)=3*j+1+1+1+1 by omega]
     exact abp hg
    have hset:(yP G++[Ob.dead]).set (4+3*(0+j)) (.spare (g.ps.length+1) 2) = .map (vz 0 G) :: .dead::Hm G :: .row (127+65536*G.length) (iZ 0 G) 2::(CQ (G.set j ⟨g.f,g.ps++[⟨lo,hi2⟩]⟩)++[.dead]):=by
     rw [List.set_append_left _ _ (by omega)]
     have e6:g.ps.length+1=(g.ps++[(⟨lo,hi2⟩:aI)]).length:=by simp
     rw [e6,show 4+3*(0+j)=3*j+1+1+1+1 by omega, <- acL (g.ps++[(⟨lo,hi2⟩:aI)]) hg]
     rfl
    have hpl:(AB g.ps).length=g.ps.length:=by simp [AB]
    have hstr:(.map (vz 0 G) :: .dead::Hm G :: .row (127+65536*G.length) (iZ 0 G) 2::(CQ (G.set j ⟨g.f,g.ps++[⟨lo,hi2⟩]⟩)++[Ob.dead])).set 3 (.row (127+65536*G.length) ((iZ 0 G).set (0+((j:Nat):Int).toNat) [.c (dW g.f.row), .own (AB g.ps++[[.int .i64 lo, .int .i64 hi2]]) (4+3*(0+j))]) 2)=yP (G.set j ⟨g.f,g.ps++[⟨lo,hi2⟩]⟩)++[.dead]:=by
     have e7:AB g.ps++[[.int .i64 lo, .int .i64 hi2]]=AB (g.ps++[⟨lo,hi2⟩]):=by simp [AB,bE]
     rw [ej,e7,QB G 0 j g _ hg]
     unfold yP
     rw [acZ _ hg,abu hg,List.length_set]
     rfl
    have hG2:G.set j ⟨g.f,g.ps++[⟨lo,hi2⟩]⟩≠[]:=by intro e;have:=congrArg List.length e;simp at this;exact hGn this
    repeat' (first
     | refine st_nil ?_
     | (refine NV rfl rfl rfl rfl rfl rfl rfl (e:=[.c (dW g.f.row), .own (AB g.ps) (4+3*(0+j))]) (by exact hgj) rfl ?_)
     | (refine acX (k:=2) (by_:=16) rfl rfl rfl rfl rfl rfl rfl rfl rfl rfl (by exact hLj) ⟨rfl,hpl,⟨rfl,by decide⟩,by intro e he;simp at he;subst he;rfl,by show (_+1)*16<=_;omega,by show _+1<=_;omega⟩ (by exact hset) ?_)
     | (refine FP rfl rfl rfl rfl rfl rfl (e:=[.c (dW g.f.row), .own (AB g.ps) (4+3*(0+j))]) (by exact hgj) ⟨ag' _,rfl⟩ (by exact hstr) ?_)
     | (refine aZ rfl rfl rfl rfl ?_ ?_; · (repeat' (first|exact trivial|rfl|exact ag5 rfl|omega|(intro e he;simp at he;subst he;rfl)|apply And.intro)))
     | (refine bq rfl rfl rfl rfl ?_ ?_; · (repeat' (first|exact trivial|rfl|exact ag5 rfl|omega|(intro e he;simp at he;subst he;rfl)|apply And.intro)))
     | (refine sS_ rfl rfl rfl ?_ ?_; · (repeat' (first|exact trivial|rfl|exact ag5 rfl|omega|(intro e he;simp at he;subst he;rfl)|apply And.intro)))
     | (refine bn rfl rfl rfl rfl ?_ ?_; · (repeat' (first|exact trivial|rfl|exact ag5 rfl|omega|(intro e he;simp at he;subst he;rfl)|apply And.intro)))
     | refine aW rfl rfl rfl ?_
     | refine sk0_ rfl rfl ?_
     | refine dG rfl rfl rfl rfl hpv rfl ?_
     | refine dG rfl rfl rfl rfl hky rfl ?_
     | (refine bQ rfl (fun hb=>?_) (fun hb=>?_)<;>(first|exact (fx_ hb).elim|rw [hb]))
     | refine aw_seq ?_
     | refine aw_region dB _ rfl ?_
     | refine aw_drawn2 bf _ rfl mixed (by decide +kernel) ?_
     | (refine aU rfl (fun hb=>?_) (fun hb=>?_)<;>(try exact (fx_ hb).elim))
     | refine aw_block ?_
     | refine aw_exit ?_
     | refine aw_ret ?_
     | refine aw_skip ?_
     | (refine gW rfl rfl rfl rfl rfl (Zq dB hf rfl rfl rfl rfl rfl rfl) ?_))
    exact ⟨i+1,by omega,by omega,by rw [hnx,xe hG2,yR hG2,List.length_set];exact fm_ ⟨rfl,rfl,rfl,rfl,rfl,jE (ko (by omega) (by omega)),trivial⟩ [.dead] rfl ⟨trivial,(by show 0<_;rw [qJ hG2];omega),(by show 3<_;rw [qJ hG2,List.length_set];omega),trivial,trivial,trivial,trivial⟩ (by rw [<- xe hG2];exact qV _)⟩
   | none =>
    rw [hf] at hnx
    dsimp only at hnx
    cases hGe:G with
    | nil =>
     rw [hGe] at hf hnx
     repeat' (first
      | refine st_nil ?_
      | (refine PS rfl rfl rfl rfl (JI (G:=[]) ⟨⟨row,⟨lo,hi2⟩⟩,[⟨lo,hi2⟩]⟩ dB hf rfl rfl rfl rfl rfl rfl rfl) ?_)
      | (refine jQ rfl rfl rfl rfl rfl (J4 (k:=2) (E:=127) (cs:=[.c (dW row), .emp]) dB rfl rfl (by decide) (by decide) rfl (by decide) rfl rfl) ?_)
      | (refine jQ rfl rfl rfl rfl rfl (QT (E:=127) (k:=2) (by_:=48) (xs:=[[.c (dW row), .emp]]) dB rfl rfl rfl ⟨rfl,_,rfl,ag5 rfl⟩ rfl (by decide) rfl rfl rfl (by decide) (ag5 rfl) (ag5 rfl) (ag5 rfl)) ?_)
      | (refine NV rfl rfl rfl rfl rfl rfl rfl (e:=[.c (dW row), .emp]) (by rfl) rfl ?_)
      | (refine FP rfl rfl rfl rfl rfl rfl (e:=[.c (dW row), .emp]) (by rfl) ⟨ag' _,rfl⟩ rfl ?_)
      | (refine aZ rfl rfl rfl rfl ?_ ?_; · (repeat' (first|exact trivial|rfl|exact ag5 rfl|omega|(intro e he;simp at he;subst he;rfl)|decide|(simp only [ahf,aho];omega)|(simp only [ahf,aho,ahB];decide)|apply And.intro)))
      | (refine bq rfl rfl rfl rfl ?_ ?_; · (repeat' (first|exact trivial|rfl|exact ag5 rfl|omega|(intro e he;simp at he;subst he;rfl)|decide|(simp only [ahf,aho];omega)|(simp only [ahf,aho,ahB];decide)|apply And.intro)))
      | (refine sS_ rfl rfl rfl ?_ ?_; · (repeat' (first|exact trivial|rfl|exact ag5 rfl|omega|(intro e he;simp at he;subst he;rfl)|decide|(simp only [ahf,aho];omega)|(simp only [ahf,aho,ahB];decide)|apply And.intro)))
      | (refine bn rfl rfl rfl rfl ?_ ?_; · (repeat' (first|exact trivial|rfl|exact ag5 rfl|omega|(intro e he;simp at he;subst he;rfl)|decide|(simp only [ahf,aho];omega)|(simp only [ahf,aho,ahB];decide)|apply And.intro)))
      | refine aW rfl rfl rfl ?_
      | refine sk0_ rfl rfl ?_
      | refine dG rfl rfl rfl rfl hpv rfl ?_
      | refine dG rfl rfl rfl rfl hky rfl ?_
      | (refine bQ rfl (fun hb=>?_) (fun hb=>?_)<;>(first|exact (fx_ hb).elim|rw [hb]))
      | refine aw_seq ?_
      | refine aw_region dB _ rfl ?_
      | refine aw_drawn2 bf _ rfl mixed (by decide +kernel) ?_
      | (refine aU rfl (fun hb=>?_) (fun hb=>?_)<;>(try exact (fx_ hb).elim))
      | refine aw_block ?_
      | refine aw_exit ?_
      | refine aw_ret ?_
      | refine aw_skip ?_
      | (refine gW rfl rfl rfl rfl rfl (Im (G:=[]) dB hf rfl rfl rfl rfl rfl rfl) ?_))
     exact ⟨i+1,by omega,by omega,by rw [hnx];exact fm_ ⟨rfl,rfl,rfl,rfl,rfl,jE (ko (by omega) (by omega)),trivial⟩ [] rfl ⟨trivial,(by show 0<5;omega),yc _,trivial,trivial,trivial,trivial⟩ (qV _)⟩
    | cons g0 G0 =>
     have hGn:G≠[]:=by rw [hGe];simp
     rw [<- hGe]
     rw [xe hGn,yR hGn]
     have htl:=Wd hGn
     obtain ⟨gn,hgn⟩ : ∃ gn:bL,gn=⟨⟨row,⟨lo,hi2⟩⟩,[⟨lo,hi2⟩]⟩:=⟨_,rfl⟩
     have hgk:dP gn.f.row=dP row:=by rw [hgn]
     rw [<- hgn] at hnx
     have hgbe:gbG gn=Ob.row (127+65536) [[SV.c (dW row),SV.emp]] 2:=by rw [hgn];rfl
     have hLa:(Ob.map (vz 0 (G++[gn]))::Ob.dead::Hm G::Ob.row (127+65536*G.length) (iZ 0 G) 2::(CQ G++[Ob.dead])).length=3+3*G.length:=by simp;omega
     have hq:((Ob.map (vz 0 (G++[gn]))::Ob.dead::Hm G::Ob.row (127+65536*G.length) (iZ 0 G) 2::(CQ G++[Ob.dead]))++[Ob.row (127+65536) [[SV.c (dW row),SV.emp]] 2])[3+3*G.length]?=some (Ob.row (127+65536) [[SV.c (dW row),SV.emp]] 2):=by
      rw [ag2 (by rw [hLa];exact ag' _),hLa,Nat.sub_self];rfl
     have hsrc:Qp ((Ob.map (vz 0 (G++[gn]))::Ob.dead::Hm G::Ob.row (127+65536*G.length) (iZ 0 G) 2::(CQ G++[Ob.dead]))++[Ob.row (127+65536) [[SV.c (dW row),SV.emp]] 2]) (.one (.sl (3+3*G.length) (127+65536) 0 1))=some [[SV.c (dW row),SV.emp]]:=by
      simp only [Qp,hq];rfl
     have hsok:KP afI ((Ob.map (vz 0 (G++[gn]))::Ob.dead::Hm G::Ob.row (127+65536*G.length) (iZ 0 G) 2::(CQ G++[Ob.dead]))++[Ob.row (127+65536) [[SV.c (dW row),SV.emp]] 2]) 2 124 (.one (.sl (3+3*G.length) (127+65536) 0 1)):=⟨rfl,[[SV.c (dW row),SV.emp]],hq,ag' _⟩
     have hL2:((Ob.map (vz 0 (G++[gn]))::Ob.dead::Hm G::Ob.row (127+65536*G.length) (iZ 0 G) 2::(CQ G++[Ob.dead]))++[Ob.row (127+65536) [[SV.c (dW row),SV.emp]] 2]).set 3 (Ob.row (127+65536*G.length+65536) (iZ 0 G++[[SV.c (dW row),SV.emp]]) 2)=Ob.map (vz 0 (G++[gn]))::Ob.dead::Hm G::Ob.row (127+65536*G.length+65536) (iZ 0 G++[[SV.c (dW row),SV.emp]]) 2::(CQ G++[Ob.dead,Ob.row (127+65536) [[SV.c (dW row),SV.emp]] 2]):=by simp
     have hL2l:(Ob.map (vz 0 (G++[gn]))::Ob.dead::Hm G::Ob.row (127+65536*G.length+65536) (iZ 0 G++[[SV.c (dW row),SV.emp]]) 2::(CQ G++[Ob.dead,Ob.row (127+65536) [[SV.c (dW row),SV.emp]] 2])).length=4+3*G.length:=by simp;omega
     have eG:0+((G.length:Nat):Int).toNat=G.length:=by simp
     have hgG:(iZ 0 G++[[SV.c (dW row), .emp]])[0+((G.length:Nat):Int).toNat]?=some [SV.c (dW row),SV.emp]:=by
      rw [eG,ag2 (by rw [uW];exact ag' _),uW];simp
     have e10:(G++[gn]).length=G.length+1:=by simp
     have e9:127+65536*(G++[gn]).length=127+65536*G.length+65536:=by rw [e10];omega
     have hG2:G++[gn]≠[]:=by simp
     have hstr:((Ob.map (vz 0 (G++[gn]))::Ob.dead::Hm G::Ob.row (127+65536*G.length+65536) (iZ 0 G++[[SV.c (dW row),SV.emp]]) 2::(CQ G++[Ob.dead,Ob.row (127+65536) [[SV.c (dW row),SV.emp]] 2]))++[Ob.spare 1 2]).set 3 (Ob.row (127+65536*G.length+65536) ((iZ 0 G++[[SV.c (dW row), .emp]]).set (0+((G.length:Nat):Int).toNat) [SV.c (dW row),SV.own [[.int .i64 lo, .int .i64 hi2]] (Ob.map (vz 0 (G++[gn]))::Ob.dead::Hm G::Ob.row (127+65536*G.length+65536) (iZ 0 G++[[SV.c (dW row),SV.emp]]) 2::(CQ G++[Ob.dead,Ob.row (127+65536) [[SV.c (dW row),SV.emp]] 2])).length]) 2)=yP (G++[gn]):=by
      have e8:(iZ 0 G++[[SV.c (dW row), .emp]]).set G.length [SV.c (dW row),SV.own [[.int .i64 lo, .int .i64 hi2]] (4+3*G.length)]=iZ 0 (G++[gn]):=by
       rw [Np,List.set_append_right _ _ (by rw [uW];exact ag' _),uW,hgn]
       simp [AB,bE]
      rw [eG,hL2l,e8]
      unfold yP
      rw [ZU gn hGn,aa' gn hGn,e9,hgbe,hgn]
      simp [bxG]
     repeat' (first
      | refine st_nil ?_
      | (refine aZ rfl rfl rfl rfl ?_ ?_; · (repeat' (first|exact trivial|rfl|exact ag5 rfl|omega|(intro e he;simp at he;subst he;rfl)|decide|(show _<_+1;omega)|apply And.intro)))
      | (refine bq rfl rfl rfl rfl ?_ ?_; · (repeat' (first|exact trivial|rfl|exact ag5 rfl|omega|(intro e he;simp at he;subst he;rfl)|decide|(show _<_+1;omega)|apply And.intro)))
      | (refine sS_ rfl rfl rfl ?_ ?_; · (repeat' (first|exact trivial|rfl|exact ag5 rfl|omega|(intro e he;simp at he;subst he;rfl)|decide|(show _<_+1;omega)|apply And.intro)))
      | (refine bn rfl rfl rfl rfl ?_ ?_; · (repeat' (first|exact trivial|rfl|exact ag5 rfl|omega|(intro e he;simp at he;subst he;rfl)|decide|(show _<_+1;omega)|apply And.intro)))
      | refine aW rfl rfl rfl ?_
      | refine sk0_ rfl rfl ?_
      | refine dG rfl rfl rfl rfl hpv rfl ?_
      | refine dG rfl rfl rfl rfl hky rfl ?_
      | (refine bQ rfl (fun hb=>?_) (fun hb=>?_)<;>(first|exact (fx_ hb).elim|rw [hb]))
      | refine aw_seq ?_
      | refine aw_region dB _ rfl ?_
      | refine aw_drawn2 bf _ rfl mixed (by decide +kernel) ?_
      | (refine aU rfl (fun hb=>?_) (fun hb=>?_)<;>(try exact (fx_ hb).elim))
      | refine aw_block ?_
      | refine aw_exit ?_
      | refine aw_ret ?_
      | refine aw_skip ?_
      | (refine gW rfl rfl rfl rfl rfl (Im (G:=G) dB hf rfl rfl rfl rfl rfl rfl) ?_))
     refine PS (L':=(Ob.map (vz 0 (G++[gn]))::Ob.dead::Hm G::Ob.row (127+65536*G.length) (iZ 0 G) 2::(CQ G++[Ob.dead]))) rfl rfl rfl rfl (JI (G:=G) (id:=0) gn dB hf hgk rfl rfl rfl rfl rfl rfl) ?_
     repeat' (first
      | refine st_nil ?_
      | (refine PS (L':=(Ob.map (vz 0 (G++[gn]))::Ob.dead::Hm G::Ob.row (127+65536*G.length) (iZ 0 G) 2::(CQ G++[Ob.dead]))) rfl rfl rfl rfl (JI (G:=G) (id:=0) gn dB hf hgk rfl rfl rfl rfl rfl rfl) ?_)
      | (refine jQ (v := .one (.sl (3+3*G.length) (127+65536) 0 1)) (L':=(Ob.map (vz 0 (G++[gn]))::Ob.dead::Hm G::Ob.row (127+65536*G.length) (iZ 0 G) 2::(CQ G++[Ob.dead]))++[Ob.row (127+65536) [[SV.c (dW row),SV.emp]] 2]) rfl rfl rfl rfl rfl (by rw [<- hLa];exact J4 (k:=2) (E:=127) (cs:=[SV.c (dW row),SV.emp]) dB rfl rfl (by decide) (by decide) rfl (by decide) rfl rfl) ?_)
      | (refine jQ (v := .one (.sl 3 (127+65536*G.length+65536) 0 (G.length+1))) (L':=(Ob.map (vz 0 (G++[gn]))::Ob.dead::Hm G::Ob.row (127+65536*G.length+65536) (iZ 0 G++[[SV.c (dW row),SV.emp]]) 2::(CQ G++[Ob.dead,Ob.row (127+65536) [[SV.c (dW row),SV.emp]] 2]))) rfl rfl rfl rfl rfl (by rw [<- hL2];exact zJ (k:=2) (by_:=48) (xs:=[[SV.c (dW row),SV.emp]]) dB rfl rfl rfl hsrc hsok rfl (by show (127+65536*G.length)%65536=127;omega) rfl rfl rfl (by decide) (uW G 0) (by show (_+1)*48<=_;omega) (by show _+1<=_;omega)) ?_)
      | (refine NV rfl rfl rfl rfl rfl rfl rfl (e:=[SV.c (dW row),SV.emp]) (by exact hgG) rfl ?_)
      | (refine FP rfl rfl rfl rfl rfl rfl (e:=[SV.c (dW row),SV.emp]) (by exact hgG) ⟨ag' _,rfl⟩ (by exact hstr) ?_)
      | (refine aZ rfl rfl rfl rfl ?_ ?_; · (repeat' (first|exact trivial|rfl|exact ag5 rfl|omega|(intro e he;simp at he;subst he;rfl)|decide|(show _<_+1;omega)|apply And.intro)))
      | (refine bq rfl rfl rfl rfl ?_ ?_; · (repeat' (first|exact trivial|rfl|exact ag5 rfl|omega|(intro e he;simp at he;subst he;rfl)|decide|(show _<_+1;omega)|apply And.intro)))
      | (refine sS_ rfl rfl rfl ?_ ?_; · (repeat' (first|exact trivial|rfl|exact ag5 rfl|omega|(intro e he;simp at he;subst he;rfl)|decide|(show _<_+1;omega)|apply And.intro)))
      | (refine bn rfl rfl rfl rfl ?_ ?_; · (repeat' (first|exact trivial|rfl|exact ag5 rfl|omega|(intro e he;simp at he;subst he;rfl)|decide|(show _<_+1;omega)|apply And.intro)))
      | refine aW rfl rfl rfl ?_
      | refine sk0_ rfl rfl ?_
      | refine dG rfl rfl rfl rfl hpv rfl ?_
      | refine dG rfl rfl rfl rfl hky rfl ?_
      | (refine bQ rfl (fun hb=>?_) (fun hb=>?_)<;>(first|exact (fx_ hb).elim|rw [hb]))
      | refine aw_seq ?_
      | refine aw_region dB _ rfl ?_
      | refine aw_drawn2 bf _ rfl mixed (by decide +kernel) ?_
      | (refine aU rfl (fun hb=>?_) (fun hb=>?_)<;>(try exact (fx_ hb).elim))
      | refine aw_block ?_
      | refine aw_exit ?_
      | refine aw_ret ?_
      | refine aw_skip ?_
      | (refine gW rfl rfl rfl rfl rfl (Im (G:=G) dB hf rfl rfl rfl rfl rfl rfl) ?_))
     exact ⟨i+1,by omega,by omega,by rw [hnx,xe hG2,yR hG2,e9,e10];exact fm_ ⟨rfl,rfl,rfl,rfl,rfl,jE (ko (by omega) (by omega)),trivial⟩ [] (ahs _).symm ⟨trivial,(by show 0<_;rw [qJ hG2];omega),(by show 3<_;rw [qJ hG2,e10];omega),trivial,trivial,trivial,trivial⟩ (by rw [<- xe hG2];exact qV _)⟩
 ·have htk:l.take i=l:=ahy (by omega)
  have hN:decide ((i:Int)<n)=false:=by simp;omega
  rw [htk] at hgl hgm ⊢
  have hgl2:=Bu l
  have hrP:rD l=qZ jw ((eT l).map fun g=>(⟨g.f.row,g.ps⟩:aa)):=rfl
  rw [hrP]
  clear hrP
  have hgm2 : ∀ g∈eT l,g.f.row.length<=1000:=fun g hg=>(h _ (Iw l g hg).2.1).1
  have hgn2:=Yd l
  generalize eT l=G at hgl hgm hgl2 hgm2 hgn2 ⊢
  repeat' (first
   | refine st_nil ?_
   | refine aZ rfl rfl rfl rfl ph_ ?_
   | refine bq rfl rfl rfl rfl ph_ ?_
   | refine sS_ rfl rfl rfl ph_ ?_
   | refine bn rfl rfl rfl rfl ph_ ?_
   | refine aW rfl rfl rfl ?_
   | refine sk0_ rfl rfl ?_
   | (refine bQ rfl (fun hb=>?_) (fun hb=>?_)<;>(first|exact (fx_ hb).elim|rw [hb]))
   | refine aw_seq ?_
   | (refine aU rfl (fun hb=>?_) (fun hb=>?_)<;>(try exact (fx_ hb).elim))
   | refine aw_block ?_
   | refine aw_exit ?_
   | refine aw_ret ?_
   | refine aw_skip ?_)
  refine aw_region dB _ rfl ?_
  repeat' (first
   | refine st_nil ?_
   | rw [hN]
   | refine aZ rfl rfl rfl rfl ph_ ?_
   | (refine CB rfl rfl rfl rfl rfl rfl rfl rfl hidx ?_ ?_; · exact ⟨by omega,rfl⟩)
   | refine bq rfl rfl rfl rfl ph_ ?_
   | refine sS_ rfl rfl rfl ph_ ?_
   | refine bn rfl rfl rfl rfl ph_ ?_
   | refine aW rfl rfl rfl ?_
   | refine sk0_ rfl rfl ?_
   | (refine bQ rfl (fun hb=>?_) (fun hb=>?_)<;>(first|exact (fx_ hb).elim|rw [hb]))
   | refine aw_seq ?_
   | (refine aU rfl (fun hb=>?_) (fun hb=>?_)<;>(try exact (fx_ hb).elim))
   | refine aw_block ?_
   | refine aw_exit ?_
   | refine aw_ret ?_
   | refine aw_skip ?_)
  cases hGe:G with
  | nil =>
   have e0:(qZ jw (([]:List bL).map fun g=>(⟨g.f.row,g.ps⟩:aa))).map ae=[]:=rfl
   rw [e0]
   repeat' (first
    | refine st_nil ?_
    | refine aZ rfl rfl rfl rfl ph_ ?_
    | refine bq rfl rfl rfl rfl ph_ ?_
    | refine sS_ rfl rfl rfl ph_ ?_
    | refine bn rfl rfl rfl rfl ph_ ?_
    | refine aW rfl rfl rfl ?_
    | refine sk0_ rfl rfl ?_
    | refine dG rfl rfl rfl rfl Uy rfl ?_
    | (refine bQ rfl (fun hb=>?_) (fun hb=>?_)<;>(first|exact (fx_ hb).elim|rw [hb]))
    | refine aw_seq ?_
    | refine aw_region dB _ rfl ?_
    | refine aw_drawn2 bf _ rfl mixed (by decide +kernel) ?_
    | (refine aU rfl (fun hb=>?_) (fun hb=>?_)<;>(try exact (fx_ hb).elim))
    | refine aw_block ?_
    | refine aw_exit ?_
    | refine aw_ret ?_
    | refine aw_skip ?_)
   exact bO (bZ rfl (by trivial) rfl)
  | cons g0 G0 =>
   have hGn:G≠[]:=by rw [hGe];simp
   rw [<- hGe,xe hGn,yR hGn]
   refine Tp 3 rfl (JQ G 0) ?_
   have e1:(G.map fun g=>[dW g.f.row,AC.lst (AB g.ps)]).map (List.map SV.c)=((G.map fun g=>(⟨g.f.row,g.ps⟩:aa)).map kT).map uB:=by
    simp only [List.map_map];rfl
   rw [e1]
   obtain ⟨X,hX⟩ : ∃ X:List aa,X=G.map fun g=>⟨g.f.row,g.ps⟩:=⟨_,rfl⟩
   have hXl:X.length=G.length:=by rw [hX];simp
   have hXr : ∀ s∈X,s.row.length<=1000:=by
    intro s hs
    rw [hX] at hs
    obtain ⟨g,hg,rfl⟩:=aht.1 hs
    exact hgm2 g hg
   rw [<- hX]
   have e2:(yP G).set 3 (.row (127+65536*G.length) ((X.map kT).map uB) 2) = .map (vz 0 G) :: .dead::Hm G :: .row (127+65536*G.length) ((X.map kT).map uB) 2::CQ G:=rfl
   rw [e2]
   rw [<- hX] at hgn2
   have hrun:=WO (127+65536*G.length) (X:=X) (n:=G.length) hXl hgn2 (by omega) (fun s hs=>by have:=hXr s hs;omega)
   refine aw_region dB _ rfl ?_
   repeat' (first
    | refine st_nil ?_
    | (refine kN [3] rfl rfl rfl rfl hrun rfl (agx rfl (wX ⟨(by show 0<1;omega),trivial,trivial⟩)) rfl (jG3 (L' := .map (vz 0 G) :: .dead::Hm G :: .row (127+65536*G.length) (((qZ jw X).map kT).map uB) 2::CQ G) rfl) ?_)
    | refine aZ rfl rfl rfl rfl ph_ ?_
    | refine bq rfl rfl rfl rfl ph_ ?_
    | refine sS_ rfl rfl rfl ph_ ?_
    | refine bn rfl rfl rfl rfl ph_ ?_
    | refine aW rfl rfl rfl ?_
    | refine sk0_ rfl rfl ?_
    | (refine bQ rfl (fun hb=>?_) (fun hb=>?_)<;>(first|exact (fx_ hb).elim|rw [hb]))
    | refine aw_seq ?_
    | (refine aU rfl (fun hb=>?_) (fun hb=>?_)<;>(try exact (fx_ hb).elim))
    | refine aw_block ?_
    | refine aw_exit ?_
    | refine aw_ret ?_
    | refine aw_skip ?_)
   refine wM 3 (L := .map (vz 0 G) :: .dead::Hm G :: .row (127+65536*G.length) (((qZ jw X).map kT).map uB) 2::CQ G) rfl (YI _) ?_
   simp only [ag6,ag_,thA,thS,and_self,if_true,List.drop_zero]
   have e3:(((qZ jw X).map kT).map fun x=>[x.1,x.2]).take G.length=(qZ jw X).map ae:=by
    rw [ahy (by simp [(wN jw X).length_eq,hXl]),List.map_map];rfl
   rw [e3]
   repeat' (first
    | refine st_nil ?_
    | refine aZ rfl rfl rfl rfl ph_ ?_
    | refine bq rfl rfl rfl rfl ph_ ?_
    | refine sS_ rfl rfl rfl ph_ ?_
    | refine bn rfl rfl rfl rfl ph_ ?_
    | refine aW rfl rfl rfl ?_
    | refine sk0_ rfl rfl ?_
    | (refine bQ rfl (fun hb=>?_) (fun hb=>?_)<;>(first|exact (fx_ hb).elim|rw [hb]))
    | refine aw_seq ?_
    | refine aw_region dB _ rfl ?_
    | refine aw_drawn2 bf _ rfl mixed (by decide +kernel) ?_
    | (refine aU rfl (fun hb=>?_) (fun hb=>?_)<;>(try exact (fx_ hb).elim))
    | refine aw_block ?_
    | refine aw_exit ?_
    | refine aw_ret ?_
    | refine aw_skip ?_)
   exact bO (bZ rfl (by trivial) rfl)
set_option maxHeartbeats 8000000
def aaU (l:List FE):Option (List Stp):=bif decide (l.length<=100000) then some (AU l) else none
theorem acC {l:List FE} {r:List Stp} (H:aaU l=some r):Pure Tryz.prog 119 [.one (.lst (l.map LV))] (.val (.one (.lst (r.map y8)))):=by
 unfold aaU at H
 obtain ⟨g,H⟩:=vI H
 obtain rfl:=ahq H
 exact abq l (ahm g)
def aac (l:List FE):Option (List Stp):=bif decide (l.length<=100000) then some (AU l) else none
theorem acx {l:List FE} {r:List Stp} (H:aac l=some r):Pure Tryz.prog 148 [.one (.lst (l.map LV))] (.val (.one (.lst (r.map y8)))):=by
 unfold aac at H
 obtain ⟨g,H⟩:=vI H
 obtain rfl:=ahq H
 exact Y2 l (ahm g)
open Classical in
noncomputable def Vs (l:List Stp):Option (List aI):=if Ng l then some (EC l) else none
theorem aaJ {l:List Stp} {r:List aI} (H:Vs l=some r):Pure Tryz.prog 70 [.one (.lst (l.map y8))] (.val (.one (.lst (r.map bE)))):=by
 unfold Vs at H
 split at H
 ·rename_i h;obtain rfl:=ahq H;exact R4 l h
 ·cases H
open Classical in
noncomputable def Rl (l:List Stp):Option (List aI):=if Ng l then some (EC l) else none
theorem Z_ {l:List Stp} {r:List aI} (H:Rl l=some r):Pure Tryz.prog 60 [.one (.lst (l.map y8))] (.val (.one (.lst (r.map bE)))):=by
 unfold Rl at H
 split at H
 ·rename_i h;obtain rfl:=ahq H;exact WT l h
 ·cases H
def bM (l:List aj):Prop:=l.length<=300 /\ ∀ f∈l,f.row.length<=1000 /\ ∀ v∈f.row,VOK v
open Classical in
noncomputable def Du (l:List aj):Option (List aa):=if bM l then some (rD l) else none
theorem Uc {l:List aj} {r:List aa} (H:Du l=some r):Pure Tryz.prog 113 [.one (.lst (l.map aJ))] (.val (.one (.lst (r.map ae)))):=by
 unfold Du at H
 split at H
 ·rename_i h;obtain rfl:=ahq H;exact WQ l h.1 h.2
 ·cases H
noncomputable section
def sj (a_l:(List aI)):((List FE) × Int)->Option (Step ((List FE) × Int) ((List Stp))):=fun s=>match s with
 | (c_1,v_2)=>bif (decide (v_2<((a_l.length:Nat):Int))) then
  (aH a_l v_2).bind fun x_4=>bif (decide (c_1.length+1<=5864062014805)) then (some (.next ((c_1++[(⟨x_4,(1:Int)⟩:FE)]),(IntKind.i64.wrap (v_2+(1:Int)))))) else none
 else
  some (.exit (c_1,v_2))
def zy:Sum ((List FE) × Int) ((List Stp))->Option (((List Stp)))
 | .inl (c_1,v_2)=>(aaU c_1).bind fun r_5=>some r_5
 | .inr q=>some q
def yw (a_l:(List aI)):Option ((List Stp)):=(ax (sj a_l) fuel ([],(0:Int))).bind (zy)
theorem QX {a_l:(List aI)} {r:(List Stp)} (H:yw a_l=some r):Pure Tryz.prog 71 [.one (.lst (a_l.map bE))] (.val (.one (.lst (r.map y8)))):=by
 unfold yw at H
 refine po_ Tryz.func71 Tryz.ntmps71 ?_
 repeat' (first|refine gs_ ?_|fail)
 refine bX 3 3 rfl ?_
 refine alM_ (fun s:(List FE) × Int=>match s with|(c_1,v_2)=>[(3, .one (.own (c_1.map LV) 0)),(6, .one (.c (.lst (a_l.map bE)))),(7, .one (.c (.int .i64 ((a_l.length:Nat):Int)))),(8, .one (.c (.int .i64 v_2)))]) (fun s=>match s with|(c_1,v_2)=>[.spare c_1.length 3]) H (fun _=>ahe _)
  (fm_ ⟨rfl,rfl,rfl,rfl,trivial⟩ [] rfl ⟨by show 0<1;omega,trivial,trivial,trivial,trivial⟩ ⟨trivial,trivial⟩) ?_
 rintro ⟨c_1,v_2⟩ st1 hb1 hk1
 unfold sj at hb1
 dsimp only at hb1 ⊢
 rcases Bool.eq_false_or_eq_true (decide (v_2<((a_l.length:Nat):Int))) with q_3|q_3
 ·rw [q_3,agX] at hb1
  obtain ⟨x_4,i1,hb1⟩:=bd_ hb1
  obtain ⟨i1z,i1⟩:=nE i1
  have i1x:=abO (f:=bE) i1
  obtain ⟨g2,hb1⟩:=vI hb1
  replace g2:=ahm g2
  obtain rfl:=ahq hb1
  repeat' (first|refine gs_ ?_|fail)
  exact ⟨_,rfl,fm_ ⟨(by simp only [ag8,ag6,ag_,ag0]<;>rfl),rfl,rfl,rfl,trivial⟩ [_] (by simp only [ag3,ahf,aho,ahB,ag8,ag6,ag_]<;>rfl) ⟨by show 0<1;omega,trivial,trivial,trivial,trivial⟩ ⟨trivial,trivial⟩⟩
 ·rw [q_3,agW] at hb1
  obtain rfl:=ahq hb1
  have hx1:zy (.inl (c_1,v_2))=some _:=hk1
  unfold zy at hx1
  dsimp only at hx1
  obtain ⟨r_5,c3,hx1⟩:=bd_ hx1
  replace c3:=acC c3
  try simp only [ag8,ag6,ag_,ag0,aC] at c3
  obtain rfl:=ahq hx1
  exact aD
def Sb (a_p:(List aI)):Option ((List aI)):=bif (decide (((a_p.length:Nat):Int)=(1:Int))) then
 some a_p
 else
 (yw a_p).bind fun r_2=>(Vs r_2).bind fun r_3=>some r_3
theorem Y8 {a_p:(List aI)} {r:(List aI)} (H:Sb a_p=some r):Pure Tryz.prog 69 [.one (.lst (a_p.map bE))] (.val (.one (.lst (r.map bE)))):=by
 unfold Sb at H
 refine po_ Tryz.func69 Tryz.ntmps69 ?_
 rcases Bool.eq_false_or_eq_true (decide (((a_p.length:Nat):Int)=(1:Int))) with q_1|q_1
 ·rw [q_1,agX] at H
  obtain rfl:=ahq H
  exact aD
 ·rw [q_1,agW] at H
  obtain ⟨r_2,c1,H⟩:=bd_ H
  replace c1:=QX c1
  try simp only [ag8,ag6,ag_,ag0,aC] at c1
  obtain ⟨r_3,c2,H⟩:=bd_ H
  replace c2:=aaJ c2
  try simp only [ag8,ag6,ag_,ag0,aC] at c2
  obtain rfl:=ahq H
  exact aD
def zZ (x_5:aa) (r_6:(List aI)):((List aj) × Int)->Option (Step ((List aj) × Int) ((List aj))):=fun s=>match s with
 | (out_7,v_8)=>bif (decide (v_8<((r_6.length:Nat):Int))) then
  (aH r_6 v_8).bind fun x_10=>bif (decide (x_5.row.length<=4398046511104)) then (bif (decide (out_7.length+1<=3518437208883)) then (some (.next ((out_7++[(⟨x_5.row,x_10⟩:aj)]),(IntKind.i64.wrap (v_8+(1:Int)))))) else none) else none
 else
  some (.exit (out_7,v_8))
def FJ (v_3:Int):Sum ((List aj) × Int) ((List aj))->Option (Step ((List aj) × Int) ((List aj)))
 | .inl (out_7,v_8)=>some (.next (out_7,(IntKind.i64.wrap (v_3+(1:Int)))))
 | .inr q=>some (.ret q)
def zW (a_f:(List aI)->Option ((List aI))) (r_1:(List aa)):((List aj) × Int)->Option (Step ((List aj) × Int) ((List aj))):=fun s=>match s with
 | (out_2,v_3)=>bif (decide (v_3<((r_1.length:Nat):Int))) then
  (aH r_1 v_3).bind fun x_5=>(a_f x_5.periods).bind fun r_6=>(ax (zZ x_5 r_6) fuel (out_2,(0:Int))).bind (FJ v_3)
 else
  some (.exit (out_2,v_3))
def Ap:Sum ((List aj) × Int) ((List aj))->Option (((List aj)))
 | .inl (out_2,v_3)=>some out_2
 | .inr q=>some q
def Oe (a_l:(List aj)) (a_f:(List aI)->Option ((List aI))):Option ((List aj)):=(Du a_l).bind fun r_1=>(ax (zW a_f r_1) fuel ([],(0:Int))).bind (Ap)
theorem Xu {a_l:(List aj)} {a_f:(List aI)->Option ((List aI))} {r:(List aj)} {F_a_f:FuncId} {caps_a_f:List AC} (hf_a_f : ∀ (y0:(List aI)) (r:(List aI)),a_f y0=some r->Pure Tryz.prog F_a_f ([.one (.lst (y0.map bE))]++caps_a_f.map .one) (.val (.one (.lst (r.map bE))))) (H:Oe a_l a_f=some r):Pure Tryz.prog 68 [.one (.lst (a_l.map aJ)), .one (.fn F_a_f caps_a_f)] (.val (.one (.lst (r.map aJ)))):=by
 unfold Oe at H
 refine po_ Tryz.func68 Tryz.ntmps68 ?_
 obtain ⟨r_1,c1,H⟩:=bd_ H
 replace c1:=Uc c1
 try simp only [ag8,ag6,ag_,ag0,aC] at c1
 repeat' (first|refine gs_ ?_|fail)
 refine bX 5 3 rfl ?_
 refine alM_ (fun s:(List aj) × Int=>match s with|(out_2,v_3)=>[(1, .one (.c (.fn F_a_f caps_a_f))),(5, .one (.own (out_2.map aJ) 0)),(11, .one (.c (.lst (r_1.map ae)))),(12, .one (.c (.int .i64 ((r_1.length:Nat):Int)))),(13, .one (.c (.int .i64 v_3)))]) (fun s=>match s with|(out_2,v_3)=>[.spare out_2.length 3]) H (fun _=>ahe _)
  (fm_ ⟨rfl,rfl,rfl,rfl,rfl,trivial⟩ [] rfl ⟨trivial,by show 0<1;omega,trivial,trivial,trivial,trivial⟩ ⟨trivial,trivial⟩) ?_
 rintro ⟨out_2,v_3⟩ st3 hb3 hk3
 unfold zW at hb3
 dsimp only at hb3 ⊢
 rcases Bool.eq_false_or_eq_true (decide (v_3<((r_1.length:Nat):Int))) with q_4|q_4
 ·rw [q_4,agX] at hb3
  obtain ⟨x_5,i2,hb3⟩:=bd_ hb3
  obtain ⟨i2z,i2⟩:=nE i2
  have i2x:=abO (f:=ae) i2
  obtain ⟨r_6,c3,hb3⟩:=bd_ hb3
  replace c3:=hf_a_f _ _ c3
  try simp only [ag8,ag6,ag_,ag0,aC] at c3
  repeat' (first|refine gs_ ?_|fail)
  refine alM_ (fun s:(List aj) × Int=>match s with|(out_7,v_8)=>[(1, .one (.c (.fn F_a_f caps_a_f))),(5, .one (.own (out_7.map aJ) 0)),(7, .one (.ptr 1 0)),(11, .one (.c (.lst (r_1.map ae)))),(12, .one (.c (.int .i64 ((r_1.length:Nat):Int)))),(13, .one (.c (.int .i64 v_3))),(20, .one (.c (.lst (r_6.map bE)))),(21, .one (.c (.int .i64 ((r_6.length:Nat):Int)))),(22, .one (.c (.int .i64 v_8)))]) (fun s=>match s with|(out_7,v_8)=>[.spare out_7.length 3, .box [.c (.lst (x_5.row.map cV)), .c (.lst (x_5.periods.map bE))]]) hb3 (fun _=>ahe _)
   (fm_ ⟨rfl,rfl,rfl,rfl,rfl,rfl,rfl,rfl,rfl,trivial⟩ [] rfl ⟨trivial,by show 0<2;omega,by show 1<2;omega,trivial,trivial,trivial,trivial,trivial,trivial,trivial⟩ ⟨trivial,kQ (by rfl),trivial⟩) ?_
  rintro ⟨out_7,v_8⟩ st4 hb4 hk4
  unfold zZ at hb4
  dsimp only at hb4 ⊢
  rcases Bool.eq_false_or_eq_true (decide (v_8<((r_6.length:Nat):Int))) with q_9|q_9
  ·rw [q_9,agX] at hb4
   obtain ⟨x_10,i4,hb4⟩:=bd_ hb4
   obtain ⟨i4z,i4⟩:=nE i4
   have i4x:=abO (f:=bE) i4
   obtain ⟨g5,hb4⟩:=vI hb4
   replace g5:=ahm g5
   obtain ⟨g6,hb4⟩:=vI hb4
   replace g6:=ahm g6
   obtain rfl:=ahq hb4
   repeat' (first|refine gs_ ?_|fail)
   exact ⟨_,rfl,fm_ ⟨rfl,(by simp only [ag8,ag6,ag_,ag0]<;>rfl),rfl,rfl,rfl,rfl,rfl,rfl,rfl,trivial⟩ [_,_] (by simp only [ag3,ahf,aho,ahB,ag8,ag6,ag_]<;>rfl) ⟨trivial,by show 0<2;omega,by show 1<2;omega,trivial,trivial,trivial,trivial,trivial,trivial,trivial⟩ ⟨trivial,kQ (by rfl),trivial⟩⟩
  ·rw [q_9,agW] at hb4
   obtain rfl:=ahq hb4
   have hx4:FJ v_3 (.inl (out_7,v_8))=some _:=hk4
   unfold FJ at hx4
   dsimp only at hx4
   obtain rfl:=ahq hx4
   repeat' (first|refine gs_ ?_|fail)
   exact ⟨_,rfl,fm_ ⟨rfl,(by simp only [ag8,ag6,ag_,ag0]<;>rfl),rfl,rfl,rfl,trivial⟩ [_] (by simp only [ag3,ahf,aho,ahB,ag8,ag6,ag_]<;>rfl) ⟨trivial,by show 0<1;omega,trivial,trivial,trivial,trivial⟩ ⟨trivial,trivial⟩⟩
 ·rw [q_4,agW] at hb3
  obtain rfl:=ahq hb3
  have hx3:Ap (.inl (out_2,v_3))=some _:=hk3
  unfold Ap at hx3
  dsimp only at hx3
  obtain rfl:=ahq hx3
  exact aD
def Dw (a_l:(List aj)):Option ((List aj)):=(Oe a_l (fun x0=>Sb x0)).bind fun r_1=>some r_1
theorem GN {a_l:(List aj)} {r:(List aj)} (H:Dw a_l=some r):Pure Tryz.prog 41 [.one (.lst (a_l.map aJ))] (.val (.one (.lst (r.map aJ)))):=by
 unfold Dw at H
 refine po_ Tryz.func41 Tryz.ntmps41 ?_
 obtain ⟨r_1,c1,H⟩:=bd_ H
 replace c1:=Xu (F_a_f:=69) (caps_a_f:=[]) (fun x0 r h=>Y8 h) c1
 try simp only [ag8,ag6,ag_,ag0,aC] at c1
 obtain rfl:=ahq H
 exact aD
end
set_option maxHeartbeats 8000000
def wV (rec:List (List Val)->List LJ->Option (List (List Val))) (a_l:(List (List Val))) (a_o:(List LJ)):Option ((List (List Val))):=bif (decide (((a_l.length:Nat):Int)=(0:Int))) then some [] else
 bif (decide (((a_l.length:Nat):Int)=(1:Int))) then (aH a_l (0:Int)).bind fun x_3=>bif (decide (x_3.length<=4398046511104)) then (some [x_3]) else none else
 bif (decide ((2:Int)≠0)) then ((lT a_l (0:Int) (IntKind.i64.wrap (((a_l.length:Nat):Int).tdiv (2:Int)))).bind fun s_4=>(rec s_4 a_o).bind fun r_5=>(lT a_l (IntKind.i64.wrap (((a_l.length:Nat):Int).tdiv (2:Int))) ((a_l.length:Nat):Int)).bind fun s_6=>(rec s_6 a_o).bind fun r_7=>(Dn r_5 r_7 a_o).bind fun r_8=>some r_8) else none
theorem UF {rec:List (List Val)->List LJ->Option (List (List Val))}  (hrec : ∀ {x:List (List Val)} {y:List LJ} {r:List (List Val)}, rec x y=some r->Pure Tryz.prog 87 [.one (.lst (x.map (fun x=>[AC.lst (x.map cV)]))), .one (.lst (y.map IJ))] (.val (.one (.lst (r.map (fun x=>[AC.lst (x.map cV)])))))) {a_l:(List (List Val))} {a_o:(List LJ)} {r:(List (List Val))} (H:wV rec a_l a_o=some r):Pure Tryz.prog 87 [.one (.lst (a_l.map (fun x=>[AC.lst (x.map cV)]))), .one (.lst (a_o.map IJ))] (.val (.one (.lst (r.map (fun x=>[AC.lst (x.map cV)]))))):=by
 unfold wV at H
 refine po_ Tryz.func87 Tryz.ntmps87 ?_
 rcases af H with ⟨q_1,H⟩|⟨q_1,H⟩
 ·cases H
  exact aD
 rcases af H with ⟨q_2,H⟩|⟨q_2,H⟩
 ·obtain ⟨x_3,i1z,i1,i1x,H⟩:=aY (f:=(fun x=>[AC.lst (x.map cV)])) H
  obtain ⟨g2,H⟩:=aG H
  cases H
  exact aD
 obtain ⟨g3,H⟩:=aG H
 obtain ⟨s_4,u4,H⟩:=bd_ H
 obtain ⟨⟨u4a,u4b,u4c⟩,u4⟩:=ji u4
 have u4x:=L8 (f:=(fun x=>[AC.lst (x.map cV)])) u4
 obtain ⟨r_5,c5,H⟩:=bd_ H
 replace c5:=hrec c5
 obtain ⟨s_6,u6,H⟩:=bd_ H
 obtain ⟨⟨u6a,u6b,u6c⟩,u6⟩:=ji u6
 have u6x:=L8 (f:=(fun x=>[AC.lst (x.map cV)])) u6
 obtain ⟨r_7,c7,H⟩:=bd_ H
 replace c7:=hrec c7
 obtain ⟨r_8,c8,H⟩:=bd_ H
 replace c8:=Ta c8
 cases H
 repeat' (first|refine gs_ ?_|rw [u4x]|rw [u6x]|rw [show ((0:Nat):Int)=0 from rfl])
 refine bO (bZ rfl ?_ ?_)
 ·repeat' (first|exact trivial|rfl|exact ag5 rfl|omega|apply And.intro)
 ·first|rfl|(simp only [ag8,ag6,ag_,ag0]<;>rfl)
def EH:Nat->List (List Val)->List LJ->Option (List (List Val))
 | 0,_,_=>none
 | n+1,a,b=>wV (EH n) a b
theorem MM : ∀ (n:Nat) {x:List (List Val)} {y:List LJ} {r:List (List Val)}, EH n x y=some r->Pure Tryz.prog 87 [.one (.lst (x.map (fun x=>[AC.lst (x.map cV)]))), .one (.lst (y.map IJ))] (.val (.one (.lst (r.map (fun x=>[AC.lst (x.map cV)])))))
 | 0,_,_,_,h=>nomatch h
 | n+1,_,_,_,h=>UF (MM n) h
def Br (a_l:(List (List Val))):Option ((List (List Val))):=(EH 301 a_l ([]:(List LJ))).bind fun r_1=>some r_1
theorem FN {a_l:(List (List Val))} {r:(List (List Val))} (H:Br a_l=some r):Pure Tryz.prog 53 [.one (.lst (a_l.map (fun x=>[AC.lst (x.map cV)])))] (.val (.one (.lst (r.map (fun x=>[AC.lst (x.map cV)]))))):=by
 unfold Br at H
 refine po_ Tryz.func53 Tryz.ntmps53 ?_
 obtain ⟨r_1,c1,H⟩:=bd_ H
 replace c1:=MM 301 c1
 try simp only [ag8,ag6,ag_,ag0,aC] at c1
 cases H
 exact aD
end Go.Proofs.YtcehmafobkhdbaaGreatDoor
