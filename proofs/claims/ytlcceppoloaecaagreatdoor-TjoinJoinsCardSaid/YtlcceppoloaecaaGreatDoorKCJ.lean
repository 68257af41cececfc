/- Parts of the proof, joined. No condition. -/
import Derived.Test.YtlcceppoloaecaaGreatDoorKAA
import Derived.Test.YtlcceppoloaecaaGreatDoorKCI
import Derived.Test.YtlcceppoloaecaaGreatDoorKBW
set_option linter.unusedSimpArgs false
set_option linter.unusedVariables false
namespace Go.Proofs.YtlcceppoloaecaaGreatDoor
open Go.RowKit Go.MapKept
set_option maxRecDepth 100000
def LT1 (a b:bH) (al:List (List aP)) (out:List aC) (i:Nat):Tm:=[(3, .one (.c (.ref (bD a)))),(4, .one (.c (.ref (bD b)))),(6, .one (.ptr 3 0)),(7, .one (.ptr 25 0)),(8, .one (.own (out.map aU) 24)),(22, .one (.c (.lst (al.map H6)))),(23, .one (.c (.int .i64 al.length))),(24, .one (.c (.int .i64 i)))]
theorem TN (a b:bH) (al:List (List aP)) (out:List aC) (i:Nat):mh 26 (LT1 a b al out i):=⟨trivial,trivial,(by show 3<26;omega),(by show 25<26;omega),(by show 24<26;omega),trivial,trivial,trivial,trivial⟩
def LT2 (a b:bH) (al:List (List aP)) (l:List aP) (out:List aC) (i k:Nat):Tm:=[(3, .one (.c (.ref (bD a)))),(4, .one (.c (.ref (bD b)))),(6, .one (.ptr 3 0)),(7, .one (.ptr 25 0)),(8, .one (.own (out.map aU) 24)),(9, .one (.c (.int .i64 i))),(22, .one (.c (.lst (al.map H6)))),(23, .one (.c (.int .i64 al.length))),(24, .one (.c (.int .i64 i))),(29, .one (.c (.lst (l.map bv)))),(30, .one (.c (.int .i64 l.length))),(31, .one (.c (.int .i64 k)))]
theorem SC (a b:bH) (al:List (List aP)) (l:List aP) (out:List aC) (i k:Nat):mh 26 (LT2 a b al l out i k):=⟨trivial,trivial,(by show 3<26;omega),(by show 25<26;omega),(by show 24<26;omega),trivial,trivial,trivial,trivial,trivial,trivial,trivial,trivial⟩
def LL (ks fs:List (List AC)) (n q m:Nat):List Ob:=[.dead, .dead, .dead, .box [.emp, .emp], .dead, .dead, .dead, .box [.own ks 23, .own fs 24], .dead, .spare q 3, .spare 0 1, .spare 0 1, .spare 0 1, .spare 0 1, .spare 0 1, .spare 0 1, .spare 0 1, .spare 0 1, .spare 0 1, .spare 0 1, .spare 0 1, .spare n 1, .box [.own ks 23, .own fs 24], .spare n 1, .spare m 3, .box [.own ks 23, .own fs 24]]
theorem F9 (ks fs:List (List AC)) (n q m:Nat):vJ 26 (LL ks fs n q m):=Cv (jf rfl)
theorem agk (e:Ex) (n:Nat) (a b:List aC) (x:aC):qz e n (a++[x]) b=qz e n a b++alX e n b x:=by unfold qz;rw [List.flatMap_append];simp
theorem afy (row:List Val) (l:List aP) (p:aP):dn row (l++[p])=dn row l++[⟨row,p⟩]:=by unfold dn;rw [aqb];rfl
set_option maxHeartbeats 8000000 in
theorem adQ (a b:bH) (e:Ex) (h:IC a b e) (hnb:1<=b.kinds.length/\b.kinds.length<=48) (hlb:b.facts.length<=12) {r s:List aC} (H:ya (Ce e a.facts b.facts)=some r) (hr:r.length<=1000) (H2:ya (r++qz e b.kinds.length a.facts b.facts)=some s):Pure Tryz.prog 20 [.agg (bD a), .agg (bD b), .agg (tE e)] (.val (.agg (bD ⟨a.kinds++b.kinds,s⟩))):=by
 obtain ⟨gs,q,hjoin⟩:=Yd a b e (by have:=h.ha;omega) h.hb h.hra h.hrb h.he h.hka h.hkb H
 have halo:=NG a b e h.ha h.hb h.hra h.hrb h.hv h.he
 have hrel:=Oq (a_kinds:=a.kinds++b.kinds) (a_l:=r++qz e b.kinds.length a.facts b.facts) (r:=⟨a.kinds++b.kinds,s⟩) (by
  unfold GQ
  rw [ap4 (by rw [ap8];have:=h.hka;have:=h.hkb;omega),ap2,H2];rfl)
 have hnul:=Zy (n:=((b.kinds.length:Nat):Int)) (r:=List.replicate b.kinds.length dH) (by
  unfold UX
  rw [ap3 (by omega),ap1,ap3 (by omega),ap1,Int.toNat_natCast];rfl)
 have hall : ∀ x∈a.facts,(lq (cT e) b.facts x).length<=13:=fun x hx=>by have:=LW (c:=cT e) (b:=b.facts) (h.hv x hx);omega
 have hlal:(a.facts.map (lq (cT e) b.facts)).length=a.facts.length:=aqa ..
 have hapx:=h.ha
 rw [aL e] at hjoin halo
 rw [aL e]
 refine pa_ bW Tryz.func20 rfl rfl Tryz.ntmps20 (by simp) ?_
 simp only [argT,PV.av,bD,ap',aqd]
 repeat' (first
  | refine st_nil ?_
  | (refine bu 0 (ts:=bD a) rfl rfl ?_)
  | (refine bu 1 (ts:=bD b) rfl rfl ?_)
  | (refine bu 2 (ts:=xE e) rfl rfl ?_)
  | (refine eP [] rfl rfl rfl rfl hjoin rfl ⟨rfl,List.nodup_nil,fun i y hy=>by simp at hy,fun x hx=>(by cases hx),dE ⟨(fun z hz=>by obtain ⟨w,_,rfl⟩:=aqz.1 (show z∈(bD a).map SV.c from hz);trivial),(fun z hz=>by obtain ⟨w,_,rfl⟩:=aqz.1 (show z∈(bD b).map SV.c from hz);trivial),(fun z hz=>by obtain ⟨w,_,rfl⟩:=aqz.1 (show z∈(xE e).map SV.c from hz);trivial),trivial⟩⟩ rfl rfl ?_)
  | (refine aM rfl rfl rfl rfl ?_ ?_; · (repeat' (first|exact trivial|rfl|exact ap_ rfl|omega|exact aqa .. | (simp only [aqk,aqu];omega)|exact aF (by intro _;rfl) _|(intro e he;simp at he;subst he;rfl)|(intro e he;obtain ⟨q,_,rfl⟩:=aqz.1 he;rfl)|(simp only [aqa];omega)|(simp only [aqa,ap8,aqk,aqu];omega)|apply And.intro)))
  | (refine aN rfl rfl rfl rfl ?_ ?_; · (repeat' (first|exact trivial|rfl|exact ap_ rfl|omega|exact aqa .. | (simp only [aqk,aqu];omega)|exact aF (by intro _;rfl) _|(intro e he;simp at he;subst he;rfl)|(intro e he;obtain ⟨q,_,rfl⟩:=aqz.1 he;rfl)|(simp only [aqa];omega)|(simp only [aqa,ap8,aqk,aqu];omega)|apply And.intro)))
  | (refine sS_ rfl rfl rfl ?_ ?_; · (repeat' (first|exact trivial|rfl|exact ap_ rfl|omega|exact aqa .. | (simp only [aqk,aqu];omega)|exact aF (by intro _;rfl) _|(intro e he;simp at he;subst he;rfl)|(intro e he;obtain ⟨q,_,rfl⟩:=aqz.1 he;rfl)|(simp only [aqa];omega)|(simp only [aqa,ap8,aqk,aqu];omega)|apply And.intro)))
  | (refine aO rfl rfl rfl rfl ?_ ?_; · (repeat' (first|exact trivial|rfl|exact ap_ rfl|omega|exact aqa .. | (simp only [aqk,aqu];omega)|exact aF (by intro _;rfl) _|(intro e he;simp at he;subst he;rfl)|(intro e he;obtain ⟨q,_,rfl⟩:=aqz.1 he;rfl)|(simp only [aqa];omega)|(simp only [aqa,ap8,aqk,aqu];omega)|apply And.intro)))
  | refine aH rfl rfl rfl ?_
  | refine sk0_ rfl rfl ?_
  | refine aZ rfl rfl rfl rfl halo rfl ?_
  | (refine aV rfl (fun hb=>?_) (fun hb=>?_)<;>(first|exact (fx_ hb).elim|rw [hb]))
  | refine aw_seq ?_
  | refine aw_region bW _ rfl ?_
  | refine aw_drawn2 dJ _ rfl mixed (by decide +kernel) ?_
  | (refine aG rfl (fun hb=>?_) (fun hb=>?_)<;>(try exact (fx_ hb).elim))
  | refine aw_block ?_
  | refine aw_exit ?_
  | refine aw_ret ?_
  | refine aw_skip ?_)
 have hsz : ∀ i,(qz e b.kinds.length (a.facts.take i) b.facts).length<=156:=fun i=>y9 e _ (by rw [aqQ];omega) hlb fun f hf=>h.hv f (aqW hf)
 generalize hal:a.facts.map (lq (cT e) b.facts)=al at hlal ⊢
 refine eH (fun i:Nat=>LT1 a b al (r++qz e b.kinds.length (a.facts.take i) b.facts) i) (fun i=>LL ((a.kinds++b.kinds).map fun x=>[AC.int .i64 x]) (r.map aU) (a.kinds++b.kinds).length q (r++qz e b.kinds.length (a.facts.take i) b.facts).length) (fun i=>i<=a.facts.length) (fun i=>a.facts.length-i) 0 (by omega) (fun _ _=>aqj _)
  (fm_ ⟨rfl,rfl,rfl,rfl,ry (by rw [List.take_zero];show _=(r++[]).map aU;rw [aqy]),rfl,bB (by simp),rfl,trivial⟩ [] (by rw [List.take_zero];show _=LL _ _ _ _ (r++[]).length;rw [aqy];rfl) (TN _ _ _ _ _) (F9 _ _ _ _ _)) ?_
 intro i hi
 by_cases hlt:i<a.facts.length
 ·obtain ⟨x,hx⟩:=gol_ hlt
  have hxm:=ap6 hx
  have hxr:=h.hra x hxm
  have hli:(al.map H6)[((i:Nat):Int).toNat]?=some (H6 (lq (cT e) b.facts x)):=by rw [Int.toNat_natCast,aql, <- hal,aql,hx];rfl
  have hl13:=hall x hxm
  have hnx:qz e b.kinds.length (a.facts.take (i+1)) b.facts=qz e b.kinds.length (a.facts.take i) b.facts++dn (x.row++List.replicate b.kinds.length dH) (lq (cT e) b.facts x):=by rw [dw hx,agk];rfl
  have hsi:=hsz i
  have hconc:=KP (KG (x:=x.row) (y:=List.replicate b.kinds.length dH) (by omega) (by rw [List.length_replicate];omega))
  generalize lq (cT e) b.facts x=l at hli hl13 hnx
  have ho:(r++qz e b.kinds.length (a.facts.take i) b.facts).length<=1156:=by rw [ap8];omega
  have hon:r++qz e b.kinds.length (a.facts.take (i+1)) b.facts=(r++qz e b.kinds.length (a.facts.take i) b.facts)++dn (x.row++List.replicate b.kinds.length dH) l:=by rw [hnx,aqp]
  generalize r++qz e b.kinds.length (a.facts.take i) b.facts=o at ho hon ⊢
  unfold LT1 LL
  repeat' (first
   | refine st_nil ?_
   | (refine dm rfl rfl rfl rfl rfl rfl rfl rfl hli ?_ ?_; · exact ⟨Int.natCast_nonneg _,rfl⟩)
   | rw [aqa]
   | (refine aM rfl rfl rfl rfl ?_ ?_; · (repeat' (first|exact trivial|rfl|exact ap_ rfl|omega|exact aqa .. | (simp only [aqk,aqu];omega)|exact aF (by intro _;rfl) _|(intro e he;simp at he;subst he;rfl)|(intro e he;obtain ⟨q,_,rfl⟩:=aqz.1 he;rfl)|(simp only [aqa];omega)|(simp only [aqa,ap8,aqk,aqu];omega)|apply And.intro)))
   | (refine aN rfl rfl rfl rfl ?_ ?_; · (repeat' (first|exact trivial|rfl|exact ap_ rfl|omega|exact aqa .. | (simp only [aqk,aqu];omega)|exact aF (by intro _;rfl) _|(intro e he;simp at he;subst he;rfl)|(intro e he;obtain ⟨q,_,rfl⟩:=aqz.1 he;rfl)|(simp only [aqa];omega)|(simp only [aqa,ap8,aqk,aqu];omega)|apply And.intro)))
   | (refine sS_ rfl rfl rfl ?_ ?_; · (repeat' (first|exact trivial|rfl|exact ap_ rfl|omega|exact aqa .. | (simp only [aqk,aqu];omega)|exact aF (by intro _;rfl) _|(intro e he;simp at he;subst he;rfl)|(intro e he;obtain ⟨q,_,rfl⟩:=aqz.1 he;rfl)|(simp only [aqa];omega)|(simp only [aqa,ap8,aqk,aqu];omega)|apply And.intro)))
   | (refine aO rfl rfl rfl rfl ?_ ?_; · (repeat' (first|exact trivial|rfl|exact ap_ rfl|omega|exact aqa .. | (simp only [aqk,aqu];omega)|exact aF (by intro _;rfl) _|(intro e he;simp at he;subst he;rfl)|(intro e he;obtain ⟨q,_,rfl⟩:=aqz.1 he;rfl)|(simp only [aqa];omega)|(simp only [aqa,ap8,aqk,aqu];omega)|apply And.intro)))
   | refine aH rfl rfl rfl ?_
   | refine sk0_ rfl rfl ?_
   | (refine aV rfl (fun hb=>?_) (fun hb=>?_)<;>(first|exact (fx_ hb).elim|rw [hb]))
   | refine aw_seq ?_
   | refine aw_region bW _ rfl ?_
   | refine aw_drawn2 dJ _ rfl mixed (by decide +kernel) ?_
   | (refine aG rfl (fun hb=>?_) (fun hb=>?_)<;>(try exact (fx_ hb).elim))
   | refine aw_block ?_
   | refine aw_exit ?_
   | refine aw_ret ?_
   | refine aw_skip ?_)
  refine eH (fun k:Nat=>LT2 a b al l (o++dn (x.row++List.replicate b.kinds.length dH) (l.take k)) i k) (fun k=>LL ((a.kinds++b.kinds).map fun x=>[AC.int .i64 x]) (r.map aU) (a.kinds++b.kinds).length q (o++dn (x.row++List.replicate b.kinds.length dH) (l.take k)).length) (fun k=>k<=l.length) (fun k=>l.length-k) 0 (by omega) (fun _ _=>aqj _)
   (fm_ ⟨rfl,rfl,rfl,rfl,ry (by rw [List.take_zero];show _=(o++[]).map aU;rw [aqy]),rfl,rfl,rfl,rfl,rfl,bB (by simp),rfl,trivial⟩ [] (by rw [List.take_zero];show _=LL _ _ _ _ (o++[]).length;rw [aqy];rfl) (SC _ _ _ _ _ _ _) (F9 _ _ _ _ _)) ?_
  intro k hk
  by_cases hkl:k<l.length
  ·obtain ⟨p,hp⟩:=gol_ hkl
   have hfs:o++dn (x.row++List.replicate b.kinds.length dH) (l.take (k+1))=(o++dn (x.row++List.replicate b.kinds.length dH) (l.take k))++[⟨x.row++List.replicate b.kinds.length dH,p⟩]:=by rw [dw hp,afy,aqp]
   have hfl:(o++dn (x.row++List.replicate b.kinds.length dH) (l.take (k+1))).length=(o++dn (x.row++List.replicate b.kinds.length dH) (l.take k)).length+1:=by rw [hfs,ap8];rfl
   have ho2:(o++dn (x.row++List.replicate b.kinds.length dH) (l.take k)).length<=1200:=by unfold dn;rw [ap8,aqa,aqQ];omega
   generalize o++dn (x.row++List.replicate b.kinds.length dH) (l.take k)=o2 at hfs hfl ho2 ⊢
   unfold LT2 LL
   repeat' (first
    | refine st_nil ?_
    | rw [aqa]
    | (refine aM rfl rfl rfl rfl ?_ ?_; · (repeat' (first|exact trivial|rfl|exact ap_ rfl|omega|exact aqa .. | (simp only [aqk,aqu];omega)|exact aF (by intro _;rfl) _|(intro e he;simp at he;subst he;rfl)|(intro e he;obtain ⟨q,_,rfl⟩:=aqz.1 he;rfl)|(simp only [aqa];omega)|(simp only [aqa,ap8,aqk,aqu];omega)|apply And.intro)))
    | (refine dm rfl rfl rfl rfl rfl rfl rfl rfl (cZ hx) ?_ ?_; · exact ⟨by omega,rfl⟩)
    | (refine dm rfl rfl rfl rfl rfl rfl rfl rfl (cZ hp) ?_ ?_; · exact ⟨by omega,rfl⟩)
    | (refine aN rfl rfl rfl rfl ?_ ?_; · (repeat' (first|exact trivial|rfl|exact ap_ rfl|omega|exact aqa .. | (simp only [aqk,aqu];omega)|exact aF (by intro _;rfl) _|(intro e he;simp at he;subst he;rfl)|(intro e he;obtain ⟨q,_,rfl⟩:=aqz.1 he;rfl)|(simp only [aqa];omega)|(simp only [aqa,ap8,aqk,aqu];omega)|apply And.intro)))
    | (refine sS_ rfl rfl rfl ?_ ?_; · (repeat' (first|exact trivial|rfl|exact ap_ rfl|omega|exact aqa .. | (simp only [aqk,aqu];omega)|exact aF (by intro _;rfl) _|(intro e he;simp at he;subst he;rfl)|(intro e he;obtain ⟨q,_,rfl⟩:=aqz.1 he;rfl)|(simp only [aqa];omega)|(simp only [aqa,ap8,aqk,aqu];omega)|apply And.intro)))
    | (refine aO rfl rfl rfl rfl ?_ ?_; · (repeat' (first|exact trivial|rfl|exact ap_ rfl|omega|exact aqa .. | (simp only [aqk,aqu];omega)|exact aF (by intro _;rfl) _|(intro e he;simp at he;subst he;rfl)|(intro e he;obtain ⟨q,_,rfl⟩:=aqz.1 he;rfl)|(simp only [aqa];omega)|(simp only [aqa,ap8,aqk,aqu];omega)|apply And.intro)))
    | refine aH rfl rfl rfl ?_
    | refine sk0_ rfl rfl ?_
    | refine aZ rfl rfl rfl rfl hnul rfl ?_
    | refine aZ rfl rfl rfl rfl hconc rfl ?_
    | (refine aV rfl (fun hb=>?_) (fun hb=>?_)<;>(first|exact (fx_ hb).elim|rw [hb]))
    | refine aw_seq ?_
    | refine aw_region bW _ rfl ?_
    | refine aw_drawn2 dJ _ rfl mixed (by decide +kernel) ?_
    | (refine aG rfl (fun hb=>?_) (fun hb=>?_)<;>(try exact (fx_ hb).elim))
    | refine aw_block ?_
    | refine aw_exit ?_
    | refine aw_ret ?_
    | refine aw_skip ?_)
   exact ⟨k+1,by omega,by omega,fm_ ⟨rfl,rfl,rfl,rfl,ry (by rw [hfs,aqb (l₁:=o2)];rfl),rfl,rfl,rfl,rfl,rfl,rfl,bB (bF (by omega) (by omega)),trivial⟩ [_] (by rw [hfl];rfl) (SC _ _ _ _ _ _ _) (F9 _ _ _ _ _)⟩
  ·have hk2:k=l.length:=by omega
   subst hk2
   rw [List.take_length, <- hon]
   unfold LT2 LL
   repeat' (first
    | refine st_nil ?_
    | rw [aqa]
    | (refine aM rfl rfl rfl rfl ?_ ?_; · (repeat' (first|exact trivial|rfl|exact ap_ rfl|omega|exact aqa .. | (simp only [aqk,aqu];omega)|exact aF (by intro _;rfl) _|(intro e he;simp at he;subst he;rfl)|(intro e he;obtain ⟨q,_,rfl⟩:=aqz.1 he;rfl)|(simp only [aqa];omega)|(simp only [aqa,ap8,aqk,aqu];omega)|apply And.intro)))
    | (refine aN rfl rfl rfl rfl ?_ ?_; · (repeat' (first|exact trivial|rfl|exact ap_ rfl|omega|exact aqa .. | (simp only [aqk,aqu];omega)|exact aF (by intro _;rfl) _|(intro e he;simp at he;subst he;rfl)|(intro e he;obtain ⟨q,_,rfl⟩:=aqz.1 he;rfl)|(simp only [aqa];omega)|(simp only [aqa,ap8,aqk,aqu];omega)|apply And.intro)))
    | (refine sS_ rfl rfl rfl ?_ ?_; · (repeat' (first|exact trivial|rfl|exact ap_ rfl|omega|exact aqa .. | (simp only [aqk,aqu];omega)|exact aF (by intro _;rfl) _|(intro e he;simp at he;subst he;rfl)|(intro e he;obtain ⟨q,_,rfl⟩:=aqz.1 he;rfl)|(simp only [aqa];omega)|(simp only [aqa,ap8,aqk,aqu];omega)|apply And.intro)))
    | (refine aO rfl rfl rfl rfl ?_ ?_; · (repeat' (first|exact trivial|rfl|exact ap_ rfl|omega|exact aqa .. | (simp only [aqk,aqu];omega)|exact aF (by intro _;rfl) _|(intro e he;simp at he;subst he;rfl)|(intro e he;obtain ⟨q,_,rfl⟩:=aqz.1 he;rfl)|(simp only [aqa];omega)|(simp only [aqa,ap8,aqk,aqu];omega)|apply And.intro)))
    | refine aH rfl rfl rfl ?_
    | refine sk0_ rfl rfl ?_
    | (refine aV rfl (fun hb=>?_) (fun hb=>?_)<;>(first|exact (fx_ hb).elim|rw [hb]))
    | refine aw_seq ?_
    | refine aw_region bW _ rfl ?_
    | refine aw_drawn2 dJ _ rfl mixed (by decide +kernel) ?_
    | (refine aG rfl (fun hb=>?_) (fun hb=>?_)<;>(try exact (fx_ hb).elim))
    | refine aw_block ?_
    | refine aw_exit ?_
    | refine aw_ret ?_
    | refine aw_skip ?_)
   exact ⟨i+1,by omega,by omega,fm_ ⟨rfl,rfl,rfl,rfl,rfl,rfl,rfl,bB (bF (by omega) (by omega)),trivial⟩ [] rfl (TN _ _ _ _ _) (F9 _ _ _ _ _)⟩
 ·have hi2:i=a.facts.length:=by omega
  subst hi2
  rw [List.take_length]
  unfold LT1 LL
  repeat' (first
   | refine st_nil ?_
   | (refine aM rfl rfl rfl rfl ?_ ?_; · (repeat' (first|exact trivial|rfl|exact ap_ rfl|omega|exact aqa .. | (simp only [aqk,aqu];omega)|exact aF (by intro _;rfl) _|(intro e he;simp at he;subst he;rfl)|(intro e he;obtain ⟨q,_,rfl⟩:=aqz.1 he;rfl)|(simp only [aqa];omega)|(simp only [aqa,ap8,aqk,aqu];omega)|apply And.intro)))
   | (refine aN rfl rfl rfl rfl ?_ ?_; · (repeat' (first|exact trivial|rfl|exact ap_ rfl|omega|exact aqa .. | (simp only [aqk,aqu];omega)|exact aF (by intro _;rfl) _|(intro e he;simp at he;subst he;rfl)|(intro e he;obtain ⟨q,_,rfl⟩:=aqz.1 he;rfl)|(simp only [aqa];omega)|(simp only [aqa,ap8,aqk,aqu];omega)|apply And.intro)))
   | (refine sS_ rfl rfl rfl ?_ ?_; · (repeat' (first|exact trivial|rfl|exact ap_ rfl|omega|exact aqa .. | (simp only [aqk,aqu];omega)|exact aF (by intro _;rfl) _|(intro e he;simp at he;subst he;rfl)|(intro e he;obtain ⟨q,_,rfl⟩:=aqz.1 he;rfl)|(simp only [aqa];omega)|(simp only [aqa,ap8,aqk,aqu];omega)|apply And.intro)))
   | (refine aO rfl rfl rfl rfl ?_ ?_; · (repeat' (first|exact trivial|rfl|exact ap_ rfl|omega|exact aqa .. | (simp only [aqk,aqu];omega)|exact aF (by intro _;rfl) _|(intro e he;simp at he;subst he;rfl)|(intro e he;obtain ⟨q,_,rfl⟩:=aqz.1 he;rfl)|(simp only [aqa];omega)|(simp only [aqa,ap8,aqk,aqu];omega)|apply And.intro)))
   | refine aH rfl rfl rfl ?_
   | refine sk0_ rfl rfl ?_
   | refine aZ rfl rfl rfl rfl hrel rfl ?_
   | (refine aV rfl (fun hb=>?_) (fun hb=>?_)<;>(first|exact (fx_ hb).elim|rw [hb]))
   | refine aw_seq ?_
   | refine aw_region bW _ rfl ?_
   | refine aw_drawn2 dJ _ rfl mixed (by decide +kernel) ?_
   | (refine aG rfl (fun hb=>?_) (fun hb=>?_)<;>(try exact (fx_ hb).elim))
   | refine aw_block ?_
   | refine aw_exit ?_
   | refine aw_ret ?_
   | refine aw_skip ?_)
  exact ⟨.inr rfl,bR rfl (by repeat' (first|exact trivial|rfl|exact ap_ rfl|omega|apply And.intro)) rfl⟩
end Go.Proofs.YtlcceppoloaecaaGreatDoor
