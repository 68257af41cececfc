/- Parts of the proof, joined. No condition. -/
import Derived.Test.YtlcceppoloaecaaGreatDoorKAA
import Derived.Test.YtlcceppoloaecaaGreatDoorKCD
import Derived.Test.YtlcceppoloaecaaGreatDoorKBT
set_option linter.unusedSimpArgs false
set_option linter.unusedVariables false
namespace Go.Proofs.YtlcceppoloaecaaGreatDoor
open Go.RowKit Go.MapKept
set_option maxRecDepth 100000
set_option maxHeartbeats 4000000
def vW:Nat:=83+65536
def OS (n:Nat) (rw:Ob) (f:Nat->Nat):Nat->Ob
 | 0 => .dead
 | 1 => .dead
 | 2 => .dead
 | 3=>rw
 | 4 => .box [.sl 3 vW 0 n]
 | i+5 => .spare (f i) 2
def rwP (ps:List (List aP)):Ob := .row vW (qK 5 ((ps.take 12).map fun l=>l.map bv)) 1
def OP (n:Nat) (i:Nat) (ps:List (List aP)):Ob:=OS n (rwP ps) (fun k=>(ps.getD k []).length) i
theorem Ij (n:Nat) (ps:List (List aP)) : ∀ i,i<17->(OP n i ps).below 17
 | 0,_=>trivial
 | 1,_=>trivial
 | 2,_=>trivial
 | 3,_=>aaq _ _ _ _ (by rw [aqa,aqQ];omega)
 | 4,_=>(by intro x hx;simp at hx;subst hx;show 3<17;omega)
 | i+5,_=>trivial
theorem alU (n:Nat) (rw:Ob) (f:Nat->Nat) (G:List Ob) {i:Nat} (hi:i<12):(M17 (OS n rw f)++G)[5+i]?=some (.spare (f i) 2):=by
 rw [akB _ _ (by omega),Nat.add_comm];rfl
theorem alz (n:Nat) (rw:Ob) (f:Nat->Nat) (G:List Ob) {i:Nat} (hi:i<12) (m:Nat):(M17 (OS n rw f)++G).set (5+i) (.spare m 2)=M17 (OS n rw fun k=>if k=i then m else f k)++G:=by
 rw [ajE _ _ (by omega)]
 congr 1
 refine aeZ fun k _=>?_
 match k with
 | 0=>rw [if_neg (by omega)];rfl
 | 1=>rw [if_neg (by omega)];rfl
 | 2=>rw [if_neg (by omega)];rfl
 | 3=>rw [if_neg (by omega)];rfl
 | 4=>rw [if_neg (by omega)];rfl
 | k+5 =>
  show (if k+5=5+i then Ob.spare m 2 else .spare (f k) 2) = .spare (if k=i then m else f k) 2
  by_cases h:k=i
  ·rw [if_pos (by omega),if_pos h]
  ·rw [if_neg (by omega),if_neg h]
theorem adS (n:Nat) (ps:List (List aP)) (i:Nat) (row:List Val) (p:aP) (hn:ps.length=n) (hn12:n<=12) (hi:i<n) (hl : ∀ l∈ps,l.length<=1000000):Run Tryz.prog 99 (K7 (fun i ps=>OP n i ps) ps) [.one (.c (.int .i64 (i:Int))), .one (.c (.lst (row.map cV))), .agg ((bv p).map SV.c), .one (.ptr 4 0)] (K7 (fun i ps=>OP n i ps) (uo ps i row p)) (.tup []):=by
 obtain ⟨l,hpl⟩:=gol_ (l:=ps) (i:=i) (by omega)
 have hll:=hl l (ap6 hpl)
 have hgd:ps.getD i []=l:=by rw [aqR,hpl];rfl
 have htk:ps.take 12=ps:=aqE (by omega)
 have hrw:rwP ps = .row vW (qK 5 (ps.map fun l=>l.map bv)) 1:=by unfold rwP;rw [htk]
 have hge:(qK 5 (ps.map fun l=>l.map bv))[0+((i:Nat):Int).toNat]?=some [.own (l.map bv) (5+i)]:=by
  rw [aqH,Int.toNat_natCast];exact Ym _ _ _ _ (by rw [aql,hpl];rfl)
 show Run _ _ (M17 (OS n (rwP ps) fun k=>(ps.getD k []).length)) _ (M17 (OS n (rwP (uo ps i row p)) fun k=>((uo ps i row p).getD k []).length)) _
 have hf:(fun k=>((uo ps i row p).getD k []).length)=fun k=>if k=i then l.length+1 else (ps.getD k []).length:=by
  funext k
  unfold uo
  rw [hgd,aqR,List.getElem?_set]
  by_cases hk:k=i
  ·subst hk;rw [if_pos rfl,if_pos rfl,if_pos (by omega)];simp
  ·rw [if_neg (Ne.symm hk),if_neg hk,aqR]
 have hr2:rwP (uo ps i row p) = .row vW ((qK 5 (ps.map fun l=>l.map bv)).set (0+((i:Nat):Int).toNat) [.own (l.map bv++[bv p]) (5+i)]) 1:=by
  unfold rwP uo
  rw [aqE (by rw [List.length_set];omega),List.map_set,hgd,aqb,aqH,Int.toNat_natCast, <- WR];rfl
 have hbl : ∀ x∈M17 (OS n (rwP (uo ps i row p)) fun k=>((uo ps i row p).getD k []).length),x.below 17:=jB (O:=fun i ps=>OP n i ps) (Ij n (uo ps i row p))
 rw [hf,hr2] at hbl
 rw [hf,hr2,hrw]
 have hget:=fun rw G=>alU n rw (fun k=>(ps.getD k []).length) G (i:=i) (by omega)
 have hset:=fun rw G=>alz n rw (fun k=>(ps.getD k []).length) G (i:=i) (by omega) (l.length+1)
 simp only [hgd] at hget
 generalize (fun k=>(ps.getD k []).length)=f at hget hset ⊢
 refine bP bW Tryz.func99 rfl rfl Tryz.ntmps99 (by simp) ?_
 simp only [iH]
 repeat' (first
  | refine st_nil ?_
  | (refine sP rfl rfl rfl rfl rfl rfl rfl (e:=[.own (l.map bv) (5+i)]) (by exact hge) rfl ?_)
  | (refine akz rfl rfl rfl rfl rfl rfl rfl rfl rfl rfl (hget _ _) ⟨rfl,rfl,aqa .., ⟨rfl,by omega⟩,(by intro e he;simp at he;subst he;rfl),by (simp only [aqk,aqu];omega),by (simp only [aqk,aqu];omega)⟩ (hset _ _) ?_)
  | (refine vw rfl rfl rfl rfl rfl rfl (e:=[.own (l.map bv) (5+i)]) (by exact hge) ⟨ap_ rfl,rfl⟩ rfl ?_)
  | (refine aM rfl rfl rfl rfl ?_ ?_; · (repeat' (first|exact trivial|rfl|exact ap_ rfl|omega|exact aqa .. | (simp only [aqk,aqu];omega)|exact aF (by intro _;rfl) _|(intro e he;simp at he;subst he;rfl)|(intro e he;obtain ⟨q,_,rfl⟩:=aqz.1 he;rfl)|(simp only [aqa];omega)|(simp only [aqa,ap8,aqk,aqu];omega)|apply And.intro)))
  | (refine aN rfl rfl rfl rfl ?_ ?_; · (repeat' (first|exact trivial|rfl|exact ap_ rfl|omega|exact aqa .. | (simp only [aqk,aqu];omega)|exact aF (by intro _;rfl) _|(intro e he;simp at he;subst he;rfl)|(intro e he;obtain ⟨q,_,rfl⟩:=aqz.1 he;rfl)|(simp only [aqa];omega)|(simp only [aqa,ap8,aqk,aqu];omega)|apply And.intro)))
  | (refine sS_ rfl rfl rfl ?_ ?_; · (repeat' (first|exact trivial|rfl|exact ap_ rfl|omega|exact aqa .. | (simp only [aqk,aqu];omega)|exact aF (by intro _;rfl) _|(intro e he;simp at he;subst he;rfl)|(intro e he;obtain ⟨q,_,rfl⟩:=aqz.1 he;rfl)|(simp only [aqa];omega)|(simp only [aqa,ap8,aqk,aqu];omega)|apply And.intro)))
  | (refine aO rfl rfl rfl rfl ?_ ?_; · (repeat' (first|exact trivial|rfl|exact ap_ rfl|omega|exact aqa .. | (simp only [aqk,aqu];omega)|exact aF (by intro _;rfl) _|(intro e he;simp at he;subst he;rfl)|(intro e he;obtain ⟨q,_,rfl⟩:=aqz.1 he;rfl)|(simp only [aqa];omega)|(simp only [aqa,ap8,aqk,aqu];omega)|apply And.intro)))
  | refine aH rfl rfl rfl ?_
  | refine sk0_ rfl rfl ?_
  | (refine aV rfl (fun hb=>?_) (fun hb=>?_)<;>(first|exact (fx_ hb).elim|rw [hb]))
  | refine aw_seq ?_
  | refine aw_region bW _ rfl ?_
  | refine aw_drawn2 dJ _ rfl mixed (by decide +kernel) ?_
  | (refine aG rfl (fun hb=>?_) (fun hb=>?_)<;>(try exact (fx_ hb).elim))
  | refine aw_block ?_
  | refine aw_exit ?_
  | refine aw_ret ?_
  | refine aw_skip ?_)
 exact ⟨.inl rfl,⟨.inr ⟨.tup [],⟨trivial,rfl⟩,rfl⟩,⟨[.box ((bv p).map SV.c)],rfl⟩,aqe _,fun x hx=>hbl x hx,trivial⟩⟩
theorem amz {P:Program} {N n0:Nat} {c:Code} {Q:AX->Tm->List Ob->Prop} {T:Tm} {L L':List Ob} (h:L=L') (k:Aw P N n0 c Q T L'):Aw P N n0 c Q T L:=h▸k
theorem aax (n:Nat) (hn:n<=12):([Ob.dead, .dead, .dead, .row vW ([]++qK 5 (List.replicate n [])) 1, .box [.sl 3 vW 0 n]]++I9 2 (List.replicate n []))++List.replicate (12-n) (.spare 0 2)=K7 (fun i ps=>OP n i ps) (List.replicate n []):=by
 have h1:I9 2 (List.replicate n [])++List.replicate (12-n) (Ob.spare 0 2)=List.replicate 12 (.spare 0 2):=by
  unfold I9
  rw [List.map_replicate,show Ob.spare ([]:List (List AC)).length 2 = .spare 0 2 from rfl,List.replicate_append_replicate,show n+(12-n)=12 by omega]
 have h2 : ∀ k,(List.replicate n ([]:List aP)).getD k []=[]:=fun k=>by
  rw [aqR,List.getElem?_replicate];split<;>rfl
 have h3:rwP (List.replicate n []) = .row vW ([]++qK 5 (List.replicate n [])) 1:=by
  unfold rwP
  rw [List.take_replicate,Nat.min_eq_right hn,List.map_replicate];rfl
 rw [aqp,h1]
 show _=M17 (OS n (rwP (List.replicate n [])) fun k=>((List.replicate n ([]:List aP)).getD k []).length)
 rw [h3,show (fun k=>((List.replicate n ([]:List aP)).getD k []).length)=fun _=>0 from funext fun k=>by rw [h2];rfl]
 rfl
def H6 (l:List aP):List AC:=[.lst (l.map bv)]
theorem adV (ps:List (List aP)) (hn:ps.length<=12):iC (qK 5 ((ps.take 12).map fun l=>l.map bv))=some (ps.map H6):=by
 rw [aqE hn,Sb,List.map_map];rfl
theorem Yb (n v k:Nat) (cs:List (List AC)):(Ob.row v (cs.map (List.map SV.c)) k).below n:=by
 intro e he x hx
 obtain ⟨c,_,rfl⟩:=aqz.1 he
 obtain ⟨y,_,rfl⟩:=aqz.1 hx
 trivial
theorem GG (a b:bH) (e:Ex) (ha:a.facts.length<=12) (hb:b.facts.length<=1000) (hra : ∀ f∈a.facts,0<f.row.length/\f.row.length<=1000) (hrb : ∀ f∈b.facts,f.row.length<=1000) (he:lF fuel e) :
  Run Tryz.prog 62 [] [.agg ((bD a).map SV.c), .agg ((bD b).map SV.c), .agg ((tE e).map SV.c)] [.dead, .dead, .dead, .row vW (((a.facts.map (fE (cT e) b.facts)).map H6).map (List.map SV.c)) 1] (.one (.sl 3 vW 0 a.facts.length)):=by
 have heach:=YE (fun i ps=>OP a.facts.length i ps) 99 uo (fun n ps=>ps.length=a.facts.length /\ ∀ l∈ps,l.length<=n) a b e (fun ps=>Ij _ ps) (fun n ps i row p h hn hi=>⟨adS a.facts.length ps i row p h.1 ha hi (fun l hl=>Nat.le_trans (h.2 l hl) (by omega)),by unfold uo;rw [List.length_set];exact h.1,fun l hl=>by
   unfold uo at hl
   rcases List.mem_or_eq_of_mem_set hl with hl|hl
   ·have:=h.2 l hl;omega
   ·subst hl
    rw [ap8,List.length_singleton,aqR,ap9 (by rw [h.1];exact hi)]
    have:=h.2 _ (List.getElem_mem (by rw [h.1];exact hi))
    show (ps[i]).length+1<=n+1
    omega⟩) (fun n ps h=>⟨h.1,fun l hl=>by have:=h.2 l hl;omega⟩) (by omega) hb hra hrb he (List.replicate a.facts.length []) ⟨by simp,fun l hl=>by rw [List.eq_of_mem_replicate hl];simp⟩
 rw [aiK,aL e] at heach
 have hst:=aax a.facts.length ha
 have hnorm:=adV (a.facts.map (fE (cT e) b.facts)) (by rw [aqa];exact ha)
 generalize a.facts.map (fE (cT e) b.facts)=pt at heach hnorm ⊢
 rw [aL e]
 refine bP bW Tryz.func62 rfl rfl Tryz.ntmps62 (by simp) ?_
 simp only [iH,bD,ap',aqd]
 repeat' (first
  | refine st_nil ?_
  | rw [aqa]
  | (refine bu 0 (ts:=bD a) rfl rfl ?_)
  | (refine bu 1 (ts:=bD b) rfl rfl ?_)
  | (refine bu 2 (ts:=xE e) rfl rfl ?_)
  | (refine dS rfl rfl rfl rfl rfl (Vn bW (n:=a.facts.length) rfl rfl rfl (by decide) rfl rfl rfl rfl (by omega) (by omega)) ?_)
  | (refine acU 3 2 vW a.facts.length [] _ rfl ?_;refine Jc 2 (12-a.facts.length) _ ?_;refine amz hst ?_)
  | (refine dS rfl rfl rfl rfl rfl (yg (caps:=[.ptr 4 0]) rfl) ?_)
  | (refine Jy 17 (K7 (fun i ps=>OP a.facts.length i ps) (List.replicate a.facts.length [])) (K7 (fun i ps=>OP a.facts.length i ps) pt) [] rfl rfl rfl rfl (by rw [aqy]) heach rfl rfl (jB (Ij _ _)) (jB (Ij _ _)) (dE ⟨(fun z hz=>by obtain ⟨w,_,rfl⟩:=aqz.1 (show z∈(bD a).map SV.c from hz);trivial),(fun z hz=>by obtain ⟨w,_,rfl⟩:=aqz.1 (show z∈(bD b).map SV.c from hz);trivial),(fun z hz=>by obtain ⟨w,_,rfl⟩:=aqz.1 (show z∈(xE e).map SV.c from hz);trivial),(by intro x hx;simp at hx;subst hx;show 4<17;omega),trivial⟩) ?_)
  | (refine aa8 3 (cs:=pt.map H6) rfl hnorm ?_)
  | (refine aM rfl rfl rfl rfl ?_ ?_; · (repeat' (first|exact trivial|rfl|exact ap_ rfl|omega|exact aqa .. | (simp only [aqk,aqu];omega)|exact aF (by intro _;rfl) _|(intro e he;simp at he;subst he;rfl)|(intro e he;obtain ⟨q,_,rfl⟩:=aqz.1 he;rfl)|(simp only [aqa];omega)|(simp only [aqa,ap8,aqk,aqu];omega)|apply And.intro)))
  | (refine aN rfl rfl rfl rfl ?_ ?_; · (repeat' (first|exact trivial|rfl|exact ap_ rfl|omega|exact aqa .. | (simp only [aqk,aqu];omega)|exact aF (by intro _;rfl) _|(intro e he;simp at he;subst he;rfl)|(intro e he;obtain ⟨q,_,rfl⟩:=aqz.1 he;rfl)|(simp only [aqa];omega)|(simp only [aqa,ap8,aqk,aqu];omega)|apply And.intro)))
  | (refine sS_ rfl rfl rfl ?_ ?_; · (repeat' (first|exact trivial|rfl|exact ap_ rfl|omega|exact aqa .. | (simp only [aqk,aqu];omega)|exact aF (by intro _;rfl) _|(intro e he;simp at he;subst he;rfl)|(intro e he;obtain ⟨q,_,rfl⟩:=aqz.1 he;rfl)|(simp only [aqa];omega)|(simp only [aqa,ap8,aqk,aqu];omega)|apply And.intro)))
  | (refine aO rfl rfl rfl rfl ?_ ?_; · (repeat' (first|exact trivial|rfl|exact ap_ rfl|omega|exact aqa .. | (simp only [aqk,aqu];omega)|exact aF (by intro _;rfl) _|(intro e he;simp at he;subst he;rfl)|(intro e he;obtain ⟨q,_,rfl⟩:=aqz.1 he;rfl)|(simp only [aqa];omega)|(simp only [aqa,ap8,aqk,aqu];omega)|apply And.intro)))
  | refine aH rfl rfl rfl ?_
  | refine sk0_ rfl rfl ?_
  | (refine aV rfl (fun hb=>?_) (fun hb=>?_)<;>(first|exact (fx_ hb).elim|rw [hb]))
  | refine aw_seq ?_
  | refine aw_region bW _ rfl ?_
  | refine aw_drawn2 dJ _ rfl mixed (by decide +kernel) ?_
  | (refine aG rfl (fun hb=>?_) (fun hb=>?_)<;>(try exact (fx_ hb).elim))
  | refine aw_block ?_
  | refine aw_exit ?_
  | refine aw_ret ?_
  | refine aw_skip ?_)
 exact ⟨by first|exact .inl rfl|exact .inr rfl,⟨.inl ⟨6,rfl,rfl⟩,⟨_,rfl⟩,aqj _,bT ⟨trivial,trivial,trivial,Yb _ _ _ _,trivial⟩,(by show 3<4;omega)⟩⟩
end Go.Proofs.YtlcceppoloaecaaGreatDoor
