/- Parts of the proof, joined. No condition. -/
import Derived.Test.YtlcceppoloaecaaGreatDoorKAA
import Derived.Test.YtlcceppoloaecaaGreatDoorKCG
set_option linter.unusedSimpArgs false
set_option linter.unusedVariables false
namespace Go.Proofs.YtlcceppoloaecaaGreatDoor
open Go.RowKit Go.MapKept
set_option maxRecDepth 100000
set_option maxHeartbeats 4000000
theorem af8 (x y:Bool):Pure Tryz.prog 154 ([.one (.bool x), .one (.bool y)]++([]:List AC).map .one) (.val (.one (.bool (x && !y)))):=by
 refine pa_ bW Tryz.func154 rfl rfl Tryz.ntmps154 (by simp) ?_
 simp only [argT,PV.av,ap',aqd,aqy]
 cases x<;>cases y
 ·skip
  repeat' (first
   | refine st_nil ?_
   | refine aM rfl rfl rfl rfl ph_ ?_
   | refine aN rfl rfl rfl rfl ph_ ?_
   | refine sS_ rfl rfl rfl ph_ ?_
   | refine aO rfl rfl rfl rfl ph_ ?_
   | refine aH rfl rfl rfl ?_
   | refine sk0_ rfl rfl ?_
   | (refine aV rfl (fun hb=>?_) (fun hb=>?_)<;>(first|exact (fx_ hb).elim|rw [hb]))
   | refine aw_seq ?_
   | refine aw_region bW _ rfl ?_
   | refine aw_drawn2 dJ _ rfl mixed (by decide +kernel) ?_
   | (refine aG rfl (fun hb=>?_) (fun hb=>?_)<;>(try exact (fx_ hb).elim))
   | refine aw_block ?_
   | refine aw_exit ?_
   | refine aw_ret ?_
   | refine aw_skip ?_)
  exact ⟨.inr rfl,⟨trivial,trivial⟩,rfl⟩
 ·skip
  repeat' (first
   | refine st_nil ?_
   | refine aM rfl rfl rfl rfl ph_ ?_
   | refine aN rfl rfl rfl rfl ph_ ?_
   | refine sS_ rfl rfl rfl ph_ ?_
   | refine aO rfl rfl rfl rfl ph_ ?_
   | refine aH rfl rfl rfl ?_
   | refine sk0_ rfl rfl ?_
   | (refine aV rfl (fun hb=>?_) (fun hb=>?_)<;>(first|exact (fx_ hb).elim|rw [hb]))
   | refine aw_seq ?_
   | refine aw_region bW _ rfl ?_
   | refine aw_drawn2 dJ _ rfl mixed (by decide +kernel) ?_
   | (refine aG rfl (fun hb=>?_) (fun hb=>?_)<;>(try exact (fx_ hb).elim))
   | refine aw_block ?_
   | refine aw_exit ?_
   | refine aw_ret ?_
   | refine aw_skip ?_)
  exact ⟨.inr rfl,⟨trivial,trivial⟩,rfl⟩
 ·skip
  repeat' (first
   | refine st_nil ?_
   | refine aM rfl rfl rfl rfl ph_ ?_
   | refine aN rfl rfl rfl rfl ph_ ?_
   | refine sS_ rfl rfl rfl ph_ ?_
   | refine aO rfl rfl rfl rfl ph_ ?_
   | refine aH rfl rfl rfl ?_
   | refine sk0_ rfl rfl ?_
   | (refine aV rfl (fun hb=>?_) (fun hb=>?_)<;>(first|exact (fx_ hb).elim|rw [hb]))
   | refine aw_seq ?_
   | refine aw_region bW _ rfl ?_
   | refine aw_drawn2 dJ _ rfl mixed (by decide +kernel) ?_
   | (refine aG rfl (fun hb=>?_) (fun hb=>?_)<;>(try exact (fx_ hb).elim))
   | refine aw_block ?_
   | refine aw_exit ?_
   | refine aw_ret ?_
   | refine aw_skip ?_)
  exact ⟨.inr rfl,⟨trivial,trivial⟩,rfl⟩
 ·skip
  repeat' (first
   | refine st_nil ?_
   | refine aM rfl rfl rfl rfl ph_ ?_
   | refine aN rfl rfl rfl rfl ph_ ?_
   | refine sS_ rfl rfl rfl ph_ ?_
   | refine aO rfl rfl rfl rfl ph_ ?_
   | refine aH rfl rfl rfl ?_
   | refine sk0_ rfl rfl ?_
   | (refine aV rfl (fun hb=>?_) (fun hb=>?_)<;>(first|exact (fx_ hb).elim|rw [hb]))
   | refine aw_seq ?_
   | refine aw_region bW _ rfl ?_
   | refine aw_drawn2 dJ _ rfl mixed (by decide +kernel) ?_
   | (refine aG rfl (fun hb=>?_) (fun hb=>?_)<;>(try exact (fx_ hb).elim))
   | refine aw_block ?_
   | refine aw_exit ?_
   | refine aw_ret ?_
   | refine aw_skip ?_)
  exact ⟨.inr rfl,⟨trivial,trivial⟩,rfl⟩
theorem aha {c:aC->aC->Bool} {b:List aC} {x:aC} (hx:aD x.valid=true) (hb:b.length<=1000):Pure Tryz.prog 96 [.one (.lst [bv x.valid]), .one (.lst ((fE c b x).map bv))] (.val (.one (.lst ((lq c b x).map bv)))):=by
 have hlp:(fE c b x).length<=1000:=Nat.le_trans (L9 c b x) hb
 obtain ⟨E,hp,hs,hed⟩:=Mj [x.valid] (fE c b x) (by simp) hlp
 have hE:E.length<=4000:=by rw [hp.length_eq];have:=V4 [x.valid] (fE c b x);simp at this;omega
 have hsw:=OQ (fun p q=>p && !q) 154 [] af8 [x.valid] (fE c b x) E hp hs hE hed
 rw [aeV hx hp hs (aqe _)] at hsw
 refine pa_ bW Tryz.func96 rfl rfl Tryz.ntmps96 (by simp) ?_
 simp only [argT,PV.av,ap',aqd]
 repeat' (first
  | refine st_nil ?_
  | refine aM rfl rfl rfl rfl ph_ ?_
  | refine aN rfl rfl rfl rfl ph_ ?_
  | refine sS_ rfl rfl rfl ph_ ?_
  | refine aO rfl rfl rfl rfl ph_ ?_
  | refine aH rfl rfl rfl ?_
  | refine sk0_ rfl rfl ?_
  | refine aZ rfl rfl rfl rfl hsw rfl ?_
  | (refine aV rfl (fun hb=>?_) (fun hb=>?_)<;>(first|exact (fx_ hb).elim|rw [hb]))
  | refine aw_seq ?_
  | refine aw_region bW _ rfl ?_
  | refine aw_drawn2 dJ _ rfl mixed (by decide +kernel) ?_
  | (refine aG rfl (fun hb=>?_) (fun hb=>?_)<;>(try exact (fx_ hb).elim))
  | refine aw_block ?_
  | refine aw_exit ?_
  | refine aw_ret ?_
  | refine aw_skip ?_)
 exact ⟨.inr rfl,⟨trivial,trivial⟩,rfl⟩
def encS (l:List aP):List SV:=[.c (.lst (l.map bv))]
theorem adh (ps:List (List aP)):(ps.map H6).map (List.map SV.c)=ps.map encS:=by rw [List.map_map];rfl
theorem M_ (n v k:Nat) (ps:List (List aP)):(Ob.row v (ps.map encS) k).below n:=by
 intro e he x hx
 obtain ⟨y,_,rfl⟩:=aqz.1 he
 simp [encS] at hx;subst hx;trivial
theorem anp (L:List Ob) (v:Nat) (ps:List (List aP)):joinL [] L [.dead, .dead, .dead, .row v (ps.map encS) 1]=L++[.dead, .dead, .dead, .row v (ps.map encS) 1]:=by
 have : ∀ σ,Ob.ren σ (.row v (ps.map encS) 1) = .row v (ps.map encS) 1:=fun σ=>by
  show Ob.row v ((ps.map encS).map (List.map (SV.ren σ))) 1=_
  rw [List.map_map];rfl
 simp [joinL,join,fJ,this]
 first|rfl|exact ⟨rfl,rfl,rfl⟩
def MO (al pt:List (List aP)) (i:Nat):List (List aP):=al.take i++pt.drop i
theorem akx {al pt:List (List aP)} {i:Nat} {x:List aP} (h:al.length=pt.length) (hx:al[i]?=some x):((MO al pt i).map encS).set (0+((i:Nat):Int).toNat) (encS x)=(MO al pt (i+1)).map encS:=by
 have hi:i<al.length:=(ap0.1 hx).1
 rw [aqH,Int.toNat_natCast, <- List.map_set]
 congr 1
 unfold MO
 have hl:(al.take i).length=i:=by rw [aqQ];omega
 rw [List.set_append_right _ _ (by omega),hl,Nat.sub_self,aqv (by omega),List.set_cons_zero,dw hx,aqp];rfl
theorem aiW {al pt:List (List aP)} {i:Nat} {y:List aP} (h:al.length=pt.length) (hy:pt[i]?=some y):((MO al pt i).map encS)[0+((i:Nat):Int).toNat]?=some (encS y):=by
 have hi:i<pt.length:=(ap0.1 hy).1
 rw [aqH,Int.toNat_natCast,aql]
 unfold MO
 have hl:(al.take i).length=i:=by rw [aqQ];omega
 rw [ap7 (by omega),hl,Nat.sub_self,aqL,Nat.add_zero,hy];rfl
theorem akA {al pt:List (List aP)} (h:al.length=pt.length) {i:Nat} (hi:i<=pt.length):((MO al pt i).map encS).length=pt.length:=by
 unfold MO;rw [aqa,ap8,aqQ,List.length_drop];omega
theorem abw (ps:List (List aP)):iC (ps.map encS)=some (ps.map H6):=by
 rw [<- adh];exact nA _
def AT (a:bH) (n i:Nat):Tm:=[(7, .one (.sl 6 vW 0 n)),(15, .one (.c (.lst (a.facts.map aU)))),(16, .one (.c (.int .i64 n))),(17, .one (.c (.int .i64 i)))]
theorem Y8 (a:bH) (n i:Nat):mh 7 (AT a n i):=⟨(by show 6<7;omega),trivial,trivial,trivial,trivial⟩
def ALs (ps:List (List aP)):List Ob:=[.dead, .dead, .dead, .dead, .dead, .dead, .row vW (ps.map encS) 1]
theorem NG (a b:bH) (e:Ex) (ha:a.facts.length<=12) (hb:b.facts.length<=1000) (hra : ∀ f∈a.facts,0<f.row.length/\f.row.length<=1000) (hrb : ∀ f∈b.facts,f.row.length<=1000) (hv : ∀ f∈a.facts,aD f.valid=true) (he:lF fuel e):Pure Tryz.prog 58 [.agg (bD a), .agg (bD b), .agg (tE e)] (.val (.one (.lst ((a.facts.map (lq (cT e) b.facts)).map H6)))):=by
 have hpart:=GG a b e ha hb hra hrb he
 rw [adh,aL e] at hpart
 have hlp:(a.facts.map (fE (cT e) b.facts)).length=a.facts.length:=aqa ..
 have hap:(a.facts.map (lq (cT e) b.facts)).length=(a.facts.map (fE (cT e) b.facts)).length:=by rw [aqa,aqa]
 rw [aL e]
 refine pa_ bW Tryz.func58 rfl rfl Tryz.ntmps58 (by simp) ?_
 simp only [argT,PV.av,bD,ap',aqd]
 repeat' (first
  | refine st_nil ?_
  | rw [aqa]
  | (refine bu 0 (ts:=bD a) rfl rfl ?_)
  | (refine bu 1 (ts:=bD b) rfl rfl ?_)
  | (refine bu 2 (ts:=xE e) rfl rfl ?_)
  | (refine eP [] rfl rfl rfl rfl hpart rfl ⟨rfl,List.nodup_nil,fun i y hy=>by simp at hy,fun x hx=>(by cases hx),dE ⟨(fun z hz=>by obtain ⟨w,_,rfl⟩:=aqz.1 (show z∈(bD a).map SV.c from hz);trivial),(fun z hz=>by obtain ⟨w,_,rfl⟩:=aqz.1 (show z∈(bD b).map SV.c from hz);trivial),(fun z hz=>by obtain ⟨w,_,rfl⟩:=aqz.1 (show z∈(xE e).map SV.c from hz);trivial),trivial⟩⟩ rfl (anp _ _ _) ?_)
  | (refine aM rfl rfl rfl rfl ?_ ?_; · (repeat' (first|exact trivial|rfl|exact ap_ rfl|omega|exact aqa .. | (simp only [aqk,aqu];omega)|exact aF (by intro _;rfl) _|(intro e he;simp at he;subst he;rfl)|(intro e he;obtain ⟨q,_,rfl⟩:=aqz.1 he;rfl)|(simp only [aqa];omega)|(simp only [aqa,ap8,aqk,aqu];omega)|apply And.intro)))
  | (refine aN rfl rfl rfl rfl ?_ ?_; · (repeat' (first|exact trivial|rfl|exact ap_ rfl|omega|exact aqa .. | (simp only [aqk,aqu];omega)|exact aF (by intro _;rfl) _|(intro e he;simp at he;subst he;rfl)|(intro e he;obtain ⟨q,_,rfl⟩:=aqz.1 he;rfl)|(simp only [aqa];omega)|(simp only [aqa,ap8,aqk,aqu];omega)|apply And.intro)))
  | (refine sS_ rfl rfl rfl ?_ ?_; · (repeat' (first|exact trivial|rfl|exact ap_ rfl|omega|exact aqa .. | (simp only [aqk,aqu];omega)|exact aF (by intro _;rfl) _|(intro e he;simp at he;subst he;rfl)|(intro e he;obtain ⟨q,_,rfl⟩:=aqz.1 he;rfl)|(simp only [aqa];omega)|(simp only [aqa,ap8,aqk,aqu];omega)|apply And.intro)))
  | (refine aO rfl rfl rfl rfl ?_ ?_; · (repeat' (first|exact trivial|rfl|exact ap_ rfl|omega|exact aqa .. | (simp only [aqk,aqu];omega)|exact aF (by intro _;rfl) _|(intro e he;simp at he;subst he;rfl)|(intro e he;obtain ⟨q,_,rfl⟩:=aqz.1 he;rfl)|(simp only [aqa];omega)|(simp only [aqa,ap8,aqk,aqu];omega)|apply And.intro)))
  | refine aH rfl rfl rfl ?_
  | refine sk0_ rfl rfl ?_
  | (refine aV rfl (fun hb=>?_) (fun hb=>?_)<;>(first|exact (fx_ hb).elim|rw [hb]))
  | refine aw_seq ?_
  | refine aw_region bW _ rfl ?_
  | refine aw_drawn2 dJ _ rfl mixed (by decide +kernel) ?_
  | (refine aG rfl (fun hb=>?_) (fun hb=>?_)<;>(try exact (fx_ hb).elim))
  | refine aw_block ?_
  | refine aw_exit ?_
  | refine aw_ret ?_
  | refine aw_skip ?_)
 refine eH (fun i:Nat=>AT a a.facts.length i) (fun i=>ALs (MO (a.facts.map (lq (cT e) b.facts)) (a.facts.map (fE (cT e) b.facts)) i)) (fun i=>i<=a.facts.length) (fun i=>a.facts.length-i) 0 (by omega) (fun _ _=>aqj _)
  (fm_ ⟨rfl,rfl,bB (by simp),rfl,trivial⟩ [] (by simp [MO,ALs]) (Y8 _ _ _) ⟨trivial,trivial,trivial,trivial,trivial,trivial,M_ _ _ _ _,trivial⟩) ?_
 intro i hi
 unfold AT ALs
 by_cases hlt:i<a.facts.length
 ·obtain ⟨x,hx⟩:=gol_ hlt
  have hxa:(a.facts.map (lq (cT e) b.facts))[i]?=some (lq (cT e) b.facts x):=by rw [aql,hx];rfl
  have hxp:(a.facts.map (fE (cT e) b.facts))[i]?=some (fE (cT e) b.facts x):=by rw [aql,hx];rfl
  have hsub:=aha (c:=cT e) (hv x (ap6 hx)) hb
  have hget:=aiW hap hxp
  have hset:=akx hap hxa
  have hml:=akA hap (i:=i) (by omega)
  rw [hlp] at hml
  generalize a.facts.map (lq (cT e) b.facts)=al at hxa hget hset hml hap ⊢
  generalize a.facts.map (fE (cT e) b.facts)=pt at hxp hget hset hml hap hlp ⊢
  repeat' (first
   | refine st_nil ?_
   | (refine sP rfl rfl rfl rfl rfl rfl rfl (e:=encS (fE (cT e) b.facts x)) (by exact hget) rfl ?_)
   | (refine vw rfl rfl rfl rfl rfl rfl (e:=encS (fE (cT e) b.facts x)) (by exact hget) ⟨ap_ rfl,rfl⟩ rfl ?_)
   | (refine aM rfl rfl rfl rfl ?_ ?_; · (repeat' (first|exact trivial|rfl|exact ap_ rfl|omega|exact aqa .. | (simp only [aqk,aqu];omega)|exact aF (by intro _;rfl) _|(intro e he;simp at he;subst he;rfl)|(intro e he;obtain ⟨q,_,rfl⟩:=aqz.1 he;rfl)|(simp only [aqa];omega)|(simp only [aqa,ap8,aqk,aqu];omega)|apply And.intro)))
   | (refine dm rfl rfl rfl rfl rfl rfl rfl rfl (cZ hx) ?_ ?_; · exact ⟨by omega,rfl⟩)
   | (refine aN rfl rfl rfl rfl ?_ ?_; · (repeat' (first|exact trivial|rfl|exact ap_ rfl|omega|exact aqa .. | (simp only [aqk,aqu];omega)|exact aF (by intro _;rfl) _|(intro e he;simp at he;subst he;rfl)|(intro e he;obtain ⟨q,_,rfl⟩:=aqz.1 he;rfl)|(simp only [aqa];omega)|(simp only [aqa,ap8,aqk,aqu];omega)|apply And.intro)))
   | (refine sS_ rfl rfl rfl ?_ ?_; · (repeat' (first|exact trivial|rfl|exact ap_ rfl|omega|exact aqa .. | (simp only [aqk,aqu];omega)|exact aF (by intro _;rfl) _|(intro e he;simp at he;subst he;rfl)|(intro e he;obtain ⟨q,_,rfl⟩:=aqz.1 he;rfl)|(simp only [aqa];omega)|(simp only [aqa,ap8,aqk,aqu];omega)|apply And.intro)))
   | (refine aO rfl rfl rfl rfl ?_ ?_; · (repeat' (first|exact trivial|rfl|exact ap_ rfl|omega|exact aqa .. | (simp only [aqk,aqu];omega)|exact aF (by intro _;rfl) _|(intro e he;simp at he;subst he;rfl)|(intro e he;obtain ⟨q,_,rfl⟩:=aqz.1 he;rfl)|(simp only [aqa];omega)|(simp only [aqa,ap8,aqk,aqu];omega)|apply And.intro)))
   | refine aH rfl rfl rfl ?_
   | refine sk0_ rfl rfl ?_
   | refine aZ rfl rfl rfl rfl hsub rfl ?_
   | (refine aV rfl (fun hb=>?_) (fun hb=>?_)<;>(first|exact (fx_ hb).elim|rw [hb]))
   | refine aw_seq ?_
   | refine aw_region bW _ rfl ?_
   | refine aw_drawn2 dJ _ rfl mixed (by decide +kernel) ?_
   | (refine aG rfl (fun hb=>?_) (fun hb=>?_)<;>(try exact (fx_ hb).elim))
   | refine aw_block ?_
   | refine aw_exit ?_
   | refine aw_ret ?_
   | refine aw_skip ?_)
  exact ⟨i+1,by omega,by omega,fm_ ⟨rfl,rfl,rfl,bB (bF (by omega) (by omega)),trivial⟩ [_] (by rw [<- hset];rfl) (Y8 _ _ _) ⟨trivial,trivial,trivial,trivial,trivial,trivial,M_ _ _ _ _,trivial⟩⟩
 ·have hi2:i=a.facts.length:=by omega
  have hmx:MO (a.facts.map (lq (cT e) b.facts)) (a.facts.map (fE (cT e) b.facts)) i=a.facts.map (lq (cT e) b.facts):=by
   unfold MO
   rw [aqE (by rw [aqa];omega),List.drop_eq_nil_of_le (by rw [aqa];omega),aqy]
  rw [hmx,hi2]
  refine nZ 6 7 (cs:=(a.facts.map (lq (cT e) b.facts)).map H6) rfl (abw _) rfl (by simp) ?_
  repeat' (first
   | refine st_nil ?_
   | (refine aM rfl rfl rfl rfl ?_ ?_; · (repeat' (first|exact trivial|rfl|exact ap_ rfl|omega|exact aqa .. | (simp only [aqk,aqu];omega)|exact aF (by intro _;rfl) _|(intro e he;simp at he;subst he;rfl)|(intro e he;obtain ⟨q,_,rfl⟩:=aqz.1 he;rfl)|(simp only [aqa];omega)|(simp only [aqa,ap8,aqk,aqu];omega)|apply And.intro)))
   | (refine aN rfl rfl rfl rfl ?_ ?_; · (repeat' (first|exact trivial|rfl|exact ap_ rfl|omega|exact aqa .. | (simp only [aqk,aqu];omega)|exact aF (by intro _;rfl) _|(intro e he;simp at he;subst he;rfl)|(intro e he;obtain ⟨q,_,rfl⟩:=aqz.1 he;rfl)|(simp only [aqa];omega)|(simp only [aqa,ap8,aqk,aqu];omega)|apply And.intro)))
   | (refine sS_ rfl rfl rfl ?_ ?_; · (repeat' (first|exact trivial|rfl|exact ap_ rfl|omega|exact aqa .. | (simp only [aqk,aqu];omega)|exact aF (by intro _;rfl) _|(intro e he;simp at he;subst he;rfl)|(intro e he;obtain ⟨q,_,rfl⟩:=aqz.1 he;rfl)|(simp only [aqa];omega)|(simp only [aqa,ap8,aqk,aqu];omega)|apply And.intro)))
   | (refine aO rfl rfl rfl rfl ?_ ?_; · (repeat' (first|exact trivial|rfl|exact ap_ rfl|omega|exact aqa .. | (simp only [aqk,aqu];omega)|exact aF (by intro _;rfl) _|(intro e he;simp at he;subst he;rfl)|(intro e he;obtain ⟨q,_,rfl⟩:=aqz.1 he;rfl)|(simp only [aqa];omega)|(simp only [aqa,ap8,aqk,aqu];omega)|apply And.intro)))
   | refine aH rfl rfl rfl ?_
   | refine sk0_ rfl rfl ?_
   | (refine aV rfl (fun hb=>?_) (fun hb=>?_)<;>(first|exact (fx_ hb).elim|rw [hb]))
   | refine aw_seq ?_
   | refine aw_region bW _ rfl ?_
   | refine aw_drawn2 dJ _ rfl mixed (by decide +kernel) ?_
   | (refine aG rfl (fun hb=>?_) (fun hb=>?_)<;>(try exact (fx_ hb).elim))
   | refine aw_block ?_
   | refine aw_exit ?_
   | refine aw_ret ?_
   | refine aw_skip ?_)
  refine ⟨.inr rfl,?_⟩
  first|exact ⟨trivial,rfl⟩|exact ⟨⟨trivial,trivial⟩,rfl⟩|(refine ⟨?_,rfl⟩;repeat' (first|exact trivial|rfl|apply And.intro))
end Go.Proofs.YtlcceppoloaecaaGreatDoor
