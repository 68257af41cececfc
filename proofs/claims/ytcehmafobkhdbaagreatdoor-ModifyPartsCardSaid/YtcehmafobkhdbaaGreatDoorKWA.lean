/- Parts. No condition. -/
import Derived.Test.YtcehmafobkhdbaaGreatDoorKBN
set_option linter.unusedSimpArgs false
set_option linter.unusedVariables false
namespace Go.Proofs.YtcehmafobkhdbaaGreatDoor
open Go.RowKit Go.MapKept
set_option maxRecDepth 100000
theorem zadB (s t:List aj) (r:List Val):bD (s++t) r=bD s r++bD t r:=by unfold bD;rw [List.filter_append,ag8]
theorem zabY (r:List Val) : ∀ ps:List aI,(∀ p∈ps,St.aO (toP p)=true)->bD (ps.map fun p=>(⟨r,p⟩:aj)) r=ps
 | [],_=>rfl
 | p::ps,h=>by
  have ih:=zabY r ps fun q hq=>h q (ahh _ hq)
  have hp:aL p=true:=h p (ahG ..)
  unfold bD at ih ⊢
  rw [ag6,List.filter_cons_of_pos (by simp [hp]),ag6,ih]
theorem zacX {r x:List Val} (hx:x≠r) (ps:List aI):bD (ps.map fun p=>(⟨x,p⟩:aj)) r=[]:=by
 unfold bD
 rw [List.map_eq_nil_iff,List.filter_eq_nil_iff]
 intro f hf h
 obtain ⟨p,_,rfl⟩:=aht.1 hf
 simp only [ahb,decide_eq_true_eq] at h
 exact hx h.2
theorem zabs (L:List Val->List aI) (hL : ∀ r, ∀ p∈L r,St.aO (toP p)=true) : ∀ (R:List (List Val)),Nt R -> ∀ r,bD (R.flatMap fun r=>(L r).map fun p=>(⟨r,p⟩:aj)) r=if r∈R then L r else []
 | [],_,r=>rfl
 | x::R,h,r=>by
  have ih:=zabs L hL R (List.Pairwise.of_cons h) r
  rw [ahw,zadB,ih]
  by_cases hx:x=r
  ·subst hx
   rw [zabY x _ (hL x),if_neg (Qb h),if_pos (ahG ..),ahs]
  ·rw [zacX hx,ag0]
   by_cases hr:r∈R
   ·rw [if_pos hr,if_pos (ahh _ hr)]
   ·rw [if_neg hr,if_neg (by intro h;rcases aha.1 h with h|h;exact hx h.symm;exact hr h)]
section
variable {l:List aj} {R:List (List Val)} (h:fV l R) (hn:l.length<=300)
include h hn
theorem zadp (r:List Val):bD (fO l R) r=if r∈R then bR (bD l r) else [] :=
 zabs (fun r=>bR (bD l r)) (fun r p hp=>mg _ (Nat.le_trans (il l r) hn) p hp) R h.1 r
end
theorem zaeI {l:List aj} {R:List (List Val)} (h:fV l R) (hn:l.length<=300) (t:Int):(aS (fO l R) t).Perm (aS l t):=by
 rw [List.perm_iff_count]
 intro r
 rw [za,za,zadp h hn r]
 split
 ·exact C8 _ (Nat.le_trans (il l r) hn) t
 ·rename_i hr
  rw [UV h hr]
open Go.RowKit
theorem zab9 (g:List Val->List Val) (t:Int) : ∀ l:List aj,aS (l.map fun f=>(⟨g f.row,f.valid⟩:aj)) t=(aS l t).map g
 | []=>rfl
 | f::l=>by
  have ih:=zab9 g t l
  unfold aS at ih ⊢
  rw [ag6,List.filter_cons,List.filter_cons]
  by_cases h2:aX f.valid t=true
  ·rw [if_pos h2,if_pos h2,ag6,ag6,ag6,ih]
  ·rw [if_neg h2,if_neg h2,ih]
theorem zaaq (a b:List aj) (t:Int):aS (a++b) t=aS a t++aS b t:=by unfold aS;rw [List.filter_append,ag8]
theorem zaau {l:List aj} (hn:l.length<=300) (t:Int):(aS (canon l) t).Perm (aS l t):=zaeI (ry l) hn t
theorem zabL {l:List aj} (hn:l.length<=300):canon (canon l)=canon l:=kg (Nat.le_trans (dS hn) hn) hn (zaau hn)
theorem zaar (p:aI) (t:Int):aX p t=true↔aL p=true/\p.lo<=t/\t<p.hi:=by
 constructor
 ·intro h
  have hv:aL p=true:=by
   have h2:St.a_ (toP p) t=true:=h
   unfold St.a_ at h2
   rw [ahb,ahb] at h2
   exact h2.1.1
  obtain ⟨a,b,c⟩:=qW hv
  exact ⟨hv,(eO ⟨a,b,c⟩ t).1 h⟩
 ·rintro ⟨hv,h⟩
  obtain ⟨a,b,c⟩:=qW hv
  exact (eO ⟨a,b,c⟩ t).2 h
theorem zaeb {p q:aI} (h:BL p q=true) (t:Int):aX (Ay p q) t=(aX p t&&aX q t):=by
 obtain ⟨hp,hq,h1,h2⟩:=(Aq p q).1 h
 have hp':=(fe p).1 hp
 have hq':=(fe q).1 hq
 refine Jm ?_
 rw [ahb,zaar,zaar,zaar,fe,hp,hq]
 show ((0<=max p.lo q.lo/\max p.lo q.lo<min p.hi q.hi/\min p.hi q.hi<=1099511627776)/\max p.lo q.lo<=t/\t<min p.hi q.hi)↔_
 simp only [true_and]
 omega
theorem zadr {p q:aI} (h:BL p q=false) (t:Int):(aX p t&&aX q t)=false:=by
 cases hc:(aX p t&&aX q t) with
 | false=>rfl
 | true =>
  rw [ahb,zaar,zaar] at hc
  obtain ⟨⟨hp,h1,h2⟩,hq,h3,h4⟩:=hc
  have:BL p q=true:=(Aq p q).2 ⟨hp,hq,by omega,by omega⟩
  rw [h] at this;cases this
theorem zaa4 (f:aj) (l:List aj) (t:Int):aS (f::l) t=(if aX f.valid t=true then [f.row] else [])++aS l t:=by
 unfold aS
 rw [List.filter_cons]
 split<;>rfl
theorem zaa0 (r:List Val) (p:aI) (t:Int):aS [⟨r,p⟩] t=if aX p t=true then [r] else []:=by
 rw [zaa4];exact ahs _
theorem zaa7 (lo hi t:Int) (h:0<=lo/\lo<hi/\hi<=1099511627776):aX ⟨lo,hi⟩ t=true↔lo<=t/\t<hi:=by
 rw [zaar,fe]
 constructor
 ·exact fun x=>x.2
 ·exact fun x=>⟨h,x⟩
theorem zad3 {p q:aI} (h:BL p q=true) (r:List Val) (t:Int):aS (mW r (EF p q)) t=if (aX p t && !(aX q t))=true then [r] else []:=by
 obtain ⟨hp,hq,h1,h2⟩:=(Aq p q).1 h
 have hp':=(fe p).1 hp
 have hq':=(fe q).1 hq
 have e1:aS (mW r (if p.lo<q.lo then [(⟨p.lo,q.lo⟩:aI)] else [])) t=if p.lo<=t/\t<q.lo then [r] else []:=by
  by_cases hc:p.lo<q.lo
  ·rw [if_pos hc]
   show aS [⟨r,⟨p.lo,q.lo⟩⟩] t=_
   rw [zaa0]
   by_cases hd:p.lo<=t/\t<q.lo
   ·rw [if_pos hd,if_pos ((zaa7 _ _ _ (by omega)).2 hd)]
   ·rw [if_neg hd,if_neg (fun x=>hd ((zaa7 _ _ _ (by omega)).1 x))]
  ·rw [if_neg hc,if_neg (by omega)];rfl
 have e2:aS (mW r (if q.hi<p.hi then [(⟨q.hi,p.hi⟩:aI)] else [])) t=if q.hi<=t/\t<p.hi then [r] else []:=by
  by_cases hc:q.hi<p.hi
  ·rw [if_pos hc]
   show aS [⟨r,⟨q.hi,p.hi⟩⟩] t=_
   rw [zaa0]
   by_cases hd:q.hi<=t/\t<p.hi
   ·rw [if_pos hd,if_pos ((zaa7 _ _ _ (by omega)).2 hd)]
   ·rw [if_neg hd,if_neg (fun x=>hd ((zaa7 _ _ _ (by omega)).1 x))]
  ·rw [if_neg hc,if_neg (by omega)];rfl
 have e0:mW r (EF p q)=mW r (if p.lo<q.lo then [(⟨p.lo,q.lo⟩:aI)] else [])++mW r (if q.hi<p.hi then [(⟨q.hi,p.hi⟩:aI)] else []):=ag8
 rw [e0,zaaq,e1,e2]
 have hcp:aX p t=true↔p.lo<=t/\t<p.hi:=by rw [zaar];exact ⟨fun x=>x.2,fun x=>⟨hp,x⟩⟩
 have hcq:aX q t=true↔q.lo<=t/\t<q.hi:=by rw [zaar];exact ⟨fun x=>x.2,fun x=>⟨hq,x⟩⟩
 have hx:(aX p t && !(aX q t))=true↔(p.lo<=t/\t<p.hi) /\ ¬ (q.lo<=t/\t<q.hi):=by
  rw [ahb,Bool.not_eq_true', <- hcp, <- hcq,Bool.not_eq_true]
 by_cases ha:p.lo<=t/\t<q.lo
 ·rw [if_pos ha,if_neg (by omega),if_pos (hx.2 (by omega))];rfl
 ·by_cases hb:q.hi<=t/\t<p.hi
  ·rw [if_neg ha,if_pos hb,if_pos (hx.2 (by omega))];rfl
  ·rw [if_neg ha,if_neg hb,if_neg (fun x=>by have:=hx.1 x;omega)];rfl
theorem zaaT (g:aj->List aj) (k:List Val->List (List Val)) (t:Int) (h : ∀ f:aj,aS (g f) t=if aX f.valid t=true then k f.row else []) : ∀ l:List aj,aS (l.flatMap g) t=(aS l t).flatMap k
 | []=>rfl
 | f::l=>by
  have e:(f::l).flatMap g=g f++l.flatMap g:=by simp
  rw [e,zaaq,zaa4,zaaT g k t h l,h f]
  by_cases hc:aX f.valid t=true
  ·rw [if_pos hc,if_pos hc,List.flatMap_append,show [f.row].flatMap k=k f.row by simp]
  ·rw [if_neg hc,if_neg hc];rfl
theorem zaeg (e:Ex) (p:aI) (t:Int) (f:aj):aS (iO e p f) t=if aX f.valid t=true then (if (aX p t&&oZ e f.row)=true then [] else [f.row]) else []:=by
 unfold iO
 by_cases hh:Ej e p f=true
 ·rw [if_pos hh]
  have h2:BL f.valid p=true/\oZ e f.row=true:=by unfold Ej at hh;rwa [ahb] at hh
  rw [zad3 h2.1,h2.2]
  cases aX f.valid t<;>cases aX p t<;>rfl
 ·rw [if_neg hh]
  have er:aS [f] t=if aX f.valid t=true then [f.row] else []:=zaa0 f.row f.valid t
  rw [er]
  cases hs:oZ e f.row
  ·rw [Bool.and_false];cases aX f.valid t<;>rfl
  ·have ho:BL f.valid p=false:=by
    cases ho:BL f.valid p with
    | false=>rfl
    | true=>exact absurd (by unfold Ej;rw [ho,hs];rfl) hh
   have:=zadr ho t
   cases h1:aX f.valid t with
   | false=>rfl
   | true=>rw [h1,ahr] at this;rw [this];rfl
theorem zadq (e:Ex) (p:aI) (t:Int) (g:List Val->List Val) (f:aj):aS (if Ej e p f=true then [(⟨g f.row,Ay f.valid p⟩:aj)] else []) t=if aX f.valid t=true then (if (aX p t&&oZ e f.row)=true then [g f.row] else []) else []:=by
 by_cases hh:Ej e p f=true
 ·rw [if_pos hh]
  have h2:BL f.valid p=true/\oZ e f.row=true:=by unfold Ej at hh;rwa [ahb] at hh
  rw [zaa0,zaeb h2.1,h2.2]
  cases aX f.valid t<;>cases aX p t<;>rfl
 ·rw [if_neg hh]
  cases hs:oZ e f.row
  ·rw [Bool.and_false];cases aX f.valid t<;>rfl
  ·have ho:BL f.valid p=false:=by
    cases ho:BL f.valid p with
    | false=>rfl
    | true=>exact absurd (by unfold Ej;rw [ho,hs];rfl) hh
   have:=zadr ho t
   cases h1:aX f.valid t with
   | false=>rfl
   | true=>rw [h1,ahr] at this;rw [this];rfl
def zabp (e:Ex) (p:aI) (t:Int) (r:List Val):Bool:=aX p t&&oZ e r
theorem zabM {α:Type} (c:α->Bool) : ∀ l:List α,(l.flatMap fun x=>if c x=true then [] else [x])=l.filter fun x => !(c x)
 | []=>rfl
 | x::l=>by
  have e:((x::l).flatMap fun x=>if c x=true then [] else [x])=(if c x=true then [] else [x])++l.flatMap fun x=>if c x=true then [] else [x]:=by simp
  rw [e,zabM c l,List.filter_cons]
  cases c x<;>rfl
theorem zaas (e:Ex) (p:aI) (t:Int) (l:List aj):aS (l.flatMap (iO e p)) t=(aS l t).filter fun r => !(zabp e p t r):=by
 rw [zaaT (iO e p) (fun r=>if zabp e p t r=true then [] else [r]) t (zaeg e p t),zabM]
theorem zac5 (e:Ex) (s:List Ex) (p:aI) (t:Int) (l:List aj):aS (l.flatMap (D5 e s p)) t=((aS l t).filter (zabp e p t)).map (qB s):=by
 rw [zaaT (D5 e s p) (fun r=>if zabp e p t r=true then [qB s r] else []) t (zadq e p t (qB s)),ja]
theorem zab0 (e:Ex) (p:aI) (t:Int) (l:List aj):aS (l.flatMap (oH e p)) t=(aS l t).filter (zabp e p t):=by
 rw [zaaT (oH e p) (fun r=>if zabp e p t r=true then [id r] else []) t (zadq e p t id),ja,List.map_id]
theorem zaer {e:Ex} {p:aI} {f x:aj} (h:x∈oH e p f):x.row=f.row:=by
 unfold oH at h
 split at h
 ·rw [ahz.1 h]
 ·cases h
theorem zabx {l:List aj} (h:bM l) (hn:l.length<=100) (e:Ex) (p:aI):bM (l.flatMap (oH e p)):=by
 refine ⟨?_,?_⟩
 ·have:=bv _ 1 (wO e p) l;omega
 ·intro x hx
  obtain ⟨f,hf,hx⟩:=List.mem_flatMap.1 hx
  rw [zaer hx];exact h.2 f hf
theorem zaa2 (e:Ex) (s:List Ex) (p:aI) (t:Int) (l:List aj):(aS (l.flatMap (Bt e s p)) t).Perm (((aS l t).filter fun r => !(zabp e p t r))++((aS l t).filter (zabp e p t)).map (qB s)):=by
 refine (FW (EQ (iO e p) (D5 e s p) l) t).trans ?_
 rw [zaaq,zaas,zac5]
theorem zadQ {l:List aj} (hn:l.length<=90) (e:Ex) (p:aI):canon (canon (l.flatMap (iO e p))++canon (l.flatMap (oH e p)))=canon l:=by
 have h2:=bv _ 2 (gV e p) l
 have h3:=bv _ 1 (wO e p) l
 have h4:=dS (l:=l.flatMap (iO e p)) (by omega)
 have h5:=dS (l:=l.flatMap (oH e p)) (by omega)
 refine kg (by rw [ag3];omega) (by omega) fun t=>?_
 rw [zaaq]
 refine ((zaau (by omega) t).append (zaau (by omega) t)).trans ?_
 rw [zaas,zab0]
 exact List.perm_append_comm.trans (List.filter_append_perm (zabp e p t) _)
theorem zadO {l:List aj} (hn:l.length<=90) (e:Ex) (s:List Ex) (p:aI):canon (canon (l.flatMap (iO e p))++(canon (l.flatMap (oH e p))).map fun f=>(⟨qB s f.row,f.valid⟩:aj))=canon (l.flatMap (Bt e s p)):=by
 have h1:=bv _ 3 (rZ e s p) l
 have h2:=bv _ 2 (gV e p) l
 have h3:=bv _ 1 (wO e p) l
 have h4:=dS (l:=l.flatMap (iO e p)) (by omega)
 have h5:=dS (l:=l.flatMap (oH e p)) (by omega)
 refine kg (by rw [ag3,ag7];omega) (by omega) fun t=>?_
 rw [zaaq,zab9]
 refine .trans ?_ (zaa2 e s p t l).symm
 rw [<- zaas, <- zab0]
 exact (zaau (by omega) t).append ((zaau (by omega) t).map _)
theorem zaes {l:List aj} (hn:l.length<=90) (e:Ex) (p:aI):canon ((canon l).flatMap (iO e p))=canon (l.flatMap (iO e p)):=by
 have h4:=dS (l:=l) (by omega)
 have h1:=bv _ 2 (gV e p) l
 have h2:=bv _ 2 (gV e p) (canon l)
 refine kg (by omega) (by omega) fun t=>?_
 rw [zaas,zaas]
 exact (zaau (by omega) t).filter _
theorem zaem {l:List aj} (hn:l.length<=90) (e:Ex) (s:List Ex) (p:aI):canon ((canon l).flatMap (Bt e s p))=canon (l.flatMap (Bt e s p)):=by
 have h4:=dS (l:=l) (by omega)
 have h1:=bv _ 3 (rZ e s p) l
 have h2:=bv _ 3 (rZ e s p) (canon l)
 refine kg (by omega) (by omega) fun t=>?_
 have hc:=zaau (l:=l) (by omega) t
 exact (zaa2 e s p t _).trans (((hc.filter _).append ((hc.filter _).map _)).trans (zaa2 e s p t l).symm)
set_option maxHeartbeats 8000000
noncomputable section
theorem zaa1 {a_row:(List Val)} {a_l:(List aI)} {r:(List aj)} (H:bu a_row a_l=some r):Pure Tryz.prog 40 [.one (.lst (a_row.map cV)), .one (.lst (a_l.map bE))] (.val (.one (.lst (r.map aJ)))):=by
 unfold bu at H
 refine po_ Tryz.func40 Tryz.ntmps40 ?_
 refine bF ?_
 refine bX 5 3 rfl ?_
 refine alM_ (fun s:(List aj) × Int=>match s with|(out_1,v_2)=>[(0, .one (.c (.lst (a_row.map cV)))),(5, .one (.own (out_1.map aJ) 0)),(8, .one (.c (.lst (a_l.map bE)))),(9, .one (.c (.int .i64 ((a_l.length:Nat):Int)))),(10, .one (.c (.int .i64 v_2)))]) (fun s=>match s with|(out_1,v_2)=>[.spare out_1.length 3]) H (fun _=>ahe _)
  (fm_ dh [] rfl bH dw) ?_
 rintro ⟨out_1,v_2⟩ st1 hb1 hk1
 unfold dQ at hb1
 dsimp only at hb1 ⊢
 rcases af hb1 with ⟨q_3,hb1⟩|⟨q_3,hb1⟩
 ·obtain ⟨x_4,i1z,i1,i1x,hb1⟩:=aY (f:=bE) hb1
  obtain ⟨g2,hb1⟩:=aG hb1
  cases hb1
  refine bF ?_
  exact ⟨_,rfl,fm_ lC [_] lD bH dw⟩
 cases hb1
 have hx1:cz (.inl (out_1,v_2))=some _:=hk1
 unfold cz at hx1
 dsimp only at hx1
 cases hx1
 exact aD
def zabb (a_f:aj) (v_0:Ex) (v_1:aI):Option ((List aj)):=(eX a_f v_0 v_1).bind fun r_1=>bif (!r_1.2) then (bu a_f.row [a_f.valid]).bind fun r_3=>some r_3 else
 (xP a_f.valid r_1.1).bind fun r_4=>(bu a_f.row r_4).bind fun r_5=>some r_5
theorem zacG {a_f:aj} {v_0:Ex} {v_1:aI} {r:(List aj)} (H:zabb a_f v_0 v_1=some r):Pure Tryz.prog 44 [.agg (aJ a_f), .one (.ref [.int .i64 v_0.op, .int .i64 v_0.int, .int .i64 v_0.v.kind, .int .i64 v_0.v.int, .str v_0.v.text, .str v_0.nm, .lst (v_0.args.map tE)]), .one (.ref [.int .i64 v_1.lo, .int .i64 v_1.hi])] (.val (.one (.lst (r.map aJ)))):=by
 unfold zabb at H
 refine po_ Tryz.func44 Tryz.ntmps44 ?_
 obtain ⟨r_1,c1,H⟩:=bd_ H
 replace c1:=fE c1
 try simp only [ag8,ag6,ag_,ag0,aC] at c1
 rcases af H with ⟨q_2,H⟩|⟨q_2,H⟩
 ·obtain ⟨r_3,c2,H⟩:=bd_ H
  replace c2:=zaa1 c2
  try simp only [ag8,ag6,ag_,ag0,aC] at c2
  cases H
  exact aD
 obtain ⟨r_4,c3,H⟩:=bd_ H
 replace c3:=uU c3
 obtain ⟨r_5,c4,H⟩:=bd_ H
 replace c4:=zaa1 c4
 cases H
 exact aD
def zaay (a_l:(List aj)) (a_e:Ex) (a_p:aI):Option ((List aj)):=(nJ a_l (fun x0=>zabb x0 a_e a_p)).bind fun r_1=>(Dw r_1).bind fun r_2=>some r_2
theorem zaaw {a_l:(List aj)} {a_e:Ex} {a_p:aI} {r:(List aj)} (H:zaay a_l a_e a_p=some r):Pure Tryz.prog 14 [.one (.lst (a_l.map aJ)), .agg (tE a_e), .agg (bE a_p)] (.val (.one (.lst (r.map aJ)))):=by
 unfold zaay at H
 rw [aC a_e]
 refine po_ Tryz.func14 Tryz.ntmps14 ?_
 repeat' (first|refine gs0_ ?_|fail)
 refine aw_region tab_ok _ rfl ?_
 repeat' (first|refine gs0_ ?_|fail)
 refine bI 0 (by rfl) (by rfl) ?_
 simp only [ag6,ag_,Md,Ns,OI,iF,List.drop,if_true,List.set]
 repeat' (first|refine gs0_ ?_|fail)
 refine bI 1 (by rfl) (by rfl) ?_
 simp only [ag6,ag_,Md,Ns,OI,iF,List.drop,if_true,List.set]
 obtain ⟨r_1,c1,H⟩:=bd_ H
 replace c1:=uN (F_a_f:=44) (caps_a_f:=[.ref [.int .i64 a_e.op, .int .i64 a_e.int, .int .i64 a_e.v.kind, .int .i64 a_e.v.int, .str a_e.v.text, .str a_e.nm, .lst (a_e.args.map tE)], .ref [.int .i64 a_p.lo, .int .i64 a_p.hi]]) (fun x0 r h=>zacG h) c1
 try simp only [ag8,ag6,ag_,ag0,aC] at c1
 obtain ⟨r_2,c2,H⟩:=bd_ H
 replace c2:=GN c2
 cases H
 exact aD
def zaba (a_f:aj) (v_0:Ex) (v_1:aI):Option ((List aj)):=(eX a_f v_0 v_1).bind fun r_1=>bif (!r_1.2) then some [] else
 (bu a_f.row [r_1.1]).bind fun r_3=>some r_3
theorem zac1 {a_f:aj} {v_0:Ex} {v_1:aI} {r:(List aj)} (H:zaba a_f v_0 v_1=some r):Pure Tryz.prog 48 [.agg (aJ a_f), .one (.ref [.int .i64 v_0.op, .int .i64 v_0.int, .int .i64 v_0.v.kind, .int .i64 v_0.v.int, .str v_0.v.text, .str v_0.nm, .lst (v_0.args.map tE)]), .one (.ref [.int .i64 v_1.lo, .int .i64 v_1.hi])] (.val (.one (.lst (r.map aJ)))):=by
 unfold zaba at H
 refine po_ Tryz.func48 Tryz.ntmps48 ?_
 obtain ⟨r_1,c1,H⟩:=bd_ H
 replace c1:=fE c1
 try simp only [ag8,ag6,ag_,ag0,aC] at c1
 rcases af H with ⟨q_2,H⟩|⟨q_2,H⟩
 ·cases H
  exact aD
 obtain ⟨r_3,c2,H⟩:=bd_ H
 replace c2:=zaa1 c2
 try simp only [ag8,ag6,ag_,ag0,aC] at c2
 cases H
 exact aD
def zabd (a_l:(List aj)) (a_e:Ex) (a_p:aI):Option ((List aj)):=(nJ a_l (fun x0=>zaba x0 a_e a_p)).bind fun r_1=>(Dw r_1).bind fun r_2=>some r_2
theorem zabW {a_l:(List aj)} {a_e:Ex} {a_p:aI} {r:(List aj)} (H:zabd a_l a_e a_p=some r):Pure Tryz.prog 16 [.one (.lst (a_l.map aJ)), .agg (tE a_e), .agg (bE a_p)] (.val (.one (.lst (r.map aJ)))):=by
 unfold zabd at H
 rw [aC a_e]
 refine po_ Tryz.func16 Tryz.ntmps16 ?_
 repeat' (first|refine gs0_ ?_|fail)
 refine aw_region tab_ok _ rfl ?_
 repeat' (first|refine gs0_ ?_|fail)
 refine bI 0 (by rfl) (by rfl) ?_
 simp only [ag6,ag_,Md,Ns,OI,iF,List.drop,if_true,List.set]
 repeat' (first|refine gs0_ ?_|fail)
 refine bI 1 (by rfl) (by rfl) ?_
 simp only [ag6,ag_,Md,Ns,OI,iF,List.drop,if_true,List.set]
 obtain ⟨r_1,c1,H⟩:=bd_ H
 replace c1:=uN (F_a_f:=48) (caps_a_f:=[.ref [.int .i64 a_e.op, .int .i64 a_e.int, .int .i64 a_e.v.kind, .int .i64 a_e.v.int, .str a_e.v.text, .str a_e.nm, .lst (a_e.args.map tE)], .ref [.int .i64 a_p.lo, .int .i64 a_p.hi]]) (fun x0 r h=>zac1 h) c1
 try simp only [ag8,ag6,ag_,ag0,aC] at c1
 obtain ⟨r_2,c2,H⟩:=bd_ H
 replace c2:=GN c2
 cases H
 exact aD
end
set_option maxHeartbeats 8000000
noncomputable section
def zabe (a_a:(List aj)) (a_b:(List aj)):Option (Bool):=(kU a_a).bind fun r_1=>(kU a_b).bind fun r_2=>(kM r_1 r_2).bind fun r_3=>some r_3
theorem zaca {a_a:(List aj)} {a_b:(List aj)} {r:Bool} (H:zabe a_a a_b=some r):Pure Tryz.prog 26 [.one (.lst (a_a.map aJ)), .one (.lst (a_b.map aJ))] (.val (.one (.bool r))):=by
 unfold zabe at H
 refine po_ Tryz.func26 Tryz.ntmps26 ?_
 obtain ⟨r_1,c1,H⟩:=bd_ H
 replace c1:=oW c1
 obtain ⟨r_2,c2,H⟩:=bd_ H
 replace c2:=oW c2
 obtain ⟨r_3,c3,H⟩:=bd_ H
 replace c3:=jm c3
 cases H
 exact aD
end
theorem zacM {e:Ex} (he:fH fuel e) (f:aj) (p:aI):zabb f e p=some (iO e p f):=by
 unfold zabb iO Ej
 rw [BR he,agU]
 cases ho:BL f.valid p with
 | false =>
  rw [if_neg (by intro x;cases x),Bool.false_and,if_neg (by intro x;cases x)]
  show (bu f.row [f.valid]).bind _=_
  rw [iU _ _ (by simp),Di];rfl
 | true =>
  rw [if_pos rfl,ahr]
  cases hs:oZ e f.row with
  | false =>
   rw [if_neg (by intro x;cases x)]
   show (bu f.row [f.valid]).bind _=_
   rw [iU _ _ (by simp),Di];rfl
  | true =>
   rw [if_pos rfl]
   show (xP f.valid (Ay f.valid p)).bind _=_
   rw [RN ho,agU,iU _ _ (by have:=N9 f.valid p;omega)];rfl
theorem zacQ {e:Ex} (he:fH fuel e) (f:aj) (p:aI):zaba f e p=some (oH e p f):=by
 unfold zaba oH Ej
 rw [BR he,agU]
 cases ho:BL f.valid p with
 | false=>rfl
 | true =>
  rw [if_pos rfl,ahr]
  cases hs:oZ e f.row with
  | false=>rfl
  | true =>
   rw [if_pos rfl]
   show (bu f.row [Ay f.valid p]).bind _=_
   rw [iU _ _ (by simp)];rfl
theorem zaav {l:List aj} (h:bM l) (hn:l.length<=100) {e:Ex} (he:fH fuel e) (p:aI):zaay l e p=some (canon (l.flatMap (iO e p))):=by
 unfold zaay
 rw [EB (iO e p) 2 (fun f _=>zacM he f p) (gV e p) (by omega) (by omega),agU,qY (o9 h hn e p)];rfl
theorem zab2 {l:List aj} (h:bM l) (hn:l.length<=100) {e:Ex} (he:fH fuel e) (p:aI):zabd l e p=some (canon (l.flatMap (oH e p))):=by
 unfold zabd
 rw [EB (oH e p) 1 (fun f _=>zacQ he f p) (wO e p) (by omega) (by omega),agU,qY (zabx h hn e p)];rfl
set_option maxHeartbeats 8000000
noncomputable section
def zaaA (a_w:cO) (r_5:(List aj)):((List aj) × Int)->Option (Step ((List aj) × Int) (Bool)):=fun s=>match s with
 | (images_6,i_7)=>bif (decide (i_7<((r_5.length:Nat):Int))) then (aH r_5 i_7).bind fun x_9=>(sG a_w.sets x_9.row).bind fun r_10=>bif (decide (images_6.length+1<=3518437208883)) then (some (.next ((images_6++[(⟨r_10,x_9.valid⟩:aj)]),(IntKind.i64.wrap (i_7+(1:Int)))))) else none else
 some (.exit (images_6,i_7))
def zaaC (a_r:dA) (a_w:cO) (r_4:(List aj)) (r_5:(List aj)):Sum ((List aj) × Int) (Bool)->Option ((Bool))
 | .inl (images_6,i_7)=>bif (decide ((1024:Int)<((r_4.length+r_5.length:Nat):Int))) then some false else
 (qa a_r.facts a_w.pred a_w.sets a_w.during).bind fun r_12=>(kU a_r.facts).bind fun r_13=>(zabe (r_4++r_5) a_r.facts).bind fun r_14=>bif r_14 then (zabe images_6 r_12).bind fun r_16=>bif r_16 then (zaay r_13 a_w.pred a_w.during).bind fun r_18=>(kM r_18 r_4).bind fun r_19=>bif r_19 then (qa r_13 a_w.pred a_w.sets a_w.during).bind fun r_21=>(kM r_21 r_12).bind fun r_22=>bif r_22 then some (true) else
 some false else
 some false else
 some false else
 some false
 | .inr q=>some q
def zaaS (a_r:dA) (a_w:cO):Option (Bool):=(kS a_r a_w).bind fun r_1=>bif (!r_1) then some (true) else
 (zaay a_r.facts a_w.pred a_w.during).bind fun r_4=>(zabd a_r.facts a_w.pred a_w.during).bind fun r_5=>bif (decide (r_4.length<=3518437208883)) then (bif (decide (r_4.length+r_5.length<=3518437208883)) then (bif (decide (r_4.length<=3518437208883)) then ((ax (zaaA a_w r_5) fuel (r_4,(0:Int))).bind (zaaC a_r a_w r_4 r_5)) else none) else none) else none
theorem zabT {a_r:dA} {a_w:cO} {r:Bool} (H:zaaS a_r a_w=some r):Pure Tryz.prog 7 [.agg (tL a_r), .agg (iB a_w)] (.val (.one (.bool r))):=by
 unfold zaaS at H
 refine po_ Tryz.func7 Tryz.ntmps7 ?_
 obtain ⟨r_1,c1,H⟩:=bd_ H
 replace c1:=mf c1
 rcases af H with ⟨q_2,H⟩|⟨q_2,H⟩
 ·have hc_3:=Aw.dD
  try simp only [ag8,ag6,ag_,ag0,aC] at hc_3
  cases H
  exact aD
 obtain ⟨r_4,c2,H⟩:=bd_ H
 replace c2:=zaaw c2
 try simp only [ag8,ag6,ag_,ag0,aC] at c2
 obtain ⟨r_5,c3,H⟩:=bd_ H
 replace c3:=zabW c3
 try simp only [ag8,ag6,ag_,ag0,aC] at c3
 obtain ⟨g4,H⟩:=aG H
 obtain ⟨g5,H⟩:=aG H
 obtain ⟨g6,H⟩:=aG H
 refine bF ?_
 simp only [← List.map_append]
 refine alM_ (fun s:(List aj) × Int=>match s with|(images_6,i_7)=>[(2, .one (.ptr 0 0)),(3, .one (.ptr 1 0)),(5, .one (.c (.lst (r_4.map aJ)))),(6, .one (.c (.lst (r_5.map aJ)))),(7, .one (.own ((r_4++r_5).map aJ) 2)),(8, .one (.own (images_6.map aJ) 3)),(9, .one (.c (.int .i64 i_7)))]) (fun s=>match s with|(images_6,i_7)=>[.box [.c (.lst (a_r.kinds.map (fun x=>[AC.int .i64 x]))), .c (.lst (a_r.facts.map aJ))], .box [.c (.int .i64 a_w.pred.op), .c (.int .i64 a_w.pred.int), .c (.int .i64 a_w.pred.v.kind), .c (.int .i64 a_w.pred.v.int), .c (.str a_w.pred.v.text), .c (.str a_w.pred.nm), .c (.lst (a_w.pred.args.map tE)), .c (.lst (a_w.sets.map tE)), .c (.lst (a_w.rows.map (fun x=>[AC.lst (x.map cV)]))), .c (.int .i64 a_w.during.lo), .c (.int .i64 a_w.during.hi)], .spare (r_4.length+r_5.length) 3, .spare images_6.length 3]) H (fun _=>ahe _)
  (fm_ dh [] rfl bH dw) ?_
 rintro ⟨images_6,i_7⟩ st1 hb1 hk1
 unfold zaaA at hb1
 dsimp only at hb1 ⊢
 rcases af hb1 with ⟨q_8,hb1⟩|⟨q_8,hb1⟩
 ·obtain ⟨x_9,i7z,i7,i7x,hb1⟩:=aY (f:=aJ) hb1
  obtain ⟨r_10,c8,hb1⟩:=bd_ hb1
  replace c8:=Ce c8
  obtain ⟨g9,hb1⟩:=aG hb1
  cases hb1
  refine bF ?_
  exact ⟨_,rfl,fm_ lC [] lD bH dw⟩
 cases hb1
 have hx1:zaaC a_r a_w r_4 r_5 (.inl (images_6,i_7))=some _:=hk1
 unfold zaaC at hx1
 dsimp only at hx1
 rw [← List.length_append] at hx1
 rcases af hx1 with ⟨q_11,hx1⟩|⟨q_11,hx1⟩
 ·cases hx1
  exact aD
 obtain ⟨r_12,c10,hx1⟩:=bd_ hx1
 replace c10:=qK c10
 try simp only [ag8,ag6,ag_,ag0,aC] at c10
 obtain ⟨r_13,c11,hx1⟩:=bd_ hx1
 replace c11:=oW c11
 obtain ⟨r_14,c12,hx1⟩:=bd_ hx1
 replace c12:=zaca c12
 try simp only [ag8,ag6,ag_,ag0,aC] at c12
 try simp only [← List.map_append] at c12
 rcases af hx1 with ⟨q_15,hx1⟩|⟨q_15,hx1⟩
 ·obtain ⟨r_16,c13,hx1⟩:=bd_ hx1
  replace c13:=zaca c13
  rcases af hx1 with ⟨q_17,hx1⟩|⟨q_17,hx1⟩
  ·obtain ⟨r_18,c14,hx1⟩:=bd_ hx1
   replace c14:=zaaw c14
   try simp only [ag8,ag6,ag_,ag0,aC] at c14
   obtain ⟨r_19,c15,hx1⟩:=bd_ hx1
   replace c15:=jm c15
   rcases af hx1 with ⟨q_20,hx1⟩|⟨q_20,hx1⟩
   ·obtain ⟨r_21,c16,hx1⟩:=bd_ hx1
    replace c16:=qK c16
    try simp only [ag8,ag6,ag_,ag0,aC] at c16
    obtain ⟨r_22,c17,hx1⟩:=bd_ hx1
    replace c17:=jm c17
    rcases af hx1 with ⟨q_23,hx1⟩|⟨q_23,hx1⟩
    ·have hc_24:=Aw.dD
     try simp only [ag8,ag6,ag_,ag0,aC] at hc_24
     cases hx1
     exact aD
    cases hx1
    exact aD
   cases hx1
   exact aD
  cases hx1
  exact aD
 cases hx1
 exact aD
end
theorem zab6 {a b:List aj} (ha:bM a) (hb:bM b) (h:canon a=canon b):zabe a b=some true:=by
 unfold zabe
 rw [iK ha,agU,iK hb,agU,h,d9 (bW hb)];rfl
theorem zabF (r:dA) (w:cO):zaaS r w=some true:=by
 obtain ⟨b,hb,hok⟩:=kI r w
 unfold zaaS
 rw [hb,agU]
 cases b with
 | false=>rfl
 | true =>
  have H:=hok rfl
  have hF:=H.rel.fcts
  have hL:=H.rel.len
  have hn:r.facts.length<=100:=by omega
  have hs:w.sets.length<=1000:=by have:=H.sets;omega
  have hD:=o9 hF hn w.pred w.during
  have hA:=zabx hF hn w.pred w.during
  have hU:=Es hF hn w.pred hs H.set w.during
  have l1:=bv _ 2 (gV w.pred w.during) r.facts
  have l2:=bv _ 1 (wO w.pred w.during) r.facts
  have l3:=bv _ 3 (rZ w.pred w.sets w.during) r.facts
  have c1:=dS hD.1
  have c2:=dS hA.1
  have c3:=dS hF.1
  have hI:bM ((canon (r.facts.flatMap (oH w.pred w.during))).map fun x=>(⟨qB w.sets x.row,x.valid⟩:aj)):=by
   refine VE (by rw [ag7];omega) fun x hx=>?_
   obtain ⟨f,hf,rfl⟩:=aht.1 hx
   exact Oq hs H.set f.row
  rw [Bool.not_true,agW,zaav hF hn H.pred,agU,zab2 hF hn H.pred,agU]
  generalize hd:canon (r.facts.flatMap (iO w.pred w.during))=D at *
  generalize ha:canon (r.facts.flatMap (oH w.pred w.during))=A at *
  have fD:bM D:=by rw [<- hd];exact bW hD
  have fA:bM A:=by rw [<- ha];exact bW hA
  simp only [agZ (show D.length<=3518437208883 by omega),agZ (show D.length+A.length<=3518437208883 by omega),agX]
  rw [df (l:=A) (fun x=>[(⟨qB w.sets x.row,x.valid⟩:aj)]) 3518437208883 ?_ ?_ (by unfold fuel;omega) _ (by rw [dK,ag7];omega)]
  ·rw [agU,dK]
   unfold zaaC
   dsimp only
   have p1:canon (D++A)=canon r.facts:=by rw [<- hd, <- ha];exact zadQ (by omega) w.pred w.during
   have p2:canon (D++A.map fun x=>(⟨qB w.sets x.row,x.valid⟩:aj))=canon (canon (r.facts.flatMap (Bt w.pred w.sets w.during))):=by
    rw [zabL hU.1, <- hd, <- ha];exact zadO (by omega) w.pred w.sets w.during
   rw [agY (show ¬ (1024:Int)<((D.length+A.length:Nat):Int) by omega),agW,rH hF hn H.pred hs H.set,agU,iK hF,agU,
    zab6 (Jw fD fA (by omega)) hF p1,agU,agX,
    zab6 (Jw fD hI (by rw [ag7];omega)) (bW hU) p2,agU,agX,
    zaav (bW hF) (by omega) H.pred,agU,zaes (by omega),hd,d9 fD,agU,agX,
    rH (bW hF) (by omega) H.pred hs H.set,agU,zaem (by omega),d9 (bW hU)];rfl
  ·intro s i x hx hq
   have hi:=(agV.1 hx).1
   unfold zaaA
   dsimp only
   rw [aV hx,agX,gn_ hx,agU,Cf (by omega) H.set,agU,wrapN (by omega),agZ (show s.length+1<=3518437208883 from hq)];rfl
  ·intro s
   unfold zaaA
   dsimp only
   rw [lF_,agW]
theorem zabD {r:dA} {w:cO} (q0:uj r) (q1:kw w):Pure Tryz.prog 7 [.agg (tL r), .agg (iB w)] (.val (.one (.bool true))):=zabT (zabF r w)
end Go.Proofs.YtcehmafobkhdbaaGreatDoor
