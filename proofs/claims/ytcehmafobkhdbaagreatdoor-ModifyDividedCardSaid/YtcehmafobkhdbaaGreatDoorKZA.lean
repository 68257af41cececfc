/- Parts of the proof, joined. No condition. -/
import Derived.Test.YtcehmafobkhdbaaGreatDoorKBN
set_option linter.unusedSimpArgs false
set_option linter.unusedVariables false
namespace Go.Proofs.YtcehmafobkhdbaaGreatDoor
open Go.RowKit Go.MapKept
set_option maxRecDepth 100000
theorem zadB (s t:List aj) (r:List Val):bD (s++t) r=bD s r++bD t r:=by unfold bD;rw [List.filter_append,ag8]
theorem zabY (r:List Val) : ∀ ps:List aI,(∀ p∈ps,St.aO (toP p)=true)->bD (ps.map fun p=>(⟨r,p⟩:aj)) r=ps
 | [],_=>rfl
 | p::ps,h=>by
  have ih:=zabY r ps fun q hq=>h q (ahh _ hq)
  have hp:aL p=true:=h p (ahG ..)
  unfold bD at ih ⊢
  rw [ag6,List.filter_cons_of_pos (by simp [hp]),ag6,ih]
theorem zacX {r x:List Val} (hx:x≠r) (ps:List aI):bD (ps.map fun p=>(⟨x,p⟩:aj)) r=[]:=by
 unfold bD
 rw [List.map_eq_nil_iff,List.filter_eq_nil_iff]
 intro f hf h
 obtain ⟨p,_,rfl⟩:=aht.1 hf
 simp only [ahb,decide_eq_true_eq] at h
 exact hx h.2
theorem zabs (L:List Val->List aI) (hL : ∀ r, ∀ p∈L r,St.aO (toP p)=true) : ∀ (R:List (List Val)),Nt R -> ∀ r,bD (R.flatMap fun r=>(L r).map fun p=>(⟨r,p⟩:aj)) r=if r∈R then L r else []
 | [],_,r=>rfl
 | x::R,h,r=>by
  have ih:=zabs L hL R (List.Pairwise.of_cons h) r
  rw [ahw,zadB,ih]
  by_cases hx:x=r
  ·subst hx
   rw [zabY x _ (hL x),if_neg (Qb h),if_pos (ahG ..),ahs]
  ·rw [zacX hx,ag0]
   by_cases hr:r∈R
   ·rw [if_pos hr,if_pos (ahh _ hr)]
   ·rw [if_neg hr,if_neg (by intro h;rcases aha.1 h with h|h;exact hx h.symm;exact hr h)]
section
variable {l:List aj} {R:List (List Val)} (h:fV l R) (hn:l.length<=300)
include h hn
theorem zadp (r:List Val):bD (fO l R) r=if r∈R then bR (bD l r) else [] :=
 zabs (fun r=>bR (bD l r)) (fun r p hp=>mg _ (Nat.le_trans (il l r) hn) p hp) R h.1 r
end
theorem zaeI {l:List aj} {R:List (List Val)} (h:fV l R) (hn:l.length<=300) (t:Int):(aS (fO l R) t).Perm (aS l t):=by
 rw [List.perm_iff_count]
 intro r
 rw [za,za,zadp h hn r]
 split
 ·exact C8 _ (Nat.le_trans (il l r) hn) t
 ·rename_i hr
  rw [UV h hr]
open Go.RowKit
theorem zaaq (a b:List aj) (t:Int):aS (a++b) t=aS a t++aS b t:=by unfold aS;rw [List.filter_append,ag8]
theorem zaau {l:List aj} (hn:l.length<=300) (t:Int):(aS (canon l) t).Perm (aS l t):=zaeI (ry l) hn t
theorem zaar (p:aI) (t:Int):aX p t=true↔aL p=true/\p.lo<=t/\t<p.hi:=by
 constructor
 ·intro h
  have hv:aL p=true:=by
   have h2:St.a_ (toP p) t=true:=h
   unfold St.a_ at h2
   rw [ahb,ahb] at h2
   exact h2.1.1
  obtain ⟨a,b,c⟩:=qW hv
  exact ⟨hv,(eO ⟨a,b,c⟩ t).1 h⟩
 ·rintro ⟨hv,h⟩
  obtain ⟨a,b,c⟩:=qW hv
  exact (eO ⟨a,b,c⟩ t).2 h
theorem zadr {p q:aI} (h:BL p q=false) (t:Int):(aX p t&&aX q t)=false:=by
 cases hc:(aX p t&&aX q t) with
 | false=>rfl
 | true =>
  rw [ahb,zaar,zaar] at hc
  obtain ⟨⟨hp,h1,h2⟩,hq,h3,h4⟩:=hc
  have:BL p q=true:=(Aq p q).2 ⟨hp,hq,by omega,by omega⟩
  rw [h] at this;cases this
theorem zaa4 (f:aj) (l:List aj) (t:Int):aS (f::l) t=(if aX f.valid t=true then [f.row] else [])++aS l t:=by
 unfold aS
 rw [List.filter_cons]
 split<;>rfl
theorem zaa0 (r:List Val) (p:aI) (t:Int):aS [⟨r,p⟩] t=if aX p t=true then [r] else []:=by
 rw [zaa4];exact ahs _
theorem zaa7 (lo hi t:Int) (h:0<=lo/\lo<hi/\hi<=1099511627776):aX ⟨lo,hi⟩ t=true↔lo<=t/\t<hi:=by
 rw [zaar,fe]
 constructor
 ·exact fun x=>x.2
 ·exact fun x=>⟨h,x⟩
theorem zad3 {p q:aI} (h:BL p q=true) (r:List Val) (t:Int):aS (mW r (EF p q)) t=if (aX p t && !(aX q t))=true then [r] else []:=by
 obtain ⟨hp,hq,h1,h2⟩:=(Aq p q).1 h
 have hp':=(fe p).1 hp
 have hq':=(fe q).1 hq
 have e1:aS (mW r (if p.lo<q.lo then [(⟨p.lo,q.lo⟩:aI)] else [])) t=if p.lo<=t/\t<q.lo then [r] else []:=by
  by_cases hc:p.lo<q.lo
  ·rw [if_pos hc]
   show aS [⟨r,⟨p.lo,q.lo⟩⟩] t=_
   rw [zaa0]
   by_cases hd:p.lo<=t/\t<q.lo
   ·rw [if_pos hd,if_pos ((zaa7 _ _ _ (by omega)).2 hd)]
   ·rw [if_neg hd,if_neg (fun x=>hd ((zaa7 _ _ _ (by omega)).1 x))]
  ·rw [if_neg hc,if_neg (by omega)];rfl
 have e2:aS (mW r (if q.hi<p.hi then [(⟨q.hi,p.hi⟩:aI)] else [])) t=if q.hi<=t/\t<p.hi then [r] else []:=by
  by_cases hc:q.hi<p.hi
  ·rw [if_pos hc]
   show aS [⟨r,⟨q.hi,p.hi⟩⟩] t=_
   rw [zaa0]
   by_cases hd:q.hi<=t/\t<p.hi
   ·rw [if_pos hd,if_pos ((zaa7 _ _ _ (by omega)).2 hd)]
   ·rw [if_neg hd,if_neg (fun x=>hd ((zaa7 _ _ _ (by omega)).1 x))]
  ·rw [if_neg hc,if_neg (by omega)];rfl
 have e0:mW r (EF p q)=mW r (if p.lo<q.lo then [(⟨p.lo,q.lo⟩:aI)] else [])++mW r (if q.hi<p.hi then [(⟨q.hi,p.hi⟩:aI)] else []):=ag8
 rw [e0,zaaq,e1,e2]
 have hcp:aX p t=true↔p.lo<=t/\t<p.hi:=by rw [zaar];exact ⟨fun x=>x.2,fun x=>⟨hp,x⟩⟩
 have hcq:aX q t=true↔q.lo<=t/\t<q.hi:=by rw [zaar];exact ⟨fun x=>x.2,fun x=>⟨hq,x⟩⟩
 have hx:(aX p t && !(aX q t))=true↔(p.lo<=t/\t<p.hi) /\ ¬ (q.lo<=t/\t<q.hi):=by
  rw [ahb,Bool.not_eq_true', <- hcp, <- hcq,Bool.not_eq_true]
 by_cases ha:p.lo<=t/\t<q.lo
 ·rw [if_pos ha,if_neg (by omega),if_pos (hx.2 (by omega))];rfl
 ·by_cases hb:q.hi<=t/\t<p.hi
  ·rw [if_neg ha,if_pos hb,if_pos (hx.2 (by omega))];rfl
  ·rw [if_neg ha,if_neg hb,if_neg (fun x=>by have:=hx.1 x;omega)];rfl
theorem zaaT (g:aj->List aj) (k:List Val->List (List Val)) (t:Int) (h : ∀ f:aj,aS (g f) t=if aX f.valid t=true then k f.row else []) : ∀ l:List aj,aS (l.flatMap g) t=(aS l t).flatMap k
 | []=>rfl
 | f::l=>by
  have e:(f::l).flatMap g=g f++l.flatMap g:=by simp
  rw [e,zaaq,zaa4,zaaT g k t h l,h f]
  by_cases hc:aX f.valid t=true
  ·rw [if_pos hc,if_pos hc,List.flatMap_append,show [f.row].flatMap k=k f.row by simp]
  ·rw [if_neg hc,if_neg hc];rfl
theorem zaeg (e:Ex) (p:aI) (t:Int) (f:aj):aS (iO e p f) t=if aX f.valid t=true then (if (aX p t&&oZ e f.row)=true then [] else [f.row]) else []:=by
 unfold iO
 by_cases hh:Ej e p f=true
 ·rw [if_pos hh]
  have h2:BL f.valid p=true/\oZ e f.row=true:=by unfold Ej at hh;rwa [ahb] at hh
  rw [zad3 h2.1,h2.2]
  cases aX f.valid t<;>cases aX p t<;>rfl
 ·rw [if_neg hh]
  have er:aS [f] t=if aX f.valid t=true then [f.row] else []:=zaa0 f.row f.valid t
  rw [er]
  cases hs:oZ e f.row
  ·rw [Bool.and_false];cases aX f.valid t<;>rfl
  ·have ho:BL f.valid p=false:=by
    cases ho:BL f.valid p with
    | false=>rfl
    | true=>exact absurd (by unfold Ej;rw [ho,hs];rfl) hh
   have:=zadr ho t
   cases h1:aX f.valid t with
   | false=>rfl
   | true=>rw [h1,ahr] at this;rw [this];rfl
def zabp (e:Ex) (p:aI) (t:Int) (r:List Val):Bool:=aX p t&&oZ e r
theorem zabM {α:Type} (c:α->Bool) : ∀ l:List α,(l.flatMap fun x=>if c x=true then [] else [x])=l.filter fun x => !(c x)
 | []=>rfl
 | x::l=>by
  have e:((x::l).flatMap fun x=>if c x=true then [] else [x])=(if c x=true then [] else [x])++l.flatMap fun x=>if c x=true then [] else [x]:=by simp
  rw [e,zabM c l,List.filter_cons]
  cases c x<;>rfl
theorem zaas (e:Ex) (p:aI) (t:Int) (l:List aj):aS (l.flatMap (iO e p)) t=(aS l t).filter fun r => !(zabp e p t r):=by
 rw [zaaT (iO e p) (fun r=>if zabp e p t r=true then [] else [r]) t (zaeg e p t),zabM]
theorem zaaD (p:aI) (t:Int) : ∀ rows:List (List Val),aS (mo rows p) t=if aX p t=true then rows else []
 | []=>by split<;>rfl
 | r::rows=>by
  show aS (⟨r,p⟩::mo rows p) t=_
  rw [zaa4,zaaD p t rows]
  cases aX p t<;>rfl
def zacC (p q:aI):Bool:=aL p&&(aL q&&(decide (p.hi=q.lo)||decide (q.hi=p.lo)))
def zacm (p q:aI):aI:=⟨min p.lo q.lo,max p.hi q.hi⟩
theorem zadC {p q:aI} (h:zacC p q=true):aL p=true/\aL q=true/\(p.hi=q.lo\/q.hi=p.lo):=by
 unfold zacC at h
 generalize aL p=a at *
 generalize aL q=b at *
 rw [ahb,ahb,Bool.or_eq_true,decide_eq_true_iff,decide_eq_true_iff] at h
 exact h
theorem zabI {p q:aI} (h:zacC p q=true) (t:Int):aX (zacm p q) t=(aX p t||aX q t)/\(aX p t&&aX q t)=false:=by
 obtain ⟨hp,hq,hx⟩:=zadC h
 have hp':=(fe p).1 hp
 have hq':=(fe q).1 hq
 have c1:aX p t=true↔p.lo<=t/\t<p.hi:=by rw [zaar];exact ⟨fun x=>x.2,fun x=>⟨hp,x⟩⟩
 have c2:aX q t=true↔q.lo<=t/\t<q.hi:=by rw [zaar];exact ⟨fun x=>x.2,fun x=>⟨hq,x⟩⟩
 have c3:aX (zacm p q) t=true↔min p.lo q.lo<=t/\t<max p.hi q.hi:=zaa7 _ _ t (by omega)
 constructor
 ·refine Jm ?_
  rw [Bool.or_eq_true,c1,c2,c3]
  omega
 ·cases hb:(aX p t&&aX q t) with
  | false=>rfl
  | true =>
   rw [ahb,c1,c2] at hb
   omega
theorem zaei {l:List aj} (hn:l.length<=70) (e:Ex) {p q:aI} (h:zacC p q=true):canon ((canon (l.flatMap (iO e p))).flatMap (iO e q))=canon (l.flatMap (iO e (zacm p q))):=by
 have h1:=bv _ 2 (gV e p) l
 have h4:=dS (l:=l.flatMap (iO e p)) (by omega)
 have h2:=bv _ 2 (gV e q) (canon (l.flatMap (iO e p)))
 have h3:=bv _ 2 (gV e (zacm p q)) l
 refine kg (by omega) (by omega) fun t=>?_
 rw [zaas,zaas]
 refine ((zaau (by omega) t).filter _).trans ?_
 rw [zaas,List.filter_filter]
 refine .of_eq (List.filter_congr fun r _=>?_)
 unfold zabp
 rw [(zabI h t).1]
 cases aX p t<;>cases aX q t<;>cases oZ e r<;>rfl
theorem zaen {l:List aj} {rows:List (List Val)} (hn:l.length+2*rows.length<=300) {p q:aI} (h:zacC p q=true):canon (canon (l++mo rows p)++mo rows q)=canon (l++mo rows (zacm p q)):=by
 have hL : ∀ p,(mo rows p).length=rows.length:=fun p=>by unfold mo;rw [ag7]
 have h1:(l++mo rows p).length<=300:=by rw [ag3,hL];omega
 have h4:=dS h1
 refine kg (by rw [ag3,hL];rw [ag3,hL] at h4;omega) (by rw [ag3,hL];omega) fun t=>?_
 rw [zaaq,zaaq]
 refine ((zaau h1 t).append_right _).trans ?_
 rw [zaaq,zaaD,zaaD,zaaD,(zabI h t).1]
 have:=(zabI h t).2
 cases h1:aX p t<;>cases h2:aX q t<;>simp_all
set_option maxHeartbeats 8000000
noncomputable section
theorem zaa1 {a_row:(List Val)} {a_l:(List aI)} {r:(List aj)} (H:bu a_row a_l=some r):Pure Tryz.prog 40 [.one (.lst (a_row.map cV)), .one (.lst (a_l.map bE))] (.val (.one (.lst (r.map aJ)))):=by
 unfold bu at H
 refine po_ Tryz.func40 Tryz.ntmps40 ?_
 refine bF ?_
 refine bX 5 3 rfl ?_
 refine alM_ (fun s:(List aj) × Int=>match s with|(out_1,v_2)=>[(0, .one (.c (.lst (a_row.map cV)))),(5, .one (.own (out_1.map aJ) 0)),(8, .one (.c (.lst (a_l.map bE)))),(9, .one (.c (.int .i64 ((a_l.length:Nat):Int)))),(10, .one (.c (.int .i64 v_2)))]) (fun s=>match s with|(out_1,v_2)=>[.spare out_1.length 3]) H (fun _=>ahe _)
  (fm_ dh [] rfl bH dw) ?_
 rintro ⟨out_1,v_2⟩ st1 hb1 hk1
 unfold dQ at hb1
 dsimp only at hb1 ⊢
 rcases af hb1 with ⟨q_3,hb1⟩|⟨q_3,hb1⟩
 ·obtain ⟨x_4,i1z,i1,i1x,hb1⟩:=aY (f:=bE) hb1
  obtain ⟨g2,hb1⟩:=aG hb1
  cases hb1
  refine bF ?_
  exact ⟨_,rfl,fm_ lC [_] lD bH dw⟩
 cases hb1
 have hx1:cz (.inl (out_1,v_2))=some _:=hk1
 unfold cz at hx1
 dsimp only at hx1
 cases hx1
 exact aD
def zabc (a_l:(List (List Val))) (a_f:(List Val)->Option ((List aj))):((List aj) × Int)->Option (Step ((List aj) × Int) ((List aj))):=fun s=>match s with
 | (out_1,v_2)=>bif (decide (v_2<((a_l.length:Nat):Int))) then (aH a_l v_2).bind fun x_4=>(a_f x_4).bind fun r_5=>bif (decide (out_1.length+r_5.length<=3518437208883)) then (some (.next ((out_1++r_5),(IntKind.i64.wrap (v_2+(1:Int)))))) else none else
 some (.exit (out_1,v_2))
def zabK:Sum ((List aj) × Int) ((List aj))->Option (((List aj)))
 | .inl (out_1,v_2)=>some out_1
 | .inr q=>some q
def zab8 (a_l:(List (List Val))) (a_f:(List Val)->Option ((List aj))):Option ((List aj)):=(ax (zabc a_l a_f) fuel ([],(0:Int))).bind (zabK)
theorem zadw {a_l:(List (List Val))} {a_f:(List Val)->Option ((List aj))} {r:(List aj)} {F_a_f:FuncId} {caps_a_f:List AC} (hf_a_f : ∀ (y0:(List Val)) (r:(List aj)),a_f y0=some r->Pure Tryz.prog F_a_f ([.one (.lst (y0.map cV))]++caps_a_f.map .one) (.val (.one (.lst (r.map aJ))))) (H:zab8 a_l a_f=some r):Pure Tryz.prog 38 [.one (.lst (a_l.map (fun x=>[AC.lst (x.map cV)]))), .one (.fn F_a_f caps_a_f)] (.val (.one (.lst (r.map aJ)))):=by
 unfold zab8 at H
 refine po_ Tryz.func38 Tryz.ntmps38 ?_
 refine bF ?_
 refine bX 5 3 rfl ?_
 refine alM_ (fun s:(List aj) × Int=>match s with|(out_1,v_2)=>[(1, .one (.c (.fn F_a_f caps_a_f))),(5, .one (.own (out_1.map aJ) 0)),(8, .one (.c (.lst (a_l.map (fun x=>[AC.lst (x.map cV)]))))),(9, .one (.c (.int .i64 ((a_l.length:Nat):Int)))),(10, .one (.c (.int .i64 v_2)))]) (fun s=>match s with|(out_1,v_2)=>[.spare out_1.length 3]) H (fun _=>ahe _)
  (fm_ dh [] rfl bH dw) ?_
 rintro ⟨out_1,v_2⟩ st1 hb1 hk1
 unfold zabc at hb1
 dsimp only at hb1 ⊢
 rcases af hb1 with ⟨q_3,hb1⟩|⟨q_3,hb1⟩
 ·obtain ⟨x_4,i1z,i1,i1x,hb1⟩:=aY (f:=(fun x=>[AC.lst (x.map cV)])) hb1
  obtain ⟨r_5,c2,hb1⟩:=bd_ hb1
  replace c2:=hf_a_f _ _ c2
  try simp only [ag8,ag6,ag_,ag0,aC] at c2
  obtain ⟨g3,hb1⟩:=aG hb1
  cases hb1
  refine bF ?_
  exact ⟨_,rfl,fm_ lC [] lD bH dw⟩
 cases hb1
 have hx1:zabK (.inl (out_1,v_2))=some _:=hk1
 unfold zabK at hx1
 dsimp only at hx1
 cases hx1
 exact aD
def zabv (a_row:(List Val)) (v_0:aI):Option ((List aj)):=(bu a_row [v_0]).bind fun r_1=>some r_1
theorem zacJ {a_row:(List Val)} {v_0:aI} {r:(List aj)} (H:zabv a_row v_0=some r):Pure Tryz.prog 39 [.one (.lst (a_row.map cV)), .one (.ref [.int .i64 v_0.lo, .int .i64 v_0.hi])] (.val (.one (.lst (r.map aJ)))):=by
 unfold zabv at H
 refine po_ Tryz.func39 Tryz.ntmps39 ?_
 obtain ⟨r_1,c1,H⟩:=bd_ H
 replace c1:=zaa1 c1
 try simp only [ag8,ag6,ag_,ag0,aC] at c1
 cases H
 exact aD
def zaaL (a_l:(List aj)) (a_rows:(List (List Val))) (a_p:aI):Option ((List aj)):=(zab8 a_rows (fun x0=>zabv x0 a_p)).bind fun r_1=>bif (decide (a_l.length<=3518437208883)) then (bif (decide (a_l.length+r_1.length<=3518437208883)) then ((Dw (a_l++r_1)).bind fun r_2=>some r_2) else none) else none
theorem zaaG {a_l:(List aj)} {a_rows:(List (List Val))} {a_p:aI} {r:(List aj)} (H:zaaL a_l a_rows a_p=some r):Pure Tryz.prog 12 [.one (.lst (a_l.map aJ)), .one (.lst (a_rows.map (fun x=>[AC.lst (x.map cV)]))), .agg (bE a_p)] (.val (.one (.lst (r.map aJ)))):=by
 unfold zaaL at H
 refine po_ Tryz.func12 Tryz.ntmps12 ?_
 repeat' (first|refine gs0_ ?_|fail)
 refine aw_region tab_ok _ rfl ?_
 repeat' (first|refine gs0_ ?_|fail)
 refine bI 0 (by rfl) (by rfl) ?_
 simp only [ag6,ag_,Md,Ns,OI,iF,List.drop,if_true,List.set]
 obtain ⟨r_1,c1,H⟩:=bd_ H
 replace c1:=zadw (F_a_f:=39) (caps_a_f:=[.ref [.int .i64 a_p.lo, .int .i64 a_p.hi]]) (fun x0 r h=>zacJ h) c1
 try simp only [ag8,ag6,ag_,ag0,aC] at c1
 obtain ⟨g2,H⟩:=aG H
 obtain ⟨g3,H⟩:=aG H
 obtain ⟨r_2,c4,H⟩:=bd_ H
 replace c4:=GN c4
 try simp only [ag8,ag6,ag_,ag0,aC] at c4
 cases H
 exact aD
def zabb (a_f:aj) (v_0:Ex) (v_1:aI):Option ((List aj)):=(eX a_f v_0 v_1).bind fun r_1=>bif (!r_1.2) then (bu a_f.row [a_f.valid]).bind fun r_3=>some r_3 else
 (xP a_f.valid r_1.1).bind fun r_4=>(bu a_f.row r_4).bind fun r_5=>some r_5
theorem zacG {a_f:aj} {v_0:Ex} {v_1:aI} {r:(List aj)} (H:zabb a_f v_0 v_1=some r):Pure Tryz.prog 44 [.agg (aJ a_f), .one (.ref [.int .i64 v_0.op, .int .i64 v_0.int, .int .i64 v_0.v.kind, .int .i64 v_0.v.int, .str v_0.v.text, .str v_0.nm, .lst (v_0.args.map tE)]), .one (.ref [.int .i64 v_1.lo, .int .i64 v_1.hi])] (.val (.one (.lst (r.map aJ)))):=by
 unfold zabb at H
 refine po_ Tryz.func44 Tryz.ntmps44 ?_
 obtain ⟨r_1,c1,H⟩:=bd_ H
 replace c1:=fE c1
 try simp only [ag8,ag6,ag_,ag0,aC] at c1
 rcases af H with ⟨q_2,H⟩|⟨q_2,H⟩
 ·obtain ⟨r_3,c2,H⟩:=bd_ H
  replace c2:=zaa1 c2
  try simp only [ag8,ag6,ag_,ag0,aC] at c2
  cases H
  exact aD
 obtain ⟨r_4,c3,H⟩:=bd_ H
 replace c3:=uU c3
 obtain ⟨r_5,c4,H⟩:=bd_ H
 replace c4:=zaa1 c4
 cases H
 exact aD
def zaay (a_l:(List aj)) (a_e:Ex) (a_p:aI):Option ((List aj)):=(nJ a_l (fun x0=>zabb x0 a_e a_p)).bind fun r_1=>(Dw r_1).bind fun r_2=>some r_2
theorem zaaw {a_l:(List aj)} {a_e:Ex} {a_p:aI} {r:(List aj)} (H:zaay a_l a_e a_p=some r):Pure Tryz.prog 14 [.one (.lst (a_l.map aJ)), .agg (tE a_e), .agg (bE a_p)] (.val (.one (.lst (r.map aJ)))):=by
 unfold zaay at H
 rw [aC a_e]
 refine po_ Tryz.func14 Tryz.ntmps14 ?_
 repeat' (first|refine gs0_ ?_|fail)
 refine aw_region tab_ok _ rfl ?_
 repeat' (first|refine gs0_ ?_|fail)
 refine bI 0 (by rfl) (by rfl) ?_
 simp only [ag6,ag_,Md,Ns,OI,iF,List.drop,if_true,List.set]
 repeat' (first|refine gs0_ ?_|fail)
 refine bI 1 (by rfl) (by rfl) ?_
 simp only [ag6,ag_,Md,Ns,OI,iF,List.drop,if_true,List.set]
 obtain ⟨r_1,c1,H⟩:=bd_ H
 replace c1:=uN (F_a_f:=44) (caps_a_f:=[.ref [.int .i64 a_e.op, .int .i64 a_e.int, .int .i64 a_e.v.kind, .int .i64 a_e.v.int, .str a_e.v.text, .str a_e.nm, .lst (a_e.args.map tE)], .ref [.int .i64 a_p.lo, .int .i64 a_p.hi]]) (fun x0 r h=>zacG h) c1
 try simp only [ag8,ag6,ag_,ag0,aC] at c1
 obtain ⟨r_2,c2,H⟩:=bd_ H
 replace c2:=GN c2
 cases H
 exact aD
end
set_option maxHeartbeats 8000000
noncomputable section
def zacl (a_p:aI) (a_q:aI):Option (Bool):=(iP a_p).bind fun r_1=>bif r_1 then (iP a_q).bind fun r_3=>bif r_3 then bif (decide (a_p.hi=a_q.lo)) then some true else
 some (decide (a_q.hi=a_p.lo)) else
 some false else
 some false
theorem zacV {a_p:aI} {a_q:aI} {r:Bool} (H:zacl a_p a_q=some r):Pure Tryz.prog 27 [.agg (bE a_p), .agg (bE a_q)] (.val (.one (.bool r))):=by
 unfold zacl at H
 refine po_ Tryz.func27 Tryz.ntmps27 ?_
 obtain ⟨r_1,c1,H⟩:=bd_ H
 replace c1:=fw c1
 rcases af H with ⟨q_2,H⟩|⟨q_2,H⟩
 ·obtain ⟨r_3,c2,H⟩:=bd_ H
  replace c2:=fw c2
  rcases af H with ⟨q_4,H⟩|⟨q_4,H⟩
  ·rcases af H with ⟨q_5,H⟩|⟨q_5,H⟩
   ·cases H
    exact aD
   cases H
   exact aD
  cases H
  exact aD
 cases H
 exact aD
def zabB (a_p:aI) (a_q:aI):Option (aI × Bool):=(BD a_p a_q).bind fun r_1=>bif (!r_1) then (zacl a_p a_q).bind fun r_3=>bif (!r_3) then some ((⟨(0:Int),(0:Int)⟩:aI),false) else
 some ((⟨(Mg a_p.lo a_q.lo),(CY a_p.hi a_q.hi)⟩:aI),true) else
 some ((⟨(Mg a_p.lo a_q.lo),(CY a_p.hi a_q.hi)⟩:aI),true)
theorem zac6 {a_p:aI} {a_q:aI} {r:aI × Bool} (H:zabB a_p a_q=some r):Pure Tryz.prog 28 [.agg (bE a_p), .agg (bE a_q)] (.tup [.agg (bE r.1), .one (.bool r.2)]):=by
 unfold zabB at H
 refine po_ Tryz.func28 Tryz.ntmps28 ?_
 obtain ⟨r_1,c1,H⟩:=bd_ H
 replace c1:=FC c1
 rcases af H with ⟨q_2,H⟩|⟨q_2,H⟩
 ·obtain ⟨r_3,c2,H⟩:=bd_ H
  replace c2:=zacV c2
  rcases af H with ⟨q_4,H⟩|⟨q_4,H⟩
  ·cases H
   exact aD
  cases H
  exact aD
 cases H
 exact aD
end
theorem zacM {e:Ex} (he:fH fuel e) (f:aj) (p:aI):zabb f e p=some (iO e p f):=by
 unfold zabb iO Ej
 rw [BR he,agU]
 cases ho:BL f.valid p with
 | false =>
  rw [if_neg (by intro x;cases x),Bool.false_and,if_neg (by intro x;cases x)]
  show (bu f.row [f.valid]).bind _=_
  rw [iU _ _ (by simp),Di];rfl
 | true =>
  rw [if_pos rfl,ahr]
  cases hs:oZ e f.row with
  | false =>
   rw [if_neg (by intro x;cases x)]
   show (bu f.row [f.valid]).bind _=_
   rw [iU _ _ (by simp),Di];rfl
  | true =>
   rw [if_pos rfl]
   show (xP f.valid (Ay f.valid p)).bind _=_
   rw [RN ho,agU,iU _ _ (by have:=N9 f.valid p;omega)];rfl
theorem zaav {l:List aj} (h:bM l) (hn:l.length<=100) {e:Ex} (he:fH fuel e) (p:aI):zaay l e p=some (canon (l.flatMap (iO e p))):=by
 unfold zaay
 rw [EB (iO e p) 2 (fun f _=>zacM he f p) (gV e p) (by omega) (by omega),agU,qY (o9 h hn e p)];rfl
theorem zadK {l:List (List Val)} {a:List Val->Option (List aj)} (g:List Val->aj) (ha : ∀ f∈l,a f=some [g f]) (hn:l.length<=1000000):zab8 l a=some (l.map g):=by
 unfold zab8
 rw [df (l:=l) (fun x=>[g x]) 3518437208883 ?_ ?_ (by unfold fuel;omega) [] (by rw [dK,ag7];simp only [aho];omega)]
 ·rw [agU,ag0,dK];rfl
 ·intro s i x hx hs
  have hi:=(agV.1 hx).1
  have hm:x∈l:=ag1 hx
  unfold zabc
  dsimp only
  rw [aV hx,agX,gn_ hx,agU,ha x hm,agU,wrapN (by omega),agZ hs];rfl
 ·intro s
  unfold zabc
  dsimp only
  rw [lF_,agW]
theorem zaaE {l:List aj} {rows:List (List Val)} {p:aI} (h:bM (l++mo rows p)):zaaL l rows p=some (canon (l++mo rows p)):=by
 have hl:=h.1
 rw [ag3] at hl
 have hr:(mo rows p).length=rows.length:=by unfold mo;rw [ag7]
 unfold zaaL
 rw [zadK (fun r=>⟨r,p⟩) (fun r _=>by unfold zabv;rw [iU _ _ (by simp)];rfl) (by omega),agU]
 show (bif decide (l.length<=_) then (bif decide (l.length+(mo rows p).length<=_) then (Dw (l++mo rows p)).bind _ else none) else none)=_
 rw [agZ (show l.length<=3518437208883 by omega),agX,agZ (show l.length+(mo rows p).length<=3518437208883 by omega),agX,qY h];rfl
set_option maxHeartbeats 8000000
noncomputable section
def zaaJ (a_r:dA) (a_w:cO) (a_q:aI):Option (Bool):=(kS a_r a_w).bind fun r_1=>bif (!r_1) then some (true) else
 (zacl a_w.during a_q).bind fun r_4=>bif (!r_4) then some (true) else
 (zabB a_w.during a_q).bind fun r_7=>(zaay a_r.facts a_w.pred a_w.during).bind fun r_8=>(zaay r_8 a_w.pred a_q).bind fun r_9=>(zaay a_r.facts a_w.pred r_7.1).bind fun r_10=>(kM r_9 r_10).bind fun r_11=>bif r_11 then (zaaL a_r.facts a_w.rows a_w.during).bind fun r_13=>(zaaL r_13 a_w.rows a_q).bind fun r_14=>(zaaL a_r.facts a_w.rows r_7.1).bind fun r_15=>(kM r_14 r_15).bind fun r_16=>bif r_16 then some (true) else
 some false else
 some false
theorem zabH {a_r:dA} {a_w:cO} {a_q:aI} {r:Bool} (H:zaaJ a_r a_w a_q=some r):Pure Tryz.prog 8 [.agg (tL a_r), .agg (iB a_w), .agg (bE a_q)] (.val (.one (.bool r))):=by
 unfold zaaJ at H
 refine po_ Tryz.func8 Tryz.ntmps8 ?_
 obtain ⟨r_1,c1,H⟩:=bd_ H
 replace c1:=mf c1
 rcases af H with ⟨q_2,H⟩|⟨q_2,H⟩
 ·have hc_3:=Aw.dD
  try simp only [ag8,ag6,ag_,ag0,aC] at hc_3
  cases H
  exact aD
 obtain ⟨r_4,c2,H⟩:=bd_ H
 replace c2:=zacV c2
 rcases af H with ⟨q_5,H⟩|⟨q_5,H⟩
 ·have hc_6:=Aw.dD
  try simp only [ag8,ag6,ag_,ag0,aC] at hc_6
  cases H
  exact aD
 obtain ⟨r_7,c3,H⟩:=bd_ H
 replace c3:=zac6 c3
 obtain ⟨r_8,c4,H⟩:=bd_ H
 replace c4:=zaaw c4
 try simp only [ag8,ag6,ag_,ag0,aC] at c4
 obtain ⟨r_9,c5,H⟩:=bd_ H
 replace c5:=zaaw c5
 try simp only [ag8,ag6,ag_,ag0,aC] at c5
 obtain ⟨r_10,c6,H⟩:=bd_ H
 replace c6:=zaaw c6
 try simp only [ag8,ag6,ag_,ag0,aC] at c6
 obtain ⟨r_11,c7,H⟩:=bd_ H
 replace c7:=jm c7
 rcases af H with ⟨q_12,H⟩|⟨q_12,H⟩
 ·obtain ⟨r_13,c8,H⟩:=bd_ H
  replace c8:=zaaG c8
  obtain ⟨r_14,c9,H⟩:=bd_ H
  replace c9:=zaaG c9
  obtain ⟨r_15,c10,H⟩:=bd_ H
  replace c10:=zaaG c10
  obtain ⟨r_16,c11,H⟩:=bd_ H
  replace c11:=jm c11
  rcases af H with ⟨q_17,H⟩|⟨q_17,H⟩
  ·have hc_18:=Aw.dD
   try simp only [ag8,ag6,ag_,ag0,aC] at hc_18
   cases H
   exact aD
  cases H
  exact aD
 cases H
 exact aD
end
theorem zacI (p q:aI):zacl p q=some (zacC p q):=by
 unfold zacl zacC
 rw [eH,agU]
 cases aL p with
 | false=>rfl
 | true =>
  rw [agX,eH,agU,ahr]
  cases aL q with
  | false=>rfl
  | true =>
   rw [agX,ahr]
   by_cases h:p.hi=q.lo
   ·rw [agZ h];rfl
   ·rw [agY h];rfl
theorem zac9 {p q:aI} (h:zacC p q=true):zabB p q=some (zacm p q,true):=by
 unfold zabB
 rw [EZ,agU,zacI,agU,h,OO,Ph]
 cases BL p q<;>rfl
theorem zabr (r:dA) (w:cO) (q:aI):zaaJ r w q=some true:=by
 obtain ⟨b,hb,hok⟩:=kI r w
 unfold zaaJ
 rw [hb,agU]
 cases b with
 | false=>rfl
 | true =>
  have H:=hok rfl
  have hF:=H.rel.fcts
  have hL:=H.rel.len
  have hR:=H.rows
  have hn:r.facts.length<=100:=by omega
  rw [Bool.not_true,agW,zacI,agU]
  cases ha:zacC w.during q with
  | false=>rfl
  | true =>
   have d1:=o9 hF hn w.pred w.during
   have l1:=bv _ 2 (gV w.pred w.during) r.facts
   have c1:=dS (l:=r.facts.flatMap (iO w.pred w.during)) (by omega)
   have i1:=H.ins hF (by omega) w.during
   have hI:(r.facts++mo w.rows w.during).length=r.facts.length+w.rows.length:=by unfold mo;rw [ag3,ag7]
   have c2:=dS i1.1
   have i2:=H.ins (bW i1) (by omega) q
   rw [Bool.not_true,agW,zac9 ha,agU,zaav hF hn H.pred,agU,zaav (bW d1) (by omega) H.pred,agU,zaav hF hn H.pred,agU,zaei (by omega) w.pred ha,d9 (bW (o9 hF hn w.pred _)),agU,agX,zaaE i1,agU,zaaE i2,agU,zaaE (H.ins hF (by omega) _),agU,zaen (by omega) ha,d9 (bW (H.ins hF (by omega) _))];rfl
theorem zabj {r:dA} {w:cO} {q:aI} (q0:uj r) (q1:kw w) (q2:DU q):Pure Tryz.prog 8 [.agg (tL r), .agg (iB w), .agg (bE q)] (.val (.one (.bool true))):=zabH (zabr r w q)
end Go.Proofs.YtcehmafobkhdbaaGreatDoor
