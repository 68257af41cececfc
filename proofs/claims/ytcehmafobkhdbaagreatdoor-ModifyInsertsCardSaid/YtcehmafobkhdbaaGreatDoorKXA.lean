/- Parts of the proof, joined. No condition. -/
import Derived.Test.YtcehmafobkhdbaaGreatDoorKAA
import Derived.Test.YtcehmafobkhdbaaGreatDoorKBM
import Derived.Test.YtcehmafobkhdbaaGreatDoorKBN
import Derived.Test.YtcehmafobkhdbaaGreatDoorKBK
import Derived.Test.YtcehmafobkhdbaaGreatDoorKBL
import Derived.Test.YtcehmafobkhdbaaGreatDoorKBH
import Derived.Test.YtcehmafobkhdbaaGreatDoorKBI
set_option linter.unusedSimpArgs false
set_option linter.unusedVariables false
namespace Go.Proofs.YtcehmafobkhdbaaGreatDoor
open Go.RowKit
set_option maxRecDepth 100000
theorem zaaq (a b:List aj) (t:Int):aS (a++b) t=aS a t++aS b t:=by unfold aS;rw [List.filter_append,ag8]
open Go.RowKit Go.MapKept
theorem zaar (p:aI) (t:Int):aX p t=true↔aL p=true/\p.lo<=t/\t<p.hi:=by
 constructor
 ·intro h
  have hv:aL p=true:=by
   have h2:St.a_ (toP p) t=true:=h
   unfold St.a_ at h2
   rw [ahb,ahb] at h2
   exact h2.1.1
  obtain ⟨a,b,c⟩:=qW hv
  exact ⟨hv,(eO ⟨a,b,c⟩ t).1 h⟩
 ·rintro ⟨hv,h⟩
  obtain ⟨a,b,c⟩:=qW hv
  exact (eO ⟨a,b,c⟩ t).2 h
theorem zaa4 (f:aj) (l:List aj) (t:Int):aS (f::l) t=(if aX f.valid t=true then [f.row] else [])++aS l t:=by
 unfold aS
 rw [List.filter_cons]
 split<;>rfl
theorem zaaD (p:aI) (t:Int) : ∀ rows:List (List Val),aS (mo rows p) t=if aX p t=true then rows else []
 | []=>by split<;>rfl
 | r::rows=>by
  show aS (⟨r,p⟩::mo rows p) t=_
  rw [zaa4,zaaD p t rows]
  cases aX p t<;>rfl
theorem zadD {p:aI} (h:aL p=false) (t:Int):aX p t=false:=by
 cases hc:aX p t with
 | false=>rfl
 | true=>have:=((zaar p t).1 hc).1;rw [h] at this;cases this
theorem zadE {l:List aj} {rows:List (List Val)} (hn:l.length+rows.length<=300) (p:aI):canon (l++mo rows p)=canon (l++if aL p=true then mo rows p else []):=by
 cases hp:aL p with
 | true=>rfl
 | false =>
  rw [if_neg (by intro e;cases e),ahs]
  refine kg (by unfold mo;rw [ag3,ag7];exact hn) (by omega) fun t=>?_
  rw [zaaq,zaaD,zadD hp t,if_neg (by intro e;cases e),ahs]
set_option maxHeartbeats 8000000
noncomputable section
theorem zaa1 {a_row:(List Val)} {a_l:(List aI)} {r:(List aj)} (H:bu a_row a_l=some r):Pure Tryz.prog 40 [.one (.lst (a_row.map cV)), .one (.lst (a_l.map bE))] (.val (.one (.lst (r.map aJ)))):=by
 unfold bu at H
 refine po_ Tryz.func40 Tryz.ntmps40 ?_
 refine bF ?_
 refine bX 5 3 rfl ?_
 refine alM_ (fun s:(List aj) × Int=>match s with|(out_1,v_2)=>[(0, .one (.c (.lst (a_row.map cV)))),(5, .one (.own (out_1.map aJ) 0)),(8, .one (.c (.lst (a_l.map bE)))),(9, .one (.c (.int .i64 ((a_l.length:Nat):Int)))),(10, .one (.c (.int .i64 v_2)))]) (fun s=>match s with|(out_1,v_2)=>[.spare out_1.length 3]) H (fun _=>ahe _)
  (fm_ dh [] rfl bH dw) ?_
 rintro ⟨out_1,v_2⟩ st1 hb1 hk1
 unfold dQ at hb1
 dsimp only at hb1 ⊢
 rcases af hb1 with ⟨q_3,hb1⟩|⟨q_3,hb1⟩
 ·obtain ⟨x_4,i1z,i1,i1x,hb1⟩:=aY (f:=bE) hb1
  obtain ⟨g2,hb1⟩:=aG hb1
  cases hb1
  refine bF ?_
  exact ⟨_,rfl,fm_ lC [_] lD bH dw⟩
 cases hb1
 have hx1:cz (.inl (out_1,v_2))=some _:=hk1
 unfold cz at hx1
 dsimp only at hx1
 cases hx1
 exact aD
def zabc (a_l:(List (List Val))) (a_f:(List Val)->Option ((List aj))):((List aj) × Int)->Option (Step ((List aj) × Int) ((List aj))):=fun s=>match s with
 | (out_1,v_2)=>bif (decide (v_2<((a_l.length:Nat):Int))) then (aH a_l v_2).bind fun x_4=>(a_f x_4).bind fun r_5=>bif (decide (out_1.length+r_5.length<=3518437208883)) then (some (.next ((out_1++r_5),(IntKind.i64.wrap (v_2+(1:Int)))))) else none else
 some (.exit (out_1,v_2))
def zabK:Sum ((List aj) × Int) ((List aj))->Option (((List aj)))
 | .inl (out_1,v_2)=>some out_1
 | .inr q=>some q
def zab8 (a_l:(List (List Val))) (a_f:(List Val)->Option ((List aj))):Option ((List aj)):=(ax (zabc a_l a_f) fuel ([],(0:Int))).bind (zabK)
theorem zadw {a_l:(List (List Val))} {a_f:(List Val)->Option ((List aj))} {r:(List aj)} {F_a_f:FuncId} {caps_a_f:List AC} (hf_a_f : ∀ (y0:(List Val)) (r:(List aj)),a_f y0=some r->Pure Tryz.prog F_a_f ([.one (.lst (y0.map cV))]++caps_a_f.map .one) (.val (.one (.lst (r.map aJ))))) (H:zab8 a_l a_f=some r):Pure Tryz.prog 38 [.one (.lst (a_l.map (fun x=>[AC.lst (x.map cV)]))), .one (.fn F_a_f caps_a_f)] (.val (.one (.lst (r.map aJ)))):=by
 unfold zab8 at H
 refine po_ Tryz.func38 Tryz.ntmps38 ?_
 refine bF ?_
 refine bX 5 3 rfl ?_
 refine alM_ (fun s:(List aj) × Int=>match s with|(out_1,v_2)=>[(1, .one (.c (.fn F_a_f caps_a_f))),(5, .one (.own (out_1.map aJ) 0)),(8, .one (.c (.lst (a_l.map (fun x=>[AC.lst (x.map cV)]))))),(9, .one (.c (.int .i64 ((a_l.length:Nat):Int)))),(10, .one (.c (.int .i64 v_2)))]) (fun s=>match s with|(out_1,v_2)=>[.spare out_1.length 3]) H (fun _=>ahe _)
  (fm_ dh [] rfl bH dw) ?_
 rintro ⟨out_1,v_2⟩ st1 hb1 hk1
 unfold zabc at hb1
 dsimp only at hb1 ⊢
 rcases af hb1 with ⟨q_3,hb1⟩|⟨q_3,hb1⟩
 ·obtain ⟨x_4,i1z,i1,i1x,hb1⟩:=aY (f:=(fun x=>[AC.lst (x.map cV)])) hb1
  obtain ⟨r_5,c2,hb1⟩:=bd_ hb1
  replace c2:=hf_a_f _ _ c2
  try simp only [ag8,ag6,ag_,ag0,aC] at c2
  obtain ⟨g3,hb1⟩:=aG hb1
  cases hb1
  refine bF ?_
  exact ⟨_,rfl,fm_ lC [] lD bH dw⟩
 cases hb1
 have hx1:zabK (.inl (out_1,v_2))=some _:=hk1
 unfold zabK at hx1
 dsimp only at hx1
 cases hx1
 exact aD
def zabv (a_row:(List Val)) (v_0:aI):Option ((List aj)):=(bu a_row [v_0]).bind fun r_1=>some r_1
theorem zacJ {a_row:(List Val)} {v_0:aI} {r:(List aj)} (H:zabv a_row v_0=some r):Pure Tryz.prog 39 [.one (.lst (a_row.map cV)), .one (.ref [.int .i64 v_0.lo, .int .i64 v_0.hi])] (.val (.one (.lst (r.map aJ)))):=by
 unfold zabv at H
 refine po_ Tryz.func39 Tryz.ntmps39 ?_
 obtain ⟨r_1,c1,H⟩:=bd_ H
 replace c1:=zaa1 c1
 try simp only [ag8,ag6,ag_,ag0,aC] at c1
 cases H
 exact aD
def zaaL (a_l:(List aj)) (a_rows:(List (List Val))) (a_p:aI):Option ((List aj)):=(zab8 a_rows (fun x0=>zabv x0 a_p)).bind fun r_1=>bif (decide (a_l.length<=3518437208883)) then (bif (decide (a_l.length+r_1.length<=3518437208883)) then ((Dw (a_l++r_1)).bind fun r_2=>some r_2) else none) else none
theorem zaaG {a_l:(List aj)} {a_rows:(List (List Val))} {a_p:aI} {r:(List aj)} (H:zaaL a_l a_rows a_p=some r):Pure Tryz.prog 12 [.one (.lst (a_l.map aJ)), .one (.lst (a_rows.map (fun x=>[AC.lst (x.map cV)]))), .agg (bE a_p)] (.val (.one (.lst (r.map aJ)))):=by
 unfold zaaL at H
 refine po_ Tryz.func12 Tryz.ntmps12 ?_
 repeat' (first|refine gs0_ ?_|fail)
 refine aw_region tab_ok _ rfl ?_
 repeat' (first|refine gs0_ ?_|fail)
 refine bI 0 (by rfl) (by rfl) ?_
 simp only [ag6,ag_,Md,Ns,OI,iF,List.drop,if_true,List.set]
 obtain ⟨r_1,c1,H⟩:=bd_ H
 replace c1:=zadw (F_a_f:=39) (caps_a_f:=[.ref [.int .i64 a_p.lo, .int .i64 a_p.hi]]) (fun x0 r h=>zacJ h) c1
 try simp only [ag8,ag6,ag_,ag0,aC] at c1
 obtain ⟨g2,H⟩:=aG H
 obtain ⟨g3,H⟩:=aG H
 obtain ⟨r_2,c4,H⟩:=bd_ H
 replace c4:=GN c4
 try simp only [ag8,ag6,ag_,ag0,aC] at c4
 cases H
 exact aD
end
set_option maxHeartbeats 8000000
noncomputable section
def zaaO (a_rows:(List (List Val))) (a_p:aI):((List aj) × Int)->Option (Step ((List aj) × Int) ((List aj))):=fun s=>match s with
 | (out_1,i_2)=>bif (decide (i_2<((a_rows.length:Nat):Int))) then (iP a_p).bind fun r_4=>bif r_4 then (aH a_rows i_2).bind fun x_6=>bif (decide (out_1.length+1<=3518437208883)) then (some (.next ((out_1++[(⟨x_6,a_p⟩:aj)]),(IntKind.i64.wrap (i_2+(1:Int)))))) else none else
 some (.next (out_1,(IntKind.i64.wrap (i_2+(1:Int))))) else
 some (.exit (out_1,i_2))
def zaaY:Sum ((List aj) × Int) ((List aj))->Option (((List aj)))
 | .inl (out_1,i_2)=>(kU out_1).bind fun r_7=>some r_7
 | .inr q=>some q
def zabV (a_l:(List aj)) (a_rows:(List (List Val))) (a_p:aI):Option ((List aj)):=bif (decide (a_l.length<=3518437208883)) then ((ax (zaaO a_rows a_p) fuel (a_l,(0:Int))).bind (zaaY)) else none
theorem zadN {a_l:(List aj)} {a_rows:(List (List Val))} {a_p:aI} {r:(List aj)} (H:zabV a_l a_rows a_p=some r):Pure Tryz.prog 13 [.one (.lst (a_l.map aJ)), .one (.lst (a_rows.map (fun x=>[AC.lst (x.map cV)]))), .agg (bE a_p)] (.val (.one (.lst (r.map aJ)))):=by
 unfold zabV at H
 refine po_ Tryz.func13 Tryz.ntmps13 ?_
 obtain ⟨g1,H⟩:=aG H
 refine bF ?_
 refine alM_ (fun s:(List aj) × Int=>match s with|(out_1,i_2)=>[(1, .one (.c (.lst (a_rows.map (fun x=>[AC.lst (x.map cV)]))))),(5, .one (.ptr 0 0)),(7, .one (.own (out_1.map aJ) 1)),(8, .one (.c (.int .i64 i_2)))]) (fun s=>match s with|(out_1,i_2)=>[.box [.c (.int .i64 a_p.lo), .c (.int .i64 a_p.hi)], .spare out_1.length 3]) H (fun _=>ahe _)
  (fm_ dh [] rfl bH dw) ?_
 rintro ⟨out_1,i_2⟩ st1 hb1 hk1
 unfold zaaO at hb1
 dsimp only at hb1 ⊢
 rcases af hb1 with ⟨q_3,hb1⟩|⟨q_3,hb1⟩
 ·obtain ⟨r_4,c2,hb1⟩:=bd_ hb1
  replace c2:=fw c2
  rcases af hb1 with ⟨q_5,hb1⟩|⟨q_5,hb1⟩
  ·obtain ⟨x_6,i3z,i3,i3x,hb1⟩:=aY (f:=(fun x=>[AC.lst (x.map cV)])) hb1
   obtain ⟨g4,hb1⟩:=aG hb1
   cases hb1
   refine bF ?_
   exact ⟨_,rfl,fm_ lC [] lD bH dw⟩
  cases hb1
  refine bF ?_
  exact ⟨_,rfl,fm_ lC [] lD bH dw⟩
 cases hb1
 have hx1:zaaY (.inl (out_1,i_2))=some _:=hk1
 unfold zaaY at hx1
 dsimp only at hx1
 obtain ⟨r_7,c5,hx1⟩:=bd_ hx1
 replace c5:=oW c5
 cases hx1
 exact aD
end
theorem zadK {l:List (List Val)} {a:List Val->Option (List aj)} (g:List Val->aj) (ha : ∀ f∈l,a f=some [g f]) (hn:l.length<=1000000):zab8 l a=some (l.map g):=by
 unfold zab8
 rw [df (l:=l) (fun x=>[g x]) 3518437208883 ?_ ?_ (by unfold fuel;omega) [] (by rw [dK,ag7];simp only [aho];omega)]
 ·rw [agU,ag0,dK];rfl
 ·intro s i x hx hs
  have hi:=(agV.1 hx).1
  have hm:x∈l:=ag1 hx
  unfold zabc
  dsimp only
  rw [aV hx,agX,gn_ hx,agU,ha x hm,agU,wrapN (by omega),agZ hs];rfl
 ·intro s
  unfold zabc
  dsimp only
  rw [lF_,agW]
theorem zaaE {l:List aj} {rows:List (List Val)} {p:aI} (h:bM (l++mo rows p)):zaaL l rows p=some (canon (l++mo rows p)):=by
 have hl:=h.1
 rw [ag3] at hl
 have hr:(mo rows p).length=rows.length:=by unfold mo;rw [ag7]
 unfold zaaL
 rw [zadK (fun r=>⟨r,p⟩) (fun r _=>by unfold zabv;rw [iU _ _ (by simp)];rfl) (by omega),agU]
 show (bif decide (l.length<=_) then (bif decide (l.length+(mo rows p).length<=_) then (Dw (l++mo rows p)).bind _ else none) else none)=_
 rw [agZ (show l.length<=3518437208883 by omega),agX,agZ (show l.length+(mo rows p).length<=3518437208883 by omega),agX,qY h];rfl
theorem zadP {l:List aj} {rows:List (List Val)} {p:aI} (h:bM (l++mo rows p)):zabV l rows p=some (canon (l++mo rows p)):=by
 have hl:=h.1
 rw [ag3] at hl
 have hr:(mo rows p).length=rows.length:=by unfold mo;rw [ag7]
 unfold zabV
 rw [agZ (show l.length<=3518437208883 by omega),agX]
 cases hp:aL p with
 | true =>
  rw [df (l:=rows) (fun x=>[(⟨x,p⟩:aj)]) 3518437208883 ?_ ?_ (by unfold fuel;omega) l (by rw [dK,ag7];omega)]
  ·rw [agU,dK]
   unfold zaaY
   dsimp only
   show (kU (l++mo rows p)).bind _=_
   rw [iK h];rfl
  ·intro s i x hx hs
   have hi:=(agV.1 hx).1
   unfold zaaO
   dsimp only
   rw [aV hx,agX,eH,agU,hp,agX,gn_ hx,agU,wrapN (by omega),agZ (show s.length+1<=3518437208883 from hs)];rfl
  ·intro s
   unfold zaaO
   dsimp only
   rw [lF_,agW]
 | false =>
  rw [df (l:=rows) (fun _=>([]:List aj)) 3518437208883 ?_ ?_ (by unfold fuel;omega) l (by rw [show (rows.flatMap fun _=>([]:List aj))=[] by simp];simp only [aho];omega)]
  ·rw [agU,show (rows.flatMap fun _=>([]:List aj))=[] by simp,ahs]
   unfold zaaY
   dsimp only
   have hc:=zadE (l:=l) (rows:=rows) (by omega) p
   rw [hp,if_neg (by intro x;cases x),ahs] at hc
   rw [hc,iK ⟨by omega,fun f hf=>h.2 f (List.mem_append_left _ hf)⟩];rfl
  ·intro s i x hx hs
   have hi:=(agV.1 hx).1
   unfold zaaO
   dsimp only
   rw [aV hx,agX,eH,agU,hp,agW,wrapN (by omega),ahs]
  ·intro s
   unfold zaaO
   dsimp only
   rw [lF_,agW]
set_option maxHeartbeats 8000000
noncomputable section
def zaaM (a_r:dA) (a_w:cO):Option (Bool):=(kS a_r a_w).bind fun r_1=>bif (!r_1) then some (true) else
 (zaaL a_r.facts a_w.rows a_w.during).bind fun r_4=>(zabV a_r.facts a_w.rows a_w.during).bind fun r_5=>(kM r_4 r_5).bind fun r_6=>bif r_6 then some (true) else
 some false
theorem zabJ {a_r:dA} {a_w:cO} {r:Bool} (H:zaaM a_r a_w=some r):Pure Tryz.prog 3 [.agg (tL a_r), .agg (iB a_w)] (.val (.one (.bool r))):=by
 unfold zaaM at H
 refine po_ Tryz.func3 Tryz.ntmps3 ?_
 obtain ⟨r_1,c1,H⟩:=bd_ H
 replace c1:=mf c1
 rcases af H with ⟨q_2,H⟩|⟨q_2,H⟩
 ·have hc_3:=Aw.dD
  try simp only [ag8,ag6,ag_,ag0,aC] at hc_3
  cases H
  exact aD
 obtain ⟨r_4,c2,H⟩:=bd_ H
 replace c2:=zaaG c2
 obtain ⟨r_5,c3,H⟩:=bd_ H
 replace c3:=zadN c3
 obtain ⟨r_6,c4,H⟩:=bd_ H
 replace c4:=jm c4
 rcases af H with ⟨q_7,H⟩|⟨q_7,H⟩
 ·have hc_8:=Aw.dD
  try simp only [ag8,ag6,ag_,ag0,aC] at hc_8
  cases H
  exact aD
 cases H
 exact aD
end
theorem zabh (r:dA) (w:cO):zaaM r w=some true:=by
 obtain ⟨b,hb,hok⟩:=kI r w
 unfold zaaM
 rw [hb,agU]
 cases b with
 | false=>rfl
 | true =>
  have H:=hok rfl
  have hi:=H.ins H.rel.fcts (by have:=H.rel.len;omega) w.during
  rw [Bool.not_true,agW,zaaE hi,agU,zadP hi,agU,d9 (bW hi)];rfl
theorem zabi {r:dA} {w:cO} (q0:uj r) (q1:kw w):Pure Tryz.prog 3 [.agg (tL r), .agg (iB w)] (.val (.one (.bool true))):=zabJ (zabh r w)
end Go.Proofs.YtcehmafobkhdbaaGreatDoor
