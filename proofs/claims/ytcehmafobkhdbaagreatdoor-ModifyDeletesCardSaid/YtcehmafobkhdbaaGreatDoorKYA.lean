/- Parts of the proof, joined. No condition. -/
import Derived.Test.YtcehmafobkhdbaaGreatDoorKAA
import Derived.Test.YtcehmafobkhdbaaGreatDoorKBN
import Derived.Test.YtcehmafobkhdbaaGreatDoorKBM
import Derived.Test.YtcehmafobkhdbaaGreatDoorKBK
import Derived.Test.YtcehmafobkhdbaaGreatDoorKBL
import Derived.Test.YtcehmafobkhdbaaGreatDoorKBH
import Derived.Test.YtcehmafobkhdbaaGreatDoorKBI
set_option linter.unusedSimpArgs false
set_option linter.unusedVariables false
namespace Go.Proofs.YtcehmafobkhdbaaGreatDoor
open Go.RowKit Go.MapKept
set_option maxRecDepth 100000
theorem zaer {e:Ex} {p:aI} {f x:aj} (h:x∈oH e p f):x.row=f.row:=by
 unfold oH at h
 split at h
 ·rw [ahz.1 h]
 ·cases h
theorem zabx {l:List aj} (h:bM l) (hn:l.length<=100) (e:Ex) (p:aI):bM (l.flatMap (oH e p)):=by
 refine ⟨?_,?_⟩
 ·have:=bv _ 1 (wO e p) l;omega
 ·intro x hx
  obtain ⟨f,hf,hx⟩:=List.mem_flatMap.1 hx
  rw [zaer hx];exact h.2 f hf
set_option maxHeartbeats 8000000
noncomputable section
theorem zaa1 {a_row:(List Val)} {a_l:(List aI)} {r:(List aj)} (H:bu a_row a_l=some r):Pure Tryz.prog 40 [.one (.lst (a_row.map cV)), .one (.lst (a_l.map bE))] (.val (.one (.lst (r.map aJ)))):=by
 unfold bu at H
 refine po_ Tryz.func40 Tryz.ntmps40 ?_
 refine bF ?_
 refine bX 5 3 rfl ?_
 refine alM_ (fun s:(List aj) × Int=>match s with|(out_1,v_2)=>[(0, .one (.c (.lst (a_row.map cV)))),(5, .one (.own (out_1.map aJ) 0)),(8, .one (.c (.lst (a_l.map bE)))),(9, .one (.c (.int .i64 ((a_l.length:Nat):Int)))),(10, .one (.c (.int .i64 v_2)))]) (fun s=>match s with|(out_1,v_2)=>[.spare out_1.length 3]) H (fun _=>ahe _)
  (fm_ dh [] rfl bH dw) ?_
 rintro ⟨out_1,v_2⟩ st1 hb1 hk1
 unfold dQ at hb1
 dsimp only at hb1 ⊢
 rcases af hb1 with ⟨q_3,hb1⟩|⟨q_3,hb1⟩
 ·obtain ⟨x_4,i1z,i1,i1x,hb1⟩:=aY (f:=bE) hb1
  obtain ⟨g2,hb1⟩:=aG hb1
  cases hb1
  refine bF ?_
  exact ⟨_,rfl,fm_ lC [_] lD bH dw⟩
 cases hb1
 have hx1:cz (.inl (out_1,v_2))=some _:=hk1
 unfold cz at hx1
 dsimp only at hx1
 cases hx1
 exact aD
def zabb (a_f:aj) (v_0:Ex) (v_1:aI):Option ((List aj)):=(eX a_f v_0 v_1).bind fun r_1=>bif (!r_1.2) then (bu a_f.row [a_f.valid]).bind fun r_3=>some r_3 else
 (xP a_f.valid r_1.1).bind fun r_4=>(bu a_f.row r_4).bind fun r_5=>some r_5
theorem zacG {a_f:aj} {v_0:Ex} {v_1:aI} {r:(List aj)} (H:zabb a_f v_0 v_1=some r):Pure Tryz.prog 44 [.agg (aJ a_f), .one (.ref [.int .i64 v_0.op, .int .i64 v_0.int, .int .i64 v_0.v.kind, .int .i64 v_0.v.int, .str v_0.v.text, .str v_0.nm, .lst (v_0.args.map tE)]), .one (.ref [.int .i64 v_1.lo, .int .i64 v_1.hi])] (.val (.one (.lst (r.map aJ)))):=by
 unfold zabb at H
 refine po_ Tryz.func44 Tryz.ntmps44 ?_
 obtain ⟨r_1,c1,H⟩:=bd_ H
 replace c1:=fE c1
 try simp only [ag8,ag6,ag_,ag0,aC] at c1
 rcases af H with ⟨q_2,H⟩|⟨q_2,H⟩
 ·obtain ⟨r_3,c2,H⟩:=bd_ H
  replace c2:=zaa1 c2
  try simp only [ag8,ag6,ag_,ag0,aC] at c2
  cases H
  exact aD
 obtain ⟨r_4,c3,H⟩:=bd_ H
 replace c3:=uU c3
 obtain ⟨r_5,c4,H⟩:=bd_ H
 replace c4:=zaa1 c4
 cases H
 exact aD
def zaay (a_l:(List aj)) (a_e:Ex) (a_p:aI):Option ((List aj)):=(nJ a_l (fun x0=>zabb x0 a_e a_p)).bind fun r_1=>(Dw r_1).bind fun r_2=>some r_2
theorem zaaw {a_l:(List aj)} {a_e:Ex} {a_p:aI} {r:(List aj)} (H:zaay a_l a_e a_p=some r):Pure Tryz.prog 14 [.one (.lst (a_l.map aJ)), .agg (tE a_e), .agg (bE a_p)] (.val (.one (.lst (r.map aJ)))):=by
 unfold zaay at H
 rw [aC a_e]
 refine po_ Tryz.func14 Tryz.ntmps14 ?_
 repeat' (first|refine gs0_ ?_|fail)
 refine aw_region tab_ok _ rfl ?_
 repeat' (first|refine gs0_ ?_|fail)
 refine bI 0 (by rfl) (by rfl) ?_
 simp only [ag6,ag_,Md,Ns,OI,iF,List.drop,if_true,List.set]
 repeat' (first|refine gs0_ ?_|fail)
 refine bI 1 (by rfl) (by rfl) ?_
 simp only [ag6,ag_,Md,Ns,OI,iF,List.drop,if_true,List.set]
 obtain ⟨r_1,c1,H⟩:=bd_ H
 replace c1:=uN (F_a_f:=44) (caps_a_f:=[.ref [.int .i64 a_e.op, .int .i64 a_e.int, .int .i64 a_e.v.kind, .int .i64 a_e.v.int, .str a_e.v.text, .str a_e.nm, .lst (a_e.args.map tE)], .ref [.int .i64 a_p.lo, .int .i64 a_p.hi]]) (fun x0 r h=>zacG h) c1
 try simp only [ag8,ag6,ag_,ag0,aC] at c1
 obtain ⟨r_2,c2,H⟩:=bd_ H
 replace c2:=GN c2
 cases H
 exact aD
def zaba (a_f:aj) (v_0:Ex) (v_1:aI):Option ((List aj)):=(eX a_f v_0 v_1).bind fun r_1=>bif (!r_1.2) then some [] else
 (bu a_f.row [r_1.1]).bind fun r_3=>some r_3
theorem zac1 {a_f:aj} {v_0:Ex} {v_1:aI} {r:(List aj)} (H:zaba a_f v_0 v_1=some r):Pure Tryz.prog 48 [.agg (aJ a_f), .one (.ref [.int .i64 v_0.op, .int .i64 v_0.int, .int .i64 v_0.v.kind, .int .i64 v_0.v.int, .str v_0.v.text, .str v_0.nm, .lst (v_0.args.map tE)]), .one (.ref [.int .i64 v_1.lo, .int .i64 v_1.hi])] (.val (.one (.lst (r.map aJ)))):=by
 unfold zaba at H
 refine po_ Tryz.func48 Tryz.ntmps48 ?_
 obtain ⟨r_1,c1,H⟩:=bd_ H
 replace c1:=fE c1
 try simp only [ag8,ag6,ag_,ag0,aC] at c1
 rcases af H with ⟨q_2,H⟩|⟨q_2,H⟩
 ·cases H
  exact aD
 obtain ⟨r_3,c2,H⟩:=bd_ H
 replace c2:=zaa1 c2
 try simp only [ag8,ag6,ag_,ag0,aC] at c2
 cases H
 exact aD
def zabd (a_l:(List aj)) (a_e:Ex) (a_p:aI):Option ((List aj)):=(nJ a_l (fun x0=>zaba x0 a_e a_p)).bind fun r_1=>(Dw r_1).bind fun r_2=>some r_2
theorem zabW {a_l:(List aj)} {a_e:Ex} {a_p:aI} {r:(List aj)} (H:zabd a_l a_e a_p=some r):Pure Tryz.prog 16 [.one (.lst (a_l.map aJ)), .agg (tE a_e), .agg (bE a_p)] (.val (.one (.lst (r.map aJ)))):=by
 unfold zabd at H
 rw [aC a_e]
 refine po_ Tryz.func16 Tryz.ntmps16 ?_
 repeat' (first|refine gs0_ ?_|fail)
 refine aw_region tab_ok _ rfl ?_
 repeat' (first|refine gs0_ ?_|fail)
 refine bI 0 (by rfl) (by rfl) ?_
 simp only [ag6,ag_,Md,Ns,OI,iF,List.drop,if_true,List.set]
 repeat' (first|refine gs0_ ?_|fail)
 refine bI 1 (by rfl) (by rfl) ?_
 simp only [ag6,ag_,Md,Ns,OI,iF,List.drop,if_true,List.set]
 obtain ⟨r_1,c1,H⟩:=bd_ H
 replace c1:=uN (F_a_f:=48) (caps_a_f:=[.ref [.int .i64 a_e.op, .int .i64 a_e.int, .int .i64 a_e.v.kind, .int .i64 a_e.v.int, .str a_e.v.text, .str a_e.nm, .lst (a_e.args.map tE)], .ref [.int .i64 a_p.lo, .int .i64 a_p.hi]]) (fun x0 r h=>zac1 h) c1
 try simp only [ag8,ag6,ag_,ag0,aC] at c1
 obtain ⟨r_2,c2,H⟩:=bd_ H
 replace c2:=GN c2
 cases H
 exact aD
end
set_option maxHeartbeats 8000000
noncomputable section
theorem zabN {a_l:(List aj)} {a_e:Ex} {a_p:aI} {r:(List aj) × (List aj)} (H:mF a_l a_e a_p=some r):Pure Tryz.prog 47 [.one (.lst (a_l.map aJ)), .agg (tE a_e), .agg (bE a_p)] (.tup [.one (.lst (r.1.map aJ)), .one (.lst (r.2.map aJ))]):=by
 unfold mF at H
 rw [aC a_e]
 refine po_ Tryz.func47 Tryz.ntmps47 ?_
 refine bF ?_
 refine bX 8 3 rfl ?_
 refine bX 9 3 rfl ?_
 refine alM_ (fun s:(List aj) × (List aj) × Int=>match s with|(outside_1,inside_2,i_3)=>[(0, .one (.c (.lst (a_l.map aJ)))),(4, .one (.ptr 0 0)),(5, .one (.ptr 1 0)),(8, .one (.own (outside_1.map aJ) 2)),(9, .one (.own (inside_2.map aJ) 3)),(10, .one (.c (.int .i64 i_3)))]) (fun s=>match s with|(outside_1,inside_2,i_3)=>[.box [.c (.int .i64 a_e.op), .c (.int .i64 a_e.int), .c (.int .i64 a_e.v.kind), .c (.int .i64 a_e.v.int), .c (.str a_e.v.text), .c (.str a_e.nm), .c (.lst (a_e.args.map tE))], .box [.c (.int .i64 a_p.lo), .c (.int .i64 a_p.hi)], .spare outside_1.length 3, .spare inside_2.length 3]) H (fun _=>ahe _)
  (fm_ dh [] rfl bH dw) ?_
 rintro ⟨outside_1,inside_2,i_3⟩ st1 hb1 hk1
 unfold iD at hb1
 dsimp only at hb1 ⊢
 rcases af hb1 with ⟨q_4,hb1⟩|⟨q_4,hb1⟩
 ·obtain ⟨x_5,i1z,i1,i1x,hb1⟩:=aY (f:=aJ) hb1
  obtain ⟨r_6,c2,hb1⟩:=bd_ hb1
  replace c2:=Ko c2
  rcases af hb1 with ⟨q_7,hb1⟩|⟨q_7,hb1⟩
  ·obtain ⟨g3,hb1⟩:=aG hb1
   cases hb1
   refine bF ?_
   exact ⟨_,rfl,fm_ lC [_] lD bH dw⟩
  obtain ⟨r_8,c4,hb1⟩:=bd_ hb1
  replace c4:=xB c4
  try simp only [ag8,ag6,ag_,ag0,aC] at c4
  rcases af hb1 with ⟨q_9,hb1⟩|⟨q_9,hb1⟩
  ·obtain ⟨g5,hb1⟩:=aG hb1
   cases hb1
   refine bF ?_
   exact ⟨_,rfl,fm_ lC [_] lD bH dw⟩
  obtain ⟨g6,hb1⟩:=aG hb1
  obtain ⟨r_10,c7,hb1⟩:=bd_ hb1
  replace c7:=NP c7
  obtain ⟨r_11,c8,hb1⟩:=bd_ hb1
  replace c8:=BU c8
  obtain ⟨g9,hb1⟩:=aG hb1
  cases hb1
  refine bF ?_
  exact ⟨_,rfl,fm_ lC [_] lD bH dw⟩
 cases hb1
 have hx1:o6 (.inl (outside_1,inside_2,i_3))=some _:=hk1
 unfold o6 at hx1
 dsimp only at hx1
 cases hx1
 exact aD
def zab1 (a_l:(List aj)) (a_e:Ex) (a_p:aI):Option ((List aj)):=(mF a_l a_e a_p).bind fun r_1=>(kU r_1.1).bind fun r_2=>some r_2
theorem zadM {a_l:(List aj)} {a_e:Ex} {a_p:aI} {r:(List aj)} (H:zab1 a_l a_e a_p=some r):Pure Tryz.prog 15 [.one (.lst (a_l.map aJ)), .agg (tE a_e), .agg (bE a_p)] (.val (.one (.lst (r.map aJ)))):=by
 unfold zab1 at H
 rw [aC a_e]
 refine po_ Tryz.func15 Tryz.ntmps15 ?_
 obtain ⟨r_1,c1,H⟩:=bd_ H
 replace c1:=zabN c1
 try simp only [ag8,ag6,ag_,ag0,aC] at c1
 obtain ⟨r_2,c2,H⟩:=bd_ H
 replace c2:=oW c2
 cases H
 exact aD
def zab5 (a_l:(List aj)) (a_e:Ex) (a_p:aI):Option ((List aj)):=(mF a_l a_e a_p).bind fun r_1=>(kU r_1.2).bind fun r_2=>some r_2
theorem zadv {a_l:(List aj)} {a_e:Ex} {a_p:aI} {r:(List aj)} (H:zab5 a_l a_e a_p=some r):Pure Tryz.prog 17 [.one (.lst (a_l.map aJ)), .agg (tE a_e), .agg (bE a_p)] (.val (.one (.lst (r.map aJ)))):=by
 unfold zab5 at H
 rw [aC a_e]
 refine po_ Tryz.func17 Tryz.ntmps17 ?_
 obtain ⟨r_1,c1,H⟩:=bd_ H
 replace c1:=zabN c1
 try simp only [ag8,ag6,ag_,ag0,aC] at c1
 obtain ⟨r_2,c2,H⟩:=bd_ H
 replace c2:=oW c2
 cases H
 exact aD
end
theorem zacM {e:Ex} (he:fH fuel e) (f:aj) (p:aI):zabb f e p=some (iO e p f):=by
 unfold zabb iO Ej
 rw [BR he,agU]
 cases ho:BL f.valid p with
 | false =>
  rw [if_neg (by intro x;cases x),Bool.false_and,if_neg (by intro x;cases x)]
  show (bu f.row [f.valid]).bind _=_
  rw [iU _ _ (by simp),Di];rfl
 | true =>
  rw [if_pos rfl,ahr]
  cases hs:oZ e f.row with
  | false =>
   rw [if_neg (by intro x;cases x)]
   show (bu f.row [f.valid]).bind _=_
   rw [iU _ _ (by simp),Di];rfl
  | true =>
   rw [if_pos rfl]
   show (xP f.valid (Ay f.valid p)).bind _=_
   rw [RN ho,agU,iU _ _ (by have:=N9 f.valid p;omega)];rfl
theorem zacQ {e:Ex} (he:fH fuel e) (f:aj) (p:aI):zaba f e p=some (oH e p f):=by
 unfold zaba oH Ej
 rw [BR he,agU]
 cases ho:BL f.valid p with
 | false=>rfl
 | true =>
  rw [if_pos rfl,ahr]
  cases hs:oZ e f.row with
  | false=>rfl
  | true =>
   rw [if_pos rfl]
   show (bu f.row [Ay f.valid p]).bind _=_
   rw [iU _ _ (by simp)];rfl
theorem zaav {l:List aj} (h:bM l) (hn:l.length<=100) {e:Ex} (he:fH fuel e) (p:aI):zaay l e p=some (canon (l.flatMap (iO e p))):=by
 unfold zaay
 rw [EB (iO e p) 2 (fun f _=>zacM he f p) (gV e p) (by omega) (by omega),agU,qY (o9 h hn e p)];rfl
theorem zab2 {l:List aj} (h:bM l) (hn:l.length<=100) {e:Ex} (he:fH fuel e) (p:aI):zabd l e p=some (canon (l.flatMap (oH e p))):=by
 unfold zabd
 rw [EB (oH e p) 1 (fun f _=>zacQ he f p) (wO e p) (by omega) (by omega),agU,qY (zabx h hn e p)];rfl
set_option maxHeartbeats 8000000
noncomputable section
def zaaI (a_r:dA) (a_w:cO):Option (Bool):=(kS a_r a_w).bind fun r_1=>bif (!r_1) then some (true) else
 (zaay a_r.facts a_w.pred a_w.during).bind fun r_4=>(zab1 a_r.facts a_w.pred a_w.during).bind fun r_5=>(kM r_4 r_5).bind fun r_6=>bif r_6 then (zabd a_r.facts a_w.pred a_w.during).bind fun r_8=>(zab5 a_r.facts a_w.pred a_w.during).bind fun r_9=>(kM r_8 r_9).bind fun r_10=>bif r_10 then some (true) else
 some false else
 some false
theorem zabE {a_r:dA} {a_w:cO} {r:Bool} (H:zaaI a_r a_w=some r):Pure Tryz.prog 4 [.agg (tL a_r), .agg (iB a_w)] (.val (.one (.bool r))):=by
 unfold zaaI at H
 refine po_ Tryz.func4 Tryz.ntmps4 ?_
 obtain ⟨r_1,c1,H⟩:=bd_ H
 replace c1:=mf c1
 rcases af H with ⟨q_2,H⟩|⟨q_2,H⟩
 ·have hc_3:=Aw.dD
  try simp only [ag8,ag6,ag_,ag0,aC] at hc_3
  cases H
  exact aD
 obtain ⟨r_4,c2,H⟩:=bd_ H
 replace c2:=zaaw c2
 try simp only [ag8,ag6,ag_,ag0,aC] at c2
 obtain ⟨r_5,c3,H⟩:=bd_ H
 replace c3:=zadM c3
 try simp only [ag8,ag6,ag_,ag0,aC] at c3
 obtain ⟨r_6,c4,H⟩:=bd_ H
 replace c4:=jm c4
 rcases af H with ⟨q_7,H⟩|⟨q_7,H⟩
 ·obtain ⟨r_8,c5,H⟩:=bd_ H
  replace c5:=zabW c5
  try simp only [ag8,ag6,ag_,ag0,aC] at c5
  obtain ⟨r_9,c6,H⟩:=bd_ H
  replace c6:=zadv c6
  try simp only [ag8,ag6,ag_,ag0,aC] at c6
  obtain ⟨r_10,c7,H⟩:=bd_ H
  replace c7:=jm c7
  rcases af H with ⟨q_11,H⟩|⟨q_11,H⟩
  ·have hc_12:=Aw.dD
   try simp only [ag8,ag6,ag_,ag0,aC] at hc_12
   cases H
   exact aD
  cases H
  exact aD
 cases H
 exact aD
end
theorem zadx {l:List aj} (h:bM l) (hn:l.length<=100) {e:Ex} (he:fH fuel e) (p:aI):zab1 l e p=some (canon (l.flatMap (iO e p))):=by
 unfold zab1
 rw [yF he (by omega),agU,iK (o9 h hn e p)];rfl
theorem zadF {l:List aj} (h:bM l) (hn:l.length<=100) {e:Ex} (he:fH fuel e) (p:aI):zab5 l e p=some (canon (l.flatMap (oH e p))):=by
 unfold zab5
 rw [yF he (by omega),agU,iK (zabx h hn e p)];rfl
theorem zabu (r:dA) (w:cO):zaaI r w=some true:=by
 obtain ⟨b,hb,hok⟩:=kI r w
 unfold zaaI
 rw [hb,agU]
 cases b with
 | false=>rfl
 | true =>
  have H:=hok rfl
  have hF:=H.rel.fcts
  have hn:r.facts.length<=100:=by have:=H.rel.len;omega
  rw [Bool.not_true,agW,zaav hF hn H.pred,agU,zadx hF hn H.pred,agU,d9 (bW (o9 hF hn w.pred w.during)),agU,agX,zab2 hF hn H.pred,agU,zadF hF hn H.pred,agU,d9 (bW (zabx hF hn w.pred w.during))];rfl
theorem zabk {r:dA} {w:cO} (q0:uj r) (q1:kw w):Pure Tryz.prog 4 [.agg (tL r), .agg (iB w)] (.val (.one (.bool true))):=zabE (zabu r w)
end Go.Proofs.YtcehmafobkhdbaaGreatDoor
