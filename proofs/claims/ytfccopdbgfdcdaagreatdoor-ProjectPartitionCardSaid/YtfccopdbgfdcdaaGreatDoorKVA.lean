/- Parts of the proof, joined. No condition. -/
import Derived.Test.YtfccopdbgfdcdaaGreatDoorKAL
import Derived.Test.YtfccopdbgfdcdaaGreatDoorKBO
import Derived.Test.YtfccopdbgfdcdaaGreatDoorKAM
import Derived.ProofKit
import Derived.OpenShut
import Derived.ChangeOld
import Derived.Deep.Slices
import Derived.Test.YtfccopdbgfdcdaaGreatDoorKBU
import Derived.Test.YtfccopdbgfdcdaaGreatDoorKBR
import Derived.Test.YtfccopdbgfdcdaaGreatDoorKBT
import Derived.Test.YtfccopdbgfdcdaaGreatDoorKBN
import Derived.Test.YtfccopdbgfdcdaaGreatDoorKBF
import Derived.Test.YtfccopdbgfdcdaaGreatDoorKBG
import Derived.Test.YtfccopdbgfdcdaaGreatDoorKBP
import Derived.Test.YtfccopdbgfdcdaaGreatDoorKBV
import Derived.Test.YtfccopdbgfdcdaaGreatDoorKBQ
set_option linter.unusedSimpArgs false
set_option linter.unusedVariables false
namespace Go.Proofs.YtfccopdbgfdcdaaGreatDoor
open Go.RowKit Go.MapKept
structure Pai where
 a:Int
 b:Int
def cPai (x:Pai):List AC:=[.int .i64 x.a, .int .i64 x.b]
set_option maxRecDepth 100000
structure okPai (x:Pai):Prop where
 a:IOk x.a
 b:IOk x.b
section
variable {H:Type} {enc:TypeId × Value→H} {W:World} {hT:TabR (fun b o=>W.cell? ⟨b,o,none⟩)} {base:Nat} {spare:Nat→Bool} {held:Bool}
theorem rd_Pai : ∀ (fuel:Nat) {cs:List Value} {x:DataW H × List MemPlace}, DataW.trod enc Tryz.prog W base spare held fuel 41 cs=some x→WOk 41 x.1 → ∃ a:Pai,CRd hT cs (cPai a)∧okPai a:=by
 intro fuel
 intro cs x h hw
 obtain ⟨xs,n,hfu,hxe,hlen,hxs,hf⟩:=DataW.trod_struct Tryz.underlying41 h
 rw [show Tryz.prog.cellsOf 41=2 by kernel_rfl] at hlen
 obtain ⟨c0,c1,rfl⟩:=list2 hlen
 obtain ⟨y0,h0,w0⟩:=fld Tryz.underlying41 hxe hw hxs hf 0 (t:=3) (o:=0) (k:=1) rfl rfl rfl (by kernel_rfl)
 replace h0:DataW.trod enc Tryz.prog W base spare held n 3 [c0]=some y0:=h0
 obtain ⟨l0,r0,q0⟩:=read_int Tryz.underlying3 h0
 obtain ⟨y1,h1,w1⟩:=fld Tryz.underlying41 hxe hw hxs hf 1 (t:=3) (o:=1) (k:=1) rfl rfl rfl (by kernel_rfl)
 replace h1:DataW.trod enc Tryz.prog W base spare held n 3 [c1]=some y1:=h1
 obtain ⟨l1,r1,q1⟩:=read_int Tryz.underlying3 h1
 exact ⟨⟨l0,l1⟩,(r0.app r1),⟨q0,q1⟩⟩
end
set_option maxHeartbeats 8000000
noncomputable section
def gLonger1 (a_f:Fct) (v_0:Int):Option (Bool):=some (decide (v_0≤(IntKind.i64.wrap (a_f.valid.hi-a_f.valid.lo))))
theorem gLonger1_ok {a_f:Fct} {v_0:Int} {r:Bool} (H:gLonger1 a_f v_0=some r):Pure Tryz.prog 53 [.agg (cFct a_f), .one (.ref [.int .i64 v_0])] (.val (.one (.bool r))):=by
 unfold gLonger1 at H
 refine po_ Tryz.func53 Tryz.ntmps53 ?_
 cases H
 exact go_
def gLongerP (a_r:Rln) (a_n:Int):Option (Rln):=(gBag a_r.facts).bind fun r_1=>(gChoose a_r.kinds r_1 (fun x0=>gLonger1 x0 a_n)).bind fun r_2=>some r_2
theorem gLongerP_ok {a_r:Rln} {a_n:Int} {r:Rln} (H:gLongerP a_r a_n=some r):Pure Tryz.prog 21 [.agg (cRln a_r), .one (.int .i64 a_n)] (.val (.agg (cRln r))):=by
 unfold gLongerP at H
 refine po_ Tryz.func21 Tryz.ntmps21 ?_
 repeat' (first|refine p_ rfl rfl rfl rfl rfl ?_|refine st_nil ?_|refine x_ rfl rfl rfl rfl rfl rfl rfl rfl ?_|refine l_ rfl rfl rfl rfl ?_|refine s_ rfl rfl rfl ?_|refine t_ rfl rfl rfl rfl ?_|refine k_ rfl rfl rfl ?_|refine k0_ rfl rfl ?_|refine c_ rfl rfl rfl rfl ?_|refine pick_t rfl rfl rfl rfl rfl rfl rfl ?_|refine pick_f rfl rfl rfl rfl rfl rfl rfl ?_|refine aw_seq ?_|refine aw_condT rfl ?_|refine aw_condF rfl ?_|refine aw_block ?_|refine aw_exit ?_|refine aw_ret ?_|refine aw_skip ?_|rw [List.length_map]|rw [mn_norm]|rw [mx_norm])
 refine aw_region tab_ok _ rfl ?_
 repeat' (first|refine p_ rfl rfl rfl rfl rfl ?_|refine st_nil ?_|refine x_ rfl rfl rfl rfl rfl rfl rfl rfl ?_|refine l_ rfl rfl rfl rfl ?_|refine s_ rfl rfl rfl ?_|refine t_ rfl rfl rfl rfl ?_|refine k_ rfl rfl rfl ?_|refine k0_ rfl rfl ?_|refine c_ rfl rfl rfl rfl ?_|refine pick_t rfl rfl rfl rfl rfl rfl rfl ?_|refine pick_f rfl rfl rfl rfl rfl rfl rfl ?_|refine aw_seq ?_|refine aw_condT rfl ?_|refine aw_condF rfl ?_|refine aw_block ?_|refine aw_exit ?_|refine aw_ret ?_|refine aw_skip ?_|rw [List.length_map]|rw [mn_norm]|rw [mx_norm])
 refine aw_freezeBox 1 (by rfl) (by rfl) ?_
 simp only [List.map_cons,List.map_nil,unA,unS,unC,capsC,List.drop,if_true,List.set]
 obtain ⟨r_1,c1,H⟩:=bd_ H
 replace c1:=gBag_ok c1
 obtain ⟨r_2,c2,H⟩:=bd_ H
 replace c2:=gChoose_ok (F_a_keep:=53) (caps_a_keep:=[.ref [.int .i64 a_n]]) (fun x0 r h=>gLonger1_ok h) c2
 try simp only [List.map_append,List.map_cons,List.map_nil,List.nil_append,tE_eq] at c2
 cases H
 exact go_
def gHoldsP (a_rel:Int) (a_p:Per) (a_q:Per):Option (Bool):=(gRel a_p a_q).bind fun r_1=>bif r_1.2 then some (decide (r_1.1=a_rel)) else
 some false
theorem gHoldsP_ok {a_rel:Int} {a_p:Per} {a_q:Per} {r:Bool} (H:gHoldsP a_rel a_p a_q=some r):Pure Tryz.prog 55 [.one (.int .i64 a_rel), .agg (cPer a_p), .agg (cPer a_q)] (.val (.one (.bool r))):=by
 unfold gHoldsP at H
 refine po_ Tryz.func55 Tryz.ntmps55 ?_
 obtain ⟨r_1,c1,H⟩:=bd_ H
 replace c1:=gRel_ok c1
 rcases cnd_ H with ⟨q_2,H⟩|⟨q_2,H⟩
 ·cases H
  exact go_
 cases H
 exact go_
def gTouching1 (a_f:Fct) (v_0:Int) (v_1:Per):Option (Bool):=(gHoldsP v_0 a_f.valid v_1).bind fun r_1=>some r_1
theorem gTouching1_ok {a_f:Fct} {v_0:Int} {v_1:Per} {r:Bool} (H:gTouching1 a_f v_0 v_1=some r):Pure Tryz.prog 54 [.agg (cFct a_f), .one (.ref [.int .i64 v_0]), .one (.ref [.int .i64 v_1.lo, .int .i64 v_1.hi])] (.val (.one (.bool r))):=by
 unfold gTouching1 at H
 refine po_ Tryz.func54 Tryz.ntmps54 ?_
 obtain ⟨r_1,c1,H⟩:=bd_ H
 replace c1:=gHoldsP_ok c1
 cases H
 exact go_
def gTouchingP (a_r:Rln) (a_rel:Int) (a_p:Per):Option (Rln):=(gBag a_r.facts).bind fun r_1=>(gChoose a_r.kinds r_1 (fun x0=>gTouching1 x0 a_rel a_p)).bind fun r_2=>some r_2
theorem gTouchingP_ok {a_r:Rln} {a_rel:Int} {a_p:Per} {r:Rln} (H:gTouchingP a_r a_rel a_p=some r):Pure Tryz.prog 23 [.agg (cRln a_r), .one (.int .i64 a_rel), .agg (cPer a_p)] (.val (.agg (cRln r))):=by
 unfold gTouchingP at H
 refine po_ Tryz.func23 Tryz.ntmps23 ?_
 repeat' (first|refine p_ rfl rfl rfl rfl rfl ?_|refine st_nil ?_|refine x_ rfl rfl rfl rfl rfl rfl rfl rfl ?_|refine l_ rfl rfl rfl rfl ?_|refine s_ rfl rfl rfl ?_|refine t_ rfl rfl rfl rfl ?_|refine k_ rfl rfl rfl ?_|refine k0_ rfl rfl ?_|refine c_ rfl rfl rfl rfl ?_|refine pick_t rfl rfl rfl rfl rfl rfl rfl ?_|refine pick_f rfl rfl rfl rfl rfl rfl rfl ?_|refine aw_seq ?_|refine aw_condT rfl ?_|refine aw_condF rfl ?_|refine aw_block ?_|refine aw_exit ?_|refine aw_ret ?_|refine aw_skip ?_|rw [List.length_map]|rw [mn_norm]|rw [mx_norm])
 refine aw_region tab_ok _ rfl ?_
 repeat' (first|refine p_ rfl rfl rfl rfl rfl ?_|refine st_nil ?_|refine x_ rfl rfl rfl rfl rfl rfl rfl rfl ?_|refine l_ rfl rfl rfl rfl ?_|refine s_ rfl rfl rfl ?_|refine t_ rfl rfl rfl rfl ?_|refine k_ rfl rfl rfl ?_|refine k0_ rfl rfl ?_|refine c_ rfl rfl rfl rfl ?_|refine pick_t rfl rfl rfl rfl rfl rfl rfl ?_|refine pick_f rfl rfl rfl rfl rfl rfl rfl ?_|refine aw_seq ?_|refine aw_condT rfl ?_|refine aw_condF rfl ?_|refine aw_block ?_|refine aw_exit ?_|refine aw_ret ?_|refine aw_skip ?_|rw [List.length_map]|rw [mn_norm]|rw [mx_norm])
 refine aw_freezeBox 1 (by rfl) (by rfl) ?_
 simp only [List.map_cons,List.map_nil,unA,unS,unC,capsC,List.drop,if_true,List.set]
 repeat' (first|refine p_ rfl rfl rfl rfl rfl ?_|refine st_nil ?_|refine x_ rfl rfl rfl rfl rfl rfl rfl rfl ?_|refine l_ rfl rfl rfl rfl ?_|refine s_ rfl rfl rfl ?_|refine t_ rfl rfl rfl rfl ?_|refine k_ rfl rfl rfl ?_|refine k0_ rfl rfl ?_|refine c_ rfl rfl rfl rfl ?_|refine pick_t rfl rfl rfl rfl rfl rfl rfl ?_|refine pick_f rfl rfl rfl rfl rfl rfl rfl ?_|refine aw_seq ?_|refine aw_condT rfl ?_|refine aw_condF rfl ?_|refine aw_block ?_|refine aw_exit ?_|refine aw_ret ?_|refine aw_skip ?_|rw [List.length_map]|rw [mn_norm]|rw [mx_norm])
 refine aw_freezeBox 2 (by rfl) (by rfl) ?_
 simp only [List.map_cons,List.map_nil,unA,unS,unC,capsC,List.drop,if_true,List.set]
 obtain ⟨r_1,c1,H⟩:=bd_ H
 replace c1:=gBag_ok c1
 obtain ⟨r_2,c2,H⟩:=bd_ H
 replace c2:=gChoose_ok (F_a_keep:=54) (caps_a_keep:=[.ref [.int .i64 a_rel], .ref [.int .i64 a_p.lo, .int .i64 a_p.hi]]) (fun x0 r h=>gTouching1_ok h) c2
 try simp only [List.map_append,List.map_cons,List.map_nil,List.nil_append,tE_eq] at c2
 cases H
 exact go_
end
end Go.Proofs.YtfccopdbgfdcdaaGreatDoor
namespace Go.Proofs.YtfccopdbgfdcdaaGreatDoor.St
open Go.RowKit
theorem rat_out {l:List (Int × Int)} {t:Int} (h : ¬ (0≤t∧t<1099511627776)):rat l t=0:=by unfold rat;rw [if_neg h]
theorem cnt_append (X Y:List (Int × Int)) (t:Int):cnt (X++Y) t=cnt X t+cnt Y t:=by simp [cnt]
theorem cnt_one {a b t:Int} (h0:0≤a) (h1:a<b) (h2:b≤1099511627776):cnt [(a,b)] t=if a≤t∧t<b then 1 else 0:=by
 have hv:pvalid (a,b)=true:=by simp [pvalid];omega
 simp [cnt,pcontains,hv]
theorem atStep_cnt (n t v:Int) (out:List (Int × Int)) {a b:Int} (h0:0≤a) (h1:a<b) (h2:b≤1099511627776) (hout : ∀ q∈out,pvalid q=true∧q.2≤a) :
  (∀ q∈atStep n out ((a,b),v),pvalid q=true∧q.2≤b)∧cnt (atStep n out ((a,b),v)) t=cnt out t+(if n≤v∧a≤t∧t<b then 1 else 0):=by
 have hv:pvalid (a,b)=true:=by simp [pvalid];omega
 have happ:(∀ q∈out++[(a,b)],pvalid q=true∧q.2≤b)∧cnt (out++[(a,b)]) t=cnt out t+(if a≤t∧t<b then 1 else 0):=by
  refine ⟨fun q hq=>?_,by rw [cnt_append,cnt_one h0 h1 h2]⟩
  rcases List.mem_append.1 hq with e|e
  ·have:=hout q e;exact ⟨this.1,by omega⟩
  ·simp at e;subst e;exact ⟨hv,Int.le_refl _⟩
 unfold atStep
 by_cases hn:n≤v
 ·rw [if_pos hn]
  simp only [hn,true_and]
  unfold joinP
  split
  ·rename_i q hq
   split
   ·rename_i hle
    have hmem:q∈out:=List.mem_of_getLast? hq
    obtain ⟨hq1,hq2⟩:=hout q hmem
    have hle':a≤q.2:=hle
    have hqe:q.2=a:=by omega
    have hsp:out=out.dropLast++[q]:=by
     have hne:out≠[]:=by intro e;rw [e] at hmem;simp at hmem
     rw [List.getLast?_eq_some_getLast hne] at hq
     injection hq with hq
     rw [← hq];exact (List.dropLast_concat_getLast hne).symm
    have hqv:0≤q.1∧q.1<q.2∧q.2≤1099511627776:=by simp [pvalid] at hq1;omega
    have hm:max q.2 b=b:=by omega
    show (∀ x∈out.dropLast++[(q.1,max q.2 b)],pvalid x=true∧x.2≤b)∧cnt (out.dropLast++[(q.1,max q.2 b)]) t=_
    rw [hm]
    refine ⟨fun x hx=>?_,?_⟩
    ·rcases List.mem_append.1 hx with e|e
     ·have:=hout x (List.dropLast_subset _ e);exact ⟨this.1,by omega⟩
     ·simp at e;subst e;exact ⟨by simp [pvalid];omega,Int.le_refl _⟩
    ·have e1:cnt out t=cnt out.dropLast t+cnt [(q.1,q.2)] t:=by rw [← cnt_append];exact congrArg (cnt · t) hsp
     rw [e1,cnt_append,cnt_one hqv.1 (by omega) h2,cnt_one hqv.1 hqv.2.1 hqv.2.2]
     split<;>split<;>split<;>omega
   ·exact happ
  ·exact happ
 ·rw [if_neg hn]
  refine ⟨fun q hq=>?_,by simp [hn]⟩
  have:=hout q hq;exact ⟨this.1,by omega⟩
theorem cnt_segs (n t:Int) (ht:t<1099511627776) : ∀ (r:List (Int × Int)) (x:Int × Int) (out:List (Int × Int)),0≤x.1→(x::r).Pairwise (fun p q=>p.1<q.1)→(∀ s∈x::r,s.1<1099511627776)→(∀ q∈out,pvalid q=true∧q.2≤x.1) →
  cnt ((segs (x::r)).foldl (atStep n) out) t=cnt out t+(if x.1≤t∧n≤lastV x.2 r t then 1 else 0)
 | [],x,out,h0,_,hM,hout=>by
  have:=(atStep_cnt n t x.2 out h0 (hM x (by simp)) (Int.le_refl _) hout).2
  simp only [segs,List.foldl_cons,List.foldl_nil,this]
  have e:lastV x.2 [] t=x.2:=rfl
  rw [e]
  split<;>split<;>omega
 | y::r,x,out,h0,hp,hM,hout=>by
  have hxy:x.1<y.1:=(List.pairwise_cons.1 hp).1 y (by simp)
  have hy:=(List.pairwise_cons.1 hp).2
  obtain ⟨h1,h2⟩:=atStep_cnt n t x.2 out h0 hxy (by have:=hM y (by simp);omega) hout
  have ih:=cnt_segs n t ht r y _ (by omega) hy (fun s hs=>hM s (List.mem_cons_of_mem _ hs)) h1
  have e:segs (x::y::r)=((x.1,y.1),x.2)::segs (y::r):=rfl
  rw [e,List.foldl_cons,ih,h2,lastV_cons]
  by_cases hyt:y.1≤t
  ·rw [if_pos hyt]
   split<;>split<;>split<;>omega
  ·rw [if_neg hyt]
   have e2:lastV x.2 r t=x.2:=lastV_skip fun q hq=>by have:=(List.pairwise_cons.1 hy).1 q hq;omega
   rw [e2]
   split<;>split<;>split<;>omega
theorem cnt_atl {l:List (Int × Int)} (h:svalid l=true) (n t:Int) (h1:0≤t) (h2:t<1099511627776):cnt (atl l n) t=if n≤rat l t then 1 else 0:=by
 match l,h with
 | p::r,h =>
  have ha:=svalid_asc h
  have hp0:p.1=0:=ha.2.2.2 p rfl
  simp only [svalid,Bool.and_eq_true] at h
  have hv:=validFrom_asc h.2
  have:=cnt_segs n t h2 r p [] (by omega) hv.1 ha.2.1 (by simp)
  unfold atl
  rw [this,rat_in h1 h2,lastV_cons,if_pos (show p.1≤t by omega)]
  have e:cnt [] t=0:=rfl
  rw [e]
  simp [hp0,h1]
theorem cnt_levTo {l:List (Int × Int)} (h:svalid l=true) (t:Int) (h1:0≤t) (h2:t<1099511627776) (h3:0≤rat l t) : ∀ k:Nat,cnt (levTo l k) t=if (k:Int)≤rat l t then (k:Int) else rat l t
 | 0=>by
  have e:cnt (levTo l 0) t=0:=rfl
  rw [e];split<;>omega
 | k+1=>by
  rw [levTo_succ,cnt_append,cnt_levTo h t h1 h2 h3 k,cnt_atl h _ t h1 h2]
  split<;>split<;>split<;>omega
theorem cnt_perm {a b:List (Int × Int)} (h:a.Perm b) (t:Int):cnt a t=cnt b t:=by
 unfold cnt
 induction h with
 | nil=>rfl
 | cons x _ ih=>simp only [List.map_cons,List.sum_cons,ih]
 | swap x y l=>simp only [List.map_cons,List.sum_cons];omega
 | trans _ _ ih1 ih2=>exact ih1.trans ih2
theorem cnt_levM {l:List (Int × Int)} (h:svalid l=true) (t:Int) (h1:0≤t) (h2:t<1099511627776) (h3:0≤rat l t) (h4:rat l t≤600):cnt (levM l) t=rat l t:=by
 have hp:(levM l).Perm (levTo l 600):=by
  have h0:=(place_all (levAll l) [] .nil).2
  rw [List.nil_append] at h0
  have e:levAll l=levTo l 600:=by unfold levAll levTo;rfl
  rw [← e];exact h0
 rw [cnt_perm hp,cnt_levTo h t h1 h2 h3]
 split<;>omega
end Go.Proofs.YtfccopdbgfdcdaaGreatDoor.St
namespace Go.Proofs.YtfccopdbgfdcdaaGreatDoor
open Go.RowKit
theorem cont_range {p:Per} {t:Int} (h:contB p t=true):0≤t∧t<1099511627776:=by
 unfold contB St.pcontains St.pvalid at h
 simp only [Bool.and_eq_true,decide_eq_true_eq] at h
 omega
theorem cntP_out {t:Int} (h : ¬(0≤t∧t<1099511627776)) (ps:List Per):cntP ps t=0:=by
 unfold cntP
 rw [List.length_eq_zero_iff,List.filter_eq_nil_iff]
 exact fun p _ hp=>h (cont_range hp)
theorem steps_rat (ps:List Per) (hn:ps.length≤300) (t:Int):St.rat (stepsOf ps) t=(cntP ps t:Int):=by
 by_cases h:0≤t∧t<1099511627776
 ·rw [show stepsOf ps=St.combS (St.rsum ((ones ps).map toC)) (St.ofPts ((ones ps).map toC)) from rfl,(St.of_ok _).2 t h.1 h.2,St.rsum_ones t (ones_two ps) (by simp [ones];omega),ones_P,St.isum_onesF,cnt_nat]
 ·rw [St.rat_out h,cntP_out h];rfl
theorem steps_bound (ps:List Per) (hn:ps.length≤300) (t:Int):0≤St.rat (stepsOf ps) t∧St.rat (stepsOf ps) t≤600:=by
 have:=steps_rat ps hn t
 have:=cntP_le ps t
 omega
theorem lev_cnt (ps:List Per) (hn:ps.length≤300) (t:Int):cntP (levOf ps) t=cntP ps t:=by
 by_cases h:0≤t∧t<1099511627776
 ·have h1:=cnt_nat (levOf ps) t
  rw [lev_P,St.cnt_levM (steps_valid ps) t h.1 h.2 (steps_bound ps hn t).1 (steps_bound ps hn t).2,steps_rat ps hn] at h1
  omega
 ·rw [cntP_out h,cntP_out h]
open Go.RowKit Go.MapKept
set_option maxRecDepth 100000
theorem perOf_app (s t:List Fct) (r:List Val):perOf (s++t) r=perOf s r++perOf t r:=by unfold perOf;rw [List.filter_append,List.map_append]
theorem perOf_same (r:List Val) : ∀ ps:List Per,(∀ p∈ps,St.pvalid (toP p)=true)→perOf (ps.map fun p=>(⟨r,p⟩:Fct)) r=ps
 | [],_=>rfl
 | p::ps,h=>by
  have ih:=perOf_same r ps fun q hq=>h q (List.mem_cons_of_mem _ hq)
  have hp:pvalB p=true:=h p (List.mem_cons_self ..)
  unfold perOf at ih ⊢
  rw [List.map_cons,List.filter_cons_of_pos (by simp [hp]),List.map_cons,ih]
theorem perOf_other {r x:List Val} (hx:x≠r) (ps:List Per):perOf (ps.map fun p=>(⟨x,p⟩:Fct)) r=[]:=by
 unfold perOf
 rw [List.map_eq_nil_iff,List.filter_eq_nil_iff]
 intro f hf h
 obtain ⟨p,_,rfl⟩:=List.mem_map.1 hf
 simp only [Bool.and_eq_true,decide_eq_true_eq] at h
 exact hx h.2
theorem perOf_runs (L:List Val→List Per) (hL : ∀ r, ∀ p∈L r,St.pvalid (toP p)=true) : ∀ (R:List (List Val)),SRows R → ∀ r,perOf (R.flatMap fun r=>(L r).map fun p=>(⟨r,p⟩:Fct)) r=if r∈R then L r else []
 | [],_,r=>rfl
 | x::R,h,r=>by
  have ih:=perOf_runs L hL R (List.Pairwise.of_cons h) r
  rw [List.flatMap_cons,perOf_app,ih]
  by_cases hx:x=r
  ·subst hx
   rw [perOf_same x _ (hL x),if_neg (srows_ne h),if_pos (List.mem_cons_self ..),List.append_nil]
  ·rw [perOf_other hx,List.nil_append]
   by_cases hr:r∈R
   ·rw [if_pos hr,if_pos (List.mem_cons_of_mem _ hr)]
   ·rw [if_neg hr,if_neg (by intro h;rcases List.mem_cons.1 h with h|h;exact hx h.symm;exact hr h)]
section
variable {l:List Fct} {R:List (List Val)} (h:RowsOf l R) (hn:l.length≤300)
include h hn
end
def Apart (p q:Per):Prop:=p.hi<q.lo∨q.hi<p.lo∨(p.lo≤q.lo∧q.hi≤p.hi)∨(q.lo≤p.lo∧p.hi≤q.hi)
def Lam (L:List Per):Prop := ∀ p∈L, ∀ q∈L,Apart p q
def PerV (p:Per):Prop:=0≤p.lo∧p.lo<p.hi∧p.hi≤1099511627776
theorem pv_iff (p:Per):St.pvalid (toP p)=true↔PerV p:=by
 unfold St.pvalid PerV toP
 simp only [Bool.and_eq_true,decide_eq_true_eq]
 omega
theorem cont_iff {p:Per} (h:PerV p) (t:Int):contB p t=true↔p.lo≤t∧t<p.hi:=by
 rw [contB_eq,(pv_iff p).2 h,Bool.true_and,Bool.and_eq_true,decide_eq_true_eq,decide_eq_true_eq]
theorem cnt_mono {s t:Int} : ∀ L:List Per,(∀ p∈L,contB p s=true→contB p t=true)→cntP L s≤cntP L t
 | [],_=>Nat.le_refl _
 | p::L,h=>by
  have ih:=cnt_mono L fun q hq=>h q (List.mem_cons_of_mem _ hq)
  have h0:=h p (List.mem_cons_self ..)
  rw [cntP_cons,cntP_cons]
  by_cases hs:contB p s=true
  ·rw [if_pos hs,if_pos (h0 hs)];omega
  ·rw [if_neg hs];omega
theorem cntP_app (A B:List Per) (t:Int):cntP (A++B) t=cntP A t+cntP B t:=by
 unfold cntP;rw [List.filter_append,List.length_append]
theorem cnt_lt {s t:Int} {L:List Per} (h : ∀ p∈L,contB p s=true→contB p t=true) {q:Per} (hq:q∈L) (h1:contB q t=true) (h2:contB q s=false):cntP L s<cntP L t:=by
 obtain ⟨A,B,rfl⟩:=List.append_of_mem hq
 have hA:=cnt_mono A fun p hp=>h p (by simp [hp])
 have hB:=cnt_mono B fun p hp=>h p (by simp [hp])
 rw [cntP_app,cntP_app,cntP_cons,cntP_cons,if_pos h1,if_neg (by rw [h2];decide)]
 omega
theorem cnt_ex {s t:Int} {L:List Per} (h:cntP L s<cntP L t) : ∃ q∈L,contB q t=true∧contB q s=false:=by
 apply Classical.byContradiction
 intro hn
 have:=cnt_mono (s:=t) (t:=s) L fun p hp h1=>by
  cases h2:contB p s
  ·exact absurd ⟨p,hp,h1,h2⟩ hn
  ·rfl
 omega
theorem ex_min : ∀ L:List Per,L≠[] → ∃ p∈L, ∀ q∈L,p.hi-p.lo≤q.hi-q.lo
 | [],h=>absurd rfl h
 | p::L,_=>by
  by_cases hL:L=[]
  ·subst hL
   exact ⟨p,List.mem_cons_self .., fun q hq=>by simp at hq;subst hq;omega⟩
  ·obtain ⟨m,hm,h⟩:=ex_min L hL
   by_cases hpm:p.hi-p.lo≤m.hi-m.lo
   ·exact ⟨p,List.mem_cons_self .., fun q hq=>by
     rcases List.mem_cons.1 hq with rfl|hq
     ·omega
     ·have:=h q hq;omega⟩
   ·exact ⟨m,List.mem_cons_of_mem _ hm,fun q hq=>by
     rcases List.mem_cons.1 hq with rfl|hq
     ·omega
     ·exact h q hq⟩
theorem per_ext {p q:Per} (h1:p.lo=q.lo) (h2:p.hi=q.hi):p=q:=by
 cases p;cases q;simp_all
theorem falls {M:List Per} (hM:Lam M) (vM : ∀ p∈M,PerV p) {q:Per} (hq:q∈M):cntP M q.hi<cntP M (q.hi-1):=by
 have vq:=vM q hq
 unfold PerV at vq
 refine cnt_lt (fun s hs h=>?_) hq ((cont_iff (vM q hq) _).2 (by omega)) ?_
 ·have vs:=vM s hs
  have ha:=hM q hq s hs
  rw [cont_iff vs] at h ⊢
  unfold PerV at vs
  unfold Apart at ha
  omega
 ·cases h:contB q q.hi
  ·rfl
  ·have:=(cont_iff (vM q hq) _).1 h
   omega
theorem rises {M:List Per} (hM:Lam M) (vM : ∀ p∈M,PerV p) {q:Per} (hq:q∈M):cntP M (q.lo-1)<cntP M q.lo:=by
 have vq:=vM q hq
 unfold PerV at vq
 refine cnt_lt (fun s hs h=>?_) hq ((cont_iff (vM q hq) _).2 (by omega)) ?_
 ·have vs:=vM s hs
  have ha:=hM q hq s hs
  rw [cont_iff vs] at h ⊢
  unfold PerV at vs
  unfold Apart at ha
  omega
 ·cases h:contB q (q.lo-1)
  ·rfl
  ·have:=(cont_iff (vM q hq) _).1 h
   omega
theorem lam_uniq : ∀ (n:Nat) (L M:List Per),L.length=n→Lam L→Lam M→(∀ p∈L,PerV p)→(∀ p∈M,PerV p)→(∀ t,cntP L t=cntP M t)→L.Perm M
 | 0,L,M,hn,_,_,_,vM,hc=>by
  obtain rfl:=List.length_eq_zero_iff.1 hn
  cases M with
  | nil=>exact .nil
  | cons q M =>
   have vq:=vM q (List.mem_cons_self ..)
   have h:=hc q.lo
   rw [cntP_cons,if_pos ((cont_iff vq _).2 (by unfold PerV at vq;omega))] at h
   simp [cntP] at h
   omega
 | n+1,L,M,hn,hL,hM,vL,vM,hc=>by
  obtain ⟨p,hp,hmin⟩:=ex_min L (by intro e;rw [e] at hn;simp at hn)
  have vp:=vL p hp
  have vp':=vp
  unfold PerV at vp'
  have sup : ∀ q∈L, ∀ t,p.lo≤t→t<p.hi→contB q t=true→q.lo≤p.lo∧p.hi≤q.hi:=by
   intro q hq t h1 h2 h3
   rw [cont_iff (vL q hq)] at h3
   have ha:=hL p hp q hq
   have hm:=hmin q hq
   unfold Apart at ha
   omega
  have const : ∀ s t,p.lo≤s→s<p.hi→p.lo≤t→t<p.hi→cntP L s≤cntP L t:=by
   intro s t h1 h2 h3 h4
   refine cnt_mono L fun q hq h=>?_
   have:=sup q hq s h1 h2 h
   rw [cont_iff (vL q hq)]
   omega
  have r1:=rises hL vL hp
  have f1:=falls hL vL hp
  rw [hc,hc] at r1 f1
  obtain ⟨q,hq,q1,q2⟩:=cnt_ex r1
  obtain ⟨r,hr,e1,e2⟩:=cnt_ex f1
  have vq:=vM q hq
  have vr:=vM r hr
  have vq':=vq
  have vr':=vr
  unfold PerV at vq' vr'
  rw [cont_iff vq] at q1
  rw [cont_iff vr] at e1
  have q3 : ¬ (q.lo≤p.lo-1∧p.lo-1<q.hi):=fun h=>by rw [(cont_iff vq _).2 h] at q2;cases q2
  have e3 : ¬ (r.lo≤p.hi∧p.hi<r.hi):=fun h=>by rw [(cont_iff vr _).2 h] at e2;cases e2
  have q4:p.hi≤q.hi:=by
   apply Classical.byContradiction
   intro hlt
   have f2:=falls hM vM hq
   have:=const (q.hi-1) q.hi (by omega) (by omega) (by omega) (by omega)
   rw [hc,hc] at this
   omega
  have e4:r.lo≤p.lo:=by
   apply Classical.byContradiction
   intro hlt
   have f2:=rises hM vM hr
   have:=const r.lo (r.lo-1) (by omega) (by omega) (by omega) (by omega)
   rw [hc,hc] at this
   omega
  have hpM:p∈M:=by
   have ha:=hM q hq r hr
   unfold Apart at ha
   rcases ha with h|h|h|h
   ·omega
   ·omega
   ·rw [show p=r from per_ext (by omega) (by omega)];exact hr
   ·rw [show p=q from per_ext (by omega) (by omega)];exact hq
  obtain ⟨A,B,rfl⟩:=List.append_of_mem hp
  obtain ⟨C,D,rfl⟩:=List.append_of_mem hpM
  have sL : ∀ x∈A++B,x∈A++p::B:=fun x hx=>by simp at hx ⊢;rcases hx with h|h<;>simp [h]
  have sM : ∀ x∈C++D,x∈C++p::D:=fun x hx=>by simp at hx ⊢;rcases hx with h|h<;>simp [h]
  have ih:=lam_uniq n (A++B) (C++D) (by simp at hn ⊢;omega) (fun x hx y hy=>hL x (sL x hx) y (sL y hy)) (fun x hx y hy=>hM x (sM x hx) y (sM y hy)) (fun x hx=>vL x (sL x hx)) (fun x hx=>vM x (sM x hx)) (fun t=>by
   have:=hc t
   rw [cntP_app,cntP_app,cntP_cons,cntP_cons] at this
   rw [cntP_app,cntP_app]
   omega)
  exact List.perm_middle.trans ((ih.cons p).trans List.perm_middle.symm)
theorem levK_stk {l:List (Int × Int)} (ha:St.Asc l) : ∀ k,k≤l.length→(k=0∧St.levK l k=([],[])) ∨ ∃ x y,l[k-1]?=some (x,y)∧0<k∧Stk (St.levK l k).1 (St.levK l k).2 x
 | 0,_ => .inl ⟨rfl,rfl⟩
 | k+1,hk=>by
  have ih:=levK_stk ha k (by omega)
  have hx:l[k]?=some (l[k]'(by omega)):=List.getElem?_eq_getElem (by omega)
  generalize l[k]'(by omega)=p at hx
  obtain ⟨x,y⟩:=p
  refine .inr ⟨x,y,by simpa using hx,by omega,?_⟩
  rw [St.levK_next hx]
  unfold St.levStep
  dsimp only
  rcases ih with ⟨_,e⟩|⟨x0,y0,hx0,hk0,h⟩
  ·rw [e]
   exact Stk.next (x:=x-1) ⟨.nil,fun p hp=>(by cases hp),fun p hp=>(by cases hp),fun f hf=>(by cases hf)⟩ (by omega) _
  ·exact h.next (by have:=ha (k-1) k _ _ (by omega) hx0 hx;exact this) _
theorem levD_lam {l:List (Int × Int)} (ha:St.Asc l) (hF : ∀ s∈l,s.1<1099511627776) : ∀ p∈St.levD l, ∀ q∈St.levD l,ApS p q:=by
 unfold St.levD
 rcases levK_stk ha l.length (Nat.le_refl _) with ⟨_,e⟩|⟨x,y,hx,hk,h⟩
 ·rw [e];intro p hp;cases hp
 ·have:=h.pop (y:=1099511627776) (hF _ (List.mem_of_getElem? hx)) 0
  rw [List.drop_zero] at this
  exact this.1
theorem lev_lam (ps:List Per) (hn:ps.length≤300):Lam (levOf ps):=by
 obtain ⟨ha,hF,_,_⟩:=St.svalid_asc (steps_valid ps)
 intro p hp q hq
 have h:=levD_lam ha hF _ ((lev_perm ps hn).subset (List.mem_map_of_mem hp)) _ ((lev_perm ps hn).subset (List.mem_map_of_mem hq))
 exact h
theorem lev_sorted (ps:List Per):(levOf ps).Pairwise fun p q=>St.LexLe (toP p) (toP q):=by
 have h:=(St.place_all (St.levAll (stepsOf ps)) [] .nil).1
 have e:(levOf ps).map toP=(St.levAll (stepsOf ps)).foldl St.placeP []:=lev_P ps
 rw [← e,List.pairwise_map] at h
 exact h
theorem lex_unique : ∀ {l m:List Per}, (l.Pairwise fun p q=>St.LexLe (toP p) (toP q))→(m.Pairwise fun p q=>St.LexLe (toP p) (toP q))→l.Perm m→l=m
 | [],m,_,_,h=>(List.Perm.nil_eq h)
 | p::l,[],_,_,h=>absurd h.length_eq (by simp)
 | p::l,q::m,hl,hm,h=>by
  have hp:p∈q::m:=h.subset (List.mem_cons_self ..)
  have hq:q∈p::l:=h.symm.subset (List.mem_cons_self ..)
  have e:p=q:=by
   rcases List.mem_cons.1 hp with e|hp
   ·exact e
   ·rcases List.mem_cons.1 hq with e|hq
    ·exact e.symm
    ·have h1:=List.rel_of_pairwise_cons hl hq
     have h2:=List.rel_of_pairwise_cons hm hp
     unfold St.LexLe toP at h1 h2
     dsimp only at h1 h2
     exact per_ext (by omega) (by omega)
  subst e
  rw [lex_unique (List.Pairwise.of_cons hl) (List.Pairwise.of_cons hm) ((List.perm_cons p).1 h)]
theorem lev_part {ps qs:List Per} (hn:ps.length≤300) (h:qs.Sublist (levOf ps)):levOf qs=qs:=by
 have hq:qs.length≤300:=Nat.le_trans h.length_le (Nat.le_trans (lev_len ps hn) hn)
 have v : ∀ p∈qs,PerV p:=fun p hp=>(pv_iff p).1 (lev_valid ps hn p (h.subset hp))
 have vl : ∀ p∈levOf qs,PerV p:=fun p hp=>(pv_iff p).1 (lev_valid qs hq p hp)
 exact lex_unique (lev_sorted qs) ((lev_sorted ps).sublist h)
  (lam_uniq _ _ _ rfl (lev_lam qs hq) (fun x hx y hy=>lev_lam ps hn x (h.subset hx) y (h.subset hy)) vl v fun t=>lev_cnt qs hq t)
theorem runs_filter (L:List Val→List Per) (c:Fct→Bool) (R:List (List Val)):(R.flatMap fun r=>(L r).map fun p=>(⟨r,p⟩:Fct)).filter c=R.flatMap fun r=>((L r).filter fun p=>c ⟨r,p⟩).map fun p=>(⟨r,p⟩:Fct):=by
 induction R with
 | nil=>rfl
 | cons r R ih=>rw [List.flatMap_cons,List.flatMap_cons,List.filter_append,ih,List.filter_map];rfl
theorem runs_skip (L:List Val→List Per) (q:List Val→Bool) : ∀ R:List (List Val),(∀ r∈R,q r=false→L r=[])→((R.filter q).flatMap fun r=>(L r).map fun p=>(⟨r,p⟩:Fct))=R.flatMap fun r=>(L r).map fun p=>(⟨r,p⟩:Fct)
 | [],_=>rfl
 | r::R,h=>by
  have ih:=runs_skip L q R fun x hx=>h x (List.mem_cons_of_mem _ hx)
  rw [List.filter_cons,List.flatMap_cons, ← ih]
  cases hq:q r
  ·rw [h r (List.mem_cons_self ..) hq,if_neg (by decide)];rfl
  ·rw [if_pos rfl,List.flatMap_cons]
theorem bag_filter {l:List Fct} {R:List (List Val)} (h:RowsOf l R) (hn:l.length≤300) (c:Fct→Bool) : ∃ S,RowsOf ((bagOf l R).filter c) S∧bagOf ((bagOf l R).filter c) S=(bagOf l R).filter c:=by
 let L:List Val→List Per:=fun r=>(levOf (perOf l r)).filter fun p=>c ⟨r,p⟩
 have e:(bagOf l R).filter c=R.flatMap fun r=>(L r).map fun p=>(⟨r,p⟩:Fct):=runs_filter _ c R
 have hv : ∀ r, ∀ p∈L r,St.pvalid (toP p)=true:=fun r p hp=>lev_valid _ (Nat.le_trans (perOf_le2 l r) hn) p (List.mem_filter.1 hp).1
 have hp : ∀ r,perOf ((bagOf l R).filter c) r=if r∈R then L r else []:=fun r=>by rw [e];exact perOf_runs L hv R h.1 r
 let q:List Val→Bool:=fun r => !(L r).isEmpty
 have hq : ∀ r,q r=false→L r=[]:=fun r hr=>by
  have:(L r).isEmpty=true:=by simpa [q] using hr
  exact List.isEmpty_iff.1 this
 refine ⟨R.filter q,⟨h.1.sublist List.filter_sublist,fun x=>⟨fun hx=>?_,?_⟩⟩,?_⟩
 ·obtain ⟨hxR,hxq⟩:=List.mem_filter.1 hx
  cases hL:L x with
  | nil=>simp [q,hL] at hxq
  | cons p t =>
   have hm:p∈L x:=by rw [hL];exact List.mem_cons_self ..
   refine ⟨⟨x,p⟩,?_,hv x p hm,rfl⟩
   rw [e]
   exact List.mem_flatMap.2 ⟨x,hxR,List.mem_map_of_mem hm⟩
 ·rintro ⟨f,hf,_,rfl⟩
  rw [e] at hf
  obtain ⟨r,hr,hf⟩:=List.mem_flatMap.1 hf
  obtain ⟨p,hm,rfl⟩:=List.mem_map.1 hf
  refine List.mem_filter.2 ⟨hr,?_⟩
  cases hL:L r with
  | nil=>rw [hL] at hm;cases hm
  | cons _ _=>simp [q,hL]
 ·show ((R.filter q).flatMap fun r=>(levOf (perOf ((bagOf l R).filter c) r)).map fun p=>(⟨r,p⟩:Fct))=_
  have e2:((R.filter q).flatMap fun r=>(levOf (perOf ((bagOf l R).filter c) r)).map fun p=>(⟨r,p⟩:Fct))=(R.filter q).flatMap fun r=>(L r).map fun p=>(⟨r,p⟩:Fct):=by
   rw [List.flatMap_def,List.flatMap_def]
   congr 1
   refine List.map_congr_left fun r hr=>?_
   rw [hp r,if_pos (List.mem_filter.1 hr).1,lev_part (Nat.le_trans (perOf_le2 l r) hn) List.filter_sublist]
  rw [e2,runs_skip L q R fun r _=>hq r,e]
theorem canon_filter {l:List Fct} (hn:l.length≤300) (c:Fct→Bool):canon ((canon l).filter c)=(canon l).filter c:=by
 obtain ⟨S,hS,e⟩:=bag_filter (rowsL_of l) hn c
 exact (canon_of hS).symm.trans e
set_option maxHeartbeats 8000000
noncomputable section
def gLawPartition_B1 (a_r:Rln) (a_p:Per):(Int × Int)→Option (Step (Int × Int) (Bool)):=fun s=>match s with
 | (n_7,rel_8)=>bif (decide (rel_8<(13:Int))) then (gTouchingP a_r rel_8 a_p).bind fun r_10=>some (.next ((IntKind.i64.wrap (n_7+((r_10.facts.length:Nat):Int))),(IntKind.i64.wrap (rel_8+(1:Int))))) else
 some (.exit (n_7,rel_8))
def gLawPartition_K1 (a_r:Rln) (a_k:Pai):Sum (Int × Int) (Bool)→Option ((Bool))
 | .inl (n_7,rel_8)=>(gBagR a_r.facts).bind fun r_11=>bif (decide (n_7=((r_11.length:Nat):Int))) then (gLongerP a_r (1:Int)).bind fun r_13=>(gIdent r_13.facts r_11).bind fun r_14=>bif r_14 then (gLongerP a_r a_k.a).bind fun r_16=>(gLongerP r_16 a_k.b).bind fun r_17=>(gLongerP a_r (mxI a_k.a a_k.b)).bind fun r_18=>(gAlike r_17 r_18).bind fun r_19=>bif r_19 then some (true) else
 some false else
 some false else
 some false
 | .inr q=>some q
def gLawPartition (a_r:Rln) (a_p:Per) (a_k:Pai):Option (Bool):=(gFew23 a_r).bind fun r_1=>bif (!r_1) then some (true) else
 (gValid1 a_p).bind fun r_4=>bif (!r_4) then some (true) else
 (loopM (gLawPartition_B1 a_r a_p) fuel ((0:Int),(0:Int))).bind (gLawPartition_K1 a_r a_k)
theorem gLawPartition_ok {a_r:Rln} {a_p:Per} {a_k:Pai} {r:Bool} (H:gLawPartition a_r a_p a_k=some r):Pure Tryz.prog 10 [.agg (cRln a_r), .agg (cPer a_p), .agg (cPai a_k)] (.val (.one (.bool r))):=by
 unfold gLawPartition at H
 refine po_ Tryz.func10 Tryz.ntmps10 ?_
 obtain ⟨r_1,c1,H⟩:=bd_ H
 replace c1:=gFew23_ok c1
 rcases cnd_ H with ⟨q_2,H⟩|⟨q_2,H⟩
 ·have hc_3:=Aw.awake_pure
  try simp only [List.map_append,List.map_cons,List.map_nil,List.nil_append,tE_eq] at hc_3
  cases H
  exact go_
 obtain ⟨r_4,c2,H⟩:=bd_ H
 replace c2:=gValid1_ok c2
 rcases cnd_ H with ⟨q_5,H⟩|⟨q_5,H⟩
 ·have hc_6:=Aw.awake_pure
  try simp only [List.map_append,List.map_cons,List.map_nil,List.nil_append,tE_eq] at hc_6
  cases H
  exact go_
 refine gt_ ?_
 refine alM_ (fun s:Int × Int=>match s with|(n_7,rel_8)=>[(3, .one (.ptr 0 0)),(4, .one (.ptr 1 0)),(5, .one (.ptr 2 0)),(7, .one (.c (.int .i64 n_7))),(8, .one (.c (.int .i64 rel_8)))]) (fun s=>match s with|(n_7,rel_8)=>[.box [.c (.lst (a_r.kinds.map (fun x=>[AC.int .i64 x]))), .c (.lst (a_r.facts.map cFct))], .box [.c (.int .i64 a_p.lo), .c (.int .i64 a_p.hi)], .box [.c (.int .i64 a_k.a), .c (.int .i64 a_k.b)]]) H (fun _=>Nat.zero_le _)
  (fm_ br_ [] rfl bt_ bo_) ?_
 rintro ⟨n_7,rel_8⟩ st1 hb1 hk1
 unfold gLawPartition_B1 at hb1
 dsimp only at hb1 ⊢
 rcases cnd_ hb1 with ⟨q_9,hb1⟩|⟨q_9,hb1⟩
 ·obtain ⟨r_10,c3,hb1⟩:=bd_ hb1
  replace c3:=gTouchingP_ok c3
  cases hb1
  refine gt_ ?_
  exact ⟨_,rfl,fm_ br_ [] rfl bt_ bo_⟩
 cases hb1
 have hx1:gLawPartition_K1 a_r a_k (.inl (n_7,rel_8))=some _:=hk1
 unfold gLawPartition_K1 at hx1
 dsimp only at hx1
 obtain ⟨r_11,c4,hx1⟩:=bd_ hx1
 replace c4:=gBagR_ok c4
 rcases cnd_ hx1 with ⟨q_12,hx1⟩|⟨q_12,hx1⟩
 ·obtain ⟨r_13,c5,hx1⟩:=bd_ hx1
  replace c5:=gLongerP_ok c5
  obtain ⟨r_14,c6,hx1⟩:=bd_ hx1
  replace c6:=gIdent_ok c6
  rcases cnd_ hx1 with ⟨q_15,hx1⟩|⟨q_15,hx1⟩
  ·obtain ⟨r_16,c7,hx1⟩:=bd_ hx1
   replace c7:=gLongerP_ok c7
   obtain ⟨r_17,c8,hx1⟩:=bd_ hx1
   replace c8:=gLongerP_ok c8
   obtain ⟨r_18,c9,hx1⟩:=bd_ hx1
   replace c9:=gLongerP_ok c9
   obtain ⟨r_19,c10,hx1⟩:=bd_ hx1
   replace c10:=gAlike_ok c10
   rcases cnd_ hx1 with ⟨q_20,hx1⟩|⟨q_20,hx1⟩
   ·have hc_21:=Aw.awake_pure
    try simp only [List.map_append,List.map_cons,List.map_nil,List.nil_append,tE_eq] at hc_21
    cases hx1
    exact go_
   cases hx1
   exact go_
  cases hx1
  exact go_
 cases hx1
 exact go_
end
def lgF (n:Int) (f:Fct):Bool:=decide (n≤IntKind.i64.wrap (f.valid.hi-f.valid.lo))
def tcF (rel:Int) (p:Per) (f:Fct):Bool:=pvalB f.valid&&(pvalB p&&decide (relF f.valid p=rel))
noncomputable def lgL (l:List Fct) (n:Int):List Fct:=(canon l).filter (lgF n)
noncomputable def tcL (l:List Fct) (rel:Int) (p:Per):List Fct:=(canon l).filter (tcF rel p)
theorem gLongerP_eq {r:Rln} (hk:r.kinds.length≤1000000) (h:FctsOK r.facts) (n:Int):gLongerP r n=some ⟨r.kinds,lgL r.facts n⟩:=by
 unfold gLongerP
 rw [gBag_canon h,Option.bind_some,gChoose_eq (p:=fun x0=>gLonger1 x0 n) (c:=lgF n) hk (fcts_canon h) (fun f _=>rfl),canon_filter (by have:=h.1;omega)];rfl
theorem gHoldsP_eq (rel:Int) (p q:Per):gHoldsP rel p q=some (pvalB p&&(pvalB q&&decide (relF p q=rel))):=by
 unfold gHoldsP
 rw [gRel_eq,Option.bind_some]
 generalize relF p q=x
 cases pvalB p<;>cases pvalB q<;>rfl
theorem gTouchingP_eq {r:Rln} (hk:r.kinds.length≤1000000) (h:FctsOK r.facts) (rel:Int) (p:Per):gTouchingP r rel p=some ⟨r.kinds,tcL r.facts rel p⟩:=by
 unfold gTouchingP
 rw [gBag_canon h,Option.bind_some,gChoose_eq (p:=fun x0=>gTouching1 x0 rel p) (c:=tcF rel p) hk (fcts_canon h) (fun f _=>by unfold gTouching1;rw [gHoldsP_eq];rfl),canon_filter (by have:=h.1;omega)];rfl
theorem fcts_lg {l:List Fct} (h:FctsOK l) (n:Int):FctsOK (lgL l n):=fcts_sub (fcts_canon h) List.filter_sublist
theorem filter_lt_succ {α:Type} (g:α→Int) (i:Int) : ∀ l:List α,(l.filter fun x=>decide (g x<i)).length+(l.filter fun x=>decide (g x=i)).length=(l.filter fun x=>decide (g x<i+1)).length
 | []=>rfl
 | x::l=>by
  have ih:=filter_lt_succ g i l
  rw [List.filter_cons,List.filter_cons,List.filter_cons]
  by_cases h1:g x<i
  ·rw [if_pos (decide_eq_true h1),if_neg (by simp;omega),if_pos (decide_eq_true (show g x<i+1 by omega)),List.length_cons,List.length_cons];omega
  ·by_cases h2:g x=i
   ·rw [if_neg (by simpa using h1),if_pos (decide_eq_true h2),if_pos (decide_eq_true (show g x<i+1 by omega)),List.length_cons,List.length_cons];omega
   ·rw [if_neg (by simpa using h1),if_neg (by simpa using h2),if_neg (by simp;omega)];exact ih
theorem tc_eq {l:List Fct} {p:Per} (hn:l.length≤300) (hp:pvalB p=true) (rel:Int):tcL l rel p=(canon l).filter fun f=>decide (relF f.valid p=rel):=by
 unfold tcL
 refine List.filter_congr fun f hf=>?_
 unfold tcF
 rw [(canon_mem hn hf).1,hp];rfl
theorem partition_loop {r:Rln} {p:Per} (H:RlnOK r) (hp:pvalB p=true) : ∀ (n i:Nat) (c:Int),i≤13→13-i<n→c=(((canon r.facts).filter fun f=>decide (relF f.valid p<(i:Int))).length:Nat)→loopM (gLawPartition_B1 r p) n (c,(i:Int))=some (.inl (((canon r.facts).length:Nat),13))
 | 0,i,c,_,h,_=>by omega
 | n+1,i,c,hi,hn,hc=>by
  have hl:(canon r.facts).length≤16:=Nat.le_trans (canon_len (by have:=H.len;omega)) H.len
  rw [loopM]
  by_cases h:i<13
  ·have hb:gLawPartition_B1 r p (c,(i:Int))=some (.next (((((canon r.facts).filter fun f=>decide (relF f.valid p<((i+1:Nat):Int))).length:Nat):Int),((i+1:Nat):Int))):=by
    unfold gLawPartition_B1
    dsimp only
    rw [decide_eq_true (show (i:Int)<13 by omega),cond_true,gTouchingP_eq (by have:=H.kinds;omega) H.fcts,Option.bind_some,wrapN (by omega)]
    have h1:=filter_lt_succ (fun f:Fct=>relF f.valid p) (i:Int) (canon r.facts)
    have h2:=List.length_filter_le (fun f:Fct=>decide (relF f.valid p<(i:Int)+1)) (canon r.facts)
    dsimp only
    rw [tc_eq (by have:=H.len;omega) hp,hc,wrap_in (by omega)]
    congr 3
    rw [show ((i+1:Nat):Int)=(i:Int)+1 by omega, ← h1];omega
   rw [hb]
   exact partition_loop H hp n (i+1) _ (by omega) (by omega) rfl
  ·have:i=13:=by omega
   subst this
   have hb:gLawPartition_B1 r p (c,((13:Nat):Int))=some (.exit (c,13)):=by
    unfold gLawPartition_B1
    rfl
   rw [hb,hc]
   have:((canon r.facts).filter fun f=>decide (relF f.valid p<((13:Nat):Int)))=canon r.facts:=by
    refine List.filter_eq_self.2 fun f _=>decide_eq_true ?_
    exact (relF_range _ _).2
   rw [this]
theorem lg_one {l:List Fct} (hn:l.length≤300):lgL l 1=canon l:=by
 refine List.filter_eq_self.2 fun f hf=>?_
 obtain ⟨h1,h2,h3⟩:=pval_facts (canon_mem hn hf).1
 unfold lgF
 rw [wrap_in (by omega)]
 exact decide_eq_true (by omega)
theorem lg_lg {l:List Fct} (hn:l.length≤300) (a b:Int):lgL (lgL l a) b=lgL l (mxI a b):=by
 unfold lgL
 rw [canon_filter hn,List.filter_filter]
 refine List.filter_congr fun f _=>?_
 unfold lgF mxI
 rw [Bool.eq_iff_iff,Bool.and_eq_true,decide_eq_true_eq,decide_eq_true_eq,decide_eq_true_eq]
 split<;>omega
theorem gLawPartition_true (r:Rln) (p:Per) (k:Pai):gLawPartition r p k=some true:=by
 obtain ⟨b,hb,hok⟩:=gFew23_sem r
 unfold gLawPartition
 rw [hb,Option.bind_some]
 cases b with
 | false=>rfl
 | true =>
  have H:=hok rfl
  have hF:=H.fcts
  have hn:r.facts.length≤300:=by have:=H.len;omega
  have hk:r.kinds.length≤1000000:=by have:=H.kinds;omega
  rw [Bool.not_true,cond_false,gValid1_eq,Option.bind_some]
  cases hp:pvalB p with
  | false=>rfl
  | true =>
   rw [Bool.not_true,cond_false]
   have h0:((canon r.facts).filter fun f=>decide (relF f.valid p<((0:Nat):Int)))=[]:=by
    refine List.filter_eq_nil_iff.2 fun f _=>?_
    have:=(relF_range f.valid p).1
    simp;omega
   have hloop:=partition_loop H hp fuel 0 0 (by omega) (by unfold fuel;omega) (by rw [h0];rfl)
   rw [show ((0:Nat):Int)=0 from rfl] at hloop
   rw [hloop,Option.bind_some]
   unfold gLawPartition_K1
   dsimp only
   rw [gBagR_fcts hF,Option.bind_some,decide_eq_true rfl,cond_true,gLongerP_eq hk hF,Option.bind_some]
   dsimp only
   rw [lg_one hn,gIdent_fcts (fcts_canon hF),Option.bind_some,cond_true,gLongerP_eq hk hF,Option.bind_some,gLongerP_eq (r:=⟨r.kinds,lgL r.facts k.a⟩) hk (fcts_lg hF _),Option.bind_some,gLongerP_eq hk hF,Option.bind_some]
   dsimp only
   rw [lg_lg hn,gAlike_refl (r:=⟨r.kinds,lgL r.facts (mxI k.a k.b)⟩) hk (fcts_lg hF _)];rfl
theorem projectPartition_pure {r:Rln} {p:Per} {k:Pai} (q0:okRln r) (q1:okPer p) (q2:okPai k):Pure Tryz.prog 10 [.agg (cRln r), .agg (cPer p), .agg (cPai k)] (.val (.one (.bool true))):=gLawPartition_ok (gLawPartition_true r p k)
end Go.Proofs.YtfccopdbgfdcdaaGreatDoor
