/- Parts of the proof, joined. No condition. -/
import Derived.Test.YtfccopdbgfdcdaaGreatDoorKAM
import Derived.Test.YtfccopdbgfdcdaaGreatDoorKAL
import Derived.Test.YtfccopdbgfdcdaaGreatDoorKBO
import Derived.ProofKit
import Derived.OpenShut
import Derived.ChangeOld
import Derived.Deep.Slices
import Derived.Test.YtfccopdbgfdcdaaGreatDoorKBT
import Derived.Test.YtfccopdbgfdcdaaGreatDoorKBI
import Derived.Test.YtfccopdbgfdcdaaGreatDoorKBU
import Derived.Test.YtfccopdbgfdcdaaGreatDoorKBR
import Derived.Test.YtfccopdbgfdcdaaGreatDoorKBN
import Derived.Test.YtfccopdbgfdcdaaGreatDoorKBV
set_option linter.unusedSimpArgs false
set_option linter.unusedVariables false
namespace Go.Proofs.YtfccopdbgfdcdaaGreatDoor
open Go.RowKit Go.MapKept
set_option maxRecDepth 100000
set_option maxHeartbeats 8000000
def tInts (l:List Int):AC := .lst (l.map fun x=>[.int .i64 x])
section
variable {H:Type} {enc:TypeId × Value→H} {W:World} {hT:TabR (fun b o=>W.cell? ⟨b,o,none⟩)} {base:Nat} {spare:Nat→Bool} {held:Bool}
theorem rd_l28 {cs:List Value} {fuel:Nat} {x:DataW H × List MemPlace} (h:DataW.trod enc Tryz.prog W base spare held fuel 28 cs=some x) (hw:WOk 28 x.1) : ∃ l:List Ex,CRd hT cs [.lst (l.map tE)]∧LOk 88 okEx l :=
 read_slice (k:=7) (f:=tE) (Q:=okEx) Tryz.underlying28 (by kernel_rfl) (by kernel_rfl) (by decide) tE_len h hw (fun f c x _ h hw=>rd_Ex f h hw)
end
set_option maxHeartbeats 8000000
def gProj21_B1 (a_kinds:(List Int)) (a_l:(List Ex)):((List Int) × Int)→Option (Step ((List Int) × Int) ((List Int) × Int)):=fun s=>match s with
 | (out_1,i_2)=>bif (decide (i_2<((a_l.length:Nat):Int))) then (getI a_l i_2).bind fun x_4=>(gChk11 x_4 a_kinds).bind fun r_5=>bif (decide (r_5.2≠(0:Int))) then some (.ret ([],r_5.2)) else
 bif (decide (r_5.1=(0:Int))) then some (.ret ([],(7:Int))) else
 bif (decide (out_1.length+1≤17592186044416)) then (some (.next ((out_1++[r_5.1]),(IntKind.i64.wrap (i_2+(1:Int)))))) else none else
 some (.exit (out_1,i_2))
def gProj21_K1:Sum ((List Int) × Int) ((List Int) × Int)→Option (((List Int) × Int))
 | .inl (out_1,i_2)=>some (out_1,(0:Int))
 | .inr q=>some q
def gProj21 (a_kinds:(List Int)) (a_l:(List Ex)):Option ((List Int) × Int):=(loopM (gProj21_B1 a_kinds a_l) fuel ([],(0:Int))).bind (gProj21_K1)
theorem gProj21_ok {a_kinds:(List Int)} {a_l:(List Ex)} {r:(List Int) × Int} (H:gProj21 a_kinds a_l=some r):Pure Tryz.prog 35 [.one (.lst (a_kinds.map (fun x=>[AC.int .i64 x]))), .one (.lst (a_l.map tE))] (.tup [.one (.lst (r.1.map (fun x=>[AC.int .i64 x]))), .one (.int .i64 r.2)]):=by
 unfold gProj21 at H
 refine po_ Tryz.func35 Tryz.ntmps35 ?_
 refine gt_ ?_
 refine aw_tok 6 1 rfl ?_
 refine alM_ (fun s:(List Int) × Int=>match s with|(out_1,i_2)=>[(0, .one (.c (.lst (a_kinds.map (fun x=>[AC.int .i64 x]))))),(1, .one (.c (.lst (a_l.map tE)))),(6, .one (.own (out_1.map (fun x=>[AC.int .i64 x])) 0)),(7, .one (.c (.int .i64 i_2)))]) (fun s=>match s with|(out_1,i_2)=>[.spare out_1.length 1]) H (fun _=>Nat.zero_le _)
  (fm_ br_ [] rfl bt_ bo_) ?_
 rintro ⟨out_1,i_2⟩ st1 hb1 hk1
 unfold gProj21_B1 at hb1
 dsimp only at hb1 ⊢
 rcases cnd_ hb1 with ⟨q_3,hb1⟩|⟨q_3,hb1⟩
 ·obtain ⟨x_4,i1z,i1,i1x,hb1⟩:=idx_ (f:=tE) hb1
  simp only [List.map_append,List.map_cons,List.map_nil,List.nil_append,tE_eq] at i1x
  obtain ⟨r_5,c2,hb1⟩:=bd_ hb1
  replace c2:=gChk11_ok c2
  try simp only [List.map_append,List.map_cons,List.map_nil,List.nil_append,tE_eq] at c2
  rcases cnd_ hb1 with ⟨q_6,hb1⟩|⟨q_6,hb1⟩
  ·cases hb1
   have hx1:gProj21_K1 (.inr ([],r_5.2))=some _:=hk1
   unfold gProj21_K1 at hx1
   dsimp only at hx1
   cases hx1
   exact go_
  rcases cnd_ hb1 with ⟨q_7,hb1⟩|⟨q_7,hb1⟩
  ·cases hb1
   have hx1:gProj21_K1 (.inr ([],(7:Int)))=some _:=hk1
   unfold gProj21_K1 at hx1
   dsimp only at hx1
   cases hx1
   exact go_
  obtain ⟨g3,hb1⟩:=grd_d hb1
  cases hb1
  refine gt_ ?_
  exact ⟨_,rfl,fm_ bs_ [] be_ bt_ bo_⟩
 cases hb1
 have hx1:gProj21_K1 (.inl (out_1,i_2))=some _:=hk1
 unfold gProj21_K1 at hx1
 dsimp only at hx1
 cases hx1
 exact go_
set_option maxHeartbeats 8000000
theorem gUnite_ok {a_l:(List Int)} {r:Int × Bool} (H:gUnite a_l=some r):Pure Tryz.prog 163 [.one (.lst (a_l.map (fun x=>[AC.int .i64 x])))] (.tup [.one (.int .i64 r.1), .one (.bool r.2)]):=by
 unfold gUnite at H
 refine po_ Tryz.func163 Tryz.ntmps163 ?_
 refine gt_ ?_
 refine alM_ (fun s:Int × Int=>match s with|(kind_1,v_2)=>[(4, .one (.c (.int .i64 kind_1))),(7, .one (.c (.lst (a_l.map (fun x=>[AC.int .i64 x]))))),(8, .one (.c (.int .i64 ((a_l.length:Nat):Int)))),(9, .one (.c (.int .i64 v_2)))]) (fun s=>match s with|(kind_1,v_2)=>[]) H (fun _=>Nat.zero_le _)
  (fm_ br_ [] rfl bt_ trivial) ?_
 rintro ⟨kind_1,v_2⟩ st1 hb1 hk1
 unfold gUnite_B1 at hb1
 dsimp only at hb1 ⊢
 rcases cnd_ hb1 with ⟨q_3,hb1⟩|⟨q_3,hb1⟩
 ·obtain ⟨x_4,i1z,i1,i1x,hb1⟩:=idx_ (f:=(fun x=>[AC.int .i64 x])) hb1
  rcases cnd_ hb1 with ⟨q_5,hb1⟩|⟨q_5,hb1⟩
  ·cases hb1
   refine gt_ ?_
   exact ⟨_,rfl,fm_ br_ [] rfl bt_ trivial⟩
  rcases cnd_ hb1 with ⟨q_6,hb1⟩|⟨q_6,hb1⟩
  ·rcases cnd_ hb1 with ⟨q_7,hb1⟩|⟨q_7,hb1⟩
   ·cases hb1
    have hx1:gUnite_K1 (.inr ((0:Int),false))=some _:=hk1
    unfold gUnite_K1 at hx1
    dsimp only at hx1
    cases hx1
    exact go_
   cases hb1
   refine gt_ ?_
   exact ⟨_,rfl,fm_ br_ [] rfl bt_ trivial⟩
  cases hb1
  refine gt_ ?_
  exact ⟨_,rfl,fm_ br_ [] rfl bt_ trivial⟩
 cases hb1
 have hx1:gUnite_K1 (.inl (kind_1,v_2))=some _:=hk1
 unfold gUnite_K1 at hx1
 dsimp only at hx1
 cases hx1
 exact go_
def tabF:TI := { tab with owns:=fun f=>f==186||tab.owns f }
theorem tabF_ok:TIok Tryz.prog tabF:=⟨tab_ok.size,tab_ok.agg,tab_ok.elem,tab_ok.field,tab_ok.zero,tab_ok.bytes,tab_ok.kind,tab_ok.struct,tab_ok.zok,tab_ok.eqs⟩
theorem ints_wide (l:List Int) : ∀ e∈l.map (fun x=>[AC.int .i64 x]),e.length=1:=by intro e he;obtain ⟨x,_,rfl⟩:=List.mem_map.1 he;rfl
theorem cloneI_run (l:List Int) (h0:l≠[]) (hl:l.length≤1000000):Run Tryz.prog 186 [] [.one (.c (tInts l))] [.spare l.length 1] (.one (.own (l.map fun x=>[AC.int .i64 x]) 0)):=by
 refine run_of_aw tab_ok Tryz.func186 rfl rfl Tryz.ntmps186 (by simp) ?_
 simp only [argA]
 obtain ⟨x,r,rfl⟩ : ∃ x r',l=x::r':=by cases l with|nil=>exact absurd rfl h0|cons x r=>exact ⟨x,r,rfl⟩
 have hw:=ints_wide (x::r)
 have hlen:((x::r).map fun x=>[AC.int .i64 x]).length=r.length+1:=by simp
 simp only [List.length_cons] at hl
 repeat' (first
  | refine st_nil ?_
  | (refine st_pop rfl rfl rfl rfl ?_ ?_; · (repeat' (first|exact trivial|rfl|exact Nat.le_of_ble_eq_true rfl|omega|exact hw|(rw [hlen];omega)|apply And.intro)))
  | (refine st_lop rfl rfl rfl rfl ?_ ?_; · (repeat' (first|exact trivial|rfl|exact Nat.le_of_ble_eq_true rfl|omega|exact hw|(rw [hlen];omega)|apply And.intro)))
  | (refine sS_ rfl rfl rfl ?_ ?_; · (repeat' (first|exact trivial|rfl|exact Nat.le_of_ble_eq_true rfl|omega|exact hw|(rw [hlen];omega)|apply And.intro)))
  | (refine st_lit rfl rfl rfl rfl ?_ ?_; · (repeat' (first|exact trivial|rfl|exact Nat.le_of_ble_eq_true rfl|omega|exact hw|(rw [hlen];omega)|apply And.intro)))
  | refine st_skip rfl rfl rfl ?_
  | refine sk0_ rfl rfl ?_
  | (refine st_if rfl (fun hb=>?_) (fun hb=>?_)<;>(first|exact (fx_ hb).elim|rw [hb]))
  | refine aw_seq ?_
  | refine aw_region tab_ok _ rfl ?_
  | refine aw_drawn2 tabS_ok _ rfl mx_ (by decide +kernel) ?_
  | (refine aw_cond rfl (fun hb=>?_) (fun hb=>?_)<;>(try exact (fx_ hb).elim))
  | refine aw_block ?_
  | refine aw_exit ?_
  | refine aw_ret ?_
  | refine aw_skip ?_
  | (refine st_sopq rfl rfl rfl rfl rfl (sop_notNil rfl rfl (tab_ok.kind 22 _ rfl)) ?_))
 all_goals exact ⟨.inr rfl,⟨.inl ⟨2,rfl,rfl⟩,⟨[],by rw [List.append_nil];exact congrArg (fun n=>[Ob.spare n 1]) (by simp)⟩,Nat.zero_le _,mem_below ⟨trivial,trivial⟩,by show 0<1;omega⟩⟩
theorem allOk_of {l:List Int} (h:allOk l=true):l≠[]∧l.length≤100000:=by
 unfold allOk at h
 rw [Bool.and_eq_true] at h
 refine ⟨?_,of_decide_eq_true h.2⟩
 rintro rfl
 exact absurd h.1 (by decide)
theorem vBoolX_eq {a b:Bool} (h:a=b):(CV.val (.one (.bool a))) = .val (.one (.bool b)):=by rw [h]
theorem gAllP_ok {l:List Int} {k:Int} {r:Bool} (H:gAllP l k=some r):Pure Tryz.prog 162 [.one (.lst (l.map (fun x=>[AC.int .i64 x]))), .one (.int .i64 k)] (.val (.one (.bool r))):=by
 unfold gAllP at H
 obtain ⟨g,H⟩:=grd_some H
 refine pa_ tabF_ok Tryz.func162 rfl rfl Tryz.ntmps162 (by simp) ?_
 simp only [argT,PV.av,List.map_cons,List.map_nil]
 obtain ⟨h0,hl⟩:=allOk_of g
 obtain ⟨⟨u1,u2⟩,hun,H⟩:=bd_ H
 replace hun:=gUnite_ok hun
 have htI:(l++[k]).map (fun x=>[AC.int .i64 x])=(l.map fun x=>[AC.int .i64 x])++[[.int .i64 k]]:=by simp
 rw [htI] at hun
 have hun':Pure Tryz.prog 163 [.one (.lst ((l.map fun x=>[AC.int .i64 x])++[[.int .i64 k]]))] (.tup [.one (.int .i64 u1), .one (.bool u2)]):=hun
 obtain rfl:=Option.some.inj H
 have hlm:(l.map fun x=>[AC.int .i64 x]).length=l.length:=by simp
 repeat' (first
  | refine st_nil ?_
  | (refine st_pop rfl rfl rfl rfl ?_ ?_; · (repeat' (first|exact trivial|rfl|exact Nat.le_of_ble_eq_true rfl|omega|(intro e he;simp at he;subst he;rfl)|exact hlm|(show (_+1)*8≤_;omega)|(show _+1≤_;omega)|apply And.intro)))
  | (refine st_lop rfl rfl rfl rfl ?_ ?_; · (repeat' (first|exact trivial|rfl|exact Nat.le_of_ble_eq_true rfl|omega|(intro e he;simp at he;subst he;rfl)|exact hlm|(show (_+1)*8≤_;omega)|(show _+1≤_;omega)|apply And.intro)))
  | (refine sS_ rfl rfl rfl ?_ ?_; · (repeat' (first|exact trivial|rfl|exact Nat.le_of_ble_eq_true rfl|omega|(intro e he;simp at he;subst he;rfl)|exact hlm|(show (_+1)*8≤_;omega)|(show _+1≤_;omega)|apply And.intro)))
  | (refine st_lit rfl rfl rfl rfl ?_ ?_; · (repeat' (first|exact trivial|rfl|exact Nat.le_of_ble_eq_true rfl|omega|(intro e he;simp at he;subst he;rfl)|exact hlm|(show (_+1)*8≤_;omega)|(show _+1≤_;omega)|apply And.intro)))
  | refine st_skip rfl rfl rfl ?_
  | refine sk0_ rfl rfl ?_
  | refine st_call rfl rfl rfl rfl hun' rfl ?_
  | (refine st_run [] (r' := .one (.own (l.map fun x=>[AC.int .i64 x]) 0)) (L':=[.spare l.length 1]) rfl rfl rfl rfl (cloneI_run l h0 (by omega)) rfl ⟨rfl,by simp,fun i x hx=>by simp at hx,fun x hx=>by simp at hx,args_below ⟨trivial,trivial⟩⟩ rfl rfl ?_)
  | (refine st_if rfl (fun hb=>?_) (fun hb=>?_)<;>(first|exact (fx_ hb).elim|rw [hb]))
  | refine aw_seq ?_
  | refine aw_region tabF_ok _ rfl ?_
  | refine aw_drawn2 tabS_ok _ rfl mx_ (by decide +kernel) ?_
  | (refine aw_cond rfl (fun hb=>?_) (fun hb=>?_)<;>(try exact (fx_ hb).elim))
  | refine aw_block ?_
  | refine aw_exit ?_
  | refine aw_ret ?_
  | refine aw_skip ?_)
 all_goals (refine end_ret (res_of rfl (by trivial) (vBoolX_eq ?_));simp only [*, cond_true,cond_false])
theorem gResultP_ok {a_e:Ex} {a_l:(List Int)} {r:Int × Bool} (H:gRsP a_e a_l=some r):Pure Tryz.prog 123 [.agg (tE a_e), .one (.lst (a_l.map (fun x=>[AC.int .i64 x])))] (.tup [.one (.int .i64 r.1), .one (.bool r.2)]):=by
 unfold gRsP at H
 rw [tE_eq a_e]
 refine po_ Tryz.func123 Tryz.ntmps123 ?_
 rcases cnd_ H with ⟨q_1,H⟩|⟨q_1,H⟩
 ·cases H
  exact go_
 rcases cnd_ H with ⟨q_2,H⟩|⟨q_2,H⟩
 ·obtain ⟨r_3,c1,H⟩:=bd_ H
  replace c1:=gAllP_ok c1
  cases H
  exact go_
 refine gt_ ?_
 rcases cnd_ H with ⟨q_4,H⟩|⟨q_4,H⟩
 ·obtain ⟨r_5,c2,H⟩:=bd_ H
  replace c2:=gAllP_ok c2
  cases H
  exact go_
 rcases cnd_ H with ⟨q_6,H⟩|⟨q_6,H⟩
 ·obtain ⟨r_7,c3,H⟩:=bd_ H
  replace c3:=gAllP_ok c3
  cases H
  exact go_
 rcases cnd_ H with ⟨q_8,H⟩|⟨q_8,H⟩
 ·obtain ⟨r_9,c4,H⟩:=bd_ H
  replace c4:=gUnite_ok c4
  cases H
  exact go_
 refine gt_ ?_
 rcases cnd_ H with ⟨q_10,H⟩|⟨q_10,H⟩
 ·obtain ⟨r_11,c5,H⟩:=bd_ H
  replace c5:=gUnite_ok c5
  cases H
  exact go_
 rcases cnd_ H with ⟨q_12,H⟩|⟨q_12,H⟩
 ·obtain ⟨r_13,c6,H⟩:=bd_ H
  replace c6:=gUnite_ok c6
  cases H
  exact go_
 rcases cnd_ H with ⟨q_14,H⟩|⟨q_14,H⟩
 ·obtain ⟨r_15,c7,H⟩:=bd_ H
  replace c7:=gUnite_ok c7
  cases H
  exact go_
 refine gt_ ?_
 rcases cnd_ H with ⟨q_16,H⟩|⟨q_16,H⟩
 ·obtain ⟨r_17,c8,H⟩:=bd_ H
  replace c8:=gUnite_ok c8
  cases H
  exact go_
 rcases cnd_ H with ⟨q_18,H⟩|⟨q_18,H⟩
 ·obtain ⟨r_19,c9,H⟩:=bd_ H
  replace c9:=gUnite_ok c9
  cases H
  exact go_
 rcases cnd_ H with ⟨q_20,H⟩|⟨q_20,H⟩
 ·obtain ⟨r_21,c10,H⟩:=bd_ H
  replace c10:=gAllP_ok c10
  cases H
  exact go_
 refine gt_ ?_
 rcases cnd_ H with ⟨q_22,H⟩|⟨q_22,H⟩
 ·obtain ⟨r_23,c11,H⟩:=bd_ H
  replace c11:=gAllP_ok c11
  cases H
  exact go_
 rcases cnd_ H with ⟨q_24,H⟩|⟨q_24,H⟩
 ·cases H
  exact go_
 rcases cnd_ H with ⟨q_25,H⟩|⟨q_25,H⟩
 ·obtain ⟨s_26,u12,H⟩:=bd_ H
  obtain ⟨⟨u12a,u12b,u12c⟩,u12⟩:=subI_some u12
  have u12x:=subE (f:=(fun x=>[AC.int .i64 x])) u12
  obtain ⟨r_27,c13,H⟩:=bd_ H
  replace c13:=gUnite_ok c13
  repeat' (first|refine p_ rfl rfl rfl rfl rfl ?_|refine st_nil ?_|refine x_ rfl rfl rfl rfl rfl rfl rfl rfl ?_|refine l_ rfl rfl rfl rfl ?_|refine s_ rfl rfl rfl ?_|refine t_ rfl rfl rfl rfl ?_|refine k_ rfl rfl rfl ?_|refine k0_ rfl rfl ?_|refine c_ rfl rfl rfl rfl ?_|refine pick_t rfl rfl rfl rfl rfl rfl rfl ?_|refine pick_f rfl rfl rfl rfl rfl rfl rfl ?_|refine aw_seq ?_|refine aw_region tab_ok _ rfl ?_|refine aw_drawn2 tabS_ok _ rfl mx_ (by decide +kernel) ?_|refine aw_condT rfl ?_|refine aw_condF rfl ?_|refine aw_block ?_|refine aw_exit ?_|refine aw_ret ?_|refine aw_skip ?_|rw [List.length_map]|rw [mn_norm]|rw [mx_norm]|rw [u12x]|rw [show ((0:Nat):Int)=0 from rfl])
  rcases cnd_ H with ⟨q_28,H⟩|⟨q_28,H⟩
  ·obtain ⟨s_29,u14,H⟩:=bd_ H
   obtain ⟨⟨u14a,u14b,u14c⟩,u14⟩:=subI_some u14
   have u14x:=subE (f:=(fun x=>[AC.int .i64 x])) u14
   obtain ⟨r_30,c15,H⟩:=bd_ H
   replace c15:=gAllP_ok c15
   cases H
   repeat' (first|refine p_ rfl rfl rfl rfl rfl ?_|refine st_nil ?_|refine x_ rfl rfl rfl rfl rfl rfl rfl rfl ?_|refine l_ rfl rfl rfl rfl ?_|refine s_ rfl rfl rfl ?_|refine t_ rfl rfl rfl rfl ?_|refine k_ rfl rfl rfl ?_|refine k0_ rfl rfl ?_|refine c_ rfl rfl rfl rfl ?_|refine pick_t rfl rfl rfl rfl rfl rfl rfl ?_|refine pick_f rfl rfl rfl rfl rfl rfl rfl ?_|refine aw_seq ?_|refine aw_region tab_ok _ rfl ?_|refine aw_drawn2 tabS_ok _ rfl mx_ (by decide +kernel) ?_|refine aw_condT rfl ?_|refine aw_condF rfl ?_|refine aw_block ?_|refine aw_exit ?_|refine aw_ret ?_|refine aw_skip ?_|rw [List.length_map]|rw [mn_norm]|rw [mx_norm]|rw [u12x]|rw [u14x]|rw [show ((0:Nat):Int)=0 from rfl])
   refine end_ret (res_of rfl ?_ ?_)
   ·repeat' (first|exact trivial|rfl|exact Nat.le_of_ble_eq_true rfl|omega|apply And.intro)
   ·first|rfl|(simp only [List.map_append,List.map_cons,List.map_nil,List.nil_append]<;>rfl)
  cases H
  repeat' (first|refine p_ rfl rfl rfl rfl rfl ?_|refine st_nil ?_|refine x_ rfl rfl rfl rfl rfl rfl rfl rfl ?_|refine l_ rfl rfl rfl rfl ?_|refine s_ rfl rfl rfl ?_|refine t_ rfl rfl rfl rfl ?_|refine k_ rfl rfl rfl ?_|refine k0_ rfl rfl ?_|refine c_ rfl rfl rfl rfl ?_|refine pick_t rfl rfl rfl rfl rfl rfl rfl ?_|refine pick_f rfl rfl rfl rfl rfl rfl rfl ?_|refine aw_seq ?_|refine aw_region tab_ok _ rfl ?_|refine aw_drawn2 tabS_ok _ rfl mx_ (by decide +kernel) ?_|refine aw_condT rfl ?_|refine aw_condF rfl ?_|refine aw_block ?_|refine aw_exit ?_|refine aw_ret ?_|refine aw_skip ?_|rw [List.length_map]|rw [mn_norm]|rw [mx_norm]|rw [u12x]|rw [show ((0:Nat):Int)=0 from rfl])
  refine end_ret (res_of rfl ?_ ?_)
  ·repeat' (first|exact trivial|rfl|exact Nat.le_of_ble_eq_true rfl|omega|apply And.intro)
  ·first|rfl|(simp only [List.map_append,List.map_cons,List.map_nil,List.nil_append]<;>rfl)
 refine gt_ ?_
 rcases cnd_ H with ⟨q_31,H⟩|⟨q_31,H⟩
 ·obtain ⟨r_32,c16,H⟩:=bd_ H
  replace c16:=gUnite_ok c16
  cases H
  exact go_
 rcases cnd_ H with ⟨q_33,H⟩|⟨q_33,H⟩
 ·obtain ⟨r_34,c17,H⟩:=bd_ H
  replace c17:=gAllP_ok c17
  cases H
  exact go_
 obtain ⟨r_35,c18,H⟩:=bd_ H
 replace c18:=gAllP_ok c18
 cases H
 exact go_
theorem gDepthPB_ok {rec:Ex→Int→Option Int}  (hrec : ∀ {x:Ex} {y:Int} {r:Int}, rec x y=some r→Pure Tryz.prog 121 [.agg (tE x), .one (.int .i64 y)] (.val (.one (.int .i64 r)))) {a_e:Ex} {a_most:Int} {r:Int} (H:gDepthPB rec a_e a_most=some r):Pure Tryz.prog 121 [.agg (tE a_e), .one (.int .i64 a_most)] (.val (.one (.int .i64 r))):=by
 unfold gDepthPB at H
 rw [tE_eq a_e]
 refine po_ Tryz.func121 Tryz.ntmps121 ?_
 rcases cnd_ H with ⟨q_1,H⟩|⟨q_1,H⟩
 ·cases H
  exact go_
 refine gt_ ?_
 refine alM_ (fun s:Int × Int=>match s with|(n_2,v_3)=>[(1, .one (.c (.int .i64 a_most))),(5, .one (.c (.int .i64 n_2))),(11, .one (.c (.lst (a_e.args.map tE)))),(12, .one (.c (.int .i64 ((a_e.args.length:Nat):Int)))),(13, .one (.c (.int .i64 v_3)))]) (fun s=>match s with|(n_2,v_3)=>[.box [.c (.int .i64 a_e.op), .c (.int .i64 a_e.int), .c (.int .i64 a_e.v.kind), .c (.int .i64 a_e.v.int), .c (.str a_e.v.text), .c (.str a_e.nm), .c (.lst (a_e.args.map tE))]]) H (fun _=>Nat.zero_le _)
  (fm_ br_ [] rfl bt_ bo_) ?_
 rintro ⟨n_2,v_3⟩ st1 hb1 hk1
 unfold gDepthPB_B1 at hb1
 dsimp only at hb1 ⊢
 rcases cnd_ hb1 with ⟨q_4,hb1⟩|⟨q_4,hb1⟩
 ·obtain ⟨x_5,i1z,i1,i1x,hb1⟩:=idx_ (f:=tE) hb1
  simp only [List.map_append,List.map_cons,List.map_nil,List.nil_append,tE_eq] at i1x
  obtain ⟨r_6,c2,hb1⟩:=bd_ hb1
  replace c2:=hrec c2
  try simp only [List.map_append,List.map_cons,List.map_nil,List.nil_append,tE_eq] at c2
  cases hb1
  refine gt_ ?_
  exact ⟨_,rfl,fm_ br_ [_] rfl bt_ bo_⟩
 cases hb1
 have hx1:gDepthPB_K1 (.inl (n_2,v_3))=some _:=hk1
 unfold gDepthPB_K1 at hx1
 dsimp only at hx1
 cases hx1
 exact go_
theorem gDepthP_ok : ∀ (n:Nat) {x:Ex} {y:Int} {r:Int}, gDepthP n x y=some r→Pure Tryz.prog 121 [.agg (tE x), .one (.int .i64 y)] (.val (.one (.int .i64 r)))
 | 0,_,_,_,h=>nomatch h
 | n+1,_,_,_,h=>gDepthPB_ok (gDepthP_ok n) h
theorem gDepP_ok {a_e:Ex} {r:Int} (H:gDepP a_e=some r):Pure Tryz.prog 76 [.agg (tE a_e)] (.val (.one (.int .i64 r))):=by
 unfold gDepP at H
 rw [tE_eq a_e]
 refine po_ Tryz.func76 Tryz.ntmps76 ?_
 obtain ⟨r_1,c1,H⟩:=bd_ H
 replace c1:=gDepthP_ok fuel c1
 try simp only [List.map_append,List.map_cons,List.map_nil,List.nil_append,tE_eq] at c1
 cases H
 exact go_
theorem gCheckPB_ok {rec:Ex→List Int→Option (Int × Int)}  (hrec : ∀ {x:Ex} {y:List Int} {r:Int × Int}, rec x y=some r→Pure Tryz.prog 77 [.agg (tE x), .one (.lst (y.map (fun x=>[AC.int .i64 x])))] (.tup [.one (.int .i64 r.1), .one (.int .i64 r.2)])) {a_e:Ex} {a_kinds:(List Int)} {r:Int × Int} (H:gCheckPB rec a_e a_kinds=some r):Pure Tryz.prog 77 [.agg (tE a_e), .one (.lst (a_kinds.map (fun x=>[AC.int .i64 x])))] (.tup [.one (.int .i64 r.1), .one (.int .i64 r.2)]):=by
 unfold gCheckPB at H
 rw [tE_eq a_e]
 refine po_ Tryz.func77 Tryz.ntmps77 ?_
 obtain ⟨r_1,c1,H⟩:=bd_ H
 replace c1:=gCounts_ok c1
 rcases cnd_ H with ⟨q_2,H⟩|⟨q_2,H⟩
 ·cases H
  exact go_
 obtain ⟨r_3,c2,H⟩:=bd_ H
 replace c2:=gFormed_ok c2
 try simp only [List.map_append,List.map_cons,List.map_nil,List.nil_append,tE_eq] at c2
 rcases cnd_ H with ⟨q_4,H⟩|⟨q_4,H⟩
 ·cases H
  exact go_
 rcases cnd_ H with ⟨q_5,H⟩|⟨q_5,H⟩
 ·rcases cnd_ H with ⟨q_6,H⟩|⟨q_6,H⟩
  ·cases H
   exact go_
  rcases cnd_ H with ⟨q_7,H⟩|⟨q_7,H⟩
  ·cases H
   exact go_
  obtain ⟨x_8,i3z,i3,i3x,H⟩:=idx_ (f:=(fun x=>[AC.int .i64 x])) H
  cases H
  exact go_
 refine gt_ ?_
 refine aw_tok 8 1 rfl ?_
 refine alM_ (fun s:(List Int) × Int=>match s with|(l_9,v_10)=>[(1, .one (.c (.lst (a_kinds.map (fun x=>[AC.int .i64 x]))))),(2, .one (.ptr 0 0)),(8, .one (.own (l_9.map (fun x=>[AC.int .i64 x])) 1)),(48, .one (.c (.lst (a_e.args.map tE)))),(49, .one (.c (.int .i64 ((a_e.args.length:Nat):Int)))),(50, .one (.c (.int .i64 v_10)))]) (fun s=>match s with|(l_9,v_10)=>[.box [.c (.int .i64 a_e.op), .c (.int .i64 a_e.int), .c (.int .i64 a_e.v.kind), .c (.int .i64 a_e.v.int), .c (.str a_e.v.text), .c (.str a_e.nm), .c (.lst (a_e.args.map tE))], .spare l_9.length 1]) H (fun _=>Nat.zero_le _)
  (fm_ br_ [] rfl bt_ bo_) ?_
 rintro ⟨l_9,v_10⟩ st1 hb1 hk1
 unfold gCheckPB_B1 at hb1
 dsimp only at hb1 ⊢
 rcases cnd_ hb1 with ⟨q_11,hb1⟩|⟨q_11,hb1⟩
 ·obtain ⟨x_12,i4z,i4,i4x,hb1⟩:=idx_ (f:=tE) hb1
  simp only [List.map_append,List.map_cons,List.map_nil,List.nil_append,tE_eq] at i4x
  obtain ⟨r_13,c5,hb1⟩:=bd_ hb1
  replace c5:=hrec c5
  try simp only [List.map_append,List.map_cons,List.map_nil,List.nil_append,tE_eq] at c5
  rcases cnd_ hb1 with ⟨q_14,hb1⟩|⟨q_14,hb1⟩
  ·cases hb1
   have hx1:gCheckPB_K1 a_e (.inr ((0:Int),r_13.2))=some _:=hk1
   unfold gCheckPB_K1 at hx1
   dsimp only at hx1
   cases hx1
   exact go_
  obtain ⟨g6,hb1⟩:=grd_d hb1
  cases hb1
  refine gt_ ?_
  exact ⟨_,rfl,fm_ bs_ [_] be_ bt_ bo_⟩
 cases hb1
 have hx1:gCheckPB_K1 a_e (.inl (l_9,v_10))=some _:=hk1
 unfold gCheckPB_K1 at hx1
 dsimp only at hx1
 obtain ⟨r_15,c7,hx1⟩:=bd_ hx1
 replace c7:=gResultP_ok c7
 try simp only [List.map_append,List.map_cons,List.map_nil,List.nil_append,tE_eq] at c7
 rcases cnd_ hx1 with ⟨q_16,hx1⟩|⟨q_16,hx1⟩
 ·cases hx1
  exact go_
 cases hx1
 exact go_
theorem gCheckP_ok : ∀ (n:Nat) {x:Ex} {y:List Int} {r:Int × Int}, gCheckP n x y=some r→Pure Tryz.prog 77 [.agg (tE x), .one (.lst (y.map (fun x=>[AC.int .i64 x])))] (.tup [.one (.int .i64 r.1), .one (.int .i64 r.2)])
 | 0,_,_,_,h=>nomatch h
 | n+1,_,_,_,h=>gCheckPB_ok (gCheckP_ok n) h
theorem gChkP_ok {a_e:Ex} {a_kinds:(List Int)} {r:Int × Int} (H:gChkP a_e a_kinds=some r):Pure Tryz.prog 48 [.agg (tE a_e), .one (.lst (a_kinds.map (fun x=>[AC.int .i64 x])))] (.tup [.one (.int .i64 r.1), .one (.int .i64 r.2)]):=by
 unfold gChkP at H
 rw [tE_eq a_e]
 refine po_ Tryz.func48 Tryz.ntmps48 ?_
 obtain ⟨r_1,c1,H⟩:=bd_ H
 replace c1:=gDepP_ok c1
 try simp only [List.map_append,List.map_cons,List.map_nil,List.nil_append,tE_eq] at c1
 rcases cnd_ H with ⟨q_2,H⟩|⟨q_2,H⟩
 ·cases H
  exact go_
 obtain ⟨r_3,c2,H⟩:=bd_ H
 replace c2:=gCheckP_ok fuel c2
 try simp only [List.map_append,List.map_cons,List.map_nil,List.nil_append,tE_eq] at c2
 cases H
 exact go_
set_option maxHeartbeats 8000000
noncomputable section
def gProjectP_B5 (a_l:(List Ex)) (x_9:Fct):((List Val) × Int)→Option (Step ((List Val) × Int) (Rln)):=fun s=>match s with
 | (row_10,v_11)=>bif (decide (v_11<((a_l.length:Nat):Int))) then (getI a_l v_11).bind fun x_13=>(gEval fuel x_13 x_9.row).bind fun r_14=>bif (decide (row_10.length+1≤4398046511104)) then (some (.next ((row_10++[r_14]),(IntKind.i64.wrap (v_11+(1:Int)))))) else none else
 some (.exit (row_10,v_11))
def gProjectP_K5 (out_6:(List Fct)) (v_7:Int) (x_9:Fct):Sum ((List Val) × Int) (Rln)→Option (Step ((List Fct) × Int) (Rln))
 | .inl (row_10,v_11)=>bif (decide (out_6.length+1≤3518437208883)) then (some (.next ((out_6++[(⟨row_10,x_9.valid⟩:Fct)]),(IntKind.i64.wrap (v_7+(1:Int)))))) else none
 | .inr q=>some (.ret q)
def gProjectP_B4 (a_r:Rln) (a_l:(List Ex)):((List Fct) × Int)→Option (Step ((List Fct) × Int) (Rln)):=fun s=>match s with
 | (out_6,v_7)=>bif (decide (v_7<((a_r.facts.length:Nat):Int))) then (getI a_r.facts v_7).bind fun x_9=>(loopM (gProjectP_B5 a_l x_9) fuel ([],(0:Int))).bind (gProjectP_K5 out_6 v_7 x_9) else
 some (.exit (out_6,v_7))
def gProjectP_K4 (kinds_1:(List Int)):Sum ((List Fct) × Int) (Rln)→Option ((Rln))
 | .inl (out_6,v_7)=>(gRelation kinds_1 out_6).bind fun r_15=>some r_15
 | .inr q=>some q
def gProjectP_B1 (a_r:Rln) (a_l:(List Ex)):((List Int) × Int)→Option (Step ((List Int) × Int) (Rln)):=fun s=>match s with
 | (kinds_1,v_2)=>bif (decide (v_2<((a_l.length:Nat):Int))) then (getI a_l v_2).bind fun x_4=>(gChkP x_4 a_r.kinds).bind fun r_5=>bif (decide (kinds_1.length+1≤17592186044416)) then (some (.next ((kinds_1++[r_5.1]),(IntKind.i64.wrap (v_2+(1:Int)))))) else none else
 some (.exit (kinds_1,v_2))
def gProjectP_K1 (a_r:Rln) (a_l:(List Ex)):Sum ((List Int) × Int) (Rln)→Option ((Rln))
 | .inl (kinds_1,v_2)=>(loopM (gProjectP_B4 a_r a_l) fuel ([],(0:Int))).bind (gProjectP_K4 kinds_1)
 | .inr q=>some q
def gProjectP (a_r:Rln) (a_l:(List Ex)):Option (Rln):=(loopM (gProjectP_B1 a_r a_l) fuel ([],(0:Int))).bind (gProjectP_K1 a_r a_l)
theorem gProjectP_ok {a_r:Rln} {a_l:(List Ex)} {r:Rln} (H:gProjectP a_r a_l=some r):Pure Tryz.prog 19 [.agg (cRln a_r), .one (.lst (a_l.map tE))] (.val (.agg (cRln r))):=by
 unfold gProjectP at H
 refine po_ Tryz.func19 Tryz.ntmps19 ?_
 refine gt_ ?_
 refine aw_tok 5 1 rfl ?_
 refine alM_ (fun s:(List Int) × Int=>match s with|(kinds_1,v_2)=>[(1, .one (.c (.lst (a_l.map tE)))),(2, .one (.ptr 0 0)),(4, .one (.ptr 1 0)),(5, .one (.own (kinds_1.map (fun x=>[AC.int .i64 x])) 2)),(16, .one (.c (.lst (a_l.map tE)))),(17, .one (.c (.int .i64 ((a_l.length:Nat):Int)))),(18, .one (.c (.int .i64 v_2)))]) (fun s=>match s with|(kinds_1,v_2)=>[.box [.c (.lst (a_r.kinds.map (fun x=>[AC.int .i64 x]))), .c (.lst (a_r.facts.map cFct))], .box [.emp, .emp], .spare kinds_1.length 1]) H (fun _=>Nat.zero_le _)
  (fm_ br_ [] rfl bt_ bo_) ?_
 rintro ⟨kinds_1,v_2⟩ st1 hb1 hk1
 unfold gProjectP_B1 at hb1
 dsimp only at hb1 ⊢
 rcases cnd_ hb1 with ⟨q_3,hb1⟩|⟨q_3,hb1⟩
 ·obtain ⟨x_4,i1z,i1,i1x,hb1⟩:=idx_ (f:=tE) hb1
  simp only [List.map_append,List.map_cons,List.map_nil,List.nil_append,tE_eq] at i1x
  obtain ⟨r_5,c2,hb1⟩:=bd_ hb1
  replace c2:=gChkP_ok c2
  try simp only [List.map_append,List.map_cons,List.map_nil,List.nil_append,tE_eq] at c2
  obtain ⟨g3,hb1⟩:=grd_d hb1
  cases hb1
  refine gt_ ?_
  exact ⟨_,rfl,fm_ bs_ [_] be_ bt_ bo_⟩
 cases hb1
 have hx1:gProjectP_K1 a_r a_l (.inl (kinds_1,v_2))=some _:=hk1
 unfold gProjectP_K1 at hx1
 dsimp only at hx1
 refine gt_ ?_
 refine aw_tok 10 3 rfl ?_
 refine alM_ (fun s:(List Fct) × Int=>match s with|(out_6,v_7)=>[(1, .one (.c (.lst (a_l.map tE)))),(4, .one (.ptr 1 0)),(5, .one (.own (kinds_1.map (fun x=>[AC.int .i64 x])) 2)),(10, .one (.own (out_6.map cFct) 3)),(35, .one (.c (.lst (a_r.facts.map cFct)))),(36, .one (.c (.int .i64 ((a_r.facts.length:Nat):Int)))),(37, .one (.c (.int .i64 v_7)))]) (fun s=>match s with|(out_6,v_7)=>[.box [.c (.lst (a_r.kinds.map (fun x=>[AC.int .i64 x]))), .c (.lst (a_r.facts.map cFct))], .box [.emp, .emp], .spare kinds_1.length 1, .spare out_6.length 3]) hx1 (fun _=>Nat.zero_le _)
  (fm_ br_ [] rfl bt_ bo_) ?_
 rintro ⟨out_6,v_7⟩ st4 hb4 hk4
 unfold gProjectP_B4 at hb4
 dsimp only at hb4 ⊢
 rcases cnd_ hb4 with ⟨q_8,hb4⟩|⟨q_8,hb4⟩
 ·obtain ⟨x_9,i4z,i4,i4x,hb4⟩:=idx_ (f:=cFct) hb4
  refine gt_ ?_
  refine aw_tok 13 3 rfl ?_
  refine alM_ (fun s:(List Val) × Int=>match s with|(row_10,v_11)=>[(1, .one (.c (.lst (a_l.map tE)))),(4, .one (.ptr 1 0)),(5, .one (.own (kinds_1.map (fun x=>[AC.int .i64 x])) 2)),(10, .one (.own (out_6.map cFct) 3)),(12, .one (.ptr 4 0)),(13, .one (.own (row_10.map cV) 5)),(35, .one (.c (.lst (a_r.facts.map cFct)))),(36, .one (.c (.int .i64 ((a_r.facts.length:Nat):Int)))),(37, .one (.c (.int .i64 v_7))),(41, .one (.c (.lst (a_l.map tE)))),(42, .one (.c (.int .i64 ((a_l.length:Nat):Int)))),(43, .one (.c (.int .i64 v_11)))]) (fun s=>match s with|(row_10,v_11)=>[.box [.c (.lst (a_r.kinds.map (fun x=>[AC.int .i64 x]))), .c (.lst (a_r.facts.map cFct))], .box [.emp, .emp], .spare kinds_1.length 1, .spare out_6.length 3, .box [.c (.lst (x_9.row.map cV)), .c (.int .i64 x_9.valid.lo), .c (.int .i64 x_9.valid.hi)], .spare row_10.length 3]) hb4 (fun _=>Nat.zero_le _)
   (fm_ br_ [] rfl bt_ bo_) ?_
  rintro ⟨row_10,v_11⟩ st5 hb5 hk5
  unfold gProjectP_B5 at hb5
  dsimp only at hb5 ⊢
  rcases cnd_ hb5 with ⟨q_12,hb5⟩|⟨q_12,hb5⟩
  ·obtain ⟨x_13,i5z,i5,i5x,hb5⟩:=idx_ (f:=tE) hb5
   simp only [List.map_append,List.map_cons,List.map_nil,List.nil_append,tE_eq] at i5x
   obtain ⟨r_14,c6,hb5⟩:=bd_ hb5
   replace c6:=gEval_ok fuel c6
   try simp only [List.map_append,List.map_cons,List.map_nil,List.nil_append,tE_eq] at c6
   obtain ⟨g7,hb5⟩:=grd_d hb5
   cases hb5
   refine gt_ ?_
   exact ⟨_,rfl,fm_ bs_ [_] be_ bt_ bo_⟩
  cases hb5
  have hx5:gProjectP_K5 out_6 v_7 x_9 (.inl (row_10,v_11))=some _:=hk5
  unfold gProjectP_K5 at hx5
  dsimp only at hx5
  obtain ⟨g8,hx5⟩:=grd_d hx5
  cases hx5
  refine gt_ ?_
  exact ⟨_,rfl,fm_ bs_ [_,_] be_ bt_ bo_⟩
 cases hb4
 have hx4:gProjectP_K4 kinds_1 (.inl (out_6,v_7))=some _:=hk4
 unfold gProjectP_K4 at hx4
 dsimp only at hx4
 obtain ⟨r_15,c9,hx4⟩:=bd_ hx4
 replace c9:=gRelation_ok c9
 cases hx4
 exact go_
end
set_option maxHeartbeats 8000000
noncomputable section
def gValues_B1 (a_l:(List Ex)) (a_row:(List Val)):((List Val) × Int)→Option (Step ((List Val) × Int) ((List Val))):=fun s=>match s with
 | (out_1,i_2)=>bif (decide (i_2<((a_l.length:Nat):Int))) then (getI a_l i_2).bind fun x_4=>(gEvalR fuel x_4 a_row).bind fun r_5=>bif (decide (out_1.length+1≤4398046511104)) then (some (.next ((out_1++[r_5]),(IntKind.i64.wrap (i_2+(1:Int)))))) else none else
 some (.exit (out_1,i_2))
def gValues_K1:Sum ((List Val) × Int) ((List Val))→Option (((List Val)))
 | .inl (out_1,i_2)=>some out_1
 | .inr q=>some q
def gValues (a_l:(List Ex)) (a_row:(List Val)):Option ((List Val)):=(loopM (gValues_B1 a_l a_row) fuel ([],(0:Int))).bind (gValues_K1)
theorem gValues_ok {a_l:(List Ex)} {a_row:(List Val)} {r:(List Val)} (H:gValues a_l a_row=some r):Pure Tryz.prog 51 [.one (.lst (a_l.map tE)), .one (.lst (a_row.map cV))] (.val (.one (.lst (r.map cV)))):=by
 unfold gValues at H
 refine po_ Tryz.func51 Tryz.ntmps51 ?_
 refine gt_ ?_
 refine aw_tok 5 3 rfl ?_
 refine alM_ (fun s:(List Val) × Int=>match s with|(out_1,i_2)=>[(0, .one (.c (.lst (a_l.map tE)))),(1, .one (.c (.lst (a_row.map cV)))),(5, .one (.own (out_1.map cV) 0)),(6, .one (.c (.int .i64 i_2)))]) (fun s=>match s with|(out_1,i_2)=>[.spare out_1.length 3]) H (fun _=>Nat.zero_le _)
  (fm_ br_ [] rfl bt_ bo_) ?_
 rintro ⟨out_1,i_2⟩ st1 hb1 hk1
 unfold gValues_B1 at hb1
 dsimp only at hb1 ⊢
 rcases cnd_ hb1 with ⟨q_3,hb1⟩|⟨q_3,hb1⟩
 ·obtain ⟨x_4,i1z,i1,i1x,hb1⟩:=idx_ (f:=tE) hb1
  simp only [List.map_append,List.map_cons,List.map_nil,List.nil_append,tE_eq] at i1x
  obtain ⟨r_5,c2,hb1⟩:=bd_ hb1
  replace c2:=gEvalR_ok fuel c2
  try simp only [List.map_append,List.map_cons,List.map_nil,List.nil_append,tE_eq] at c2
  obtain ⟨g3,hb1⟩:=grd_d hb1
  cases hb1
  refine gt_ ?_
  exact ⟨_,rfl,fm_ bs_ [] be_ bt_ bo_⟩
 cases hb1
 have hx1:gValues_K1 (.inl (out_1,i_2))=some _:=hk1
 unfold gValues_K1 at hx1
 dsimp only at hx1
 cases hx1
 exact go_
def gProjectR_B1 (a_r:Rln) (a_e:(List Ex)):((List Fct) × Int)→Option (Step ((List Fct) × Int) (Rln)):=fun s=>match s with
 | (l_2,i_3)=>bif (decide (i_3<((a_r.facts.length:Nat):Int))) then (getI a_r.facts i_3).bind fun x_5=>(gValues a_e x_5.row).bind fun r_6=>bif (decide (l_2.length+1≤3518437208883)) then (some (.next ((l_2++[(⟨r_6,x_5.valid⟩:Fct)]),(IntKind.i64.wrap (i_3+(1:Int)))))) else none else
 some (.exit (l_2,i_3))
def gProjectR_K1 (r_1:(List Int) × Int):Sum ((List Fct) × Int) (Rln)→Option ((Rln))
 | .inl (l_2,i_3)=>(gBagR l_2).bind fun r_7=>some (⟨r_1.1,r_7⟩:Rln)
 | .inr q=>some q
def gProjectR (a_r:Rln) (a_e:(List Ex)):Option (Rln):=(gProj21 a_r.kinds a_e).bind fun r_1=>(loopM (gProjectR_B1 a_r a_e) fuel ([],(0:Int))).bind (gProjectR_K1 r_1)
theorem gProjectR_ok {a_r:Rln} {a_e:(List Ex)} {r:Rln} (H:gProjectR a_r a_e=some r):Pure Tryz.prog 20 [.agg (cRln a_r), .one (.lst (a_e.map tE))] (.val (.agg (cRln r))):=by
 unfold gProjectR at H
 refine po_ Tryz.func20 Tryz.ntmps20 ?_
 obtain ⟨r_1,c1,H⟩:=bd_ H
 replace c1:=gProj21_ok c1
 refine gt_ ?_
 refine aw_tok 7 3 rfl ?_
 refine alM_ (fun s:(List Fct) × Int=>match s with|(l_2,i_3)=>[(1, .one (.c (.lst (a_e.map tE)))),(2, .one (.ptr 0 0)),(4, .one (.ptr 1 0)),(5, .one (.c (.lst (r_1.1.map (fun x=>[AC.int .i64 x]))))),(7, .one (.own (l_2.map cFct) 2)),(8, .one (.c (.int .i64 i_3)))]) (fun s=>match s with|(l_2,i_3)=>[.box [.c (.lst (a_r.kinds.map (fun x=>[AC.int .i64 x]))), .c (.lst (a_r.facts.map cFct))], .box [.emp, .emp], .spare l_2.length 3]) H (fun _=>Nat.zero_le _)
  (fm_ br_ [] rfl bt_ bo_) ?_
 rintro ⟨l_2,i_3⟩ st1 hb1 hk1
 unfold gProjectR_B1 at hb1
 dsimp only at hb1 ⊢
 rcases cnd_ hb1 with ⟨q_4,hb1⟩|⟨q_4,hb1⟩
 ·obtain ⟨x_5,i2z,i2,i2x,hb1⟩:=idx_ (f:=cFct) hb1
  obtain ⟨r_6,c3,hb1⟩:=bd_ hb1
  replace c3:=gValues_ok c3
  obtain ⟨g4,hb1⟩:=grd_d hb1
  cases hb1
  refine gt_ ?_
  exact ⟨_,rfl,fm_ bs_ [] be_ bt_ bo_⟩
 cases hb1
 have hx1:gProjectR_K1 r_1 (.inl (l_2,i_3))=some _:=hk1
 unfold gProjectR_K1 at hx1
 dsimp only at hx1
 obtain ⟨r_7,c5,hx1⟩:=bd_ hx1
 replace c5:=gBagR_ok c5
 cases hx1
 exact go_
def gProjects (a_l:(List Ex)) (a_kinds:(List Int)):Option (Bool):=bif (decide (((a_l.length:Nat):Int)=(0:Int))) then some false else
 bif (decide ((48:Int)<((a_l.length:Nat):Int))) then some false else
 (gSmall a_l (200:Int)).bind fun r_3=>bif (!r_3) then some false else
 (gProj21 a_kinds a_l).bind fun r_5=>some (decide (r_5.2=(0:Int)))
theorem gProjects_ok {a_l:(List Ex)} {a_kinds:(List Int)} {r:Bool} (H:gProjects a_l a_kinds=some r):Pure Tryz.prog 18 [.one (.lst (a_l.map tE)), .one (.lst (a_kinds.map (fun x=>[AC.int .i64 x])))] (.val (.one (.bool r))):=by
 unfold gProjects at H
 refine po_ Tryz.func18 Tryz.ntmps18 ?_
 rcases cnd_ H with ⟨q_1,H⟩|⟨q_1,H⟩
 ·cases H
  exact go_
 rcases cnd_ H with ⟨q_2,H⟩|⟨q_2,H⟩
 ·cases H
  exact go_
 obtain ⟨r_3,c1,H⟩:=bd_ H
 replace c1:=gSmall_ok c1
 rcases cnd_ H with ⟨q_4,H⟩|⟨q_4,H⟩
 ·cases H
  exact go_
 obtain ⟨r_5,c2,H⟩:=bd_ H
 replace c2:=gProj21_ok c2
 cases H
 exact go_
end
set_option maxHeartbeats 8000000
noncomputable section
def gLawProjects (a_r:Rln) (a_l:(List Ex)):Option (Bool):=(gFew23 a_r).bind fun r_1=>bif (!r_1) then some (true) else
 (gProjects a_l a_r.kinds).bind fun r_4=>bif (!r_4) then some (true) else
 (gProjectP a_r a_l).bind fun r_7=>(gProjectR a_r a_l).bind fun r_8=>(gAlike r_7 r_8).bind fun r_9=>bif r_9 then some (true) else
 some false
theorem gLawProjects_ok {a_r:Rln} {a_l:(List Ex)} {r:Bool} (H:gLawProjects a_r a_l=some r):Pure Tryz.prog 4 [.agg (cRln a_r), .one (.lst (a_l.map tE))] (.val (.one (.bool r))):=by
 unfold gLawProjects at H
 refine po_ Tryz.func4 Tryz.ntmps4 ?_
 obtain ⟨r_1,c1,H⟩:=bd_ H
 replace c1:=gFew23_ok c1
 rcases cnd_ H with ⟨q_2,H⟩|⟨q_2,H⟩
 ·have hc_3:=Aw.awake_pure
  try simp only [List.map_append,List.map_cons,List.map_nil,List.nil_append,tE_eq] at hc_3
  cases H
  exact go_
 obtain ⟨r_4,c2,H⟩:=bd_ H
 replace c2:=gProjects_ok c2
 rcases cnd_ H with ⟨q_5,H⟩|⟨q_5,H⟩
 ·have hc_6:=Aw.awake_pure
  try simp only [List.map_append,List.map_cons,List.map_nil,List.nil_append,tE_eq] at hc_6
  cases H
  exact go_
 obtain ⟨r_7,c3,H⟩:=bd_ H
 replace c3:=gProjectP_ok c3
 obtain ⟨r_8,c4,H⟩:=bd_ H
 replace c4:=gProjectR_ok c4
 obtain ⟨r_9,c5,H⟩:=bd_ H
 replace c5:=gAlike_ok c5
 rcases cnd_ H with ⟨q_10,H⟩|⟨q_10,H⟩
 ·have hc_11:=Aw.awake_pure
  try simp only [List.map_append,List.map_cons,List.map_nil,List.nil_append,tE_eq] at hc_11
  cases H
  exact go_
 cases H
 exact go_
end
def chkV (e:Ex) (kinds:List Int):Int × Int:=(gChk11 e kinds).getD (0,0)
theorem chk_ok {e:Ex} (kinds:List Int) (h:exOK fuel e):gChk11 e kinds=some (chkV e kinds)∧gChkP e kinds=some (chkV e kinds):=by
 obtain ⟨c,c1,c2⟩:=chk_same kinds h
 unfold chkV
 rw [c1];exact ⟨rfl,c2⟩
theorem proj_loop {kinds:List Int} {l:List Ex} (hl:l.length≤100000) (he : ∀ e∈l,exOK fuel e) : ∀ (n i:Nat) (s:List Int),s.length=i→i≤l.length→l.length-i<n → ∃ p,(loopM (gProj21_B1 kinds l) n (s,(i:Int))).bind gProj21_K1=some p∧(p.2=0→p.1=s++(l.drop i).map (fun e=>(chkV e kinds).1))
 | 0,i,s,_,_,h=>by omega
 | n+1,i,s,hs,hi,hn=>by
  rw [loopM]
  by_cases hlt:i<l.length
  ·obtain ⟨x,hx⟩:=gol_ hlt
   have hc:=(chk_ok kinds (he x (List.mem_of_getElem? hx))).1
   by_cases h0:(chkV x kinds).2=0
   ·by_cases h1:(chkV x kinds).1=0
    ·have hb:gProj21_B1 kinds l (s,(i:Int))=some (.ret ([],7)):=by
      unfold gProj21_B1
      dsimp only
      rw [lt_dec hx,cond_true,gn_ hx,Option.bind_some,hc,Option.bind_some,decide_eq_false (show ¬ (chkV x kinds).2≠0 by omega),cond_false,decide_eq_true h1,cond_true]
     rw [hb]
     exact ⟨_,rfl,fun h=>absurd (show (7:Int)=0 from h) (by decide)⟩
    ·have hb:gProj21_B1 kinds l (s,(i:Int))=some (.next (s++[(chkV x kinds).1],((i+1:Nat):Int))):=by
      unfold gProj21_B1
      dsimp only
      rw [lt_dec hx,cond_true,gn_ hx,Option.bind_some,hc,Option.bind_some,decide_eq_false (show ¬ (chkV x kinds).2≠0 by omega),cond_false,decide_eq_false h1,cond_false,decide_eq_true (by omega),cond_true,wrapN (by omega)]
     rw [hb]
     obtain ⟨p,p1,p2⟩:=proj_loop hl he n (i+1) (s++[(chkV x kinds).1]) (by rw [List.length_append,hs];rfl) (by omega) (by omega)
     refine ⟨p,p1,fun h=>?_⟩
     rw [p2 h,List.drop_eq_getElem_cons hlt,(List.getElem?_eq_some_iff.1 hx).2,List.map_cons,List.append_assoc];rfl
   ·have hb:gProj21_B1 kinds l (s,(i:Int))=some (.ret ([],(chkV x kinds).2)):=by
     unfold gProj21_B1
     dsimp only
     rw [lt_dec hx,cond_true,gn_ hx,Option.bind_some,hc,Option.bind_some,decide_eq_true (show (chkV x kinds).2≠0 from h0),cond_true]
    rw [hb]
    exact ⟨_,rfl,fun h=>absurd h h0⟩
  ·have:i=l.length:=by omega
   subst this
   have hb:gProj21_B1 kinds l (s,((l.length:Nat):Int))=some (.exit (s,((l.length:Nat):Int))):=by
    unfold gProj21_B1
    dsimp only
    rw [lF_,cond_false]
   rw [hb]
   exact ⟨_,rfl,fun _=>by rw [List.drop_length];simp⟩
def kindsV (l:List Ex) (kinds:List Int):List Int:=l.map fun e=>(chkV e kinds).1
theorem gProj21_sem {kinds:List Int} {l:List Ex} (hl:l.length≤100000) (he : ∀ e∈l,exOK fuel e) : ∃ p,gProj21 kinds l=some p∧(p.2=0→p.1=kindsV l kinds):=by
 obtain ⟨p,p1,p2⟩:=proj_loop (kinds:=kinds) hl he fuel 0 [] rfl (Nat.zero_le _) (by unfold fuel;omega)
 exact ⟨p,p1,p2⟩
theorem gProjects_sem (l:List Ex) (kinds:List Int) : ∃ b,gProjects l kinds=some b∧(b=true→l.length≤48∧(∀ e∈l,exOK fuel e)∧gProj21 kinds l=some (kindsV l kinds,0)):=by
 unfold gProjects
 by_cases h0:l.length=0
 ·rw [decide_eq_true (show ((l.length:Nat):Int)=0 by omega)]
  exact ⟨false,rfl,fun h=>by cases h⟩
 rw [decide_eq_false (show ¬ ((l.length:Nat):Int)=0 by omega),cond_false]
 by_cases h1:48<l.length
 ·rw [decide_eq_true (show (48:Int)<((l.length:Nat):Int) by omega)]
  exact ⟨false,rfl,fun h=>by cases h⟩
 rw [decide_eq_false (show ¬ (48:Int)<((l.length:Nat):Int) by omega),cond_false]
 obtain ⟨b,hb,hok⟩:=small_sem l
 rw [hb,Option.bind_some]
 cases b with
 | false=>exact ⟨false,rfl,fun h=>by cases h⟩
 | true =>
  have he : ∀ e∈l,exOK fuel e:=fun e h=>exOK_fuel ((hok rfl).2 e h)
  obtain ⟨p,p1,p2⟩:=gProj21_sem (kinds:=kinds) (l:=l) (by omega) he
  rw [Bool.not_true,cond_false,p1,Option.bind_some]
  refine ⟨_,rfl,fun h=>⟨by omega,he,?_⟩⟩
  have h:=of_decide_eq_true h
  rw [← p2 h, ← h]
def rowV (l:List Ex) (row:List Val):List Val:=l.map fun e=>valV e row
def prG (l:List Ex) (f:Fct):Fct:=⟨rowV l f.row,f.valid⟩
theorem gValues_eq {l:List Ex} (hl:l.length≤100000) (he : ∀ e∈l,exOK fuel e) (row:List Val):gValues l row=some (rowV l row):=by
 unfold gValues
 rw [loop_app (l:=l) (fun e=>[valV e row]) 4398046511104 ?_ ?_ (by unfold fuel;omega) [] (by rw [fo_];simp;omega)]
 ·rw [Option.bind_some,List.nil_append,fo_];rfl
 ·intro s i x hx hs
  have hi:=(List.getElem?_eq_some_iff.1 hx).1
  unfold gValues_B1
  dsimp only
  rw [lt_dec hx,cond_true,gn_ hx,Option.bind_some,(val_ok (he x (List.mem_of_getElem? hx)) row).1,Option.bind_some,wrapN (by omega),decide_eq_true (show s.length+1≤4398046511104 from hs),cond_true]
 ·intro s
  unfold gValues_B1
  dsimp only
  rw [lF_,cond_false]
theorem fcts_pr {m:List Fct} {l:List Ex} (hm:m.length≤19) (hl:l.length≤48) (he : ∀ e∈l,exOK fuel e):FctsOK (m.map (prG l)):=by
 refine ⟨by rw [List.length_map];exact hm,fun f hf=>?_⟩
 obtain ⟨g,_,rfl⟩:=List.mem_map.1 hf
 refine ⟨by show (l.map _).length≤1000;rw [List.length_map];omega,fun v hv=>?_⟩
 obtain ⟨e,h1,rfl⟩:=List.mem_map.1 (show v∈l.map _ from hv)
 exact (vv_of (val_ok (he e h1) g.row).2.2).vok
theorem gProjectR_eq {r:Rln} {l:List Ex} (h:FctsOK r.facts) (hl:l.length≤48) (he : ∀ e∈l,exOK fuel e) (hp:gProj21 r.kinds l=some (kindsV l r.kinds,0)):gProjectR r l=some ⟨kindsV l r.kinds,canon (r.facts.map (prG l))⟩:=by
 have hn:=h.1
 unfold gProjectR
 rw [hp,Option.bind_some,loop_app (l:=r.facts) (fun f=>[prG l f]) 3518437208883 ?_ ?_ (by unfold fuel;omega) [] (by rw [fo_];simp;omega)]
 ·rw [Option.bind_some,List.nil_append,fo_]
  unfold gProjectR_K1
  dsimp only
  rw [gBagR_fcts (fcts_pr hn hl he)];rfl
 ·intro s i x hx hs
  have hi:=(List.getElem?_eq_some_iff.1 hx).1
  unfold gProjectR_B1
  dsimp only
  rw [lt_dec hx,cond_true,gn_ hx,Option.bind_some,gValues_eq (by omega) he,Option.bind_some,wrapN (by omega),decide_eq_true (show s.length+1≤3518437208883 from hs),cond_true];rfl
 ·intro s
  unfold gProjectR_B1
  dsimp only
  rw [lF_,cond_false]
theorem gProjectP_eq {r:Rln} {l:List Ex} (h:FctsOK r.facts) (hl:l.length≤48) (he : ∀ e∈l,exOK fuel e):gProjectP r l=some ⟨kindsV l r.kinds,canon (r.facts.map (prG l))⟩:=by
 have hn:=h.1
 unfold gProjectP
 rw [loop_app (l:=l) (fun e=>[(chkV e r.kinds).1]) 17592186044416 ?_ ?_ (by unfold fuel;omega) [] (by rw [fo_];simp;omega)]
 ·rw [Option.bind_some,List.nil_append,fo_]
  unfold gProjectP_K1
  dsimp only
  rw [loop_app (l:=r.facts) (fun f=>[prG l f]) 3518437208883 ?_ ?_ (by unfold fuel;omega) [] (by rw [fo_];simp;omega)]
  ·rw [Option.bind_some,List.nil_append,fo_]
   unfold gProjectP_K4
   dsimp only
   rw [gRelation_canon (by rw [List.length_map];omega) (fcts_pr hn hl he)];rfl
  ·intro s i x hx hs
   have hi:=(List.getElem?_eq_some_iff.1 hx).1
   unfold gProjectP_B4
   dsimp only
   rw [lt_dec hx,cond_true,gn_ hx,Option.bind_some,loop_app (l:=l) (fun e=>[valV e x.row]) 4398046511104 ?_ ?_ (by unfold fuel;omega) [] (by rw [fo_];simp;omega)]
   ·rw [Option.bind_some,List.nil_append,fo_]
    unfold gProjectP_K5
    dsimp only
    rw [wrapN (by omega),decide_eq_true (show s.length+1≤3518437208883 from hs),cond_true];rfl
   ·intro s i e hx hs
    have hi:=(List.getElem?_eq_some_iff.1 hx).1
    unfold gProjectP_B5
    dsimp only
    rw [lt_dec hx,cond_true,gn_ hx,Option.bind_some,(val_ok (he e (List.mem_of_getElem? hx)) x.row).2.1,Option.bind_some,wrapN (by omega),decide_eq_true (show s.length+1≤4398046511104 from hs),cond_true]
   ·intro s
    unfold gProjectP_B5
    dsimp only
    rw [lF_,cond_false]
  ·intro s
   unfold gProjectP_B4
   dsimp only
   rw [lF_,cond_false]
 ·intro s i x hx hs
  have hi:=(List.getElem?_eq_some_iff.1 hx).1
  unfold gProjectP_B1
  dsimp only
  rw [lt_dec hx,cond_true,gn_ hx,Option.bind_some,(chk_ok r.kinds (he x (List.mem_of_getElem? hx))).2,Option.bind_some,wrapN (by omega),decide_eq_true (show s.length+1≤17592186044416 from hs),cond_true]
 ·intro s
  unfold gProjectP_B1
  dsimp only
  rw [lF_,cond_false]
theorem gLawProjects_true (r:Rln) (l:List Ex):gLawProjects r l=some true:=by
 obtain ⟨b,hb,hok⟩:=gFew23_sem r
 unfold gLawProjects
 rw [hb,Option.bind_some]
 cases b with
 | false=>rfl
 | true =>
  have H:=hok rfl
  rw [Bool.not_true,cond_false]
  obtain ⟨c,hc,hok2⟩:=gProjects_sem l r.kinds
  rw [hc,Option.bind_some]
  cases c with
  | false=>rfl
  | true =>
   obtain ⟨hl,he,hp⟩:=hok2 rfl
   rw [Bool.not_true,cond_false,gProjectP_eq H.fcts hl he,Option.bind_some,gProjectR_eq H.fcts hl he hp,Option.bind_some,gAlike_refl (r:=⟨kindsV l r.kinds,canon (r.facts.map (prG l))⟩) (by show (l.map _).length≤_;rw [List.length_map];omega) (fcts_canon (fcts_pr H.fcts.1 hl he))];rfl
theorem projectProjects_pure {r:Rln} {l:List Ex} (q0:okRln r) (q1:(LOk 88 okEx) l):Pure Tryz.prog 4 [.agg (cRln r), .one (.lst (l.map tE))] (.val (.one (.bool true))):=gLawProjects_ok (gLawProjects_true r l)
end Go.Proofs.YtfccopdbgfdcdaaGreatDoor
