/- Parts of the proof, joined. No condition. -/
import Derived.Test.YtlcceppoloaecaaGreatDoorKAA
import Derived.Test.YtlcceppoloaecaaGreatDoorKBH
import Derived.Test.YtlcceppoloaecaaGreatDoorKAG
import Derived.Test.YtlcceppoloaecaaGreatDoorKAI
set_option linter.unusedSimpArgs false
set_option linter.unusedVariables false
namespace Go.Proofs.YtlcceppoloaecaaGreatDoor
open Go.RowKit Go.MapKept
set_option maxRecDepth 100000
set_option maxHeartbeats 8000000
theorem sG {n:Nat}  {a_data:(List aa)} {a_a:Int} {a_b:Int} {a_n:Int} {a_cmp:aa->aa->Option (Int)} {v:Nat} {r:List aa} {F_a_cmp:FuncId} {caps_a_cmp:List AC} (hf_a_cmp : ∀ (y0:aa) (y1:aa) (r:Int),a_cmp y0 y1=some r->Pure Tryz.prog F_a_cmp ([.agg (ah y0), .agg (ah y1)]++caps_a_cmp.map .one) (.val (.one (.int .i64 r)))) (H:lW n a_data a_a a_b a_n a_cmp=some r):Run Tryz.prog 305 [dV ah 2 v a_data] [.one (.sl 0 v 0 n), .one (.c (.int .i64 a_a)), .one (.c (.int .i64 a_b)), .one (.c (.int .i64 a_n)), .one (.c (.fn F_a_cmp caps_a_cmp))] [dV ah 2 v r] (.tup []):=by
 unfold lW at H
 refine bP aj Tryz.func305 rfl rfl Tryz.ntmps305 (by simp) ?_
 simp only [iH]
 refine DF ?_
 refine alM_ (fun s:(List aa) × Int=>match s with|(c_1,i_2)=>[(0, .one (.sl 0 v 0 n)),(1, .one (.c (.int .i64 a_a))),(2, .one (.c (.int .i64 a_b))),(3, .one (.c (.int .i64 a_n))),(10, .one (.c (.int .i64 i_2)))]) (fun s=>match s with|(c_1,i_2)=>[dV ah 2 v c_1]) H (fun _=>aqe _)
  (fm_ bY [] rfl bA ⟨bq _ _ _ _ _,trivial⟩) ?_
 rintro ⟨c_1,i_2⟩ st1 hb1 hk1
 unfold iw at hb1
 dsimp only at hb1 ⊢
 rcases af hb1 with ⟨q_3,hb1⟩|⟨q_3,hb1⟩
 ·obtain ⟨g1,hb1⟩:=aS hb1
  obtain ⟨g2,hb1⟩:=aS hb1
  obtain ⟨x_4,i3,hb1⟩:=qA hb1
  obtain ⟨g4,hb1⟩:=aS hb1
  obtain ⟨g5,hb1⟩:=aS hb1
  obtain ⟨x_5,i6,hb1⟩:=qA hb1
  obtain ⟨g7,hb1⟩:=aS hb1
  obtain ⟨g8,hb1⟩:=aS hb1
  obtain ⟨g9,hb1⟩:=aS hb1
  obtain ⟨g10,hb1⟩:=aS hb1
  obtain ⟨g11,hb1⟩:=aS hb1
  obtain ⟨g12,hb1⟩:=aS hb1
  cases hb1
  refine DF ?_
  exact ⟨_,rfl,fm_ bY [] rfl bA ⟨bq _ _ _ _ _,trivial⟩⟩
 cases hb1
 have hx1:vG (.inl (c_1,i_2))=some _:=hk1
 unfold vG at hx1
 dsimp only at hx1
 cases hx1
 exact mY
theorem Ki {n:Nat}  {a_data:(List aa)} {a_a:Int} {a_m:Int} {a_b:Int} {a_cmp:aa->aa->Option (Int)} {v:Nat} {r:List aa} {F_a_cmp:FuncId} {caps_a_cmp:List AC} (hf_a_cmp : ∀ (y0:aa) (y1:aa) (r:Int),a_cmp y0 y1=some r->Pure Tryz.prog F_a_cmp ([.agg (ah y0), .agg (ah y1)]++caps_a_cmp.map .one) (.val (.one (.int .i64 r)))) (H:uq n a_data a_a a_m a_b a_cmp=some r):Run Tryz.prog 295 [dV ah 2 v a_data] [.one (.sl 0 v 0 n), .one (.c (.int .i64 a_a)), .one (.c (.int .i64 a_m)), .one (.c (.int .i64 a_b)), .one (.c (.fn F_a_cmp caps_a_cmp))] [dV ah 2 v r] (.tup []):=by
 unfold uq at H
 refine bP aj Tryz.func295 rfl rfl Tryz.ntmps295 (by simp) ?_
 simp only [iH]
 refine DF ?_
 refine alM_ (fun s:(List aa) × Int × Int=>match s with|(c_1,i_2,j_3)=>[(0, .one (.sl 0 v 0 n)),(2, .one (.c (.int .i64 a_m))),(4, .one (.c (.fn F_a_cmp caps_a_cmp))),(10, .one (.c (.int .i64 i_2))),(11, .one (.c (.int .i64 j_3)))]) (fun s=>match s with|(c_1,i_2,j_3)=>[dV ah 2 v c_1]) H (fun _=>aqe _)
  (fm_ bY [] rfl bA ⟨bq _ _ _ _ _,trivial⟩) ?_
 rintro ⟨c_1,i_2,j_3⟩ st1 hb1 hk1
 unfold iZ at hb1
 dsimp only at hb1 ⊢
 rcases af hb1 with ⟨q_4,hb1⟩|⟨q_4,hb1⟩
 ·rcases af hb1 with ⟨q_5,hb1⟩|⟨q_5,hb1⟩
  ·obtain ⟨c_6,c1,hb1⟩:=bd_ hb1
   replace c1:=sG (v:=v) (caps_a_cmp:=caps_a_cmp) hf_a_cmp c1
   cases hb1
   refine DF ?_
   exact ⟨_,rfl,fm_ bY [] rfl bA ⟨bq _ _ _ _ _,trivial⟩⟩
  obtain ⟨c_7,c2,hb1⟩:=bd_ hb1
  replace c2:=sG (v:=v) (caps_a_cmp:=caps_a_cmp) hf_a_cmp c2
  cases hb1
  refine DF ?_
  exact ⟨_,rfl,fm_ bY [] rfl bA ⟨bq _ _ _ _ _,trivial⟩⟩
 cases hb1
 have hx1:ye a_m a_cmp n (.inl (c_1,i_2,j_3))=some _:=hk1
 unfold ye at hx1
 dsimp only at hx1
 obtain ⟨c_8,c3,hx1⟩:=bd_ hx1
 replace c3:=sG (v:=v) (caps_a_cmp:=caps_a_cmp) hf_a_cmp c3
 cases hx1
 exact mY
theorem Gp {n:Nat}  {a_data:(List aa)} {a_a:Int} {a_b:Int} {a_cmp:aa->aa->Option (Int)} {v:Nat} {r:List aa} {F_a_cmp:FuncId} {caps_a_cmp:List AC} (hf_a_cmp : ∀ (y0:aa) (y1:aa) (r:Int),a_cmp y0 y1=some r->Pure Tryz.prog F_a_cmp ([.agg (ah y0), .agg (ah y1)]++caps_a_cmp.map .one) (.val (.one (.int .i64 r)))) (H:wm n a_data a_a a_b a_cmp=some r):Run Tryz.prog 276 [dV ah 2 v a_data] [.one (.sl 0 v 0 n), .one (.c (.int .i64 a_a)), .one (.c (.int .i64 a_b)), .one (.c (.fn F_a_cmp caps_a_cmp))] [dV ah 2 v r] (.tup []):=by
 unfold wm at H
 refine bP aj Tryz.func276 rfl rfl Tryz.ntmps276 (by simp) ?_
 simp only [iH]
 refine DF ?_
 refine alM_ (fun s:(List aa) × Int=>match s with|(c_1,i_2)=>[(0, .one (.sl 0 v 0 n)),(1, .one (.c (.int .i64 a_a))),(2, .one (.c (.int .i64 a_b))),(3, .one (.c (.fn F_a_cmp caps_a_cmp))),(8, .one (.c (.int .i64 i_2)))]) (fun s=>match s with|(c_1,i_2)=>[dV ah 2 v c_1]) H (fun _=>aqe _)
  (fm_ bY [] rfl bA ⟨bq _ _ _ _ _,trivial⟩) ?_
 rintro ⟨c_1,i_2⟩ st3 hb3 hk3
 unfold ic at hb3
 dsimp only at hb3 ⊢
 rcases af hb3 with ⟨q_3,hb3⟩|⟨q_3,hb3⟩
 ·refine DF ?_
  refine alM_ (fun s:(List aa) × Int=>match s with|(c_4,j_5)=>[(0, .one (.sl 0 v 0 n)),(1, .one (.c (.int .i64 a_a))),(2, .one (.c (.int .i64 a_b))),(3, .one (.c (.fn F_a_cmp caps_a_cmp))),(8, .one (.c (.int .i64 i_2))),(9, .one (.c (.int .i64 j_5)))]) (fun s=>match s with|(c_4,j_5)=>[dV ah 2 v c_4]) hb3 (fun _=>aqe _)
   (fm_ bY [] rfl bA ⟨bq _ _ _ _ _,trivial⟩) ?_
  rintro ⟨c_4,j_5⟩ st4 hb4 hk4
  unfold gV at hb4
  dsimp only at hb4 ⊢
  rcases af hb4 with ⟨q_6,hb4⟩|⟨q_6,hb4⟩
  ·obtain ⟨g1,hb4⟩:=aS hb4
   obtain ⟨g2,hb4⟩:=aS hb4
   obtain ⟨x_7,i3,hb4⟩:=qA hb4
   obtain ⟨g4,hb4⟩:=aS hb4
   obtain ⟨g5,hb4⟩:=aS hb4
   obtain ⟨x_8,i6,hb4⟩:=qA hb4
   obtain ⟨r_9,c7,hb4⟩:=bd_ hb4
   replace c7:=hf_a_cmp _ _ _ c7
   rcases af hb4 with ⟨q_10,hb4⟩|⟨q_10,hb4⟩
   ·obtain ⟨g8,hb4⟩:=aS hb4
    obtain ⟨g9,hb4⟩:=aS hb4
    obtain ⟨g10,hb4⟩:=aS hb4
    obtain ⟨g11,hb4⟩:=aS hb4
    obtain ⟨g12,hb4⟩:=aS hb4
    obtain ⟨g13,hb4⟩:=aS hb4
    obtain ⟨g14,hb4⟩:=aS hb4
    obtain ⟨g15,hb4⟩:=aS hb4
    obtain ⟨g16,hb4⟩:=aS hb4
    obtain ⟨g17,hb4⟩:=aS hb4
    cases hb4
    refine DF ?_
    exact ⟨_,rfl,fm_ bY [] rfl bA ⟨bq _ _ _ _ _,trivial⟩⟩
   cases hb4
   have hx4:mM i_2 (.inl (c_4,j_5))=some _:=hk4
   unfold mM at hx4
   dsimp only at hx4
   cases hx4
   refine DF ?_
   exact ⟨_,rfl,fm_ bY [] rfl bA ⟨bq _ _ _ _ _,trivial⟩⟩
  cases hb4
  have hx4:mM i_2 (.inl (c_4,j_5))=some _:=hk4
  unfold mM at hx4
  dsimp only at hx4
  cases hx4
  refine DF ?_
  exact ⟨_,rfl,fm_ bY [] rfl bA ⟨bq _ _ _ _ _,trivial⟩⟩
 cases hb3
 have hx3:BR (.inl (c_1,i_2))=some _:=hk3
 unfold BR at hx3
 dsimp only at hx3
 cases hx3
 exact mY
set_option maxHeartbeats 8000000
theorem aaX {rec:Nat->List aa->Int->Int->Int->(aa->aa->Option Int)->Option (List aa)} {n:Nat}  (hrec : ∀ {n:Nat} {X:List aa} {a m b:Int} {cmp:aa->aa->Option Int} {v:Nat} {F_a_cmp:FuncId} {caps_a_cmp:List AC} (hf_a_cmp : ∀ (y0:aa) (y1:aa) (r:Int),cmp y0 y1=some r->Pure Tryz.prog F_a_cmp ([.agg (ah y0), .agg (ah y1)]++caps_a_cmp.map .one) (.val (.one (.int .i64 r)))) {r:List aa}, rec n X a m b cmp=some r->Run Tryz.prog 277 [dV ah 2 v X] [.one (.sl 0 v 0 n), .one (.c (.int .i64 a)), .one (.c (.int .i64 m)), .one (.c (.int .i64 b)), .one (.c (.fn F_a_cmp caps_a_cmp))] [dV ah 2 v r] (.tup [])) {a_data:(List aa)} {a_a:Int} {a_m:Int} {a_b:Int} {a_cmp:aa->aa->Option (Int)} {v:Nat} {r:List aa} {F_a_cmp:FuncId} {caps_a_cmp:List AC} (hf_a_cmp : ∀ (y0:aa) (y1:aa) (r:Int),a_cmp y0 y1=some r->Pure Tryz.prog F_a_cmp ([.agg (ah y0), .agg (ah y1)]++caps_a_cmp.map .one) (.val (.one (.int .i64 r)))) (hq0:(decide ((IntKind.i64.wrap (a_m-a_a))=(1:Int)))=true) (H:zX rec n a_data a_a a_m a_b a_cmp=some r):Run Tryz.prog 277 [dV ah 2 v a_data] [.one (.sl 0 v 0 n), .one (.c (.int .i64 a_a)), .one (.c (.int .i64 a_m)), .one (.c (.int .i64 a_b)), .one (.c (.fn F_a_cmp caps_a_cmp))] [dV ah 2 v r] (.tup []):=by
 unfold zX at H
 refine bP aj Tryz.func277 rfl rfl Tryz.ntmps277 (by simp) ?_
 simp only [iH]
 rcases af H with ⟨q_1,H⟩|⟨q_1,H⟩
 ·refine DF ?_
  refine alM_ (fun s:Int × Int=>match s with|(i_2,j_3)=>[(0, .one (.sl 0 v 0 n)),(1, .one (.c (.int .i64 a_a))),(4, .one (.c (.fn F_a_cmp caps_a_cmp))),(10, .one (.c (.int .i64 i_2))),(11, .one (.c (.int .i64 j_3)))]) (fun s=>match s with|(i_2,j_3)=>[dV ah 2 v a_data]) H (fun _=>aqe _)
   (fm_ bY [] rfl bA ⟨bq _ _ _ _ _,trivial⟩) ?_
  rintro ⟨i_2,j_3⟩ st1 hb1 hk1
  unfold wT at hb1
  dsimp only at hb1 ⊢
  rcases af hb1 with ⟨q_4,hb1⟩|⟨q_4,hb1⟩
  ·obtain ⟨g1,hb1⟩:=aS hb1
   obtain ⟨g2,hb1⟩:=aS hb1
   obtain ⟨x_5,i3,hb1⟩:=qA hb1
   obtain ⟨g4,hb1⟩:=aS hb1
   obtain ⟨g5,hb1⟩:=aS hb1
   obtain ⟨x_6,i6,hb1⟩:=qA hb1
   obtain ⟨r_7,c7,hb1⟩:=bd_ hb1
   replace c7:=hf_a_cmp _ _ _ c7
   rcases af hb1 with ⟨q_8,hb1⟩|⟨q_8,hb1⟩
   ·cases hb1
    refine DF ?_
    exact ⟨_,rfl,fm_ bY [] rfl bA ⟨bq _ _ _ _ _,trivial⟩⟩
   cases hb1
   refine DF ?_
   exact ⟨_,rfl,fm_ bY [] rfl bA ⟨bq _ _ _ _ _,trivial⟩⟩
  cases hb1
  have hx1:Ag a_data a_a n (.inl (i_2,j_3))=some _:=hk1
  unfold Ag at hx1
  dsimp only at hx1
  refine DF ?_
  refine alM_ (fun s:(List aa) × Int=>match s with|(c_9,k_10)=>[(0, .one (.sl 0 v 0 n)),(10, .one (.c (.int .i64 i_2))),(13, .one (.c (.int .i64 k_10)))]) (fun s=>match s with|(c_9,k_10)=>[dV ah 2 v c_9]) hx1 (fun _=>aqe _)
   (fm_ bY [] rfl bA ⟨bq _ _ _ _ _,trivial⟩) ?_
  rintro ⟨c_9,k_10⟩ st2 hb2 hk2
  unfold sI at hb2
  dsimp only at hb2 ⊢
  rcases af hb2 with ⟨q_11,hb2⟩|⟨q_11,hb2⟩
  ·obtain ⟨g8,hb2⟩:=aS hb2
   obtain ⟨g9,hb2⟩:=aS hb2
   obtain ⟨x_12,i10,hb2⟩:=qA hb2
   obtain ⟨g11,hb2⟩:=aS hb2
   obtain ⟨g12,hb2⟩:=aS hb2
   obtain ⟨x_13,i13,hb2⟩:=qA hb2
   obtain ⟨g14,hb2⟩:=aS hb2
   obtain ⟨g15,hb2⟩:=aS hb2
   obtain ⟨g16,hb2⟩:=aS hb2
   obtain ⟨g17,hb2⟩:=aS hb2
   obtain ⟨g18,hb2⟩:=aS hb2
   obtain ⟨g19,hb2⟩:=aS hb2
   cases hb2
   refine DF ?_
   exact ⟨_,rfl,fm_ bY [] rfl bA ⟨bq _ _ _ _ _,trivial⟩⟩
  cases hb2
  have hx2:Nl (.inl (c_9,k_10))=some _:=hk2
  unfold Nl at hx2
  dsimp only at hx2
  cases hx2
  exact mY
 exact nomatch hq0.symm.trans q_1
theorem Zv {rec:Nat->List aa->Int->Int->Int->(aa->aa->Option Int)->Option (List aa)} {n:Nat}  (hrec : ∀ {n:Nat} {X:List aa} {a m b:Int} {cmp:aa->aa->Option Int} {v:Nat} {F_a_cmp:FuncId} {caps_a_cmp:List AC} (hf_a_cmp : ∀ (y0:aa) (y1:aa) (r:Int),cmp y0 y1=some r->Pure Tryz.prog F_a_cmp ([.agg (ah y0), .agg (ah y1)]++caps_a_cmp.map .one) (.val (.one (.int .i64 r)))) {r:List aa}, rec n X a m b cmp=some r->Run Tryz.prog 277 [dV ah 2 v X] [.one (.sl 0 v 0 n), .one (.c (.int .i64 a)), .one (.c (.int .i64 m)), .one (.c (.int .i64 b)), .one (.c (.fn F_a_cmp caps_a_cmp))] [dV ah 2 v r] (.tup [])) {a_data:(List aa)} {a_a:Int} {a_m:Int} {a_b:Int} {a_cmp:aa->aa->Option (Int)} {v:Nat} {r:List aa} {F_a_cmp:FuncId} {caps_a_cmp:List AC} (hf_a_cmp : ∀ (y0:aa) (y1:aa) (r:Int),a_cmp y0 y1=some r->Pure Tryz.prog F_a_cmp ([.agg (ah y0), .agg (ah y1)]++caps_a_cmp.map .one) (.val (.one (.int .i64 r)))) (hq0:(decide ((IntKind.i64.wrap (a_m-a_a))=(1:Int)))=false) (hq1:(decide ((IntKind.i64.wrap (a_b-a_m))=(1:Int)))=true) (H:zX rec n a_data a_a a_m a_b a_cmp=some r):Run Tryz.prog 277 [dV ah 2 v a_data] [.one (.sl 0 v 0 n), .one (.c (.int .i64 a_a)), .one (.c (.int .i64 a_m)), .one (.c (.int .i64 a_b)), .one (.c (.fn F_a_cmp caps_a_cmp))] [dV ah 2 v r] (.tup []):=by
 unfold zX at H
 refine bP aj Tryz.func277 rfl rfl Tryz.ntmps277 (by simp) ?_
 simp only [iH]
 rcases af H with ⟨q_1,H⟩|⟨q_1,H⟩
 ·exact nomatch hq0.symm.trans q_1
 rcases af H with ⟨q_14,H⟩|⟨q_14,H⟩
 ·refine DF ?_
  refine alM_ (fun s:Int × Int=>match s with|(i_15,j_16)=>[(0, .one (.sl 0 v 0 n)),(2, .one (.c (.int .i64 a_m))),(4, .one (.c (.fn F_a_cmp caps_a_cmp))),(14, .one (.c (.int .i64 i_15))),(15, .one (.c (.int .i64 j_16)))]) (fun s=>match s with|(i_15,j_16)=>[dV ah 2 v a_data]) H (fun _=>aqe _)
   (fm_ bY [] rfl bA ⟨bq _ _ _ _ _,trivial⟩) ?_
  rintro ⟨i_15,j_16⟩ st3 hb3 hk3
  unfold wz at hb3
  dsimp only at hb3 ⊢
  rcases af hb3 with ⟨q_17,hb3⟩|⟨q_17,hb3⟩
  ·obtain ⟨g20,hb3⟩:=aS hb3
   obtain ⟨g21,hb3⟩:=aS hb3
   obtain ⟨x_18,i22,hb3⟩:=qA hb3
   obtain ⟨g23,hb3⟩:=aS hb3
   obtain ⟨g24,hb3⟩:=aS hb3
   obtain ⟨x_19,i25,hb3⟩:=qA hb3
   obtain ⟨r_20,c26,hb3⟩:=bd_ hb3
   replace c26:=hf_a_cmp _ _ _ c26
   rcases af hb3 with ⟨q_21,hb3⟩|⟨q_21,hb3⟩
   ·cases hb3
    refine DF ?_
    exact ⟨_,rfl,fm_ bY [] rfl bA ⟨bq _ _ _ _ _,trivial⟩⟩
   cases hb3
   refine DF ?_
   exact ⟨_,rfl,fm_ bY [] rfl bA ⟨bq _ _ _ _ _,trivial⟩⟩
  cases hb3
  have hx3:Am a_data a_m n (.inl (i_15,j_16))=some _:=hk3
  unfold Am at hx3
  dsimp only at hx3
  refine DF ?_
  refine alM_ (fun s:(List aa) × Int=>match s with|(c_22,k_23)=>[(0, .one (.sl 0 v 0 n)),(14, .one (.c (.int .i64 i_15))),(17, .one (.c (.int .i64 k_23)))]) (fun s=>match s with|(c_22,k_23)=>[dV ah 2 v c_22]) hx3 (fun _=>aqe _)
   (fm_ bY [] rfl bA ⟨bq _ _ _ _ _,trivial⟩) ?_
  rintro ⟨c_22,k_23⟩ st4 hb4 hk4
  unfold rJ at hb4
  dsimp only at hb4 ⊢
  rcases af hb4 with ⟨q_24,hb4⟩|⟨q_24,hb4⟩
  ·obtain ⟨g27,hb4⟩:=aS hb4
   obtain ⟨g28,hb4⟩:=aS hb4
   obtain ⟨x_25,i29,hb4⟩:=qA hb4
   obtain ⟨g30,hb4⟩:=aS hb4
   obtain ⟨g31,hb4⟩:=aS hb4
   obtain ⟨x_26,i32,hb4⟩:=qA hb4
   obtain ⟨g33,hb4⟩:=aS hb4
   obtain ⟨g34,hb4⟩:=aS hb4
   obtain ⟨g35,hb4⟩:=aS hb4
   obtain ⟨g36,hb4⟩:=aS hb4
   obtain ⟨g37,hb4⟩:=aS hb4
   obtain ⟨g38,hb4⟩:=aS hb4
   cases hb4
   refine DF ?_
   exact ⟨_,rfl,fm_ bY [] rfl bA ⟨bq _ _ _ _ _,trivial⟩⟩
  cases hb4
  have hx4:Ml (.inl (c_22,k_23))=some _:=hk4
  unfold Ml at hx4
  dsimp only at hx4
  cases hx4
  exact mY
 exact nomatch hq1.symm.trans q_14
section
variable {α:Type} {lt:α->α->Bool} {S:α->Prop}
structure He (lt:α->α->Bool) (S:α->Prop):Prop where
 irr : ∀ x,S x->lt x x=false
 tr : ∀ x y z,S x->S y->S z->lt x y=true->lt y z=true->lt x z=true
 tot : ∀ x y,S x->S y->lt x y=false->lt y x=false->x=y
theorem He.mono {S':α->Prop} (h:He lt S) (k : ∀ x,S' x->S x):He lt S' :=
 ⟨fun x hx=>h.irr x (k x hx),fun x y z hx hy hz=>h.tr x y z (k x hx) (k y hy) (k z hz),fun x y hx hy=>h.tot x y (k x hx) (k y hy)⟩
def gP (lt:α->α->Bool) (l:List α):Prop:=l.Pairwise fun a b=>lt b a=false
theorem He.le_tr (h:He lt S) {x y z:α} (sx:S x) (sy:S y) (sz:S z) (h1:lt y x=false) (h2:lt z y=false):lt z x=false:=by
 cases h3:lt z x with
 | false=>rfl
 | true =>
  cases h4:lt x y with
  | true=>rw [h.tr z x y sz sx sy h3 h4] at h2;cases h2
  | false=>have:=h.tot x y sx sy h4 h1;subst this;rw [h3] at h2;cases h2
theorem He.le_of (h:He lt S) {x y:α} (sx:S x) (sy:S y) (h1:lt x y=true):lt y x=false:=by
 cases h2:lt y x with
 | false=>rfl
 | true=>have:=h.tr x y x sx sy sx h1 h2;rw [h.irr x sx] at this;cases this
theorem Rb (h:He lt S) : ∀ {l m:List α}, (∀ x∈l,S x)->gP lt l->gP lt m->l.Perm m->l=m
 | [],m,_,_,_,p=>by have:=p.length_eq;cases m with|nil=>rfl|cons y m=>simp at this
 | x::l,[],_,_,_,p=>by have:=p.length_eq;simp at this
 | x::l,y::m,hS,ha,hb,p=>by
  have hxy:x=y:=by
   have hx:x∈y::m:=p.mem_iff.1 (by simp)
   have hy:y∈x::l:=p.mem_iff.2 (by simp)
   have sy:=hS y hy
   rcases aqf.1 hx with e|hx
   ·exact e
   ·rcases aqf.1 hy with e|hy
    ·exact e.symm
    ·exact h.tot x y (hS x (by simp)) sy ((aqV.1 hb).1 x hx) ((aqV.1 ha).1 y hy)
  subst hxy
  rw [Rb h (fun z hz=>hS z (by simp [hz])) (aqV.1 ha).2 (aqV.1 hb).2 ((List.perm_cons x).1 p)]
theorem Xx (h:He lt S) {L:List α} {x y:α} (hS : ∀ z∈L++[x],S z) (ha:gP lt (L++[x])) (hy:y∈L++[x]):lt x y=false:=by
 rcases aqr.1 hy with hy|hy
 ·exact (List.pairwise_append.1 ha).2.2 y hy x (by simp)
 ·simp at hy;subst hy;exact h.irr y (hS y (by simp))
theorem YU (h:He lt S) {L:List α} {x y:α} (hS : ∀ z∈x::L,S z) (ha:gP lt (x::L)) (hy:y∈x::L):lt y x=false:=by
 rcases aqf.1 hy with rfl|hy
 ·exact h.irr y (hS y (by simp))
 ·exact (aqV.1 ha).1 y hy
theorem acz (h:He lt S) {A B:List α} (hA : ∀ z∈A,S z) (hB : ∀ z∈B,S z) (a:gP lt A) (b:gP lt B) (hg:A=[]\/B=[] \/ ∃ A' x y B',A=A'++[x]/\B=y::B'/\lt y x=false) : ∀ x∈A, ∀ y∈B,lt y x=false:=by
 intro u hu v hv
 rcases hg with rfl|rfl|⟨A',x,y,B',rfl,rfl,hxy⟩
 ·simp at hu
 ·simp at hv
 ·have s1:=hA u hu;have s2:=hA x (by simp);have s3:=hB y (by simp);have s4:=hB v hv
  exact h.le_tr s1 s2 s4 (Xx h hA a hu) (h.le_tr s2 s3 s4 hxy (YU h hB b hv))
theorem Lf (h:He lt S) {L1 L2:List α} {x:α} (sx:S x) (hS : ∀ z∈L1++L2,S z) (ha:gP lt (L1++L2)) (h1:L1=[] \/ ∃ L y,L1=L++[y]/\lt x y=false) (h2:L2=[] \/ ∃ z L,L2=z::L/\lt z x=false):gP lt (L1++x::L2):=by
 have hp:=List.pairwise_append.1 ha
 refine List.pairwise_append.2 ⟨hp.1,aqV.2 ⟨fun v hv=>?_,hp.2.1⟩,fun u hu v hv=>?_⟩
 ·rcases h2 with rfl|⟨z,L,rfl,hz⟩
  ·simp at hv
  ·exact h.le_tr sx (hS z (by simp)) (hS v (by simp at hv ⊢;exact .inr hv)) hz (YU h (fun w hw=>hS w (by simp at hw ⊢;exact .inr hw)) hp.2.1 hv)
 ·rcases aqf.1 hv with rfl|hv
  ·rcases h1 with rfl|⟨L,y,rfl,hy⟩
   ·simp at hu
   ·exact h.le_tr (hS u (by simp at hu ⊢;rcases hu with hu|hu;exact .inl hu;exact .inr (.inl hu))) (hS y (by simp)) sx (Xx h (fun w hw=>hS w (List.mem_append_left _ hw)) hp.1 hu) hy
  ·exact hp.2.2 u hu v hv
theorem aa0 (h:He lt S) {A1 A2 B1 B2 M1 M2:List α} (hS : ∀ z∈(A1++A2)++(B1++B2),S z) (hA:gP lt (A1++A2)) (hB:gP lt (B1++B2)) (h1:A1=[]\/B2=[] \/ ∃ A' x y B',A1=A'++[x]/\B2=y::B'/\lt y x=false) (h2:B1=[]\/A2=[] \/ ∃ A' x y B',B1=A'++[x]/\A2=y::B'/\lt y x=false)
  (m1:gP lt M1) (m2:gP lt M2) (p1:M1.Perm (A1++B1)) (p2:M2.Perm (A2++B2)):gP lt (M1++M2):=by
 have pa:=List.pairwise_append.1 hA
 have pb:=List.pairwise_append.1 hB
 have g1:=acz h (fun z hz=>hS z (by simp [hz])) (fun z hz=>hS z (by simp [hz])) pa.1 pb.2.1 h1
 have g2:=acz h (fun z hz=>hS z (by simp [hz])) (fun z hz=>hS z (by simp [hz])) pb.1 pa.2.1 h2
 refine List.pairwise_append.2 ⟨m1,m2,fun x hx y hy=>?_⟩
 rcases aqr.1 (p1.mem_iff.1 hx) with hx|hx<;>rcases aqr.1 (p2.mem_iff.1 hy) with hy|hy
 ·exact pa.2.2 x hx y hy
 ·exact g1 x hx y hy
 ·exact g2 x hx y hy
 ·exact pb.2.2 x hx y hy
theorem Wm {A1 A2 B1 B2 M1 M2:List α} (p1:M1.Perm (A1++B1)) (p2:M2.Perm (A2++B2)):(M1++M2).Perm ((A1++A2)++(B1++B2)):=by
 refine (p1.append p2).trans ?_
 rw [aqp,aqp]
 refine List.Perm.append_left A1 ?_
 rw [<- aqp, <- aqp]
 exact List.Perm.append_right B2 List.perm_append_comm
theorem acx {β:Type} (f:α->β) (U V T:List α) (x y:α):(((U++x::(V++y::T)).map f).set U.length (f y)).set (U.length+1+V.length) (f x)=(U++y::(V++x::T)).map f:=by
 rw [aqb,ap',List.set_append_right _ _ (by simp)]
 simp only [aqa,Nat.sub_self,List.set_cons_zero]
 rw [List.set_append_right _ _ (by simp;omega)]
 simp only [aqa]
 rw [show U.length+1+V.length-U.length=V.length+1 by omega,List.set_cons_succ,aqb,List.set_append_right _ _ (by simp)]
 simp
theorem get_at (U:List α) (x:α) (T:List α):(U++x::T)[U.length]?=some x:=by simp
theorem Lj (U V T:List α) (x y:α):(U++x::(V++y::T))[U.length+1+V.length]?=some y:=by
 rw [ap7 (by omega),show U.length+1+V.length-U.length=V.length+1 by omega,List.getElem?_cons_succ,ap7 (by omega)]
 simp
end
section
variable {α:Type}
theorem wrA (a b:Nat) (h:a+b<=4611686018427387904):IntKind.i64.wrap ((a:Int)+(b:Int))=((a+b:Nat):Int):=by rw [fO (by omega)];omega
theorem wrS (a b:Nat) (h:b<=a) (h2:a<=4611686018427387904):IntKind.i64.wrap ((a:Int)-(b:Int))=((a-b:Nat):Int):=by rw [fO (by omega)];omega
theorem TS {i n:Nat} (h:i<n):decide ((i:Int)<((n:Nat):Int))=true:=ap4 (by omega)
theorem Xc (i:Nat):decide ((0:Int)<=(i:Int))=true:=ap4 (by omega)
theorem acs (i:Nat):0+((i:Int)).toNat=i:=by omega
theorem afr {n:Nat} {c:List α} {a b k i:Nat} {x y:α} (hn:c.length=n) (hn2:n<=1000000000) (hk:i<k) (ha:c[a+i]?=some x) (hb:c[b+i]?=some y):iw (a:Int) (b:Int) (k:Int) n (c,(i:Int))=some (.next ((c.set (a+i) y).set (b+i) x,((i+1:Nat):Int))):=by
 have h1:=(ap0.1 ha).1
 have h2:=(ap0.1 hb).1
 unfold iw
 dsimp only
 rw [wrA a i (by omega),wrA b i (by omega),wrapN (by omega)]
 simp only [TS hk,Xc,TS (show a+i<n by omega),TS (show b+i<n by omega),ap2,gn_ ha,gn_ hb,apZ,acs,List.length_set,ap4 (show a+i<c.length by omega),ap4 (show b+i<c.length by omega)]
theorem aeC {n:Nat} {c:List α} {a b:Int} {k i:Nat} (hk : ¬ i<k):iw a b (k:Int) n (c,(i:Int))=some (.exit (c,(i:Int))):=by
 unfold iw
 dsimp only
 rw [ap3 (by omega),ap1]
theorem TC {n:Nat} (hn2:n<=1000000000) (a b k:Nat) : ∀ (U W P V Q:List α) (N i:Nat),U.length=W.length->P.length=a+i->P.length+U.length+V.length=b+i->i+U.length=k->(P++(U++(V++(W++Q)))).length=n->U.length<N->az (iw (a:Int) (b:Int) (k:Int) n) N (P++(U++(V++(W++Q))),(i:Int))=some (.inl (P++(W++(V++(U++Q))),((k:Nat):Int)))
 | U,W,P,V,Q,0,i,_,_,_,_,_,h=>by omega
 | [],W,P,V,Q,N+1,i,hl,hp,hb,hi,hn,_=>by
  have hW:W=[]:=aqA.1 hl.symm
  subst hW
  rw [az,aeC (by simp at hi;omega)]
  simp only [aqu,Nat.add_zero] at hi
  subst hi
  rfl
 | u::U,[],P,V,Q,N+1,i,hl,_,_,_,_,_=>by simp at hl
 | u::U,w::W,P,V,Q,N+1,i,hl,hp,hb,hi,hn,hN=>by
  simp only [aqk] at hl hb hi hN
  have e:P++(u::U++(V++(w::W++Q)))=P++u::((U++V)++w::(W++Q)):=by simp
  rw [az,e,afr (x:=u) (y:=w) (by rw [<- e];exact hn) hn2 (by omega) (by rw [<- hp];exact get_at _ _ _) (by have:=Lj P (U++V) (W++Q) u w;rwa [show P.length+1+(U++V).length=b+i by simp;omega] at this)]
  have s2:=acx (f:=fun x:α=>x) P (U++V) (W++Q) u w
  rw [List.map_id',List.map_id',show P.length+1+(U++V).length=b+i by simp;omega,hp] at s2
  rw [s2]
  have e2:P++w::((U++V)++u::(W++Q))=(P++[w])++(U++((V++[u])++(W++Q))):=by simp
  show az _ N (P++w::((U++V)++u::(W++Q)),((i+1:Nat):Int))=_
  rw [e2,TC hn2 a b k U W (P++[w]) (V++[u]) Q N (i+1) (by omega) (by simp;omega) (by simp;omega) (by omega) (by rw [<- hn];simp only [ap8,aqk,aqu];omega) (by omega)]
  simp
theorem vN {n:Nat} (hn2:n<=1000000000) {P U V W Q:List α} (cmp:α->α->Option Int) (hl:U.length=W.length) (hn:(P++(U++(V++(W++Q)))).length=n):lW n (P++(U++(V++(W++Q)))) (P.length:Int) ((P.length+U.length+V.length:Nat):Int) (U.length:Int) cmp=some (P++(W++(V++(U++Q)))):=by
 unfold lW
 have:=TC hn2 P.length (P.length+U.length+V.length) U.length U W P V Q fuel 0 hl (by omega) (by omega) (by omega) hn (by simp at hn;unfold fuel;omega)
 rw [show ((0:Nat):Int)=0 from rfl] at this
 rw [this];rfl
theorem Aq {n:Nat} (hn2:n<=1000000000) (cmp:α->α->Option Int) (m:Nat) : ∀ (N:Nat) (P A B Q:List α),P.length+A.length=m->0<A.length->0<B.length->(P++(A++(B++Q))).length=n->A.length+B.length<N -> ∃ P' A' B' Q',az (iZ (m:Int) cmp n) N (P++(A++(B++Q)),(A.length:Int),(B.length:Int))=some (.inl (P'++(A'++(B'++Q')),(A'.length:Int),(B'.length:Int)))/\A'.length=B'.length/\P'.length+A'.length=m/\P'++(B'++(A'++Q'))=P++(B++(A++Q))/\(P'++(A'++(B'++Q'))).length=n
 | 0,P,A,B,Q,_,_,_,_,h=>by omega
 | N+1,P,A,B,Q,hm,hA,hB,hn,hN=>by
  have hn':=hn
  simp only [ap8] at hn'
  rw [az]
  by_cases h0:A.length=B.length
  ·have hb:iZ (m:Int) cmp n (P++(A++(B++Q)),(A.length:Int),(B.length:Int))=some (.exit (P++(A++(B++Q)),(A.length:Int),(B.length:Int))):=by
    unfold iZ
    dsimp only
    rw [ap3 (by omega),ap1]
   rw [hb]
   exact ⟨P,A,B,Q,rfl,h0,hm,rfl,hn⟩
  ·by_cases h1:B.length<A.length
   ·have hs:=vN hn2 (P:=P) (U:=A.take B.length) (V:=A.drop B.length) (W:=B) (Q:=Q) cmp (by rw [aqQ];omega) (by rw [<- hn];simp;omega)
    have eA:A.take B.length++(A.drop B.length++(B++Q))=A++(B++Q):=by rw [<- aqp,aqK]
    rw [eA] at hs
    have hb:iZ (m:Int) cmp n (P++(A++(B++Q)),(A.length:Int),(B.length:Int))=some (.next (P++(B++(A.drop B.length++(A.take B.length++Q))),((A.length-B.length:Nat):Int),(B.length:Int))):=by
     unfold iZ
     dsimp only
     rw [ap4 (show (A.length:Int)≠(B.length:Int) by omega),ap2,ap4 (show (B.length:Int)<(A.length:Int) by omega),ap2,wrS m A.length (by omega) (by omega),wrS A.length B.length (by omega) (by omega),show m-A.length=P.length by omega]
     rw [aqQ,List.length_drop,Nat.min_eq_left (by omega),show P.length+B.length+(A.length-B.length)=m by omega] at hs
     rw [hs];rfl
    rw [hb]
    obtain ⟨P',A',B',Q',k1,k2,k3,k4,k5⟩:=Aq hn2 cmp m N (P++B) (A.drop B.length) (A.take B.length) Q (by simp;omega) (by simp;omega) (by simp;omega) (by rw [<- hn];simp;omega) (by simp;omega)
    refine ⟨P',A',B',Q',?_,k2,k3,?_,k5⟩
    ·rw [<- k1]
     simp only [List.length_drop,aqQ,Nat.min_eq_left (Nat.le_of_lt h1),aqp]
    ·rw [k4]
     simp only [aqp]
     rw [<- aqp (A.take B.length),aqK]
   ·have hs:=vN hn2 (P:=P) (U:=A) (V:=B.take (B.length-A.length)) (W:=B.drop (B.length-A.length)) (Q:=Q) cmp (by rw [List.length_drop];omega) (by rw [<- hn];simp;omega)
    have eB:B.take (B.length-A.length)++(B.drop (B.length-A.length)++Q)=B++Q:=by rw [<- aqp,aqK]
    rw [eB] at hs
    have hb:iZ (m:Int) cmp n (P++(A++(B++Q)),(A.length:Int),(B.length:Int))=some (.next (P++(B.drop (B.length-A.length)++(B.take (B.length-A.length)++(A++Q))),(A.length:Int),((B.length-A.length:Nat):Int))):=by
     unfold iZ
     dsimp only
     rw [ap4 (show (A.length:Int)≠(B.length:Int) by omega),ap2,ap3 (show ¬ (B.length:Int)<(A.length:Int) by omega),ap1,wrS m A.length (by omega) (by omega),wrA m B.length (by omega),wrS (m+B.length) A.length (by omega) (by omega),wrS B.length A.length (by omega) (by omega),show m-A.length=P.length by omega]
     rw [aqQ,Nat.min_eq_left (by omega),show P.length+A.length+(B.length-A.length)=m+B.length-A.length by omega] at hs
     rw [hs];rfl
    rw [hb]
    obtain ⟨P',A',B',Q',k1,k2,k3,k4,k5⟩:=Aq hn2 cmp m N P (B.drop (B.length-A.length)) (B.take (B.length-A.length)) (A++Q) (by simp;omega) (by simp;omega) (by simp;omega) (by rw [<- hn];simp;omega) (by simp;omega)
    refine ⟨P',A',B',Q',?_,k2,k3,?_,k5⟩
    ·rw [<- k1]
     simp only [List.length_drop,aqQ,Nat.min_eq_left (Nat.sub_le _ _),show B.length-(B.length-A.length)=A.length by omega]
    ·rw [k4]
     simp only [<- aqp]
     rw [aqp P,aqK]
theorem ZY {n:Nat} (hn2:n<=1000000000) {P A B Q:List α} (cmp:α->α->Option Int) (hA:0<A.length) (hB:0<B.length) (hn:(P++(A++(B++Q))).length=n):uq n (P++(A++(B++Q))) (P.length:Int) ((P.length+A.length:Nat):Int) ((P.length+A.length+B.length:Nat):Int) cmp=some (P++(B++(A++Q))):=by
 have hn':=hn
 simp only [ap8] at hn'
 unfold uq
 rw [wrS (P.length+A.length) P.length (by omega) (by omega),wrS (P.length+A.length+B.length) (P.length+A.length) (by omega) (by omega),show P.length+A.length-P.length=A.length by omega,show P.length+A.length+B.length-(P.length+A.length)=B.length by omega]
 obtain ⟨P',A',B',Q',k1,k2,k3,k4,k5⟩:=Aq hn2 cmp (P.length+A.length) fuel P A B Q rfl hA hB hn (by unfold fuel;omega)
 rw [k1,apZ]
 unfold ye
 dsimp only
 have k5':=k5
 simp only [ap8] at k5'
 have hs:=vN hn2 (P:=P') (U:=A') (V:=[]) (W:=B') (Q:=Q') cmp k2 k5
 rw [ap5,ap5,aqu,Nat.add_zero,k3] at hs
 rw [wrS (P.length+A.length) A'.length (by omega) (by omega),show P.length+A.length-A'.length=P'.length by omega,hs,k4];rfl
end
section
variable {α:Type} {lt:α->α->Bool} {S:α->Prop} {cmp:α->α->Option Int}
theorem u64_in {x:Int} (h0:0<=x) (h:x<=4611686018427387904):IntKind.u64.wrap x=x:=by
 simp only [IntKind.wrap,IntKind.bits,IntKind.signed]
 simp
 omega
theorem Jh {i j:Nat} (h:i+j<=4611686018427387904):df (IntKind.i64.wrap ((i:Int)+(j:Int)))=(((i+j)/2:Nat):Int):=by
 rw [wrA i j h]
 show IntKind.i64.wrap (Int.fdiv (IntKind.u64.wrap ((i+j:Nat):Int)) 2)=_
 rw [u64_in (by omega) (by omega),Int.fdiv_eq_ediv_of_nonneg _ (by omega),fO (by omega)]
 omega
def sO (cmp:α->α->Option Int) (lt:α->α->Bool) (S:α->Prop):Prop := ∀ x y,S x->S y -> ∃ r,cmp x y=some r/\decide (r<0)=lt x y
theorem wr1 (a:Nat) (h:1<=a) (h2:a<=4611686018427387904):IntKind.i64.wrap ((a:Int)-1)=((a-1:Nat):Int):=by rw [fO (by omega)];omega
theorem Tf (h:He lt S) (hc:sO cmp lt S) {n:Nat} (hn2:n<=1000000000) (P Q:List α) (x:α) (sx:S x) : ∀ (k:Nat) (L1 L2:List α) (N:Nat),L1.length=k->(∀ z∈L1++L2,S z)->gP lt (L1++L2)->(L2=[] \/ ∃ z L,L2=z::L/\lt z x=false)->(P++((L1++x::L2)++Q)).length=n->k<N ->
  ∃ M j,az (gV (P.length:Int) cmp n) N (P++((L1++x::L2)++Q),((P.length+k:Nat):Int))=some (.inl (P++(M++Q),j))/\gP lt M/\M.Perm (x::(L1++L2))
 | k,L1,L2,0,_,_,_,_,_,hN=>by omega
 | 0,L1,L2,N+1,hk,hS,ha,h2,hn,hN=>by
  have:L1=[]:=aqA.1 hk
  subst this
  rw [az]
  have hb:gV (P.length:Int) cmp n (P++(([]++x::L2)++Q),((P.length+0:Nat):Int))=some (.exit (P++(([]++x::L2)++Q),((P.length+0:Nat):Int))):=by
   unfold gV
   dsimp only
   rw [ap3 (by omega),ap1]
  rw [hb]
  refine ⟨x::L2,_,rfl,?_, .refl _⟩
  have:=Lf h (L1:=[]) (L2:=L2) sx hS ha (.inl rfl) h2
  exact this
 | k+1,L1,L2,N+1,hk,hS,ha,h2,hn,hN=>by
  obtain ⟨L,y,rfl⟩ : ∃ L y,L1=L++[y]:=by
   rcases List.eq_nil_or_concat L1 with e|⟨L,y,e⟩
   ·subst e;simp at hk
   ·exact ⟨L,y,by simpa using e⟩
  have hL:L.length=k:=by simp at hk;exact hk
  have hn':=hn
  simp only [ap8,aqk,aqu] at hn'
  have sy:S y:=hS y (by simp)
  have e1:P++((L++[y])++x::L2++Q)=(P++L)++y::([]++x::(L2++Q)):=by simp
  have g1:(P++((L++[y])++x::L2++Q))[P.length+k]?=some y:=by rw [e1, <- hL, <- ap8];exact get_at _ _ _
  have g2:(P++((L++[y])++x::L2++Q))[P.length+(k+1)]?=some x:=by
   have:=Lj (P++L) [] (L2++Q) y x
   rw [<- e1] at this
   rwa [show (P++L).length+1+([]:List α).length=P.length+(k+1) by simp;omega] at this
  obtain ⟨r,hr,hr2⟩:=hc x y sx sy
  rw [az]
  cases hxy:lt x y with
  | false =>
   have hb:gV (P.length:Int) cmp n (P++((L++[y])++x::L2++Q),((P.length+(k+1):Nat):Int))=some (.exit (P++((L++[y])++x::L2++Q),((P.length+(k+1):Nat):Int))):=by
    unfold gV
    dsimp only
    rw [wr1 _ (by omega) (by omega),show P.length+(k+1)-1=P.length+k by omega]
    simp only [ap4 (show (P.length:Int)<((P.length+(k+1):Nat):Int) by omega),Xc,TS (show P.length+(k+1)<n by omega),TS (show P.length+k<n by omega),ap2,gn_ g1,gn_ g2,apZ,hr,hr2,hxy,ap1]
   rw [hb]
   refine ⟨(L++[y])++x::L2,_,rfl,Lf h sx hS ha (.inr ⟨L,y,rfl,hxy⟩) h2,List.perm_middle⟩
  | true =>
   have hb:gV (P.length:Int) cmp n (P++((L++[y])++x::L2++Q),((P.length+(k+1):Nat):Int))=some (.next (P++((L++x::(y::L2))++Q),((P.length+k:Nat):Int))):=by
    unfold gV
    dsimp only
    rw [wr1 _ (by omega) (by omega),show P.length+(k+1)-1=P.length+k by omega]
    simp only [ap4 (show (P.length:Int)<((P.length+(k+1):Nat):Int) by omega),Xc,TS (show P.length+(k+1)<n by omega),TS (show P.length+k<n by omega),ap2,gn_ g1,gn_ g2,apZ,hr,hr2,hxy,acs,List.length_set,ap4 (show P.length+(k+1)<(P++((L++[y])++x::L2++Q)).length by omega),ap4 (show P.length+k<(P++((L++[y])++x::L2++Q)).length by omega)]
    have s2:=acx (f:=fun z:α=>z) (P++L) [] (L2++Q) y x
    rw [List.map_id',List.map_id', <- e1,show (P++L).length=P.length+k by simp;omega,aqu,show P.length+k+1+0=P.length+(k+1) by omega] at s2
    rw [List.set_comm _ _ (by omega),s2]
    simp
   rw [hb]
   obtain ⟨M,j,k1,k2,k3⟩:=Tf h hc hn2 P Q x sx k L (y::L2) N hL (fun z hz=>hS z (by simp at hz ⊢;rcases hz with hz|hz|hz<;>simp [hz])) (by simpa using ha) (.inr ⟨y,L2,rfl,h.le_of sx sy hxy⟩) (by rw [<- hn];simp) (by omega)
   exact ⟨M,j,k1,k2,k3.trans (by simp)⟩
theorem Ty (h:He lt S) (hc:sO cmp lt S) {n:Nat} (hn2:n<=1000000000) (P Q:List α) (b:Nat) : ∀ (R M:List α) (N:Nat),P.length+M.length+R.length=b->(∀ z∈M++R,S z)->gP lt M->(P++(M++(R++Q))).length=n->R.length<N ->
  ∃ M',az (ic (P.length:Int) (b:Int) cmp n) N (P++(M++(R++Q)),((P.length+M.length:Nat):Int))=some (.inl (P++(M'++Q),(b:Int)))/\gP lt M'/\M'.Perm (M++R)
 | R,M,0,_,_,_,_,hN=>by omega
 | [],M,N+1,hb,hS,ha,hn,hN=>by
  simp only [aqu,Nat.add_zero] at hb
  subst hb
  rw [az]
  have hB:ic (P.length:Int) ((P.length+M.length:Nat):Int) cmp n (P++(M++([]++Q)),((P.length+M.length:Nat):Int))=some (.exit (P++(M++([]++Q)),((P.length+M.length:Nat):Int))):=by
   unfold ic
   dsimp only
   rw [ap3 (by omega),ap1]
  rw [hB]
  exact ⟨M,rfl,ha,by simp⟩
 | x::R,M,N+1,hb,hS,ha,hn,hN=>by
  have hn':=hn
  simp only [ap8,aqk] at hn' hb
  obtain ⟨M1,j,k1,k2,k3⟩:=Tf h hc hn2 P (R++Q) x (hS x (by simp)) M.length M [] fuel rfl (fun z hz=>hS z (by simp at hz ⊢;exact .inl hz)) (by simpa using ha) (.inl rfl) (by rw [<- hn];simp) (by unfold fuel;omega)
  have hl:M1.length=M.length+1:=by rw [k3.length_eq];simp
  have e1:P++((M++x::[])++(R++Q))=P++(M++(x::R++Q)):=by simp
  rw [e1] at k1
  rw [az]
  have hB:ic (P.length:Int) (b:Int) cmp n (P++(M++(x::R++Q)),((P.length+M.length:Nat):Int))=some (.next (P++(M1++(R++Q)),((P.length+M1.length:Nat):Int))):=by
   unfold ic
   dsimp only
   rw [ap4 (show ((P.length+M.length:Nat):Int)<(b:Int) by omega),ap2,k1,apZ]
   unfold mM
   dsimp only
   rw [wrapN (by omega),hl,Nat.add_assoc]
  rw [hB]
  obtain ⟨M',q1,q2,q3⟩:=Ty h hc hn2 P Q b R M1 N (by omega) (fun z hz=>by
   rcases aqr.1 hz with hz|hz
   ·have:=k3.mem_iff.1 hz;simp at this;rcases this with rfl|hz
    ·exact hS z (by simp)
    ·exact hS z (by simp [hz])
   ·exact hS z (by simp [hz])) k2 (by rw [<- hn];simp [hl];omega) (by simp at hN;omega)
  refine ⟨M',q1,q2,q3.trans ?_⟩
  refine (k3.append_right R).trans ?_
  simp only [aqy,List.cons_append]
  exact (List.perm_middle (a:=x) (l₁:=M) (l₂:=R)).symm
theorem Kt (h:He lt S) (hc:sO cmp lt S) {n:Nat} (hn2:n<=1000000000) {P M Q:List α} (hS : ∀ z∈M,S z) (hn:(P++(M++Q)).length=n) : ∃ M',wm n (P++(M++Q)) (P.length:Int) ((P.length+M.length:Nat):Int) cmp=some (P++(M'++Q))/\gP lt M'/\M'.Perm M:=by
 have hn':=hn
 simp only [ap8] at hn'
 unfold wm
 rw [show IntKind.i64.wrap ((P.length:Int)+1)=((P.length+1:Nat):Int) from wrapN (by omega)]
 match M,hS,hn,hn' with
 | [],hS,hn,hn' =>
  refine ⟨[],?_,List.Pairwise.nil, .refl _⟩
  have hf:fuel=(fuel-1)+1:=rfl
  rw [hf,az]
  have hB:ic (P.length:Int) ((P.length+([]:List α).length:Nat):Int) cmp n (P++([]++Q),((P.length+1:Nat):Int))=some (.exit (P++([]++Q),((P.length+1:Nat):Int))):=by
   unfold ic
   dsimp only
   rw [ap3 (by simp only [aqu];omega),ap1]
  rw [hB];rfl
 | x::M,hS,hn,hn' =>
  simp only [aqk] at hn'
  obtain ⟨M',q1,q2,q3⟩:=Ty h hc hn2 P Q (P.length+(x::M).length) M [x] fuel (by simp;omega) (by simpa using hS) (by simp [gP]) (by rw [<- hn];simp) (by unfold fuel;omega)
  refine ⟨M',?_,q2,by simpa using q3⟩
  have e:P++([x]++(M++Q))=P++(x::M++Q):=by simp
  rw [e,show P.length+[x].length=P.length+1 from rfl] at q1
  rw [q1];rfl
end
section
variable {α:Type} {lt:α->α->Bool} {S:α->Prop} {cmp:α->α->Option Int}
theorem HY {β:Type} {body:Int × Int->Option (Step (Int × Int) β)} (lo hi:Nat) (p:Nat->Bool) (hB : ∀ i j:Nat,lo<=i->i<j->j<=hi->body ((i:Int),(j:Int))=some (.next (bif p ((i+j)/2) then ((((i+j)/2+1:Nat):Int),(j:Int)) else ((i:Int),(((i+j)/2:Nat):Int))))) (hE : ∀ i:Nat,body ((i:Int),(i:Int))=some (.exit ((i:Int),(i:Int)))) :
  ∀ (N i j:Nat),lo<=i->i<=j->j<=hi->j-i<N->(i=lo\/p (i-1)=true)->(j=hi\/p j=false) -> ∃ s:Nat,az body N ((i:Int),(j:Int))=some (.inl ((s:Int),(s:Int)))/\lo<=s/\s<=hi/\(s=lo\/p (s-1)=true)/\(s=hi\/p s=false)
 | 0,i,j,_,_,_,h,_,_=>by omega
 | N+1,i,j,h1,h2,h3,hN,hi1,hj1=>by
  rw [az]
  by_cases he:i=j
  ·subst he
   rw [hE]
   exact ⟨i,rfl,h1,h3,hi1,hj1⟩
  ·rw [hB i j h1 (by omega) h3]
   cases hp:p ((i+j)/2) with
   | true =>
    rw [ap2]
    exact HY lo hi p hB hE N ((i+j)/2+1) j (by omega) (by omega) h3 (by omega) (.inr (by rw [Nat.add_sub_cancel];exact hp)) hj1
   | false =>
    rw [ap1]
    exact HY lo hi p hB hE N i ((i+j)/2) h1 (by omega) (by omega) (by omega) hi1 (.inr hp)
theorem agn {n:Nat} (hn2:n<=1000000000) (x:α) (Q:List α) (i:Nat) : ∀ (B P:List α) (N:Nat),P.length+B.length+1=i->(P++x::(B++Q)).length=n->B.length<N -> ∃ k,az (sI n (i:Int)) N (P++x::(B++Q),(P.length:Int))=some (.inl (P++(B++x::Q),k))
 | B,P,0,_,_,hN=>by omega
 | [],P,N+1,hi,hn,hN=>by
  simp only [aqu,Nat.add_zero] at hi
  have hn':=hn
  simp only [ap8,aqk] at hn'
  subst hi
  rw [az]
  have hb:sI n ((P.length+1:Nat):Int) (P++x::([]++Q),(P.length:Int))=some (.exit (P++x::([]++Q),(P.length:Int))):=by
   unfold sI
   dsimp only
   rw [wr1 _ (by omega) (by omega),ap3 (by omega),ap1]
  rw [hb]
  exact ⟨_,rfl⟩
 | y::B,P,N+1,hi,hn,hN=>by
  simp only [aqk] at hi hN
  have hn':=hn
  simp only [ap8,aqk] at hn'
  have g1:(P++x::(y::B++Q))[P.length]?=some x:=get_at _ _ _
  have g2:(P++x::(y::B++Q))[P.length+1]?=some y:=Lj P [] (B++Q) x y
  rw [az]
  have hb:sI n (i:Int) (P++x::(y::B++Q),(P.length:Int))=some (.next ((P++[y])++x::(B++Q),(((P++[y]).length:Nat):Int))):=by
   unfold sI
   dsimp only
   rw [wr1 _ (by omega) (by omega),wrapN (by omega)]
   have s2:=acx (f:=fun z:α=>z) P [] (B++Q) x y
   rw [List.map_id',List.map_id',aqu,Nat.add_zero] at s2
   have s3:((P++x::(y::B++Q)).set P.length y).set (P.length+1) x=P++y::x::(B++Q):=s2
   simp only [ap4 (show (P.length:Int)<((i-1:Nat):Int) by omega),Xc,TS (show P.length+1<n by omega),TS (show P.length<n by omega),ap2,gn_ g1,gn_ g2,apZ,acs,List.length_set,ap4 (show P.length+1<(P++x::(y::B++Q)).length by rw [hn];omega),ap4 (show P.length<(P++x::(y::B++Q)).length by rw [hn];omega),s3]
   simp
  rw [hb]
  obtain ⟨k,hk⟩:=agn hn2 x Q i B (P++[y]) N (by simp;omega) (by rw [<- hn];simp only [ap8,aqk,aqu];omega) (by omega)
  exact ⟨k,by show az _ N _=_;rw [hk];simp⟩
theorem aiP {n:Nat} (hn2:n<=1000000000) (x:α) (P:List α) : ∀ (l:Nat) (A Q:List α) (N:Nat),A.length=l->(P++(A++x::Q)).length=n->l<N -> ∃ k,az (rJ n (P.length:Int)) N (P++(A++x::Q),((P.length+l:Nat):Int))=some (.inl (P++x::(A++Q),k))
 | l,A,Q,0,_,_,hN=>by omega
 | 0,A,Q,N+1,hl,hn,hN=>by
  have:A=[]:=aqA.1 hl
  subst this
  rw [az]
  have hb:rJ n (P.length:Int) (P++([]++x::Q),((P.length+0:Nat):Int))=some (.exit (P++([]++x::Q),((P.length+0:Nat):Int))):=by
   unfold rJ
   dsimp only
   rw [ap3 (by omega),ap1]
  rw [hb]
  exact ⟨_,rfl⟩
 | l+1,A,Q,N+1,hl,hn,hN=>by
  obtain ⟨L,y,rfl⟩ : ∃ L y,A=L++[y]:=by
   rcases List.eq_nil_or_concat A with e|⟨L,y,e⟩
   ·subst e;simp at hl
   ·exact ⟨L,y,by simpa using e⟩
  have hL:L.length=l:=by simp at hl;exact hl
  have hn':=hn
  simp only [ap8,aqk,aqu] at hn'
  have e1:P++((L++[y])++x::Q)=(P++L)++y::([]++x::Q):=by simp
  have g1:(P++((L++[y])++x::Q))[P.length+l]?=some y:=by rw [e1, <- hL, <- ap8];exact get_at _ _ _
  have g2:(P++((L++[y])++x::Q))[P.length+(l+1)]?=some x:=by
   have:=Lj (P++L) [] Q y x
   rw [<- e1] at this
   rwa [show (P++L).length+1+([]:List α).length=P.length+(l+1) by simp;omega] at this
  rw [az]
  have hb:rJ n (P.length:Int) (P++((L++[y])++x::Q),((P.length+(l+1):Nat):Int))=some (.next (P++(L++x::(y::Q)),((P.length+l:Nat):Int))):=by
   unfold rJ
   dsimp only
   rw [wr1 _ (by omega) (by omega),show P.length+(l+1)-1=P.length+l by omega]
   have s2:=acx (f:=fun z:α=>z) (P++L) [] Q y x
   rw [List.map_id',List.map_id', <- e1,show (P++L).length=P.length+l by simp;omega,aqu,show P.length+l+1+0=P.length+(l+1) by omega,List.set_comm _ _ (by omega)] at s2
   simp only [ap4 (show (P.length:Int)<((P.length+(l+1):Nat):Int) by omega),Xc,TS (show P.length+(l+1)<n by omega),TS (show P.length+l<n by omega),ap2,gn_ g1,gn_ g2,apZ,acs,List.length_set,ap4 (show P.length+(l+1)<(P++((L++[y])++x::Q)).length by rw [hn];omega),ap4 (show P.length+l<(P++((L++[y])++x::Q)).length by rw [hn];omega),s2]
   simp
  rw [hb]
  obtain ⟨k,hk⟩:=aiP hn2 x P l L (y::Q) N hL (by rw [<- hn];simp) (by omega)
  exact ⟨k,by show az _ N _=_;rw [hk];simp⟩
theorem AU {l:List α} {s:Nat} (h:s<=l.length) : ∃ a b,l=a++b/\a.length=s:=⟨l.take s,l.drop s,(aqK _ _).symm,by rw [aqQ];omega⟩
theorem Me {A:List α} (h:0<A.length) : ∃ L y,A=L++[y]:=by
 rcases List.eq_nil_or_concat A with e|⟨L,y,e⟩
 ·subst e;simp at h
 ·exact ⟨L,y,by simpa using e⟩
theorem La {A:List α} (h:0<A.length) : ∃ y L,A=y::L:=match A,h with|y::L,_=>⟨y,L,rfl⟩
def p1F (lt:α->α->Bool) (D:List α) (x:α) (i:Nat):Bool:=match D[i]? with|some y=>lt y x|none=>false
def p3F (lt:α->α->Bool) (D:List α) (x:α) (i:Nat):Bool:=match D[i]? with|some y => !lt x y|none=>false
def p5F (lt:α->α->Bool) (D:List α) (p i:Nat):Bool:=match D[p-i]?,D[i]? with|some x,some y => !lt x y|_,_=>false
theorem ak9 (h:He lt S) (hc:sO cmp lt S) {n:Nat} (hn2:n<=1000000000) {P Q B:List α} {x:α} (sx:S x) (sB : ∀ z∈B,S z) (hB:gP lt B) (hn:(P++x::(B++Q)).length=n) :
  ∃ M,((az (wT (P++x::(B++Q)) (P.length:Int) cmp n) fuel (((P.length+1:Nat):Int),((P.length+1+B.length:Nat):Int))).bind (Ag (P++x::(B++Q)) (P.length:Int) n))=some (P++(M++Q))/\gP lt M/\M.Perm (x::B):=by
 have hn':=hn
 simp only [ap8,aqk] at hn'
 have gx:(P++x::(B++Q))[P.length]?=some x:=get_at _ _ _
 have gB : ∀ i y,B[i]?=some y->(P++x::(B++Q))[P.length+1+i]?=some y:=by
  intro i y hy
  have hi:=(ap0.1 hy).1
  rw [ap7 (by omega),show P.length+1+i-P.length=i+1 by omega,List.getElem?_cons_succ,aqc hi]
  exact hy
 obtain ⟨s,hs,s1,s2,s3,s4⟩:=HY (body:=wT (P++x::(B++Q)) (P.length:Int) cmp n) (P.length+1) (P.length+1+B.length) (p1F lt (P++x::(B++Q)) x) (by
  intro i j hi hij hj
  obtain ⟨y,hy⟩:=gol_ (l:=B) (i:=(i+j)/2-(P.length+1)) (by omega)
  have gy:=gB _ _ hy
  rw [show P.length+1+((i+j)/2-(P.length+1))=(i+j)/2 by omega] at gy
  obtain ⟨r,hr,hr2⟩:=hc y x (sB y (ap6 hy)) sx
  unfold wT
  dsimp only
  rw [Jh (by omega),wrapN (by omega)]
  simp only [TS hij,Xc,TS (show (i+j)/2<n by omega),TS (show P.length<n by omega),ap2,gn_ gy,gn_ gx,apZ,hr,hr2]
  unfold p1F
  rw [gy]
  dsimp only
  cases lt y x<;>rfl) (by
  intro i
  unfold wT
  dsimp only
  rw [ap3 (by omega),ap1]) fuel (P.length+1) (P.length+1+B.length) (aqe _) (by omega) (aqe _) (by unfold fuel;omega) (.inl rfl) (.inl rfl)
 rw [hs,apZ]
 obtain ⟨B1,B2,rfl,hB1⟩:=AU (l:=B) (s:=s-(P.length+1)) (by omega)
 unfold Ag
 dsimp only
 have e1:P++x::(B1++B2++Q)=P++x::(B1++(B2++Q)):=by simp
 rw [e1]
 obtain ⟨k,hk⟩:=agn hn2 x (B2++Q) s B1 P fuel (by omega) (by rw [<- e1];exact hn) (by simp at hn';unfold fuel;omega)
 rw [hk]
 refine ⟨B1++x::B2,by show some (P++(B1++x::(B2++Q)))=_;simp,Lf h sx sB hB ?_ ?_,List.perm_middle⟩
 ·by_cases h0:0<B1.length
  ·obtain ⟨L,y,rfl⟩:=Me h0
   refine .inr ⟨L,y,rfl,?_⟩
   have sy:=sB y (by simp)
   rcases s3 with e|e
   ·simp at hB1;omega
   ·have gy:=gB (s-1-(P.length+1)) y (by
     have:(L++[y]).length=s-(P.length+1):=hB1
     simp at this
     rw [aqp,ap7 (by omega),show s-1-(P.length+1)-L.length=0 by omega];rfl)
    rw [show P.length+1+(s-1-(P.length+1))=s-1 by simp at hB1;omega] at gy
    unfold p1F at e
    rw [gy] at e
    exact h.le_of sy sx e
  ·exact .inl (aqA.1 (by omega))
 ·by_cases h0:0<B2.length
  ·obtain ⟨z,L,rfl⟩:=La h0
   refine .inr ⟨z,L,rfl,?_⟩
   rcases s4 with e|e
   ·simp at e;omega
   ·have gz:=gB (s-(P.length+1)) z (by rw [<- hB1];exact get_at _ _ _)
    rw [show P.length+1+(s-(P.length+1))=s by omega] at gz
    unfold p1F at e
    rw [gz] at e
    exact e
  ·exact .inl (aqA.1 (by omega))
theorem ajX (h:He lt S) (hc:sO cmp lt S) {n:Nat} (hn2:n<=1000000000) {P Q A:List α} {x:α} (sx:S x) (sA : ∀ z∈A,S z) (hA:gP lt A) (hn:(P++(A++x::Q)).length=n) :
  ∃ M,((az (wz (P++(A++x::Q)) ((P.length+A.length:Nat):Int) cmp n) fuel ((P.length:Int),((P.length+A.length:Nat):Int))).bind (Am (P++(A++x::Q)) ((P.length+A.length:Nat):Int) n))=some (P++(M++Q))/\gP lt M/\M.Perm (A++[x]):=by
 have hn':=hn
 simp only [ap8,aqk] at hn'
 have gx:(P++(A++x::Q))[P.length+A.length]?=some x:=by rw [<- aqp, <- ap8];exact get_at _ _ _
 have gA : ∀ i y,A[i]?=some y->(P++(A++x::Q))[P.length+i]?=some y:=by
  intro i y hy
  have hi:=(ap0.1 hy).1
  rw [ap7 (by omega),show P.length+i-P.length=i by omega,aqc hi]
  exact hy
 obtain ⟨s,hs,s1,s2,s3,s4⟩:=HY (body:=wz (P++(A++x::Q)) ((P.length+A.length:Nat):Int) cmp n) P.length (P.length+A.length) (p3F lt (P++(A++x::Q)) x) (by
  intro i j hi hij hj
  obtain ⟨y,hy⟩:=gol_ (l:=A) (i:=(i+j)/2-P.length) (by omega)
  have gy:=gA _ _ hy
  rw [show P.length+((i+j)/2-P.length)=(i+j)/2 by omega] at gy
  obtain ⟨r,hr,hr2⟩:=hc x y sx (sA y (ap6 hy))
  unfold wz
  dsimp only
  rw [Jh (by omega),wrapN (by omega)]
  simp only [TS hij,Xc,TS (show (i+j)/2<n by omega),TS (show P.length+A.length<n by omega),ap2,gn_ gy,gn_ gx,apZ,hr,hr2]
  unfold p3F
  rw [gy]
  dsimp only
  cases lt x y<;>rfl) (by
  intro i
  unfold wz
  dsimp only
  rw [ap3 (by omega),ap1]) fuel P.length (P.length+A.length) (aqe _) (by omega) (aqe _) (by unfold fuel;omega) (.inl rfl) (.inl rfl)
 rw [hs,apZ]
 obtain ⟨A1,A2,rfl,hA1⟩:=AU (l:=A) (s:=s-P.length) (by omega)
 unfold Am
 dsimp only
 have e1:P++(A1++A2++x::Q)=(P++A1)++(A2++x::Q):=by simp
 have hlA:(P++A1).length=s:=by simp;omega
 rw [e1, <- hlA]
 have hl2:P.length+(A1++A2).length=(P++A1).length+A2.length:=by simp;omega
 rw [hl2]
 obtain ⟨k,hk⟩:=aiP hn2 x (P++A1) A2.length A2 Q fuel rfl (by rw [<- e1];exact hn) (by simp at hn';unfold fuel;omega)
 rw [hk]
 refine ⟨A1++x::A2,by show some ((P++A1)++x::(A2++Q))=_;simp,Lf h sx sA hA ?_ ?_,?_⟩
 ·by_cases h0:0<A1.length
  ·obtain ⟨L,y,rfl⟩:=Me h0
   refine .inr ⟨L,y,rfl,?_⟩
   rcases s3 with e|e
   ·simp at hA1;omega
   ·have gy:=gA (s-1-P.length) y (by
     have:(L++[y]).length=s-P.length:=hA1
     simp at this
     rw [aqp,ap7 (by omega),show s-1-P.length-L.length=0 by omega];rfl)
    rw [show P.length+(s-1-P.length)=s-1 by simp at hA1;omega] at gy
    unfold p3F at e
    rw [gy] at e
    simpa using e
  ·exact .inl (aqA.1 (by omega))
 ·by_cases h0:0<A2.length
  ·obtain ⟨z,L,rfl⟩:=La h0
   refine .inr ⟨z,L,rfl,?_⟩
   have sz:=sA z (by simp)
   rcases s4 with e|e
   ·simp at e hA1;omega
   ·have gz:=gA (s-P.length) z (by rw [<- hA1];exact get_at _ _ _)
    rw [show P.length+(s-P.length)=s by omega] at gz
    unfold p3F at e
    rw [gz] at e
    exact h.le_of sx sz (by simpa using e)
  ·exact .inl (aqA.1 (by omega))
 ·rw [aqp]
  refine List.Perm.append_left A1 ?_
  exact (List.perm_append_comm (l₁:=[x]) (l₂:=A2))
end
set_option maxHeartbeats 4000000
section
variable {α:Type} {lt:α->α->Bool} {S:α->Prop} {cmp:α->α->Option Int}
def UG (rec:Nat->List α->Int->Int->Int->(α->α->Option Int)->Option (List α)) (cmp:α->α->Option Int) (n:Nat) (D:List α) (a s m e mid b:Int):Option (List α) :=
 (bif decide (s<m)&&decide (m<e) then uq n D s m e cmp else some D).bind fun c1 =>
 (bif decide (a<s)&&decide (s<mid) then rec n c1 a s mid cmp else some c1).bind fun c2 =>
 (bif decide (mid<e)&&decide (e<b) then rec n c2 mid e b cmp else some c2).bind fun c3=>some c3
theorem aiz (rec:Nat->List α->Int->Int->Int->(α->α->Option Int)->Option (List α)) (n:Nat) (D:List α) (a m b s:Int):pJ D a m b cmp n rec (.inl (s,s))=UG rec cmp n D a s m (IntKind.i64.wrap ((IntKind.i64.wrap ((df (IntKind.i64.wrap (a+b)))+m))-s)) (df (IntKind.i64.wrap (a+b))) b:=by
 unfold pJ UG
 dsimp only
 generalize df (IntKind.i64.wrap (a+b))=mid
 generalize IntKind.i64.wrap (IntKind.i64.wrap (mid+m)-s)=e
 generalize decide (s<m)=d1
 generalize decide (m<e)=d2
 generalize decide (a<s)=d3
 generalize decide (s<mid)=d4
 generalize decide (mid<e)=d5
 generalize decide (e<b)=d6
 cases d1<;>cases d2<;>cases d3<;>cases d4<;>cases d5<;>cases d6<;>rfl
theorem anI (D:List α) (a m b:Int) (n:Nat):Gx D a m b cmp n=qa D a m b cmp n:=rfl
theorem am5 (rec:Nat->List α->Int->Int->Int->(α->α->Option Int)->Option (List α)) (D:List α) (a m b:Int) (n:Nat):BH D a m b cmp n rec=pJ D a m b cmp n rec:=by
 funext q
 cases q<;>rfl
theorem acR (h:He lt S) (hc:sO cmp lt S) {n:Nat} (hn2:n<=1000000000) {D:List α} (hD:D.length=n) (hS : ∀ z∈D,S z) {a m b lo hi:Nat} (hab:a<m/\m<b/\b<=n) (hlh:lo<=hi) (hlo:a<=lo) (hhi:hi<=m) (hlo2:(a+b)/2+m<=lo+b) (hhi2:hi+a<=(a+b)/2+m ) (hhi3:hi<=(a+b)/2) (hlo3:m<=(a+b)/2+m-hi) :
  ∃ s:Nat,az (qa D (a:Int) (m:Int) (b:Int) cmp n) fuel ((lo:Int),(hi:Int))=some (.inl ((s:Int),(s:Int)))/\lo<=s/\s<=hi/\(s=lo \/ ∃ x y,D[s-1]?=some x/\D[(a+b)/2+m-s]?=some y/\lt y x=false)/\(s=hi \/ ∃ x y,D[(a+b)/2+m-1-s]?=some x/\D[s]?=some y/\lt x y=true):=by
 obtain ⟨s,hs,s1,s2,s3,s4⟩:=HY (body:=qa D (a:Int) (m:Int) (b:Int) cmp n) lo hi (p5F lt D ((a+b)/2+m-1)) (by
  intro i j hi1 hij hj
  obtain ⟨x,hx⟩:=gol_ (l:=D) (i:=(a+b)/2+m-1-(i+j)/2) (by omega)
  obtain ⟨y,hy⟩:=gol_ (l:=D) (i:=(i+j)/2) (by omega)
  obtain ⟨r,hr,hr2⟩:=hc x y (hS x (ap6 hx)) (hS y (ap6 hy))
  unfold qa
  dsimp only
  rw [Jh (i:=i) (j:=j) (by omega),Jh (i:=a) (j:=b) (by omega),wrA ((a+b)/2) m (by omega),wr1 _ (by omega) (by omega),wrS ((a+b)/2+m-1) ((i+j)/2) (by omega) (by omega),wrapN (by omega)]
  simp only [TS hij,Xc,TS (show (i+j)/2<n by omega),TS (show (a+b)/2+m-1-(i+j)/2<n by omega),ap2,gn_ hx,gn_ hy,apZ,hr,hr2]
  unfold p5F
  rw [hx,hy]
  dsimp only
  cases lt x y<;>rfl) (by
  intro i
  unfold qa
  dsimp only
  rw [ap3 (by omega),ap1]) fuel lo hi (aqe _) hlh (aqe _) (by unfold fuel;omega) (.inl rfl) (.inl rfl)
 refine ⟨s,hs,s1,s2,?_,?_⟩
 ·rcases s3 with e|e
  ·exact .inl e
  ·by_cases hsl:s=lo
   ·exact .inl hsl
   ·refine .inr ?_
    obtain ⟨x,hx⟩:=gol_ (l:=D) (i:=s-1) (by omega)
    obtain ⟨y,hy⟩:=gol_ (l:=D) (i:=(a+b)/2+m-s) (by omega)
    unfold p5F at e
    rw [show (a+b)/2+m-1-(s-1)=(a+b)/2+m-s by omega,hy,hx] at e
    exact ⟨x,y,hx,hy,by simpa using e⟩
 ·by_cases hsh:s=hi
  ·exact .inl hsh
  ·rcases s4 with e|e
   ·exact .inl e
   ·refine .inr ?_
    obtain ⟨x,hx⟩:=gol_ (l:=D) (i:=(a+b)/2+m-1-s) (by omega)
    obtain ⟨y,hy⟩:=gol_ (l:=D) (i:=s) (by omega)
    unfold p5F at e
    rw [hx,hy] at e
    exact ⟨x,y,hx,hy,by simpa using e⟩
theorem LH (h:He lt S) (hc:sO cmp lt S) {n:Nat} (hn2:n<=1000000000) : ∀ (q:Nat) (P A B Q:List α),A.length+B.length<=q->0<A.length->0<B.length->(∀ z∈P++(A++(B++Q)),S z)->gP lt A->gP lt B->(P++(A++(B++Q))).length=n ->
  ∃ M,Mq q n (P++(A++(B++Q))) (P.length:Int) ((P.length+A.length:Nat):Int) ((P.length+A.length+B.length:Nat):Int) cmp=some (P++(M++Q))/\gP lt M/\M.Perm (A++B)
 | 0,P,A,B,Q,hq,hA,hB,_,_,_,_=>by omega
 | q+1,P,A,B,Q,hq,hA,hB,hS,aA,aB,hn=>by
  have hn':=hn
  simp only [ap8] at hn'
  have sA : ∀ z∈A,S z:=fun z hz=>hS z (by simp [hz])
  have sB : ∀ z∈B,S z:=fun z hz=>hS z (by simp [hz])
  show ∃ M,zX (Mq q) n (P++(A++(B++Q))) (P.length:Int) ((P.length+A.length:Nat):Int) ((P.length+A.length+B.length:Nat):Int) cmp=some (P++(M++Q))/\_
  unfold zX
  rw [wrS (P.length+A.length) P.length (by omega) (by omega),wrS (P.length+A.length+B.length) (P.length+A.length) (by omega) (by omega),show P.length+A.length-P.length=A.length by omega,show P.length+A.length+B.length-(P.length+A.length)=B.length by omega]
  by_cases c1:A.length=1
  ·obtain ⟨x,rfl⟩ : ∃ x,A=[x]:=match A,c1 with|[x],_=>⟨x,rfl⟩
   rw [ap4 (show (([x]:List α).length:Int)=1 from rfl),ap2]
   obtain ⟨M,k1,k2,k3⟩:=ak9 h hc hn2 (P:=P) (Q:=Q) (sA x (by simp)) sB aB hn
   exact ⟨M,k1,k2,k3⟩
  ·rw [ap3 (show ¬ (A.length:Int)=1 by omega),ap1]
   by_cases c2:B.length=1
   ·obtain ⟨x,rfl⟩ : ∃ x,B=[x]:=match B,c2 with|[x],_=>⟨x,rfl⟩
    rw [ap4 (show (([x]:List α).length:Int)=1 from rfl),ap2]
    obtain ⟨M,k1,k2,k3⟩:=ajX h hc hn2 (P:=P) (Q:=Q) (sB x (by simp)) sA aA hn
    exact ⟨M,k1,k2,k3⟩
   ·rw [ap3 (show ¬ (B.length:Int)=1 by omega),ap1,Jh (by omega)]
    have hD:(P++(A++(B++Q))).length=n:=hn
    have gA : ∀ i y,A[i]?=some y->(P++(A++(B++Q)))[P.length+i]?=some y:=by
     intro i y hy
     have hi:=(ap0.1 hy).1
     rw [ap7 (by omega),show P.length+i-P.length=i by omega,aqc hi]
     exact hy
    have gB : ∀ i y,B[i]?=some y->(P++(A++(B++Q)))[P.length+A.length+i]?=some y:=by
     intro i y hy
     have hi:=(ap0.1 hy).1
     rw [ap7 (by omega),ap7 (by omega),show P.length+A.length+i-P.length-A.length=i by omega,aqc hi]
     exact hy
    generalize hmid:(P.length+(P.length+A.length+B.length))/2=mid

    have key : ∃ s:Nat,((bif decide (((mid:Nat):Int)<((P.length+A.length:Nat):Int)) then (az (qa (P++(A++(B++Q))) (P.length:Int) ((P.length+A.length:Nat):Int) ((P.length+A.length+B.length:Nat):Int) cmp n) fuel ((IntKind.i64.wrap ((IntKind.i64.wrap (((mid:Nat):Int)+((P.length+A.length:Nat):Int)))-((P.length+A.length+B.length:Nat):Int))),((mid:Nat):Int))).bind (pJ (P++(A++(B++Q))) (P.length:Int) ((P.length+A.length:Nat):Int) ((P.length+A.length+B.length:Nat):Int) cmp n (Mq q)) else
      (az (Gx (P++(A++(B++Q))) (P.length:Int) ((P.length+A.length:Nat):Int) ((P.length+A.length+B.length:Nat):Int) cmp n) fuel ((P.length:Int),((P.length+A.length:Nat):Int))).bind (BH (P++(A++(B++Q))) (P.length:Int) ((P.length+A.length:Nat):Int) ((P.length+A.length+B.length:Nat):Int) cmp n (Mq q))))=pJ (P++(A++(B++Q))) (P.length:Int) ((P.length+A.length:Nat):Int) ((P.length+A.length+B.length:Nat):Int) cmp n (Mq q) (.inl ((s:Int),(s:Int))) /\
      P.length<=s/\s<=P.length+A.length/\P.length+A.length<=mid+(P.length+A.length)-s/\mid+(P.length+A.length)-s<=P.length+A.length+B.length/\s<=mid+(P.length+A.length) /\
      (s=P.length\/mid+(P.length+A.length)-s=P.length+A.length+B.length \/ ∃ x y,(P++(A++(B++Q)))[s-1]?=some x/\(P++(A++(B++Q)))[mid+(P.length+A.length)-s]?=some y/\lt y x=false) /\
      (mid+(P.length+A.length)-s=P.length+A.length\/s=P.length+A.length \/ ∃ x y,(P++(A++(B++Q)))[mid+(P.length+A.length)-1-s]?=some x/\(P++(A++(B++Q)))[s]?=some y/\lt x y=true):=by
     by_cases hm:mid<P.length+A.length
     ·rw [ap4 (show ((mid:Nat):Int)<((P.length+A.length:Nat):Int) by omega),ap2,wrA mid (P.length+A.length) (by omega),wrS (mid+(P.length+A.length)) (P.length+A.length+B.length) (by omega) (by omega)]
      obtain ⟨s,hs,s1,s2,s3,s4⟩:=acR h hc hn2 hD hS (a:=P.length) (m:=P.length+A.length) (b:=P.length+A.length+B.length) (lo:=mid+(P.length+A.length)-(P.length+A.length+B.length)) (hi:=mid) (by omega) (by omega) (by omega) (by omega) (by omega) (by omega) (by omega) (by omega)
      rw [hs,apZ]
      rw [hmid] at s3 s4
      refine ⟨s,rfl,by omega,by omega,by omega,by omega,by omega,?_,?_⟩
      ·rcases s3 with e|e
       ·exact .inr (.inl (by omega))
       ·exact .inr (.inr e)
      ·rcases s4 with e|e
       ·exact .inl (by omega)
       ·exact .inr (.inr e)
     ·rw [ap3 (show ¬ ((mid:Nat):Int)<((P.length+A.length:Nat):Int) by omega),ap1,anI,am5]
      obtain ⟨s,hs,s1,s2,s3,s4⟩:=acR h hc hn2 hD hS (a:=P.length) (m:=P.length+A.length) (b:=P.length+A.length+B.length) (lo:=P.length) (hi:=P.length+A.length) (by omega) (by omega) (by omega) (by omega) (by omega) (by omega) (by omega) (by omega)
      rw [hs,apZ]
      rw [hmid] at s3 s4
      refine ⟨s,rfl,by omega,by omega,by omega,by omega,by omega,?_,?_⟩
      ·rcases s3 with e|e
       ·exact .inl e
       ·exact .inr (.inr e)
      ·rcases s4 with e|e
       ·exact .inr (.inl e)
       ·exact .inr (.inr e)
    obtain ⟨s,hk,s1,s2,s3,s4,s4b,s5,s6⟩:=key
    rw [hk,aiz,Jh (by omega),hmid,wrA mid (P.length+A.length) (by omega),wrS (mid+(P.length+A.length)) s s4b (by omega)]
    obtain ⟨A1,A2,rfl,hA1⟩:=AU (l:=A) (s:=s-P.length) (by omega)
    obtain ⟨B1,B2,rfl,hB1⟩:=AU (l:=B) (s:=mid+(P.length+(A1++A2).length)-s-(P.length+(A1++A2).length)) (by omega)
    simp only [ap8] at hk s1 s2 s3 s4 s4b s5 s6 hA hB hq c1 c2 hmid hB1 hn' ⊢
    have eS:s=P.length+A1.length:=by omega
    have eE:mid+(P.length+(A1.length+A2.length))-s=P.length+(A1.length+A2.length)+B1.length:=by omega
    have eM:mid=P.length+A1.length+B1.length:=by omega

    have h1:A1=[]\/B2=[] \/ ∃ A' x y B',A1=A'++[x]/\B2=y::B'/\lt y x=false:=by
     by_cases z1:0<A1.length
     ·by_cases z2:0<B2.length
      ·obtain ⟨A',x,rfl⟩:=Me z1
       obtain ⟨y,B',rfl⟩:=La z2
       refine .inr (.inr ⟨A',x,y,B',rfl,rfl,?_⟩)
       simp only [ap8,aqk,aqu] at *
       rcases s5 with e|e|⟨x',y',e1,e2,e3⟩
       ·omega
       ·omega
       ·have g1:=gA A'.length x (by simp)
        have g2:=gB B1.length y (by simp)
        rw [show P.length+A'.length=s-1 by omega,e1] at g1
        try simp only [ap8,aqk,aqu] at g2
        rw [show P.length+(A'.length+(0+1)+A2.length)+B1.length=mid+(P.length+(A'.length+(0+1)+A2.length))-s by omega,e2] at g2
        rw [<- aqw g1, <- aqw g2];exact e3
      ·exact .inr (.inl (aqA.1 (by omega)))
     ·exact .inl (aqA.1 (by omega))
    have h2:B1=[]\/A2=[] \/ ∃ A' x y B',B1=A'++[x]/\A2=y::B'/\lt y x=false:=by
     by_cases z1:0<B1.length
     ·by_cases z2:0<A2.length
      ·obtain ⟨B',x,rfl⟩:=Me z1
       obtain ⟨y,A',rfl⟩:=La z2
       refine .inr (.inr ⟨B',x,y,A',rfl,rfl,?_⟩)
       have sx:=sB x (by simp)
       have sy:=sA y (by simp)
       simp only [ap8,aqk,aqu] at *
       rcases s6 with e|e|⟨x',y',e1,e2,e3⟩
       ·omega
       ·omega
       ·have g1:=gB B'.length x (by simp)
        have g2:=gA A1.length y (by simp)
        try simp only [ap8,aqk,aqu] at g1
        rw [show P.length+(A1.length+(A'.length+1))+B'.length=mid+(P.length+(A1.length+(A'.length+1)))-1-s by omega,e1] at g1
        rw [<- eS,e2] at g2
        rw [aqw g1,aqw g2] at e3
        exact h.le_of sx sy e3
      ·exact .inr (.inl (aqA.1 (by omega)))
     ·exact .inl (aqA.1 (by omega))
    have pA:=List.pairwise_append.1 aA
    have pB:=List.pairwise_append.1 aB

    unfold UG
    rw [eE,eS,eM]
    have r1:(bif decide (((P.length+A1.length:Nat):Int)<((P.length+(A1.length+A2.length):Nat):Int))&&decide (((P.length+(A1.length+A2.length):Nat):Int)<((P.length+(A1.length+A2.length)+B1.length:Nat):Int)) then uq n (P++(A1++A2++(B1++B2++Q))) ((P.length+A1.length:Nat):Int) ((P.length+(A1.length+A2.length):Nat):Int) ((P.length+(A1.length+A2.length)+B1.length:Nat):Int) cmp else some (P++(A1++A2++(B1++B2++Q))))=some (P++(A1++(B1++(A2++(B2++Q))))):=by
     have e0:P++(A1++A2++(B1++B2++Q))=(P++A1)++(A2++(B1++(B2++Q))):=by simp
     by_cases z1:0<A2.length
     ·by_cases z2:0<B1.length
      ·rw [ap4 (by omega),ap4 (by omega),Bool.and_self,ap2]
       have hr:=ZY hn2 (P:=P++A1) (A:=A2) (B:=B1) (Q:=B2++Q) cmp z1 z2 (by rw [<- e0];exact hn)
       rw [e0]
       simp only [ap8] at hr
       rw [show P.length+(A1.length+A2.length)=P.length+A1.length+A2.length by omega,hr]
       simp
      ·have:B1=[]:=aqA.1 (by omega)
       subst this
       rw [show decide (((P.length+(A1.length+A2.length):Nat):Int)<((P.length+(A1.length+A2.length)+([]:List α).length:Nat):Int))=false from ap3 (by simp),Bool.and_false,ap1]
       simp
     ·have:A2=[]:=aqA.1 (by omega)
      subst this
      rw [show decide (((P.length+A1.length:Nat):Int)<((P.length+(A1.length+([]:List α).length):Nat):Int))=false from ap3 (by simp),Bool.false_and,ap1]
      simp
    rw [r1,apZ]
    have r2 : ∃ M1,(bif decide ((P.length:Int)<((P.length+A1.length:Nat):Int))&&decide (((P.length+A1.length:Nat):Int)<((P.length+A1.length+B1.length:Nat):Int)) then Mq q n (P++(A1++(B1++(A2++(B2++Q))))) (P.length:Int) ((P.length+A1.length:Nat):Int) ((P.length+A1.length+B1.length:Nat):Int) cmp else some (P++(A1++(B1++(A2++(B2++Q))))))=some (P++(M1++(A2++(B2++Q))))/\gP lt M1/\M1.Perm (A1++B1):=by
     by_cases z1:0<A1.length
     ·by_cases z2:0<B1.length
      ·rw [ap4 (by omega),ap4 (by omega),Bool.and_self,ap2]
       exact LH h hc hn2 q P A1 B1 (A2++(B2++Q)) (by omega) z1 z2 (fun z hz=>hS z (by simp only [aqr] at hz ⊢;rcases hz with hz|hz|hz|hz|hz|hz<;>simp [hz])) pA.1 pB.1 (by rw [<- hn];simp only [ap8];omega)
      ·have:B1=[]:=aqA.1 (by omega)
       subst this
       rw [show decide (((P.length+A1.length:Nat):Int)<((P.length+A1.length+([]:List α).length:Nat):Int))=false from ap3 (by simp),Bool.and_false,ap1]
       exact ⟨A1,by simp,pA.1,by simp⟩
     ·have:A1=[]:=aqA.1 (by omega)
      subst this
      rw [show decide ((P.length:Int)<((P.length+([]:List α).length:Nat):Int))=false from ap3 (by simp),Bool.false_and,ap1]
      exact ⟨B1,by simp,pB.1,by simp⟩
    obtain ⟨M1,r2,m1,p1⟩:=r2
    rw [r2,apZ]
    have hM1:M1.length=A1.length+B1.length:=by rw [p1.length_eq,ap8]
    have r3 : ∃ M2,(bif decide (((P.length+A1.length+B1.length:Nat):Int)<((P.length+(A1.length+A2.length)+B1.length:Nat):Int))&&decide (((P.length+(A1.length+A2.length)+B1.length:Nat):Int)<((P.length+(A1.length+A2.length)+(B1.length+B2.length):Nat):Int)) then Mq q n (P++(M1++(A2++(B2++Q)))) ((P.length+A1.length+B1.length:Nat):Int) ((P.length+(A1.length+A2.length)+B1.length:Nat):Int) ((P.length+(A1.length+A2.length)+(B1.length+B2.length):Nat):Int) cmp else some (P++(M1++(A2++(B2++Q)))))=some (P++(M1++(M2++Q)))/\gP lt M2/\M2.Perm (A2++B2):=by
     by_cases z1:0<A2.length
     ·by_cases z2:0<B2.length
      ·rw [ap4 (by omega),ap4 (by omega),Bool.and_self,ap2]
       obtain ⟨M2,k1,k2,k3⟩:=LH h hc hn2 q (P++M1) A2 B2 Q (by omega) z1 z2 (fun z hz=>by
        simp only [aqr] at hz
        rcases hz with (hz|hz)|hz|hz|hz
        ·exact hS z (by simp [hz])
        ·have:=p1.mem_iff.1 hz
         simp only [aqr] at this
         rcases this with hz|hz<;>exact hS z (by simp [hz])
        ·exact hS z (by simp [hz])
        ·exact hS z (by simp [hz])
        ·exact hS z (by simp [hz])) pA.2.1 pB.2.1 (by rw [<- hn];simp only [ap8];omega)
       refine ⟨M2,?_,k2,k3⟩
       simp only [ap8,hM1] at k1
       rw [show P.length+A1.length+B1.length=P.length+(A1.length+B1.length) by omega,show P.length+(A1.length+A2.length)+B1.length=P.length+(A1.length+B1.length)+A2.length by omega,show P.length+(A1.length+A2.length)+(B1.length+B2.length)=P.length+(A1.length+B1.length)+A2.length+B2.length by omega]
       have e0:P++(M1++(A2++(B2++Q)))=(P++M1)++(A2++(B2++Q)):=by simp
       rw [e0,k1]
       simp
      ·have:B2=[]:=aqA.1 (by omega)
       subst this
       rw [show decide (((P.length+(A1.length+A2.length)+B1.length:Nat):Int)<((P.length+(A1.length+A2.length)+(B1.length+([]:List α).length):Nat):Int))=false from ap3 (by simp),Bool.and_false,ap1]
       exact ⟨A2,by simp,pA.2.1,by simp⟩
     ·have:A2=[]:=aqA.1 (by omega)
      subst this
      rw [show decide (((P.length+A1.length+B1.length:Nat):Int)<((P.length+(A1.length+([]:List α).length)+B1.length:Nat):Int))=false from ap3 (by simp),Bool.false_and,ap1]
      exact ⟨B2,by simp,pB.2.1,by simp⟩
    obtain ⟨M2,r3,m2,p2⟩:=r3
    rw [r3]
    refine ⟨M1++M2,by simp,aa0 h (fun z hz=>?_) aA aB h1 h2 m1 m2 p1 p2,Wm p1 p2⟩
    simp only [aqr] at hz
    rcases hz with (hz|hz)|hz|hz<;>exact hS z (by simp [hz])
end
end Go.Proofs.YtlcceppoloaecaaGreatDoor
