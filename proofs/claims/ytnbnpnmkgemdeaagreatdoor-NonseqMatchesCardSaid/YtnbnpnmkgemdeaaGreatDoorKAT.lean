/- Parts of the proof, joined. No condition. -/
import Derived.Test.YtnbnpnmkgemdeaaGreatDoorKAA
import Derived.Test.YtnbnpnmkgemdeaaGreatDoorKAS
set_option linter.unusedSimpArgs false
set_option linter.unusedVariables false
namespace Go.Proofs.YtnbnpnmkgemdeaaGreatDoor
open Go.RowKit Go.MapKept
set_option maxRecDepth 100000
set_option maxHeartbeats 8000000
theorem K9 {rec:Nat->List (List Val)->Int->Int->Int->((List Val)->(List Val)->Option Int)->Option (List (List Val))} {n:Nat}  (hrec : ∀ {n:Nat} {X:List (List Val)} {a m b:Int} {cmp:(List Val)->(List Val)->Option Int} {v:Nat} {F_a_cmp:FuncId} {caps_a_cmp:List AC} (hf_a_cmp : ∀ (y0:(List Val)) (y1:(List Val)) (r:Int),cmp y0 y1=some r->Pure Tryz.prog F_a_cmp ([.one (.lst (y0.map cV)), .one (.lst (y1.map cV))]++caps_a_cmp.map .one) (.val (.one (.int .i64 r)))) {r:List (List Val)}, rec n X a m b cmp=some r->Run Tryz.prog 202 [bX (fun x=>[AC.lst (x.map cV)]) 1 v X] [.one (.sl 0 v 0 n), .one (.c (.int .i64 a)), .one (.c (.int .i64 m)), .one (.c (.int .i64 b)), .one (.c (.fn F_a_cmp caps_a_cmp))] [bX (fun x=>[AC.lst (x.map cV)]) 1 v r] (.tup [])) {a_data:(List (List Val))} {a_a:Int} {a_m:Int} {a_b:Int} {a_cmp:(List Val)->(List Val)->Option (Int)} {v:Nat} {r:List (List Val)} {F_a_cmp:FuncId} {caps_a_cmp:List AC} (hf_a_cmp : ∀ (y0:(List Val)) (y1:(List Val)) (r:Int),a_cmp y0 y1=some r->Pure Tryz.prog F_a_cmp ([.one (.lst (y0.map cV)), .one (.lst (y1.map cV))]++caps_a_cmp.map .one) (.val (.one (.int .i64 r)))) (hq0:(decide ((IntKind.i64.wrap (a_m-a_a))=(1:Int)))=true) (H:rH rec n a_data a_a a_m a_b a_cmp=some r):Run Tryz.prog 202 [bX (fun x=>[AC.lst (x.map cV)]) 1 v a_data] [.one (.sl 0 v 0 n), .one (.c (.int .i64 a_a)), .one (.c (.int .i64 a_m)), .one (.c (.int .i64 a_b)), .one (.c (.fn F_a_cmp caps_a_cmp))] [bX (fun x=>[AC.lst (x.map cV)]) 1 v r] (.tup []):=by
 unfold rH at H
 refine bI af Tryz.func202 rfl rfl Tryz.ntmps202 (by simp) ?_
 simp only [jG]
 rcases aa H with ⟨q_1,H⟩|⟨q_1,H⟩
 ·refine vC ?_
  refine alM_ (fun s:Int × Int=>match s with|(i_2,j_3)=>[(0, .one (.sl 0 v 0 n)),(1, .one (.c (.int .i64 a_a))),(4, .one (.c (.fn F_a_cmp caps_a_cmp))),(10, .one (.c (.int .i64 i_2))),(11, .one (.c (.int .i64 j_3)))]) (fun s=>match s with|(i_2,j_3)=>[bX (fun x=>[AC.lst (x.map cV)]) 1 v a_data]) H (fun _=>Ze _)
   (fm_ bL [] rfl bq ⟨aK _ _ _ _ _,trivial⟩) ?_
  rintro ⟨i_2,j_3⟩ st1 hb1 hk1
  unfold oU at hb1
  dsimp only at hb1 ⊢
  rcases aa hb1 with ⟨q_4,hb1⟩|⟨q_4,hb1⟩
  ·obtain ⟨g1,hb1⟩:=az hb1
   obtain ⟨g2,hb1⟩:=az hb1
   obtain ⟨x_5,i3,hb1⟩:=lu hb1
   obtain ⟨g4,hb1⟩:=az hb1
   obtain ⟨g5,hb1⟩:=az hb1
   obtain ⟨x_6,i6,hb1⟩:=lu hb1
   obtain ⟨r_7,c7,hb1⟩:=bd_ hb1
   replace c7:=hf_a_cmp _ _ _ c7
   rcases aa hb1 with ⟨q_8,hb1⟩|⟨q_8,hb1⟩
   ·cases hb1
    refine vC ?_
    exact ⟨_,rfl,fm_ bL [] rfl bq ⟨aK _ _ _ _ _,trivial⟩⟩
   cases hb1
   refine vC ?_
   exact ⟨_,rfl,fm_ bL [] rfl bq ⟨aK _ _ _ _ _,trivial⟩⟩
  cases hb1
  have hx1:sS a_data a_a n (.inl (i_2,j_3))=some _:=hk1
  unfold sS at hx1
  dsimp only at hx1
  refine vC ?_
  refine alM_ (fun s:(List (List Val)) × Int=>match s with|(c_9,k_10)=>[(0, .one (.sl 0 v 0 n)),(10, .one (.c (.int .i64 i_2))),(13, .one (.c (.int .i64 k_10)))]) (fun s=>match s with|(c_9,k_10)=>[bX (fun x=>[AC.lst (x.map cV)]) 1 v c_9]) hx1 (fun _=>Ze _)
   (fm_ bL [] rfl bq ⟨aK _ _ _ _ _,trivial⟩) ?_
  rintro ⟨c_9,k_10⟩ st2 hb2 hk2
  unfold mJ at hb2
  dsimp only at hb2 ⊢
  rcases aa hb2 with ⟨q_11,hb2⟩|⟨q_11,hb2⟩
  ·obtain ⟨g8,hb2⟩:=az hb2
   obtain ⟨g9,hb2⟩:=az hb2
   obtain ⟨x_12,i10,hb2⟩:=lu hb2
   obtain ⟨g11,hb2⟩:=az hb2
   obtain ⟨g12,hb2⟩:=az hb2
   obtain ⟨x_13,i13,hb2⟩:=lu hb2
   obtain ⟨g14,hb2⟩:=az hb2
   obtain ⟨g15,hb2⟩:=az hb2
   obtain ⟨g16,hb2⟩:=az hb2
   obtain ⟨g17,hb2⟩:=az hb2
   obtain ⟨g18,hb2⟩:=az hb2
   obtain ⟨g19,hb2⟩:=az hb2
   cases hb2
   refine vC ?_
   exact ⟨_,rfl,fm_ bL [] rfl bq ⟨aK _ _ _ _ _,trivial⟩⟩
  cases hb2
  have hx2:Cb (.inl (c_9,k_10))=some _:=hk2
  unfold Cb at hx2
  dsimp only at hx2
  cases hx2
  exact jh
 exact nomatch hq0.symm.trans q_1
theorem LJ {rec:Nat->List (List Val)->Int->Int->Int->((List Val)->(List Val)->Option Int)->Option (List (List Val))} {n:Nat}  (hrec : ∀ {n:Nat} {X:List (List Val)} {a m b:Int} {cmp:(List Val)->(List Val)->Option Int} {v:Nat} {F_a_cmp:FuncId} {caps_a_cmp:List AC} (hf_a_cmp : ∀ (y0:(List Val)) (y1:(List Val)) (r:Int),cmp y0 y1=some r->Pure Tryz.prog F_a_cmp ([.one (.lst (y0.map cV)), .one (.lst (y1.map cV))]++caps_a_cmp.map .one) (.val (.one (.int .i64 r)))) {r:List (List Val)}, rec n X a m b cmp=some r->Run Tryz.prog 202 [bX (fun x=>[AC.lst (x.map cV)]) 1 v X] [.one (.sl 0 v 0 n), .one (.c (.int .i64 a)), .one (.c (.int .i64 m)), .one (.c (.int .i64 b)), .one (.c (.fn F_a_cmp caps_a_cmp))] [bX (fun x=>[AC.lst (x.map cV)]) 1 v r] (.tup [])) {a_data:(List (List Val))} {a_a:Int} {a_m:Int} {a_b:Int} {a_cmp:(List Val)->(List Val)->Option (Int)} {v:Nat} {r:List (List Val)} {F_a_cmp:FuncId} {caps_a_cmp:List AC} (hf_a_cmp : ∀ (y0:(List Val)) (y1:(List Val)) (r:Int),a_cmp y0 y1=some r->Pure Tryz.prog F_a_cmp ([.one (.lst (y0.map cV)), .one (.lst (y1.map cV))]++caps_a_cmp.map .one) (.val (.one (.int .i64 r)))) (hq0:(decide ((IntKind.i64.wrap (a_m-a_a))=(1:Int)))=false) (hq1:(decide ((IntKind.i64.wrap (a_b-a_m))=(1:Int)))=true) (H:rH rec n a_data a_a a_m a_b a_cmp=some r):Run Tryz.prog 202 [bX (fun x=>[AC.lst (x.map cV)]) 1 v a_data] [.one (.sl 0 v 0 n), .one (.c (.int .i64 a_a)), .one (.c (.int .i64 a_m)), .one (.c (.int .i64 a_b)), .one (.c (.fn F_a_cmp caps_a_cmp))] [bX (fun x=>[AC.lst (x.map cV)]) 1 v r] (.tup []):=by
 unfold rH at H
 refine bI af Tryz.func202 rfl rfl Tryz.ntmps202 (by simp) ?_
 simp only [jG]
 rcases aa H with ⟨q_1,H⟩|⟨q_1,H⟩
 ·exact nomatch hq0.symm.trans q_1
 rcases aa H with ⟨q_14,H⟩|⟨q_14,H⟩
 ·refine vC ?_
  refine alM_ (fun s:Int × Int=>match s with|(i_15,j_16)=>[(0, .one (.sl 0 v 0 n)),(2, .one (.c (.int .i64 a_m))),(4, .one (.c (.fn F_a_cmp caps_a_cmp))),(14, .one (.c (.int .i64 i_15))),(15, .one (.c (.int .i64 j_16)))]) (fun s=>match s with|(i_15,j_16)=>[bX (fun x=>[AC.lst (x.map cV)]) 1 v a_data]) H (fun _=>Ze _)
   (fm_ bL [] rfl bq ⟨aK _ _ _ _ _,trivial⟩) ?_
  rintro ⟨i_15,j_16⟩ st3 hb3 hk3
  unfold pz at hb3
  dsimp only at hb3 ⊢
  rcases aa hb3 with ⟨q_17,hb3⟩|⟨q_17,hb3⟩
  ·obtain ⟨g20,hb3⟩:=az hb3
   obtain ⟨g21,hb3⟩:=az hb3
   obtain ⟨x_18,i22,hb3⟩:=lu hb3
   obtain ⟨g23,hb3⟩:=az hb3
   obtain ⟨g24,hb3⟩:=az hb3
   obtain ⟨x_19,i25,hb3⟩:=lu hb3
   obtain ⟨r_20,c26,hb3⟩:=bd_ hb3
   replace c26:=hf_a_cmp _ _ _ c26
   rcases aa hb3 with ⟨q_21,hb3⟩|⟨q_21,hb3⟩
   ·cases hb3
    refine vC ?_
    exact ⟨_,rfl,fm_ bL [] rfl bq ⟨aK _ _ _ _ _,trivial⟩⟩
   cases hb3
   refine vC ?_
   exact ⟨_,rfl,fm_ bL [] rfl bq ⟨aK _ _ _ _ _,trivial⟩⟩
  cases hb3
  have hx3:sI a_data a_m n (.inl (i_15,j_16))=some _:=hk3
  unfold sI at hx3
  dsimp only at hx3
  refine vC ?_
  refine alM_ (fun s:(List (List Val)) × Int=>match s with|(c_22,k_23)=>[(0, .one (.sl 0 v 0 n)),(14, .one (.c (.int .i64 i_15))),(17, .one (.c (.int .i64 k_23)))]) (fun s=>match s with|(c_22,k_23)=>[bX (fun x=>[AC.lst (x.map cV)]) 1 v c_22]) hx3 (fun _=>Ze _)
   (fm_ bL [] rfl bq ⟨aK _ _ _ _ _,trivial⟩) ?_
  rintro ⟨c_22,k_23⟩ st4 hb4 hk4
  unfold mG at hb4
  dsimp only at hb4 ⊢
  rcases aa hb4 with ⟨q_24,hb4⟩|⟨q_24,hb4⟩
  ·obtain ⟨g27,hb4⟩:=az hb4
   obtain ⟨g28,hb4⟩:=az hb4
   obtain ⟨x_25,i29,hb4⟩:=lu hb4
   obtain ⟨g30,hb4⟩:=az hb4
   obtain ⟨g31,hb4⟩:=az hb4
   obtain ⟨x_26,i32,hb4⟩:=lu hb4
   obtain ⟨g33,hb4⟩:=az hb4
   obtain ⟨g34,hb4⟩:=az hb4
   obtain ⟨g35,hb4⟩:=az hb4
   obtain ⟨g36,hb4⟩:=az hb4
   obtain ⟨g37,hb4⟩:=az hb4
   obtain ⟨g38,hb4⟩:=az hb4
   cases hb4
   refine vC ?_
   exact ⟨_,rfl,fm_ bL [] rfl bq ⟨aK _ _ _ _ _,trivial⟩⟩
  cases hb4
  have hx4:BH (.inl (c_22,k_23))=some _:=hk4
  unfold BH at hx4
  dsimp only at hx4
  cases hx4
  exact jh
 exact nomatch hq1.symm.trans q_14
end Go.Proofs.YtnbnpnmkgemdeaaGreatDoor
