/- Parts of the proof, joined. No condition. -/
import Derived.Test.YtnbnpnmkgemdeaaGreatDoorKAA
import Derived.Test.YtnbnpnmkgemdeaaGreatDoorKAR
import Derived.Test.YtnbnpnmkgemdeaaGreatDoorKAQ
set_option linter.unusedSimpArgs false
set_option linter.unusedVariables false
namespace Go.Proofs.YtnbnpnmkgemdeaaGreatDoor
open Go.RowKit Go.MapKept
set_option maxRecDepth 100000
set_option maxHeartbeats 8000000
theorem mX {n:Nat}  {a_data:(List (List Val))} {a_a:Int} {a_b:Int} {a_n:Int} {a_cmp:(List Val)->(List Val)->Option (Int)} {v:Nat} {r:List (List Val)} {F_a_cmp:FuncId} {caps_a_cmp:List AC} (hf_a_cmp : ∀ (y0:(List Val)) (y1:(List Val)) (r:Int),a_cmp y0 y1=some r->Pure Tryz.prog F_a_cmp ([.one (.lst (y0.map cV)), .one (.lst (y1.map cV))]++caps_a_cmp.map .one) (.val (.one (.int .i64 r)))) (H:iO n a_data a_a a_b a_n a_cmp=some r):Run Tryz.prog 281 [bX (fun x=>[AC.lst (x.map cV)]) 1 v a_data] [.one (.sl 0 v 0 n), .one (.c (.int .i64 a_a)), .one (.c (.int .i64 a_b)), .one (.c (.int .i64 a_n)), .one (.c (.fn F_a_cmp caps_a_cmp))] [bX (fun x=>[AC.lst (x.map cV)]) 1 v r] (.tup []):=by
 unfold iO at H
 refine bI af Tryz.func281 rfl rfl Tryz.ntmps281 (by simp) ?_
 simp only [jG]
 refine vC ?_
 refine alM_ (fun s:(List (List Val)) × Int=>match s with|(c_1,i_2)=>[(0, .one (.sl 0 v 0 n)),(1, .one (.c (.int .i64 a_a))),(2, .one (.c (.int .i64 a_b))),(3, .one (.c (.int .i64 a_n))),(10, .one (.c (.int .i64 i_2)))]) (fun s=>match s with|(c_1,i_2)=>[bX (fun x=>[AC.lst (x.map cV)]) 1 v c_1]) H (fun _=>Ze _)
  (fm_ bL [] rfl bq ⟨aK _ _ _ _ _,trivial⟩) ?_
 rintro ⟨c_1,i_2⟩ st1 hb1 hk1
 unfold d_ at hb1
 dsimp only at hb1 ⊢
 rcases aa hb1 with ⟨q_3,hb1⟩|⟨q_3,hb1⟩
 ·obtain ⟨g1,hb1⟩:=az hb1
  obtain ⟨g2,hb1⟩:=az hb1
  obtain ⟨x_4,i3,hb1⟩:=lu hb1
  obtain ⟨g4,hb1⟩:=az hb1
  obtain ⟨g5,hb1⟩:=az hb1
  obtain ⟨x_5,i6,hb1⟩:=lu hb1
  obtain ⟨g7,hb1⟩:=az hb1
  obtain ⟨g8,hb1⟩:=az hb1
  obtain ⟨g9,hb1⟩:=az hb1
  obtain ⟨g10,hb1⟩:=az hb1
  obtain ⟨g11,hb1⟩:=az hb1
  obtain ⟨g12,hb1⟩:=az hb1
  cases hb1
  refine vC ?_
  exact ⟨_,rfl,fm_ bL [] rfl bq ⟨aK _ _ _ _ _,trivial⟩⟩
 cases hb1
 have hx1:oF (.inl (c_1,i_2))=some _:=hk1
 unfold oF at hx1
 dsimp only at hx1
 cases hx1
 exact jh
theorem Al {n:Nat}  {a_data:(List (List Val))} {a_a:Int} {a_m:Int} {a_b:Int} {a_cmp:(List Val)->(List Val)->Option (Int)} {v:Nat} {r:List (List Val)} {F_a_cmp:FuncId} {caps_a_cmp:List AC} (hf_a_cmp : ∀ (y0:(List Val)) (y1:(List Val)) (r:Int),a_cmp y0 y1=some r->Pure Tryz.prog F_a_cmp ([.one (.lst (y0.map cV)), .one (.lst (y1.map cV))]++caps_a_cmp.map .one) (.val (.one (.int .i64 r)))) (H:nY n a_data a_a a_m a_b a_cmp=some r):Run Tryz.prog 245 [bX (fun x=>[AC.lst (x.map cV)]) 1 v a_data] [.one (.sl 0 v 0 n), .one (.c (.int .i64 a_a)), .one (.c (.int .i64 a_m)), .one (.c (.int .i64 a_b)), .one (.c (.fn F_a_cmp caps_a_cmp))] [bX (fun x=>[AC.lst (x.map cV)]) 1 v r] (.tup []):=by
 unfold nY at H
 refine bI af Tryz.func245 rfl rfl Tryz.ntmps245 (by simp) ?_
 simp only [jG]
 refine vC ?_
 refine alM_ (fun s:(List (List Val)) × Int × Int=>match s with|(c_1,i_2,j_3)=>[(0, .one (.sl 0 v 0 n)),(2, .one (.c (.int .i64 a_m))),(4, .one (.c (.fn F_a_cmp caps_a_cmp))),(10, .one (.c (.int .i64 i_2))),(11, .one (.c (.int .i64 j_3)))]) (fun s=>match s with|(c_1,i_2,j_3)=>[bX (fun x=>[AC.lst (x.map cV)]) 1 v c_1]) H (fun _=>Ze _)
  (fm_ bL [] rfl bq ⟨aK _ _ _ _ _,trivial⟩) ?_
 rintro ⟨c_1,i_2,j_3⟩ st1 hb1 hk1
 unfold fF at hb1
 dsimp only at hb1 ⊢
 rcases aa hb1 with ⟨q_4,hb1⟩|⟨q_4,hb1⟩
 ·rcases aa hb1 with ⟨q_5,hb1⟩|⟨q_5,hb1⟩
  ·obtain ⟨c_6,c1,hb1⟩:=bd_ hb1
   replace c1:=mX (v:=v) (caps_a_cmp:=caps_a_cmp) hf_a_cmp c1
   cases hb1
   refine vC ?_
   exact ⟨_,rfl,fm_ bL [] rfl bq ⟨aK _ _ _ _ _,trivial⟩⟩
  obtain ⟨c_7,c2,hb1⟩:=bd_ hb1
  replace c2:=mX (v:=v) (caps_a_cmp:=caps_a_cmp) hf_a_cmp c2
  cases hb1
  refine vC ?_
  exact ⟨_,rfl,fm_ bL [] rfl bq ⟨aK _ _ _ _ _,trivial⟩⟩
 cases hb1
 have hx1:qE a_m a_cmp n (.inl (c_1,i_2,j_3))=some _:=hk1
 unfold qE at hx1
 dsimp only at hx1
 obtain ⟨c_8,c3,hx1⟩:=bd_ hx1
 replace c3:=mX (v:=v) (caps_a_cmp:=caps_a_cmp) hf_a_cmp c3
 cases hx1
 exact jh
theorem yC {n:Nat}  {a_data:(List (List Val))} {a_a:Int} {a_b:Int} {a_cmp:(List Val)->(List Val)->Option (Int)} {v:Nat} {r:List (List Val)} {F_a_cmp:FuncId} {caps_a_cmp:List AC} (hf_a_cmp : ∀ (y0:(List Val)) (y1:(List Val)) (r:Int),a_cmp y0 y1=some r->Pure Tryz.prog F_a_cmp ([.one (.lst (y0.map cV)), .one (.lst (y1.map cV))]++caps_a_cmp.map .one) (.val (.one (.int .i64 r)))) (H:pJ n a_data a_a a_b a_cmp=some r):Run Tryz.prog 201 [bX (fun x=>[AC.lst (x.map cV)]) 1 v a_data] [.one (.sl 0 v 0 n), .one (.c (.int .i64 a_a)), .one (.c (.int .i64 a_b)), .one (.c (.fn F_a_cmp caps_a_cmp))] [bX (fun x=>[AC.lst (x.map cV)]) 1 v r] (.tup []):=by
 unfold pJ at H
 refine bI af Tryz.func201 rfl rfl Tryz.ntmps201 (by simp) ?_
 simp only [jG]
 refine vC ?_
 refine alM_ (fun s:(List (List Val)) × Int=>match s with|(c_1,i_2)=>[(0, .one (.sl 0 v 0 n)),(1, .one (.c (.int .i64 a_a))),(2, .one (.c (.int .i64 a_b))),(3, .one (.c (.fn F_a_cmp caps_a_cmp))),(8, .one (.c (.int .i64 i_2)))]) (fun s=>match s with|(c_1,i_2)=>[bX (fun x=>[AC.lst (x.map cV)]) 1 v c_1]) H (fun _=>Ze _)
  (fm_ bL [] rfl bq ⟨aK _ _ _ _ _,trivial⟩) ?_
 rintro ⟨c_1,i_2⟩ st3 hb3 hk3
 unfold dU at hb3
 dsimp only at hb3 ⊢
 rcases aa hb3 with ⟨q_3,hb3⟩|⟨q_3,hb3⟩
 ·refine vC ?_
  refine alM_ (fun s:(List (List Val)) × Int=>match s with|(c_4,j_5)=>[(0, .one (.sl 0 v 0 n)),(1, .one (.c (.int .i64 a_a))),(2, .one (.c (.int .i64 a_b))),(3, .one (.c (.fn F_a_cmp caps_a_cmp))),(8, .one (.c (.int .i64 i_2))),(9, .one (.c (.int .i64 j_5)))]) (fun s=>match s with|(c_4,j_5)=>[bX (fun x=>[AC.lst (x.map cV)]) 1 v c_4]) hb3 (fun _=>Ze _)
   (fm_ bL [] rfl bq ⟨aK _ _ _ _ _,trivial⟩) ?_
  rintro ⟨c_4,j_5⟩ st4 hb4 hk4
  unfold dQ at hb4
  dsimp only at hb4 ⊢
  rcases aa hb4 with ⟨q_6,hb4⟩|⟨q_6,hb4⟩
  ·obtain ⟨g1,hb4⟩:=az hb4
   obtain ⟨g2,hb4⟩:=az hb4
   obtain ⟨x_7,i3,hb4⟩:=lu hb4
   obtain ⟨g4,hb4⟩:=az hb4
   obtain ⟨g5,hb4⟩:=az hb4
   obtain ⟨x_8,i6,hb4⟩:=lu hb4
   obtain ⟨r_9,c7,hb4⟩:=bd_ hb4
   replace c7:=hf_a_cmp _ _ _ c7
   rcases aa hb4 with ⟨q_10,hb4⟩|⟨q_10,hb4⟩
   ·obtain ⟨g8,hb4⟩:=az hb4
    obtain ⟨g9,hb4⟩:=az hb4
    obtain ⟨g10,hb4⟩:=az hb4
    obtain ⟨g11,hb4⟩:=az hb4
    obtain ⟨g12,hb4⟩:=az hb4
    obtain ⟨g13,hb4⟩:=az hb4
    obtain ⟨g14,hb4⟩:=az hb4
    obtain ⟨g15,hb4⟩:=az hb4
    obtain ⟨g16,hb4⟩:=az hb4
    obtain ⟨g17,hb4⟩:=az hb4
    cases hb4
    refine vC ?_
    exact ⟨_,rfl,fm_ bL [] rfl bq ⟨aK _ _ _ _ _,trivial⟩⟩
   cases hb4
   have hx4:jf i_2 (.inl (c_4,j_5))=some _:=hk4
   unfold jf at hx4
   dsimp only at hx4
   cases hx4
   refine vC ?_
   exact ⟨_,rfl,fm_ bL [] rfl bq ⟨aK _ _ _ _ _,trivial⟩⟩
  cases hb4
  have hx4:jf i_2 (.inl (c_4,j_5))=some _:=hk4
  unfold jf at hx4
  dsimp only at hx4
  cases hx4
  refine vC ?_
  exact ⟨_,rfl,fm_ bL [] rfl bq ⟨aK _ _ _ _ _,trivial⟩⟩
 cases hb3
 have hx3:rW (.inl (c_1,i_2))=some _:=hk3
 unfold rW at hx3
 dsimp only at hx3
 cases hx3
 exact jh
end Go.Proofs.YtnbnpnmkgemdeaaGreatDoor
