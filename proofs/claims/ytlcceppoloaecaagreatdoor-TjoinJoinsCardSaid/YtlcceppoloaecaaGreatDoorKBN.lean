/- Parts of the proof, joined. No condition. -/
import Derived.Test.YtlcceppoloaecaaGreatDoorKAA
import Derived.Test.YtlcceppoloaecaaGreatDoorKBI
set_option linter.unusedSimpArgs false
set_option linter.unusedVariables false
namespace Go.Proofs.YtlcceppoloaecaaGreatDoor
open Go.RowKit Go.MapKept
set_option maxRecDepth 100000
set_option maxHeartbeats 8000000
theorem aa3 {rec:Nat->List aa->Int->Int->Int->(aa->aa->Option Int)->Option (List aa)} {n:Nat}  (hrec : ∀ {n:Nat} {X:List aa} {a m b:Int} {cmp:aa->aa->Option Int} {v:Nat} {F_a_cmp:FuncId} {caps_a_cmp:List AC} (hf_a_cmp : ∀ (y0:aa) (y1:aa) (r:Int),cmp y0 y1=some r->Pure Tryz.prog F_a_cmp ([.agg (ah y0), .agg (ah y1)]++caps_a_cmp.map .one) (.val (.one (.int .i64 r)))) {r:List aa}, rec n X a m b cmp=some r->Run Tryz.prog 277 [dV ah 2 v X] [.one (.sl 0 v 0 n), .one (.c (.int .i64 a)), .one (.c (.int .i64 m)), .one (.c (.int .i64 b)), .one (.c (.fn F_a_cmp caps_a_cmp))] [dV ah 2 v r] (.tup [])) {a_data:(List aa)} {a_a:Int} {a_m:Int} {a_b:Int} {a_cmp:aa->aa->Option (Int)} {v:Nat} {r:List aa} {F_a_cmp:FuncId} {caps_a_cmp:List AC} (hf_a_cmp : ∀ (y0:aa) (y1:aa) (r:Int),a_cmp y0 y1=some r->Pure Tryz.prog F_a_cmp ([.agg (ah y0), .agg (ah y1)]++caps_a_cmp.map .one) (.val (.one (.int .i64 r)))) (hq0:(decide ((IntKind.i64.wrap (a_m-a_a))=(1:Int)))=false) (hq1:(decide ((IntKind.i64.wrap (a_b-a_m))=(1:Int)))=false) (hq2:(decide ((df (IntKind.i64.wrap (a_a+a_b)))<a_m))=true) (H:zX rec n a_data a_a a_m a_b a_cmp=some r):Run Tryz.prog 277 [dV ah 2 v a_data] [.one (.sl 0 v 0 n), .one (.c (.int .i64 a_a)), .one (.c (.int .i64 a_m)), .one (.c (.int .i64 a_b)), .one (.c (.fn F_a_cmp caps_a_cmp))] [dV ah 2 v r] (.tup []):=by
 unfold zX at H
 refine bP aj Tryz.func277 rfl rfl Tryz.ntmps277 (by simp) ?_
 simp only [iH]
 rcases af H with ⟨q_1,H⟩|⟨q_1,H⟩
 ·exact nomatch hq0.symm.trans q_1
 rcases af H with ⟨q_14,H⟩|⟨q_14,H⟩
 ·exact nomatch hq1.symm.trans q_14
 rcases af H with ⟨q_27,H⟩|⟨q_27,H⟩
 ·refine DF ?_
  refine alM_ (fun s:Int × Int=>match s with|(start_28,r_29)=>[(0, .one (.sl 0 v 0 n)),(1, .one (.c (.int .i64 a_a))),(2, .one (.c (.int .i64 a_m))),(3, .one (.c (.int .i64 a_b))),(4, .one (.c (.fn F_a_cmp caps_a_cmp))),(18, .one (.c (.int .i64 (df (IntKind.i64.wrap (a_a+a_b)))))),(19, .one (.c (.int .i64 (IntKind.i64.wrap ((df (IntKind.i64.wrap (a_a+a_b)))+a_m))))),(20, .one (.c (.int .i64 start_28))),(21, .one (.c (.int .i64 r_29))),(22, .one (.c (.int .i64 (IntKind.i64.wrap ((IntKind.i64.wrap ((df (IntKind.i64.wrap (a_a+a_b)))+a_m))-(1:Int))))))]) (fun s=>match s with|(start_28,r_29)=>[dV ah 2 v a_data]) H (fun _=>aqe _)
   (fm_ bY [] rfl bA ⟨bq _ _ _ _ _,trivial⟩) ?_
  rintro ⟨start_28,r_29⟩ st5 hb5 hk5
  unfold qa at hb5
  dsimp only at hb5 ⊢
  rcases af hb5 with ⟨q_30,hb5⟩|⟨q_30,hb5⟩
  ·obtain ⟨g39,hb5⟩:=aS hb5
   obtain ⟨g40,hb5⟩:=aS hb5
   obtain ⟨x_31,i41,hb5⟩:=qA hb5
   obtain ⟨g42,hb5⟩:=aS hb5
   obtain ⟨g43,hb5⟩:=aS hb5
   obtain ⟨x_32,i44,hb5⟩:=qA hb5
   obtain ⟨r_33,c45,hb5⟩:=bd_ hb5
   replace c45:=hf_a_cmp _ _ _ c45
   rcases af hb5 with ⟨q_34,hb5⟩|⟨q_34,hb5⟩
   ·cases hb5
    refine DF ?_
    exact ⟨_,rfl,fm_ bY [] rfl bA ⟨bq _ _ _ _ _,trivial⟩⟩
   cases hb5
   refine DF ?_
   exact ⟨_,rfl,fm_ bY [] rfl bA ⟨bq _ _ _ _ _,trivial⟩⟩
  cases hb5
  have hx5:pJ a_data a_a a_m a_b a_cmp n rec (.inl (start_28,r_29))=some _:=hk5
  unfold pJ at hx5
  dsimp only at hx5
  rcases af hx5 with ⟨q_35,hx5⟩|⟨q_35,hx5⟩
  ·rcases af hx5 with ⟨q_36,hx5⟩|⟨q_36,hx5⟩
   ·obtain ⟨c_37,c46,hx5⟩:=bd_ hx5
    replace c46:=Ki (v:=v) (caps_a_cmp:=caps_a_cmp) hf_a_cmp c46
    rcases af hx5 with ⟨q_38,hx5⟩|⟨q_38,hx5⟩
    ·rcases af hx5 with ⟨q_39,hx5⟩|⟨q_39,hx5⟩
     ·obtain ⟨c_40,c47,hx5⟩:=bd_ hx5
      replace c47:=hrec (v:=v) (caps_a_cmp:=caps_a_cmp) hf_a_cmp c47
      rcases af hx5 with ⟨q_41,hx5⟩|⟨q_41,hx5⟩
      ·rcases af hx5 with ⟨q_42,hx5⟩|⟨q_42,hx5⟩
       ·obtain ⟨c_43,c48,hx5⟩:=bd_ hx5
        replace c48:=hrec (v:=v) (caps_a_cmp:=caps_a_cmp) hf_a_cmp c48
        cases hx5
        exact mY
       cases hx5
       exact mY
      cases hx5
      exact mY
     rcases af hx5 with ⟨q_44,hx5⟩|⟨q_44,hx5⟩
     ·rcases af hx5 with ⟨q_45,hx5⟩|⟨q_45,hx5⟩
      ·obtain ⟨c_46,c49,hx5⟩:=bd_ hx5
       replace c49:=hrec (v:=v) (caps_a_cmp:=caps_a_cmp) hf_a_cmp c49
       cases hx5
       exact mY
      cases hx5
      exact mY
     cases hx5
     exact mY
    rcases af hx5 with ⟨q_47,hx5⟩|⟨q_47,hx5⟩
    ·rcases af hx5 with ⟨q_48,hx5⟩|⟨q_48,hx5⟩
     ·obtain ⟨c_49,c50,hx5⟩:=bd_ hx5
      replace c50:=hrec (v:=v) (caps_a_cmp:=caps_a_cmp) hf_a_cmp c50
      cases hx5
      exact mY
     cases hx5
     exact mY
    cases hx5
    exact mY
   rcases af hx5 with ⟨q_50,hx5⟩|⟨q_50,hx5⟩
   ·rcases af hx5 with ⟨q_51,hx5⟩|⟨q_51,hx5⟩
    ·obtain ⟨c_52,c51,hx5⟩:=bd_ hx5
     replace c51:=hrec (v:=v) (caps_a_cmp:=caps_a_cmp) hf_a_cmp c51
     rcases af hx5 with ⟨q_53,hx5⟩|⟨q_53,hx5⟩
     ·rcases af hx5 with ⟨q_54,hx5⟩|⟨q_54,hx5⟩
      ·obtain ⟨c_55,c52,hx5⟩:=bd_ hx5
       replace c52:=hrec (v:=v) (caps_a_cmp:=caps_a_cmp) hf_a_cmp c52
       cases hx5
       exact mY
      cases hx5
      exact mY
     cases hx5
     exact mY
    rcases af hx5 with ⟨q_56,hx5⟩|⟨q_56,hx5⟩
    ·rcases af hx5 with ⟨q_57,hx5⟩|⟨q_57,hx5⟩
     ·obtain ⟨c_58,c53,hx5⟩:=bd_ hx5
      replace c53:=hrec (v:=v) (caps_a_cmp:=caps_a_cmp) hf_a_cmp c53
      cases hx5
      exact mY
     cases hx5
     exact mY
    cases hx5
    exact mY
   rcases af hx5 with ⟨q_59,hx5⟩|⟨q_59,hx5⟩
   ·rcases af hx5 with ⟨q_60,hx5⟩|⟨q_60,hx5⟩
    ·obtain ⟨c_61,c54,hx5⟩:=bd_ hx5
     replace c54:=hrec (v:=v) (caps_a_cmp:=caps_a_cmp) hf_a_cmp c54
     cases hx5
     exact mY
    cases hx5
    exact mY
   cases hx5
   exact mY
  rcases af hx5 with ⟨q_62,hx5⟩|⟨q_62,hx5⟩
  ·rcases af hx5 with ⟨q_63,hx5⟩|⟨q_63,hx5⟩
   ·obtain ⟨c_64,c55,hx5⟩:=bd_ hx5
    replace c55:=hrec (v:=v) (caps_a_cmp:=caps_a_cmp) hf_a_cmp c55
    rcases af hx5 with ⟨q_65,hx5⟩|⟨q_65,hx5⟩
    ·rcases af hx5 with ⟨q_66,hx5⟩|⟨q_66,hx5⟩
     ·obtain ⟨c_67,c56,hx5⟩:=bd_ hx5
      replace c56:=hrec (v:=v) (caps_a_cmp:=caps_a_cmp) hf_a_cmp c56
      cases hx5
      exact mY
     cases hx5
     exact mY
    cases hx5
    exact mY
   rcases af hx5 with ⟨q_68,hx5⟩|⟨q_68,hx5⟩
   ·rcases af hx5 with ⟨q_69,hx5⟩|⟨q_69,hx5⟩
    ·obtain ⟨c_70,c57,hx5⟩:=bd_ hx5
     replace c57:=hrec (v:=v) (caps_a_cmp:=caps_a_cmp) hf_a_cmp c57
     cases hx5
     exact mY
    cases hx5
    exact mY
   cases hx5
   exact mY
  rcases af hx5 with ⟨q_71,hx5⟩|⟨q_71,hx5⟩
  ·rcases af hx5 with ⟨q_72,hx5⟩|⟨q_72,hx5⟩
   ·obtain ⟨c_73,c58,hx5⟩:=bd_ hx5
    replace c58:=hrec (v:=v) (caps_a_cmp:=caps_a_cmp) hf_a_cmp c58
    cases hx5
    exact mY
   cases hx5
   exact mY
  cases hx5
  exact mY
 exact nomatch hq2.symm.trans q_27
end Go.Proofs.YtlcceppoloaecaaGreatDoor
