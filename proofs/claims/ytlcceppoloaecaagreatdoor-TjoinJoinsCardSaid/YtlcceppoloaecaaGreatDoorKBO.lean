/- Parts of the proof, joined. No condition. -/
import Derived.Test.YtlcceppoloaecaaGreatDoorKAA
import Derived.Test.YtlcceppoloaecaaGreatDoorKBI
set_option linter.unusedSimpArgs false
set_option linter.unusedVariables false
namespace Go.Proofs.YtlcceppoloaecaaGreatDoor
open Go.RowKit Go.MapKept
set_option maxRecDepth 100000
set_option maxHeartbeats 8000000
theorem Zz {rec:Nat->List aa->Int->Int->Int->(aa->aa->Option Int)->Option (List aa)} {n:Nat}  (hrec : ∀ {n:Nat} {X:List aa} {a m b:Int} {cmp:aa->aa->Option Int} {v:Nat} {F_a_cmp:FuncId} {caps_a_cmp:List AC} (hf_a_cmp : ∀ (y0:aa) (y1:aa) (r:Int),cmp y0 y1=some r->Pure Tryz.prog F_a_cmp ([.agg (ah y0), .agg (ah y1)]++caps_a_cmp.map .one) (.val (.one (.int .i64 r)))) {r:List aa}, rec n X a m b cmp=some r->Run Tryz.prog 277 [dV ah 2 v X] [.one (.sl 0 v 0 n), .one (.c (.int .i64 a)), .one (.c (.int .i64 m)), .one (.c (.int .i64 b)), .one (.c (.fn F_a_cmp caps_a_cmp))] [dV ah 2 v r] (.tup [])) {a_data:(List aa)} {a_a:Int} {a_m:Int} {a_b:Int} {a_cmp:aa->aa->Option (Int)} {v:Nat} {r:List aa} {F_a_cmp:FuncId} {caps_a_cmp:List AC} (hf_a_cmp : ∀ (y0:aa) (y1:aa) (r:Int),a_cmp y0 y1=some r->Pure Tryz.prog F_a_cmp ([.agg (ah y0), .agg (ah y1)]++caps_a_cmp.map .one) (.val (.one (.int .i64 r)))) (hq0:(decide ((IntKind.i64.wrap (a_m-a_a))=(1:Int)))=false) (hq1:(decide ((IntKind.i64.wrap (a_b-a_m))=(1:Int)))=false) (hq2:(decide ((df (IntKind.i64.wrap (a_a+a_b)))<a_m))=false) (H:zX rec n a_data a_a a_m a_b a_cmp=some r):Run Tryz.prog 277 [dV ah 2 v a_data] [.one (.sl 0 v 0 n), .one (.c (.int .i64 a_a)), .one (.c (.int .i64 a_m)), .one (.c (.int .i64 a_b)), .one (.c (.fn F_a_cmp caps_a_cmp))] [dV ah 2 v r] (.tup []):=by
 unfold zX at H
 refine bP aj Tryz.func277 rfl rfl Tryz.ntmps277 (by simp) ?_
 simp only [iH]
 rcases af H with ⟨q_1,H⟩|⟨q_1,H⟩
 ·exact nomatch hq0.symm.trans q_1
 rcases af H with ⟨q_14,H⟩|⟨q_14,H⟩
 ·exact nomatch hq1.symm.trans q_14
 rcases af H with ⟨q_27,H⟩|⟨q_27,H⟩
 ·exact nomatch hq2.symm.trans q_27
 refine DF ?_
 refine alM_ (fun s:Int × Int=>match s with|(start_74,r_75)=>[(0, .one (.sl 0 v 0 n)),(1, .one (.c (.int .i64 a_a))),(2, .one (.c (.int .i64 a_m))),(3, .one (.c (.int .i64 a_b))),(4, .one (.c (.fn F_a_cmp caps_a_cmp))),(18, .one (.c (.int .i64 (df (IntKind.i64.wrap (a_a+a_b)))))),(19, .one (.c (.int .i64 (IntKind.i64.wrap ((df (IntKind.i64.wrap (a_a+a_b)))+a_m))))),(20, .one (.c (.int .i64 start_74))),(21, .one (.c (.int .i64 r_75))),(22, .one (.c (.int .i64 (IntKind.i64.wrap ((IntKind.i64.wrap ((df (IntKind.i64.wrap (a_a+a_b)))+a_m))-(1:Int))))))]) (fun s=>match s with|(start_74,r_75)=>[dV ah 2 v a_data]) H (fun _=>aqe _)
  (fm_ bY [] rfl bA ⟨bq _ _ _ _ _,trivial⟩) ?_
 rintro ⟨start_74,r_75⟩ st6 hb6 hk6
 unfold Gx at hb6
 dsimp only at hb6 ⊢
 rcases af hb6 with ⟨q_76,hb6⟩|⟨q_76,hb6⟩
 ·obtain ⟨g59,hb6⟩:=aS hb6
  obtain ⟨g60,hb6⟩:=aS hb6
  obtain ⟨x_77,i61,hb6⟩:=qA hb6
  obtain ⟨g62,hb6⟩:=aS hb6
  obtain ⟨g63,hb6⟩:=aS hb6
  obtain ⟨x_78,i64,hb6⟩:=qA hb6
  obtain ⟨r_79,c65,hb6⟩:=bd_ hb6
  replace c65:=hf_a_cmp _ _ _ c65
  rcases af hb6 with ⟨q_80,hb6⟩|⟨q_80,hb6⟩
  ·cases hb6
   refine DF ?_
   exact ⟨_,rfl,fm_ bY [] rfl bA ⟨bq _ _ _ _ _,trivial⟩⟩
  cases hb6
  refine DF ?_
  exact ⟨_,rfl,fm_ bY [] rfl bA ⟨bq _ _ _ _ _,trivial⟩⟩
 cases hb6
 have hx6:BH a_data a_a a_m a_b a_cmp n rec (.inl (start_74,r_75))=some _:=hk6
 unfold BH at hx6
 dsimp only at hx6
 rcases af hx6 with ⟨q_81,hx6⟩|⟨q_81,hx6⟩
 ·rcases af hx6 with ⟨q_82,hx6⟩|⟨q_82,hx6⟩
  ·obtain ⟨c_83,c66,hx6⟩:=bd_ hx6
   replace c66:=Ki (v:=v) (caps_a_cmp:=caps_a_cmp) hf_a_cmp c66
   rcases af hx6 with ⟨q_84,hx6⟩|⟨q_84,hx6⟩
   ·rcases af hx6 with ⟨q_85,hx6⟩|⟨q_85,hx6⟩
    ·obtain ⟨c_86,c67,hx6⟩:=bd_ hx6
     replace c67:=hrec (v:=v) (caps_a_cmp:=caps_a_cmp) hf_a_cmp c67
     rcases af hx6 with ⟨q_87,hx6⟩|⟨q_87,hx6⟩
     ·rcases af hx6 with ⟨q_88,hx6⟩|⟨q_88,hx6⟩
      ·obtain ⟨c_89,c68,hx6⟩:=bd_ hx6
       replace c68:=hrec (v:=v) (caps_a_cmp:=caps_a_cmp) hf_a_cmp c68
       cases hx6
       exact mY
      cases hx6
      exact mY
     cases hx6
     exact mY
    rcases af hx6 with ⟨q_90,hx6⟩|⟨q_90,hx6⟩
    ·rcases af hx6 with ⟨q_91,hx6⟩|⟨q_91,hx6⟩
     ·obtain ⟨c_92,c69,hx6⟩:=bd_ hx6
      replace c69:=hrec (v:=v) (caps_a_cmp:=caps_a_cmp) hf_a_cmp c69
      cases hx6
      exact mY
     cases hx6
     exact mY
    cases hx6
    exact mY
   rcases af hx6 with ⟨q_93,hx6⟩|⟨q_93,hx6⟩
   ·rcases af hx6 with ⟨q_94,hx6⟩|⟨q_94,hx6⟩
    ·obtain ⟨c_95,c70,hx6⟩:=bd_ hx6
     replace c70:=hrec (v:=v) (caps_a_cmp:=caps_a_cmp) hf_a_cmp c70
     cases hx6
     exact mY
    cases hx6
    exact mY
   cases hx6
   exact mY
  rcases af hx6 with ⟨q_96,hx6⟩|⟨q_96,hx6⟩
  ·rcases af hx6 with ⟨q_97,hx6⟩|⟨q_97,hx6⟩
   ·obtain ⟨c_98,c71,hx6⟩:=bd_ hx6
    replace c71:=hrec (v:=v) (caps_a_cmp:=caps_a_cmp) hf_a_cmp c71
    rcases af hx6 with ⟨q_99,hx6⟩|⟨q_99,hx6⟩
    ·rcases af hx6 with ⟨q_100,hx6⟩|⟨q_100,hx6⟩
     ·obtain ⟨c_101,c72,hx6⟩:=bd_ hx6
      replace c72:=hrec (v:=v) (caps_a_cmp:=caps_a_cmp) hf_a_cmp c72
      cases hx6
      exact mY
     cases hx6
     exact mY
    cases hx6
    exact mY
   rcases af hx6 with ⟨q_102,hx6⟩|⟨q_102,hx6⟩
   ·rcases af hx6 with ⟨q_103,hx6⟩|⟨q_103,hx6⟩
    ·obtain ⟨c_104,c73,hx6⟩:=bd_ hx6
     replace c73:=hrec (v:=v) (caps_a_cmp:=caps_a_cmp) hf_a_cmp c73
     cases hx6
     exact mY
    cases hx6
    exact mY
   cases hx6
   exact mY
  rcases af hx6 with ⟨q_105,hx6⟩|⟨q_105,hx6⟩
  ·rcases af hx6 with ⟨q_106,hx6⟩|⟨q_106,hx6⟩
   ·obtain ⟨c_107,c74,hx6⟩:=bd_ hx6
    replace c74:=hrec (v:=v) (caps_a_cmp:=caps_a_cmp) hf_a_cmp c74
    cases hx6
    exact mY
   cases hx6
   exact mY
  cases hx6
  exact mY
 rcases af hx6 with ⟨q_108,hx6⟩|⟨q_108,hx6⟩
 ·rcases af hx6 with ⟨q_109,hx6⟩|⟨q_109,hx6⟩
  ·obtain ⟨c_110,c75,hx6⟩:=bd_ hx6
   replace c75:=hrec (v:=v) (caps_a_cmp:=caps_a_cmp) hf_a_cmp c75
   rcases af hx6 with ⟨q_111,hx6⟩|⟨q_111,hx6⟩
   ·rcases af hx6 with ⟨q_112,hx6⟩|⟨q_112,hx6⟩
    ·obtain ⟨c_113,c76,hx6⟩:=bd_ hx6
     replace c76:=hrec (v:=v) (caps_a_cmp:=caps_a_cmp) hf_a_cmp c76
     cases hx6
     exact mY
    cases hx6
    exact mY
   cases hx6
   exact mY
  rcases af hx6 with ⟨q_114,hx6⟩|⟨q_114,hx6⟩
  ·rcases af hx6 with ⟨q_115,hx6⟩|⟨q_115,hx6⟩
   ·obtain ⟨c_116,c77,hx6⟩:=bd_ hx6
    replace c77:=hrec (v:=v) (caps_a_cmp:=caps_a_cmp) hf_a_cmp c77
    cases hx6
    exact mY
   cases hx6
   exact mY
  cases hx6
  exact mY
 rcases af hx6 with ⟨q_117,hx6⟩|⟨q_117,hx6⟩
 ·rcases af hx6 with ⟨q_118,hx6⟩|⟨q_118,hx6⟩
  ·obtain ⟨c_119,c78,hx6⟩:=bd_ hx6
   replace c78:=hrec (v:=v) (caps_a_cmp:=caps_a_cmp) hf_a_cmp c78
   cases hx6
   exact mY
  cases hx6
  exact mY
 cases hx6
 exact mY
end Go.Proofs.YtlcceppoloaecaaGreatDoor
