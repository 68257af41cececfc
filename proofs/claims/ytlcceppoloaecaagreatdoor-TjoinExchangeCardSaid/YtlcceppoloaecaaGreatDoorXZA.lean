/- Parts. No condition. -/
import Derived.Test.YtlcceppoloaecaaGreatDoorXBC
set_option maxHeartbeats 8000000
set_option maxRecDepth 100000
set_option linter.unusedSimpArgs false
set_option linter.unusedVariables false
namespace Go.Proofs.YtlcceppoloaecaaGreatDoor
open IntKind (i64)
open Go.RowKit Go.MapKept
theorem mh {n:Nat}  {zd:(List ac)}{OW:Int}{OX:Int}{PS:Int}{a_cmp:ac->ac->Option (Int)}{v:Nat}{r:List ac}{zr:FuncId}{zc:List AC}(zj:∀ (y0:ac) (y1:ac) (r:Int),a_cmp y0 y1=some r->PTz zr ([.agg (af y0),.agg (af y1)]++zc.map .one) (.val (.one (.int .i64 r))))(H:ii n zd OW OX PS a_cmp=some r):RTz 305 [ct af 2 v zd] [.one (.sl 0 v 0 n),.one (.c (.int .i64 OW)),.one (.c (.int .i64 OX)),.one (.c (.int .i64 PS)),.one (.c (.fn zr zc))] [ct af 2 v r] (.tup []):=by
 unfold ii at H;refine bo am Tryz.func305 rfl rfl Tryz.ntmps305 m5 ?_;simp only[eI];refine uo ?_;refine alM_ (fun s:(List ac)×Int=>match s with|(PU,i_2)=>[(0,.one (.sl 0 v 0 n)),(1,.one (.c (.int .i64 OW))),(2,.one (.c (.int .i64 OX))),(3,.one (.c (.int .i64 PS))),(10,.one (.c (.int .i64 i_2)))]) (fun s=>match s with|(PU,i_2)=>[ct af 2 v PU]) H (fun _=>aro _)
  (fm_ bG [] rfl a8 ⟨aR _ _ _ _ _,t7⟩) ?_
 rintro⟨PU,i_2⟩ st1 OU PM;unfold dY at OU;dsimp only at OU ⊢;rcases aj OU with⟨QH,OU⟩|⟨QH,OU⟩
 ·obtain⟨g1,OU⟩:=aK OU
  obtain⟨g2,OU⟩:=aK OU;obtain⟨Qf,i3,OU⟩:=kK OU;obtain⟨g4,OU⟩:=aK OU;obtain⟨g5,OU⟩:=aK OU;obtain⟨Qv,i6,OU⟩:=kK OU;obtain⟨g7,OU⟩:=aK OU;obtain⟨g8,OU⟩:=aK OU;obtain⟨g9,OU⟩:=aK OU;obtain⟨g10,OU⟩:=aK OU;obtain⟨g11,OU⟩:=aK OU;obtain⟨g12,OU⟩:=aK OU
  cases OU;refine uo ?_;exact⟨_,rfl,fm_ bG [] rfl a8 ⟨aR _ _ _ _ _,t7⟩⟩
 cases OU;have O0:nR (.inl (PU,i_2))=some _:=PM;unfold nR at O0;dsimp only at O0
 cases O0;exact iR
theorem zB {n:Nat}  {zd:(List ac)}{OW:Int}{O6:Int}{OX:Int}{a_cmp:ac->ac->Option (Int)}{v:Nat}{r:List ac}{zr:FuncId}{zc:List AC}(zj:∀ (y0:ac) (y1:ac) (r:Int),a_cmp y0 y1=some r->PTz zr ([.agg (af y0),.agg (af y1)]++zc.map .one) (.val (.one (.int .i64 r))))(H:np n zd OW O6 OX a_cmp=some r):RTz 295 [ct af 2 v zd] [.one (.sl 0 v 0 n),.one (.c (.int .i64 OW)),.one (.c (.int .i64 O6)),.one (.c (.int .i64 OX)),.one (.c (.fn zr zc))] [ct af 2 v r] (.tup []):=by
 unfold np at H;refine bo am Tryz.func295 rfl rfl Tryz.ntmps295 m5 ?_;simp only[eI];refine uo ?_;refine alM_ (fun s:(List ac)×Int×Int=>match s with|(PU,i_2,Rb)=>[(0,.one (.sl 0 v 0 n)),(2,.one (.c (.int .i64 O6))),(4,.one (.c (.fn zr zc))),(10,.one (.c (.int .i64 i_2))),(11,.one (.c (.int .i64 Rb)))]) (fun s=>match s with|(PU,i_2,Rb)=>[ct af 2 v PU]) H (fun _=>aro _)
  (fm_ bG [] rfl a8 ⟨aR _ _ _ _ _,t7⟩) ?_
 rintro⟨PU,i_2,Rb⟩ st1 OU PM;unfold eX at OU;dsimp only at OU ⊢;rcases aj OU with⟨Qk,OU⟩|⟨Qk,OU⟩
 ·rcases aj OU with⟨RD,OU⟩|⟨RD,OU⟩
  ·obtain⟨YS,c1,OU⟩:=bd_ OU
   replace c1:=mh (v:=v) (zc:=zc) zj c1
   cases OU;refine uo ?_;exact⟨_,rfl,fm_ bG [] rfl a8 ⟨aR _ _ _ _ _,t7⟩⟩
  obtain⟨UG,c2,OU⟩:=bd_ OU;replace c2:=mh (v:=v) (zc:=zc) zj c2
  cases OU;refine uo ?_;exact⟨_,rfl,fm_ bG [] rfl a8 ⟨aR _ _ _ _ _,t7⟩⟩
 cases OU;have O0:qH O6 a_cmp n (.inl (PU,i_2,Rb))=some _:=PM;unfold qH at O0;dsimp only at O0;obtain⟨c_8,c3,O0⟩:=bd_ O0;replace c3:=mh (v:=v) (zc:=zc) zj c3
 cases O0;exact iR
theorem xB {n:Nat}  {zd:(List ac)}{OW:Int}{OX:Int}{a_cmp:ac->ac->Option (Int)}{v:Nat}{r:List ac}{zr:FuncId}{zc:List AC}(zj:∀ (y0:ac) (y1:ac) (r:Int),a_cmp y0 y1=some r->PTz zr ([.agg (af y0),.agg (af y1)]++zc.map .one) (.val (.one (.int .i64 r))))(H:pu n zd OW OX a_cmp=some r):RTz 276 [ct af 2 v zd] [.one (.sl 0 v 0 n),.one (.c (.int .i64 OW)),.one (.c (.int .i64 OX)),.one (.c (.fn zr zc))] [ct af 2 v r] (.tup []):=by
 unfold pu at H;refine bo am Tryz.func276 rfl rfl Tryz.ntmps276 m5 ?_;simp only[eI];refine uo ?_;refine alM_ (fun s:(List ac)×Int=>match s with|(PU,i_2)=>[(0,.one (.sl 0 v 0 n)),(1,.one (.c (.int .i64 OW))),(2,.one (.c (.int .i64 OX))),(3,.one (.c (.fn zr zc))),(8,.one (.c (.int .i64 i_2)))]) (fun s=>match s with|(PU,i_2)=>[ct af 2 v PU]) H (fun _=>aro _)
  (fm_ bG [] rfl a8 ⟨aR _ _ _ _ _,t7⟩) ?_
 rintro⟨PU,i_2⟩ st3 PR U9;unfold dO at PR;dsimp only at PR ⊢;rcases aj PR with⟨QH,PR⟩|⟨QH,PR⟩
 ·refine uo ?_
  refine alM_ (fun s:(List ac)×Int=>match s with|(TP,Q4)=>[(0,.one (.sl 0 v 0 n)),(1,.one (.c (.int .i64 OW))),(2,.one (.c (.int .i64 OX))),(3,.one (.c (.fn zr zc))),(8,.one (.c (.int .i64 i_2))),(9,.one (.c (.int .i64 Q4)))]) (fun s=>match s with|(TP,Q4)=>[ct af 2 v TP]) PR (fun _=>aro _)
   (fm_ bG [] rfl a8 ⟨aR _ _ _ _ _,t7⟩) ?_
  rintro⟨TP,Q4⟩ st4 O7 hk4;unfold dN at O7;dsimp only at O7 ⊢;rcases aj O7 with⟨RF,O7⟩|⟨RF,O7⟩
  ·obtain⟨g1,O7⟩:=aK O7
   obtain⟨g2,O7⟩:=aK O7;obtain⟨TN,i3,O7⟩:=kK O7;obtain⟨g4,O7⟩:=aK O7;obtain⟨g5,O7⟩:=aK O7;obtain⟨UH,i6,O7⟩:=kK O7;obtain⟨SC,c7,O7⟩:=bd_ O7;replace c7:=zj _ _ _ c7;rcases aj O7 with⟨Ql,O7⟩|⟨Ql,O7⟩
   ·obtain⟨g8,O7⟩:=aK O7
    obtain⟨g9,O7⟩:=aK O7;obtain⟨g10,O7⟩:=aK O7;obtain⟨g11,O7⟩:=aK O7;obtain⟨g12,O7⟩:=aK O7;obtain⟨g13,O7⟩:=aK O7;obtain⟨g14,O7⟩:=aK O7;obtain⟨g15,O7⟩:=aK O7;obtain⟨g16,O7⟩:=aK O7;obtain⟨g17,O7⟩:=aK O7
    cases O7;refine uo ?_;exact⟨_,rfl,fm_ bG [] rfl a8 ⟨aR _ _ _ _ _,t7⟩⟩
   cases O7;have SR:iP i_2 (.inl (TP,Q4))=some _:=hk4;unfold iP at SR;dsimp only at SR
   cases SR;refine uo ?_;exact⟨_,rfl,fm_ bG [] rfl a8 ⟨aR _ _ _ _ _,t7⟩⟩
  cases O7;have SR:iP i_2 (.inl (TP,Q4))=some _:=hk4;unfold iP at SR;dsimp only at SR
  cases SR;refine uo ?_;exact⟨_,rfl,fm_ bG [] rfl a8 ⟨aR _ _ _ _ _,t7⟩⟩
 cases PR;have Xw:sT (.inl (PU,i_2))=some _:=U9;unfold sT at Xw;dsimp only at Xw
 cases Xw;exact iR
theorem abo {rec:Nat->List ac->Int->Int->Int->(ac->ac->Option Int)->Option (List ac)}{n:Nat}  (O_:∀ {n:Nat} {X:List ac} {a m b:Int} {cmp:ac->ac->Option Int} {v:Nat} {zr:FuncId} {zc:List AC} (zj:∀ (y0:ac) (y1:ac) (r:Int),cmp y0 y1=some r->PTz zr ([.agg (af y0),.agg (af y1)]++zc.map .one) (.val (.one (.int .i64 r)))) {r:List ac},rec n X a m b cmp=some r->RTz 277 [ct af 2 v X] [.one (.sl 0 v 0 n),.one (.c (.int .i64 a)),.one (.c (.int .i64 m)),.one (.c (.int .i64 b)),.one (.c (.fn zr zc))] [ct af 2 v r] (.tup [])){zd:(List ac)}{OW:Int}{O6:Int}{OX:Int}{a_cmp:ac->ac->Option (Int)}{v:Nat}{r:List ac}{zr:FuncId}{zc:List AC}(zj:∀ (y0:ac) (y1:ac) (r:Int),a_cmp y0 y1=some r->PTz zr ([.agg (af y0),.agg (af y1)]++zc.map .one) (.val (.one (.int .i64 r))))(UI:(decide ((i64.wrap (O6-OW))=(1:Int)))=true)(H:rk rec n zd OW O6 OX a_cmp=some r):RTz 277 [ct af 2 v zd] [.one (.sl 0 v 0 n),.one (.c (.int .i64 OW)),.one (.c (.int .i64 O6)),.one (.c (.int .i64 OX)),.one (.c (.fn zr zc))] [ct af 2 v r] (.tup []):=by
 unfold rk at H;refine bo am Tryz.func277 rfl rfl Tryz.ntmps277 m5 ?_;simp only[eI];rcases aj H with⟨RE,H⟩|⟨RE,H⟩
 ·refine uo ?_
  refine alM_ (fun s:Int×Int=>match s with|(i_2,Rb)=>[(0,.one (.sl 0 v 0 n)),(1,.one (.c (.int .i64 OW))),(4,.one (.c (.fn zr zc))),(10,.one (.c (.int .i64 i_2))),(11,.one (.c (.int .i64 Rb)))]) (fun s=>match s with|(i_2,Rb)=>[ct af 2 v zd]) H (fun _=>aro _)
   (fm_ bG [] rfl a8 ⟨aR _ _ _ _ _,t7⟩) ?_
  rintro⟨i_2,Rb⟩ st1 OU PM;unfold o9 at OU;dsimp only at OU ⊢;rcases aj OU with⟨Qk,OU⟩|⟨Qk,OU⟩
  ·obtain⟨g1,OU⟩:=aK OU
   obtain⟨g2,OU⟩:=aK OU;obtain⟨Qv,i3,OU⟩:=kK OU;obtain⟨g4,OU⟩:=aK OU;obtain⟨g5,OU⟩:=aK OU;obtain⟨Ud,i6,OU⟩:=kK OU;obtain⟨Si,c7,OU⟩:=bd_ OU;replace c7:=zj _ _ _ c7;rcases aj OU with⟨S7,OU⟩|⟨S7,OU⟩
   ·cases OU
    refine uo ?_;exact⟨_,rfl,fm_ bG [] rfl a8 ⟨aR _ _ _ _ _,t7⟩⟩
   cases OU;refine uo ?_;exact⟨_,rfl,fm_ bG [] rfl a8 ⟨aR _ _ _ _ _,t7⟩⟩
  cases OU;have O0:s9 zd OW n (.inl (i_2,Rb))=some _:=PM;unfold s9 at O0;dsimp only at O0;refine uo ?_;refine alM_ (fun s:(List ac)×Int=>match s with|(Us,P8)=>[(0,.one (.sl 0 v 0 n)),(10,.one (.c (.int .i64 i_2))),(13,.one (.c (.int .i64 P8)))]) (fun s=>match s with|(Us,P8)=>[ct af 2 v Us]) O0 (fun _=>aro _)
   (fm_ bG [] rfl a8 ⟨aR _ _ _ _ _,t7⟩) ?_
  rintro⟨Us,P8⟩ st2 Pl Tt;unfold me at Pl;dsimp only at Pl ⊢;rcases aj Pl with⟨Va,Pl⟩|⟨Va,Pl⟩
  ·obtain⟨g8,Pl⟩:=aK Pl
   obtain⟨g9,Pl⟩:=aK Pl;obtain⟨Ut,i10,Pl⟩:=kK Pl;obtain⟨g11,Pl⟩:=aK Pl;obtain⟨g12,Pl⟩:=aK Pl;obtain⟨S9,i13,Pl⟩:=kK Pl;obtain⟨g14,Pl⟩:=aK Pl;obtain⟨g15,Pl⟩:=aK Pl;obtain⟨g16,Pl⟩:=aK Pl;obtain⟨g17,Pl⟩:=aK Pl;obtain⟨g18,Pl⟩:=aK Pl;obtain⟨g19,Pl⟩:=aK Pl
   cases Pl;refine uo ?_;exact⟨_,rfl,fm_ bG [] rfl a8 ⟨aR _ _ _ _ _,t7⟩⟩
  cases Pl;have P2:Ce (.inl (Us,P8))=some _:=Tt;unfold Ce at P2;dsimp only at P2
  cases P2;exact iR
 exact nomatch UI.symm.trans RE
theorem abQ {rec:Nat->List ac->Int->Int->Int->(ac->ac->Option Int)->Option (List ac)}{n:Nat}  (O_:∀ {n:Nat} {X:List ac} {a m b:Int} {cmp:ac->ac->Option Int} {v:Nat} {zr:FuncId} {zc:List AC} (zj:∀ (y0:ac) (y1:ac) (r:Int),cmp y0 y1=some r->PTz zr ([.agg (af y0),.agg (af y1)]++zc.map .one) (.val (.one (.int .i64 r)))) {r:List ac},rec n X a m b cmp=some r->RTz 277 [ct af 2 v X] [.one (.sl 0 v 0 n),.one (.c (.int .i64 a)),.one (.c (.int .i64 m)),.one (.c (.int .i64 b)),.one (.c (.fn zr zc))] [ct af 2 v r] (.tup [])){zd:(List ac)}{OW:Int}{O6:Int}{OX:Int}{a_cmp:ac->ac->Option (Int)}{v:Nat}{r:List ac}{zr:FuncId}{zc:List AC}(zj:∀ (y0:ac) (y1:ac) (r:Int),a_cmp y0 y1=some r->PTz zr ([.agg (af y0),.agg (af y1)]++zc.map .one) (.val (.one (.int .i64 r))))(UI:(decide ((i64.wrap (O6-OW))=(1:Int)))=false)(SA:(decide ((i64.wrap (OX-O6))=(1:Int)))=true)(H:rk rec n zd OW O6 OX a_cmp=some r):RTz 277 [ct af 2 v zd] [.one (.sl 0 v 0 n),.one (.c (.int .i64 OW)),.one (.c (.int .i64 O6)),.one (.c (.int .i64 OX)),.one (.c (.fn zr zc))] [ct af 2 v r] (.tup []):=by
 unfold rk at H;refine bo am Tryz.func277 rfl rfl Tryz.ntmps277 m5 ?_;simp only[eI];rcases aj H with⟨RE,H⟩|⟨RE,H⟩
 ·exact nomatch UI.symm.trans RE
 rcases aj H with⟨Qh,H⟩|⟨Qh,H⟩
 ·refine uo ?_
  refine alM_ (fun s:Int×Int=>match s with|(QA,Re)=>[(0,.one (.sl 0 v 0 n)),(2,.one (.c (.int .i64 O6))),(4,.one (.c (.fn zr zc))),(14,.one (.c (.int .i64 QA))),(15,.one (.c (.int .i64 Re)))]) (fun s=>match s with|(QA,Re)=>[ct af 2 v zd]) H (fun _=>aro _)
   (fm_ bG [] rfl a8 ⟨aR _ _ _ _ _,t7⟩) ?_
  rintro⟨QA,Re⟩ st3 PR U9;unfold ol at PR;dsimp only at PR ⊢;rcases aj PR with⟨Vd,PR⟩|⟨Vd,PR⟩
  ·obtain⟨g20,PR⟩:=aK PR
   obtain⟨g21,PR⟩:=aK PR;obtain⟨Vh,i22,PR⟩:=kK PR;obtain⟨g23,PR⟩:=aK PR;obtain⟨g24,PR⟩:=aK PR;obtain⟨S8,i25,PR⟩:=kK PR;obtain⟨QY,Zc,PR⟩:=bd_ PR;replace Zc:=zj _ _ _ Zc;rcases aj PR with⟨q_21,PR⟩|⟨q_21,PR⟩
   ·cases PR
    refine uo ?_;exact⟨_,rfl,fm_ bG [] rfl a8 ⟨aR _ _ _ _ _,t7⟩⟩
   cases PR;refine uo ?_;exact⟨_,rfl,fm_ bG [] rfl a8 ⟨aR _ _ _ _ _,t7⟩⟩
  cases PR;have Xw:sU zd O6 n (.inl (QA,Re))=some _:=U9;unfold sU at Xw;dsimp only at Xw;refine uo ?_;refine alM_ (fun s:(List ac)×Int=>match s with|(Ru,P9)=>[(0,.one (.sl 0 v 0 n)),(14,.one (.c (.int .i64 QA))),(17,.one (.c (.int .i64 P9)))]) (fun s=>match s with|(Ru,P9)=>[ct af 2 v Ru]) Xw (fun _=>aro _)
   (fm_ bG [] rfl a8 ⟨aR _ _ _ _ _,t7⟩) ?_
  rintro⟨Ru,P9⟩ st4 O7 hk4;unfold mB at O7;dsimp only at O7 ⊢;rcases aj O7 with⟨TR,O7⟩|⟨TR,O7⟩
  ·obtain⟨g27,O7⟩:=aK O7
   obtain⟨g28,O7⟩:=aK O7;obtain⟨Xv,i29,O7⟩:=kK O7;obtain⟨g30,O7⟩:=aK O7;obtain⟨g31,O7⟩:=aK O7;obtain⟨YT,i32,O7⟩:=kK O7;obtain⟨g33,O7⟩:=aK O7;obtain⟨g34,O7⟩:=aK O7;obtain⟨g35,O7⟩:=aK O7;obtain⟨g36,O7⟩:=aK O7;obtain⟨g37,O7⟩:=aK O7;obtain⟨g38,O7⟩:=aK O7
   cases O7;refine uo ?_;exact⟨_,rfl,fm_ bG [] rfl a8 ⟨aR _ _ _ _ _,t7⟩⟩
  cases O7;have SR:B9 (.inl (Ru,P9))=some _:=hk4;unfold B9 at SR;dsimp only at SR
  cases SR;exact iR
 exact nomatch SA.symm.trans Qh
end Go.Proofs.YtlcceppoloaecaaGreatDoor
