/- Parts. No condition. -/
import Derived.Test.YtlcceppoloaecaaGreatDoorKBG
set_option maxHeartbeats 8000000
set_option maxRecDepth 100000
set_option linter.unusedSimpArgs false
set_option linter.unusedVariables false
namespace Go.Proofs.YtlcceppoloaecaaGreatDoor
open Go.RowKit Go.MapKept
theorem lE {n:Nat}  {zd:(List ac)}{OV:Int}{OW:Int}{PQ:Int}{a_cmp:ac->ac->Option (Int)}{v:Nat}{r:List ac}{zr:FuncId}{zc:List AC}(zj:∀ (y0:ac) (y1:ac) (r:Int),a_cmp y0 y1=some r->PTz zr ([.agg (af y0),.agg (af y1)]++zc.map .one) (.val (.one (.int .i64 r))))(H:gV n zd OV OW PQ a_cmp=some r):RTz 305 [cl af 2 v zd] [.one (.sl 0 v 0 n),.one (.c (.int .i64 OV)),.one (.c (.int .i64 OW)),.one (.c (.int .i64 PQ)),.one (.c (.fn zr zc))] [cl af 2 v r] (.tup []):=by
 unfold gV at H;refine bo am Tryz.func305 rfl rfl Tryz.ntmps305 m5 ?_;simp only[ed];refine tJ ?_;refine alM_ (fun s:(List ac)×Int=>match s with|(PP,i_2)=>[(0,.one (.sl 0 v 0 n)),(1,.one (.c (.int .i64 OV))),(2,.one (.c (.int .i64 OW))),(3,.one (.c (.int .i64 PQ))),(10,.one (.c (.int .i64 i_2)))]) (fun s=>match s with|(PP,i_2)=>[cl af 2 v PP]) H (fun _=>aqo _)
  (fm_ bF [] rfl bn ⟨aR _ _ _ _ _,t7⟩) ?_
 rintro⟨PP,i_2⟩ st1 OU Py;unfold dQ at OU;dsimp only at OU ⊢;rcases aj OU with⟨Qf,OU⟩|⟨Qf,OU⟩
 ·obtain⟨g1,OU⟩:=aK OU
  obtain⟨g2,OU⟩:=aK OU;obtain⟨P7,i3,OU⟩:=kn OU;obtain⟨g4,OU⟩:=aK OU;obtain⟨g5,OU⟩:=aK OU;obtain⟨P3,i6,OU⟩:=kn OU;obtain⟨g7,OU⟩:=aK OU;obtain⟨g8,OU⟩:=aK OU;obtain⟨g9,OU⟩:=aK OU;obtain⟨g10,OU⟩:=aK OU;obtain⟨g11,OU⟩:=aK OU;obtain⟨g12,OU⟩:=aK OU
  cases OU;refine tJ ?_;exact⟨_,rfl,fm_ bF [] rfl bn ⟨aR _ _ _ _ _,t7⟩⟩
 cases OU;have O3:mV (.inl (PP,i_2))=some _:=Py;unfold mV at O3;dsimp only at O3
 cases O3;exact iw
theorem zm {n:Nat}  {zd:(List ac)}{OV:Int}{Pe:Int}{OW:Int}{a_cmp:ac->ac->Option (Int)}{v:Nat}{r:List ac}{zr:FuncId}{zc:List AC}(zj:∀ (y0:ac) (y1:ac) (r:Int),a_cmp y0 y1=some r->PTz zr ([.agg (af y0),.agg (af y1)]++zc.map .one) (.val (.one (.int .i64 r))))(H:mA n zd OV Pe OW a_cmp=some r):RTz 295 [cl af 2 v zd] [.one (.sl 0 v 0 n),.one (.c (.int .i64 OV)),.one (.c (.int .i64 Pe)),.one (.c (.int .i64 OW)),.one (.c (.fn zr zc))] [cl af 2 v r] (.tup []):=by
 unfold mA at H;refine bo am Tryz.func295 rfl rfl Tryz.ntmps295 m5 ?_;simp only[ed];refine tJ ?_;refine alM_ (fun s:(List ac)×Int×Int=>match s with|(PP,i_2,Ro)=>[(0,.one (.sl 0 v 0 n)),(2,.one (.c (.int .i64 Pe))),(4,.one (.c (.fn zr zc))),(10,.one (.c (.int .i64 i_2))),(11,.one (.c (.int .i64 Ro)))]) (fun s=>match s with|(PP,i_2,Ro)=>[cl af 2 v PP]) H (fun _=>aqo _)
  (fm_ bF [] rfl bn ⟨aR _ _ _ _ _,t7⟩) ?_
 rintro⟨PP,i_2,Ro⟩ st1 OU Py;unfold eP at OU;dsimp only at OU ⊢;rcases aj OU with⟨P9,OU⟩|⟨P9,OU⟩
 ·rcases aj OU with⟨Q6,OU⟩|⟨Q6,OU⟩
  ·obtain⟨Zg,c1,OU⟩:=bd_ OU
   replace c1:=lE (v:=v) (zc:=zc) zj c1
   cases OU;refine tJ ?_;exact⟨_,rfl,fm_ bF [] rfl bn ⟨aR _ _ _ _ _,t7⟩⟩
  obtain⟨U3,c2,OU⟩:=bd_ OU;replace c2:=lE (v:=v) (zc:=zc) zj c2
  cases OU;refine tJ ?_;exact⟨_,rfl,fm_ bF [] rfl bn ⟨aR _ _ _ _ _,t7⟩⟩
 cases OU;have O3:pf Pe a_cmp n (.inl (PP,i_2,Ro))=some _:=Py;unfold pf at O3;dsimp only at O3;obtain⟨c_8,c3,O3⟩:=bd_ O3;replace c3:=lE (v:=v) (zc:=zc) zj c3
 cases O3;exact iw
theorem wF {n:Nat}  {zd:(List ac)}{OV:Int}{OW:Int}{a_cmp:ac->ac->Option (Int)}{v:Nat}{r:List ac}{zr:FuncId}{zc:List AC}(zj:∀ (y0:ac) (y1:ac) (r:Int),a_cmp y0 y1=some r->PTz zr ([.agg (af y0),.agg (af y1)]++zc.map .one) (.val (.one (.int .i64 r))))(H:nN n zd OV OW a_cmp=some r):RTz 276 [cl af 2 v zd] [.one (.sl 0 v 0 n),.one (.c (.int .i64 OV)),.one (.c (.int .i64 OW)),.one (.c (.fn zr zc))] [cl af 2 v r] (.tup []):=by
 unfold nN at H;refine bo am Tryz.func276 rfl rfl Tryz.ntmps276 m5 ?_;simp only[ed];refine tJ ?_;refine alM_ (fun s:(List ac)×Int=>match s with|(PP,i_2)=>[(0,.one (.sl 0 v 0 n)),(1,.one (.c (.int .i64 OV))),(2,.one (.c (.int .i64 OW))),(3,.one (.c (.fn zr zc))),(8,.one (.c (.int .i64 i_2)))]) (fun s=>match s with|(PP,i_2)=>[cl af 2 v PP]) H (fun _=>aqo _)
  (fm_ bF [] rfl bn ⟨aR _ _ _ _ _,t7⟩) ?_
 rintro⟨PP,i_2⟩ st3 PL TS;unfold dL at PL;dsimp only at PL ⊢;rcases aj PL with⟨Qf,PL⟩|⟨Qf,PL⟩
 ·refine tJ ?_
  refine alM_ (fun s:(List ac)×Int=>match s with|(Ue,Re)=>[(0,.one (.sl 0 v 0 n)),(1,.one (.c (.int .i64 OV))),(2,.one (.c (.int .i64 OW))),(3,.one (.c (.fn zr zc))),(8,.one (.c (.int .i64 i_2))),(9,.one (.c (.int .i64 Re)))]) (fun s=>match s with|(Ue,Re)=>[cl af 2 v Ue]) PL (fun _=>aqo _)
   (fm_ bF [] rfl bn ⟨aR _ _ _ _ _,t7⟩) ?_
  rintro⟨Ue,Re⟩ st4 O9 hk4;unfold dH at O9;dsimp only at O9 ⊢;rcases aj O9 with⟨QT,O9⟩|⟨QT,O9⟩
  ·obtain⟨g1,O9⟩:=aK O9
   obtain⟨g2,O9⟩:=aK O9;obtain⟨RY,i3,O9⟩:=kn O9;obtain⟨g4,O9⟩:=aK O9;obtain⟨g5,O9⟩:=aK O9;obtain⟨Sl,i6,O9⟩:=kn O9;obtain⟨Q3,c7,O9⟩:=bd_ O9;replace c7:=zj _ _ _ c7;rcases aj O9 with⟨P_,O9⟩|⟨P_,O9⟩
   ·obtain⟨g8,O9⟩:=aK O9
    obtain⟨g9,O9⟩:=aK O9;obtain⟨g10,O9⟩:=aK O9;obtain⟨g11,O9⟩:=aK O9;obtain⟨g12,O9⟩:=aK O9;obtain⟨g13,O9⟩:=aK O9;obtain⟨g14,O9⟩:=aK O9;obtain⟨g15,O9⟩:=aK O9;obtain⟨g16,O9⟩:=aK O9;obtain⟨g17,O9⟩:=aK O9
    cases O9;refine tJ ?_;exact⟨_,rfl,fm_ bF [] rfl bn ⟨aR _ _ _ _ _,t7⟩⟩
   cases O9;have RH:il i_2 (.inl (Ue,Re))=some _:=hk4;unfold il at RH;dsimp only at RH
   cases RH;refine tJ ?_;exact⟨_,rfl,fm_ bF [] rfl bn ⟨aR _ _ _ _ _,t7⟩⟩
  cases O9;have RH:il i_2 (.inl (Ue,Re))=some _:=hk4;unfold il at RH;dsimp only at RH
  cases RH;refine tJ ?_;exact⟨_,rfl,fm_ bF [] rfl bn ⟨aR _ _ _ _ _,t7⟩⟩
 cases PL;have Tn:qW (.inl (PP,i_2))=some _:=TS;unfold qW at Tn;dsimp only at Tn
 cases Tn;exact iw
