/- Parts. No condition. -/
import Derived.Test.YtlcceppoloaecaaGreatDoorKBH
set_option maxHeartbeats 8000000
set_option maxRecDepth 100000
set_option linter.unusedSimpArgs false
set_option linter.unusedVariables false
namespace Go.Proofs.YtlcceppoloaecaaGreatDoor
open Go.RowKit Go.MapKept
theorem aa7 {rec:Nat->List ac->Int->Int->Int->(ac->ac->Option Int)->Option (List ac)}{n:Nat}  (Pi:∀ {n:Nat} {X:List ac} {a m b:Int} {cmp:ac->ac->Option Int} {v:Nat} {zr:FuncId} {zc:List AC} (zj:∀ (y0:ac) (y1:ac) (r:Int),cmp y0 y1=some r->PTz zr ([.agg (af y0),.agg (af y1)]++zc.map .one) (.val (.one (.int .i64 r)))) {r:List ac},rec n X a m b cmp=some r->RTz 277 [cl af 2 v X] [.one (.sl 0 v 0 n),.one (.c (.int .i64 a)),.one (.c (.int .i64 m)),.one (.c (.int .i64 b)),.one (.c (.fn zr zc))] [cl af 2 v r] (.tup [])){zd:(List ac)}{OV:Int}{Pe:Int}{OW:Int}{a_cmp:ac->ac->Option (Int)}{v:Nat}{r:List ac}{zr:FuncId}{zc:List AC}(zj:∀ (y0:ac) (y1:ac) (r:Int),a_cmp y0 y1=some r->PTz zr ([.agg (af y0),.agg (af y1)]++zc.map .one) (.val (.one (.int .i64 r))))(U4:(decide ((IntKind.i64.wrap (Pe-OV))=(1:Int)))=true)(H:qz rec n zd OV Pe OW a_cmp=some r):RTz 277 [cl af 2 v zd] [.one (.sl 0 v 0 n),.one (.c (.int .i64 OV)),.one (.c (.int .i64 Pe)),.one (.c (.int .i64 OW)),.one (.c (.fn zr zc))] [cl af 2 v r] (.tup []):=by
 unfold qz at H;refine bo am Tryz.func277 rfl rfl Tryz.ntmps277 m5 ?_;simp only[ed];rcases aj H with⟨Qv,H⟩|⟨Qv,H⟩
 ·refine tJ ?_
  refine alM_ (fun s:Int×Int=>match s with|(i_2,Ro)=>[(0,.one (.sl 0 v 0 n)),(1,.one (.c (.int .i64 OV))),(4,.one (.c (.fn zr zc))),(10,.one (.c (.int .i64 i_2))),(11,.one (.c (.int .i64 Ro)))]) (fun s=>match s with|(i_2,Ro)=>[cl af 2 v zd]) H (fun _=>aqo _)
   (fm_ bF [] rfl bn ⟨aR _ _ _ _ _,t7⟩) ?_
  rintro⟨i_2,Ro⟩ st1 OU Py;unfold np at OU;dsimp only at OU ⊢;rcases aj OU with⟨P9,OU⟩|⟨P9,OU⟩
  ·obtain⟨g1,OU⟩:=aK OU
   obtain⟨g2,OU⟩:=aK OU;obtain⟨P3,i3,OU⟩:=kn OU;obtain⟨g4,OU⟩:=aK OU;obtain⟨g5,OU⟩:=aK OU;obtain⟨SI,i6,OU⟩:=kn OU;obtain⟨QV,c7,OU⟩:=bd_ OU;replace c7:=zj _ _ _ c7;rcases aj OU with⟨RX,OU⟩|⟨RX,OU⟩
   ·cases OU
    refine tJ ?_;exact⟨_,rfl,fm_ bF [] rfl bn ⟨aR _ _ _ _ _,t7⟩⟩
   cases OU;refine tJ ?_;exact⟨_,rfl,fm_ bF [] rfl bn ⟨aR _ _ _ _ _,t7⟩⟩
  cases OU;have O3:rc zd OV n (.inl (i_2,Ro))=some _:=Py;unfold rc at O3;dsimp only at O3;refine tJ ?_;refine alM_ (fun s:(List ac)×Int=>match s with|(UO,Qm)=>[(0,.one (.sl 0 v 0 n)),(10,.one (.c (.int .i64 i_2))),(13,.one (.c (.int .i64 Qm)))]) (fun s=>match s with|(UO,Qm)=>[cl af 2 v UO]) O3 (fun _=>aqo _)
   (fm_ bF [] rfl bn ⟨aR _ _ _ _ _,t7⟩) ?_
  rintro⟨UO,Qm⟩ st2 Pz U2;unfold kV at Pz;dsimp only at Pz ⊢;rcases aj Pz with⟨Ta,Pz⟩|⟨Ta,Pz⟩
  ·obtain⟨g8,Pz⟩:=aK Pz
   obtain⟨g9,Pz⟩:=aK Pz;obtain⟨TJ,i10,Pz⟩:=kn Pz;obtain⟨g11,Pz⟩:=aK Pz;obtain⟨g12,Pz⟩:=aK Pz;obtain⟨VD,i13,Pz⟩:=kn Pz;obtain⟨g14,Pz⟩:=aK Pz;obtain⟨g15,Pz⟩:=aK Pz;obtain⟨g16,Pz⟩:=aK Pz;obtain⟨g17,Pz⟩:=aK Pz;obtain⟨g18,Pz⟩:=aK Pz;obtain⟨g19,Pz⟩:=aK Pz
   cases Pz;refine tJ ?_;exact⟨_,rfl,fm_ bF [] rfl bn ⟨aR _ _ _ _ _,t7⟩⟩
  cases Pz;have QP:BQ (.inl (UO,Qm))=some _:=U2;unfold BQ at QP;dsimp only at QP
  cases QP;exact iw
 exact nomatch U4.symm.trans Qv
theorem abv {rec:Nat->List ac->Int->Int->Int->(ac->ac->Option Int)->Option (List ac)}{n:Nat}  (Pi:∀ {n:Nat} {X:List ac} {a m b:Int} {cmp:ac->ac->Option Int} {v:Nat} {zr:FuncId} {zc:List AC} (zj:∀ (y0:ac) (y1:ac) (r:Int),cmp y0 y1=some r->PTz zr ([.agg (af y0),.agg (af y1)]++zc.map .one) (.val (.one (.int .i64 r)))) {r:List ac},rec n X a m b cmp=some r->RTz 277 [cl af 2 v X] [.one (.sl 0 v 0 n),.one (.c (.int .i64 a)),.one (.c (.int .i64 m)),.one (.c (.int .i64 b)),.one (.c (.fn zr zc))] [cl af 2 v r] (.tup [])){zd:(List ac)}{OV:Int}{Pe:Int}{OW:Int}{a_cmp:ac->ac->Option (Int)}{v:Nat}{r:List ac}{zr:FuncId}{zc:List AC}(zj:∀ (y0:ac) (y1:ac) (r:Int),a_cmp y0 y1=some r->PTz zr ([.agg (af y0),.agg (af y1)]++zc.map .one) (.val (.one (.int .i64 r))))(U4:(decide ((IntKind.i64.wrap (Pe-OV))=(1:Int)))=false)(SX:(decide ((IntKind.i64.wrap (OW-Pe))=(1:Int)))=true)(H:qz rec n zd OV Pe OW a_cmp=some r):RTz 277 [cl af 2 v zd] [.one (.sl 0 v 0 n),.one (.c (.int .i64 OV)),.one (.c (.int .i64 Pe)),.one (.c (.int .i64 OW)),.one (.c (.fn zr zc))] [cl af 2 v r] (.tup []):=by
 unfold qz at H;refine bo am Tryz.func277 rfl rfl Tryz.ntmps277 m5 ?_;simp only[ed];rcases aj H with⟨Qv,H⟩|⟨Qv,H⟩
 ·exact nomatch U4.symm.trans Qv
 rcases aj H with⟨Qk,H⟩|⟨Qk,H⟩
 ·refine tJ ?_
  refine alM_ (fun s:Int×Int=>match s with|(QM,Rq)=>[(0,.one (.sl 0 v 0 n)),(2,.one (.c (.int .i64 Pe))),(4,.one (.c (.fn zr zc))),(14,.one (.c (.int .i64 QM))),(15,.one (.c (.int .i64 Rq)))]) (fun s=>match s with|(QM,Rq)=>[cl af 2 v zd]) H (fun _=>aqo _)
   (fm_ bF [] rfl bn ⟨aR _ _ _ _ _,t7⟩) ?_
  rintro⟨QM,Rq⟩ st3 PL TS;unfold om at PL;dsimp only at PL ⊢;rcases aj PL with⟨Td,PL⟩|⟨Td,PL⟩
  ·obtain⟨g20,PL⟩:=aK PL
   obtain⟨g21,PL⟩:=aK PL;obtain⟨VE,i22,PL⟩:=kn PL;obtain⟨g23,PL⟩:=aK PL;obtain⟨g24,PL⟩:=aK PL;obtain⟨TF,i25,PL⟩:=kn PL;obtain⟨Q8,ZA,PL⟩:=bd_ PL;replace ZA:=zj _ _ _ ZA;rcases aj PL with⟨q_21,PL⟩|⟨q_21,PL⟩
   ·cases PL
    refine tJ ?_;exact⟨_,rfl,fm_ bF [] rfl bn ⟨aR _ _ _ _ _,t7⟩⟩
   cases PL;refine tJ ?_;exact⟨_,rfl,fm_ bF [] rfl bn ⟨aR _ _ _ _ _,t7⟩⟩
  cases PL;have Tn:qZ zd Pe n (.inl (QM,Rq))=some _:=TS;unfold qZ at Tn;dsimp only at Tn;refine tJ ?_;refine alM_ (fun s:(List ac)×Int=>match s with|(RG,Qn)=>[(0,.one (.sl 0 v 0 n)),(14,.one (.c (.int .i64 QM))),(17,.one (.c (.int .i64 Qn)))]) (fun s=>match s with|(RG,Qn)=>[cl af 2 v RG]) Tn (fun _=>aqo _)
   (fm_ bF [] rfl bn ⟨aR _ _ _ _ _,t7⟩) ?_
  rintro⟨RG,Qn⟩ st4 O9 hk4;unfold l7 at O9;dsimp only at O9 ⊢;rcases aj O9 with⟨Ug,O9⟩|⟨Ug,O9⟩
  ·obtain⟨g27,O9⟩:=aK O9
   obtain⟨g28,O9⟩:=aK O9;obtain⟨XL,i29,O9⟩:=kn O9;obtain⟨g30,O9⟩:=aK O9;obtain⟨g31,O9⟩:=aK O9;obtain⟨Zh,i32,O9⟩:=kn O9;obtain⟨g33,O9⟩:=aK O9;obtain⟨g34,O9⟩:=aK O9;obtain⟨g35,O9⟩:=aK O9;obtain⟨g36,O9⟩:=aK O9;obtain⟨g37,O9⟩:=aK O9;obtain⟨g38,O9⟩:=aK O9
   cases O9;refine tJ ?_;exact⟨_,rfl,fm_ bF [] rfl bn ⟨aR _ _ _ _ _,t7⟩⟩
  cases O9;have RH:BG (.inl (RG,Qn))=some _:=hk4;unfold BG at RH;dsimp only at RH
  cases RH;exact iw
 exact nomatch SX.symm.trans Qk
