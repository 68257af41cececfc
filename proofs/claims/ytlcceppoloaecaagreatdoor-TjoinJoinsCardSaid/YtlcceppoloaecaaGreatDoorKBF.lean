/- Parts. No condition. -/
import Derived.Test.YtlcceppoloaecaaGreatDoorKBE
set_option maxHeartbeats 8000000
set_option maxRecDepth 100000
set_option linter.unusedSimpArgs false
set_option linter.unusedVariables false
namespace Go.Proofs.YtlcceppoloaecaaGreatDoor
open Go.RowKit Go.MapKept
theorem J6 {rec:Nat->List ac->Int->Int->Int->(ac->ac->Option Int)->Option (List ac)}{n:Nat}  (Pm:∀ {n:Nat} {X:List ac} {a m b:Int} {cmp:ac->ac->Option Int} {v:Nat} {zr:FuncId} {zc:List AC} (zj:∀ (y0:ac) (y1:ac) (r:Int),cmp y0 y1=some r->PTz zr ([.agg (af y0),.agg (af y1)]++zc.map .one) (.val (.one (.int .i64 r)))) {r:List ac},rec n X a m b cmp=some r->RTz 277 [cz af 2 v X] [.one (.sl 0 v 0 n),.one (.c (.int .i64 a)),.one (.c (.int .i64 m)),.one (.c (.int .i64 b)),.one (.c (.fn zr zc))] [cz af 2 v r] (.tup [])){zd:(List ac)}{OX:Int}{Pi:Int}{OY:Int}{a_cmp:ac->ac->Option (Int)}{v:Nat}{r:List ac}{zr:FuncId}{zc:List AC}(zj:∀ (y0:ac) (y1:ac) (r:Int),a_cmp y0 y1=some r->PTz zr ([.agg (af y0),.agg (af y1)]++zc.map .one) (.val (.one (.int .i64 r))))(Vt:(decide ((IntKind.i64.wrap (Pi-OX))=(1:Int)))=true)(H:rf rec n zd OX Pi OY a_cmp=some r):RTz 277 [cz af 2 v zd] [.one (.sl 0 v 0 n),.one (.c (.int .i64 OX)),.one (.c (.int .i64 Pi)),.one (.c (.int .i64 OY)),.one (.c (.fn zr zc))] [cz af 2 v r] (.tup []):=by
 unfold rf at H;refine be am Tryz.func277 rfl rfl Tryz.ntmps277 m5 ?_;simp only[eL];obtain⟨QM,H⟩|⟨QM,H⟩:=aj H
 ·refine w8 ?_
  refine alM_ (λs:Int×Int=>match s with|(i_2,RU)=>[(0,.one (.sl 0 v 0 n)),(1,.one (.c (.int .i64 OX))),(4,.one (.c (.fn zr zc))),(10,.one (.c (.int .i64 i_2))),(11,.one (.c (.int .i64 RU)))]) (λs=>match s with|(i_2,RU)=>[cz af 2 v zd]) H (λ_=>aqG _)
   (fm_ bE [] rfl bm ⟨aR _ _ _ _ _,t7⟩) ?_
  rintro⟨i_2,RU⟩ QF OU Pz;unfold nL at OU;dsimp only at OU ⊢;obtain⟨Qf,OU⟩|⟨Qf,OU⟩:=aj OU
  ·obtain⟨g1,OU⟩:=aL OU
   obtain⟨g2,OU⟩:=aL OU;obtain⟨Qa,i3,OU⟩:=ln OU;obtain⟨g4,OU⟩:=aL OU;obtain⟨g5,OU⟩:=aL OU;obtain⟨S9,i6,OU⟩:=ln OU;obtain⟨Qk,c7,OU⟩:=bd_ OU;replace c7:=zj _ _ _ c7;obtain⟨Si,OU⟩|⟨Si,OU⟩:=aj OU
   ·cases OU
    refine w8 ?_;exact⟨_,rfl,fm_ bE [] rfl bm ⟨aR _ _ _ _ _,t7⟩⟩
   cases OU;refine w8 ?_;exact⟨_,rfl,fm_ bE [] rfl bm ⟨aR _ _ _ _ _,t7⟩⟩
  cases OU;have O2:rB zd OX n (.inl (i_2,RU))=some _:=Pz;unfold rB at O2;dsimp only at O2;refine w8 ?_;refine alM_ (λs:(List ac)×Int=>match s with|(Vf,PZ)=>[(0,.one (.sl 0 v 0 n)),(10,.one (.c (.int .i64 i_2))),(13,.one (.c (.int .i64 PZ)))]) (λs=>match s with|(Vf,PZ)=>[cz af 2 v Vf]) O2 (λ_=>aqG _)
   (fm_ bE [] rfl bm ⟨aR _ _ _ _ _,t7⟩) ?_
  rintro⟨Vf,PZ⟩ ZH PP UD;unfold lF at PP;dsimp only at PP ⊢;obtain⟨QN,PP⟩|⟨QN,PP⟩:=aj PP
  ·obtain⟨g8,PP⟩:=aL PP
   obtain⟨g9,PP⟩:=aL PP;obtain⟨Q8,i10,PP⟩:=ln PP;obtain⟨g11,PP⟩:=aL PP;obtain⟨g12,PP⟩:=aL PP;obtain⟨V0,i13,PP⟩:=ln PP;obtain⟨g14,PP⟩:=aL PP;obtain⟨g15,PP⟩:=aL PP;obtain⟨g16,PP⟩:=aL PP;obtain⟨g17,PP⟩:=aL PP;obtain⟨g18,PP⟩:=aL PP;obtain⟨g19,PP⟩:=aL PP
   cases PP;refine w8 ?_;exact⟨_,rfl,fm_ bE [] rfl bm ⟨aR _ _ _ _ _,t7⟩⟩
  cases PP;have Rx:BM (.inl (Vf,PZ))=some _:=UD;unfold BM at Rx;dsimp only at Rx
  cases Rx;exact jp
 exact nomatch Vt.symm.trans QM
theorem Nh {rec:Nat->List ac->Int->Int->Int->(ac->ac->Option Int)->Option (List ac)}{n:Nat}  (Pm:∀ {n:Nat} {X:List ac} {a m b:Int} {cmp:ac->ac->Option Int} {v:Nat} {zr:FuncId} {zc:List AC} (zj:∀ (y0:ac) (y1:ac) (r:Int),cmp y0 y1=some r->PTz zr ([.agg (af y0),.agg (af y1)]++zc.map .one) (.val (.one (.int .i64 r)))) {r:List ac},rec n X a m b cmp=some r->RTz 277 [cz af 2 v X] [.one (.sl 0 v 0 n),.one (.c (.int .i64 a)),.one (.c (.int .i64 m)),.one (.c (.int .i64 b)),.one (.c (.fn zr zc))] [cz af 2 v r] (.tup [])){zd:(List ac)}{OX:Int}{Pi:Int}{OY:Int}{a_cmp:ac->ac->Option (Int)}{v:Nat}{r:List ac}{zr:FuncId}{zc:List AC}(zj:∀ (y0:ac) (y1:ac) (r:Int),a_cmp y0 y1=some r->PTz zr ([.agg (af y0),.agg (af y1)]++zc.map .one) (.val (.one (.int .i64 r))))(Vt:(decide ((IntKind.i64.wrap (Pi-OX))=(1:Int)))=false)(Tz:(decide ((IntKind.i64.wrap (OY-Pi))=(1:Int)))=true)(H:rf rec n zd OX Pi OY a_cmp=some r):RTz 277 [cz af 2 v zd] [.one (.sl 0 v 0 n),.one (.c (.int .i64 OX)),.one (.c (.int .i64 Pi)),.one (.c (.int .i64 OY)),.one (.c (.fn zr zc))] [cz af 2 v r] (.tup []):=by
 unfold rf at H;refine be am Tryz.func277 rfl rfl Tryz.ntmps277 m5 ?_;simp only[eL];obtain⟨QM,H⟩|⟨QM,H⟩:=aj H
 ·exact nomatch Vt.symm.trans QM
 obtain⟨QA,H⟩|⟨QA,H⟩:=aj H
 ·refine w8 ?_
  refine alM_ (λs:Int×Int=>match s with|(Ql,RV)=>[(0,.one (.sl 0 v 0 n)),(2,.one (.c (.int .i64 Pi))),(4,.one (.c (.fn zr zc))),(14,.one (.c (.int .i64 Ql))),(15,.one (.c (.int .i64 RV)))]) (λs=>match s with|(Ql,RV)=>[cz af 2 v zd]) H (λ_=>aqG _)
   (fm_ bE [] rfl bm ⟨aR _ _ _ _ _,t7⟩) ?_
  rintro⟨Ql,RV⟩ st3 Py R3;unfold n7 at Py;dsimp only at Py ⊢;obtain⟨SS,Py⟩|⟨SS,Py⟩:=aj Py
  ·obtain⟨g20,Py⟩:=aL Py
   obtain⟨g21,Py⟩:=aL Py;obtain⟨V1,i22,Py⟩:=ln Py;obtain⟨g23,Py⟩:=aL Py;obtain⟨g24,Py⟩:=aL Py;obtain⟨Ue,i25,Py⟩:=ln Py;obtain⟨Q7,Z3,Py⟩:=bd_ Py;replace Z3:=zj _ _ _ Z3;obtain⟨q_21,Py⟩|⟨q_21,Py⟩:=aj Py
   ·cases Py
    refine w8 ?_;exact⟨_,rfl,fm_ bE [] rfl bm ⟨aR _ _ _ _ _,t7⟩⟩
   cases Py;refine w8 ?_;exact⟨_,rfl,fm_ bE [] rfl bm ⟨aR _ _ _ _ _,t7⟩⟩
  cases Py;have Sm:rz zd Pi n (.inl (Ql,RV))=some _:=R3;unfold rz at Sm;dsimp only at Sm;refine w8 ?_;refine alM_ (λs:(List ac)×Int=>match s with|(Sl,QI)=>[(0,.one (.sl 0 v 0 n)),(14,.one (.c (.int .i64 Ql))),(17,.one (.c (.int .i64 QI)))]) (λs=>match s with|(Sl,QI)=>[cz af 2 v Sl]) Sm (λ_=>aqG _)
   (fm_ bE [] rfl bm ⟨aR _ _ _ _ _,t7⟩) ?_
  rintro⟨Sl,QI⟩ st4 O4 hk4;unfold lX at O4;dsimp only at O4 ⊢;obtain⟨UH,O4⟩|⟨UH,O4⟩:=aj O4
  ·obtain⟨g27,O4⟩:=aL O4
   obtain⟨g28,O4⟩:=aL O4;obtain⟨Yj,i29,O4⟩:=ln O4;obtain⟨g30,O4⟩:=aL O4;obtain⟨g31,O4⟩:=aL O4;obtain⟨ZJ,i32,O4⟩:=ln O4;obtain⟨g33,O4⟩:=aL O4;obtain⟨g34,O4⟩:=aL O4;obtain⟨g35,O4⟩:=aL O4;obtain⟨g36,O4⟩:=aL O4;obtain⟨g37,O4⟩:=aL O4;obtain⟨g38,O4⟩:=aL O4
   cases O4;refine w8 ?_;exact⟨_,rfl,fm_ bE [] rfl bm ⟨aR _ _ _ _ _,t7⟩⟩
  cases O4;have Qo:BR (.inl (Sl,QI))=some _:=hk4;unfold BR at Qo;dsimp only at Qo
  cases Qo;exact jp
 exact nomatch Tz.symm.trans QA
