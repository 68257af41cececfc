/- Parts. No condition. -/
import Derived.Shelf.Spec.SlicesGrow
import Derived.Test.YtlcceppoloaecaaGreatDoorKBM
set_option maxHeartbeats 8000000
set_option maxRecDepth 100000
set_option linter.unusedSimpArgs false
set_option linter.unusedVariables false
namespace Go.Proofs.YtlcceppoloaecaaGreatDoor
open _root_.ByteArray (empty)
open IntKind (i64)
open Go.RowKit Go.MapKept
def AY (rec:Ex->List Val->Option Val)(OW:Ex)(O3:(List Val)):Option (Int):=(rec OW O3).bind λO7=>(jL O7).bind λQd=>some Qd
theorem Kw {rec:Ex->List Val->Option Val}  (Pm:∀ {x:Ex} {y:List Val} {r:Val},rec x y=some r->PTz 74 [.agg (tE x),.one (.lst (y.map cV))] (.val (.agg (cV r)))){OW:Ex}{O3:(List Val)}{r:Int}(H:AY rec OW O3=some r):PTz 90 [.agg (tE OW),.one (.lst (O3.map cV))] (.val (.one (.int .i64 r))):=by
 unfold AY at H;rw[aC OW];refine po_ Tryz.func90 Tryz.ntmps90 ?_;obtain⟨O7,c1,H⟩:=bd_ H;replace c1:=Pm c1
 try simp only[aqD,aqB,aqF,aqv,aC]at c1
 exact ay H
def nf (Qb:(List Val)):(Int)->Option (Step (Int) (Val)):=λs=>match s with
 |v_30=>bif v_30<(Qb.length:Int)then(aF Qb v_30).bind λUG=>bif UG.kind≠(0:Int)then some (.ret UG)else
 some (.next (i64.wrap (v_30+(1:Int))))else
 some (.exit v_30)
def kG:Sum (Int) (Val)->Option ((Val))
 |.inl v_30=>(j9 ).bind λV9=>some V9
 |.inr q=>some q
def mY (OW:Ex)(O3:(List Val))(rec:Ex->List Val->Option Val):((List Val)×Int)->Option (Step ((List Val)×Int) (Val)):=λs=>match s with
 |(Qb,RY)=>bif RY<(OW.args.length:Int)then(aF OW.args RY).bind λV1=>(rec V1 O3).bind λRF=>bif 0<=RY then(bif RY<(OW.args.length:Int)then(bif (0+RY.toNat)<Qb.length then(some (.next ((Qb.set (0+RY.toNat) RF),(i64.wrap (RY+(1:Int))))))else none)else none)else none else
 some (.exit (Qb,RY))
def bv (OW:Ex):Sum ((List Val)×Int) (Val)->Option ((Val))
 |.inl (Qb,RY)=>bif Qb.length=OW.args.length then(bif OW.op=(4:Int)then(l6 OW.op Qb).bind λRH=>some RH else
 bif OW.op=(5:Int)then(l6 OW.op Qb).bind λTf=>some Tf else
 bif OW.op=(6:Int)then(l6 OW.op Qb).bind λUi=>some Ui else
 bif OW.op=(21:Int)then(aF Qb (0:Int)).bind λx_27=>(sW (decide (x_27.kind=(0:Int)))).bind λr_28=>some r_28 else
 bif OW.op=(23:Int)then(ao (nf Qb) fuel (0:Int)).bind (kG)else
 bif OW.op=(24:Int)then(r9 OW.int Qb).bind λXd=>some Xd else
 bif OW.op=(19:Int)then(uk OW.op Qb).bind λr_38=>some r_38 else
 bif OW.op=(20:Int)then(uk OW.op Qb).bind λXe=>some Xe else
 bif OW.op=(13:Int)then(kz OW.op Qb).bind λr_42=>some r_42 else
 bif OW.op=(14:Int)then(kz OW.op Qb).bind λV_=>some V_ else
 bif OW.op=(15:Int)then(kz OW.op Qb).bind λUN=>some UN else
 bif OW.op=(16:Int)then(kz OW.op Qb).bind λr_48=>some r_48 else
 bif OW.op=(17:Int)then(kz OW.op Qb).bind λXf=>some Xf else
 bif OW.op=(18:Int)then(kz OW.op Qb).bind λr_52=>some r_52 else
 (aF Qb (0:Int)).bind λx_53=>(aF Qb (1:Int)).bind λx_54=>(jc OW.op x_53 x_54).bind λXg=>(x7 Xg).bind λr_56=>some r_56)else none
 |.inr q=>some q
def yK (rec:Ex->List Val->Option Val)(OW:Ex)(O3:(List Val)):Option (Val):=(mG OW).bind λO7=>bif (!O7)then(j9 ).bind λPY=>some PY else
 bif OW.op=(1:Int)then some OW.v else
 bif OW.op=(2:Int)then(xx O3 OW.int).bind λP1=>some P1 else
 bif OW.op=(22:Int)then(aF OW.args (0:Int)).bind λR4=>(AY rec R4 O3).bind λQw=>bif Qw=(2:Int)then(aF OW.args (1:Int)).bind λRG=>(rec RG O3).bind λPM=>some PM else
 (aF OW.args (2:Int)).bind λV0=>(rec V0 O3).bind λRm=>some Rm else
 bif 0<=(OW.args.length:Int)then(bif (32:Int)*(OW.args.length:Int)<=281474976710656 then(bif (OW.args.length:Int)<=9223372036854775807 then((ao (mY OW O3 rec) fuel ((List.replicate OW.args.length ((⟨(0:Int),(0:Int),empty⟩:Val))),(0:Int))).bind (bv OW))else none)else none)else none
theorem fR {p q:Prop}(k:q)(h:Bx q->p:=by
 intro hq
 repeat' (first|refine b9 rfl rfl rfl rfl rfl (qS tab_ok (k:=3) (by_:=32) rfl rfl rfl m9 rfl rfl rfl rfl rfl m9 m0 m0 m0) ?_|refine BF (enc:=cV) rfl rfl rfl rfl rfl m0 rfl (λ_=>rfl) rfl ?_|refine gs_ ?_|fail)
 exact hq.out):p:=h ⟨k⟩
theorem bZ {p:Prop}(h:p:=by
 repeat' (first|refine b9 rfl rfl rfl rfl rfl (qS tab_ok (k:=3) (by_:=32) rfl rfl rfl m9 rfl rfl rfl rfl rfl m9 m0 m0 m0) ?_|refine BF (enc:=cV) rfl rfl rfl rfl rfl m0 rfl (λ_=>rfl) rfl ?_|refine gs_ ?_|fail)
 refine aX (bg rfl ?_ ?_)
 ·repeat' (first|exact t7|rfl|exact aqA rfl|omega|apply And.intro)
 ·first|rfl|(simp only[aqD,aqB,aqF,aqv]<;>rfl)):p:=h
theorem aa6 {rec:Ex->List Val->Option Val}  (Pm:∀ {x:Ex} {y:List Val} {r:Val},rec x y=some r->PTz 74 [.agg (tE x),.one (.lst (y.map cV))] (.val (.agg (cV r)))){OW:Ex}{O3:(List Val)}{r:Val}(H:yK rec OW O3=some r):PTz 74 [.agg (tE OW),.one (.lst (O3.map cV))] (.val (.agg (cV r))):=by
 unfold yK at H;rw[aC OW];refine po_ Tryz.func74 Tryz.ntmps74 ?_;obtain⟨O7,c1,H⟩:=bd_ H;replace c1:=gFormed_ok c1
 try simp only[aqD,aqB,aqF,aqv,aC]at c1
 obtain⟨Qr,H⟩|⟨Qr,H⟩:=aj H
 ·obtain⟨PY,c2,H⟩:=bd_ H
  replace c2:=gNull_ok c2
  cases H;exact bZ
 obtain⟨Qf,H⟩|⟨Qf,H⟩:=aj H
 ·cases H
  exact bZ
 refine fR ?_;obtain⟨Q6,H⟩|⟨Q6,H⟩:=aj H
 ·obtain⟨P1,c3,H⟩:=bd_ H
  replace c3:=gColumn_ok c3
  cases H;exact bZ
 obtain⟨R_,H⟩|⟨R_,H⟩:=aj H
 ·obtain⟨R4,Yg,i4,WX,H⟩:=br (f:=tE) H
  simp only[aqD,aqB,aqF,aqv,aC]at WX;obtain⟨Qw,c5,H⟩:=bd_ H;replace c5:=Kw Pm c5
  try simp only[aqD,aqB,aqF,aqv,aC]at c5
  obtain⟨Qn,H⟩|⟨Qn,H⟩:=aj H
  ·obtain⟨RG,i6z,i6,ZG,H⟩:=br (f:=tE) H
   simp only[aqD,aqB,aqF,aqv,aC]at ZG;obtain⟨PM,c7,H⟩:=bd_ H;replace c7:=Pm c7
   try simp only[aqD,aqB,aqF,aqv,aC]at c7
   cases H;exact bZ
  obtain⟨V0,i8z,i8,i8x,H⟩:=br (f:=tE) H;simp only[aqD,aqB,aqF,aqv,aC]at i8x;obtain⟨Rm,c9,H⟩:=bd_ H;replace c9:=Pm c9
  try simp only[aqD,aqB,aqF,aqv,aC]at c9
  cases H;exact bZ
 obtain⟨g10,H⟩:=aL H;obtain⟨g11,H⟩:=aL H;obtain⟨g12,H⟩:=aL H;refine fR ?_;refine alM_ (λs:(List Val)×Int=>match s with|(Qb,RY)=>[(1,.one (.c (.lst (O3.map cV)))),(2,.one (.ptr 0 0)),(4,.one (.ptr 1 0)),(5,.one (.sl 2 (33+65536) 0 OW.args.length)),(52,.one (.c (.lst (OW.args.map tE)))),(53,.one (.c (.int .i64 (OW.args.length:Int)))),(54,.one (.c (.int .i64 RY)))]) (λs=>match s with|(Qb,RY)=>[.box [.c (.int .i64 OW.op),.c (.int .i64 OW.int),.c (.int .i64 OW.v.kind),.c (.int .i64 OW.v.int),.c (.str OW.v.text),.c (.str OW.nm),.c (.lst (OW.args.map tE))],.box [.c (.int .i64 (0:Int)),.c (.int .i64 (0:Int)),.c (.str empty)],.row (33+65536) ((Qb.map cV).map (List.map SV.c)) 3]) H (λ_=>aqL _)
  (fm_ bE [] (by simp only[List.map_replicate]<;>rfl) bm ⟨gG r5,gG r5,iW _ _ _ _ _,t7⟩) ?_
 rintro⟨Qb,RY⟩ QF OU Pz;unfold mY at OU;dsimp only at OU ⊢;obtain⟨SS,OU⟩|⟨SS,OU⟩:=aj OU
 ·obtain⟨V1,i13z,i13,i13x,OU⟩:=br (f:=tE) OU
  simp only[aqD,aqB,aqF,aqv,aC]at i13x;obtain⟨RF,Ws,OU⟩:=bd_ OU;replace Ws:=Pm Ws
  try simp only[aqD,aqB,aqF,aqv,aC]at Ws
  obtain⟨g15,OU⟩:=aL OU;obtain⟨g16,OU⟩:=aL OU;obtain⟨g17,OU⟩:=aL OU
  cases OU;refine fR ?_;exact⟨_,rfl,fm_ bE [_] rfl bm ⟨gG r5,gG r5,iW _ _ _ _ _,t7⟩⟩
 cases OU;have O2:bv OW (.inl (Qb,RY))=some _:=Pz;unfold bv at O2;dsimp only at O2;obtain⟨g18,O2⟩:=aL O2;have z19:((Qb.map cV).drop 0).take OW.args.length=Qb.map cV:=by rw[List.drop_zero,aq5];rw[aqC];omega
 refine mK 2 (cs:=Qb.map cV) rfl (iK _) ?_;simp only[aqB,aqF,thA,thS,and_self,if_true,eq_self,List.set,z19];refine fR ?_;obtain⟨SU,O2⟩|⟨SU,O2⟩:=aj O2
 ·obtain⟨RH,c20,O2⟩:=bd_ O2
  replace c20:=gLogic_ok c20
  cases O2;exact bZ
 obtain⟨TW,O2⟩|⟨TW,O2⟩:=aj O2
 ·obtain⟨Tf,c21,O2⟩:=bd_ O2
  replace c21:=gLogic_ok c21
  cases O2;exact bZ
 obtain⟨UH,O2⟩|⟨UH,O2⟩:=aj O2
 ·obtain⟨Ui,c22,O2⟩:=bd_ O2
  replace c22:=gLogic_ok c22
  cases O2;exact bZ
 refine fR ?_;obtain⟨YC,O2⟩|⟨YC,O2⟩:=aj O2
 ·obtain⟨x_27,i23z,i23,i23x,O2⟩:=br (f:=cV) O2
  obtain⟨r_28,c24,O2⟩:=bd_ O2;replace c24:=gBoolP_ok c24
  cases O2;exact bZ
 obtain⟨q_29,O2⟩|⟨q_29,O2⟩:=aj O2
 ·refine fR ?_
  refine alM_ (λs:Int=>match s with|v_30=>[(4,.one (.ptr 1 0)),(86,.one (.c (.lst (Qb.map cV)))),(87,.one (.c (.int .i64 (Qb.length:Int)))),(88,.one (.c (.int .i64 v_30)))]) (λs=>match s with|v_30=>[.box [.c (.int .i64 OW.op),.c (.int .i64 OW.int),.c (.int .i64 OW.v.kind),.c (.int .i64 OW.v.int),.c (.str OW.v.text),.c (.str OW.nm),.c (.lst (OW.args.map tE))],.box [.c (.int .i64 (0:Int)),.c (.int .i64 (0:Int)),.c (.str empty)],.dead]) O2 (λ_=>aqL _)
   (fm_ bE [] rfl bm cm) ?_
  rintro v_30 ZH PP UD;unfold nf at PP;dsimp only at PP ⊢;obtain⟨YD,PP⟩|⟨YD,PP⟩:=aj PP
  ·obtain⟨UG,i25z,i25,i25x,PP⟩:=br (f:=cV) PP
   refine fR ?_;obtain⟨YE,PP⟩|⟨YE,PP⟩:=aj PP
   ·cases PP
    have Rx:kG (.inr UG)=some _:=UD;unfold kG at Rx;dsimp only at Rx
    cases Rx;exact bZ
   cases PP;refine fR ?_;exact⟨_,rfl,fm_ bE [_] rfl bm cm⟩
  cases PP;have Rx:kG (.inl v_30)=some _:=UD;unfold kG at Rx;dsimp only at Rx;obtain⟨V9,Z3,Rx⟩:=bd_ Rx;replace Z3:=gNull_ok Z3
  cases Rx;exact bZ
 obtain⟨Ym,O2⟩|⟨Ym,O2⟩:=aj O2
 ·obtain⟨Xd,c27,O2⟩:=bd_ O2
  replace c27:=gRelated_ok c27
  cases O2;exact bZ
 refine fR ?_;obtain⟨YF,O2⟩|⟨YF,O2⟩:=aj O2
 ·obtain⟨r_38,c28,O2⟩:=bd_ O2
  replace c28:=gTextE_ok c28
  cases O2;exact bZ
 obtain⟨V2,O2⟩|⟨V2,O2⟩:=aj O2
 ·obtain⟨Xe,c29,O2⟩:=bd_ O2
  replace c29:=gTextE_ok c29
  cases O2;exact bZ
 obtain⟨Yp,O2⟩|⟨Yp,O2⟩:=aj O2
 ·obtain⟨r_42,c30,O2⟩:=bd_ O2
  replace c30:=gArith_ok c30
  cases O2;exact bZ
 refine fR ?_;obtain⟨q_43,O2⟩|⟨q_43,O2⟩:=aj O2
 ·obtain⟨V_,c31,O2⟩:=bd_ O2
  replace c31:=gArith_ok c31
  cases O2;exact bZ
 obtain⟨Yq,O2⟩|⟨Yq,O2⟩:=aj O2
 ·obtain⟨UN,c32,O2⟩:=bd_ O2
  replace c32:=gArith_ok c32
  cases O2;exact bZ
 obtain⟨V4,O2⟩|⟨V4,O2⟩:=aj O2
 ·obtain⟨r_48,c33,O2⟩:=bd_ O2
  replace c33:=gArith_ok c33
  cases O2;exact bZ
 refine fR ?_;obtain⟨q_49,O2⟩|⟨q_49,O2⟩:=aj O2
 ·obtain⟨Xf,c34,O2⟩:=bd_ O2
  replace c34:=gArith_ok c34
  cases O2;exact bZ
 obtain⟨Yr,O2⟩|⟨Yr,O2⟩:=aj O2
 ·obtain⟨r_52,c35,O2⟩:=bd_ O2
  replace c35:=gArith_ok c35
  cases O2;exact bZ
 obtain⟨x_53,i36z,i36,i36x,O2⟩:=br (f:=cV) O2;obtain⟨x_54,i37z,i37,i37x,O2⟩:=br (f:=cV) O2;obtain⟨Xg,c38,O2⟩:=bd_ O2;replace c38:=gComparison_ok c38;obtain⟨r_56,c39,O2⟩:=bd_ O2;replace c39:=gOfV2_ok c39
 cases O2;exact bZ
def uu:Nat->Ex->List Val->Option Val
 |0,_,_=>none
 |n+1,e,r=>yK (uu n) e r
theorem Dv:∀ (n:Nat) {x:Ex} {y:List Val} {r:Val},uu n x y=some r->PTz 74 [.agg (tE x),.one (.lst (y.map cV))] (.val (.agg (cV r)))
 |0,_,_,_,h=>nomatch h
 |n+1,_,_,_,h=>aa6 (Dv n) h
def rZ (OZ:(List Int)):(Int×Int)->Option (Step (Int×Int) (Int×Bool)):=λs=>match s with
 |(QW,Qi)=>bif Qi<(OZ.length:Int)then(aF OZ Qi).bind λPK=>bif PK=(0:Int)then some (.next (QW,(i64.wrap (Qi+(1:Int)))))else
 bif QW≠(0:Int)then bif QW≠PK then some (.ret ((0:Int),false))else
 some (.next (PK,(i64.wrap (Qi+(1:Int)))))else
 some (.next (PK,(i64.wrap (Qi+(1:Int)))))else
 some (.exit (QW,Qi))
def Ol:Sum (Int×Int) (Int×Bool)->Option ((Int×Bool))
 |.inl (QW,Qi)=>some (QW,true)
 |.inr q=>some q
def iT (OZ:(List Int)):Option (Int×Bool):=(ao (rZ OZ) fuel ((0:Int),(0:Int))).bind (Ol)
instance gUnite_ok {OZ : (List Int)} {r : Int × Bool} : OkC (iT OZ = some r) (PTz 226 [.one (.lst (OZ.map (λx => [AC.int .i64 x])))] (.tup [.one (.int .i64 r.1), .one (.bool r.2)])) := .mk λH => by
 unfold iT at H;refine po_ Tryz.func226 Tryz.ntmps226 ?_;refine a6 ?_;refine alM_ (λs:Int×Int=>match s with|(QW,Qi)=>[(4,.one (.c (.int .i64 QW))),(7,.one (.c (.lst (OZ.map (λx=>[AC.int .i64 x]))))),(8,.one (.c (.int .i64 (OZ.length:Int)))),(9,.one (.c (.int .i64 Qi)))]) (λs=>match s with|(QW,Qi)=>[]) H (λ_=>aqL _)
  (fm_ bE [] rfl bm trivial) ?_
 rintro⟨QW,Qi⟩ QF OU Pz;unfold rZ at OU;dsimp only at OU ⊢;obtain⟨P9,OU⟩|⟨P9,OU⟩:=aj OU
 ·obtain⟨PK,Rw,i1,Ri,OU⟩:=br (f:=(λx=>[AC.int .i64 x])) OU
  obtain⟨Q6,OU⟩|⟨Q6,OU⟩:=aj OU
  ·cases OU
   refine a6 ?_;exact⟨_,rfl,fm_ bE [] rfl bm trivial⟩
  obtain⟨QG,OU⟩|⟨QG,OU⟩:=aj OU
  ·obtain⟨R_,OU⟩|⟨R_,OU⟩:=aj OU
   ·exact bA OU Pz
   cases OU;refine a6 ?_;exact⟨_,rfl,fm_ bE [] rfl bm trivial⟩
  cases OU;refine a6 ?_;exact⟨_,rfl,fm_ bE [] rfl bm trivial⟩
 exact bA OU Pz
def aoA:TI :={ tab with owns:=λf=>f==248||tab.owns f }
theorem acB:TIok Tryz.prog aoA:=⟨tab_ok.size,tab_ok.agg,tab_ok.elem,tab_ok.field,tab_ok.zero,tab_ok.bytes,tab_ok.kind,tab_ok.struct,tab_ok.zok,tab_ok.eqs⟩
theorem abj (l:List Int):∀ e∈l.map (λx=>[AC.int .i64 x]),e.length=1:=by intro e he;obtain⟨x,_,rfl⟩:=aq0.1 he;rfl
theorem M_ (l:List Int)(h0:l≠[])(hl:l.length<=1000000):RTz 248 [] [.one (.c (amz l))] [.spare l.length 1] (.one (.own (l.map λx=>[AC.int .i64 x]) 0)):=by
 refine be tab_ok Tryz.func248 rfl rfl Tryz.ntmps248 m5 ?_;simp only[eL];obtain⟨x,r,rfl⟩:∃ x r',l=x::r':=by cases l with|nil=>exact absurd rfl h0|cons x r=>exact⟨x,r,rfl⟩
 have hw:=abj (x::r);have hlen:((x::r).map λx=>[AC.int .i64 x]).length=r.length+1:=by simp
 simp only[aqM]at hl
 repeat' (first|refine gw_ tab_ok tabS_ok ?_|refine gi_ (λhb=>?_) (λhb=>?_)|(refine st_pop rfl rfl rfl rfl ?_ ?_;· (repeat' (first|exact t7|rfl|exact aqA rfl|omega|exact hw|(rw[hlen];omega)|apply And.intro)))|(refine st_lop rfl rfl rfl rfl ?_ ?_;· (repeat' (first|exact t7|rfl|exact aqA rfl|omega|exact hw|(rw[hlen];omega)|apply And.intro)))|(refine sS_ rfl rfl rfl ?_ ?_;· (repeat' (first|exact t7|rfl|exact aqA rfl|omega|exact hw|(rw[hlen];omega)|apply And.intro)))|(refine st_lit rfl rfl rfl rfl ?_ ?_;· (repeat' (first|exact t7|rfl|exact aqA rfl|omega|exact hw|(rw[hlen];omega)|apply And.intro)))|(refine dR rfl rfl rfl rfl rfl (Av rfl rfl (tab_ok.kind 29 _ rfl)) ?_)|fail)
 all_goals exact⟨.inr rfl,⟨.inl ⟨2,rfl,rfl⟩,⟨[],by rw[aqZ];exact congrArg (λn=>[Ob.spare n 1]) m5⟩,aqL _,a8 ⟨t7,t7⟩,by show 0<1;omega⟩⟩
def NE (l:List Int):Bool := !l.isEmpty&&decide (l.length<=100000)
theorem aff {l:List Int}(h:NE l=true):l≠[]/\l.length<=100000:=by
 unfold NE at h;rw[aqI]at h;refine⟨?_,aqT h.2⟩;rintro rfl;exact absurd h.1 m9
theorem N1 {a b:Bool}(h:a=b):(CV.val (.one (.bool a))) = .val (.one (.bool b)):=by rw[h]
def rQ (l:List Int)(k:Int):Option Bool:=bif NE l then(iT (l++[k])).bind λr=>some (bif r.2 then decide (r.1=k)else false)else none
theorem jt {l:List Int}{k:Int}{r:Bool}(H:rQ l k=some r):PTz 225 [.one (.lst (l.map (λx=>[AC.int .i64 x]))),.one (.int .i64 k)] (.val (.one (.bool r))):=by
 unfold rQ at H;obtain⟨g,H⟩:=fS H;refine pa_ acB Tryz.func225 rfl rfl Tryz.ntmps225 m5 ?_;simp only[argT,PV.av,aqB,aqF];obtain⟨h0,hl⟩:=aff g;obtain⟨⟨u1,u2⟩,hun,H⟩:=bd_ H;replace hun:=gUnite_ok hun;have htI:(l++[k]).map (λx=>[AC.int .i64 x])=(l.map λx=>[AC.int .i64 x])++[[.int .i64 k]]:=by simp
 rw[htI]at hun;have hun':PTz 226 [.one (.lst ((l.map λx=>[AC.int .i64 x])++[[.int .i64 k]]))] (.tup [.one (.int .i64 u1),.one (.bool u2)]):=hun;obtain rfl:=aqX H;have hlm:(l.map λx=>[AC.int .i64 x]).length=l.length:=by simp
 repeat' (first
  |refine st_nil ?_
  |(refine st_pop rfl rfl rfl rfl ?_ ?_;· (repeat' (first|exact t7|rfl|exact aqA rfl|omega|(intro e he;simp at he;subst he;rfl)|exact hlm|(show(_+1)*8<=_;omega)|(show _+1<=_;omega)|apply And.intro)))
  |(refine st_lop rfl rfl rfl rfl ?_ ?_;· (repeat' (first|exact t7|rfl|exact aqA rfl|omega|(intro e he;simp at he;subst he;rfl)|exact hlm|(show(_+1)*8<=_;omega)|(show _+1<=_;omega)|apply And.intro)))
  |(refine sS_ rfl rfl rfl ?_ ?_;· (repeat' (first|exact t7|rfl|exact aqA rfl|omega|(intro e he;simp at he;subst he;rfl)|exact hlm|(show(_+1)*8<=_;omega)|(show _+1<=_;omega)|apply And.intro)))
  |(refine st_lit rfl rfl rfl rfl ?_ ?_;· (repeat' (first|exact t7|rfl|exact aqA rfl|omega|(intro e he;simp at he;subst he;rfl)|exact hlm|(show(_+1)*8<=_;omega)|(show _+1<=_;omega)|apply And.intro)))
  |refine st_skip rfl rfl rfl ?_
  |refine sk0_ rfl rfl ?_
  |refine aN rfl rfl rfl rfl hun' rfl ?_
  |(refine cJ [] (r' := .one (.own (l.map λx=>[AC.int .i64 x]) 0)) (L':=[.spare l.length 1]) rfl rfl rfl rfl (M_ l h0 m0) rfl ⟨rfl,m5,λi x hx=>by simp at hx,λx hx=>by simp at hx,bV ⟨t7,t7⟩⟩ rfl rfl ?_)
  |(refine st_if rfl (λhb=>?_) (λhb=>?_)<;>(first|exact(fx_ hb).elim|rw[hb]))
  |refine aw_seq ?_
  |refine aw_region acB _ rfl ?_
  |refine aw_drawn2 tabS_ok _ rfl mixed (by decide +kernel) ?_
  |(refine aw_cond rfl (λhb=>?_) (λhb=>?_)<;>(try exact(fx_ hb).elim))
  |refine aw_block ?_
  |refine aw_exit ?_
  |refine aw_ret ?_
  |refine aw_skip ?_)
 all_goals (refine aX (bg rfl (by trivial) (N1 ?_));simp only[*, aqs,aqr])
def gRsP (OW:Ex)(OZ:(List Int)):Option (Int×Bool):=bif OW.op=(1:Int)then some (OW.v.kind,true)else
 bif OW.op=(4:Int)then(rQ OZ (3:Int)).bind λPY=>some ((3:Int),PY)else
 bif OW.op=(5:Int)then(rQ OZ (3:Int)).bind λPW=>some ((3:Int),PW)else
 bif OW.op=(6:Int)then(rQ OZ (3:Int)).bind λQk=>some ((3:Int),Qk)else
 bif OW.op=(7:Int)then(iT OZ).bind λQw=>some ((3:Int),Qw.2)else
 bif OW.op=(8:Int)then(iT OZ).bind λQu=>some ((3:Int),Qu.2)else
 bif OW.op=(9:Int)then(iT OZ).bind λQv=>some ((3:Int),Qv.2)else
 bif OW.op=(10:Int)then(iT OZ).bind λSj=>some ((3:Int),Sj.2)else
 bif OW.op=(11:Int)then(iT OZ).bind λQ2=>some ((3:Int),Q2.2)else
 bif OW.op=(12:Int)then(iT OZ).bind λRF=>some ((3:Int),RF.2)else
 bif OW.op=(19:Int)then(rQ OZ (2:Int)).bind λRH=>some ((2:Int),RH)else
 bif OW.op=(20:Int)then(rQ OZ (2:Int)).bind λTf=>some ((1:Int),Tf)else
 bif OW.op=(21:Int)then some ((3:Int),true)else
 bif OW.op=(22:Int)then(gU OZ (1:Int) (OZ.length:Int)).bind λs_26=>(iT s_26).bind λVl=>bif Vl.2 then(gU OZ (0:Int) (1:Int)).bind λs_29=>(rQ s_29 (3:Int)).bind λXh=>some (Vl.1,Xh)else
 some (Vl.1,false)else
 bif OW.op=(23:Int)then(iT OZ).bind λr_32=>some (r_32.1,r_32.2)else
 bif OW.op=(24:Int)then(rQ OZ (1:Int)).bind λV9=>some ((3:Int),V9)else
 (rQ OZ (1:Int)).bind λVm=>some ((1:Int),Vm)
instance gResultP_ok {OW : Ex} {OZ : (List Int)} {r : Int × Bool} : OkC (gRsP OW OZ = some r) (PTz 177 [.agg (tE OW), .one (.lst (OZ.map (λx => [AC.int .i64 x])))] (.tup [.one (.int .i64 r.1), .one (.bool r.2)])) := .mk λH => by
 unfold gRsP at H;rw[aC OW];refine po_ Tryz.func177 Tryz.ntmps177 ?_;obtain⟨QM,H⟩|⟨QM,H⟩:=aj H
 ·exact ay H
 obtain⟨Qr,H⟩|⟨Qr,H⟩:=aj H
 ·obtain⟨PY,c1,H⟩:=bd_ H
  replace c1:=jt c1;exact ay H
 refine a6 ?_;obtain⟨Qf,H⟩|⟨Qf,H⟩:=aj H
 ·obtain⟨PW,c2,H⟩:=bd_ H
  replace c2:=jt c2;exact ay H
 obtain⟨QG,H⟩|⟨QG,H⟩:=aj H
 ·obtain⟨Qk,c3,H⟩:=bd_ H
  replace c3:=jt c3;exact ay H
 obtain⟨Si,H⟩|⟨Si,H⟩:=aj H
 ·exact ay H
 refine a6 ?_;obtain⟨Qn,H⟩|⟨Qn,H⟩:=aj H
 ·exact ay H
 obtain⟨Rj,H⟩|⟨Rj,H⟩:=aj H
 ·exact ay H
 obtain⟨QA,H⟩|⟨QA,H⟩:=aj H
 ·exact ay H
 refine a6 ?_;obtain⟨TO,H⟩|⟨TO,H⟩:=aj H
 ·exact ay H
 obtain⟨Rl,H⟩|⟨Rl,H⟩:=aj H
 ·exact ay H
 obtain⟨SU,H⟩|⟨SU,H⟩:=aj H
 ·obtain⟨RH,Wv,H⟩:=bd_ H
  replace Wv:=jt Wv;exact ay H
 refine a6 ?_;obtain⟨TW,H⟩|⟨TW,H⟩:=aj H
 ·obtain⟨Tf,Vu,H⟩:=bd_ H
  replace Vu:=jt Vu;exact ay H
 obtain⟨UH,H⟩|⟨UH,H⟩:=aj H
 ·exact ay H
 obtain⟨q_25,H⟩|⟨q_25,H⟩:=aj H
 ·obtain⟨s_26,u12,H⟩:=bd_ H
  obtain⟨⟨u12a,u12b,u12c⟩,u12⟩:=cQ u12;have YG:=zm (f:=(λx=>[AC.int .i64 x])) u12;obtain⟨Vl,UE,H⟩:=bd_ H;replace UE:=gUnite_ok UE
  repeat' (first|refine gs_ ?_|rw[YG]|rw[show((0:Nat):Int)=0 from rfl])
  obtain⟨YH,H⟩|⟨YH,H⟩:=aj H
  ·obtain⟨s_29,u14,H⟩:=bd_ H
   obtain⟨⟨u14a,u14b,u14c⟩,u14⟩:=cQ u14;have u14x:=zm (f:=(λx=>[AC.int .i64 x])) u14;obtain⟨Xh,Zb,H⟩:=bd_ H;replace Zb:=jt Zb
   cases H
   repeat' (first|refine gs_ ?_|rw[YG]|rw[u14x]|rw[show((0:Nat):Int)=0 from rfl])
   refine aX (bg rfl ?_ ?_)
   ·repeat' (first|exact t7|rfl|exact aqA rfl|omega|apply And.intro)
   ·first|rfl|(simp only[aqD,aqB,aqF,aqv]<;>rfl)
  cases H
  repeat' (first|refine gs_ ?_|rw[YG]|rw[show((0:Nat):Int)=0 from rfl])
  refine aX (bg rfl ?_ ?_)
  ·repeat' (first|exact t7|rfl|exact aqA rfl|omega|apply And.intro)
  ·first|rfl|(simp only[aqD,aqB,aqF,aqv]<;>rfl)
 refine a6 ?_;obtain⟨YD,H⟩|⟨YD,H⟩:=aj H
 ·exact ay H
 obtain⟨YE,H⟩|⟨YE,H⟩:=aj H
 ·obtain⟨V9,Zc,H⟩:=bd_ H
  replace Zc:=jt Zc;exact ay H
 obtain⟨Vm,Zd,H⟩:=bd_ H;replace Zd:=jt Zd;exact ay H
def ez (OW:Ex)(PS:Int)(rec:Ex->Int->Option Int):(Int×Int)->Option (Step (Int×Int) (Int)):=λs=>match s with
 |(SY,P5)=>bif P5<(OW.args.length:Int)then(aF OW.args P5).bind λQa=>(rec Qa (i64.wrap (PS-(1:Int)))).bind λP1=>some (.next ((EE SY (i64.wrap ((1:Int)+P1))),(i64.wrap (P5+(1:Int)))))else
 some (.exit (SY,P5))
def G6:Sum (Int×Int) (Int)->Option ((Int))
 |.inl (SY,P5)=>some SY
 |.inr q=>some q
def rV (rec:Ex->Int->Option Int)(OW:Ex)(PS:Int):Option (Int):=bif PS<=(1:Int)then some (1:Int)else
 (ao (ez OW PS rec) fuel ((1:Int),(0:Int))).bind (G6)
theorem GE {rec:Ex->Int->Option Int}  (Pm:∀ {x:Ex} {y:Int} {r:Int},rec x y=some r->PTz 175 [.agg (tE x),.one (.int .i64 y)] (.val (.one (.int .i64 r)))){OW:Ex}{PS:Int}{r:Int}(H:rV rec OW PS=some r):PTz 175 [.agg (tE OW),.one (.int .i64 PS)] (.val (.one (.int .i64 r))):=by
 unfold rV at H;rw[aC OW];refine po_ Tryz.func175 Tryz.ntmps175 ?_;obtain⟨QM,H⟩|⟨QM,H⟩:=aj H
 ·exact ay H
 refine a6 ?_;refine alM_ (λs:Int×Int=>match s with|(SY,P5)=>[(1,.one (.c (.int .i64 PS))),(5,.one (.c (.int .i64 SY))),(11,.one (.c (.lst (OW.args.map tE)))),(12,.one (.c (.int .i64 (OW.args.length:Int)))),(13,.one (.c (.int .i64 P5)))]) (λs=>match s with|(SY,P5)=>[.box [.c (.int .i64 OW.op),.c (.int .i64 OW.int),.c (.int .i64 OW.v.kind),.c (.int .i64 OW.v.int),.c (.str OW.v.text),.c (.str OW.nm),.c (.lst (OW.args.map tE))]]) H (λ_=>aqL _)
  (fm_ bE [] rfl bm cm) ?_
 rintro⟨SY,P5⟩ QF OU Pz;unfold ez at OU;dsimp only at OU ⊢;obtain⟨Qf,OU⟩|⟨Qf,OU⟩:=aj OU
 ·obtain⟨Qa,Rw,i1,Ri,OU⟩:=br (f:=tE) OU
  simp only[aqD,aqB,aqF,aqv,aC]at Ri;obtain⟨P1,c2,OU⟩:=bd_ OU;replace c2:=Pm c2
  try simp only[aqD,aqB,aqF,aqv,aC]at c2
  cases OU;refine a6 ?_;exact⟨_,rfl,fm_ bE [_] rfl bm cm⟩
 exact bA OU Pz
def pZ:Nat->Ex->Int->Option Int
 |0,_,_=>none
 |n+1,x,y=>rV (pZ n) x y
theorem zW:∀ (n:Nat) {x:Ex} {y:Int} {r:Int},pZ n x y=some r->PTz 175 [.agg (tE x),.one (.int .i64 y)] (.val (.one (.int .i64 r)))
 |0,_,_,_,h=>nomatch h
 |n+1,_,_,_,h=>GE (zW n) h
def afH (OW:Ex):Option (Int):=(pZ fuel OW (25:Int)).bind λO7=>some O7
instance gDepP_ok {OW : Ex} {r : Int} : OkC (afH OW = some r) (PTz 108 [.agg (tE OW)] (.val (.one (.int .i64 r)))) := .mk λH => by
 unfold afH at H;rw[aC OW];refine po_ Tryz.func108 Tryz.ntmps108 ?_;obtain⟨O7,c1,H⟩:=bd_ H;replace c1:=zW fuel c1
 try simp only[aqD,aqB,aqF,aqv,aC]at c1
 exact ay H
def lI (OW:Ex)(O6:(List Int))(rec:Ex->List Int->Option (Int×Int)):((List Int)×Int)->Option (Step ((List Int)×Int) (Int×Int)):=λs=>match s with
 |(Ww,TX)=>bif TX<(OW.args.length:Int)then(aF OW.args TX).bind λQ8=>(rec Q8 O6).bind λQv=>bif Qv.2≠(0:Int)then some (.ret ((0:Int),Qv.2))else
 bif Ww.length+1<=17592186044416 then(some (.next ((Ww++[Qv.1]),(i64.wrap (TX+(1:Int))))))else none else
 some (.exit (Ww,TX))
def vZ (OW:Ex):Sum ((List Int)×Int) (Int×Int)->Option ((Int×Int))
 |.inl (Ww,TX)=>(gRsP OW Ww).bind λSj=>bif (!Sj.2)then some ((0:Int),(7:Int))else
 some (Sj.1,(0:Int))
 |.inr q=>some q
def rI (rec:Ex->List Int->Option (Int×Int))(OW:Ex)(O6:(List Int)):Option (Int×Int):=(pc OW.op (OW.args.length:Int)).bind λO7=>bif (!O7.2)then some ((0:Int),(7:Int))else
 (mG OW).bind λPY=>bif (!PY)then some ((0:Int),(8:Int))else
 bif OW.op=(2:Int)then bif OW.int<(0:Int)then some ((0:Int),(13:Int))else
 bif (O6.length:Int)<=OW.int then some ((0:Int),(13:Int))else
 (aF O6 OW.int).bind λR4=>some (R4,(0:Int))else
 (ao (lI OW O6 rec) fuel ([],(0:Int))).bind (vZ OW)
theorem Gn {rec:Ex->List Int->Option (Int×Int)}  (Pm:∀ {x:Ex} {y:List Int} {r:Int×Int},rec x y=some r->PTz 109 [.agg (tE x),.one (.lst (y.map (λx=>[AC.int .i64 x])))] (.tup [.one (.int .i64 r.1),.one (.int .i64 r.2)])){OW:Ex}{O6:(List Int)}{r:Int×Int}(H:rI rec OW O6=some r):PTz 109 [.agg (tE OW),.one (.lst (O6.map (λx=>[AC.int .i64 x])))] (.tup [.one (.int .i64 r.1),.one (.int .i64 r.2)]):=by
 unfold rI at H;rw[aC OW];refine po_ Tryz.func109 Tryz.ntmps109 ?_;obtain⟨O7,c1,H⟩:=bd_ H;replace c1:=gCounts_ok c1;obtain⟨Qr,H⟩|⟨Qr,H⟩:=aj H
 ·exact ay H
 obtain⟨PY,c2,H⟩:=bd_ H;replace c2:=gFormed_ok c2
 try simp only[aqD,aqB,aqF,aqv,aC]at c2
 obtain⟨Qf,H⟩|⟨Qf,H⟩:=aj H
 ·exact ay H
 obtain⟨Q6,H⟩|⟨Q6,H⟩:=aj H
 ·exact ay H
 refine a6 ?_;refine bS 8 1 rfl ?_;refine alM_ (λs:(List Int)×Int=>match s with|(Ww,TX)=>[(1,.one (.c (.lst (O6.map (λx=>[AC.int .i64 x]))))),(2,.one (.ptr 0 0)),(8,.one (.own (Ww.map (λx=>[AC.int .i64 x])) 1)),(48,.one (.c (.lst (OW.args.map tE)))),(49,.one (.c (.int .i64 (OW.args.length:Int)))),(50,.one (.c (.int .i64 TX)))]) (λs=>match s with|(Ww,TX)=>[.box [.c (.int .i64 OW.op),.c (.int .i64 OW.int),.c (.int .i64 OW.v.kind),.c (.int .i64 OW.v.int),.c (.str OW.v.text),.c (.str OW.nm),.c (.lst (OW.args.map tE))],.spare Ww.length 1]) H (λ_=>aqL _)
  (fm_ bE [] rfl bm cm) ?_
 rintro⟨Ww,TX⟩ QF OU Pz;unfold lI at OU;dsimp only at OU ⊢;obtain⟨QN,OU⟩|⟨QN,OU⟩:=aj OU
 ·obtain⟨Q8,Yg,i4,WX,OU⟩:=br (f:=tE) OU
  simp only[aqD,aqB,aqF,aqv,aC]at WX;obtain⟨Qv,c5,OU⟩:=bd_ OU;replace c5:=Pm c5
  try simp only[aqD,aqB,aqF,aqv,aC]at c5
  obtain⟨QA,OU⟩|⟨QA,OU⟩:=aj OU
  ·exact bA OU Pz
  obtain⟨g6,OU⟩:=aL OU
  cases OU;refine a6 ?_;exact⟨_,rfl,fm_ sg [_] qG bm cm⟩
 exact bA OU Pz
def pE:Nat->Ex->List Int->Option (Int×Int)
 |0,_,_=>none
 |n+1,x,y=>rI (pE n) x y
theorem zQ:∀ (n:Nat) {x:Ex} {y:List Int} {r:Int×Int},pE n x y=some r->PTz 109 [.agg (tE x),.one (.lst (y.map (λx=>[AC.int .i64 x])))] (.tup [.one (.int .i64 r.1),.one (.int .i64 r.2)])
 |0,_,_,_,h=>nomatch h
 |n+1,_,_,_,h=>Gn (zQ n) h
def Me (OW:Ex)(O6:(List Int)):Option (Int×Int):=(afH OW).bind λO7=>bif (24:Int)<O7 then some ((0:Int),(26:Int))else
 (pE fuel OW O6).bind λPY=>some (PY.1,PY.2)
instance gChkP_ok {OW : Ex} {O6 : (List Int)} {r : Int × Int} : OkC (Me OW O6 = some r) (PTz 73 [.agg (tE OW), .one (.lst (O6.map (λx => [AC.int .i64 x])))] (.tup [.one (.int .i64 r.1), .one (.int .i64 r.2)])) := .mk λH => by
 unfold Me at H;rw[aC OW];refine po_ Tryz.func73 Tryz.ntmps73 ?_;obtain⟨O7,c1,H⟩:=bd_ H;replace c1:=gDepP_ok c1
 try simp only[aqD,aqB,aqF,aqv,aC]at c1
 obtain⟨Qr,H⟩|⟨Qr,H⟩:=aj H
 ·exact ay H
 obtain⟨PY,c2,H⟩:=bd_ H;replace c2:=zQ fuel c2
 try simp only[aqD,aqB,aqF,aqv,aC]at c2
 exact ay H
noncomputable section
def Bg (OW:Ex)(O3:(List Val)):Option (Int):=(uu fuel OW O3).bind λO7=>(jL O7).bind λQd=>some Qd
instance gTruthE_ok {OW : Ex} {O3 : (List Val)} {r : Int} : OkC (Bg OW O3 = some r) (PTz 90 [.agg (tE OW), .one (.lst (O3.map cV))] (.val (.one (.int .i64 r)))) := .mk λH => by
 unfold Bg at H;rw[aC OW];refine po_ Tryz.func90 Tryz.ntmps90 ?_;obtain⟨O7,c1,H⟩:=bd_ H;replace c1:=Dv fuel c1
 try simp only[aqD,aqB,aqF,aqv,aC]at c1
 exact ay H
end
def Jj (Pe:ax)(PN:ax):Option (Bool):=(gPV Pe).bind λO7=>bif O7 then(gPV PN).bind λPY=>bif PY then bif Pe.lo<PN.hi then some (decide (PN.lo<Pe.hi))else
 some false else
 some false else
 some false
instance gOverP_ok {Pe : ax} {PN : ax} {r : Bool} : OkC (Jj Pe PN = some r) (PTz 144 [.agg (aP Pe), .agg (aP PN)] (.val (.one (.bool r)))) := .mk λH => by
 unfold Jj at H;refine po_ Tryz.func144 Tryz.ntmps144 ?_;exact ay H
def BG (Pe:ax)(PN:ax):Option (ax×Bool):=(Jj Pe PN).bind λO7=>bif (!O7)then some ((⟨(0:Int),(0:Int)⟩:ax),false)else
 some ((⟨(EE Pe.lo PN.lo),(mnI Pe.hi PN.hi)⟩:ax),true)
instance gInterP_ok {Pe : ax} {PN : ax} {r : ax × Bool} : OkC (BG Pe PN = some r) (PTz 91 [.agg (aP Pe), .agg (aP PN)] (.tup [.agg (aP r.1), .one (.bool r.2)])) := .mk λH => by
 unfold BG at H;refine po_ Tryz.func91 Tryz.ntmps91 ?_;exact ay H
end Go.Proofs.YtlcceppoloaecaaGreatDoor
namespace Go.Proofs
open Go.Shelf
def Tryz.growV_ren:Go.Shelf.Ren:=⟨λ|4=>155|n=>n,λ|22=>50|25=>33|3=>3|4=>4|9=>9|20=>20|0=>0|n=>n,λ|n=>n⟩
theorem Tryz.growV:Go.Proofs.Lays8.n4 Tryz.prog Tryz.growV_ren :={
 mixed:=k7
 f4:=⟨Tryz.f155.name,by decide,Tryz.func155.trans (congrArg some k7)⟩
 t0:=Tryz.underlying0
 a0:=Tryz.isAgg0
 z0:=Tryz.sizeOf0
 v0:=Tryz.zeroValue0
 t3:=Tryz.underlying3
 a3:=Tryz.isAgg3
 z3:=Tryz.sizeOf3
 v3:=Tryz.zeroValue3
 t4:=Tryz.underlying4
 a4:=Tryz.isAgg4
 z4:=Tryz.sizeOf4
 v4:=Tryz.zeroValue4
 t9:=Tryz.underlying9
 a9:=Tryz.isAgg9
 z9:=Tryz.sizeOf9
 v9:=Tryz.zeroValue9
 t20:=Tryz.underlying20
 a20:=Tryz.isAgg20
 z20:=Tryz.sizeOf20
 v20:=Tryz.zeroValue20
 t22:=Tryz.underlying50
 a22:=Tryz.isAgg50
 z22:=Tryz.sizeOf50
 v22:=Tryz.zeroValue50 }
end Go.Proofs
namespace Go.Proofs.YtlcceppoloaecaaGreatDoor
open _root_.ByteArray (empty)
open IntKind (i64)
open Go.RowKit Go.MapKept
theorem aer (n:Nat)(h0:0<n)(hn:n<=1000000000):RTz 155 [] [.one .emp,.one (.c (.int .i64 n))] [.row (33+65536) [] 3] (.one (.sl 0 (33+65536) 0 0)):=by
 refine⟨⟨_,Tryz.func155,k7,k7⟩,λB R γ w vs hi hs hv=>?_⟩;obtain⟨v1,v2,rfl⟩:∃ a b,vs=#[a,b]:=by
  match vs,hs with
  |⟨[a,b]⟩,_=>exact⟨a,b,rfl⟩
 obtain⟨a,rfl⟩:=hv 0 v1 _ rfl rfl;have h2:bD R v2 (.int .i64 n):=hv 1 v2 _ rfl rfl
 cases h2;obtain⟨inf,z,P6,R6,QX,U7⟩:=am.zok 33 rfl 3 (am.size _ _ rfl);have Qs:inf.bytes=32:=by have S3:=am.bytes 33 32 rfl;unfold ky at S3;rw[P6]at S3;simpa using S3
 have hgr:=Any8.slices_Grow_grow Tryz.growV inf z P6 R6 (by rw[QX];decide) a 0 0 n [] w (aqG _) m0 (by rw[Qs];omega) m0 m5 (λ_=>rfl) (λ_ _ j v h=>by simp at h);refine(show Calls Tryz.prog 155 #[.slice a 0 0,.int .i64 n] w _ from hgr).mono ?_;rintro e w' ⟨rfl,rfl⟩;have SH:=grownCap_ge w (0+n) 0 33;have hE:(Tryz.growV_ren.t 25)=33:=rfl;rw[hE];generalize grownCap w (0+n) 0 33=cap at SH;have hγ:γ=[]:=aqQ (by rw[hi.len];rfl);subst hγ;have hm:Mv R R ([]:List Gh) ([]++[.arr w.heap.size cap]) [] ([]++[.row (33+65536) [] 3]):=Mv.push _ _ hi.len;have Vd:Inv B R ([]++[.arr w.heap.size cap]) ([]++[.row (33+65536) [] 3]) (w.alloc (.cells (([]:List Value).toArray++Builtin.zeroCells z.cells (0+n-0)++Builtin.zeroCells z.cells (cap-(0+n))) 33)):=by
  refine hi.push _ _ _ rfl ⟨⟨_,33,⟨dr w _,by show(33:Nat)=(33+65536)%65536;omega,by show 65536<=(33:Nat)+65536;omega⟩,?_,λi e j u x he hu hx=>by simp at he⟩,aqL _,by decide,(λe he=>by cases he),λo=>hi.none_at o⟩;rw[Array.size_append,Array.size_append,size_zeroCells,size_zeroCells,U7];simp only[List.size_toArray,aqV];rw[aq8,<- Nat.add_mul];congr 1;omega
 refine⟨_,R,_,rfl,⟨Vd.len,λb o u h=>Vd.val b o u h,λi x g h1 h2=>(Vd.obj i x g h1 h2).mv Mv.refl (λ_ _=>rfl) (λ_ _ _ h=>h),Vd.inj,Vd.new,Vd.bsz⟩,⟨⟨rfl,rfl,rfl,by show w.heap.size<=(w.heap.push _).size;simp,λb hb=>eW w.drew _ (hi.bsz b hb)⟩,PH.sub_refl _,λ_ _ _=>rfl⟩,hm,⟨rfl,rfl⟩,m5,λQ5 TZ k2 e2=>?_⟩;simp at e2;obtain⟨q1,q2,q3⟩:=e2;subst q1 q2 q3;exact⟨aqG _,λ_=>⟨m5,.arr w.heap.size cap,rfl,.inl m5⟩⟩
def amx:TI :={ tab with owns:=λf=>f==155||tab.owns f }
theorem gJ:TIok Tryz.prog amx:=⟨tab_ok.size,tab_ok.agg,tab_ok.elem,tab_ok.field,tab_ok.zero,tab_ok.bytes,tab_ok.kind,tab_ok.struct,tab_ok.zok,tab_ok.eqs⟩
def ND (a b:List Val):Nat->Nat
 |0=>0
 |1=>a.length
 |_=>a.length+b.length
def aiZ (a b:List Val):Nat->List Val
 |0=>[]
 |1=>a
 |_=>a++b
theorem MJ (l:List Val):∀ e∈l.map cV,e.length=3:=by intro e he;obtain⟨x,_,rfl⟩:=aq0.1 he;rfl
theorem Ik {id v w n m:Nat}(h:n=m)(hv:v=w):some (AV.one (.sl id v 0 n))=some (AV.one (.sl id w 0 m)):=by subst h hv;rfl
theorem acE {v w k:Nat}{a b:List (List SV)}(h:a=b)(hv:v=w):[Ob.row v a k]=[Ob.row w b k]:=by rw[h,hv]
theorem Gl (a b:List Val)(h0:0<a.length+b.length)(h1:a.length+b.length<=1000000):PTz 97 [.one (.lst [[ce a],[ce b]])] (.val (.one (ce (a++b)))):=by
 refine pa_ gJ Tryz.func97 rfl rfl Tryz.ntmps97 m5 ?_;simp only[argT,PV.av,aqB,aqF];have ha:(((a.map cV).length:Nat):Int)=a.length:=by simp
 have hb:(((b.map cV).length:Nat):Int)=b.length:=by simp
 have w1:i64.wrap (((ND a b 0:Nat):Int)+((a.map cV).length:Nat))=((ND a b 1:Nat):Int):=by rw[ha];exact aZ (by simp[ND]) (by simp only[ND];omega)
 have w2:i64.wrap (((ND a b 1:Nat):Int)+((b.map cV).length:Nat))=((ND a b 2:Nat):Int):=by rw[hb];exact aZ (by simp[ND]) (by simp only[ND];omega)
 have n1:decide (((ND a b 1:Nat):Int)<0)=false:=aqt m0;have n2:decide (((ND a b 2:Nat):Int)<0)=false:=aqt m0
 repeat' (first|refine gw_ gJ tabS_ok ?_|refine gi_ (λhb=>?_) (λhb=>?_)|fail)
 refine cu (λi:Nat=>[(0,.one (.c (.lst [[ce a],[ce b]]))),(3,.one (.c (.int .i64 (ND a b i)))),(9,.one (.c (.lst [[ce a],[ce b]]))),(10,.one (.c (.int .i64 2))),(11,.one (.c (.int .i64 i)))]) (λ_=>[]) (λi=>i<=2) (λi=>2-i) 0 m0 (λ_ _=>aqL _)
  (fm_ ⟨rfl,rfl,rfl,rfl,rfl,t7⟩ [] rfl (by repeat' (first|exact t7|apply And.intro)) (by repeat' (first|exact t7|apply And.intro))) ?_
 intro i hi
 match i,hi with
 |0,_ =>
  repeat' (first|rw[w1]|rw[n1]|refine gw_ gJ tabS_ok ?_|refine gi_ (λhb=>?_) (λhb=>?_)|fail)
  exact⟨1,m0,m0,fm_ ⟨rfl,rfl,rfl,rfl,rfl,t7⟩ [] rfl (by repeat' (first|exact t7|apply And.intro)) (by repeat' (first|exact t7|apply And.intro))⟩
 |1,_ =>
  repeat' (first|rw[w2]|rw[n2]|refine gw_ gJ tabS_ok ?_|refine gi_ (λhb=>?_) (λhb=>?_)|fail)
  exact⟨2,m0,m0,fm_ ⟨rfl,rfl,rfl,rfl,rfl,t7⟩ [] rfl (by repeat' (first|exact t7|apply And.intro)) (by repeat' (first|exact t7|apply And.intro))⟩
 |2,_ =>
  have hg:=aer (a.length+b.length) h0 m0
  repeat' (first|(refine cJ [] (r' := .one (.sl 0 (33+65536) 0 0)) (L':=[.row (33+65536) [] 3]) rfl rfl rfl rfl hg rfl ⟨rfl,m5,λi x hx=>by simp at hx,λx hx=>by simp at hx,bV ⟨t7,t7,t7⟩⟩ rfl rfl ?_)|refine gw_ gJ tabS_ok ?_|refine gi_ (λhb=>?_) (λhb=>?_)|fail)
  refine cu (λi:Nat=>[(6,.one (.sl 0 (33+65536+65536*i) 0 (ND a b i))),(25,.one (.c (.lst [[ce a],[ce b]]))),(26,.one (.c (.int .i64 2))),(27,.one (.c (.int .i64 i)))]) (λi=>[.row (33+65536+65536*i) (((aiZ a b i).map cV).map (List.map SV.c)) 3]) (λi=>i<=2) (λi=>2-i) 0 m0 (λ_ _=>aqL _)
   (fm_ ⟨Ik rfl m0,rfl,rfl,rfl,t7⟩ [] (acE rfl m0) ⟨Nat.zero_lt_one,t7,t7,t7,t7⟩ ⟨iW _ _ _ _ _,t7⟩) ?_
  intro i hi
  match i,hi with
  |0,_ =>
   repeat' (first|(refine b9 rfl rfl rfl rfl rfl (ee gJ (k:=3) (by_:=32) (xs:=(a.map cV).map (List.map SV.c)) rfl rfl rfl rfl ⟨rfl,_,rfl,MJ _⟩ rfl m0 rfl rfl rfl m9 (by simp[aiZ,ND]) (by rw[aqC,aqC];simp only[ND];omega) (by rw[aqC,aqC];simp only[ND];omega)) ?_)|refine gw_ gJ tabS_ok ?_|refine gi_ (λhb=>?_) (λhb=>?_)|fail)
   exact⟨1,m0,m0,fm_ ⟨Ik (by simp[ND]) m0,rfl,rfl,rfl,t7⟩ [] (acE (by simp[aiZ]) m0) ⟨Nat.zero_lt_one,t7,t7,t7,t7⟩ ⟨iW _ _ _ _ _,t7⟩⟩
  |1,_ =>
   repeat' (first|(refine b9 rfl rfl rfl rfl rfl (ee gJ (k:=3) (by_:=32) (xs:=(b.map cV).map (List.map SV.c)) rfl rfl rfl rfl ⟨rfl,_,rfl,MJ _⟩ rfl m0 rfl rfl rfl m9 (by simp[aiZ,ND]) (by rw[aqC,aqC];simp only[ND];omega) (by rw[aqC,aqC];simp only[ND];omega)) ?_)|refine gw_ gJ tabS_ok ?_|refine gi_ (λhb=>?_) (λhb=>?_)|fail)
   exact⟨2,m0,m0,fm_ ⟨Ik (by simp[ND]) m0,rfl,rfl,rfl,t7⟩ [] (acE (by simp[aiZ]) m0) ⟨Nat.zero_lt_one,t7,t7,t7,t7⟩ ⟨iW _ _ _ _ _,t7⟩⟩
  |2,_ =>
   refine iL 0 6 (cs:=(a++b).map cV) rfl (iK _) rfl (by rw[aqC,aqy];rfl) ?_
   repeat' (first|refine gw_ gJ tabS_ok ?_|refine gi_ (λhb=>?_) (λhb=>?_)|fail)
   exact aX (bg rfl (by trivial) rfl)
def abA (a b:List Val):Bool:=decide (0<a.length+b.length)&&decide (a.length+b.length<=1000000)
def u7 (a b:List Val):Option (List Val):=bif abA a b then some (a++b)else none
theorem uI {a b r:List Val}(H:u7 a b=some r):PTz 59 [.one (.lst (a.map cV)),.one (.lst (b.map cV))] (.val (.one (.lst (r.map cV)))):=by
 unfold u7 at H;obtain⟨g,H⟩:=fS H;obtain rfl:=aqX H;unfold abA at g;rw[aqI]at g;have hc:=Gl a b (aqT g.1) (aqT g.2);refine po_ Tryz.func59 Tryz.ntmps59 ?_
 repeat' (first|refine t_ rfl rfl rfl rfl ?_|refine aN rfl rfl rfl rfl hc rfl ?_|refine gw_ tab_ok tabS_ok ?_|refine gi_ (λhb=>?_) (λhb=>?_)|fail)
 exact aX (bg rfl (by trivial) rfl)
def Ih (n:Int):Option (List Val):=bif decide (n<1)then some []else bif decide (4096<n)then some []else some (List.replicate n.toNat ⟨0,0,empty⟩)
theorem IR {n:Int}{r:List Val}(H:Ih n=some r):PTz 60 [.one (.int .i64 n)] (.val (.one (.lst (r.map cV)))):=by
 unfold Ih at H;have hnr:d_ (List.replicate n.toNat [SV.c (.int .i64 0),.c (.int .i64 0),.c (.str empty)])=some (List.replicate n.toNat (cV ⟨0,0,empty⟩)):=by
  have:=iK (List.replicate n.toNat (cV ⟨0,0,empty⟩));rwa[List.map_replicate]at this
 refine po_ Tryz.func60 Tryz.ntmps60 ?_;rcases h1:decide (n<1)with _|_
 ·rw[h1,aqr]at H
  rcases h2:decide (4096<n)with _|_
  ·rw[h2,aqr]at H
   obtain rfl:=aqX H;have g1:=of_decide_eq_false h1;have g2:=of_decide_eq_false h2
   repeat' (first|rw[h1]|rw[h2]|(refine b9 rfl rfl rfl rfl rfl (qS tab_ok (k:=3) (by_:=32) rfl rfl rfl m9 rfl rfl rfl rfl rfl m9 m0 m0 m0) ?_)|(refine iL 0 2 (cs:=List.replicate n.toNat (cV ⟨0,0,empty⟩)) rfl hnr rfl m5 ?_)|refine gw_ tab_ok tabS_ok ?_|refine gi_ (λhb=>?_) (λhb=>?_)|fail)
   exact aX (bg rfl (by trivial) (by rw[List.map_replicate];rfl))
  ·rw[h2,aqs]at H
   obtain rfl:=aqX H
   repeat' (first|rw[h1]|rw[h2]|refine gw_ tab_ok tabS_ok ?_|refine gi_ (λhb=>?_) (λhb=>?_)|fail)
   exact aX (bg rfl (by trivial) rfl)
 ·rw[h1,aqs]at H
  obtain rfl:=aqX H
  repeat' (first|rw[h1]|refine gw_ tab_ok tabS_ok ?_|refine gi_ (λhb=>?_) (λhb=>?_)|fail)
  exact aX (bg rfl (by trivial) rfl)
def wA (row:List Val)(i:Int):Val:=if 0<=i then(row[i.toNat]?).getD bK else bK
theorem aho (row:List Val)(i:Int):gAt row i=some (wA row i):=by
 unfold gAt wA;by_cases h1:i<0
 ·rw[aqu h1,aqs,if_neg m0];rfl
 ·rw[aqt h1,aqr,if_pos m0]
  by_cases h2:(row.length:Int)<=i
  ·rw[aqu h2,aqs,ard m0];rfl
  ·rw[aqt h2,aqr]
   obtain⟨x,hx⟩:=gol_ (show i.toNat<row.length by omega);unfold aF;rw[if_pos m0,hx];rfl
theorem ahw (row:List Val)(i:Int):ael row i=some (wA row i):=(show ael row i=gAt row i from rfl).trans (aho row i)
theorem abd (row:List Val)(i:Int):aat row [i]=some [wA row i]:=by
 unfold aat;simp only[aqM,aqV];rw[show decide ((0:Int)<=(((0+1:Nat)):Int))=true from rfl,show decide ((32:Int)*(((0+1:Nat)):Int)<=281474976710656)=true from rfl,show decide ((((0+1:Nat)):Int)<=9223372036854775807)=true from rfl];simp only[aqs];rw[bX (l:=[i]) (mk:=λt i=>(t,i)) (f:=push (wA row) 4398046511104) ?_ ?_ (by unfold fuel;simp) []]
 ·rw[E6 _ _ _ _ m5];rfl
 ·intro s j x hx
  have hi:=(aqp.1 hx).1;unfold wb push;dsimp only;rw[aO hx,aqs,gn_ hx];simp only[aqo];rw[aho,aqo,wrapN (by simp at hi;omega)]
  cases decide (s.length+1<=4398046511104)<;>rfl
 ·intro s
  unfold wb;dsimp only;rw[lF_,aqr]
theorem K3 (row:List Val)(i:Int):xx row i=some (orN (wA row i)):=by
 unfold xx;rw[abd,aqo,show aF [wA row i] (0:Int)=some (wA row i)from rfl,aqo,tP,aqo,jB];unfold orN
 cases vF (wA row i)<;>rfl
theorem aa' (e:Ex)(row:List Val)(h:e.op=2):Bf e row=some (orN (wA row e.int)):=by
 unfold Bf;rw[h,show decide ((2:Int)=2)=true from rfl,aqs,ahw,aqo,gu,aqo,bT];unfold orN
 cases vF (wA row e.int)<;>rfl
theorem Gs (e:Ex)(row:List Val)(h:e.op=1)(hv:vF e.v=true):Bf e row=some e.v:=by
 unfold Bf;rw[h,show decide ((1:Int)=2)=false from rfl,aqr,gu,aqo,hv];rfl
def ew (l:List Val)(k:Int):Bool:=l.all λv=>decide (v.kind=k)
theorem kQ (l:List Val)(k:Int)(hl:l.length<=1000000):abP l k=some (ew l k):=by
 unfold abP;rw[bX (l:=l) (mk:=λ(_:Unit) i=>i) (f:=λ_ v=>some (if v.kind≠k then .inr false else .inl ())) ?_ ?_ (by unfold fuel;omega) ()]
 ·have:∀ l:List Val,cA (ρ:=Bool) (λ(_:Unit) (v:Val)=>some (if v.kind≠k then .inr false else .inl ())) () l=some (if ew l k=true then .inl ()else .inr false):=by
   intro l
   induction l with
   |nil=>rfl
   |cons v l ih =>
    rw[cA];by_cases h:v.kind=k
    ·simp only[ne_eq,h,not_true_eq_false,if_false]
     rw[ih];simp[ew,h]
    ·simp[ew,h]
  rw[this]
  cases ew l k<;>rfl
 ·intro s i x hx
  have hi:=(aqp.1 hx).1;unfold DT;dsimp only;rw[aO hx,aqs,gn_ hx,wrapN m0];simp only[aqo];by_cases h:x.kind=k
  ·simp[h,qf]
  ·simp[h,qf]
 ·intro s
  unfold DT;dsimp only;rw[lF_,aqr]
def yV (f:Int->Int->Int)(l:List Val)(t:Int):Int:=l.foldl (λt v=>f t (tF_ v)) t
theorem B0 {f:Int->Int->Int}(hf:∀ a b,T3 (f a b)):∀ (l:List Val) (t:Int),T3 t->T3 (yV f l t)
 |[],t,h=>h
 |v::l,t,h=>B0 hf l _ (hf _ _)
theorem uP {f:Int->Int->Int}(hf:∀ a b,T3 (f a b)){g:Int->Int->Option Int}(hg:∀ a b,T3 a->T3 b->g a b=some (f a b)):∀ (l:List Val) (t:Int),T3 t->cA (ρ:=Val) (λt v=>(g t (tF_ v)).bind λr=>some (.inl r)) t l=some (.inl (yV f l t))
 |[],t,h=>rfl
 |v::l,t,h=>by
  rw[cA,hg _ _ h (fU v)];exact uP hf hg l _ (hf _ _)
theorem I5 (x:Val)(l:List Val)(hl:l.length<=1000000):l6 5 (x::l)=some (AD (yV KW l (tF_ x))):=by
 unfold l6;rw[show aF (x::l) (0:Int)=some x from rfl,aqo,gM,aqo,show decide ((5:Int)=4)=false from rfl,aqr,show decide ((5:Int)=5)=true from rfl,aqs];rw[show gU (x::l) (1:Int) (((x::l).length:Nat):Int)=some l by unfold gU;rw[if_pos (by simp only[aqM];omega)];simp,aqo];rw[bX (l:=l) (mk:=λt i=>(t,i)) (f:=λt v=>(aei t (tF_ v)).bind λr=>some (.inl r)) ?_ ?_ (by unfold fuel;omega) (tF_ x)]
 ·rw[uP Il (λa b ha hb=>aiI ha hb) l _ (fU x)]
  show(x7 (yV KW l (tF_ x))).bind _=_;rw[iG (B0 Il l _ (fU x))];rfl
 ·intro s i v hv
  have hi:=(aqp.1 hv).1;unfold rJ;dsimp only;rw[aO hv,aqs,gn_ hv,wrapN m0];simp only[aqo];rw[gM,aqo]
  cases aei s (tF_ v)<;>rfl
 ·intro s
  unfold rJ;dsimp only;rw[lF_,aqr]
theorem Oh (x:Val)(l:List Val)(hl:l.length<=1000000):l6 6 (x::l)=some (AD (yV or3 l (tF_ x))):=by
 unfold l6;rw[show aF (x::l) (0:Int)=some x from rfl,aqo,gM,aqo,show decide ((6:Int)=4)=false from rfl,aqr,show decide ((6:Int)=5)=false from rfl,aqr];rw[show gU (x::l) (1:Int) (((x::l).length:Nat):Int)=some l by unfold gU;rw[if_pos (by simp only[aqM];omega)];simp,aqo];rw[bX (l:=l) (mk:=λt i=>(t,i)) (f:=λt v=>(FX t (tF_ v)).bind λr=>some (.inl r)) ?_ ?_ (by unfold fuel;omega) (tF_ x)]
 ·rw[uP abM (λa b ha hb=>ald ha hb) l _ (fU x)]
  show(x7 (yV or3 l (tF_ x))).bind _=_;rw[iG (B0 abM l _ (fU x))];rfl
 ·intro s i v hv
  have hi:=(aqp.1 hv).1;unfold qY;dsimp only;rw[aO hv,aqs,gn_ hv,wrapN m0];simp only[aqo];rw[gM,aqo]
  cases FX s (tF_ v)<;>rfl
 ·intro s
  unfold qY;dsimp only;rw[lF_,aqr]
theorem Js (x:Val):l6 4 [x]=some (AD (Ho (tF_ x))):=by
 unfold l6;rw[show aF [x] (0:Int)=some x from rfl,aqo,gM,aqo,show decide ((4:Int)=4)=true from rfl,aqs,sS (fU x),aqo,iG (qb _)];rfl
theorem zN (op:Int)(f:Int->Int->Int)(hf:∀ a b,T3 (f a b))(RA:∀ a b,T3 a->T3 b->(bif decide (op=5)then G7 a b else afw a b)=some (f a b))(x:Val)(l:List Val)(hl:l.length<=1000000):tl op (x::l)=some (AD (yV f l (tF_ x))):=by
 unfold tl;rw[show aF (x::l) (0:Int)=some x from rfl,aqo,kF,aqo];have:=Ir (l:=x::l) (body:=kf op (x::l)) (ρ:=Val) (mk:=λt i=>(t,i)) (f:=λt v=>(bif decide (op=5)then G7 t (tF_ v)else afw t (tF_ v)).bind λr=>some (.inl r)) (by
  intro s i v hv;have hi:=(aqp.1 hv).1;unfold kf;dsimp only;rw[aO hv,aqs,gn_ hv,wrapN (by simp at hi;omega)];simp only[aqo,kF]
  cases decide (op=5)
  ·simp only[aqr];cases afw s (tF_ v)<;>rfl
  ·simp only[aqs];cases G7 s (tF_ v)<;>rfl) (by
  intro s;unfold kf;dsimp only;rw[lF_,aqr]) fuel 1 (tF_ x) m5 (by unfold fuel;simp;omega)
 rw[show((1:Nat):Int)=1 from rfl]at this;rw[this];have h2:=uP hf RA l (tF_ x) (fU x);rw[show(x::l).drop 1=l from rfl,h2];show(Ee (yV f l (tF_ x))).bind _=_;rw[mX (B0 hf l _ (fU x))];rfl
theorem rk (s:ByteArray):(s.toList==(⟨#[]⟩:ByteArray).toList)=true↔s=empty:=by
 rw[beq_iff_eq,ByteArray.toList_eq,ByteArray.toList_eq];constructor
 ·intro h
  have:s.data.toList=[]:=h;obtain⟨d⟩:=s;obtain⟨l⟩:=d;simp at this;subst this;rfl
 ·rintro rfl;rfl
structure VV (v:Val):Prop where
 kind:0<=v.kind/\v.kind<=3
 int : -1125899906842624<=v.int/\v.int<=1125899906842624
 text:v.text.size<=200
theorem uw {v:Val}(h:vF v=true):VV v:=by
 have hx:=gu v;rw[h]at hx;unfold dh at hx;have e0:∀ s:ByteArray,s=empty->s.size<=200:=by rintro s rfl;decide
 by_cases k0:v.kind=0
 ·rw[aqu k0,aqs]at hx
  by_cases i0:v.int=0
  ·rw[aqu i0,aqs]at hx
   have:=(rk _).1 (aqX hx);exact⟨m0,m0,e0 _ this⟩
  ·rw[aqt i0,aqr]at hx;cases hx
 rw[aqt k0,aqr]at hx;by_cases k1:v.kind=1
 ·rw[aqu k1,aqs]at hx
  by_cases t0:(v.text.toList==(⟨#[]⟩:ByteArray).toList)=true
  ·rw[t0,aqs]at hx
   by_cases i1:(-1125899906842624:Int)<=v.int
   ·rw[aqu i1,aqs]at hx
    have:=aqT (aqX hx);exact⟨m0,⟨i1,this⟩,e0 _ ((rk _).1 t0)⟩
   ·rw[aqt i1,aqr]at hx;cases hx
  ·rw[Bool.not_eq_true]at t0
   rw[t0,aqr]at hx;cases hx
 rw[aqt k1,aqr]at hx;by_cases k2:v.kind=2
 ·rw[aqu k2,aqs]at hx
  by_cases i0:v.int=0
  ·rw[aqu i0,aqs]at hx
   by_cases t2:(v.text.size:Int)<=200
   ·exact⟨m0,m0,m0⟩
   ·rw[aqt t2,aqr]at hx;cases hx
  ·rw[aqt i0,aqr]at hx;cases hx
 rw[aqt k2,aqr]at hx;by_cases k3:v.kind=3
 ·rw[aqu k3,aqs]at hx
  by_cases t0:(v.text.toList==(⟨#[]⟩:ByteArray).toList)=true
  ·rw[t0,aqs]at hx
   by_cases i0:v.int=0
   ·exact⟨m0,m0,e0 _ ((rk _).1 t0)⟩
   ·rw[aqt i0,aqr]at hx
    have:=aqT (aqX hx);exact⟨m0,m0,e0 _ ((rk _).1 t0)⟩
  ·rw[Bool.not_eq_true]at t0
   rw[t0,aqr]at hx;cases hx
 rw[aqt k3,aqr]at hx
 cases hx
theorem VV.vok {v:Val}(h:VV v):VOK v:=⟨⟨by have:=h.kind;omega,by have:=h.kind;omega⟩,⟨by have:=h.int;omega,by have:=h.int;omega⟩,by have:=h.text;omega⟩
abbrev amV (n:Int):Val:=orN ⟨1,n,empty⟩
abbrev amB (s:ByteArray):Val:=orN ⟨2,0,s⟩
def aki (op a b:Int):Val:=(cN op a b).getD bK
theorem akx {a:Int}(h : -1125899906842624<=a/\a<=1125899906842624):EE a (i64.wrap (0-a))=(a.natAbs:Int):=by
 rw[dj m0];unfold EE;split<;>omega
theorem yp (a b:Int):rF a b=cN 15 a b:=by
 unfold rF cN;rw[show decide ((15:Int)=13)=false from rfl,show decide ((15:Int)=14)=false from rfl,show decide ((15:Int)=15)=true from rfl];simp only[aqs,aqr]
 cases decide (a≠0)with
 |false=>simp only[aqr];rw[jV,iE]
 |true =>
  simp only[aqs];unfold afT;simp only[aqo];rw[jV,iE];rfl
theorem Dw {op a b:Int}(ha : -1125899906842624<=a/\a<=1125899906842624):∃ v,cN op a b=some v/\vF v=true:=by
 unfold cN;simp only[iE,aqo,bT]
 cases decide (op=13)with
 |true=>exact⟨_,rfl,ol _⟩
 |false =>
 cases decide (op=14)with
 |true=>exact⟨_,rfl,ol _⟩
 |false =>
 cases decide (op=15)with
 |true =>
  simp only[aqs,aqr];by_cases h:a=0
  ·subst h;exact⟨_,rfl,ol _⟩
  ·rw[aqu (show a≠0 from h),aqs]
   unfold afT;simp only[aqo];rw[akx ha,aqu (show(a.natAbs:Int)≠0 by omega),aqs];generalize decide (i64.wrap ((1125899906842624:Int).tdiv (a.natAbs:Int))<EE b (i64.wrap (0-b)))=c
   cases c with
   |true=>exact⟨_,rfl,kr⟩
   |false=>exact⟨_,rfl,ol _⟩
 |false =>
  simp only[aqr];by_cases h:b=0
  ·rw[aqu h];exact⟨_,rfl,kr⟩
  ·rw[aqt h,aqu (show b≠0 from h)]
   simp only[aqs,aqr]
   cases decide (op=16)with
   |true=>exact⟨_,rfl,ol _⟩
   |false=>exact⟨_,rfl,ol _⟩
theorem en {op a b:Int}(ha : -1125899906842624<=a/\a<=1125899906842624):cN op a b=some (aki op a b)/\vF (aki op a b)=true:=by
 obtain⟨v,h1,h2⟩:=Dw (op:=op) (b:=b) ha;unfold aki;rw[h1];exact⟨rfl,h2⟩
theorem zK (l:List Val)(hl:l.length<=1000000):ao (nC l) fuel (0:Int)=some (bif ew l 1 then .inl (l.length:Int)else .inr bK):=by
 rw[bX (l:=l) (mk:=λ(_:Unit) i=>i) (f:=λ_ v=>some (if v.kind≠1 then .inr bK else .inl ())) ?_ ?_ (by unfold fuel;omega) ()]
 ·have:∀ l:List Val,cA (ρ:=Val) (λ(_:Unit) (v:Val)=>some (if v.kind≠1 then .inr bK else .inl ())) () l=some (if ew l 1=true then .inl ()else .inr bK):=by
   intro l
   induction l with
   |nil=>rfl
   |cons v l ih =>
    rw[cA];by_cases h:v.kind=1
    ·simp only[ne_eq,h,not_true_eq_false,if_false]
     rw[ih];simp[ew,h]
    ·simp[ew,h]
  rw[this]
  cases ew l 1<;>rfl
 ·intro s i x hx
  have hi:=(aqp.1 hx).1;unfold nC;dsimp only;rw[aO hx,aqs,gn_ hx,wrapN m0];simp only[aqo];by_cases h:x.kind=1
  ·simp[h,qf]
  ·simp[h,qf,jB]
 ·intro s
  unfold nC;dsimp only;rw[lF_,aqr]
def eK (op:Int)(a b:Val):Val:=bif ew [a,b] 1 then aki op a.int b.int else bK
theorem kD {op:Int}{a b:Val}(ha:VV a)(h:op=13\/op=14\/op=15\/op=16\/op=17):kz op [a,b]=some (eK op a b):=by
 unfold kz eK;rw[zK _ m5]
 cases ew [a,b] 1 with
 |false=>rfl
 |true =>
  simp only[aqs,aqo];have hc:=(en (op:=op) (b:=b.int) ha.int).1;rw[<- hc];unfold rj;dsimp only;rw[show aF [a,b] (0:Int)=some a from rfl,aqo,show aF [a,b] (i64.wrap ((([a,b].length:Nat):Int)-1))=some b from rfl,aqo];obtain rfl|rfl|rfl|rfl|rfl:=h
  ·unfold cN
   rw[show decide ((13:Int)=13)=true from rfl,aqs,aqs,iE,jV]
  ·unfold cN
   rw[show decide ((14:Int)=13)=false from rfl,show decide ((14:Int)=14)=true from rfl];simp only[aqs,aqr];rw[iE,jV]
  ·rw[show decide ((15:Int)=13)=false from rfl,show decide ((15:Int)=14)=false from rfl,show decide ((15:Int)=15)=true from rfl]
   simp only[aqs,aqr];rw[yp]
   cases cN 15 a.int b.int<;>rfl
  ·unfold cN
   rw[show decide ((16:Int)=13)=false from rfl,show decide ((16:Int)=14)=false from rfl,show decide ((16:Int)=15)=false from rfl,show decide ((16:Int)=18)=false from rfl,show decide ((16:Int)=16)=true from rfl];simp only[aqs,aqr,jV,iE,jB,bT]
  ·unfold cN
   rw[show decide ((17:Int)=13)=false from rfl,show decide ((17:Int)=14)=false from rfl,show decide ((17:Int)=15)=false from rfl,show decide ((17:Int)=18)=false from rfl,show decide ((17:Int)=16)=false from rfl];simp only[aqs,aqr,jV,iE,jB,bT]
def acy (a:Val):Val:=bif ew [a] 1 then amV (i64.wrap (0-a.int))else bK
theorem M6 (a:Val):kz 18 [a]=some (acy a):=by
 unfold kz acy;rw[zK _ m5]
 cases ew [a] 1 with
 |false=>rfl
 |true =>
  simp only[aqs,aqo];show(nU _).bind _=_;rw[jV];rfl
def NA (a b:Val):Val:=bif ew [a,b] 2 then amB (a.text++b.text)else bK
def Nq (a:Val):Val:=bif ew [a] 2 then amV (a.text.size:Int)else bK
theorem J1 {a b:Val}(ha:VV a)(hb:VV b):tN 19 [a,b]=some (NA a b):=by
 unfold tN NA;rw[kQ _ _ m5,aqo]
 cases ew [a,b] 2 with
 |false=>rfl
 |true =>
  have h1:=ha.text;have h2:=hb.text;rw[Bool.not_true,aqr,aqs,show decide ((19:Int)=19)=true from rfl,aqs,show aF [a,b] (0:Int)=some a from rfl,aqo,show aF [a,b] (1:Int)=some b from rfl,aqo];rw[aqu (show a.text.size+b.text.size<=9223372036854775807 by omega),aqs,Oe];rfl
theorem KL (a:Val):tN 20 [a]=some (Nq a):=by
 unfold tN Nq;rw[kQ _ _ m5,aqo]
 cases ew [a] 2 with
 |false=>rfl
 |true =>
  rw[Bool.not_true,aqr,aqs,show decide ((20:Int)=19)=false from rfl,aqr,show aF [a] (0:Int)=some a from rfl,aqo,iE];rfl
def mO (p:Int×ByteArray)(x:Val):Option (Sum (Int×ByteArray) Val):=bif decide (x.kind≠2)then some (.inr bK)else bif decide (p.2.size+x.text.size<=9223372036854775807)then some (.inl (i64.wrap (p.1+(x.text.size:Int)),p.2++x.text))else none
theorem yM (op:Int)(l:List Val)(hl:l.length<=1000000):uk op l=(GU (λ(p:Int×ByteArray) i=>(p.1,p.2,i)) l.length (cA mO (0,⟨#[]⟩) l)).bind (DZ op):=by
 unfold uk;rw[bX (l:=l) (mk:=λ(p:Int×ByteArray) i=>(p.1,p.2,i)) (f:=mO) ?_ ?_ (by unfold fuel;omega) ((0:Int),(⟨#[]⟩:ByteArray))]
 ·intro s i x hx
  have hi:=(aqp.1 hx).1;unfold rG mO;dsimp only;rw[aO hx,aqs,gn_ hx,wrapN m0];simp only[aqo]
  cases decide (x.kind≠2)with
  |true=>rfl
  |false =>
   simp only[aqr]
   cases decide (s.2.size+x.text.size<=9223372036854775807)<;>rfl
 ·intro s
  unfold rG;dsimp only;rw[lF_,aqr]
theorem aiM (s:ByteArray):(⟨#[]⟩:ByteArray)++s=s:=by
 apply ByteArray.ext;simp
theorem I9 {a b:Val}(ha:VV a)(hb:VV b):uk 19 [a,b]=some (NA a b):=by
 have h1:=ha.text;have h2:=hb.text;have h0:(⟨#[]⟩:ByteArray).size=0:=rfl;rw[yM _ _ m5];unfold NA;by_cases ka:a.kind=2
 ·by_cases kb:b.kind=2
  ·have e:ew [a,b] 2=true:=by simp[ew,ka,kb]
   rw[e];simp only[cA,mO];rw[aqt (show ¬ a.kind≠2 by omega),aqr,aqu (show(⟨#[]⟩:ByteArray).size+a.text.size<=9223372036854775807 by rw[h0];omega),aqs];simp only[];rw[aqt (show ¬ b.kind≠2 by omega),aqr,aiM,aqu (show a.text.size+b.text.size<=9223372036854775807 by omega),aqs];show(yG (a.text++b.text)).bind _=_;rw[N6];rfl
  ·have e:ew [a,b] 2=false:=by simp[ew,kb]
   rw[e];simp only[cA,mO];rw[aqt (show ¬ a.kind≠2 by omega),aqr,aqu (show(⟨#[]⟩:ByteArray).size+a.text.size<=9223372036854775807 by rw[h0];omega),aqs];simp only[];rw[aqu (show b.kind≠2 from kb),aqs];rfl
 ·have e:ew [a,b] 2=false:=by simp[ew,ka]
  rw[e];simp only[cA,mO];rw[aqu (show a.kind≠2 from ka),aqs];rfl
theorem Lj {a:Val}(ha:VV a):uk 20 [a]=some (Nq a):=by
 have h1:=ha.text;have h0:(⟨#[]⟩:ByteArray).size=0:=rfl;rw[yM _ _ m5];unfold Nq;by_cases ka:a.kind=2
 ·have e:ew [a] 2=true:=by simp[ew,ka]
  rw[e];simp only[cA,mO];rw[aqt (show ¬ a.kind≠2 by omega),aqr,aqu (show(⟨#[]⟩:ByteArray).size+a.text.size<=9223372036854775807 by rw[h0];omega),aqs];show(nU (i64.wrap (0+(a.text.size:Int)))).bind _=_;rw[jV,Int.zero_add,dj m0];rfl
 ·have e:ew [a] 2=false:=by simp[ew,ka]
  rw[e];simp only[cA,mO];rw[aqu (show a.kind≠2 from ka),aqs];rfl
def Nl (rel:Int)(a b c d:Val):Val :=
 bif ew [a,b,c,d] 1 then(if aw ⟨a.int,b.int⟩=true/\aw ⟨c.int,d.int⟩=true then lu (decide (cU ⟨a.int,b.int⟩ ⟨c.int,d.int⟩=rel))else bK)else bK
theorem B5 (rel:Int)(a b c d:Val):nz rel [a,b,c,d]=some (Nl rel a b c d):=by
 unfold nz Nl;rw[kQ _ _ m5,aqo]
 cases ew [a,b,c,d] 1 with
 |false=>exact congrArg (λo:Option Val=>o.bind λr=>some r) bT
 |true =>
  rw[Bool.not_true,aqr,aqs,show aF [a,b,c,d] (0:Int)=some a from rfl,show aF [a,b,c,d] (1:Int)=some b from rfl,show aF [a,b,c,d] (2:Int)=some c from rfl,show aF [a,b,c,d] (3:Int)=some d from rfl];rw[aqo,aqo,aqo,aqo,ad1,aqo];generalize cU ⟨a.int,b.int⟩ ⟨c.int,d.int⟩=x;generalize aw ⟨a.int,b.int⟩=y;generalize aw ⟨c.int,d.int⟩=z
  cases y<;>cases z
  ·exact congrArg (λo:Option Val=>o.bind λr=>some r) bT
  ·exact congrArg (λo:Option Val=>o.bind λr=>some r) bT
  ·exact congrArg (λo:Option Val=>o.bind λr=>some r) bT
  ·exact congrArg (λo:Option Val=>o.bind λr=>some r) (r7 _)
theorem Hh (rel:Int)(a b c d:Val):r9 rel [a,b,c,d]=some (Nl rel a b c d):=by
 unfold r9 Nl ve;rw[show aF [a,b,c,d] (0:Int)=some a from rfl,show aF [a,b,c,d] (1:Int)=some b from rfl,show aF [a,b,c,d] (2:Int)=some c from rfl,show aF [a,b,c,d] (3:Int)=some d from rfl];simp only[aqo];rw[acf,aqo,jB];have e:ew [a,b,c,d] 1=((decide (a.kind=1)&&decide (b.kind=1))&&(decide (c.kind=1)&&decide (d.kind=1))):=by
  simp[ew,Bool.and_assoc]
 rw[e];generalize (decide (a.kind=1)&&decide (b.kind=1))=u;generalize (decide (c.kind=1)&&decide (d.kind=1))=v;generalize cU ⟨a.int,b.int⟩ ⟨c.int,d.int⟩=x;generalize aw ⟨a.int,b.int⟩=y;generalize aw ⟨c.int,d.int⟩=z
 cases u
 ·rfl
 cases v
 ·rfl
 cases y<;>cases z
 ·rfl
 ·rfl
 ·rfl
 ·exact congrArg (λo:Option Val=>o.bind λr=>some r) (E7 _)
theorem cY {n k:Int}:decide (n=k)=(decide (k<=n)&&decide (n<=k)):=by
 rw[Bool.eq_iff_iff];simp only[aqI,decide_eq_true_eq];omega
theorem Ia {n k:Int}(h:n<=1099511627776):decide (k<=n)=(decide (k<=n)&&decide (n<=1099511627776)):=by
 rw[aqu h,Bool.and_true]
def kI (op:Int):Int×Int:=(tn op).getD (-1,0)
theorem qe (op n:Int)(h:n<=1099511627776):tn op=some (kI op)/\pc op n=some (decide (0<=(kI op).1)&&(decide ((kI op).1<=n)&&decide (n<=(kI op).2)),decide (0<=(kI op).1))/\(0<=(kI op).1->op=1\/op=2\/op=4\/op=5\/op=6\/op=7\/op=8\/op=9\/op=10\/op=11\/op=12\/op=13\/op=14\/op=15\/op=16\/op=17\/op=18\/op=19\/op=20\/op=21\/op=22\/op=23\/op=24) /\ -1<=(kI op).1:=by
 by_cases h1:op=1
 ·subst h1
  refine⟨rfl,?_,λ_=>by simp,by decide⟩;show some (decide (n=0),true)=some (true&&(decide ((0:Int)<=n)&&decide (n<=0)),true);rw[aqY,<- cY]
 by_cases h2:op=2
 ·subst h2
  refine⟨rfl,?_,λ_=>by simp,by decide⟩;show some (decide (n=0),true)=some (true&&(decide ((0:Int)<=n)&&decide (n<=0)),true);rw[aqY,<- cY]
 by_cases h4:op=4
 ·subst h4
  refine⟨rfl,?_,λ_=>by simp,by decide⟩;show some (decide (n=1),true)=some (true&&(decide ((1:Int)<=n)&&decide (n<=1)),true);rw[aqY,<- cY]
 by_cases h5:op=5
 ·subst h5
  refine⟨rfl,?_,λ_=>by simp,by decide⟩;show some (decide ((2:Int)<=n),true)=some (true&&(decide ((2:Int)<=n)&&decide (n<=1099511627776)),true);rw[aqY,<- Ia h]
 by_cases h6:op=6
 ·subst h6
  refine⟨rfl,?_,λ_=>by simp,by decide⟩;show some (decide ((2:Int)<=n),true)=some (true&&(decide ((2:Int)<=n)&&decide (n<=1099511627776)),true);rw[aqY,<- Ia h]
 by_cases h7:op=7
 ·subst h7
  refine⟨rfl,?_,λ_=>by simp,by decide⟩;show some (decide (n=2),true)=some (true&&(decide ((2:Int)<=n)&&decide (n<=2)),true);rw[aqY,<- cY]
 by_cases h8:op=8
 ·subst h8
  refine⟨rfl,?_,λ_=>by simp,by decide⟩;show some (decide (n=2),true)=some (true&&(decide ((2:Int)<=n)&&decide (n<=2)),true);rw[aqY,<- cY]
 by_cases h9:op=9
 ·subst h9
  refine⟨rfl,?_,λ_=>by simp,by decide⟩;show some (decide (n=2),true)=some (true&&(decide ((2:Int)<=n)&&decide (n<=2)),true);rw[aqY,<- cY]
 by_cases Zt:op=10
 ·subst Zt
  refine⟨rfl,?_,λ_=>by simp,by decide⟩;show some (decide (n=2),true)=some (true&&(decide ((2:Int)<=n)&&decide (n<=2)),true);rw[aqY,<- cY]
 by_cases h11:op=11
 ·subst h11
  refine⟨rfl,?_,λ_=>by simp,by decide⟩;show some (decide (n=2),true)=some (true&&(decide ((2:Int)<=n)&&decide (n<=2)),true);rw[aqY,<- cY]
 by_cases h12:op=12
 ·subst h12
  refine⟨rfl,?_,λ_=>by simp,by decide⟩;show some (decide (n=2),true)=some (true&&(decide ((2:Int)<=n)&&decide (n<=2)),true);rw[aqY,<- cY]
 by_cases h13:op=13
 ·subst h13
  refine⟨rfl,?_,λ_=>by simp,by decide⟩;show some (decide (n=2),true)=some (true&&(decide ((2:Int)<=n)&&decide (n<=2)),true);rw[aqY,<- cY]
 by_cases h14:op=14
 ·subst h14
  refine⟨rfl,?_,λ_=>by simp,by decide⟩;show some (decide (n=2),true)=some (true&&(decide ((2:Int)<=n)&&decide (n<=2)),true);rw[aqY,<- cY]
 by_cases h15:op=15
 ·subst h15
  refine⟨rfl,?_,λ_=>by simp,by decide⟩;show some (decide (n=2),true)=some (true&&(decide ((2:Int)<=n)&&decide (n<=2)),true);rw[aqY,<- cY]
 by_cases h16:op=16
 ·subst h16
  refine⟨rfl,?_,λ_=>by simp,by decide⟩;show some (decide (n=2),true)=some (true&&(decide ((2:Int)<=n)&&decide (n<=2)),true);rw[aqY,<- cY]
 by_cases h17:op=17
 ·subst h17
  refine⟨rfl,?_,λ_=>by simp,by decide⟩;show some (decide (n=2),true)=some (true&&(decide ((2:Int)<=n)&&decide (n<=2)),true);rw[aqY,<- cY]
 by_cases h18:op=18
 ·subst h18
  refine⟨rfl,?_,λ_=>by simp,by decide⟩;show some (decide (n=1),true)=some (true&&(decide ((1:Int)<=n)&&decide (n<=1)),true);rw[aqY,<- cY]
 by_cases h19:op=19
 ·subst h19
  refine⟨rfl,?_,λ_=>by simp,by decide⟩;show some (decide (n=2),true)=some (true&&(decide ((2:Int)<=n)&&decide (n<=2)),true);rw[aqY,<- cY]
 by_cases h20:op=20
 ·subst h20
  refine⟨rfl,?_,λ_=>by simp,by decide⟩;show some (decide (n=1),true)=some (true&&(decide ((1:Int)<=n)&&decide (n<=1)),true);rw[aqY,<- cY]
 by_cases h21:op=21
 ·subst h21
  refine⟨rfl,?_,λ_=>by simp,by decide⟩;show some (decide (n=1),true)=some (true&&(decide ((1:Int)<=n)&&decide (n<=1)),true);rw[aqY,<- cY]
 by_cases h22:op=22
 ·subst h22
  refine⟨rfl,?_,λ_=>by simp,by decide⟩;show some (decide (n=3),true)=some (true&&(decide ((3:Int)<=n)&&decide (n<=3)),true);rw[aqY,<- cY]
 by_cases h23:op=23
 ·subst h23
  refine⟨rfl,?_,λ_=>by simp,by decide⟩;show some (decide ((1:Int)<=n),true)=some (true&&(decide ((1:Int)<=n)&&decide (n<=1099511627776)),true);rw[aqY,<- Ia h]
 by_cases h24:op=24
 ·subst h24
  refine⟨rfl,?_,λ_=>by simp,by decide⟩;show some (decide (n=4),true)=some (true&&(decide ((4:Int)<=n)&&decide (n<=4)),true);rw[aqY,<- cY]
 have e1:tn op=some (-1,0):=by
  unfold tn;simp only[aqt h1,aqt h2,aqt h4,aqt h5,aqt h6,aqt h7,aqt h8,aqt h9,aqt Zt,aqt h11,aqt h12,aqt h13,aqt h14,aqt h15,aqt h16,aqt h17,aqt h18,aqt h19,aqt h20,aqt h21,aqt h22,aqt h23,aqt h24,aqr]
 have e2:pc op n=some (false,false):=by
  unfold pc;simp only[aqt h1,aqt h2,aqt h4,aqt h5,aqt h6,aqt h7,aqt h8,aqt h9,aqt Zt,aqt h11,aqt h12,aqt h13,aqt h14,aqt h15,aqt h16,aqt h17,aqt h18,aqt h19,aqt h20,aqt h21,aqt h22,aqt h23,aqt h24,aqr]
 have e3:kI op=(-1,0):=by unfold kI;rw[e1];rfl
 rw[e1,e2,e3];exact⟨rfl,rfl,λh=>absurd h m9,by decide⟩
theorem ar1:kI 1=(0,0):=rfl
theorem ar2:kI 2=(0,0):=rfl
theorem ar4:kI 4=(1,1):=rfl
theorem ar5:kI 5=(2,1099511627776):=rfl
theorem ar6:kI 6=(2,1099511627776):=rfl
theorem ar7:kI 7=(2,2):=rfl
theorem ar8:kI 8=(2,2):=rfl
theorem ar9:kI 9=(2,2):=rfl
theorem apd:kI 10=(2,2):=rfl
theorem ao':kI 11=(2,2):=rfl
theorem aom:kI 12=(2,2):=rfl
theorem anu:kI 13=(2,2):=rfl
theorem ank:kI 14=(2,2):=rfl
theorem anF:kI 15=(2,2):=rfl
theorem anI:kI 16=(2,2):=rfl
theorem anJ:kI 17=(2,2):=rfl
theorem ao5:kI 18=(1,1):=rfl
theorem aob:kI 19=(2,2):=rfl
theorem apj:kI 20=(1,1):=rfl
theorem aox:kI 21=(1,1):=rfl
theorem al1:kI 22=(3,3):=rfl
theorem aoc:kI 23=(1,1099511627776):=rfl
theorem aoH:kI 24=(4,4):=rfl
def q_ (e:Ex):Bool:=(iy e).getD false
def ajz (v:Val):Bool:=cl [.c (.int .i64 v.kind),.c (.int .i64 v.int),.c (.str v.text)] [.c (.int .i64 (0:Int)),.c (.int .i64 (0:Int)),.c (.str empty)]
def ym (e:Ex):Bool:=(e.nm.toList==(⟨#[]⟩:ByteArray).toList)&&(if e.op=1 then decide (e.int=0)&&vF e.v else if e.op=2 then ajz e.v else if e.op=24 then ajz e.v&&(decide (0<=e.int)&&decide (e.int<13))else decide (e.int=0)&&ajz e.v)
theorem lL (e:Ex)(h:e.args.length<=100000):iy e=some ((decide (0<=(kI e.op).1)&&(decide ((kI e.op).1<=(e.args.length:Int))&&decide ((e.args.length:Int)<=(kI e.op).2)))&&ym e)/\mG e=some ((decide (0<=(kI e.op).1)&&(decide ((kI e.op).1<=(e.args.length:Int))&&decide ((e.args.length:Int)<=(kI e.op).2)))&&ym e):=by
 obtain⟨h1,h2,h3,h4⟩:=qe e.op (e.args.length:Int) m0;generalize kI e.op=a at h1 h2 h3 h4;obtain⟨lo,hi⟩:=a;dsimp only at h1 h2 h3 h4 ⊢;have hR:iy e=(bif decide (0<=lo)&&(decide (lo<=(e.args.length:Int))&&decide ((e.args.length:Int)<=hi))then some (ym e)else some false):=by
  unfold iy;rw[h1,aqo];dsimp only;by_cases c1:0<=lo
  ·rw[aqt (show ¬ lo<0 by omega),aqu c1,aqr,aqY]
   by_cases c2:lo<=(e.args.length:Int)
   ·rw[aqt (show ¬ (e.args.length:Int)<lo by omega),aqu c2,aqr,aqY]
    by_cases c3:(e.args.length:Int)<=hi
    ·rw[aqt (show ¬ hi<(e.args.length:Int)by omega),aqu c3,aqr,aqs]
     unfold ym
     cases (e.nm.toList==(⟨#[]⟩:ByteArray).toList)with
     |false=>rfl
     |true =>
      rw[Bool.not_true,aqr,aqY];by_cases o1:e.op=1
      ·rw[aqu o1,aqs,if_pos o1,gu]
       cases decide (e.int=0)<;>rfl
      ·rw[aqt o1,aqr,if_neg o1,bT]
       by_cases o2:e.op=2
       ·rw[aqu o2,aqs,if_pos o2];rfl
       ·rw[aqt o2,aqr,if_neg o2]
        by_cases o3:e.op=24
        ·rw[aqu o3,aqs,if_pos o3]
         show(bif ajz e.v then _ else _)=_
         cases ajz e.v
         ·rfl
         ·rw[aqs,aqY]
          cases decide (0<=e.int)<;>rfl
        ·rw[aqt o3,aqr,if_neg o3]
         cases decide (e.int=0)<;>rfl
    ·rw[aqu (show hi<(e.args.length:Int)by omega),aqt c3,aqs];rfl
   ·rw[aqu (show(e.args.length:Int)<lo by omega),aqt c2,aqs];rfl
  ·rw[aqu (show lo<0 by omega),aqt c1,aqs];rfl
 have hP:mG e=(bif decide (0<=lo)&&(decide (lo<=(e.args.length:Int))&&decide ((e.args.length:Int)<=hi))then some (ym e)else some false):=by
  unfold mG;rw[h2,aqo];dsimp only
  cases (decide (0<=lo)&&(decide (lo<=(e.args.length:Int))&&decide ((e.args.length:Int)<=hi)))with
  |false=>rfl
  |true =>
   rw[Bool.not_true,aqr,aqs];unfold ym
   cases (e.nm.toList==(⟨#[]⟩:ByteArray).toList)with
   |false=>rfl
   |true =>
    rw[Bool.not_true,aqr,aqY];by_cases o1:e.op=1
    ·rw[aqu o1,aqs,if_pos o1,tP]
     cases decide (e.int=0)<;>rfl
    ·rw[aqt o1,aqr,if_neg o1]
     by_cases o3:e.op=24
     ·have o2:¬ e.op=2:=m0
      rw[aqu o3,aqs,if_neg o2,if_pos o3];by_cases i1:0<=e.int
      ·rw[aqt (show ¬ e.int<0 by omega),aqr,aqu i1,aqY]
       by_cases i2:e.int<13
       ·rw[aqt (show ¬ 13<=e.int by omega),aqr,aqu i2,Bool.and_true];rfl
       ·rw[aqu (show 13<=e.int by omega),aqs,aqt i2,Bool.and_false]
      ·rw[aqu (show e.int<0 by omega),aqs,aqt i1,Bool.false_and,Bool.and_false]
     ·rw[aqt o3,aqr]
      by_cases o2:e.op=2
      ·rw[aqu o2,aqs,if_pos o2];rfl
      ·rw[aqt o2,aqr,if_neg o2,if_neg o3]
       cases decide (e.int=0)<;>rfl
 rw[hR,hP]
 cases (decide (0<=lo)&&(decide (lo<=(e.args.length:Int))&&decide ((e.args.length:Int)<=hi)))<;>exact⟨rfl,rfl⟩
theorem ww {e:Ex}(h:e.args.length<=100000):iy e=some (q_ e):=by unfold q_;rw[(lL e h).1];rfl
theorem yA {e:Ex}(h:e.args.length<=100000):mG e=some (q_ e):=by unfold q_;rw[(lL e h).2,(lL e h).1];rfl
theorem sY {e:Ex}(h:e.args.length<=100000)(hf:q_ e=true):(e.op=1\/e.op=2\/e.op=4\/e.op=5\/e.op=6\/e.op=7\/e.op=8\/e.op=9\/e.op=10\/e.op=11\/e.op=12\/e.op=13\/e.op=14\/e.op=15\/e.op=16\/e.op=17\/e.op=18\/e.op=19\/e.op=20\/e.op=21\/e.op=22\/e.op=23\/e.op=24)/\(kI e.op).1<=(e.args.length:Int)/\(e.args.length:Int)<=(kI e.op).2/\ym e=true:=by
 obtain⟨_,_,h3,_⟩:=qe e.op (e.args.length:Int) m0;unfold q_ at hf;rw[(lL e h).1,Option.getD_some,aqI,aqI,aqI]at hf;exact⟨h3 (aqT hf.1.1),aqT hf.1.2.1,aqT hf.1.2.2,hf.2⟩
theorem JH {e:Ex}(h:e.op=1)(hr:ym e=true):vF e.v=true:=by
 unfold ym at hr;rw[if_pos h,aqI,aqI]at hr;exact hr.2.2
def kB (OW:Ex)(O3:(List Val))(rec:Ex->List Val->Option Val):((List Val)×Int)->Option (Step ((List Val)×Int) (Val)):=λs=>match s with
 |(Q_,Wy)=>bif Wy<(OW.args.length:Int)then(aF OW.args Wy).bind λRE=>(rec RE O3).bind λQJ=>bif Q_.length+1<=4398046511104 then(some (.next ((Q_++[QJ]),(i64.wrap (Wy+(1:Int))))))else none else
 some (.exit (Q_,Wy))
def gER_K (OW:Ex)(O3:(List Val)):Sum ((List Val)×Int) (Val)->Option ((Val))
 |.inl (Q_,Wy)=>bif OW.op=(1:Int)then(Bf OW O3).bind λP7=>some P7 else
 bif OW.op=(2:Int)then(Bf OW O3).bind λPM=>some PM else
 bif OW.op=(4:Int)then(aF Q_ (0:Int)).bind λx_14=>(ft x_14).bind λSj=>(Hf Sj).bind λSv=>(Ee Sv).bind λQ2=>some Q2 else
 bif OW.op=(5:Int)then(tl OW.op Q_).bind λRF=>some RF else
 bif OW.op=(6:Int)then(tl OW.op Q_).bind λRH=>some RH else
 bif OW.op=(7:Int)then(aF Q_ (0:Int)).bind λx_23=>(aF Q_ (1:Int)).bind λx_24=>(eX OW.op x_23 x_24).bind λUi=>(Ee Ui).bind λYI=>some YI else
 bif OW.op=(8:Int)then(aF Q_ (0:Int)).bind λx_28=>(aF Q_ (1:Int)).bind λx_29=>(eX OW.op x_28 x_29).bind λXh=>(Ee Xh).bind λYJ=>some YJ else
 bif OW.op=(9:Int)then(aF Q_ (0:Int)).bind λx_33=>(aF Q_ (1:Int)).bind λx_34=>(eX OW.op x_33 x_34).bind λVm=>(Ee Vm).bind λXd=>some Xd else
 bif OW.op=(10:Int)then(aF Q_ (0:Int)).bind λx_38=>(aF Q_ (1:Int)).bind λx_39=>(eX OW.op x_38 x_39).bind λXe=>(Ee Xe).bind λVn=>some Vn else
 bif OW.op=(11:Int)then(aF Q_ (0:Int)).bind λx_43=>(aF Q_ (1:Int)).bind λx_44=>(eX OW.op x_43 x_44).bind λr_45=>(Ee r_45).bind λUN=>some UN else
 bif OW.op=(12:Int)then(aF Q_ (0:Int)).bind λx_48=>(aF Q_ (1:Int)).bind λx_49=>(eX OW.op x_48 x_49).bind λXf=>(Ee Xf).bind λr_51=>some r_51 else
 bif OW.op=(18:Int)then(abP Q_ (1:Int)).bind λr_53=>bif (!r_53)then(dt ).bind λXg=>some Xg else
 (aF Q_ (0:Int)).bind λx_56=>(o6 (i64.wrap (0-x_56.int))).bind λr_57=>some r_57 else
 bif OW.op=(19:Int)then(tN OW.op Q_).bind λr_59=>some r_59 else
 bif OW.op=(20:Int)then(tN OW.op Q_).bind λr_61=>some r_61 else
 bif OW.op=(21:Int)then(aF Q_ (0:Int)).bind λx_63=>(qD (decide (x_63.kind=(0:Int)))).bind λr_64=>some r_64 else
 bif OW.op=(22:Int)then(pX OW.op Q_).bind λr_66=>some r_66 else
 bif OW.op=(23:Int)then(pX OW.op Q_).bind λr_68=>some r_68 else
 bif OW.op=(24:Int)then(nz OW.int Q_).bind λr_70=>some r_70 else
 (abP Q_ (1:Int)).bind λr_71=>bif (!r_71)then(dt ).bind λr_73=>some r_73 else
 (aF Q_ (0:Int)).bind λx_74=>(aF Q_ (1:Int)).bind λx_75=>(cN OW.op x_74.int x_75.int).bind λr_76=>some r_76
 |.inr q=>some q
def tD (rec:Ex->List Val->Option Val)(OW:Ex)(O3:(List Val)):Option (Val):=(iy OW).bind λO7=>bif (!O7)then(dt ).bind λPY=>some PY else
 (ao (kB OW O3 rec) fuel ([],(0:Int))).bind (gER_K OW O3)
theorem Nc {rec:Ex->List Val->Option Val}  (Pm:∀ {x:Ex} {y:List Val} {r:Val},rec x y=some r->PTz 106 [.agg (tE x),.one (.lst (y.map cV))] (.val (.agg (cV r)))){OW:Ex}{O3:(List Val)}{r:Val}(H:tD rec OW O3=some r):PTz 106 [.agg (tE OW),.one (.lst (O3.map cV))] (.val (.agg (cV r))):=by
 unfold tD at H;rw[aC OW];refine po_ Tryz.func106 Tryz.ntmps106 ?_;obtain⟨O7,c1,H⟩:=bd_ H;replace c1:=gFormedR_ok c1
 try simp only[aqD,aqB,aqF,aqv,aC]at c1
 obtain⟨Qr,H⟩|⟨Qr,H⟩:=aj H
 ·exact ay H
 refine a6 ?_;refine bS 5 3 rfl ?_;refine alM_ (λs:(List Val)×Int=>match s with|(Q_,Wy)=>[(1,.one (.c (.lst (O3.map cV)))),(2,.one (.ptr 0 0)),(4,.one (.ptr 1 0)),(5,.one (.own (Q_.map cV) 2)),(6,.one (.c (.int .i64 Wy)))]) (λs=>match s with|(Q_,Wy)=>[.box [.c (.int .i64 OW.op),.c (.int .i64 OW.int),.c (.int .i64 OW.v.kind),.c (.int .i64 OW.v.int),.c (.str OW.v.text),.c (.str OW.nm),.c (.lst (OW.args.map tE))],.box [.c (.int .i64 (0:Int)),.c (.int .i64 (0:Int)),.c (.str empty)],.spare Q_.length 3]) H (λ_=>aqL _)
  (fm_ bE [] rfl bm cm) ?_
 rintro⟨Q_,Wy⟩ QF OU Pz;unfold kB at OU;dsimp only at OU ⊢;obtain⟨QG,OU⟩|⟨QG,OU⟩:=aj OU
 ·obtain⟨RE,Y2,i3,XB,OU⟩:=br (f:=tE) OU
  simp only[aqD,aqB,aqF,aqv,aC]at XB;obtain⟨QJ,c4,OU⟩:=bd_ OU;replace c4:=Pm c4
  try simp only[aqD,aqB,aqF,aqv,aC]at c4
  exact ajm OU
 cases OU;have O2:gER_K OW O3 (.inl (Q_,Wy))=some _:=Pz;unfold gER_K at O2;dsimp only at O2;refine a6 ?_;obtain⟨S8,O2⟩|⟨S8,O2⟩:=aj O2
 ·exact ay O2
 obtain⟨QN,O2⟩|⟨QN,O2⟩:=aj O2
 ·exact ay O2
 obtain⟨Q1,O2⟩|⟨Q1,O2⟩:=aj O2
 ·exact ay O2
 refine a6 ?_;obtain⟨Rl,O2⟩|⟨Rl,O2⟩:=aj O2
 ·exact ay O2
 obtain⟨SU,O2⟩|⟨SU,O2⟩:=aj O2
 ·exact ay O2
 obtain⟨TW,O2⟩|⟨TW,O2⟩:=aj O2
 ·exact ay O2
 refine a6 ?_;obtain⟨UI,O2⟩|⟨UI,O2⟩:=aj O2
 ·exact ay O2
 obtain⟨YK,O2⟩|⟨YK,O2⟩:=aj O2
 ·exact ay O2
 obtain⟨YF,O2⟩|⟨YF,O2⟩:=aj O2
 ·exact ay O2
 refine a6 ?_;obtain⟨V3,O2⟩|⟨V3,O2⟩:=aj O2
 ·exact ay O2
 obtain⟨V4,O2⟩|⟨V4,O2⟩:=aj O2
 ·exact ay O2
 obtain⟨q_52,O2⟩|⟨q_52,O2⟩:=aj O2
 ·obtain⟨r_53,c38,O2⟩:=bd_ O2
  replace c38:=gAre_ok c38;refine a6 ?_;exact ay O2
 refine a6 ?_;obtain⟨q_58,O2⟩|⟨q_58,O2⟩:=aj O2
 ·exact ay O2
 obtain⟨Ys,O2⟩|⟨Ys,O2⟩:=aj O2
 ·exact ay O2
 obtain⟨Yt,O2⟩|⟨Yt,O2⟩:=aj O2
 ·exact ay O2
 refine a6 ?_;obtain⟨Yu,O2⟩|⟨Yu,O2⟩:=aj O2
 ·exact ay O2
 obtain⟨q_67,O2⟩|⟨q_67,O2⟩:=aj O2
 ·exact ay O2
 obtain⟨Yv,O2⟩|⟨Yv,O2⟩:=aj O2
 ·exact ay O2
 obtain⟨r_71,Z4,O2⟩:=bd_ O2;replace Z4:=gAre_ok Z4;refine a6 ?_;exact ay O2
def ik:Nat->Ex->List Val->Option Val
 |0,_,_=>none
 |n+1,e,r=>tD (ik n) e r
theorem Ft:∀ (n:Nat) {x:Ex} {y:List Val} {r:Val},ik n x y=some r->PTz 106 [.agg (tE x),.one (.lst (y.map cV))] (.val (.agg (cV r)))
 |0,_,_,_,h=>nomatch h
 |n+1,_,_,_,h=>Nc (Ft n) h
