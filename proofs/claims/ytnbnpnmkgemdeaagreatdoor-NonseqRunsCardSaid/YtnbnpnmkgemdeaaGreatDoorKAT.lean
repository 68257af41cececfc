/- Parts. No condition. -/
import Derived.Test.YtnbnpnmkgemdeaaGreatDoorKAP
set_option maxHeartbeats 8000000
set_option maxRecDepth 100000
set_option linter.unusedSimpArgs false
set_option linter.unusedVariables false
namespace Go.Proofs.YtnbnpnmkgemdeaaGreatDoor
open IntKind (i64)
open Go.RowKit Go.MapKept Tryz
def rp (O5:(List Int)):(Int×Int)->Option (Step (Int×Int) (Int×Bool)):=λs=>match s with
 |(Q6,v_2)=>bif v_2<(O5.length:Int)then(al O5 v_2).bind λPK=>bif PK=(0:Int)then some (.next (Q6,(i64.wrap (v_2+(1:Int)))))else
 bif Q6≠(0:Int)then bif Q6≠PK then some (.ret ((0:Int),false))else
 some (.next (PK,(i64.wrap (v_2+(1:Int)))))else
 some (.next (PK,(i64.wrap (v_2+(1:Int)))))else
 some (.exit (Q6,v_2))
def mR:Sum (Int×Int) (Int×Bool)->Option ((Int×Bool))
 |.inl (Q6,v_2)=>some (Q6,true)
 |.inr q=>some q
def ii (O5:(List Int)):Option (Int×Bool):=(af (rp O5) fuel ((0:Int),(0:Int))).bind (mR)
theorem fB {O5:(List Int)}{r:Int×Bool}(H:ii O5=some r):PTz 302 [.one (.lst (O5.map (λx=>[AC.int .i64 x])))] (.tup [.one (.int .i64 r.1),.one (.bool r.2)]):=by
 unfold ii at H;refine po_ func302 ntmps302 ?_;refine aS ?_;refine alM_ (λs:Int×Int=>match s with|(Q6,v_2)=>[(4,.one (.c (.int .i64 Q6))),(7,.one (.c (.lst (O5.map (λx=>[AC.int .i64 x]))))),(8,.one (.c (.int .i64 (O5.length:Int)))),(9,.one (.c (.int .i64 v_2)))]) (λs=>match s with|(Q6,v_2)=>[]) H (λ_=>aia _)
  (fm_ bg [] rfl aQ trivial) ?_
 rintro⟨Q6,v_2⟩ Qr OZ Po;unfold rp at OZ;dsimp only at OZ ⊢;obtain⟨PG,OZ⟩|⟨PG,OZ⟩:=ae OZ
 .obtain⟨PK,QV,i1,QI,OZ⟩:=aw (f:=(λx=>[AC.int .i64 x])) OZ
  obtain⟨Qu,OZ⟩|⟨Qu,OZ⟩:=ae OZ
  .cases OZ
   refine aS ?_;exact⟨_,rfl,fm_ bg [] rfl aQ trivial⟩
  obtain⟨Qb,OZ⟩|⟨Qb,OZ⟩:=ae OZ
  .obtain⟨QX,OZ⟩|⟨QX,OZ⟩:=ae OZ
   .cases OZ
    have O0:mR (.inr ((0:Int),false))=some _:=Po;unfold mR at O0;dsimp only at O0
    cases O0;exact ao
   cases OZ;refine aS ?_;exact⟨_,rfl,fm_ bg [] rfl aQ trivial⟩
  cases OZ;refine aS ?_;exact⟨_,rfl,fm_ bg [] rfl aQ trivial⟩
 cases OZ;have O0:mR (.inl (Q6,v_2))=some _:=Po;unfold mR at O0;dsimp only at O0
 cases O0;exact ao
def ag7:TI :={ tab with owns:=λf=>f==311||tab.owns f }
theorem K1:TIok prog ag7:=⟨tab_ok.size,tab_ok.agg,tab_ok.elem,tab_ok.field,tab_ok.zero,tab_ok.bytes,tab_ok.kind,tab_ok.struct,tab_ok.zok,tab_ok.eqs⟩
theorem NL (l:List Int):∀ e∈l.map (λx=>[AC.int .i64 x]),e.length=1:=by intro e he;obtain⟨x,_,rfl⟩:=aip.1 he;rfl
theorem KI (l:List Int)(h0:l≠[])(hl:l.length<=1000000):RTz 311 [] [.one (.c (be l))] [.spare l.length 1] (.one (.own (l.map λx=>[AC.int .i64 x]) 0)):=by
 refine bB tab_ok func311 rfl rfl ntmps311 m5 ?_;simp only[gp];obtain⟨x,r,rfl⟩:∃ x r',l=x::r':=by cases l with|nil=>exact absurd rfl h0|cons x r=>exact⟨x,r,rfl⟩
 have hw:=NL (x::r);have hlen:((x::r).map λx=>[AC.int .i64 x]).length=r.length+1:=by simp
 simp only[aib]at hl
 repeat' (first|refine gw_ tab_ok tabS_ok ?_|refine gi_ (λhb=>?_) (λhb=>?_)|(refine st_pop rfl rfl rfl rfl ?_ ?_;· (repeat' (first|exact t7|rfl|exact ah1 rfl|omega|exact hw|(rw[hlen];omega)|apply And.intro)))|(refine st_lop rfl rfl rfl rfl ?_ ?_;· (repeat' (first|exact t7|rfl|exact ah1 rfl|omega|exact hw|(rw[hlen];omega)|apply And.intro)))|(refine sS_ rfl rfl rfl ?_ ?_;· (repeat' (first|exact t7|rfl|exact ah1 rfl|omega|exact hw|(rw[hlen];omega)|apply And.intro)))|(refine st_lit rfl rfl rfl rfl ?_ ?_;· (repeat' (first|exact t7|rfl|exact ah1 rfl|omega|exact hw|(rw[hlen];omega)|apply And.intro)))|(refine cf rfl rfl rfl rfl rfl (tJ rfl rfl (tab_ok.kind 34 _ rfl)) ?_)|fail)
 all_goals exact⟨.inr rfl,⟨.inl ⟨2,rfl,rfl⟩,⟨[],by rw[aio];exact congrArg (λn=>[Ob.spare n 1]) m5⟩,aia _,bU ⟨t7,t7⟩,by show 0<1;omega⟩⟩
def G1 (l:List Int):Bool := !l.isEmpty&&decide (l.length<=100000)
theorem abm {l:List Int}(h:G1 l=true):l≠[]/\l.length<=100000:=by
 unfold G1 at h;rw[ah9]at h;refine⟨?_,aii h.2⟩;rintro rfl;exact absurd h.1 m9
theorem OJ {a b:Bool}(h:a=b):(CV.val (.one (.bool a))) = .val (.one (.bool b)):=by rw[h]
def oZ (l:List Int)(k:Int):Option Bool:=bif G1 l then(ii (l++[k])).bind λr=>some (bif r.2 then decide (r.1=k)else false)else none
theorem jp {l:List Int}{k:Int}{r:Bool}(H:oZ l k=some r):PTz 301 [.one (.lst (l.map (λx=>[AC.int .i64 x]))),.one (.int .i64 k)] (.val (.one (.bool r))):=by
 unfold oZ at H;obtain⟨g,H⟩:=ie H;refine pa_ K1 func301 rfl rfl ntmps301 m5 ?_;simp only[argT,PV.av,ah2,ah6];obtain⟨h0,hl⟩:=abm g;obtain⟨⟨u1,u2⟩,hun,H⟩:=bd_ H;replace hun:=fB hun;have htI:(l++[k]).map (λx=>[AC.int .i64 x])=(l.map λx=>[AC.int .i64 x])++[[.int .i64 k]]:=by simp
 rw[htI]at hun;have hun':PTz 302 [.one (.lst ((l.map λx=>[AC.int .i64 x])++[[.int .i64 k]]))] (.tup [.one (.int .i64 u1),.one (.bool u2)]):=hun;obtain rfl:=aim H;have hlm:(l.map λx=>[AC.int .i64 x]).length=l.length:=by simp
 repeat' (first
  |refine st_nil ?_
  |(refine st_pop rfl rfl rfl rfl ?_ ?_;· (repeat' (first|exact t7|rfl|exact ah1 rfl|omega|(intro e he;simp at he;subst he;rfl)|exact hlm|(show(_+1)*8<=_;omega)|(show _+1<=_;omega)|apply And.intro)))
  |(refine st_lop rfl rfl rfl rfl ?_ ?_;· (repeat' (first|exact t7|rfl|exact ah1 rfl|omega|(intro e he;simp at he;subst he;rfl)|exact hlm|(show(_+1)*8<=_;omega)|(show _+1<=_;omega)|apply And.intro)))
  |(refine sS_ rfl rfl rfl ?_ ?_;· (repeat' (first|exact t7|rfl|exact ah1 rfl|omega|(intro e he;simp at he;subst he;rfl)|exact hlm|(show(_+1)*8<=_;omega)|(show _+1<=_;omega)|apply And.intro)))
  |(refine st_lit rfl rfl rfl rfl ?_ ?_;· (repeat' (first|exact t7|rfl|exact ah1 rfl|omega|(intro e he;simp at he;subst he;rfl)|exact hlm|(show(_+1)*8<=_;omega)|(show _+1<=_;omega)|apply And.intro)))
  |refine st_skip rfl rfl rfl ?_
  |refine sk0_ rfl rfl ?_
  |refine au rfl rfl rfl rfl hun' rfl ?_
  |(refine cl [] (r' := .one (.own (l.map λx=>[AC.int .i64 x]) 0)) (L':=[.spare l.length 1]) rfl rfl rfl rfl (KI l h0 m0) rfl ⟨rfl,m5,λi x hx=>by simp at hx,λx hx=>by simp at hx,iO ⟨t7,t7⟩⟩ rfl rfl ?_)
  |(refine st_if rfl (λhb=>?_) (λhb=>?_)<;>(first|exact(fx_ hb).elim|rw[hb]))
  |refine aw_seq ?_
  |refine aw_region K1 _ rfl ?_
  |refine aw_drawn2 tabS_ok _ rfl mixed (by decide +kernel) ?_
  |(refine aw_cond rfl (λhb=>?_) (λhb=>?_)<;>(try exact(fx_ hb).elim))
  |refine aw_block ?_
  |refine aw_exit ?_
  |refine aw_ret ?_
  |refine aw_skip ?_)
 all_goals (refine az (aE rfl (by trivial) (OJ ?_));simp only[*, ahT,ahS])
def gRsP (O6:Ex)(O5:(List Int)):Option (Int×Bool):=bif O6.op=(1:Int)then some (O6.v.kind,true)else
 bif O6.op=(4:Int)then(oZ O5 (3:Int)).bind λQm=>some ((3:Int),Qm)else
 bif O6.op=(5:Int)then(oZ O5 (3:Int)).bind λPM=>some ((3:Int),PM)else
 bif O6.op=(6:Int)then(oZ O5 (3:Int)).bind λQi=>some ((3:Int),Qi)else
 bif O6.op=(7:Int)then(ii O5).bind λQ4=>some ((3:Int),Q4.2)else
 bif O6.op=(8:Int)then(ii O5).bind λPY=>some ((3:Int),PY.2)else
 bif O6.op=(9:Int)then(ii O5).bind λQp=>some ((3:Int),Qp.2)else
 bif O6.op=(10:Int)then(ii O5).bind λQ1=>some ((3:Int),Q1.2)else
 bif O6.op=(11:Int)then(ii O5).bind λQD=>some ((3:Int),QD.2)else
 bif O6.op=(12:Int)then(ii O5).bind λRt=>some ((3:Int),Rt.2)else
 bif O6.op=(19:Int)then(oZ O5 (2:Int)).bind λSU=>some ((2:Int),SU)else
 bif O6.op=(20:Int)then(oZ O5 (2:Int)).bind λTQ=>some ((1:Int),TQ)else
 bif O6.op=(21:Int)then some ((3:Int),true)else
 bif O6.op=(22:Int)then(gE O5 (1:Int) (O5.length:Int)).bind λZ7=>(ii Z7).bind λR_=>bif R_.2 then(gE O5 (0:Int) (1:Int)).bind λZ8=>(oZ Z8 (3:Int)).bind λWL=>some (R_.1,WL)else
 some (R_.1,false)else
 bif O6.op=(23:Int)then(ii O5).bind λYQ=>some (YQ.1,YQ.2)else
 bif O6.op=(24:Int)then(oZ O5 (1:Int)).bind λZ9=>some ((3:Int),Z9)else
 (oZ O5 (1:Int)).bind λTR=>some ((1:Int),TR)
theorem HT {O6:Ex}{O5:(List Int)}{r:Int×Bool}(H:gRsP O6 O5=some r):PTz 283 [.agg (tE O6),.one (.lst (O5.map (λx=>[AC.int .i64 x])))] (.tup [.one (.int .i64 r.1),.one (.bool r.2)]):=by
 unfold gRsP at H;rw[ay O6];refine po_ func283 ntmps283 ?_;obtain⟨PT,H⟩|⟨PT,H⟩:=ae H
 .cases H
  exact ao
 obtain⟨PP,H⟩|⟨PP,H⟩:=ae H
 .obtain⟨Qm,c1,H⟩:=bd_ H
  replace c1:=jp c1
  cases H;exact ao
 refine aS ?_;obtain⟨P1,H⟩|⟨P1,H⟩:=ae H
 .obtain⟨PM,c2,H⟩:=bd_ H
  replace c2:=jp c2
  cases H;exact ao
 obtain⟨Qb,H⟩|⟨Qb,H⟩:=ae H
 .obtain⟨Qi,c3,H⟩:=bd_ H
  replace c3:=jp c3
  cases H;exact ao
 obtain⟨Qw,H⟩|⟨Qw,H⟩:=ae H
 .obtain⟨Q4,c4,H⟩:=bd_ H
  replace c4:=fB c4
  cases H;exact ao
 refine aS ?_;obtain⟨P6,H⟩|⟨P6,H⟩:=ae H
 .obtain⟨PY,c5,H⟩:=bd_ H
  replace c5:=fB c5
  cases H;exact ao
 obtain⟨Qj,H⟩|⟨Qj,H⟩:=ae H
 .obtain⟨Qp,c6,H⟩:=bd_ H
  replace c6:=fB c6
  cases H;exact ao
 obtain⟨P9,H⟩|⟨P9,H⟩:=ae H
 .obtain⟨Q1,c7,H⟩:=bd_ H
  replace c7:=fB c7
  cases H;exact ao
 refine aS ?_;obtain⟨Rq,H⟩|⟨Rq,H⟩:=ae H
 .obtain⟨QD,c8,H⟩:=bd_ H
  replace c8:=fB c8
  cases H;exact ao
 obtain⟨QT,H⟩|⟨QT,H⟩:=ae H
 .obtain⟨Rt,c9,H⟩:=bd_ H
  replace c9:=fB c9
  cases H;exact ao
 obtain⟨RJ,H⟩|⟨RJ,H⟩:=ae H
 .obtain⟨SU,Ug,H⟩:=bd_ H
  replace Ug:=jp Ug
  cases H;exact ao
 refine aS ?_;obtain⟨SS,H⟩|⟨SS,H⟩:=ae H
 .obtain⟨TQ,SC,H⟩:=bd_ H
  replace SC:=jp SC
  cases H;exact ao
 obtain⟨U8,H⟩|⟨U8,H⟩:=ae H
 .cases H
  exact ao
 obtain⟨VF,H⟩|⟨VF,H⟩:=ae H
 .obtain⟨Z7,u12,H⟩:=bd_ H
  obtain⟨⟨u12a,u12b,u12c⟩,u12⟩:=cY u12;have YR:=xT (f:=(λx=>[AC.int .i64 x])) u12;obtain⟨R_,R4,H⟩:=bd_ H;replace R4:=fB R4
  repeat' (first|refine gs_ ?_|rw[YR]|rw[show((0:Nat):Int)=0 from rfl])
  obtain⟨TS,H⟩|⟨TS,H⟩:=ae H
  .obtain⟨Z8,u14,H⟩:=bd_ H
   obtain⟨⟨u14a,u14b,u14c⟩,u14⟩:=cY u14;have u14x:=xT (f:=(λx=>[AC.int .i64 x])) u14;obtain⟨WL,WM,H⟩:=bd_ H;replace WM:=jp WM
   cases H
   repeat' (first|refine gs_ ?_|rw[YR]|rw[u14x]|rw[show((0:Nat):Int)=0 from rfl])
   refine az (aE rfl ?_ ?_)
   .repeat' (first|exact t7|rfl|exact ah1 rfl|omega|apply And.intro)
   .first|rfl|(simp only[ah4,ah2,ah6,ahW]<;>rfl)
  cases H
  repeat' (first|refine gs_ ?_|rw[YR]|rw[show((0:Nat):Int)=0 from rfl])
  refine az (aE rfl ?_ ?_)
  .repeat' (first|exact t7|rfl|exact ah1 rfl|omega|apply And.intro)
  .first|rfl|(simp only[ah4,ah2,ah6,ahW]<;>rfl)
 refine aS ?_;obtain⟨Z_,H⟩|⟨Z_,H⟩:=ae H
 .obtain⟨YQ,VO,H⟩:=bd_ H
  replace VO:=fB VO
  cases H;exact ao
 obtain⟨V4,H⟩|⟨V4,H⟩:=ae H
 .obtain⟨Z9,UK,H⟩:=bd_ H
  replace UK:=jp UK
  cases H;exact ao
 obtain⟨TR,Yg,H⟩:=bd_ H;replace Yg:=jp Yg
 cases H;exact ao
def d_ (O6:Ex)(Pj:Int)(rec:Ex->Int->Option Int):(Int×Int)->Option (Step (Int×Int) (Int)):=λs=>match s with
 |(UL,Sr)=>bif Sr<(O6.args.length:Int)then(al O6.args Sr).bind λQG=>(rec QG (i64.wrap (Pj-(1:Int)))).bind λQW=>some (.next ((wZ UL (i64.wrap ((1:Int)+QW))),(i64.wrap (Sr+(1:Int)))))else
 some (.exit (UL,Sr))
def qp:Sum (Int×Int) (Int)->Option ((Int))
 |.inl (UL,Sr)=>some UL
 |.inr q=>some q
def po (rec:Ex->Int->Option Int)(O6:Ex)(Pj:Int):Option (Int):=bif Pj<=(1:Int)then some (1:Int)else
 (af (d_ O6 Pj rec) fuel ((1:Int),(0:Int))).bind (qp)
theorem It {rec:Ex->Int->Option Int}  (Pq:∀ {x:Ex} {y:Int} {r:Int},rec x y=some r->PTz 282 [.agg (tE x),.one (.int .i64 y)] (.val (.one (.int .i64 r)))){O6:Ex}{Pj:Int}{r:Int}(H:po rec O6 Pj=some r):PTz 282 [.agg (tE O6),.one (.int .i64 Pj)] (.val (.one (.int .i64 r))):=by
 unfold po at H;rw[ay O6];refine po_ func282 ntmps282 ?_;obtain⟨PT,H⟩|⟨PT,H⟩:=ae H
 .cases H
  exact ao
 refine aS ?_;refine alM_ (λs:Int×Int=>match s with|(UL,Sr)=>[(1,.one (.c (.int .i64 Pj))),(5,.one (.c (.int .i64 UL))),(11,.one (.c (.lst (O6.args.map tE)))),(12,.one (.c (.int .i64 (O6.args.length:Int)))),(13,.one (.c (.int .i64 Sr)))]) (λs=>match s with|(UL,Sr)=>[.box [.c (.int .i64 O6.op),.c (.int .i64 O6.int),.c (.int .i64 O6.v.kind),.c (.int .i64 O6.v.int),.c (.str O6.v.text),.c (.str O6.nm),.c (.lst (O6.args.map tE))]]) H (λ_=>aia _)
  (fm_ bg [] rfl aQ bq) ?_
 rintro⟨UL,Sr⟩ Qr OZ Po;unfold d_ at OZ;dsimp only at OZ ⊢;obtain⟨P1,OZ⟩|⟨P1,OZ⟩:=ae OZ
 .obtain⟨QG,QV,i1,QI,OZ⟩:=aw (f:=tE) OZ
  simp only[ah4,ah2,ah6,ahW,ay]at QI;obtain⟨QW,c2,OZ⟩:=bd_ OZ;replace c2:=Pq c2
  try simp only[ah4,ah2,ah6,ahW,ay,aD]at c2
  cases OZ;refine aS ?_;exact⟨_,rfl,fm_ bg [_] rfl aQ bq⟩
 cases OZ;have O0:qp (.inl (UL,Sr))=some _:=Po;unfold qp at O0;dsimp only at O0
 cases O0;exact ao
def n5:Nat->Ex->Int->Option Int
 |0,_,_=>none
 |n+1,x,y=>po (n5 n) x y
theorem A4:∀ (n:Nat) {x:Ex} {y:Int} {r:Int},n5 n x y=some r->PTz 282 [.agg (tE x),.one (.int .i64 y)] (.val (.one (.int .i64 r)))
 |0,_,_,_,h=>nomatch h
 |n+1,_,_,_,h=>It (A4 n) h
def KT (O6:Ex):Option (Int):=(n5 fuel O6 (25:Int)).bind λPh=>some Ph
theorem aat {O6:Ex}{r:Int}(H:KT O6=some r):PTz 247 [.agg (tE O6)] (.val (.one (.int .i64 r))):=by
 unfold KT at H;rw[ay O6];refine po_ func247 ntmps247 ?_;obtain⟨Ph,c1,H⟩:=bd_ H;replace c1:=A4 fuel c1
 try simp only[ah4,ah2,ah6,ahW,ay,aD]at c1
 cases H;exact ao
def lV (O6:Ex)(O1:(List Int))(rec:Ex->List Int->Option (Int×Int)):((List Int)×Int)->Option (Step ((List Int)×Int) (Int×Int)):=λs=>match s with
 |(WN,Uh)=>bif Uh<(O6.args.length:Int)then(al O6.args Uh).bind λR9=>(rec R9 O1).bind λQp=>bif Qp.2≠(0:Int)then some (.ret ((0:Int),Qp.2))else
 bif WN.length+1<=17592186044416 then(some (.next ((WN++[Qp.1]),(i64.wrap (Uh+(1:Int))))))else none else
 some (.exit (WN,Uh))
def gP (O6:Ex):Sum ((List Int)×Int) (Int×Int)->Option ((Int×Int))
 |.inl (WN,Uh)=>(gRsP O6 WN).bind λQ1=>bif (!Q1.2)then some ((0:Int),(7:Int))else
 some (Q1.1,(0:Int))
 |.inr q=>some q
def qt (rec:Ex->List Int->Option (Int×Int))(O6:Ex)(O1:(List Int)):Option (Int×Int):=(nO O6.op (O6.args.length:Int)).bind λPh=>bif (!Ph.2)then some ((0:Int),(7:Int))else
 (lC O6).bind λQm=>bif (!Qm)then some ((0:Int),(8:Int))else
 bif O6.op=(2:Int)then bif O6.int<(0:Int)then some ((0:Int),(13:Int))else
 bif (O1.length:Int)<=O6.int then some ((0:Int),(13:Int))else
 (al O1 O6.int).bind λUu=>some (Uu,(0:Int))else
 (af (lV O6 O1 rec) fuel ([],(0:Int))).bind (gP O6)
theorem HS {rec:Ex->List Int->Option (Int×Int)}  (Pq:∀ {x:Ex} {y:List Int} {r:Int×Int},rec x y=some r->PTz 248 [.agg (tE x),.one (.lst (y.map (λx=>[AC.int .i64 x])))] (.tup [.one (.int .i64 r.1),.one (.int .i64 r.2)])){O6:Ex}{O1:(List Int)}{r:Int×Int}(H:qt rec O6 O1=some r):PTz 248 [.agg (tE O6),.one (.lst (O1.map (λx=>[AC.int .i64 x])))] (.tup [.one (.int .i64 r.1),.one (.int .i64 r.2)]):=by
 unfold qt at H;rw[ay O6];refine po_ func248 ntmps248 ?_;obtain⟨Ph,c1,H⟩:=bd_ H;replace c1:=yz c1;obtain⟨PP,H⟩|⟨PP,H⟩:=ae H
 .cases H
  exact ao
 obtain⟨Qm,c2,H⟩:=bd_ H;replace c2:=Ar c2
 try simp only[ah4,ah2,ah6,ahW,ay,aD]at c2
 obtain⟨P1,H⟩|⟨P1,H⟩:=ae H
 .cases H
  exact ao
 obtain⟨Qu,H⟩|⟨Qu,H⟩:=ae H
 .obtain⟨Qb,H⟩|⟨Qb,H⟩:=ae H
  .cases H
   exact ao
  obtain⟨QX,H⟩|⟨QX,H⟩:=ae H
  .cases H
   exact ao
  obtain⟨Uu,Ud,i3,TK,H⟩:=aw (f:=(λx=>[AC.int .i64 x])) H
  cases H;exact ao
 refine aS ?_;refine br 8 1 rfl ?_;refine alM_ (λs:(List Int)×Int=>match s with|(WN,Uh)=>[(1,.one (.c (.lst (O1.map (λx=>[AC.int .i64 x]))))),(2,.one (.ptr 0 0)),(8,.one (.own (WN.map (λx=>[AC.int .i64 x])) 1)),(48,.one (.c (.lst (O6.args.map tE)))),(49,.one (.c (.int .i64 (O6.args.length:Int)))),(50,.one (.c (.int .i64 Uh)))]) (λs=>match s with|(WN,Uh)=>[.box [.c (.int .i64 O6.op),.c (.int .i64 O6.int),.c (.int .i64 O6.v.kind),.c (.int .i64 O6.v.int),.c (.str O6.v.text),.c (.str O6.nm),.c (.lst (O6.args.map tE))],.spare WN.length 1]) H (λ_=>aia _)
  (fm_ bg [] rfl aQ bq) ?_
 rintro⟨WN,Uh⟩ Qr OZ Po;unfold lV at OZ;dsimp only at OZ ⊢;obtain⟨Qo,OZ⟩|⟨Qo,OZ⟩:=ae OZ
 .obtain⟨R9,VC,i4,U7,OZ⟩:=aw (f:=tE) OZ
  simp only[ah4,ah2,ah6,ahW,ay]at U7;obtain⟨Qp,c5,OZ⟩:=bd_ OZ;replace c5:=Pq c5
  try simp only[ah4,ah2,ah6,ahW,ay,aD]at c5
  obtain⟨P9,OZ⟩|⟨P9,OZ⟩:=ae OZ
  .cases OZ
   have O0:gP O6 (.inr ((0:Int),Qp.2))=some _:=Po;unfold gP at O0;dsimp only at O0
   cases O0;exact ao
  obtain⟨g6,OZ⟩:=aq OZ
  cases OZ;refine aS ?_;exact⟨_,rfl,fm_ fO [_] dU aQ bq⟩
 cases OZ;have O0:gP O6 (.inl (WN,Uh))=some _:=Po;unfold gP at O0;dsimp only at O0;obtain⟨Q1,c7,O0⟩:=bd_ O0;replace c7:=HT c7
 try simp only[ah4,ah2,ah6,ahW,ay,aD]at c7
 obtain⟨Rq,O0⟩|⟨Rq,O0⟩:=ae O0
 .cases O0
  exact ao
 cases O0;exact ao
def od:Nat->Ex->List Int->Option (Int×Int)
 |0,_,_=>none
 |n+1,x,y=>qt (od n) x y
theorem zt:∀ (n:Nat) {x:Ex} {y:List Int} {r:Int×Int},od n x y=some r->PTz 248 [.agg (tE x),.one (.lst (y.map (λx=>[AC.int .i64 x])))] (.tup [.one (.int .i64 r.1),.one (.int .i64 r.2)])
 |0,_,_,_,h=>nomatch h
 |n+1,_,_,_,h=>HS (zt n) h
def Bv (O6:Ex)(O1:(List Int)):Option (Int×Int):=(KT O6).bind λPh=>bif (24:Int)<Ph then some ((0:Int),(26:Int))else
 (od fuel O6 O1).bind λQm=>some (Qm.1,Qm.2)
theorem H3 {O6:Ex}{O1:(List Int)}{r:Int×Int}(H:Bv O6 O1=some r):PTz 205 [.agg (tE O6),.one (.lst (O1.map (λx=>[AC.int .i64 x])))] (.tup [.one (.int .i64 r.1),.one (.int .i64 r.2)]):=by
 unfold Bv at H;rw[ay O6];refine po_ func205 ntmps205 ?_;obtain⟨Ph,c1,H⟩:=bd_ H;replace c1:=aat c1
 try simp only[ah4,ah2,ah6,ahW,ay,aD]at c1
 obtain⟨PP,H⟩|⟨PP,H⟩:=ae H
 .cases H
  exact ao
 obtain⟨Qm,c2,H⟩:=bd_ H;replace c2:=zt fuel c2
 try simp only[ah4,ah2,ah6,ahW,ay,aD]at c2
 cases H;exact ao
