/- Parts. No condition. -/
import Derived.Test.YtnbnpnmkgemdeaaGreatDoorKAT
import Derived.Test.YtnbnpnmkgemdeaaGreatDoorKAX
set_option maxHeartbeats 8000000
set_option maxRecDepth 100000
set_option linter.unusedSimpArgs false
set_option linter.unusedVariables false
namespace Go.Proofs.YtnbnpnmkgemdeaaGreatDoor
open IntKind (i64)
open Go.RowKit Go.MapKept Tryz
noncomputable section
def ro (O6:Ex)(Pg:(List Val)):Option (Int):=(qn fuel O6 Pg).bind λPh=>(ja Ph).bind λPW=>some PW
theorem zn {O6:Ex}{Pg:(List Val)}{r:Int}(H:ro O6 Pg=some r):PTz 162 [.agg (tE O6),.one (.lst (Pg.map cV))] (.val (.one (.int .i64 r))):=by
 unfold ro at H;rw[ay O6];refine po_ func162 ntmps162 ?_;obtain⟨Ph,c1,H⟩:=bd_ H;replace c1:=Bq fuel c1
 try simp only[ah4,ah2,ah6,ahW,ay,aD]at c1
 obtain⟨PW,c2,H⟩:=bd_ H;replace c2:=kQ c2
 cases H;exact ao
def gW (O1:(List Int))(Qd:(List (List Val))):Option (aJ):=bif O1.length<=17592186044416 then((nC Qd).bind λPh=>some (⟨O1,Ph⟩:aJ))else none
theorem fP {O1:(List Int)}{Qd:(List (List Val))}{r:aJ}(H:gW O1 Qd=some r):PTz 120 [.one (.lst (O1.map (λx=>[AC.int .i64 x]))),.one (.lst (Qd.map (λx=>[AC.lst (x.map cV)])))] (.val (.agg (bn r))):=by
 unfold gW at H;refine po_ func120 ntmps120 ?_;obtain⟨g1,H⟩:=aq H;obtain⟨Ph,c2,H⟩:=bd_ H;replace c2:=D9 c2
 cases H;exact ao
def lN (O4:aJ)(O6:Ex):((List (List Val))×Int)->Option (Step ((List (List Val))×Int) (aJ)):=λs=>match s with
 |(O2,v_2)=>bif v_2<(O4.rows.length:Int)then(al O4.rows v_2).bind λPK=>(ro O6 PK).bind λPM=>bif PM=(2:Int)then bif O2.length+1<=5864062014805 then(some (.next ((O2++[PK]),(i64.wrap (v_2+(1:Int))))))else none else
 some (.next (O2,(i64.wrap (v_2+(1:Int)))))else
 some (.exit (O2,v_2))
def lD (O4:aJ):Sum ((List (List Val))×Int) (aJ)->Option ((aJ))
 |.inl (O2,v_2)=>(gW O4.kinds O2).bind λQi=>some Qi
 |.inr q=>some q
def mW (O4:aJ)(O6:Ex):Option (aJ):=(af (lN O4 O6) fuel ([],(0:Int))).bind (lD O4)
theorem G_ {O4:aJ}{O6:Ex}{r:aJ}(H:mW O4 O6=some r):PTz 121 [.agg (bn O4),.agg (tE O6)] (.val (.agg (bn r))):=by
 unfold mW at H;rw[ay O6];refine po_ func121 ntmps121 ?_;refine aS ?_;refine br 5 1 rfl ?_;refine alM_ (λs:(List (List Val))×Int=>match s with|(O2,v_2)=>[(2,.one (.ptr 0 0)),(3,.one (.ptr 1 0)),(4,.one (.ptr 2 0)),(5,.one (.own (O2.map (λx=>[AC.lst (x.map cV)])) 3)),(9,.one (.c (.lst (O4.rows.map (λx=>[AC.lst (x.map cV)]))))),(10,.one (.c (.int .i64 (O4.rows.length:Int)))),(11,.one (.c (.int .i64 v_2)))]) (λs=>match s with|(O2,v_2)=>[.box [.c (.lst (O4.kinds.map (λx=>[AC.int .i64 x]))),.c (.lst (O4.rows.map (λx=>[AC.lst (x.map cV)])))],.box [.c (.int .i64 O6.op),.c (.int .i64 O6.int),.c (.int .i64 O6.v.kind),.c (.int .i64 O6.v.int),.c (.str O6.v.text),.c (.str O6.nm),.c (.lst (O6.args.map tE))],.box [.emp,.emp],.spare O2.length 1]) H (λ_=>aia _)
  (fm_ bg [] rfl aQ bq) ?_
 rintro⟨O2,v_2⟩ Qr OZ Po;unfold lN at OZ;dsimp only at OZ ⊢;obtain⟨PG,OZ⟩|⟨PG,OZ⟩:=ae OZ
 .obtain⟨PK,QV,i1,QI,OZ⟩:=aw (f:=(λx=>[AC.lst (x.map cV)])) OZ
  obtain⟨PM,c2,OZ⟩:=bd_ OZ;replace c2:=zn c2
  try simp only[ah4,ah2,ah6,ahW,ay,aD]at c2
  obtain⟨Qb,OZ⟩|⟨Qb,OZ⟩:=ae OZ
  .obtain⟨g3,OZ⟩:=aq OZ
   cases OZ;refine aS ?_;exact⟨_,rfl,fm_ fO [] dU aQ bq⟩
  cases OZ;refine aS ?_;exact⟨_,rfl,fm_ fO [] dU aQ bq⟩
 cases OZ;have O0:lD O4 (.inl (O2,v_2))=some _:=Po;unfold lD at O0;dsimp only at O0;obtain⟨Qi,c4,O0⟩:=bd_ O0;replace c4:=fP c4
 cases O0;exact ao
def fy (O5:(List Ex))(O1:(List Int)):((List Int)×Int)->Option (Step ((List Int)×Int) ((List Int)×Int)):=λs=>match s with
 |(O2,v_2)=>bif v_2<(O5.length:Int)then(al O5 v_2).bind λPK=>(Bv PK O1).bind λPM=>bif PM.2≠(0:Int)then some (.ret ([],PM.2))else
 bif PM.1=(0:Int)then some (.ret ([],(7:Int)))else
 bif O2.length+1<=17592186044416 then(some (.next ((O2++[PM.1]),(i64.wrap (v_2+(1:Int))))))else none else
 some (.exit (O2,v_2))
def fE:Sum ((List Int)×Int) ((List Int)×Int)->Option (((List Int)×Int))
 |.inl (O2,v_2)=>some (O2,(0:Int))
 |.inr q=>some q
def tF (O5:(List Ex))(O1:(List Int)):Option ((List Int)×Int):=(af (fy O5 O1) fuel ([],(0:Int))).bind (fE)
theorem CY {O5:(List Ex)}{O1:(List Int)}{r:(List Int)×Int}(H:tF O5 O1=some r):PTz 159 [.one (.lst (O5.map tE)),.one (.lst (O1.map (λx=>[AC.int .i64 x])))] (.tup [.one (.lst (r.1.map (λx=>[AC.int .i64 x]))),.one (.int .i64 r.2)]):=by
 unfold tF at H;refine po_ func159 ntmps159 ?_;refine aS ?_;refine br 6 1 rfl ?_;refine alM_ (λs:(List Int)×Int=>match s with|(O2,v_2)=>[(1,.one (.c (.lst (O1.map (λx=>[AC.int .i64 x]))))),(6,.one (.own (O2.map (λx=>[AC.int .i64 x])) 0)),(11,.one (.c (.lst (O5.map tE)))),(12,.one (.c (.int .i64 (O5.length:Int)))),(13,.one (.c (.int .i64 v_2)))]) (λs=>match s with|(O2,v_2)=>[.spare O2.length 1]) H (λ_=>aia _)
  (fm_ bg [] rfl aQ bq) ?_
 rintro⟨O2,v_2⟩ Qr OZ Po;unfold fy at OZ;dsimp only at OZ ⊢;obtain⟨PG,OZ⟩|⟨PG,OZ⟩:=ae OZ
 .obtain⟨PK,QV,i1,QI,OZ⟩:=aw (f:=tE) OZ
  simp only[ah4,ah2,ah6,ahW,ay]at QI;obtain⟨PM,c2,OZ⟩:=bd_ OZ;replace c2:=H3 c2
  try simp only[ah4,ah2,ah6,ahW,ay,aD]at c2
  obtain⟨Qb,OZ⟩|⟨Qb,OZ⟩:=ae OZ
  .cases OZ
   have O0:fE (.inr ([],PM.2))=some _:=Po;unfold fE at O0;dsimp only at O0
   cases O0;exact ao
  obtain⟨QX,OZ⟩|⟨QX,OZ⟩:=ae OZ
  .cases OZ
   have O0:fE (.inr ([],(7:Int)))=some _:=Po;unfold fE at O0;dsimp only at O0
   cases O0;exact ao
  obtain⟨g3,OZ⟩:=aq OZ
  cases OZ;refine aS ?_;exact⟨_,rfl,fm_ fO [_] dU aQ bq⟩
 cases OZ;have O0:fE (.inl (O2,v_2))=some _:=Po;unfold fE at O0;dsimp only at O0
 cases O0;exact ao
def hU (O5:(List Ex))(PK:(List Val)):((List Val)×Int)->Option (Step ((List Val)×Int) (aJ)):=λs=>match s with
 |(Q7,Xd)=>bif Xd<(O5.length:Int)then(al O5 Xd).bind λUu=>(qn fuel Uu PK).bind λQ4=>bif Q7.length+1<=4398046511104 then(some (.next ((Q7++[Q4]),(i64.wrap (Xd+(1:Int))))))else none else
 some (.exit (Q7,Xd))
def jT (O2:(List (List Val)))(v_2:Int):Sum ((List Val)×Int) (aJ)->Option (Step ((List (List Val))×Int) (aJ))
 |.inl (Q7,Xd)=>bif O2.length+1<=5864062014805 then(some (.next ((O2++[Q7]),(i64.wrap (v_2+(1:Int))))))else none
 |.inr q=>some (.ret q)
def jQ (O4:aJ)(O5:(List Ex)):((List (List Val))×Int)->Option (Step ((List (List Val))×Int) (aJ)):=λs=>match s with
 |(O2,v_2)=>bif v_2<(O4.rows.length:Int)then(al O4.rows v_2).bind λPK=>(af (hU O5 PK) fuel ([],(0:Int))).bind (jT O2 v_2)else
 some (.exit (O2,v_2))
def jR (O4:aJ)(O5:(List Ex)):Sum ((List (List Val))×Int) (aJ)->Option ((aJ))
 |.inl (O2,v_2)=>(tF O5 O4.kinds).bind λPR=>(gW PR.1 O2).bind λPY=>some PY
 |.inr q=>some q
def j5 (O4:aJ)(O5:(List Ex)):Option (aJ):=(af (jQ O4 O5) fuel ([],(0:Int))).bind (jR O4 O5)
theorem ES {O4:aJ}{O5:(List Ex)}{r:aJ}(H:j5 O4 O5=some r):PTz 122 [.agg (bn O4),.one (.lst (O5.map tE))] (.val (.agg (bn r))):=by
 unfold j5 at H;refine po_ func122 ntmps122 ?_;refine aS ?_;refine br 5 1 rfl ?_;refine alM_ (λs:(List (List Val))×Int=>match s with|(O2,v_2)=>[(1,.one (.c (.lst (O5.map tE)))),(2,.one (.ptr 0 0)),(4,.one (.ptr 1 0)),(5,.one (.own (O2.map (λx=>[AC.lst (x.map cV)])) 2)),(14,.one (.c (.lst (O4.rows.map (λx=>[AC.lst (x.map cV)]))))),(15,.one (.c (.int .i64 (O4.rows.length:Int)))),(16,.one (.c (.int .i64 v_2)))]) (λs=>match s with|(O2,v_2)=>[.box [.c (.lst (O4.kinds.map (λx=>[AC.int .i64 x]))),.c (.lst (O4.rows.map (λx=>[AC.lst (x.map cV)])))],.box [.emp,.emp],.spare O2.length 1]) H (λ_=>aia _)
  (fm_ bg [] rfl aQ bq) ?_
 rintro⟨O2,v_2⟩ st3 PZ hk3;unfold jQ at PZ;dsimp only at PZ ⊢;obtain⟨PG,PZ⟩|⟨PG,PZ⟩:=ae PZ
 .obtain⟨PK,QV,i1,QI,PZ⟩:=aw (f:=(λx=>[AC.lst (x.map cV)])) PZ
  refine aS ?_;refine br 8 3 rfl ?_;refine alM_ (λs:(List Val)×Int=>match s with|(Q7,Xd)=>[(1,.one (.c (.lst (O5.map tE)))),(2,.one (.ptr 0 0)),(4,.one (.ptr 1 0)),(5,.one (.own (O2.map (λx=>[AC.lst (x.map cV)])) 2)),(7,.one (.c (.lst (PK.map cV)))),(8,.one (.own (Q7.map cV) 3)),(14,.one (.c (.lst (O4.rows.map (λx=>[AC.lst (x.map cV)]))))),(15,.one (.c (.int .i64 (O4.rows.length:Int)))),(16,.one (.c (.int .i64 v_2))),(20,.one (.c (.lst (O5.map tE)))),(21,.one (.c (.int .i64 (O5.length:Int)))),(22,.one (.c (.int .i64 Xd)))]) (λs=>match s with|(Q7,Xd)=>[.box [.c (.lst (O4.kinds.map (λx=>[AC.int .i64 x]))),.c (.lst (O4.rows.map (λx=>[AC.lst (x.map cV)])))],.box [.emp,.emp],.spare O2.length 1,.spare Q7.length 3]) PZ (λ_=>aia _)
   (fm_ bg [] rfl aQ bq) ?_
  rintro⟨Q7,Xd⟩ Zk Py VD;unfold hU at Py;dsimp only at Py ⊢;obtain⟨QX,Py⟩|⟨QX,Py⟩:=ae Py
  .obtain⟨Uu,Tu,i2,SR,Py⟩:=aw (f:=tE) Py
   simp only[ah4,ah2,ah6,ahW,ay]at SR;obtain⟨Q4,c3,Py⟩:=bd_ Py;replace c3:=Bq fuel c3
   try simp only[ah4,ah2,ah6,ahW,ay,aD]at c3
   obtain⟨g4,Py⟩:=aq Py
   cases Py;refine aS ?_;exact⟨_,rfl,fm_ fO [_] dU aQ bq⟩
  cases Py;have Qc:jT O2 v_2 (.inl (Q7,Xd))=some _:=VD;unfold jT at Qc;dsimp only at Qc;obtain⟨g5,Qc⟩:=aq Qc
  cases Qc;refine aS ?_;exact⟨_,rfl,fm_ fO [_] dU aQ bq⟩
 cases PZ;have Rh:jR O4 O5 (.inl (O2,v_2))=some _:=hk3;unfold jR at Rh;dsimp only at Rh;obtain⟨PR,c6,Rh⟩:=bd_ Rh;replace c6:=CY c6;obtain⟨PY,c7,Rh⟩:=bd_ Rh;replace c7:=fP c7
 cases Rh;exact ao
def nf (O4:aJ)(O6:Ex)(PK:(List Val)):((List (List Val))×Bool×Int)->Option (Step ((List (List Val))×Bool×Int) (aJ)):=λs=>match s with
 |(Q8,Q2,WT)=>bif WT<(O4.rows.length:Int)then(al O4.rows WT).bind λUx=>(mt PK Ux).bind λPR=>(ro O6 PR).bind λPY=>bif PY=(2:Int)then bif Q8.length+1<=5864062014805 then(some (.next ((Q8++[PR]),false,(i64.wrap (WT+(1:Int))))))else none else
 some (.next (Q8,Q2,(i64.wrap (WT+(1:Int)))))else
 some (.exit (Q8,Q2,WT))
def rE (O4:aJ)(P7:Bool)(v_2:Int)(PK:(List Val)):Sum ((List (List Val))×Bool×Int) (aJ)->Option (Step ((List (List Val))×Int) (aJ))
 |.inl (Q8,Q2,WT)=>bif Q2 then bif P7 then(ul (O4.kinds.length:Int)).bind λQ1=>(mt PK Q1).bind λRL=>bif Q8.length+1<=5864062014805 then(some (.next ((Q8++[RL]),(i64.wrap (v_2+(1:Int))))))else none else
 some (.next (Q8,(i64.wrap (v_2+(1:Int)))))else
 some (.next (Q8,(i64.wrap (v_2+(1:Int)))))
 |.inr q=>some (.ret q)
def rR (O7:aJ)(O4:aJ)(O6:Ex)(P7:Bool):((List (List Val))×Int)->Option (Step ((List (List Val))×Int) (aJ)):=λs=>match s with
 |(O2,v_2)=>bif v_2<(O7.rows.length:Int)then(al O7.rows v_2).bind λPK=>(af (nf O4 O6 PK) fuel (O2,true,(0:Int))).bind (rE O4 P7 v_2 PK)else
 some (.exit (O2,v_2))
def qU (O7:aJ)(O4:aJ):Sum ((List (List Val))×Int) (aJ)->Option ((aJ))
 |.inl (O2,v_2)=>bif O7.kinds.length<=17592186044416 then(bif O7.kinds.length+O4.kinds.length<=17592186044416 then((gW (O7.kinds++O4.kinds) O2).bind λQD=>some QD)else none)else none
 |.inr q=>some q
def tQ (O7:aJ)(O4:aJ)(O6:Ex)(P7:Bool):Option (aJ):=(af (rR O7 O4 O6 P7) fuel ([],(0:Int))).bind (qU O7 O4)
theorem C9 {O7:aJ}{O4:aJ}{O6:Ex}{P7:Bool}{r:aJ}(H:tQ O7 O4 O6 P7=some r):PTz 125 [.agg (bn O7),.agg (bn O4),.agg (tE O6),.one (.bool P7)] (.val (.agg (bn r))):=by
 unfold tQ at H;rw[ay O6];refine po_ func125 ntmps125 ?_;refine aS ?_;refine br 9 1 rfl ?_;refine alM_ (λs:(List (List Val))×Int=>match s with|(O2,v_2)=>[(3,.one (.c (.bool P7))),(4,.one (.ptr 0 0)),(5,.one (.ptr 1 0)),(6,.one (.ptr 2 0)),(8,.one (.ptr 3 0)),(9,.one (.own (O2.map (λx=>[AC.lst (x.map cV)])) 4)),(17,.one (.c (.lst (O7.rows.map (λx=>[AC.lst (x.map cV)]))))),(18,.one (.c (.int .i64 (O7.rows.length:Int)))),(19,.one (.c (.int .i64 v_2)))]) (λs=>match s with|(O2,v_2)=>[.box [.c (.lst (O7.kinds.map (λx=>[AC.int .i64 x]))),.c (.lst (O7.rows.map (λx=>[AC.lst (x.map cV)])))],.box [.c (.lst (O4.kinds.map (λx=>[AC.int .i64 x]))),.c (.lst (O4.rows.map (λx=>[AC.lst (x.map cV)])))],.box [.c (.int .i64 O6.op),.c (.int .i64 O6.int),.c (.int .i64 O6.v.kind),.c (.int .i64 O6.v.int),.c (.str O6.v.text),.c (.str O6.nm),.c (.lst (O6.args.map tE))],.box [.emp,.emp],.spare O2.length 1]) H (λ_=>aia _)
  (fm_ bg [] rfl aQ bq) ?_
 rintro⟨O2,v_2⟩ st3 PZ hk3;unfold rR at PZ;dsimp only at PZ ⊢;obtain⟨PG,PZ⟩|⟨PG,PZ⟩:=ae PZ
 .obtain⟨PK,QV,i1,QI,PZ⟩:=aw (f:=(λx=>[AC.lst (x.map cV)])) PZ
  refine aS ?_;refine alM_ (λs:(List (List Val))×Bool×Int=>match s with|(Q8,Q2,WT)=>[(3,.one (.c (.bool P7))),(4,.one (.ptr 0 0)),(5,.one (.ptr 1 0)),(6,.one (.ptr 2 0)),(8,.one (.ptr 3 0)),(9,.one (.own (Q8.map (λx=>[AC.lst (x.map cV)])) 4)),(11,.one (.c (.lst (PK.map cV)))),(12,.one (.c (.bool Q2))),(17,.one (.c (.lst (O7.rows.map (λx=>[AC.lst (x.map cV)]))))),(18,.one (.c (.int .i64 (O7.rows.length:Int)))),(19,.one (.c (.int .i64 v_2))),(24,.one (.c (.lst (O4.rows.map (λx=>[AC.lst (x.map cV)]))))),(25,.one (.c (.int .i64 (O4.rows.length:Int)))),(26,.one (.c (.int .i64 WT)))]) (λs=>match s with|(Q8,Q2,WT)=>[.box [.c (.lst (O7.kinds.map (λx=>[AC.int .i64 x]))),.c (.lst (O7.rows.map (λx=>[AC.lst (x.map cV)])))],.box [.c (.lst (O4.kinds.map (λx=>[AC.int .i64 x]))),.c (.lst (O4.rows.map (λx=>[AC.lst (x.map cV)])))],.box [.c (.int .i64 O6.op),.c (.int .i64 O6.int),.c (.int .i64 O6.v.kind),.c (.int .i64 O6.v.int),.c (.str O6.v.text),.c (.str O6.nm),.c (.lst (O6.args.map tE))],.box [.emp,.emp],.spare Q8.length 1]) PZ (λ_=>aia _)
   (fm_ bg [] rfl aQ bq) ?_
  rintro⟨Q8,Q2,WT⟩ Zk Py VD;unfold nf at Py;dsimp only at Py ⊢;obtain⟨Qw,Py⟩|⟨Qw,Py⟩:=ae Py
  .obtain⟨Ux,Tu,i2,SR,Py⟩:=aw (f:=(λx=>[AC.lst (x.map cV)])) Py
   obtain⟨PR,c3,Py⟩:=bd_ Py;replace c3:=xl c3;obtain⟨PY,c4,Py⟩:=bd_ Py;replace c4:=zn c4
   try simp only[ah4,ah2,ah6,ahW,ay,aD]at c4
   obtain⟨Qj,Py⟩|⟨Qj,Py⟩:=ae Py
   .obtain⟨g5,Py⟩:=aq Py
    cases Py;refine aS ?_;exact⟨_,rfl,fm_ fO [] dU aQ bq⟩
   cases Py;refine aS ?_;exact⟨_,rfl,fm_ fO [] dU aQ bq⟩
  cases Py;have Qc:rE O4 P7 v_2 PK (.inl (Q8,Q2,WT))=some _:=VD;unfold rE at Qc;dsimp only at Qc;obtain⟨P2,Qc⟩|⟨P2,Qc⟩:=ae Qc
  .obtain⟨P9,Qc⟩|⟨P9,Qc⟩:=ae Qc
   .obtain⟨Q1,c6,Qc⟩:=bd_ Qc
    replace c6:=Jk c6;obtain⟨RL,c7,Qc⟩:=bd_ Qc;replace c7:=xl c7;obtain⟨g8,Qc⟩:=aq Qc
    cases Qc;refine aS ?_;exact⟨_,rfl,fm_ fO [] dU aQ bq⟩
   cases Qc;refine aS ?_;exact⟨_,rfl,fm_ fO [] dU aQ bq⟩
  cases Qc;refine aS ?_;exact⟨_,rfl,fm_ fO [] dU aQ bq⟩
 cases PZ;have Rh:qU O7 O4 (.inl (O2,v_2))=some _:=hk3;unfold qU at Rh;dsimp only at Rh;obtain⟨g9,Rh⟩:=aq Rh;obtain⟨g10,Rh⟩:=aq Rh;obtain⟨QD,SC,Rh⟩:=bd_ Rh;replace SC:=fP SC
 try simp only[ah4,ah2,ah6,ahW,ay,aD]at SC
 cases Rh;exact ao
def qT (O7:aJ)(O4:aJ):Option (aJ):=bif O7.rows.length<=5864062014805 then(bif O7.rows.length+O4.rows.length<=5864062014805 then((gW O7.kinds (O7.rows++O4.rows)).bind λPh=>some Ph)else none)else none
theorem Jc {O7:aJ}{O4:aJ}{r:aJ}(H:qT O7 O4=some r):PTz 126 [.agg (bn O7),.agg (bn O4)] (.val (.agg (bn r))):=by
 unfold qT at H;refine po_ func126 ntmps126 ?_;obtain⟨g1,H⟩:=aq H;obtain⟨g2,H⟩:=aq H;obtain⟨Ph,c3,H⟩:=bd_ H;replace c3:=fP c3
 try simp only[ah4,ah2,ah6,ahW,ay,aD]at c3
 cases H;exact ao
end
