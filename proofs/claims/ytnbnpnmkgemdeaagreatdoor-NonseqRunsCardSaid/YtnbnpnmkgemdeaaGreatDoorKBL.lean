/- Parts. No condition. -/
import Derived.Test.YtnbnpnmkgemdeaaGreatDoorKBK
import Derived.Test.YtnbnpnmkgemdeaaGreatDoorKBI
set_option maxHeartbeats 8000000
set_option maxRecDepth 100000
set_option linter.unusedSimpArgs false
set_option linter.unusedVariables false
namespace Go.Proofs.YtnbnpnmkgemdeaaGreatDoor
open IntKind (i64)
open Go.RowKit Go.MapKept Tryz
theorem aaj {op n:Int}(hn:fe op=some n)(n0:0<=n):(op=1/\n=0)\/(op=2/\n=0)\/(op=3/\n=1)\/(op=4/\n=1)\/(op=10/\n=1)\/(op=11/\n=1)\/(op=5/\n=2)\/(op=6/\n=2)\/(op=7/\n=2)\/(op=8/\n=2)\/(op=9/\n=2):=by
 unfold fe at hn;by_cases o1:op=1
 .rw[ahV o1,ahT]at hn;exact Or.inl ⟨o1,(aim hn).symm⟩
 rw[ahU o1,ahS]at hn;by_cases o2:op=2
 .rw[ahV o2,ahT]at hn;exact Or.inr (Or.inl ⟨o2,(aim hn).symm⟩)
 rw[ahU o2,ahS]at hn;by_cases o3:op=3
 .rw[ahV o3,ahT]at hn;exact Or.inr (Or.inr (Or.inl ⟨o3,(aim hn).symm⟩))
 rw[ahU o3,ahS]at hn;by_cases o4:op=4
 .rw[ahV o4,ahT]at hn;exact Or.inr (Or.inr (Or.inr (Or.inl ⟨o4,(aim hn).symm⟩)))
 rw[ahU o4,ahS]at hn;by_cases Zr:op=10
 .rw[ahV Zr,ahT]at hn;exact Or.inr (Or.inr (Or.inr (Or.inr (Or.inl ⟨Zr,(aim hn).symm⟩))))
 rw[ahU Zr,ahS]at hn;by_cases Zs:op=11
 .rw[ahV Zs,ahT]at hn;exact Or.inr (Or.inr (Or.inr (Or.inr (Or.inr (Or.inl ⟨Zs,(aim hn).symm⟩)))))
 rw[ahU Zs,ahS]at hn;by_cases o5:op=5
 .rw[ahV o5,ahT]at hn;exact Or.inr (Or.inr (Or.inr (Or.inr (Or.inr (Or.inr (Or.inl ⟨o5,(aim hn).symm⟩))))))
 rw[ahU o5,ahS]at hn;by_cases o6:op=6
 .rw[ahV o6,ahT]at hn;exact Or.inr (Or.inr (Or.inr (Or.inr (Or.inr (Or.inr (Or.inr (Or.inl ⟨o6,(aim hn).symm⟩)))))))
 rw[ahU o6,ahS]at hn;by_cases o7:op=7
 .rw[ahV o7,ahT]at hn;exact Or.inr (Or.inr (Or.inr (Or.inr (Or.inr (Or.inr (Or.inr (Or.inr (Or.inl ⟨o7,(aim hn).symm⟩))))))))
 rw[ahU o7,ahS]at hn;by_cases o8:op=8
 .rw[ahV o8,ahT]at hn;exact Or.inr (Or.inr (Or.inr (Or.inr (Or.inr (Or.inr (Or.inr (Or.inr (Or.inr (Or.inl ⟨o8,(aim hn).symm⟩)))))))))
 rw[ahU o8,ahS]at hn;by_cases o9:op=9
 .rw[ahV o9,ahT]at hn;exact Or.inr (Or.inr (Or.inr (Or.inr (Or.inr (Or.inr (Or.inr (Or.inr (Or.inr (Or.inr (⟨o9,(aim hn).symm⟩))))))))))
 rw[ahU o9,ahS]at hn;have hn:=aim hn;omega
theorem Oq {p:Pl}{inn sub:List (List Int)}(hp:aga p)(hi:∀ k∈inn,k.length<=1000)(hs:∀ k∈sub,k.length<=1000)(ho:∃ n:Int,fe p.op=some n/\0<=n/\n=(sub.length:Int)):∃ u v,Ax p inn sub=some u/\bH p inn sub=some v/\u.2=v.2/\(u.2=0->u.1=v.1):=by
 obtain⟨n,hn,n0,hl⟩:=ho;have Y5:=aaj hn n0;have one:∀ x,sub=[x] ->∀ (f:List Int->Option (List Int×Int)),(al sub 0).bind f=f x:=λx e f=>by rw[e];rfl
 have XZ:n=1 ->∃ x,sub=[x]/\x.length<=1000:=λe=>by
  match sub,hl,hs with
  |[x],_,hs=>exact⟨x,rfl,hs x m5⟩
  |[],hl,_=>simp at hl;omega
  |_::_::_,hl,_=>simp at hl;omega
 have sub2:n=2 ->∃ x y,sub=[x,y]/\x.length<=1000/\y.length<=1000:=λe=>by
  match sub,hl,hs with
  |[x,y],_,hs=>exact⟨x,y,rfl,hs x m5,hs y m5⟩
  |[],hl,_=>simp at hl;omega
  |[_],hl,_=>simp at hl;omega
  |_::_::_::_,hl,_=>simp at hl;omega
 have g1:∀ x:List Int,al [x] (0:Int)=some x:=λ_=>rfl
 have g2:∀ x y:List Int,al [x,y] (0:Int)=some x:=λ_ _=>rfl
 have g3:∀ x y:List Int,al [x,y] (1:Int)=some y:=λ_ _=>rfl
 unfold Ax bH;rcases Y5 with⟨h,e⟩|⟨h,e⟩|⟨h,e⟩|⟨h,e⟩|⟨h,e⟩|⟨h,e⟩|⟨h,e⟩|⟨h,e⟩|⟨h,e⟩|⟨h,e⟩|⟨h,e⟩<;>rw[h]<;>simp only[Int.reduceEq,sl9]
 .unfold A5
  by_cases i0:p.int<0
  .rw[ahV i0,ahT,ahT];exact⟨_,_,rfl,rfl,rfl,λ_=>rfl⟩
  rw[ahU i0,ahS,ahS];by_cases i1:(inn.length:Int)<=p.int
  .rw[ahV i1,ahT,ahT];exact⟨_,_,rfl,rfl,rfl,λ_=>rfl⟩
  rw[ahU i1,ahS,ahS];obtain⟨x,hx⟩:=gol_ (l:=inn) (i:=p.int.toNat) m0;have hg:al inn p.int=some x:=by unfold al;rw[if_pos m0];exact hx
  obtain⟨b,hb⟩:=Dt x (by have:=hi x (ahX hx);omega);rw[hg];simp only[ahQ];rw[Bi,hb];simp only[ahQ]
  cases b<;>exact⟨_,_,rfl,rfl,rfl,λ_=>rfl⟩
 .obtain⟨q,h1,h2,_⟩:=xk p hp.rows hp.kinds
  rw[h1,h2];simp only[ahQ];by_cases q0:q=0
  .subst q0;exact⟨_,_,rfl,rfl,rfl,λ_=>rfl⟩
  .rw[if_neg q0];exact⟨_,_,rfl,rfl,rfl,λh=>absurd h q0⟩
 .obtain⟨x,rfl,hx⟩:=XZ e
  obtain⟨q,h1,h2⟩:=C5 x hp.pred;rw[g1];simp only[ahQ];rw[h1,h2];exact⟨_,_,rfl,rfl,rfl,λ_=>rfl⟩
 .obtain⟨x,rfl,hx⟩:=XZ e
  obtain⟨q,h1,_⟩:=xr (kinds:=x) (l:=p.exprs) (by have:=hp.exprs;omega) hp.exs;rw[g1];simp only[ahQ];rw[NM x hp.exs,h1];exact⟨_,_,rfl,rfl,rfl,λ_=>rfl⟩
 .obtain⟨x,rfl,hx⟩:=XZ e
  rw[g1];exact⟨_,_,rfl,rfl,rfl,λ_=>rfl⟩
 .obtain⟨x,rfl,hx⟩:=XZ e
  rw[g1];simp only[ahQ];rw[FS,mj x hp.keys hp.aggs];exact⟨_,_,rfl,rfl,rfl,λ_=>rfl⟩
 iterate 2
  .obtain⟨x,y,rfl,hx,hy⟩:=sub2 e
   obtain⟨q,h1,h2⟩:=C5 (x++y) hp.pred;rw[g2,g3];simp only[ahQ];rw[ahV (show x.length<=17592186044416 by omega),ahV (show x.length+y.length<=17592186044416 by omega),ahT,ahT,h2,tS m0];simp only[ahQ];rw[h1];exact⟨_,_,rfl,rfl,rfl,λ_=>rfl⟩
 all_goals
  obtain⟨x,y,rfl,hx,hy⟩:=sub2 e;obtain⟨q,h1,h2⟩:=I9 x y hx;rw[g2,g3];simp only[ahQ];rw[h1];obtain⟨h2,rfl⟩|⟨h2,c,h3,rfl⟩:=h2
  .rw[h2];exact⟨_,_,rfl,rfl,rfl,λh=>absurd (show(13:Int)=0 from h) m9⟩
  .rw[h2,ahS,h3]
   cases c
   .exact⟨_,_,rfl,rfl,rfl,λh=>absurd (show(7:Int)=0 from h) m9⟩
   .exact⟨_,_,rfl,rfl,rfl,λ_=>rfl⟩
theorem DR (op:Int):∃ m,fe op=some m:=by
 unfold fe;by_cases o1:op=1
 .rw[ahV o1,ahT];exact⟨_,rfl⟩
 rw[ahU o1,ahS];by_cases o2:op=2
 .rw[ahV o2,ahT];exact⟨_,rfl⟩
 rw[ahU o2,ahS];by_cases o3:op=3
 .rw[ahV o3,ahT];exact⟨_,rfl⟩
 rw[ahU o3,ahS];by_cases o4:op=4
 .rw[ahV o4,ahT];exact⟨_,rfl⟩
 rw[ahU o4,ahS];by_cases Zr:op=10
 .rw[ahV Zr,ahT];exact⟨_,rfl⟩
 rw[ahU Zr,ahS];by_cases Zs:op=11
 .rw[ahV Zs,ahT];exact⟨_,rfl⟩
 rw[ahU Zs,ahS];by_cases o5:op=5
 .rw[ahV o5,ahT];exact⟨_,rfl⟩
 rw[ahU o5,ahS];by_cases o6:op=6
 .rw[ahV o6,ahT];exact⟨_,rfl⟩
 rw[ahU o6,ahS];by_cases o7:op=7
 .rw[ahV o7,ahT];exact⟨_,rfl⟩
 rw[ahU o7,ahS];by_cases o8:op=8
 .rw[ahV o8,ahT];exact⟨_,rfl⟩
 rw[ahU o8,ahS];by_cases o9:op=9
 .rw[ahV o9,ahT];exact⟨_,rfl⟩
 rw[ahU o9,ahS];exact⟨_,rfl⟩
theorem Ei {inn:List (List Int)}(hi:∀ k∈inn,k.length<=1000):∀ (n:Nat) (p:Pl),wA n p ->∃ r,gb inn n p=some r/\mg n p inn=some r/\((r.2=0->1<=r.1.length/\r.1.length<=48)/\(r.2≠0->r.1=[]))
 |0,_,h=>h.elim
 |n+1,p,h=>by
  have hx:∀ x∈p.inputs,∃ r,gb inn n x=some r/\mg n x inn=some r/\((r.2=0->1<=r.1.length/\r.1.length<=48)/\(r.2≠0->r.1=[])):=λx hx=>Ei hi n x (h.2 x hx)
  have hlen:=h.1.ins;show ∃ r,A8 (gb inn n) inn p=some r/\qg (mg n) p inn=some r/\_;unfold A8 qg;rw[show pi p.op=fe p.op from rfl];obtain⟨m,hm⟩:=DR p.op;rw[hm,ahQ,ahQ];by_cases w_:m<0
  .rw[ahV w_];exact⟨_,rfl,rfl,λh=>absurd h m9,λ_=>rfl⟩
  rw[ahU w_,ahS,ahS];by_cases me:m=(p.inputs.length:Int)
  .rw[ahU (show ¬ m≠(p.inputs.length:Int)by omega),ahU (show ¬ (p.inputs.length:Int)≠m by omega),ahS,ahS]
   have hb:bm p inn m (mg n)=iH p (gb inn n):=by
    funext s;obtain⟨k,i⟩:=s;unfold bm iH;dsimp only;rw[me]
    cases hg:al p.inputs i with
    |none=>simp only[Option.bind_none]
    |some x =>
     obtain⟨r,r1,r2,_⟩:=hx x (ahX (kw hg).2);simp only[ahQ];rw[r1,r2]
   rw[hb];have hl:=Ao (l:=p.inputs) (body:=iH p (gb inn n)) (λx=>if ((gb inn n x).getD ([],0)).2=0 then none else some (([]:List Int),((gb inn n x).getD ([],0)).2)) (λx=>((gb inn n x).getD ([],0)).1) (λs i x O0 hs=>by
    have hi:=(ahR.1 O0).1;obtain⟨r,r1,_,_⟩:=hx x (ahX O0);unfold iH;dsimp only;rw[aG O0,ahT,gn_ O0,ahQ,r1,ahQ,wrapN m0];rw[show((some r:Option (List Int×Int)).getD ([],0))=r from rfl];by_cases q0:r.2=0
    .rw[ahU (show ¬ r.2≠0 by omega),if_pos q0,ahS,ahV (show s.length+1<=5864062014805 by omega)];rfl
    .rw[ahV (show r.2≠0 from q0),if_neg q0];rfl) (λs=>by
    unfold iH;dsimp only;rw[lF_];rfl) fuel 0 [] (aia _) (by unfold fuel;omega) rfl
   rw[List.drop_zero,show((0:Nat):Int)=0 from rfl,ahW]at hl;rw[hl,ahQ,ahQ]
   cases hs:p.inputs.findSome? (λx=>if ((gb inn n x).getD ([],0)).2=0 then none else some (([]:List Int),((gb inn n x).getD ([],0)).2))with
   |some q =>
    obtain⟨x,_,hq⟩:=List.exists_of_findSome?_eq_some hs;have Vn:q.2≠0:=by
     split at hq
     .cases hq
     .rename_i PE
      rw[<- aim hq];exact PE
    exact⟨q,rfl,rfl,λh=>absurd h Vn,λ_=>by
     split at hq
     .cases hq
     .rw[<- aim hq]⟩
   |none =>
    have QA:=List.findSome?_eq_none_iff.1 hs;dsimp only;have SK:∀ k∈p.inputs.map (λx=>((gb inn n x).getD ([],0)).1),k.length<=1000:=by
     intro k hk;obtain⟨x,O0,rfl⟩:=aip.1 hk;obtain⟨r,r1,_,r3⟩:=hx x O0;have:=QA x O0;rw[r1]at this ⊢;by_cases q0:r.2=0
     .have:=r3.1 q0
      show r.1.length<=1000;omega
     .rw[if_neg (show ¬ (((some r).getD ([],0):List Int×Int)).2=0 from q0)]at this
      cases this
    obtain⟨u,v,h1,h2,h3,h4⟩:=Oq (sub:=p.inputs.map λx=>((gb inn n x).getD ([],0)).1) h.1 hi SK ⟨m,hm,m0,by rw[ah3];exact me⟩;unfold ku db;dsimp only;rw[h1,h2,ahQ,ahQ,<- h3];by_cases u0:u.2=0
    .rw[ahU (show ¬ u.2≠0 by omega),<- h4 u0]
     simp only[ahS];by_cases c1:u.1.length=0
     .rw[ahV (show(u.1.length:Int)<1 by omega),ahV (show(u.1.length:Int)=0 by omega)];exact⟨_,rfl,rfl,λh=>absurd h m9,λ_=>rfl⟩
     rw[ahU (show ¬ (u.1.length:Int)<1 by omega),ahU (show ¬ (u.1.length:Int)=0 by omega)];simp only[ahS];by_cases c2:u.1.length<=48
     .rw[ahU (show ¬ (48:Int)<(u.1.length:Int)by omega)];exact⟨_,rfl,rfl,λ_=>⟨by show 1<=u.1.length;omega,c2⟩,λh=>absurd rfl h⟩
     .rw[ahV (show(48:Int)<(u.1.length:Int)by omega)];exact⟨_,rfl,rfl,λh=>absurd h m9,λ_=>rfl⟩
    .rw[ahV (show u.2≠0 from u0)];exact⟨_,rfl,rfl,λh=>absurd h u0,λ_=>rfl⟩
  .rw[ahV (show m≠(p.inputs.length:Int)from me),ahV (show(p.inputs.length:Int)≠m by omega)]
   exact⟨_,rfl,rfl,λh=>absurd h m9,λ_=>rfl⟩
theorem He {inn:List (List Int)}(hi:∀ k∈inn,k.length<=1000){p:Pl}(h:wA fuel p):∃ r,pw p inn=some r/\px p inn=some r/\(r.2=0->mg fuel p inn=some r):=by
 obtain⟨d,d1,d2,d3,d4⟩:=w_ fuel p (by unfold fuel;omega) h;obtain⟨r,r1,r2,r3⟩:=Ei hi fuel p h;unfold pw px;rw[d1,d4 24 m0 m0,ahQ,ahQ];by_cases hd:24<d
 .rw[ahV hd,ahV (show(24:Int)<min d (24+1)by omega)];exact⟨_,rfl,rfl,λh=>absurd h m9⟩
 rw[ahU hd,ahU (show ¬ (24:Int)<min d (24+1)by omega),ahS,ahS,r1,r2,ahQ,ahQ];by_cases q0:r.2=0
 .have:=r3.1 q0
  rw[ahU (show ¬ r.2≠0 by omega),ahS,ahV (show r.1.length<=17592186044416 by omega),<- q0];exact⟨r,rfl,rfl,λ_=>rfl⟩
 .rw[ahV (show r.2≠0 from q0)]
  refine⟨r,?_,rfl,λh=>absurd h q0⟩;show some (([]:List Int),r.2)=some r;rw[<- r3.2 q0]
noncomputable section
def eN (O3:Pl)(Pi:(List aJ))(rec:Pl->List aJ->Option aJ):((List aJ)×Int)->Option (Step ((List aJ)×Int) (aJ)):=λs=>match s with
 |(TN,v_2)=>bif v_2<(O3.inputs.length:Int)then(al O3.inputs v_2).bind λPK=>(rec PK Pi).bind λPM=>bif TN.length+1<=2932031007402 then(some (.next ((TN++[PM]),(i64.wrap (v_2+(1:Int))))))else none else
 some (.exit (TN,v_2))
def cn (O3:Pl)(Pi:(List aJ)):Sum ((List aJ)×Int) (aJ)->Option ((aJ))
 |.inl (TN,v_2)=>bif O3.op=(1:Int)then(al Pi O3.int).bind λQs=>(gW Qs.kinds Qs.rows).bind λQN=>some QN else
 bif O3.op=(2:Int)then(gW O3.kinds O3.rows).bind λPR=>some PR else
 bif O3.op=(3:Int)then(al TN (0:Int)).bind λR9=>(mW R9 O3.pred).bind λQp=>some Qp else
 bif O3.op=(4:Int)then(al TN (0:Int)).bind λU9=>(j5 U9 O3.exprs).bind λRL=>some RL else
 bif O3.op=(10:Int)then(al TN (0:Int)).bind λS8=>(iQ S8).bind λRt=>some Rt else
 bif O3.op=(11:Int)then(al TN (0:Int)).bind λWc=>(qR Wc O3.keys O3.aggs).bind λSD=>some SD else
 bif O3.op=(5:Int)then(al TN (0:Int)).bind λRQ=>(al TN (1:Int)).bind λVE=>(tQ RQ VE O3.pred (decide (O3.op=(6:Int)))).bind λR_=>some R_ else
 bif O3.op=(6:Int)then(al TN (0:Int)).bind λVd=>(al TN (1:Int)).bind λTZ=>(tQ Vd TZ O3.pred (decide (O3.op=(6:Int)))).bind λTC=>some TC else
 bif O3.op=(7:Int)then(al TN (0:Int)).bind λWY=>(al TN (1:Int)).bind λWZ=>(qT WY WZ).bind λTR=>some TR else
 bif O3.op=(8:Int)then(al TN (0:Int)).bind λx_37=>(al TN (1:Int)).bind λVe=>(nt x_37 Ve).bind λr_39=>some r_39 else
 (al TN (0:Int)).bind λx_40=>(al TN (1:Int)).bind λx_41=>(ri x_40 x_41).bind λr_42=>some r_42
 |.inr q=>some q
def oU (rec:Pl->List aJ->Option aJ)(O3:Pl)(Pi:(List aJ)):Option (aJ):=(af (eN O3 Pi rec) fuel ([],(0:Int))).bind (cn O3 Pi)
theorem aax {rec:Pl->List aJ->Option aJ}  (Pq:∀ {x:Pl} {y:List aJ} {r:aJ},rec x y=some r->PTz 91 [.agg (tP x),.one (.lst (y.map bn))] (.val (.agg (bn r)))){O3:Pl}{Pi:(List aJ)}{r:aJ}(H:oU rec O3 Pi=some r):PTz 91 [.agg (tP O3),.one (.lst (Pi.map bn))] (.val (.agg (bn r))):=by
 unfold oU at H;rw[aD O3];refine po_ func91 ntmps91 ?_;refine aS ?_;refine br 5 2 rfl ?_;refine alM_ (λs:(List aJ)×Int=>match s with|(TN,v_2)=>[(1,.one (.c (.lst (Pi.map bn)))),(2,.one (.ptr 0 0)),(4,.one (.ptr 1 0)),(5,.one (.own (TN.map bn) 2)),(9,.one (.c (.lst (O3.inputs.map tP)))),(10,.one (.c (.int .i64 (O3.inputs.length:Int)))),(11,.one (.c (.int .i64 v_2)))]) (λs=>match s with|(TN,v_2)=>[.box [.c (.int .i64 O3.op),.c (.int .i64 O3.int),.c (.lst (O3.kinds.map (λx=>[AC.int .i64 x]))),.c (.lst (O3.rows.map (λx=>[AC.lst (x.map cV)]))),.c (.int .i64 O3.pred.op),.c (.int .i64 O3.pred.int),.c (.int .i64 O3.pred.v.kind),.c (.int .i64 O3.pred.v.int),.c (.str O3.pred.v.text),.c (.str O3.pred.nm),.c (.lst (O3.pred.args.map tE)),.c (.lst (O3.exprs.map tE)),.c (.lst (O3.keys.map (λx=>[AC.int .i64 x]))),.c (.lst (O3.aggs.map ol)),.c (.lst (O3.inputs.map tP))],.box [.emp,.emp],.spare TN.length 2]) H (λ_=>aia _)
  (fm_ bg [] rfl aQ bq) ?_
 rintro⟨TN,v_2⟩ Qr OZ Po;unfold eN at OZ;dsimp only at OZ ⊢;obtain⟨PG,OZ⟩|⟨PG,OZ⟩:=ae OZ
 .obtain⟨PK,QV,i1,QI,OZ⟩:=aw (f:=tP) OZ
  simp only[ah4,ah2,ah6,ahW,aD]at QI;obtain⟨PM,c2,OZ⟩:=bd_ OZ;replace c2:=Pq c2
  try simp only[ah4,ah2,ah6,ahW,ay,aD]at c2
  obtain⟨g3,OZ⟩:=aq OZ
  cases OZ;refine aS ?_;exact⟨_,rfl,fm_ fO [_] dU aQ bq⟩
 cases OZ;have O0:cn O3 Pi (.inl (TN,v_2))=some _:=Po;unfold cn at O0;dsimp only at O0;obtain⟨Qb,O0⟩|⟨Qb,O0⟩:=ae O0
 .obtain⟨Qs,VC,i4,U7,O0⟩:=aw (f:=bn) O0
  obtain⟨QN,c5,O0⟩:=bd_ O0;replace c5:=fP c5
  cases O0;exact ao
 obtain⟨Q5,O0⟩|⟨Q5,O0⟩:=ae O0
 .obtain⟨PR,c6,O0⟩:=bd_ O0
  replace c6:=fP c6
  cases O0;exact ao
 obtain⟨Qo,O0⟩|⟨Qo,O0⟩:=ae O0
 .obtain⟨R9,Yi,i7,XY,O0⟩:=aw (f:=bn) O0
  obtain⟨Qp,c8,O0⟩:=bd_ O0;replace c8:=G_ c8
  try simp only[ah4,ah2,ah6,ahW,ay,aD]at c8
  cases O0;exact ao
 obtain⟨P9,O0⟩|⟨P9,O0⟩:=ae O0
 .obtain⟨U9,i9z,i9,i9x,O0⟩:=aw (f:=bn) O0
  obtain⟨RL,Ug,O0⟩:=bd_ O0;replace Ug:=ES Ug
  cases O0;exact ao
 obtain⟨RI,O0⟩|⟨RI,O0⟩:=ae O0
 .obtain⟨S8,YJ,i11,YK,O0⟩:=aw (f:=bn) O0
  obtain⟨Rt,SJ,O0⟩:=bd_ O0;replace SJ:=B3 SJ
  cases O0;exact ao
 obtain⟨RJ,O0⟩|⟨RJ,O0⟩:=ae O0
 .obtain⟨Wc,i13z,i13,i13x,O0⟩:=aw (f:=bn) O0
  obtain⟨SD,S7,O0⟩:=bd_ O0;replace S7:=KG S7
  cases O0;exact ao
 obtain⟨SB,O0⟩|⟨SB,O0⟩:=ae O0
 .obtain⟨RQ,XU,i15,XV,O0⟩:=aw (f:=bn) O0
  obtain⟨VE,i16z,i16,i16x,O0⟩:=aw (f:=bn) O0;have VH:(decide (O3.op=(6:Int)))=false:=by rw[aii SB];decide
  obtain⟨R_,UK,O0⟩:=bd_ O0;replace UK:=C9 UK
  try simp only[ah4,ah2,ah6,ahW,ay,aD]at UK
  cases O0;exact ao
 obtain⟨TS,O0⟩|⟨TS,O0⟩:=ae O0
 .obtain⟨Vd,i18z,i18,i18x,O0⟩:=aw (f:=bn) O0
  obtain⟨TZ,i19z,i19,i19x,O0⟩:=aw (f:=bn) O0;obtain⟨TC,VJ,O0⟩:=bd_ O0;replace VJ:=C9 VJ
  try simp only[ah4,ah2,ah6,ahW,ay,aD]at VJ
  cases O0;exact ao
 obtain⟨Vh,O0⟩|⟨Vh,O0⟩:=ae O0
 .obtain⟨WY,i21z,i21,i21x,O0⟩:=aw (f:=bn) O0
  obtain⟨WZ,i22z,i22,i22x,O0⟩:=aw (f:=bn) O0;obtain⟨TR,c23,O0⟩:=bd_ O0;replace c23:=Jc c23
  cases O0;exact ao
 obtain⟨UM,O0⟩|⟨UM,O0⟩:=ae O0
 .obtain⟨x_37,i24z,i24,i24x,O0⟩:=aw (f:=bn) O0
  obtain⟨Ve,i25z,i25,i25x,O0⟩:=aw (f:=bn) O0;obtain⟨r_39,Z3,O0⟩:=bd_ O0;replace Z3:=G2 Z3
  cases O0;exact ao
 obtain⟨x_40,i27z,i27,i27x,O0⟩:=aw (f:=bn) O0;obtain⟨x_41,i28z,i28,i28x,O0⟩:=aw (f:=bn) O0;obtain⟨r_42,c29,O0⟩:=bd_ O0;replace c29:=Jt c29
 cases O0;exact ao
def zf:Nat->Pl->List aJ->Option aJ
 |0,_,_=>none
 |n+1,x,y=>oU (zf n) x y
theorem H2:∀ (n:Nat) {x:Pl} {y:List aJ} {r:aJ},zf n x y=some r->PTz 91 [.agg (tP x),.one (.lst (y.map bn))] (.val (.agg (bn r)))
 |0,_,_,_,h=>nomatch h
 |n+1,_,_,_,h=>aax (H2 n) h
end
noncomputable section
def pK (Pi:(List aJ)):((List (List Int))×Int)->Option (Step ((List (List Int))×Int) (aJ×Int)):=λs=>match s with
 |(QM,v_2)=>bif v_2<(Pi.length:Int)then(al Pi v_2).bind λPK=>bif QM.length+1<=5864062014805 then(some (.next ((QM++[PK.kinds]),(i64.wrap (v_2+(1:Int))))))else none else
 some (.exit (QM,v_2))
def vB (O3:Pl)(Pi:(List aJ)):Sum ((List (List Int))×Int) (aJ×Int)->Option ((aJ×Int))
 |.inl (QM,v_2)=>(pw O3 QM).bind λPM=>bif PM.2≠(0:Int)then some ((⟨[],[]⟩:aJ),PM.2)else
 (zf fuel O3 Pi).bind λQi=>some (Qi,(0:Int))
 |.inr q=>some q
def Ly (O3:Pl)(Pi:(List aJ)):Option (aJ×Int):=(af (pK Pi) fuel ([],(0:Int))).bind (vB O3 Pi)
theorem ace {O3:Pl}{Pi:(List aJ)}{r:aJ×Int}(H:Ly O3 Pi=some r):PTz 62 [.agg (tP O3),.one (.lst (Pi.map bn))] (.tup [.agg (bn r.1),.one (.int .i64 r.2)]):=by
 unfold Ly at H;rw[aD O3];refine po_ func62 ntmps62 ?_;refine aS ?_;refine br 6 1 rfl ?_;refine alM_ (λs:(List (List Int))×Int=>match s with|(QM,v_2)=>[(1,.one (.c (.lst (Pi.map bn)))),(2,.one (.ptr 0 0)),(4,.one (.ptr 1 0)),(6,.one (.own (QM.map (λx=>[AC.lst (x.map (λx=>[AC.int .i64 x]))])) 2)),(11,.one (.c (.lst (Pi.map bn)))),(12,.one (.c (.int .i64 (Pi.length:Int)))),(13,.one (.c (.int .i64 v_2)))]) (λs=>match s with|(QM,v_2)=>[.box [.c (.int .i64 O3.op),.c (.int .i64 O3.int),.c (.lst (O3.kinds.map (λx=>[AC.int .i64 x]))),.c (.lst (O3.rows.map (λx=>[AC.lst (x.map cV)]))),.c (.int .i64 O3.pred.op),.c (.int .i64 O3.pred.int),.c (.int .i64 O3.pred.v.kind),.c (.int .i64 O3.pred.v.int),.c (.str O3.pred.v.text),.c (.str O3.pred.nm),.c (.lst (O3.pred.args.map tE)),.c (.lst (O3.exprs.map tE)),.c (.lst (O3.keys.map (λx=>[AC.int .i64 x]))),.c (.lst (O3.aggs.map ol)),.c (.lst (O3.inputs.map tP))],.box [.emp,.emp],.spare QM.length 1]) H (λ_=>aia _)
  (fm_ bg [] rfl aQ bq) ?_
 rintro⟨QM,v_2⟩ Qr OZ Po;unfold pK at OZ;dsimp only at OZ ⊢;obtain⟨PG,OZ⟩|⟨PG,OZ⟩:=ae OZ
 .obtain⟨PK,QV,i1,QI,OZ⟩:=aw (f:=bn) OZ
  obtain⟨g2,OZ⟩:=aq OZ
  cases OZ;refine aS ?_;exact⟨_,rfl,fm_ fO [_] dU aQ bq⟩
 cases OZ;have O0:vB O3 Pi (.inl (QM,v_2))=some _:=Po;unfold vB at O0;dsimp only at O0;obtain⟨PM,c3,O0⟩:=bd_ O0;replace c3:=G3 c3
 try simp only[ah4,ah2,ah6,ahW,ay,aD]at c3
 obtain⟨Qb,O0⟩|⟨Qb,O0⟩:=ae O0
 .cases O0
  exact ao
 obtain⟨Qi,c4,O0⟩:=bd_ O0;replace c4:=H2 fuel c4
 try simp only[ah4,ah2,ah6,ahW,ay,aD]at c4
 cases O0;exact ao
end
noncomputable section
def yf (O5:(List Int)):((List Val)×Int)->Option (Step ((List Val)×Int) ((List Val))):=λs=>match s with
 |(O2,v_2)=>bif v_2<(O5.length:Int)then(al O5 v_2).bind λPK=>(jy PK).bind λPM=>bif O2.length+1<=4398046511104 then(some (.next ((O2++[PM]),(i64.wrap (v_2+(1:Int))))))else none else
 some (.exit (O2,v_2))
def ED:Sum ((List Val)×Int) ((List Val))->Option (((List Val)))
 |.inl (O2,v_2)=>some O2
 |.inr q=>some q
def HA (Pg:(List Val))(O5:(List Int)):Option ((List Val)):=bif Pg.length<=4398046511104 then((af (yf O5) fuel (Pg,(0:Int))).bind (ED))else none
theorem acD {Pg:(List Val)}{O5:(List Int)}{r:(List Val)}(H:HA Pg O5=some r):PTz 50 [.one (.lst (Pg.map cV)),.one (.lst (O5.map (λx=>[AC.int .i64 x])))] (.val (.one (.lst (r.map cV)))):=by
 unfold HA at H;refine po_ func50 ntmps50 ?_;obtain⟨g1,H⟩:=aq H;refine aS ?_;refine alM_ (λs:(List Val)×Int=>match s with|(O2,v_2)=>[(5,.one (.own (O2.map cV) 0)),(11,.one (.c (.lst (O5.map (λx=>[AC.int .i64 x]))))),(12,.one (.c (.int .i64 (O5.length:Int)))),(13,.one (.c (.int .i64 v_2)))]) (λs=>match s with|(O2,v_2)=>[.spare O2.length 3]) H (λ_=>aia _)
  (fm_ bg [] rfl aQ bq) ?_
 rintro⟨O2,v_2⟩ Qr OZ Po;unfold yf at OZ;dsimp only at OZ ⊢;obtain⟨PG,OZ⟩|⟨PG,OZ⟩:=ae OZ
 .obtain⟨PK,Tu,i2,SR,OZ⟩:=aw (f:=(λx=>[AC.int .i64 x])) OZ
  obtain⟨PM,c3,OZ⟩:=bd_ OZ;replace c3:=fU c3;obtain⟨g4,OZ⟩:=aq OZ
  cases OZ;refine aS ?_;exact⟨_,rfl,fm_ fO [] dU aQ bq⟩
 cases OZ;have O0:ED (.inl (O2,v_2))=some _:=Po;unfold ED at O0;dsimp only at O0
 cases O0;exact ao
def se (O5:(List pY)):((List (List Val))×Int)->Option (Step ((List (List Val))×Int) (aJ)):=λs=>match s with
 |(SX,Uk)=>bif Uk<(O5.length:Int)then(al O5 Uk).bind λQs=>(HA Qs.row [Qs.valid.lo,Qs.valid.hi,Qs.system.lo,Qs.system.hi,Qs.by_]).bind λQN=>bif SX.length+1<=5864062014805 then(some (.next ((SX++[QN]),(i64.wrap (Uk+(1:Int))))))else none else
 some (.exit (SX,Uk))
def mF (Qx:(List Int)):Sum ((List (List Val))×Int) (aJ)->Option ((aJ))
 |.inl (SX,Uk)=>(nC SX).bind λQ4=>some (⟨Qx,Q4⟩:aJ)
 |.inr q=>some q
def qQ:((List Int)×Int)->Option (Step ((List Int)×Int) (aJ)):=λs=>match s with
 |(Qx,v_2)=>bif v_2<(5:Int)then bif Qx.length+1<=17592186044416 then(some (.next ((Qx++[(1:Int)]),(i64.wrap (v_2+(1:Int))))))else none else
 some (.exit (Qx,v_2))
def nk (O5:(List pY)):Sum ((List Int)×Int) (aJ)->Option ((aJ))
 |.inl (Qx,v_2)=>(af (se O5) fuel ([],(0:Int))).bind (mF Qx)
 |.inr q=>some q
def vJ (O1:(List Int))(O5:(List pY)):Option (aJ):=bif O1.length<=17592186044416 then((af (qQ) fuel (O1,(0:Int))).bind (nk O5))else none
theorem Nk {O1:(List Int)}{O5:(List pY)}{r:aJ}(H:vJ O1 O5=some r):PTz 22 [.one (.lst (O1.map (λx=>[AC.int .i64 x]))),.one (.lst (O5.map lu))] (.val (.agg (bn r))):=by
 unfold vJ at H;refine po_ func22 ntmps22 ?_;obtain⟨g1,H⟩:=aq H
 repeat' (first|refine gs5_ ?_|refine b_ rfl rfl rfl rfl rfl rfl rfl ?_)
 refine alM_ (λs:(List Int)×Int=>match s with|(Qx,v_2)=>[(1,.one (.c (.lst (O5.map lu)))),(4,.one (.ptr 0 0)),(5,.one (.ptr 2 0)),(12,.one (.c (.int .i64 v_2)))]) (λs=>match s with|(Qx,v_2)=>[.box [.emp,.emp],.spare Qx.length 1,.box [.own (Qx.map (λx=>[AC.int .i64 x])) 1,.emp]]) H (λ_=>aia _)
  (fm_ bg [] rfl aQ bq) ?_
 rintro⟨Qx,v_2⟩ Qr OZ Po;unfold qQ at OZ;dsimp only at OZ ⊢;obtain⟨PG,OZ⟩|⟨PG,OZ⟩:=ae OZ
 .obtain⟨g2,OZ⟩:=aq OZ
  cases OZ
  repeat' (first|refine gs5_ ?_|refine b_ rfl rfl rfl rfl rfl rfl rfl ?_)
  exact⟨_,rfl,fm_ bg [] dU aQ bq⟩
 cases OZ;have O0:nk O5 (.inl (Qx,v_2))=some _:=Po;unfold nk at O0;dsimp only at O0
 repeat' (first|refine gs5_ ?_|refine b_ rfl rfl rfl rfl rfl rfl rfl ?_)
 refine gK 2 1 1 rfl rfl ?_;refine alM_ (λs:(List (List Val))×Int=>match s with|(SX,Uk)=>[(4,.one (.ptr 0 0)),(5,.one (.ptr 2 0)),(20,.one (.c (.lst (O5.map lu)))),(21,.one (.c (.int .i64 (O5.length:Int)))),(22,.one (.c (.int .i64 Uk)))]) (λs=>match s with|(SX,Uk)=>[.box [.emp,.emp],.spare Qx.length 1,.box [.own (Qx.map (λx=>[AC.int .i64 x])) 1,.own (SX.map (λx=>[AC.lst (x.map cV)])) 3],.spare SX.length 1]) O0 (λ_=>aia _)
  (fm_ bg [] rfl aQ bq) ?_
 rintro⟨SX,Uk⟩ st2 Pe RE;unfold se at Pe;dsimp only at Pe ⊢;obtain⟨Qb,Pe⟩|⟨Qb,Pe⟩:=ae Pe
 .obtain⟨Qs,Ud,i3,TK,Pe⟩:=aw (f:=lu) Pe
  obtain⟨QN,c4,Pe⟩:=bd_ Pe;replace c4:=acD c4
  try simp only[ah4,ah2,ah6,ahW,ay,aD]at c4
  obtain⟨g5,Pe⟩:=aq Pe
  cases Pe
  repeat' (first|refine gs5_ ?_|refine b_ rfl rfl rfl rfl rfl rfl rfl ?_)
  exact⟨_,rfl,fm_ bg [_] dU aQ bq⟩
 cases Pe;have Px:mF Qx (.inl (SX,Uk))=some _:=RE;unfold mF at Px;dsimp only at Px;obtain⟨Q4,c6,Px⟩:=bd_ Px;replace c6:=D9 c6
 cases Px
 repeat' (first|refine gs5_ ?_|refine b_ rfl rfl rfl rfl rfl rfl rfl ?_)
 refine az (aE rfl ?_ ?_)
 .repeat' (first|exact t7|rfl|exact ah1 rfl|omega|apply And.intro)
 .first|rfl|(simp only[ah4,ah2,ah6,ahW]<;>rfl)
def qd (Pi:(List xP)):((List aJ)×Int)->Option (Step ((List aJ)×Int) (aJ×Int)):=λs=>match s with
 |(Q_,v_2)=>bif v_2<(Pi.length:Int)then(al Pi v_2).bind λPK=>(vJ PK.kinds PK.versions).bind λPM=>bif Q_.length+1<=2932031007402 then(some (.next ((Q_++[PM]),(i64.wrap (v_2+(1:Int))))))else none else
 some (.exit (Q_,v_2))
def uv (O3:Pl):Sum ((List aJ)×Int) (aJ×Int)->Option ((aJ×Int))
 |.inl (Q_,v_2)=>(Ly O3 Q_).bind λQW=>some (QW.1,QW.2)
 |.inr q=>some q
def GF (O3:Pl)(Pi:(List xP)):Option (aJ×Int):=(af (qd Pi) fuel ([],(0:Int))).bind (uv O3)
theorem OP {O3:Pl}{Pi:(List xP)}{r:aJ×Int}(H:GF O3 Pi=some r):PTz 35 [.agg (tP O3),.one (.lst (Pi.map sW))] (.tup [.agg (bn r.1),.one (.int .i64 r.2)]):=by
 unfold GF at H;rw[aD O3];refine po_ func35 ntmps35 ?_;refine aS ?_;refine br 6 2 rfl ?_;refine alM_ (λs:(List aJ)×Int=>match s with|(Q_,v_2)=>[(2,.one (.ptr 0 0)),(4,.one (.ptr 1 0)),(6,.one (.own (Q_.map bn) 2)),(9,.one (.c (.lst (Pi.map sW)))),(10,.one (.c (.int .i64 (Pi.length:Int)))),(11,.one (.c (.int .i64 v_2)))]) (λs=>match s with|(Q_,v_2)=>[.box [.c (.int .i64 O3.op),.c (.int .i64 O3.int),.c (.lst (O3.kinds.map (λx=>[AC.int .i64 x]))),.c (.lst (O3.rows.map (λx=>[AC.lst (x.map cV)]))),.c (.int .i64 O3.pred.op),.c (.int .i64 O3.pred.int),.c (.int .i64 O3.pred.v.kind),.c (.int .i64 O3.pred.v.int),.c (.str O3.pred.v.text),.c (.str O3.pred.nm),.c (.lst (O3.pred.args.map tE)),.c (.lst (O3.exprs.map tE)),.c (.lst (O3.keys.map (λx=>[AC.int .i64 x]))),.c (.lst (O3.aggs.map ol)),.c (.lst (O3.inputs.map tP))],.box [.emp,.emp],.spare Q_.length 2]) H (λ_=>aia _)
  (fm_ bg [] rfl aQ bq) ?_
 rintro⟨Q_,v_2⟩ Qr OZ Po;unfold qd at OZ;dsimp only at OZ ⊢;obtain⟨PG,OZ⟩|⟨PG,OZ⟩:=ae OZ
 .obtain⟨PK,QV,i1,QI,OZ⟩:=aw (f:=sW) OZ
  obtain⟨PM,c2,OZ⟩:=bd_ OZ;replace c2:=Nk c2;obtain⟨g3,OZ⟩:=aq OZ
  cases OZ;refine aS ?_;exact⟨_,rfl,fm_ fO [_] dU aQ bq⟩
 cases OZ;have O0:uv O3 (.inl (Q_,v_2))=some _:=Po;unfold uv at O0;dsimp only at O0;obtain⟨QW,c4,O0⟩:=bd_ O0;replace c4:=ace c4
 try simp only[ah4,ah2,ah6,ahW,ay,aD]at c4
 cases O0;exact ao
end
def sX (v:pY):List Val:=v.row++[v.valid.lo,v.valid.hi,v.system.lo,v.system.hi,v.by_].map iw
theorem adA (row:List Val)(l:List Int)(h:row.length<=1000000)(hl:l.length<=1000000):HA row l=some (row++l.map iw):=by
 unfold HA;rw[show decide (row.length<=4398046511104)=true from ahV m0,ahT];rw[bP (l:=l) (mk:=λout i=>(out,i)) (f:=push iw 4398046511104) ?_ ?_ (by unfold fuel;omega) row]
 .rw[ra _ _ _ _ m0];rfl
 .intro s i x hx
  have hi:i<l.length:=(ahR.1 hx).1;unfold yf push;dsimp only;rw[aG hx,ahT,gn_ hx];simp only[ahQ];rw[Aa,wrapN m0];simp only[ahQ]
  cases decide (s.length+1<=4398046511104)<;>rfl
 .intro s
  unfold yf;dsimp only;rw[lF_,ahS]
theorem NC (kinds:List Int)(l:List pY)(hk:kinds.length<=1000000)(hl:l.length<=700)(hr:∀ v∈l,v.row.length<=60):vJ kinds l=some ⟨kinds++[1,1,1,1,1],aH (l.map sX)⟩:=by
 unfold vJ;rw[show decide (kinds.length<=17592186044416)=true from ahV m0,ahT];rw[bP (l:=[(),(),(),(),()]) (mk:=λout i=>(out,i)) (f:=push (λ_=>(1:Int)) 17592186044416) ?_ ?_ (by unfold fuel;simp) kinds]
 .rw[ra _ _ _ _ m8]
  show nk l (.inl (kinds++[1,1,1,1,1],((5:Nat):Int)))=_;unfold nk;dsimp only;rw[bP (l:=l) (mk:=λout i=>(out,i)) (f:=λs v=>(HA v.row [v.valid.lo,v.valid.hi,v.system.lo,v.system.hi,v.by_]).bind λr=>bif decide (s.length+1<=5864062014805)then some (.inl (s++[r]))else none) ?_ ?_ (by unfold fuel;omega) []]
  .have:∀ (l:List pY) (s:List (List Val)),s.length+l.length<=1000->(∀ v∈l,v.row.length<=60)->cb (ρ:=aJ) (λs v=>(HA v.row [v.valid.lo,v.valid.hi,v.system.lo,v.system.hi,v.by_]).bind λr=>bif decide (s.length+1<=5864062014805)then some (.inl (s++[r]))else none) s l=some (.inl (s++l.map sX)):=by
    intro l
    induction l with
    |nil=>intro s _ _;simp[cb]
    |cons x l ih =>
     intro s h hr;have h':s.length+(l.length+1)<=1000:=by simpa using h
     have hx:=hr x (List.mem_cons_self ..);rw[cb,adA x.row _ m0 m5];simp only[ahQ];rw[show decide (s.length+1<=5864062014805)=true from ahV m0,ahT];have:=ih (s++[sX x]) m8 λv hv=>hr v (aid _ hv)
     simpa[sX]using this
   rw[this l [] m8 hr];show mF (kinds++[1,1,1,1,1]) (.inl ([]++l.map sX,(l.length:Int)))=_;unfold mF;dsimp only;rw[ahW];unfold nC;rw[rZ (by rw[ah3];exact hl) λr Ui=>?_]
   .rfl
   .obtain⟨v,hv,rfl⟩:=aip.1 Ui
    have:=hr v hv;unfold sX;exact⟨m5,by simp;omega⟩
  .intro s i x hx
   have hi:i<l.length:=(ahR.1 hx).1;unfold se;dsimp only;rw[aG hx,ahT,gn_ hx];simp only[ahQ];rw[wrapN m0]
   cases HA x.row [x.valid.lo,x.valid.hi,x.system.lo,x.system.hi,x.by_]with
   |none=>rfl
   |some r=>simp only[ahQ];cases decide (s.length+1<=5864062014805)<;>rfl
  .intro s
   unfold se;dsimp only;rw[lF_,ahS]
 .intro s i x hx
  have hi:i<5:=(ahR.1 hx).1;unfold qQ push;dsimp only;rw[show decide ((i:Int)<5)=true from ahV m0,ahT,wrapN m0]
  cases decide (s.length+1<=17592186044416)<;>rfl
 .intro s
  unfold qQ;dsimp only;rw[show decide ((([(),(),(),(),()]:List Unit).length:Int)<5)=false from by decide,ahS]
theorem An {α:Type}{l:List α}{body:Int->Option (Step Int Bool)}{P:α->Prop}(h1:∀ (i:Nat) x,l[i]?=some x ->∃ b,(b=true->P x)/\body (i:Int)=(bif !b then some (.ret false)else some (.next ((i+1:Nat):Int))))
  (h2:body (l.length:Int)=some (.exit (l.length:Int))) (hl:l.length<fuel):(af body fuel 0=some (.inl (l.length:Int)) /\ ∀ x∈l,P x)\/af body fuel 0=some (.inr false):=by
 have key:∀ (n i:Nat),i<=l.length->l.length-i<n->(af body n (i:Int)=some (.inl (l.length:Int)) /\ ∀ x∈l.drop i,P x)\/af body n (i:Int)=some (.inr false):=by
  intro n
  induction n with
  |zero=>intro i _ h;omega
  |succ n ih =>
   intro i hi hn;rw[af];by_cases O8:i<l.length
   .obtain⟨x,hx⟩:=gol_ O8
    obtain⟨b,hb,hs⟩:=h1 i x hx;rw[hs]
    cases b with
    |false=>exact .inr rfl
    |true =>
     rcases ih (i+1) m0 m0 with⟨k1,k2⟩|k
     .refine .inl ⟨k1,λy hy=>?_⟩
      rw[ail O8,(ahR.1 hx).2]at hy;obtain rfl|hy:=ah8.1 hy
      .exact hb rfl
      .exact k2 y hy
     .exact .inr k
   .have:i=l.length:=m0
    subst this;rw[h2];exact .inl ⟨rfl,λy hy=>by rw[aiG]at hy;cases hy⟩
 have:=key fuel 0 (aia _) m0;rwa[List.drop_zero]at this
theorem NQ {kinds:List Int}(hk:kinds.length<=1000):∃ b,kL kinds=some b/\(b=true ->∀ k∈kinds,1<=k/\k<=3):=by
 unfold kL;have hl1:∀ (i:Nat) x,kinds[i]?=some x ->∃ b:Bool,(b=true->(λk=>1<=k/\k<=3) x)/\dK kinds (i:Int)=(bif !b then some (.ret false)else some (.next ((i+1:Nat):Int))):=by
  intro i x hx;have hi:=(ahR.1 hx).1;obtain⟨b,hb,hp⟩:∃ b,pM x=some b/\(b=true->1<=x/\x<=3):=by
   unfold pM;by_cases h1:x=1
   .rw[ahV h1];exact⟨true,rfl,λ_=>by omega⟩
   .rw[ahU h1,ahS]
    by_cases h2:x=2
    .rw[ahV h2];exact⟨true,rfl,λ_=>by omega⟩
    .rw[ahU h2,ahS]
     exact⟨_,rfl,λh=>by have:=aii h;omega⟩
  refine⟨b,hp,?_⟩;unfold dK;dsimp only;rw[aG hx,ahT,gn_ hx,ahQ,hb,ahQ,wrapN m0]
 rcases An (l:=kinds) (body:=dK kinds) (P:=λk=>1<=k/\k<=3) hl1 (by unfold dK;dsimp only;rw[lF_,ahS]) (by unfold fuel;omega)with⟨e,h⟩|e
 .rw[e];exact⟨true,rfl,λ_=>h⟩
 .rw[e];exact⟨false,rfl,λh=>by cases h⟩
theorem LH {l:List pY}{kinds:List Int}(hl:l.length<=1000)(hk:kinds.length<=1000):∃ b,Jz l kinds=some b/\(b=true->(∀ v∈l,v.row.length=kinds.length /\ ∀ x∈v.row,vF x=true) /\ ∀ k∈kinds,1<=k/\k<=3):=by
 unfold Jz;have hl1:∀ (i:Nat) x,l[i]?=some x ->∃ b:Bool,(b=true->(λv=>v.row.length=kinds.length /\ ∀ x∈v.row,vF x=true) x)/\rU l kinds (i:Int)=(bif !b then some (.ret false)else some (.next ((i+1:Nat):Int))):=by
  intro i x hx;have hi:=(ahR.1 hx).1;obtain⟨b,hb,hp⟩:=yG (row:=x.row) (kinds:=kinds) m0;refine⟨b,hp,?_⟩;unfold rU;dsimp only;rw[aG hx,ahT,gn_ hx,ahQ,hb,ahQ,wrapN m0]
 rcases An (l:=l) (body:=rU l kinds) (P:=λv=>v.row.length=kinds.length /\ ∀ x∈v.row,vF x=true) hl1 (by unfold rU;dsimp only;rw[lF_,ahS]) (by unfold fuel;omega)with⟨e,h⟩|e
 .rw[e,ahQ]
  unfold rN;dsimp only;obtain⟨b,hb,hp⟩:=NQ hk;rw[hb];exact⟨b,rfl,λht=>⟨h,hp ht⟩⟩
 .rw[e];exact⟨false,rfl,λh=>by cases h⟩
theorem bM.up {n m:Nat}{b:aJ}(h:bM n b)(hn:n<=m):bM m b:=⟨Nat.le_trans h.len hn,h.pos,h.kinds,h.row,h.val⟩
theorem bM.sub {n m:Nat}{b:aJ}(h:bM n b){l:List (List Val)}(hl:l.length<=m)(hs:∀ r∈l,r∈b.rows):bM m ⟨b.kinds,aH l⟩:=by
 refine⟨by show(aH l).length<=m;rw[(aP l).length_eq];exact hl,h.pos,h.kinds,λr hr=>?_,λr hr=>?_⟩
 .exact h.row r (hs r ((aP l).mem_iff.1 hr))
 .exact h.val r (hs r ((aP l).mem_iff.1 hr))
section
variable {n m:Nat} {a b:aJ}
theorem K0 (h:bM n a)(hn:n<=600):∃ B,gW a.kinds a.rows=some B/\(fM a.rows).bind (λr=>some (⟨a.kinds,r⟩:aJ))=some B/\bM n B/\B.kinds=a.kinds:=by
 have hr:=h.rk m0;refine⟨⟨a.kinds,aH a.rows⟩,tj (by have:=h.kinds;omega) hr,?_,h.sub h.len λr hr=>hr,rfl⟩;rw[dI _ (by have:=h.len;omega) hr.big];rfl
theorem OA {e:Ex}(h:bM n a)(hn:n<=600)(he:du fuel e):∃ B,mW a e=some B/\iR a e=some B/\bM n B/\B.kinds=a.kinds :=
 ⟨_,H5 (by have:=h.kinds;omega) (h.rk m0) he,EH (h.rk m0) he,h.sub (Nat.le_trans (List.length_filter_le _ _) h.len) λr hr=>(List.mem_filter.1 hr).1,rfl⟩
theorem Hu (h:bM n a)(hn:n<=600):∃ B,iQ a=some B/\gL a=some B/\bM n B/\B.kinds=a.kinds :=
 ⟨_,Cb (by have:=h.kinds;omega) (h.rk m0),yy (h.rk m0),h.sub (by have:=qV a.rows;rw[vW]at this;have:=h.len;omega) λr hr=>(eD r a.rows).1 hr,rfl⟩
theorem aaC (h:bM n a)(g:bM m b)(hk:b.kinds.length=a.kinds.length)(hn:n+m<=600):∃ B,qT a b=some B/\mX a b=some B/\bM (n+m) B/\B.kinds=a.kinds:=by
 have h1:=h.len;have h2:=g.len;have hr:RK (a.rows++b.rows):=(h.rk m0).app (g.rk m0) m0;refine⟨_,Jd (by have:=h.kinds;omega) hr,Ir hr,⟨?_,h.pos,h.kinds,λr hx=>?_,λr hx=>?_⟩,rfl⟩
 .show(aH _).length<=_;rw[(aP _).length_eq,ahZ];omega
 .rcases aih.1 ((aP _).mem_iff.1 hx)with hx|hx
  .exact h.row r hx
  .rw[g.row r hx];exact hk
 .rcases aih.1 ((aP _).mem_iff.1 hx)with hx|hx
  .exact h.val r hx
  .exact g.val r hx
theorem Nl (h:bM n a)(g:bM m b)(hn:n<=600)(hm:m<=600):∃ B,nt a b=some B/\ko a b=some B/\bM n B/\B.kinds=a.kinds :=
 ⟨_,Iu (by have:=h.kinds;omega) (h.rk m0) (g.rk m0),Fa (h.rk m0) (g.rk m0),h.sub (by have:=AY a.rows (λr=>b.rows.count r);have:=h.len;omega) λr hr=>(uH r a.rows _).2 hr,rfl⟩
theorem aac (h:bM n a)(g:bM m b)(hn:n<=600)(hm:m<=600):∃ B,ri a b=some B/\mG a b=some B/\bM n B/\B.kinds=a.kinds :=
 ⟨_,JV (by have:=h.kinds;omega) (h.rk m0) (g.rk m0),H0 (h.rk m0) (g.rk m0),h.sub (by have:=AY a.rows (λr=>b.rows.count r);have:=h.len;omega) λr hr=>(uH r a.rows _).1 hr,rfl⟩
theorem Jf {l:List Ex}(h:bM n a)(hn:n<=600)(h0:l≠[])(hl:l.length<=48)(he:∀ e∈l,du fuel e)(hp:ik a.kinds l=some (gn l a.kinds,0)):∃ B,j5 a l=some B/\iW a l=some B/\bM n B/\B.kinds=gn l a.kinds:=by
 have h1:=h.len;have hk:(gn l a.kinds).length=l.length:=by unfold gn;rw[ah3]
 have hl0:0<l.length:=List.length_pos_iff.2 h0;refine⟨_,E9 m0 h0 hl he hp,B9 m0 hl he hp,⟨?_,by show 0<(gn l a.kinds).length;omega,by show(gn l a.kinds).length<=48;omega,λr hx=>?_,λr hx v hv=>?_⟩,rfl⟩
 .show(aH _).length<=_;rw[(aP _).length_eq,ah3];exact h1
 .obtain⟨y,_,rfl⟩:=aip.1 ((aP _).mem_iff.1 hx)
  show(CQ l y).length=(gn l a.kinds).length;unfold CQ gn;rw[ah3,ah3]
 .obtain⟨y,_,rfl⟩:=aip.1 ((aP _).mem_iff.1 hx)
  obtain⟨e,h2,rfl⟩:=aip.1 hv;exact(val_ok (he e h2) y).2.2
theorem M7 (e:Ex)(left:Bool)(k:Nat)(b:List (List Val))(x:List Val):(kT e left k b x).length<=max b.length 1:=by
 have:=II e b x;unfold kT;rw[ahZ]
 cases hh:(eI e b x).isEmpty with
 |true =>
  have:(eI e b x).length=0:=by rw[List.isEmpty_iff.1 hh];rfl
  cases left<;>simp<;>omega
 |false=>cases left<;>simp<;>omega
theorem ac0 {e:Ex}{left:Bool}(h:bM n a)(g:bM m b)(hn:n<=600)(hm:m<=600)(hnm:max n 1*max m 1<=600)(hk:a.kinds.length+b.kinds.length<=48)(he:du fuel e):∃ B,tQ a b e left=some B/\nU a b e left=some B/\bM (max n 1*max m 1) B/\B.kinds=a.kinds++b.kinds:=by
 have h1:=h.len;have h2:=g.len;have Wh:(ld e left b.kinds.length a.rows b.rows).length<=max n 1*max m 1:=by
  have:=yh (kT e left b.kinds.length b.rows) (max m 1) a.rows λx _=>by have:=M7 e left b.kinds.length b.rows x;omega
  have h3:a.rows.length*max m 1<=max n 1*max m 1:=air _ m0;unfold ld;omega
 refine⟨_,M9 (h.up m0) (g.up m0) he m0,JH (h.up m0) (g.up m0) he m0,⟨?_,?_,?_,λr hx=>?_,λr hx v hv=>?_⟩,rfl⟩
 .show(aH _).length<=_;rw[(aP _).length_eq];exact Wh
 .show 0<(a.kinds++b.kinds).length;rw[ahZ];have:=h.pos;omega
 .show(a.kinds++b.kinds).length<=48;rw[ahZ];omega
 .show r.length=(a.kinds++b.kinds).length
  rw[ahZ];exact v8 e left b.kinds.length h.row g.row r ((aP _).mem_iff.1 hx)
 .have hx:=(aP _).mem_iff.1 hx
  unfold ld at hx;obtain⟨x,WJ,hx⟩:=List.mem_flatMap.1 hx;unfold kT at hx;obtain hx|hx:=aih.1 hx
  .unfold eI at hx
   obtain⟨y,YO,hx⟩:=List.mem_flatMap.1 hx
   cases hc:lz e (x++y)with
   |false=>rw[hc]at hx;cases hx
   |true =>
    rw[hc,ahT,List.mem_singleton]at hx;subst hx;obtain hv|hv:=aih.1 hv
    .exact h.val x WJ v hv
    .exact g.val y YO v hv
  .cases hc:left&&(eI e b.rows x).isEmpty with
   |false=>rw[hc]at hx;cases hx
   |true =>
    rw[hc,ahT,List.mem_singleton]at hx;subst hx;obtain hv|hv:=aih.1 hv
    .exact h.val x WJ v hv
    .rw[List.eq_of_mem_replicate hv];exact hH
end
theorem FT (n:Int):vF (iw n)=true:=by rw[aim ((Aa n).symm.trans (iu n))];exact ln _
theorem x4:vF jI=true:=hH
theorem abh (arg:Int):∀ (rows:List (List Val)) (acc:List Val),(∀ v∈acc,vF v=true)->(∀ r∈rows,∀ v∈r,vF v=true) ->∀ v∈rows.foldl (dj arg) acc,vF v=true
 |[],acc,h,_,v,hv=>h v hv
 |r::rows,acc,h,hr,v,hv=>by
  rw[aiC]at hv;refine abh arg rows _ (λw hw=>?_) (λr' h'=>hr r' (by simp[h'])) v hv;unfold dj at hw
  cases hd:decide (arg<(r.length:Int))with
  |false=>rw[hd,ahS]at hw;exact h w hw
  |true =>
   rw[hd,ahT]at hw
   cases hx:r[arg.toNat]? with
   |none=>rw[hx]at hw;exact h w hw
   |some x =>
    rw[hx]at hw;dsimp only at hw
    cases hk:decide (x.kind≠0)with
    |false=>rw[hk,ahS]at hw;exact h w hw
    |true =>
     rw[hk,ahT]at hw;obtain hw|hw:=aih.1 hw
     .exact h w hw
     .rw[List.mem_singleton.1 hw];exact hr r m5 x (ahX hx)
theorem LQ (op:Int):∀ (l:List Val) (o:Val),vF o=true->(∀ v∈l,vF v=true)->vF (l.foldl (bW op) o)=true
 |[],o,h,_=>h
 |x::l,o,h,hl=>by
  rw[aiC];refine LQ op l _ ?_ λv hv=>hl v (by simp[hv])
  unfold bW;generalize (bif (bif decide (op=3)then decide (jl x o<0)else false)then true else(bif decide (op=4)then decide (0<jl x o)else false))=c
  cases c
  .exact h
  .exact hl x m5
theorem aeF (l:List Val):vF (Cj l)=true:=by
 have key:∀ (c d:Bool) (w:Val),vF w=true->vF (bif c then jI else bif d then jI else w)=true:=λc d w h=>by
  cases c<;>cases d<;>first|exact x4|exact h
 exact key _ _ _ (FT _)
theorem aaU (op arg:Int){rows:List (List Val)}(hr:∀ r∈rows,∀ v∈r,vF v=true):vF (cT op arg rows)=true:=by
 have hc:=abh arg rows [] (λv hv=>by cases hv) hr;unfold cT
 cases decide (arg<0)with
 |true=>exact FT _
 |false =>
  cases decide (op=1)with
  |true=>exact FT _
  |false =>
   rw[ahS,ahS];have hc:∀ v∈mP arg rows,vF v=true:=hc;generalize mP arg rows=C at hc
   cases C with
   |nil=>exact x4
   |cons x l =>
    dsimp only
    cases decide (op=2)with
    |true=>exact aeF _
    |false=>exact LQ op (x::l) x (hc x m5) hc
theorem afO {r:List Val}(h:∀ v∈r,vF v=true)(i:Int):vF (E4 r i)=true:=by
 unfold E4;split
 .cases hx:r[i.toNat]? with
  |none=>exact x4
  |some v=>exact h v (ahX hx)
 .exact x4
theorem uZ (kinds:List Int):∀ (keys acc:List Int),(cm kinds keys acc).2=0->(cm kinds keys acc).1.length=acc.length+keys.length
 |[],acc,_=>rfl
 |k::ks,acc,h=>by
  rw[cm]at h ⊢
  cases hc:o_ kinds k with
  |false=>rw[hc,ahS]at h;exact absurd h m9
  |true =>
   rw[hc,ahT]at h;rw[ahT,uZ kinds ks _ h,ahZ];simp;omega
theorem uI (kinds:List Int):∀ (l:List Do) (acc:List Int),(cW kinds l acc).2=0->(cW kinds l acc).1.length=acc.length+l.length
 |[],acc,_=>rfl
 |a::l,acc,h=>by
  rw[cW]at h ⊢
  cases hc:decide (cB kinds a=0)with
  |false=>rw[hc,ahS]at h;exact absurd h (of_decide_eq_false hc)
  |true =>
   rw[hc,ahT]at h;rw[ahT,uI kinds l _ h,ahZ];simp;omega
theorem Et {kinds keys:List Int}{l:List Ag}(h:(fL kinds keys (pf l)).2=0):(fL kinds keys (pf l)).1.length=keys.length+l.length:=by
 have hl:(pf l).length=l.length:=ah3 _;unfold fL at h ⊢
 cases hc:decide ((cm kinds keys []).2=0)with
 |false=>rw[hc,ahS]at h;exact absurd h (of_decide_eq_false hc)
 |true =>
  rw[hc,ahT]at h;rw[ahT,uI kinds _ _ h,uZ kinds keys [] (aii hc),hl];simp
theorem aaK {n:Nat}{a:aJ}{keys:List Int}{l:List Ag}(h:bM n a)(hn:n<=600)(h0:0<keys.length+l.length)(h1:keys.length+l.length<=48)(he:(fL a.kinds keys (pf l)).2=0):∃ B,qR a keys l=some B/\h_ a keys l=some B/\bM (max n 1) B/\B.kinds=(fL a.kinds keys (pf l)).1:=by
 have hb:=h.up (m:=700) m0;have hk:=Et he;have hlen:=h.len;have key:(iv keys l a.rows).length<=max n 1/\(∀ r∈iv keys l a.rows,r.length=keys.length+l.length) /\ ∀ r∈iv keys l a.rows,∀ v∈r,vF v=true:=by
  unfold iv
  cases keys with
  |nil =>
   simp only[List.isEmpty_nil,ahT];refine⟨by simp;omega,λr hr=>?_,λr hr v hv=>?_⟩
   .rw[List.mem_singleton.1 hr,ah3];simp
   .rw[List.mem_singleton.1 hr]at hv
    obtain⟨x,_,rfl⟩:=aip.1 hv;exact aaU _ _ h.val
  |cons k ks =>
   simp only[List.isEmpty_cons,ahS];unfold i_;have hd:(dN [] (a.rows.map λr=>a_ r (k::ks))).length<=a.rows.length:=by
    have:=qV (a.rows.map λr=>a_ r (k::ks));rw[vW,ah3]at this;exact this
   refine⟨by rw[(aP _).length_eq,ah3];omega,λr hr=>?_,λr hr v hv=>?_⟩
   .obtain⟨y,hy,rfl⟩:=aip.1 ((aP _).mem_iff.1 hr)
    rw[eD]at hy;obtain⟨z,_,rfl⟩:=aip.1 hy;unfold vZ;rw[ahZ,ah3];show((k::ks).map _).length+_=_;rw[ah3]
   .obtain⟨y,hy,rfl⟩:=aip.1 ((aP _).mem_iff.1 hr)
    rw[eD]at hy;obtain⟨z,hz,rfl⟩:=aip.1 hy;unfold vZ at hv;obtain hv|hv:=aih.1 hv
    .obtain⟨i,_,rfl⟩:=aip.1 (show v∈(k::ks).map (E4 z)from hv)
     exact afO (h.val z hz) i
    .obtain⟨x,_,rfl⟩:=aip.1 hv
     exact aaU _ _ λr hr=>h.val r (List.mem_filter.1 hr).1
 refine⟨_,JL hb h0 h1,aaO hb h1 he,⟨key.1,by show 0<(fL a.kinds keys (pf l)).1.length;omega,by show(fL a.kinds keys (pf l)).1.length<=48;omega,λr hr=>?_,key.2.2⟩,rfl⟩;show r.length=(fL a.kinds keys (pf l)).1.length;rw[hk];exact key.2.1 r hr
