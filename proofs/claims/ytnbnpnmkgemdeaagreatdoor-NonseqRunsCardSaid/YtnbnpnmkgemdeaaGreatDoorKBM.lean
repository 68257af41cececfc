/- Parts. No condition. -/
import Derived.Test.YtnbnpnmkgemdeaaGreatDoorKBL
import Derived.Test.YtnbnpnmkgemdeaaGreatDoorKCE
import Derived.Test.YtnbnpnmkgemdeaaGreatDoorKAS
set_option maxHeartbeats 8000000
set_option maxRecDepth 100000
set_option linter.unusedSimpArgs false
set_option linter.unusedVariables false
namespace Go.Proofs.YtnbnpnmkgemdeaaGreatDoor
open IntKind (i64)
open Go.RowKit Go.MapKept Tryz
noncomputable section
def cD (O3:Pl)(Pi:(List Int))(Pj:Int)(rec:Pl->List Int->Int->Option Int):(Int×Int×Int)->Option (Step (Int×Int×Int) (Int)):=λs=>match s with
 |(X0,Xg,Xh)=>bif Xh<(O3.inputs.length:Int)then(al O3.inputs Xh).bind λSG=>(rec SG Pi Pj).bind λPY=>some (.next ((pe (i64.wrap (X0+PY)) Pj),(pe (i64.wrap (Xg*(wZ PY (1:Int)))) Pj),(i64.wrap (Xh+(1:Int)))))else
 some (.exit (X0,Xg,Xh))
def iU (O3:Pl):Sum (Int×Int×Int) (Int)->Option ((Int))
 |.inl (X0,Xg,Xh)=>bif O3.op=(5:Int)then some Xg else
 bif O3.op=(6:Int)then some Xg else
 some (wZ X0 (1:Int))
 |.inr q=>some q
def f6 (rec:Pl->List Int->Int->Option Int)(O3:Pl)(Pi:(List Int))(Pj:Int):Option (Int):=bif O3.op=(1:Int)then bif O3.int<(0:Int)then some (0:Int)else
 bif (Pi.length:Int)<=O3.int then some (0:Int)else
 (al Pi O3.int).bind λPK=>some (pe PK Pj)else
 bif O3.op=(2:Int)then some (pe (O3.rows.length:Int) Pj)else
 (af (cD O3 Pi Pj rec) fuel ((0:Int),(1:Int),(0:Int))).bind (iU O3)
theorem Jn {rec:Pl->List Int->Int->Option Int}  (Pq:∀ {x:Pl} {y:List Int} {z:Int} {r:Int},rec x y z=some r->PTz 61 [.agg (tP x),.one (.lst (y.map (λx=>[AC.int .i64 x]))),.one (.int .i64 z)] (.val (.one (.int .i64 r)))){O3:Pl}{Pi:(List Int)}{Pj:Int}{r:Int}(H:f6 rec O3 Pi Pj=some r):PTz 61 [.agg (tP O3),.one (.lst (Pi.map (λx=>[AC.int .i64 x]))),.one (.int .i64 Pj)] (.val (.one (.int .i64 r))):=by
 unfold f6 at H;rw[aD O3];refine po_ func61 ntmps61 ?_;obtain⟨PT,H⟩|⟨PT,H⟩:=ae H
 .obtain⟨PP,H⟩|⟨PP,H⟩:=ae H
  .cases H
   exact ao
  obtain⟨PG,H⟩|⟨PG,H⟩:=ae H
  .cases H
   exact ao
  obtain⟨PK,QV,i1,QI,H⟩:=aw (f:=(λx=>[AC.int .i64 x])) H
  cases H;exact ao
 obtain⟨Qu,H⟩|⟨Qu,H⟩:=ae H
 .cases H
  exact ao
 refine aS ?_;refine alM_ (λs:Int×Int×Int=>match s with|(X0,Xg,Xh)=>[(1,.one (.c (.lst (Pi.map (λx=>[AC.int .i64 x]))))),(2,.one (.c (.int .i64 Pj))),(3,.one (.ptr 0 0)),(7,.one (.c (.int .i64 X0))),(8,.one (.c (.int .i64 Xg))),(9,.one (.c (.int .i64 Xh)))]) (λs=>match s with|(X0,Xg,Xh)=>[.box [.c (.int .i64 O3.op),.c (.int .i64 O3.int),.c (.lst (O3.kinds.map (λx=>[AC.int .i64 x]))),.c (.lst (O3.rows.map (λx=>[AC.lst (x.map cV)]))),.c (.int .i64 O3.pred.op),.c (.int .i64 O3.pred.int),.c (.int .i64 O3.pred.v.kind),.c (.int .i64 O3.pred.v.int),.c (.str O3.pred.v.text),.c (.str O3.pred.nm),.c (.lst (O3.pred.args.map tE)),.c (.lst (O3.exprs.map tE)),.c (.lst (O3.keys.map (λx=>[AC.int .i64 x]))),.c (.lst (O3.aggs.map ol)),.c (.lst (O3.inputs.map tP))]]) H (λ_=>aia _)
  (fm_ bg [] rfl aQ bq) ?_
 rintro⟨X0,Xg,Xh⟩ Qr OZ Po;unfold cD at OZ;dsimp only at OZ ⊢;obtain⟨Q5,OZ⟩|⟨Q5,OZ⟩:=ae OZ
 .obtain⟨SG,Tu,i2,SR,OZ⟩:=aw (f:=tP) OZ
  simp only[ah4,ah2,ah6,ahW,aD]at SR;obtain⟨PY,c3,OZ⟩:=bd_ OZ;replace c3:=Pq c3
  try simp only[ah4,ah2,ah6,ahW,ay,aD]at c3
  cases OZ;refine aS ?_;exact⟨_,rfl,fm_ bg [] rfl aQ bq⟩
 cases OZ;have O0:iU O3 (.inl (X0,Xg,Xh))=some _:=Po;unfold iU at O0;dsimp only at O0;obtain⟨Qj,O0⟩|⟨Qj,O0⟩:=ae O0
 .cases O0
  exact ao
 obtain⟨P2,O0⟩|⟨P2,O0⟩:=ae O0
 .cases O0
  exact ao
 cases O0;exact ao
def sZ:Nat->Pl->List Int->Int->Option Int
 |0,_,_,_=>none
 |n+1,x,y,z=>f6 (sZ n) x y z
theorem En:∀ (n:Nat) {x:Pl} {y:List Int} {z:Int} {r:Int},sZ n x y z=some r->PTz 61 [.agg (tP x),.one (.lst (y.map (λx=>[AC.int .i64 x]))),.one (.int .i64 z)] (.val (.one (.int .i64 r)))
 |0,_,_,_,_,h=>nomatch h
 |n+1,_,_,_,_,h=>Jn (En n) h
end
theorem oI:fuel=(fuel-3)+1+1+1:=by unfold fuel;rfl
section
variable {σ ρ:Type} {body:σ->Option (Step σ ρ)} {s0 s1 s2:σ}
theorem lp0 (h0:body s0=some (.exit s0)):af body fuel s0=some (.inl s0):=by rw[oI,af,h0]
theorem lp1 (h0:body s0=some (.next s1))(h1:body s1=some (.exit s1)):af body fuel s0=some (.inl s1):=by rw[oI,af,h0];dsimp only;rw[af,h1]
theorem lp2 (h0:body s0=some (.next s1))(h1:body s1=some (.next s2))(h2:body s2=some (.exit s2)):af body fuel s0=some (.inl s2):=by rw[oI,af,h0];dsimp only;rw[af,h1];dsimp only;rw[af,h2]
end
theorem g9 {k:List Int}{l:List Int}{a:Int}(h:some (k,a)=some (l,(0:Int)))(ha:a≠0){P:Prop}:P:=absurd (congrArg Prod.snd (aim h)) ha
theorem aco {rec:Pl->List (List Int)->Option (List Int×Int)}{p:Pl}{inn:List (List Int)}{ks:List Int}(h:qg rec p inn=some (ks,0)):∃ k:Int,fe p.op=some k/\0<=k/\(p.inputs.length:Int)=k/\(af (bm p inn k rec) fuel ([],0)).bind (db p inn)=some (ks,0):=by
 unfold qg at h;rw[show pi p.op=fe p.op from rfl]at h;obtain⟨k,hk⟩:=DR p.op;rw[hk,ahQ]at h;by_cases k0:k<0
 .rw[ahV k0,ahT]at h;exact g9 h m9
 rw[ahU k0,ahS]at h;by_cases ke:(p.inputs.length:Int)=k
 .rw[ahU (show ¬ (p.inputs.length:Int)≠k by omega),ahS]at h
  exact⟨k,hk,m0,ke,h⟩
 .rw[ahV (show(p.inputs.length:Int)≠k from ke),ahT]at h;exact g9 h m9
theorem Fz {p:Pl}{inn sub:List (List Int)}{i:Int}{ks:List Int}(h:db p inn (.inl (sub,i))=some (ks,0)):bH p inn sub=some (ks,0)/\1<=ks.length/\ks.length<=48:=by
 unfold db at h;dsimp only at h
 cases hr:bH p inn sub with
 |none=>rw[hr]at h;cases h
 |some r =>
  rw[hr,ahQ]at h;by_cases r0:r.2=0
  .rw[ahU (show ¬ r.2≠0 by omega),ahS]at h
   by_cases c1:(r.1.length:Int)=0
   .rw[ahV c1,ahT]at h;exact g9 h m9
   rw[ahU c1,ahS]at h;by_cases c2:(48:Int)<(r.1.length:Int)
   .rw[ahV c2,ahT]at h;exact g9 h m9
   rw[ahU c2,ahS]at h;have e:r.1=ks:=congrArg Prod.fst (aim h);subst e;exact⟨by rw[<- r0],m0,m0⟩
  .rw[ahV (show r.2≠0 from r0),ahT]at h
   exact g9 h r0
section
variable {rec:Pl->List (List Int)->Option (List Int × Int)} {p x y:Pl} {inn:List (List Int)} {ks:List Int}
theorem FI {s:List (List Int)}{i:Nat}{k:Int}{r:List Int×Int}(hx:p.inputs[i]?=some x)(hi:(i:Int)<k)(hk:k<=10)(hs:s.length<=10)(hr:rec x inn=some r)(r0:r.2=0):bm p inn k rec (s,(i:Int))=some (.next (s++[r.1],((i+1:Nat):Int))):=by
 unfold bm;dsimp only;rw[ahV hi,ahT,gn_ hx,ahQ,hr,ahQ,ahU (show ¬ r.2≠0 by omega),ahS,ahV (show s.length+1<=5864062014805 by omega),ahT,wrapN m0]
theorem Jw {s:List (List Int)}{i:Nat}{k:Int}{r:List Int×Int}(hx:p.inputs[i]?=some x)(hi:(i:Int)<k)(hr:rec x inn=some r)(r0:r.2≠0):bm p inn k rec (s,(i:Int))=some (.ret ([],r.2)):=by
 unfold bm;dsimp only;rw[ahV hi,ahT,gn_ hx,ahQ,hr,ahQ,ahV r0,ahT]
theorem EY {s:List (List Int)}{i:Nat}{k:Int}(hx:p.inputs[i]?=some x)(hi:(i:Int)<k)(hr:rec x inn=none):bm p inn k rec (s,(i:Int))=none:=by
 unfold bm;dsimp only;rw[ahV hi,ahT,gn_ hx,ahQ,hr];rfl
theorem aaA (h:(af (bm p inn 0 rec) fuel ([],0)).bind (db p inn)=some (ks,0)):bH p inn []=some (ks,0)/\1<=ks.length/\ks.length<=48:=by
 rw[lp0 (show bm p inn 0 rec ([],0)=some (.exit ([],0))from rfl),ahQ]at h;exact Fz h
theorem aep (hp:p.inputs=[x])(h:(af (bm p inn 1 rec) fuel ([],0)).bind (db p inn)=some (ks,0)):∃ k,rec x inn=some (k,0)/\bH p inn [k]=some (ks,0)/\1<=ks.length/\ks.length<=48:=by
 have hx:p.inputs[0]?=some x:=by rw[hp];rfl
 cases hr:rec x inn with
 |none=>rw[oI,af,show bm p inn 1 rec ([],0)=none from EY (i:=0) hx m0 hr]at h;cases h
 |some r =>
  by_cases r0:r.2=0
  .rw[lp1 (show bm p inn 1 rec ([],0)=some (.next ([r.1],1))from FI (i:=0) (s:=[]) hx m0 m0 m5 hr r0) (show bm p inn 1 rec ([r.1],1)=some (.exit ([r.1],1))from rfl),ahQ]at h
   exact⟨r.1,by rw[<- r0],Fz h⟩
  .rw[oI,af,show bm p inn 1 rec ([],0)=some (.ret ([],r.2))from Jw (i:=0) hx m0 hr r0]at h
   exact g9 h r0
theorem aeN (hp:p.inputs=[x,y])(h:(af (bm p inn 2 rec) fuel ([],0)).bind (db p inn)=some (ks,0)):∃ k l,rec x inn=some (k,0)/\rec y inn=some (l,0)/\bH p inn [k,l]=some (ks,0)/\1<=ks.length/\ks.length<=48:=by
 have hx:p.inputs[0]?=some x:=by rw[hp];rfl
 have hy:p.inputs[1]?=some y:=by rw[hp];rfl
 cases hr:rec x inn with
 |none=>rw[oI,af,show bm p inn 2 rec ([],0)=none from EY (i:=0) hx m0 hr]at h;cases h
 |some r =>
  by_cases r0:r.2=0
  .have e0:bm p inn 2 rec ([],0)=some (.next ([r.1],1)):=FI (i:=0) (s:=[]) hx m0 m0 m5 hr r0
   cases hq:rec y inn with
   |none =>
    rw[oI,af,e0]at h;dsimp only at h;rw[af,show bm p inn 2 rec ([r.1],1)=none from EY (i:=1) hy m0 hq]at h;cases h
   |some q =>
    by_cases q0:q.2=0
    .rw[lp2 e0 (show bm p inn 2 rec ([r.1],1)=some (.next ([r.1,q.1],2))from FI (i:=1) (s:=[r.1]) hy m0 m0 m5 hq q0) (show bm p inn 2 rec ([r.1,q.1],2)=some (.exit ([r.1,q.1],2))from rfl),ahQ]at h
     exact⟨r.1,q.1,by rw[<- r0],by rw[<- q0],Fz h⟩
    .rw[oI,af,e0]at h
     dsimp only at h;rw[af,show bm p inn 2 rec ([r.1],1)=some (.ret ([],q.2))from Jw (i:=1) hy m0 hq q0]at h;exact g9 h q0
  .rw[oI,af,show bm p inn 2 rec ([],0)=some (.ret ([],r.2))from Jw (i:=0) hx m0 hr r0]at h
   exact g9 h r0
end
theorem rV {rec:Pl->List Int->Int->Option Int}{p x:Pl}{ns:List Int}{a b r:Int}{i:Nat}(hi:p.inputs[i]?=some x)(hl:i<=100000)(ha:0<=a/\a<=600)(hb:0<=b/\b<=600)(hr:rec x ns 600=some r)(r0:0<=r/\r<=600):cD p ns 600 rec (a,b,(i:Int))=some (.next (min (a+r) 600,min (b*max r 1) 600,((i+1:Nat):Int))):=by
 have h1:wZ r 1=max r 1:=by unfold wZ;split<;>omega
 have h2:0<=b*max r 1:=Int.mul_nonneg hb.1 m0;have h3:b*max r 1<=600*600:=Int.mul_le_mul hb.2 m0 m0 m0;unfold cD;dsimp only;rw[aG hi,ahT,gn_ hi,ahQ,hr,ahQ,h1,aV (x:=a+r) m0,aV (x:=b*max r 1) m0,wrapN m0,f9,f9]
theorem Aj {rec:Pl->List Int->Int->Option Int}{p:Pl}{ns:List Int}{a b:Int}:cD p ns 600 rec (a,b,(p.inputs.length:Int))=some (.exit (a,b,(p.inputs.length:Int))):=by
 unfold cD;dsimp only;rw[lF_,ahS]
theorem C0 {rec:Pl->List Int->Int->Option Int}{p:Pl}{ns:List Int}(hlen:p.inputs.length<=1000)(Pq:∀ x∈p.inputs,∃ r,rec x ns 600=some r/\0<=r/\r<=600):∀ (N i:Nat) (a b:Int),0<=a/\a<=600->0<=b/\b<=600->i<=p.inputs.length->p.inputs.length-i<N ->∃ c d j,af (cD p ns 600 rec) N (a,b,(i:Int))=some (.inl (c,d,j))/\(0<=c/\c<=600)/\0<=d/\d<=600
 |0,i,a,b,_,_,_,h=>by omega
 |N+1,i,a,b,ha,hb,hi,hN=>by
  rw[af];by_cases O8:i<p.inputs.length
  .obtain⟨x,hx⟩:=gol_ O8
   obtain⟨r,e1,e2⟩:=Pq x (ahX hx);have h2:0<=b*max r 1:=Int.mul_nonneg hb.1 m0;rw[rV hx m0 ha hb e1 e2];exact C0 hlen Pq N (i+1) _ _ m0 m0 m0 m0
  .have:i=p.inputs.length:=m0
   subst this;rw[Aj];exact⟨a,b,_,rfl,ha,hb⟩
theorem uF {ns:List Int}(hn:∀ k∈ns,0<=k):∀ (n:Nat) (p:Pl),wA n p ->∃ m,sZ n p ns 600=some m/\0<=m/\m<=600
 |0,_,h=>h.elim
 |n+1,p,h=>by
  show ∃ m,f6 (sZ n) p ns 600=some m/\_;unfold f6;by_cases o1:p.op=1
  .rw[ahV o1,ahT]
   by_cases i0:p.int<0
   .rw[ahV i0,ahT];exact⟨0,rfl,m0,m0⟩
   rw[ahU i0,ahS];by_cases i1:(ns.length:Int)<=p.int
   .rw[ahV i1,ahT];exact⟨0,rfl,m0,m0⟩
   rw[ahU i1,ahS];obtain⟨x,hx⟩:=gol_ (l:=ns) (i:=p.int.toNat) m0;have hg:al ns p.int=some x:=by unfold al;rw[if_pos m0];exact hx
   have:=hn x (ahX hx);rw[hg,ahQ,f9];exact⟨_,rfl,m0,m0⟩
  rw[ahU o1,ahS];by_cases o2:p.op=2
  .rw[ahV o2,ahT,f9];exact⟨_,rfl,m0,m0⟩
  rw[ahU o2,ahS];obtain⟨c,d,j,e1,e2,e3⟩:=C0 (ns:=ns) h.1.ins (λx hx=>uF hn n x (h.2 x hx)) fuel 0 0 1 m0 m0 (aia _) (by have:=h.1.ins;unfold fuel;omega);rw[show((0:Nat):Int)=0 from rfl]at e1;rw[e1,ahQ];unfold iU;dsimp only;have hm:wZ c 1=max c 1:=by unfold wZ;split<;>omega
  rw[hm];by_cases o5:p.op=5
  .rw[ahV o5,ahT];exact⟨_,rfl,e3⟩
  rw[ahU o5,ahS];by_cases o6:p.op=6
  .rw[ahV o6,ahT];exact⟨_,rfl,e3⟩
  rw[ahU o6,ahS];exact⟨_,rfl,m0,m0⟩
section
variable {rec:Pl->List Int->Int->Option Int} {p x y:Pl} {ns:List Int} {r q m:Int}
theorem aei (hp:p.inputs=[x])(ho:p.op=3\/p.op=4\/p.op=10\/p.op=11)(hr:rec x ns 600=some r)(r0:0<=r/\r<=600)(h:f6 rec p ns 600=some m):m=max r 1:=by
 have e0:cD p ns 600 rec (0,1,0)=some (.next (min (0+r) 600,min (1*max r 1) 600,1)):=rV (i:=0) (by rw[hp];rfl) m0 m0 m0 hr r0;have e1:∀ a b,cD p ns 600 rec (a,b,1)=some (.exit (a,b,1)):=λa b=>by
  have:=Aj (rec:=rec) (p:=p) (ns:=ns) (a:=a) (b:=b);rw[hp]at this;exact this
 have hm:wZ (min (0+r) 600) 1=max (min (0+r) 600) 1:=by unfold wZ;split<;>omega
 unfold f6 at h;rw[ahU (show ¬ p.op=1 by omega),ahU (show ¬ p.op=2 by omega),ahS,ahS,lp1 e0 (e1 _ _),ahQ]at h;unfold iU at h;dsimp only at h;rw[ahU (show ¬ p.op=5 by omega),ahU (show ¬ p.op=6 by omega),ahS,ahS,hm]at h;have:=aim h;omega
theorem aek (hp:p.inputs=[x,y])(ho:p.op=5\/p.op=6\/p.op=7\/p.op=8\/p.op=9)(hr:rec x ns 600=some r)(r0:0<=r/\r<=600)(hq:rec y ns 600=some q)(q0:0<=q/\q<=600)(h:f6 rec p ns 600=some m):(p.op=5\/p.op=6->m=min (max r 1*max q 1) 600)/\(p.op=7\/p.op=8\/p.op=9->m=max (min (r+q) 600) 1):=by
 have e0:cD p ns 600 rec (0,1,0)=some (.next (min (0+r) 600,min (1*max r 1) 600,1)):=rV (i:=0) (by rw[hp];rfl) m0 m0 m0 hr r0;rw[show min (0+r) 600=r by omega,show min (1*max r 1) 600=max r 1 by omega]at e0;have e1:cD p ns 600 rec (r,max r 1,1)=some (.next (min (r+q) 600,min (max r 1*max q 1) 600,2)):=rV (i:=1) (by rw[hp];rfl) m0 r0 m0 hq q0;have e2:∀ a b,cD p ns 600 rec (a,b,2)=some (.exit (a,b,2)):=λa b=>by
  have:=Aj (rec:=rec) (p:=p) (ns:=ns) (a:=a) (b:=b);rw[hp]at this;exact this
 have hm:wZ (min (r+q) 600) 1=max (min (r+q) 600) 1:=by unfold wZ;split<;>omega
 unfold f6 at h;rw[ahU (show ¬ p.op=1 by omega),ahU (show ¬ p.op=2 by omega),ahS,ahS,lp2 e0 e1 (e2 _ _),ahQ]at h;unfold iU at h;dsimp only at h;rw[hm]at h;constructor
 .intro ho
  by_cases o5:p.op=5
  .rw[ahV o5,ahT]at h;exact(aim h).symm
  .rw[ahU o5,ahV (show p.op=6 by omega),ahS,ahT]at h;exact(aim h).symm
 .intro ho
  rw[ahU (show ¬ p.op=5 by omega),ahU (show ¬ p.op=6 by omega),ahS,ahS]at h;exact(aim h).symm
end
section
variable {recS recR:Pl->List aJ->Option aJ} {p x y:Pl} {bags:List aJ} {A B:aJ}
theorem zH {i:Nat}{s:List aJ}(hx:p.inputs[i]?=some x)(hi:i<=10)(hs:s.length<=10)(hr:recS x bags=some A):eN p bags recS (s,(i:Int))=some (.next (s++[A],((i+1:Nat):Int))):=by
 unfold eN;dsimp only;rw[aG hx,ahT,gn_ hx,ahQ,hr,ahQ,ahV (show s.length+1<=2932031007402 by omega),ahT,wrapN m0]
theorem run_end {s:List aJ}:eN p bags recS (s,(p.inputs.length:Int))=some (.exit (s,(p.inputs.length:Int))):=by
 unfold eN;dsimp only;rw[lF_,ahS]
theorem adS (hp:p.inputs=[]):oU recS p bags=cn p bags (.inl ([],0)):=by
 have e0:=run_end (recS:=recS) (p:=p) (bags:=bags) (s:=[]);rw[hp]at e0;unfold oU;rw[lp0 (show eN p bags recS ([],0)=some (.exit ([],0))from e0),ahQ]
theorem af5 (hp:p.inputs=[x])(hr:recS x bags=some A):oU recS p bags=cn p bags (.inl ([A],1)):=by
 have e1:=run_end (recS:=recS) (p:=p) (bags:=bags) (s:=[A]);rw[hp]at e1;unfold oU;rw[lp1 (show eN p bags recS ([],0)=some (.next ([A],1))from zH (i:=0) (s:=[]) (by rw[hp];rfl) m0 m5 hr) (show eN p bags recS ([A],1)=some (.exit ([A],1))from e1),ahQ]
theorem afW (hp:p.inputs=[x,y])(hr:recS x bags=some A)(hq:recS y bags=some B):oU recS p bags=cn p bags (.inl ([A,B],2)):=by
 have e1:=run_end (recS:=recS) (p:=p) (bags:=bags) (s:=[A,B]);rw[hp]at e1;unfold oU;rw[lp2 (show eN p bags recS ([],0)=some (.next ([A],1))from zH (i:=0) (s:=[]) (by rw[hp];rfl) m0 m5 hr) (show eN p bags recS ([A],1)=some (.next ([A,B],2))from zH (i:=1) (s:=[A]) (by rw[hp];rfl) m0 m5 hq) (show eN p bags recS ([A,B],2)=some (.exit ([A,B],2))from e1),ahQ]
end
theorem md {k l:List Int}{a:Int}(h:some (k,a)=some (l,(0:Int))):k=l/\a=0:=⟨congrArg Prod.fst (aim h),congrArg Prod.snd (aim h)⟩
theorem hJ {α β:Type}{o:Option α}{f:α->Option β}{r:β}(h:o.bind f=some r):∃ a,o=some a/\f a=some r:=by
 cases o with
 |none=>cases h
 |some a=>exact⟨a,rfl,h⟩
theorem rC {bags:List aJ}(hb:∀ b∈bags,bM b.rows.length b):∀ (n:Nat) (p:Pl),wA n p ->∀ (ks:List Int) (m:Int),mg n p (bags.map (·.kinds))=some (ks,0)->sZ n p (bags.map λb=>(b.rows.length:Int)) 600=some m->m<600 ->∃ B,zf n p bags=some B/\lL n p bags=some B/\bM m.toNat B/\B.kinds=ks
 |0,_,h=>h.elim
 |n+1,p,h=>by
  intro ks m hN hR hm;have hns:∀ k∈bags.map (λb=>(b.rows.length:Int)),0<=k:=λk hk=>by
   obtain⟨b,_,rfl⟩:=aip.1 hk;omega
  obtain⟨k,hk,k0,hl,Zq⟩:=aco (show qg (mg n) p (bags.map (·.kinds))=some (ks,0)from hN);have hR:f6 (sZ n) p (bags.map λb=>(b.rows.length:Int)) 600=some m:=hR;show ∃ B,oU (zf n) p bags=some B/\dn (lL n) p bags=some B/\_;have g1:∀ x:aJ,al [x] (0:Int)=some x:=λ_=>rfl
  have g2:∀ x y:aJ,al [x,y] (0:Int)=some x:=λ_ _=>rfl
  have g3:∀ x y:aJ,al [x,y] (1:Int)=some y:=λ_ _=>rfl
  have p1:∀ x:Pl,al [x] (0:Int)=some x:=λ_=>rfl
  have p2:∀ x y:Pl,al [x,y] (0:Int)=some x:=λ_ _=>rfl
  have p3:∀ x y:Pl,al [x,y] (1:Int)=some y:=λ_ _=>rfl
  have i1:∀ x:List Int,al [x] (0:Int)=some x:=λ_=>rfl
  have i2:∀ x y:List Int,al [x,y] (0:Int)=some x:=λ_ _=>rfl
  have i3:∀ x y:List Int,al [x,y] (1:Int)=some y:=λ_ _=>rfl
  have in0:k=0->p.inputs=[]:=λe=>aiq.1 m0
  have in1:k=1 ->∃ x,p.inputs=[x]:=λe=>List.length_eq_one_iff.1 m0
  have in2:k=2 ->∃ x y,p.inputs=[x,y]:=λe=>by
   have:p.inputs.length=2:=m0
   match hq:p.inputs,this with
   |[x,y],_=>exact⟨x,y,rfl⟩

  have one:∀ x,k=1->p.inputs=[x]->(p.op=3\/p.op=4\/p.op=10\/p.op=11) ->∃ (r:Nat) (A:aJ),oU (zf n) p bags=cn p bags (.inl ([A],1))/\lL n x bags=some A/\bM r A/\r<600/\m.toNat=max r 1/\bH p (bags.map (·.kinds)) [A.kinds]=some (ks,0)/\1<=ks.length/\ks.length<=48:=λx e hp ho=>by
   subst e;have hx:x∈p.inputs:=by rw[hp];simp
   obtain⟨r,r1,r2⟩:=uF hns n x (h.2 x hx);have hmr:=aei hp ho r1 r2 hR;obtain⟨kk,e1,e2⟩:=aep hp Zq;obtain⟨A,a1,a2,a3,a4⟩:=rC hb n x (h.2 x hx) _ _ e1 r1 m0;rw[<- a4]at e2;exact⟨r.toNat,A,af5 hp a1,a2,a3,m0,m0,e2⟩
  have two:∀ x y,k=2->p.inputs=[x,y]->(p.op=5\/p.op=6\/p.op=7\/p.op=8\/p.op=9) ->∃ (r q:Nat) (A B:aJ),oU (zf n) p bags=cn p bags (.inl ([A,B],2))/\lL n x bags=some A/\lL n y bags=some B/\bM r A/\bM q B/\r<600/\q<600/\(p.op=5\/p.op=6->max r 1*max q 1<600/\m.toNat=max r 1*max q 1)/\(p.op=7\/p.op=8\/p.op=9->r+q<600/\m.toNat=max (r+q) 1)/\bH p (bags.map (·.kinds)) [A.kinds,B.kinds]=some (ks,0)/\1<=ks.length/\ks.length<=48:=λx y e hp ho=>by
   subst e;have hx:x∈p.inputs:=by rw[hp];simp
   have hy:y∈p.inputs:=by rw[hp];simp
   obtain⟨r,r1,r2⟩:=uF hns n x (h.2 x hx);obtain⟨q,q1,q2⟩:=uF hns n y (h.2 y hy);obtain⟨h5,h7⟩:=aek hp ho r1 r2 q1 q2 hR;obtain⟨k1,k2,e1,e2,e3⟩:=aeN hp Zq;have hrq:r<600/\q<600:=by
    by_cases o:p.op=5\/p.op=6
    .have:=h5 o
     have w1:max r 1*1<=max r 1*max q 1:=Int.mul_le_mul_of_nonneg_left m0 m0;have w2:1*max q 1<=max r 1*max q 1:=Int.mul_le_mul_of_nonneg_right m0 m0;omega
    .have:=h7 m0
     omega
   obtain⟨A,a1,a2,a3,a4⟩:=rC hb n x (h.2 x hx) _ _ e1 r1 hrq.1;obtain⟨B,b1,b2,b3,b4⟩:=rC hb n y (h.2 y hy) _ _ e2 q1 hrq.2;rw[<- a4,<- b4]at e3;have hz:((max r.toNat 1*max q.toNat 1:Nat):Int)=max r 1*max q 1:=by
    rw[Int.natCast_mul];congr 1<;>omega
   exact⟨r.toNat,q.toNat,A,B,afW hp a1 b1,a2,b2,a3,b3,m0,m0,λo=>by have:=h5 o;omega,λo=>by have:=h7 o;omega,e3⟩
  have fin:∀ {r s:Nat} {B':aJ},bM r B'->r<=s->s=m.toNat->bM m.toNat B':=λhB hr hs=>hs▸hB.up hr
  obtain⟨o,e⟩|⟨o,e⟩|⟨o,e⟩|⟨o,e⟩|⟨o,e⟩|⟨o,e⟩|⟨o,e⟩|⟨o,e⟩|⟨o,e⟩|⟨o,e⟩|⟨o,e⟩:=aaj hk k0
  ·
   subst e;obtain⟨e2,l1,l2⟩:=aaA Zq;unfold bH at e2;rw[o]at e2;simp only[Int.reduceEq,sl9]at e2;obtain⟨s,e2,e3⟩:=hJ e2;obtain⟨e4,e5⟩:=md e3;unfold A5 at e2;by_cases j0:p.int<0
   .rw[ahV j0,ahT]at e2;have:=aim e2;subst this;exact absurd e5 m9
   rw[ahU j0,ahS]at e2;by_cases j1:(((bags.map (·.kinds)).length:Nat):Int)<=p.int
   .rw[ahV j1,ahT]at e2;have:=aim e2;subst this;exact absurd e5 m9
   rw[ahU j1,ahS]at e2;rw[ah3]at j1;obtain⟨b,hx⟩:=gol_ (l:=bags) (i:=p.int.toNat) m0;have hg:al bags p.int=some b:=by unfold al;rw[if_pos m0];exact hx
   have hgk:al (bags.map (·.kinds)) p.int=some b.kinds:=by unfold al;rw[if_pos m0,aic,hx];rfl
   have XJ:al (bags.map λb=>(b.rows.length:Int)) p.int=some (b.rows.length:Int):=by unfold al;rw[if_pos m0,aic,hx];rfl
   rw[hgk,ahQ]at e2;obtain⟨c,_,e2⟩:=hJ e2
   cases c with
   |false=>have:=aim e2;subst this;exact absurd e5 m9
   |true =>
    have:=aim e2;subst this;have hmb:m=(b.rows.length:Int):=by
     unfold f6 at hR;rw[ahV o,ahT,ahU j0,ahS,ah3,ahU j1,ahS,XJ,ahQ,f9]at hR;have:=aim hR;omega
    obtain⟨B,b1,b2,b3,b4⟩:=K0 (hb b (ahX hx)) m0;refine⟨B,?_,?_,fin b3 (ah7 _) m0,b4.trans e4⟩
    .rw[adS (in0 rfl)]
     unfold cn;dsimp only;rw[ahV o,ahT,hg,ahQ,b1];rfl
    .unfold dn
     rw[ahV o,ahT,hg,ahQ];exact b2
  ·
   subst e;obtain⟨e2,l1,l2⟩:=aaA Zq;unfold bH at e2;rw[o]at e2;simp only[Int.reduceEq,sl9]at e2;obtain⟨s,e2,e3⟩:=hJ e2;obtain⟨e4,e5⟩:=md e3;obtain⟨ev,v1,v2,v3⟩:=xk p h.1.rows h.1.kinds;rw[v2]at e2;have hs:=(aim e2).symm;by_cases ev0:ev=0
   .rw[if_pos ev0]at hs
    subst hs;have hkd:p.kinds=ks:=e4;have QZ:∀ r∈p.rows,r.length=p.kinds.length /\ ∀ v∈r,vF v=true:=λr hr=>by
     obtain⟨c,c1,c2⟩:=yG (row:=r) (kinds:=p.kinds) (by have:=h.1.kinds;omega);rw[v3 ev0 r hr]at c1;exact c2 (aim c1).symm
    have hmb:m=(p.rows.length:Int):=by
     unfold f6 at hR;rw[ahU (show ¬ p.op=1 by omega),ahS,ahV o,ahT,f9]at hR;have:=aim hR;omega
    have hbk:bM p.rows.length ⟨p.kinds,p.rows⟩:=⟨ah7 _,by show 0<p.kinds.length;rw[hkd];omega,by show p.kinds.length<=48;rw[hkd];omega,λr hr=>(QZ r hr).1,λr hr=>(QZ r hr).2⟩;obtain⟨B,b1,b2,b3,b4⟩:=K0 hbk m0;refine⟨B,?_,?_,fin b3 (ah7 _) m0,b4.trans hkd⟩
    .rw[adS (in0 rfl)]
     unfold cn;rw[o];simp only[Int.reduceEq,sl9];rw[show gW p.kinds p.rows=some B from b1];rfl
    .unfold dn
     rw[o];simp only[Int.reduceEq,sl9];exact b2
   .rw[if_neg ev0]at hs
    subst hs;exact absurd e5 ev0
  ·
   obtain⟨x,hp⟩:=in1 e;obtain⟨r,A,a1,a2,a3,a4,a5,e2,l1,l2⟩:=one x e hp m0;unfold bH at e2;rw[o]at e2;simp only[Int.reduceEq,sl9,i1,ahQ]at e2;obtain⟨s,_,e3⟩:=hJ e2;obtain⟨B,b1,b2,b3,b4⟩:=OA a3 m0 h.1.pred;refine⟨B,?_,?_,fin b3 (Nat.le_max_left _ _) a5.symm,b4.trans (md e3).1⟩
   .rw[a1]
    unfold cn;rw[o];simp only[Int.reduceEq,sl9,g1,ahQ,b1]
   .unfold dn
    rw[o,hp];simp only[Int.reduceEq,sl9,p1,ahQ,a2,b2]
  ·
   obtain⟨x,hp⟩:=in1 e;obtain⟨r,A,a1,a2,a3,a4,a5,e2,l1,l2⟩:=one x e hp m0;unfold bH at e2;rw[o]at e2;simp only[Int.reduceEq,sl9,i1,ahQ]at e2;obtain⟨s,e2,e3⟩:=hJ e2;obtain⟨e4,e5⟩:=md e3;obtain⟨t,t1,t2⟩:=xr (kinds:=A.kinds) (l:=p.exprs) (by have:=h.1.exprs;omega) h.1.exs;rw[t1]at e2;have:=aim e2;subst this;have UY:=t2 e5;have T_:(gn p.exprs A.kinds).length=p.exprs.length:=by unfold gn;rw[ah3]
   rw[<- UY,e4]at T_;obtain⟨B,b1,b2,b3,b4⟩:=Jf a3 m0 (List.length_pos_iff.1 m0) m0 h.1.exs (by rw[t1,<- UY,<- e5]);refine⟨B,?_,?_,fin b3 (Nat.le_max_left _ _) a5.symm,b4.trans (UY.symm.trans e4)⟩
   .rw[a1]
    unfold cn;rw[o];simp only[Int.reduceEq,sl9,g1,ahQ,b1]
   .unfold dn
    rw[o,hp];simp only[Int.reduceEq,sl9,p1,ahQ,a2,b2]
  ·
   obtain⟨x,hp⟩:=in1 e;obtain⟨r,A,a1,a2,a3,a4,a5,e2,l1,l2⟩:=one x e hp m0;unfold bH at e2;rw[o]at e2;simp only[Int.reduceEq,sl9,i1,ahQ]at e2;obtain⟨B,b1,b2,b3,b4⟩:=Hu a3 m0;refine⟨B,?_,?_,fin b3 (Nat.le_max_left _ _) a5.symm,b4.trans (md e2).1⟩
   .rw[a1]
    unfold cn;rw[o];simp only[Int.reduceEq,sl9,g1,ahQ,b1]
   .unfold dn
    rw[o,hp];simp only[Int.reduceEq,sl9,p1,ahQ,a2,b2]
  ·
   obtain⟨x,hp⟩:=in1 e;obtain⟨r,A,a1,a2,a3,a4,a5,e2,l1,l2⟩:=one x e hp m0;unfold bH at e2;rw[o]at e2;simp only[Int.reduceEq,sl9,i1,ahQ]at e2;rw[mj A.kinds h.1.keys h.1.aggs,ahQ]at e2;obtain⟨e4,e5⟩:=md e2;have VW:=Et e5;rw[e4]at VW;obtain⟨B,b1,b2,b3,b4⟩:=aaK a3 m0 m0 m0 e5;refine⟨B,?_,?_,fin b3 (ah7 _) a5.symm,b4.trans e4⟩
   .rw[a1]
    unfold cn;rw[o];simp only[Int.reduceEq,sl9,g1,ahQ,b1]
   .unfold dn
    rw[o,hp];simp only[Int.reduceEq,sl9,p1,ahQ,a2,b2]
  iterate 2
   ·
    obtain⟨x,y,hp⟩:=in2 e;obtain⟨r,q,A,B,a1,a2,Y8,a3,Ym,a4,a4',a5,_,e2,l1,l2⟩:=two x y e hp m0;obtain⟨a5,a6⟩:=a5 m0;unfold bH at e2;rw[o]at e2;simp only[Int.reduceEq,sl9,i2,i3,ahQ]at e2;rw[tS (by have:=a3.kinds;have:=Ym.kinds;omega),ahQ]at e2;obtain⟨s,_,e3⟩:=hJ e2;obtain⟨e4,_⟩:=md e3;have T_:A.kinds.length+B.kinds.length<=48:=by rw[<- ahZ,e4];exact l2
    obtain⟨C,b1,b2,b3,b4⟩:=ac0 (left:=decide (p.op=6)) a3 Ym m0 m0 m0 T_ h.1.pred;rw[o]at b1 b2;refine⟨C,?_,?_,fin b3 (ah7 _) a6.symm,b4.trans e4⟩
    .rw[a1]
     unfold cn;rw[o];simp only[Int.reduceEq,sl9]at b1 ⊢;simp only[g2,g3,ahQ,b1]
    .unfold dn
     rw[o,hp];simp only[Int.reduceEq,sl9]at b2 ⊢;simp only[p2,p3,ahQ,a2,Y8,b2]
  ·
   obtain⟨x,y,hp⟩:=in2 e;obtain⟨r,q,A,B,a1,a2,Y8,a3,Ym,a4,a4',_,a5,e2,l1,l2⟩:=two x y e hp m0;obtain⟨a5,a6⟩:=a5 m0;unfold bH at e2;rw[o]at e2;simp only[Int.reduceEq,sl9,i2,i3,ahQ]at e2;by_cases T_:(A.kinds.length:Int)≠(B.kinds.length:Int)
   .rw[ahV T_,ahT]at e2;exact g9 e2 m9
   rw[ahU T_,ahS]at e2;obtain⟨s,_,e3⟩:=hJ e2
   cases s with
   |false=>exact g9 e3 m9
   |true =>
    obtain⟨C,b1,b2,b3,b4⟩:=aaC a3 Ym m0 m0;refine⟨C,?_,?_,fin b3 (Nat.le_max_left _ _) a6.symm,b4.trans (md e3).1⟩
    .rw[a1]
     unfold cn;rw[o];simp only[Int.reduceEq,sl9,g2,g3,ahQ,b1]
    .unfold dn
     rw[o,hp];simp only[Int.reduceEq,sl9,p2,p3,ahQ,a2,Y8,b2]
  ·
   obtain⟨x,y,hp⟩:=in2 e;obtain⟨r,q,A,B,a1,a2,Y8,a3,Ym,a4,a4',_,a5,e2,l1,l2⟩:=two x y e hp m0;obtain⟨a5,a6⟩:=a5 m0;unfold bH at e2;rw[o]at e2;simp only[Int.reduceEq,sl9,i2,i3,ahQ]at e2;by_cases T_:(A.kinds.length:Int)≠(B.kinds.length:Int)
   .rw[ahV T_,ahT]at e2;exact g9 e2 m9
   rw[ahU T_,ahS]at e2;obtain⟨s,_,e3⟩:=hJ e2
   cases s with
   |false=>exact g9 e3 m9
   |true =>
    obtain⟨C,b1,b2,b3,b4⟩:=Nl a3 Ym m0 m0;refine⟨C,?_,?_,fin b3 m0 a6.symm,b4.trans (md e3).1⟩
    .rw[a1]
     unfold cn;rw[o];simp only[Int.reduceEq,sl9,g2,g3,ahQ,b1]
    .unfold dn
     rw[o,hp];simp only[Int.reduceEq,sl9,p2,p3,ahQ,a2,Y8,b2]
  ·
   obtain⟨x,y,hp⟩:=in2 e;obtain⟨r,q,A,B,a1,a2,Y8,a3,Ym,a4,a4',_,a5,e2,l1,l2⟩:=two x y e hp m0;obtain⟨a5,a6⟩:=a5 m0;unfold bH at e2;rw[o]at e2;simp only[Int.reduceEq,sl9,i2,i3,ahQ]at e2;by_cases T_:(A.kinds.length:Int)≠(B.kinds.length:Int)
   .rw[ahV T_,ahT]at e2;exact g9 e2 m9
   rw[ahU T_,ahS]at e2;obtain⟨s,_,e3⟩:=hJ e2
   cases s with
   |false=>exact g9 e3 m9
   |true =>
    obtain⟨C,b1,b2,b3,b4⟩:=aac a3 Ym m0 m0;refine⟨C,?_,?_,fin b3 m0 a6.symm,b4.trans (md e3).1⟩
    .rw[a1]
     unfold cn;rw[o];simp only[Int.reduceEq,sl9,g2,g3,ahQ,b1]
    .unfold dn
     rw[o,hp];simp only[Int.reduceEq,sl9,p2,p3,ahQ,a2,Y8,b2]
noncomputable section
def gM (Pi:(List xP)):((List Int)×Int)->Option (Step ((List Int)×Int) (Bool)):=λs=>match s with
 |(W4,Qz)=>bif Qz<(Pi.length:Int)then(al Pi Qz).bind λQs=>bif (43:Int)<(Qs.kinds.length:Int)then some (.ret false)else
 (JZ Qs.versions).bind λQ4=>bif (!Q4)then some (.ret false)else
 (Jz Qs.versions Qs.kinds).bind λPY=>bif (!PY)then some (.ret false)else
 bif W4.length+1<=17592186044416 then(some (.next ((W4++[(Qs.versions.length:Int)]),(IntKind.i64.wrap (Qz+(1:Int))))))else none else
 some (.exit (W4,Qz))
def cK (O3:Pl):Sum ((List Int)×Int) (Bool)->Option ((Bool))
 |.inl (W4,Qz)=>(sZ fuel O3 W4 (600:Int)).bind λQp=>some (decide (Qp<(600:Int)))
 |.inr q=>some q
def ub (O3:Pl)(Pi:(List xP)):Option (Bool):=bif (4:Int)<(Pi.length:Int)then some false else
 (Ad fuel O3 (200:Int)).bind λPW=>bif (200:Int)<=PW then some false else
 (af (gM Pi) fuel ([],(0:Int))).bind (cK O3)
theorem IG {O3:Pl}{Pi:(List xP)}{r:Bool}(H:ub O3 Pi=some r):PTz 34 [.agg (tP O3),.one (.lst (Pi.map sW))] (.val (.one (.bool r))):=by
 unfold ub at H;rw[aD O3];refine po_ func34 ntmps34 ?_;obtain⟨PT,H⟩|⟨PT,H⟩:=ae H
 .cases H
  exact ao
 obtain⟨PW,c1,H⟩:=bd_ H;replace c1:=HU fuel c1
 try simp only[ah4,ah2,ah6,ahW,ay,aD]at c1
 obtain⟨PG,H⟩|⟨PG,H⟩:=ae H
 .cases H
  exact ao
 refine aS ?_;refine br 5 1 rfl ?_;refine alM_ (λs:(List Int)×Int=>match s with|(W4,Qz)=>[(1,.one (.c (.lst (Pi.map sW)))),(2,.one (.ptr 0 0)),(5,.one (.own (W4.map (λx=>[AC.int .i64 x])) 1)),(6,.one (.c (.int .i64 Qz)))]) (λs=>match s with|(W4,Qz)=>[.box [.c (.int .i64 O3.op),.c (.int .i64 O3.int),.c (.lst (O3.kinds.map (λx=>[AC.int .i64 x]))),.c (.lst (O3.rows.map (λx=>[AC.lst (x.map cV)]))),.c (.int .i64 O3.pred.op),.c (.int .i64 O3.pred.int),.c (.int .i64 O3.pred.v.kind),.c (.int .i64 O3.pred.v.int),.c (.str O3.pred.v.text),.c (.str O3.pred.nm),.c (.lst (O3.pred.args.map tE)),.c (.lst (O3.exprs.map tE)),.c (.lst (O3.keys.map (λx=>[AC.int .i64 x]))),.c (.lst (O3.aggs.map ol)),.c (.lst (O3.inputs.map tP))],.spare W4.length 1]) H (λ_=>aia _)
  (fm_ bg [] rfl aQ bq) ?_
 rintro⟨W4,Qz⟩ Qr OZ Po;unfold gM at OZ;dsimp only at OZ ⊢;obtain⟨Qb,OZ⟩|⟨Qb,OZ⟩:=ae OZ
 .obtain⟨Qs,Tu,i2,SR,OZ⟩:=aw (f:=sW) OZ
  obtain⟨Qw,OZ⟩|⟨Qw,OZ⟩:=ae OZ
  .cases OZ
   have O0:cK O3 (.inr false)=some _:=Po;unfold cK at O0;dsimp only at O0
   cases O0;exact ao
  obtain⟨Q4,c3,OZ⟩:=bd_ OZ;replace c3:=adr c3;obtain⟨P6,OZ⟩|⟨P6,OZ⟩:=ae OZ
  .cases OZ
   have O0:cK O3 (.inr false)=some _:=Po;unfold cK at O0;dsimp only at O0
   cases O0;exact ao
  obtain⟨PY,c4,OZ⟩:=bd_ OZ;replace c4:=adI c4;obtain⟨Qj,OZ⟩|⟨Qj,OZ⟩:=ae OZ
  .cases OZ
   have O0:cK O3 (.inr false)=some _:=Po;unfold cK at O0;dsimp only at O0
   cases O0;exact ao
  obtain⟨g5,OZ⟩:=aq OZ
  cases OZ;refine aS ?_;exact⟨_,rfl,fm_ fO [] dU aQ bq⟩
 cases OZ;have O0:cK O3 (.inl (W4,Qz))=some _:=Po;unfold cK at O0;dsimp only at O0;obtain⟨Qp,c6,O0⟩:=bd_ O0;replace c6:=En fuel c6
 try simp only[ah4,ah2,ah6,ahW,ay,aD]at c6
 cases O0;exact ao
def vp (O3:Pl)(Pi:(List xP)):Option (Bool):=(ub O3 Pi).bind λPh=>bif (!Ph)then some (true)else
 (GF O3 Pi).bind λQQ=>(Au O3 Pi).bind λPM=>bif QQ.2=PM.2 then(kY QQ.1 PM.1).bind λQi=>bif Qi then some (true)else
 some false else
 some false
theorem Hh {O3:Pl}{Pi:(List xP)}{r:Bool}(H:vp O3 Pi=some r):PTz 8 [.agg (tP O3),.one (.lst (Pi.map sW))] (.val (.one (.bool r))):=by
 unfold vp at H;rw[aD O3];refine po_ func8 ntmps8 ?_;obtain⟨Ph,c1,H⟩:=bd_ H;replace c1:=IG c1
 try simp only[ah4,ah2,ah6,ahW,ay,aD]at c1
 obtain⟨PP,H⟩|⟨PP,H⟩:=ae H
 .have YH:=zx
  try simp only[ah4,ah2,ah6,ahW,ay,aD]at YH
  cases H;exact ao
 obtain⟨QQ,c2,H⟩:=bd_ H;replace c2:=OP c2
 try simp only[ah4,ah2,ah6,ahW,ay,aD]at c2
 obtain⟨PM,c3,H⟩:=bd_ H;replace c3:=OH c3
 try simp only[ah4,ah2,ah6,ahW,ay,aD]at c3
 obtain⟨Qb,H⟩|⟨Qb,H⟩:=ae H
 .obtain⟨Qi,c4,H⟩:=bd_ H
  replace c4:=IB c4;obtain⟨Qw,H⟩|⟨Qw,H⟩:=ae H
  .have hc_9:=zx
   try simp only[ah4,ah2,ah6,ahW,ay,aD]at hc_9
   cases H;exact ao
  cases H;exact ao
 cases H;exact ao
end
theorem Ku (l:List pY)(hl:l.length<=3000000000000):uh l=some (l.map λv=>(⟨v.row,v.valid⟩:nB)):=by
 unfold uh;rw[bX (l:=l) (λv=>[(⟨v.row,v.valid⟩:nB)]) 3518437208883 ?_ ?_ (by unfold fuel;omega) [] (by rw[fo_];simp;omega)]
 .rw[ahQ,ahW,fo_];rfl
 .intro s i x hx hb
  have hi:=(ahR.1 hx).1;unfold n6;dsimp only;rw[aG hx,ahT,gn_ hx,ahQ,ahV (show s.length+1<=3518437208883 from hb),ahT,wrapN m0]
 .intro s
  unfold n6;dsimp only;rw[lF_,ahS]
theorem MB {l:List pY}(hl:l.length<=3000000000000):∃ b,JZ l=some b/\(b=true->l.length<=16):=by
 unfold JZ;rw[Ku l hl,ahQ];unfold L4;rw[ah3];by_cases h:(16:Int)<(l.length:Int)
 .rw[ahV h];exact⟨false,rfl,λh=>by cases h⟩
 rw[ahU h,ahS];have hl1:∀ (i:Nat) x,(l.map λv=>(⟨v.row,v.valid⟩:nB))[i]?=some x ->∃ b:Bool,(b=true->(λ_:nB=>True) x)/\qz (l.map λv=>(⟨v.row,v.valid⟩:nB)) (i:Int)=(bif !b then some (.ret false)else some (.next ((i+1:Nat):Int))):=by
  intro i x hx;have hi:=(ahR.1 hx).1;rw[ah3]at hi;refine⟨!decide ((60:Int)<(x.row.length:Int)),λ_=>trivial,?_⟩;unfold qz;dsimp only;rw[aG hx,ahT,gn_ hx,ahQ,wrapN m0,Bool.not_not]
 rcases An (P:=λ_=>True) hl1 (by unfold qz;dsimp only;rw[lF_,ahS]) (by rw[ah3];unfold fuel;omega)with⟨e,_⟩|e
 .rw[e];exact⟨true,rfl,λ_=>by omega⟩
 .rw[e];exact⟨false,rfl,λh=>by cases h⟩
theorem aas (v:pY)(h:v.row.length<=1000000):IU v=some (sX v):=by
 unfold IU;rw[ahV (show v.row.length<=4398046511104 by omega),ahT,bX (l:=[v.valid.lo,v.valid.hi,v.system.lo,v.system.hi,v.by_]) (λx=>[iw x]) 4398046511104 ?_ ?_ (by unfold fuel;simp) v.row m8]
 .rw[fo_];rfl
 .intro s i x hx hb
  have hi:i<5:=(ahR.1 hx).1;unfold y9;dsimp only;rw[ahV (show(i:Int)<((5:Nat):Int)by omega),ahT,gn_ hx,ahQ,t8,ahQ,wrapN m0,ahV (show s.length+1<=4398046511104 from hb),ahT]
 .intro s;rfl
theorem Nr (kinds:List Int)(l:List pY)(hk:kinds.length<=1000000)(hl:l.length<=700)(hr:∀ v∈l,v.row.length<=60):wb kinds l=some ⟨kinds++[1,1,1,1,1],aH (l.map sX)⟩:=by
 unfold wb;rw[ahV (show kinds.length<=17592186044416 by omega),ahT,bX (l:=[(),(),(),(),()]) (λ_=>[(1:Int)]) 17592186044416 ?_ ?_ (by unfold fuel;simp) kinds m8]
 .show mo l (.inl (kinds++[1,1,1,1,1],((5:Nat):Int)))=_
  unfold mo;dsimp only;rw[bX (l:=l) (λv=>[sX v]) 5864062014805 ?_ ?_ (by unfold fuel;omega) [] (by rw[fo_];simp;omega)]
  .rw[ahQ,ahW,fo_]
   unfold rQ;dsimp only;rw[dI _ (by rw[ah3];exact hl) (λr Ui=>by
    obtain⟨v,hv,rfl⟩:=aip.1 Ui;have:=hr v hv;unfold sX;simp;omega)];rfl
  .intro s i x hx hb
   have hi:=(ahR.1 hx).1;have hxr:=hr x (ahX hx);unfold rm;dsimp only;rw[aG hx,ahT,gn_ hx,ahQ,aas x m0,ahQ,wrapN m0,ahV (show s.length+1<=5864062014805 from hb),ahT]
  .intro s
   unfold rm;dsimp only;rw[lF_,ahS]
 .intro s i x hx hb
  have hi:i<5:=(ahR.1 hx).1;unfold vV;dsimp only;rw[ahV (show(i:Int)<5 by omega),ahT,wrapN m0,ahV (show s.length+1<=17592186044416 from hb),ahT]
 .intro s;rfl
def MZ (x:xP):aJ:=⟨x.kinds++[1,1,1,1,1],aH (x.versions.map sX)⟩
structure Oe (x:xP):Prop where
 kinds:x.kinds.length<=43
 len:x.versions.length<=16
 row:∀ v∈x.versions,v.row.length=x.kinds.length /\ ∀ w∈v.row,vF w=true
theorem Oe.bag {x:xP}(h:Oe x):bM (MZ x).rows.length (MZ x):=by
 refine⟨ah7 _,by show 0<(x.kinds++_).length;simp,by show(x.kinds++_).length<=48;have:=h.kinds;simp;omega,λr hr=>?_,λr hr w hw=>?_⟩
 .obtain⟨v,hv,rfl⟩:=aip.1 ((aP _).mem_iff.1 hr)
  show(sX v).length=(x.kinds++[1,1,1,1,1]).length;unfold sX;rw[ahZ,ahZ,(h.row v hv).1];rfl
 .obtain⟨v,hv,rfl⟩:=aip.1 ((aP _).mem_iff.1 hr)
  unfold sX at hw;obtain hw|hw:=aih.1 hw
  .exact(h.row v hv).2 w hw
  .obtain⟨n,_,rfl⟩:=aip.1 hw
   exact FT n
theorem Oe.rows {x:xP}(h:Oe x):vJ x.kinds x.versions=some (MZ x)/\wb x.kinds x.versions=some (MZ x):=by
 have h1:=h.kinds;have h2:=h.len;have h3:∀ v∈x.versions,v.row.length<=60:=λv hv=>by have:=(h.row v hv).1;omega
 exact⟨NC _ _ m0 m0 h3,Nr _ _ m0 m0 h3⟩
def qi (x:xP):Option Bool:=bif decide ((43:Int)<(x.kinds.length:Int))then some false else bif !((JZ x.versions).getD false)then some false else bif !((Jz x.versions x.kinds).getD false)then some false else none
theorem KN {l:List xP}(hv:∀ x∈l,x.versions.length<=3000000000000)(hl:l.length<=4):af (gM l) fuel ([],0)=some ((l.findSome? qi).elim (.inl (l.map λx=>(x.versions.length:Int),(l.length:Int))) .inr):=by
 have:=Ao (l:=l) (body:=gM l) qi (λx=>(x.versions.length:Int)) (λs i x hx hs=>by
  have hi:=(ahR.1 hx).1;unfold gM qi;dsimp only;rw[aG hx,ahT,gn_ hx,ahQ];by_cases hk:(43:Int)<(x.kinds.length:Int)
  .rw[ahV hk];rfl
  rw[ahU hk,ahS,ahS];obtain⟨b,b1,b2⟩:=MB (hv x (ahX hx));rw[b1,ahQ,Option.getD_some]
  cases b with
  |false=>rfl
  |true =>
   obtain⟨c,c1,c2⟩:=LH (l:=x.versions) (kinds:=x.kinds) (by have:=b2 rfl;omega) m0;rw[Bool.not_true,ahS,ahS,c1,ahQ,Option.getD_some]
   cases c with
   |false=>rfl
   |true=>rw[Bool.not_true,ahS,ahS,ahV (show s.length+1<=17592186044416 by omega),ahT,wrapN m0]) (λs=>by
  unfold gM;dsimp only;rw[lF_,ahS]) fuel 0 [] (aia _) (by unfold fuel;omega) rfl
 rw[List.drop_zero,show((0:Nat):Int)=0 from rfl,ahW]at this;rw[this]
 cases l.findSome? qi<;>rfl
theorem abX {x:xP}(hv:x.versions.length<=3000000000000)(h:qi x=none):Oe x:=by
 unfold qi at h;by_cases hk:(43:Int)<(x.kinds.length:Int)
 .rw[ahV hk]at h;cases h
 rw[ahU hk,ahS]at h;obtain⟨b,b1,b2⟩:=MB hv;rw[b1,Option.getD_some]at h
 cases b with
 |false=>cases h
 |true =>
  have b2:=b2 rfl;obtain⟨c,c1,c2⟩:=LH (l:=x.versions) (kinds:=x.kinds) m0 m0;rw[c1,Option.getD_some]at h
  cases c with
  |false=>cases h
  |true=>exact⟨m0,b2,(c2 rfl).1⟩
theorem Cm (p:Pl)(l:List xP)(hv:∀ x∈l,x.versions.length<=3000000000000):vp p l=some true:=by
 unfold vp ub;by_cases h4:(4:Int)<(l.length:Int)
 .rw[ahV h4];rfl
 rw[ahU h4,ahS];obtain⟨r,r1,r2,r3,r4⟩:=L_ fuel p 200 m0 m0 (by unfold fuel;omega);rw[r1,ahQ];by_cases hr:(200:Int)<=r
 .rw[ahV hr];rfl
 rw[ahU hr,ahS,KN hv m0,ahQ];have hp:wA fuel p:=m_ (by unfold fuel;omega) (r4 m0)
 cases hs:l.findSome? qi with
 |some q =>
  obtain⟨x,_,hq⟩:=List.exists_of_findSome?_eq_some hs;have:q=false:=by
   unfold qi at hq;generalize decide ((43:Int)<(x.kinds.length:Int))=a at hq;generalize (JZ x.versions).getD false=b at hq;generalize (Jz x.versions x.kinds).getD false=c at hq
   cases a<;>cases b<;>cases c<;>cases hq<;>rfl
  subst this;rfl
 |none =>
  have Rb:∀ x∈l,Oe x:=λx hx=>abX (hv x hx) (List.findSome?_eq_none_iff.1 hs x hx)
  have X3:(l.map MZ).map (λb=>(b.rows.length:Int))=l.map λx=>(x.versions.length:Int):=by
   rw[List.map_map];refine List.map_congr_left λx _=>?_
   show(((aH (x.versions.map sX)).length:Nat):Int)=_;rw[(aP _).length_eq,ah3]
  have hbg:∀ b∈l.map MZ,bM b.rows.length b:=λb hb=>by
   obtain⟨x,hx,rfl⟩:=aip.1 hb;exact(Rb x hx).bag
  have hll:(l.map MZ).length=l.length:=ah3 _;rw[Option.elim_none];unfold cK;dsimp only;rw[<- X3];obtain⟨m,m1,m2⟩:=uF (ns:=(l.map MZ).map λb=>(b.rows.length:Int)) (λk hk=>by obtain⟨b,_,rfl⟩:=aip.1 hk;omega) fuel p hp;rw[m1,ahQ,ahQ];by_cases hm:m<600
  .rw[ahV hm,Bool.not_true,ahS]
   have e1:af (qd l) fuel ([],0)=some (.inl (l.map MZ,(l.length:Int))):=by
    rw[bX (l:=l) (λx=>[MZ x]) 2932031007402 ?_ ?_ (by unfold fuel;omega) [] (by rw[fo_];simp;omega)]
    .rw[ahW,fo_]
    .intro s i x hx hb
     have hi:=(ahR.1 hx).1;unfold qd;dsimp only;rw[aG hx,ahT,gn_ hx,ahQ,(Rb x (ahX hx)).rows.1,ahQ,wrapN m0,ahV (show s.length+1<=2932031007402 from hb),ahT]
    .intro s
     unfold qd;dsimp only;rw[lF_,ahS]
   have e2:af (m4 l) fuel ([],0)=some (.inl (l.map MZ,(l.length:Int))):=by
    rw[bX (l:=l) (λx=>[MZ x]) 2932031007402 ?_ ?_ (by unfold fuel;omega) [] (by rw[fo_];simp;omega)]
    .rw[ahW,fo_]
    .intro s i x hx hb
     have hi:=(ahR.1 hx).1;unfold m4;dsimp only;rw[aG hx,ahT,gn_ hx,ahQ,(Rb x (ahX hx)).rows.2,ahQ,wrapN m0,ahV (show s.length+1<=2932031007402 from hb),ahT]
    .intro s
     unfold m4;dsimp only;rw[lF_,ahS]
   have e3:∀ {B:List aJ},B.length<=4->af (pK B) fuel ([],0)=some (.inl (B.map (·.kinds),(B.length:Int))):=λ{B} hB=>by
    rw[bX (l:=B) (λx=>[x.kinds]) 5864062014805 ?_ ?_ (by unfold fuel;omega) [] (by rw[fo_];simp;omega)]
    .rw[ahW,fo_]
    .intro s i x hx hb
     have hi:=(ahR.1 hx).1;unfold pK;dsimp only;rw[aG hx,ahT,gn_ hx,ahQ,wrapN m0,ahV (show s.length+1<=5864062014805 from hb),ahT]
    .intro s
     unfold pK;dsimp only;rw[lF_,ahS]
   have e4:∀ {B:List aJ},B.length<=4->af (wn B) fuel ([],0)=some (.inl (B.map (·.kinds),(B.length:Int))):=λhB=>e3 hB
   obtain⟨q,q1,q2,q3⟩:=He (inn:=(l.map MZ).map (·.kinds)) (λk hk=>by
    obtain⟨b,hb,rfl⟩:=aip.1 hk;have:=(hbg b hb).kinds;omega) hp
   have key:∃ R,GF p l=some R/\Au p l=some R/\kY R.1 R.1=some true:=by
    unfold GF Au;rw[e1,e2,ahQ,ahQ];unfold uv sa;dsimp only;unfold Ly Fe;rw[e3 m0,e4 m0,ahQ,ahQ];unfold vB ru;dsimp only;rw[q1,q2,ahQ,ahQ];by_cases q0:q.2=0
    .obtain⟨B,b1,b2,b3,b4⟩:=rC hbg fuel p hp q.1 m (by rw[q3 q0,<- q0]) m1 hm
     rw[ahU (show ¬ q.2≠0 by omega),ahS,ahS,b1,b2];refine⟨(B,0),rfl,rfl,mc B (by have:=b3.kinds;omega) (by have:=b3.len;omega) λr hr=>?_⟩;have:=b3.row r hr;have:=b3.kinds;omega
    .rw[ahV (show q.2≠0 from q0)]
     exact⟨_,rfl,rfl,mc ⟨[],[]⟩ m5 m5 λr hr=>by cases hr⟩
   obtain⟨R,k1,k2,k3⟩:=key;rw[k1,k2,ahQ,ahQ,ahV rfl,ahT,k3];rfl
  .rw[ahU hm];rfl
theorem xJ {p:Pl}{l:List xP}(q0:Hk p)(q1:jC 48 Gi l):PTz 8 [.agg (tP p),.one (.lst (l.map sW))] (.val (.one (.bool true))):=Hh (Cm p l λx hx=>by have h1:=(q1.2 x hx).versions.1;unfold reachBytes at h1;omega)
