/- Parts. No condition. -/
import Derived.Test.YtlcceppoloaecaaGreatDoorKBR
set_option maxHeartbeats 8000000
set_option maxRecDepth 100000
set_option linter.unusedSimpArgs false
set_option linter.unusedVariables false
namespace Go.Proofs.YtlcceppoloaecaaGreatDoor
open IntKind (i64)
open Go.RowKit Go.MapKept
def aoT:TI :={ anh with soft:=true }
theorem BA:TIok Tryz.prog aoT:=⟨tab_ok.size,tab_ok.agg,tab_ok.elem,tab_ok.field,tab_ok.zero,tab_ok.bytes,tab_ok.kind,tab_ok.struct,tab_ok.zok,tab_ok.eqs⟩
theorem vz (n:Int):∀ l:List Int,(qM n l).length<=l.length+1
 |[]=>aqG _
 |y::l=>by
  have:=vz n l;rw[qM];split
  ·simp;omega
  ·split<;>simp
theorem afP:∀ (l:List ax) (out:List Int),(Be l out).length<=out.length+2*l.length
 |[],_=>aqG _
 |p::l,out=>by
  have h1:=afP l (bif aw p then qM p.hi (qM p.lo out)else out);have h2:=vz p.hi (qM p.lo out);have h3:=vz p.lo out;rw[Be,aqM]
  cases hp:aw p<;>rw[hp]at h1<;>simp only[aqs,aqr]at h1 ⊢ <;>omega
theorem acP (c:ap->ap->Bool)(b:List ap)(x:ap):(ES c b x).length<=b.length:=wC _ (λy=>by cases c x y<;>simp) b
noncomputable section
def ue (OX:bj)(OY:bj):Option (Bool):=(iM OX.kinds OY.kinds).bind λO7=>bif O7 then(gX OX.facts OY.facts).bind λPY=>some PY else
 some false
instance gAlike_ok {OX : bj} {OY : bj} {r : Bool} : OkC (ue OX OY = some r) (PTz 17 [.agg (aW OX), .agg (aW OY)] (.val (.one (.bool r)))) := .mk λH => by
 unfold ue at H;refine po_ Tryz.func17 Tryz.ntmps17 ?_;exact ay H
end
theorem pG {r:bj}(hk:r.kinds.length<=1000000)(h:bz r.facts):ue r r=some true:=by
 unfold ue;rw[l8 _ hk,aqo,aqs,pO h];rfl
theorem akj {l:List ax}{x y:Int}(h:∀ p∈l,p.hi<=x)(SC:x<y):sG l ⟨x,y⟩=rr l x y:=by
 obtain rfl|⟨m,q,rfl⟩:=li l
 ·rfl
 ·have hq:=h q m5
  rw[rl,xa];by_cases hx:q.hi=x
  ·rw[if_pos (by show x<=q.hi;omega),if_pos hx,Cc,show max q.hi (⟨x,y⟩:ax).hi=y by show max q.hi y=y;omega]
  ·rw[if_neg (by show ¬ x<=q.hi;omega),if_neg hx]
noncomputable section
def ahX (Pe:ax)(PN:ax):Option (Bool):=(cG Pe).bind λO7=>bif O7 then(cG PN).bind λPY=>bif PY then bif Pe.lo<PN.hi then some (decide (PN.lo<Pe.hi))else
 some false else
 some false else
 some false
instance gOv1b_ok {Pe : ax} {PN : ax} {r : Bool} : OkC (ahX Pe PN = some r) (PTz 44 [.agg (aP Pe), .agg (aP PN)] (.val (.one (.bool r)))) := .mk λH => by
 unfold ahX at H;refine po_ Tryz.func44 Tryz.ntmps44 ?_;exact ay H
def Dl (Pe:ax)(PN:ax):Option (ax×Bool):=(ahX Pe PN).bind λO7=>bif (!O7)then some ((⟨(0:Int),(0:Int)⟩:ax),false)else
 some ((⟨(EE Pe.lo PN.lo),(mnI Pe.hi PN.hi)⟩:ax),true)
instance gInter1_ok {Pe : ax} {PN : ax} {r : ax × Bool} : OkC (Dl Pe PN = some r) (PTz 95 [.agg (aP Pe), .agg (aP PN)] (.tup [.agg (aP r.1), .one (.bool r.2)])) := .mk λH => by
 unfold Dl at H;refine po_ Tryz.func95 Tryz.ntmps95 ?_;exact ay H
def jh (OZ:(List ax))(Qc:Int):(Int)->Option (Step (Int) (Bool)):=λs=>match s with
 |i_1=>bif i_1<(OZ.length:Int)then(aF OZ i_1).bind λRD=>(dO RD Qc).bind λQm=>bif Qm then some (.ret true)else
 some (.next (i64.wrap (i_1+(1:Int))))else
 some (.exit i_1)
def E8:Sum (Int) (Bool)->Option ((Bool))
 |.inl i_1=>some false
 |.inr q=>some q
def af0 (OZ:(List ax))(Qc:Int):Option (Bool):=(ao (jh OZ Qc) fuel (0:Int)).bind (E8)
instance gCont3_ok {OZ : (List ax)} {Qc : Int} {r : Bool} : OkC (af0 OZ Qc = some r) (PTz 159 [.one (.lst (OZ.map aP)), .one (.int .i64 Qc)] (.val (.one (.bool r)))) := .mk λH => by
 unfold af0 at H;refine po_ Tryz.func159 Tryz.ntmps159 ?_;refine a6 ?_;refine alM_ (λs:Int=>match s with|i_1=>[(0,.one (.c (.lst (OZ.map aP)))),(1,.one (.c (.int .i64 Qc))),(5,.one (.c (.int .i64 i_1)))]) (λs=>match s with|i_1=>[]) H (λ_=>aqL _)
  (fm_ bE [] rfl bm trivial) ?_
 rintro i_1 QF OU Pz;unfold jh at OU;dsimp only at OU ⊢;obtain⟨Qr,OU⟩|⟨Qr,OU⟩:=aj OU
 ·obtain⟨RD,Rw,i1,Ri,OU⟩:=br (f:=aP) OU
  obtain⟨Qm,c2,OU⟩:=bd_ OU;replace c2:=gContains1_ok c2;obtain⟨Q6,OU⟩|⟨Q6,OU⟩:=aj OU
  ·exact bA OU Pz
  cases OU;refine a6 ?_;exact⟨_,rfl,fm_ bE [] rfl bm trivial⟩
 exact bA OU Pz
def IC (PE:Int)(OX:Bool)(OY:Bool):Option (Bool):=bif PE=(1:Int)then bif OX then some OY else
 some false else
 bif PE=(2:Int)then bif OX then some true else
 some OY else
 bif PE=(3:Int)then bif OX then some (!OY)else
 some false else
 bif (!OX)then some (!OY)else
 some false
instance gWant3_ok {PE : Int} {OX : Bool} {OY : Bool} {r : Bool} : OkC (IC PE OX OY = some r) (PTz 158 [.one (.int .i64 PE), .one (.bool OX), .one (.bool OY)] (.val (.one (.bool r)))) := .mk λH => by
 unfold IC at H;refine po_ Tryz.func158 Tryz.ntmps158 ?_;exact ay H
def nW (OZ:(List ax)):((List Int)×Int)->Option (Step ((List Int)×Int) ((List Int))):=λs=>match s with
 |(OV,i_2)=>bif i_2<(OZ.length:Int)then(aF OZ i_2).bind λPK=>(cG PK).bind λPW=>bif PW then(vO OV PK.lo).bind λQk=>(vO Qk PK.hi).bind λQJ=>some (.next (QJ,(i64.wrap (i_2+(1:Int)))))else
 some (.next (OV,(i64.wrap (i_2+(1:Int)))))else
 some (.exit (OV,i_2))
def ae4:Sum ((List Int)×Int) ((List Int))->Option (((List Int)))
 |.inl (OV,i_2)=>some OV
 |.inr q=>some q
def ajR (OZ:(List ax)):Option ((List Int)):=(ao (nW OZ) fuel ([],(0:Int))).bind (ae4)
instance gPts3_ok {OZ : (List ax)} {r : (List Int)} : OkC (ajR OZ = some r) (PTz 157 [.one (.lst (OZ.map aP))] (.val (.one (.lst (r.map (λx => [AC.int .i64 x])))))) := .mk λH => by
 unfold ajR at H;refine po_ Tryz.func157 Tryz.ntmps157 ?_;refine a6 ?_;refine aby 3 rfl rfl ?_;refine alM_ (λs:(List Int)×Int=>match s with|(OV,i_2)=>[(0,.one (.c (.lst (OZ.map aP)))),(3,.one (.c (.lst (OV.map (λx=>[AC.int .i64 x]))))),(4,.one (.c (.int .i64 i_2)))]) (λs=>match s with|(OV,i_2)=>[]) H (λ_=>aqL _)
  (fm_ bE [] rfl bm trivial) ?_
 rintro⟨OV,i_2⟩ QF OU Pz;unfold nW at OU;dsimp only at OU ⊢;obtain⟨P9,OU⟩|⟨P9,OU⟩:=aj OU
 ·obtain⟨PK,Rw,i1,Ri,OU⟩:=br (f:=aP) OU
  obtain⟨PW,c2,OU⟩:=bd_ OU;replace c2:=gValid1_ok c2;obtain⟨QG,OU⟩|⟨QG,OU⟩:=aj OU
  ·obtain⟨Qk,c3,OU⟩:=bd_ OU
   replace c3:=gIns3_ok c3;obtain⟨QJ,c4,OU⟩:=bd_ OU;replace c4:=gIns3_ok c4
   cases OU;refine a6 ?_;exact⟨_,rfl,fm_ sg [] rfl bm trivial⟩
  cases OU;refine a6 ?_;exact⟨_,rfl,fm_ sg [] rfl bm trivial⟩
 exact bA OU Pz
end
theorem ON (l:List ax)(t:Int)(hl:l.length<=1000000):af0 l t=some (eI l t):=by
 have key:∀ (n i:Nat),i<=l.length->l.length-i<n->(ao (jh l t) n (i:Int)).bind E8=some (eI (l.drop i) t):=by
  intro n
  induction n with
  |zero=>intro i _ h;omega
  |succ n ih =>
   intro i hi hn;rw[ao];by_cases O0:i<l.length
   ·obtain⟨x,hx⟩:=gol_ O0
    have hd:l.drop i=x::l.drop (i+1):=by rw[aqW O0,(aqp.1 hx).2]
    have hb:jh l t (i:Int)=bif (aw x&&F7 x t)then some (.ret true)else some (.next ((i+1:Nat):Int)):=by
     unfold jh;simp only;rw[aO hx,aqs,gn_ hx,aqo,qz,aqo,wrapN m0];rfl
    rw[hb,hd,lU]
    cases aw x&&F7 x t with
    |true=>rfl
    |false =>
     show(ao (jh l t) n ((i+1:Nat):Int)).bind E8=_;rw[ih (i+1) m0 m0,Bool.false_or]
   ·have:i=l.length:=m0
    subst this;have hb:jh l t (l.length:Int)=some (.exit (l.length:Int)):=by
     unfold jh;simp only;rw[lF_];rfl
    rw[hb,arn];rfl
 have:=key fuel 0 (aqL _) (by unfold fuel;omega);rw[List.drop_zero]at this;exact this
theorem aie (n:Int):∀ l:List Int,qM n l=St.ins n l
 |[]=>rfl
 |x::l=>by rw[qM,St.ins,aie n l]
theorem afb (l:List Int)(n:Int)(hl:l.length<=1000000):vO l n=some (qM n l):=by rw[DV l n hl,aie]
theorem alf (l:List ax)(hl:l.length<=100000):ajR l=some (Be l []):=by
 have key:∀ (n i:Nat) (out:List Int),i<=l.length->l.length-i<n->out.length+2*(l.length-i)<=900000->(ao (nW l) n (out,(i:Int))).bind ae4=some (Be (l.drop i) out):=by
  intro n
  induction n with
  |zero=>intro i out _ h _;omega
  |succ n ih =>
   intro i out hi hn ho;rw[ao];by_cases O0:i<l.length
   ·obtain⟨x,hx⟩:=gol_ O0
    have hd:l.drop i=x::l.drop (i+1):=by rw[aqW O0,(aqp.1 hx).2]
    have h1:=vz x.lo out;have h2:=vz x.hi (qM x.lo out);have hb:nW l (out,(i:Int))=some (.next (bif aw x then qM x.hi (qM x.lo out)else out,((i+1:Nat):Int))):=by
     unfold nW;simp only;rw[aO hx,aqs,gn_ hx,aqo,show cG x=gPV x from rfl,iN,aqo,wrapN m0]
     cases aw x with
     |false=>rfl
     |true=>rw[aqs,aqs,afb _ _ m0,aqo,afb _ _ m0,aqo]
    rw[hb,hd,Be];exact ih (i+1) _ m0 m0 (by cases aw x<;>simp<;>omega)
   ·have:i=l.length:=m0
    subst this;have hb:nW l (out,(l.length:Int))=some (.exit (out,(l.length:Int))):=by
     unfold nW;simp only;rw[lF_];rfl
    rw[hb,arn];rfl
 have:=key fuel 0 [] (aqL _) (by unfold fuel;omega) m8;rw[List.drop_zero]at this;exact this
def v8 (kind:Int)(x y:Bool):Bool:=(IC kind x y).getD false
theorem ajw (kind:Int)(x y:Bool):IC kind x y=some (v8 kind x y):=by
 unfold v8 IC
 cases decide (kind=1)<;>cases decide (kind=2)<;>cases decide (kind=3)<;>cases x<;>cases y<;>rfl
theorem afW (x y:Bool):v8 3 x y=(x && !y):=by cases x<;>cases y<;>rfl
theorem afY (w:Bool->Bool->Bool)(a b:List ax){p:List Int}{i:Nat}{x y:Int}(hx:p[i]?=some x)(hy:p[i+1]?=some y)(out:List ax):ii w a b (p.drop i) out=ii w a b (p.drop (i+1)) (if w (eI a x) (eI b x)then rr out x y else out):=by
 obtain⟨h1,h2⟩:=aqp.1 hx;obtain⟨h3,h4⟩:=aqp.1 hy;rw[aqW h1,h2,aqW h3,h4,ii]
theorem ajg (w:Bool->Bool->Bool)(a b:List ax){p:List Int}{i:Nat}(h:p.length<=i+1)(out:List ax):ii w a b (p.drop i) out=out:=by
 have:(p.drop i).length<=1:=by rw[List.length_drop];omega
 match hq:p.drop i,this with
 |[],_=>rfl
 |[_],_=>rfl
def CT (kind:Int)(a b:List ax)(p:List Int)(s:Nat×List ax):Tm:=[(0,.one (.c (.int .i64 kind))),(1,.one (.c (tPs a))),(2,.one (.c (tPs b))),(8,.one (.c (.lst (p.map λx=>[AC.int .i64 x])))),(9,.one (.own (s.2.map aP) 1)),(10,.one (.c (.int .i64 s.1)))]
theorem LA (kind:Int)(a b:List ax)(p:List Int)(s:Nat×List ax):gQ 2 (CT kind a b p s):=⟨t7,t7,t7,t7,(by show 1<2;omega),t7,t7⟩
theorem ai1 (kind:Int)(a b:List ax)(ha:a.length<=10000)(hb:b.length<=10000):PTz 102 [.one (.int .i64 kind),.one (tPs a),.one (tPs b)] (.val (.one (.lst ((ii (v8 kind) a b (kN a b) []).map aP)))):=by
 have UP:=gPts3_ok (alf (⟨0,1099511627776⟩::(a++b)) m8);rw[show Be (⟨0,1099511627776⟩::(a++b)) []=kN a b from rfl,aqB,aqD]at UP;have hca:=λt=>gCont3_ok (ON a t m0)
 have hcb:=λt=>gCont3_ok (ON b t m0)
 have hwt:=λx y=>gWant3_ok (ajw kind x y)
 have Uo:(kN a b).length<=100000:=by have:=afP (⟨0,1099511627776⟩::(a++b)) [];unfold kN;simp at this ⊢;omega
 have TV:(kN a b).Pairwise (· < ·):=Ds _ List.Pairwise.nil;have YM:∀ x∈kN a b,0<=x/\x<=1099511627776:=λx hx=>by
  rcases(AL _ _ x).1 hx with h|⟨p,_,hp,h⟩
  ·cases h
  ·have:=gE hp;omega
 generalize kN a b=p at UP Uo TV YM ⊢;have QL:∀ (i:Nat) x y,p[i]?=some x->p[i+1]?=some y->x<y:=λi x y h1 h2=>by
  obtain⟨q1,q2⟩:=aqp.1 h1;obtain⟨q3,q4⟩:=aqp.1 h2;have:=List.pairwise_iff_getElem.1 TV i (i+1) q1 q3 m0;omega
 generalize hR:ii (v8 kind) a b p []=R;refine pa_ gY Tryz.func102 rfl rfl Tryz.ntmps102 m5 ?_;simp only[argT,PV.av,aqB,aqF]
 repeat' (first|refine aN rfl rfl rfl rfl UP rfl ?_|((first|refine st_pop rfl rfl rfl rfl ?_ ?_|refine st_lop rfl rfl rfl rfl ?_ ?_);·(repeat' (first|exact t7|rfl|exact aqA rfl|omega|exact wideI (by intro _;rfl) _|(intro e he;simp at he;subst he;rfl)|(intro e he;obtain⟨q,_,rfl⟩:=aq0.1 he;rfl)|(simp only[aqC,aqy,aqM,aqV]<;>omega)|apply And.intro)))|refine gv_ gY BA ?_|(refine gi_ (λhb=>?_) (λhb=>?_)<;>(try exact(fx_ hb).elim))|fail)
 refine bS 9 2 rfl ?_;refine cu (CT kind a b p) (λs=>[.spare (1+a.length+b.length) 2,.spare s.2.length 2]) (λs=>1<=s.1/\s.1<=p.length+1/\ii (v8 kind) a b (p.drop (s.1-1)) s.2=R/\s.2.length<=s.1 /\ ∀ x,p[s.1-1]?=some x ->∀ q∈s.2,q.hi<=x) (λs=>p.length+1-s.1) (1,[]) ⟨aqG _,m5,by rw[Nat.sub_self,List.drop_zero];exact hR,m5,λx _ q hq=>by cases hq⟩ (λ_ _=>aqL _)
  (fm_ ⟨rfl,rfl,rfl,rfl,rfl,rfl,t7⟩ [] m5 (LA _ _ _ _ _) ⟨t7,t7,t7⟩) ?_
 rintro⟨i,out⟩ ⟨h1,h2,h3,h4,h5⟩;dsimp only at h1 h2 h3 h4 h5;obtain⟨i,rfl⟩:∃ j,i=j+1:=⟨i-1,m0⟩;rw[Nat.add_sub_cancel]at h3 h5;unfold CT;dsimp only;by_cases O0:i+1<p.length
 ·obtain⟨y,hy⟩:=gol_ O0
  obtain⟨x,hx⟩:=gol_ (l:=p) (i:=i) m0;have SC:=QL i x y hx hy;have hG:decide (((i+1:Nat):Int)<(p.length:Int))=true:=aqu m0;have SQ:i64.wrap (((i+1:Nat):Int)-1)=((i:Nat):Int):=aZ m0 m0;have We:=hca x;have Wg:=hcb x;have Xm:=hwt (eI a x) (eI b x);have XI:=y_ out ⟨x,y⟩ m0;have Rf:=akj (h5 x hx) SC;have U_:=YM x (aqw hx);have hry:=YM y (aqw hy);have h5y:∀ q∈rr out x y,q.hi<=y:=λq hq=>by
   rw[<- Rf]at hq;obtain ho|⟨m,r,ho⟩:=li out
   ·rw[ho,Dk]at hq
    rw[aq6.1 hq];exact Int.le_refl _
   ·have hm:=h5 x hx
    rw[ho]at hq hm;have hr:=hm r m5;rw[rl]at hq;split at hq
    ·obtain hq|hq:=aqS.1 hq
     ·have:=hm q (by simp[hq]);omega
     ·rw[aq6.1 hq];show EE r.hi y<=y;rw[Cc];omega
    ·obtain hq|hq:=aqS.1 hq
     ·have:=hm q hq;omega
     ·rw[aq6.1 hq];exact Int.le_refl _
  have hlen:=JY out ⟨x,y⟩;rw[afY _ a b hx hy]at h3;rw[Rf]at XI hlen
  cases hk:v8 kind (eI a x) (eI b x)with
  |false =>
   rw[hk]at Xm h3;rw[if_neg m5]at h3
   repeat' (first|rw[aqC]|rw[hG]|rw[SQ]|(refine bw rfl rfl rfl rfl rfl rfl rfl rfl (bu hx) ?_ ?_;· exact⟨m0,rfl⟩)|(refine bw rfl rfl rfl rfl rfl rfl rfl rfl (bu hy) ?_ ?_;· exact⟨m0,rfl⟩)|refine aN rfl rfl rfl rfl We rfl ?_|refine aN rfl rfl rfl rfl Wg rfl ?_|refine aN rfl rfl rfl rfl Xm rfl ?_|refine gv_ gY BA ?_|(refine gi_ (λhb=>?_) (λhb=>?_)<;>(try exact(fx_ hb).elim))|fail)
   exact⟨(i+2,out),⟨by show 1<=i+2;omega,by show i+2<=_;omega,h3,by show out.length<=i+2;omega,λz hz q hq=>by
    have hz:p[i+1]?=some z:=hz;rw[hy]at hz;injection hz with hz;subst hz
    have:=h5 x hx q hq;omega⟩,by show p.length+1-(i+2)<p.length+1-(i+1);omega,fm_ ⟨rfl,rfl,rfl,rfl,rfl,aU (show i64.wrap (((i+1:Nat):Int)+1)=((i+2:Nat):Int)from aZ m0 m0),t7⟩ [] rfl (LA _ _ _ _ _) ⟨t7,t7,t7⟩⟩
  |true =>
   rw[hk]at Xm h3;rw[if_pos rfl]at h3
   repeat' (first|rw[aqC]|rw[hG]|rw[SQ]|(refine Ib rfl rfl rfl rfl (by rw[aqC];rfl) XI ?_)|(refine AZ 1 2 [(0,.one (.c (.int .i64 kind))),(1,.one (.c (tPs a))),(2,.one (.c (tPs b))),(8,.one (.c (.lst (p.map λx=>[AC.int .i64 x])))),(9,.one (.own ((rr out x y).map aP) 1)),(10,.one (.c (.int .i64 ((i+1:Nat):Int))))] (aqL _) m0 rfl (by intro z hz;simp at hz;subst hz;trivial) (by intro z hz;simp only[aqH,List.not_mem_nil,or_false]at hz;rcases hz with rfl|rfl|rfl|rfl|rfl|rfl;exact .inl ⟨rfl,t7⟩;exact .inl ⟨rfl,t7⟩;exact .inl ⟨rfl,t7⟩;exact .inl ⟨rfl,t7⟩;exact .inr ⟨_,rfl,rfl⟩;exact .inl ⟨rfl,t7⟩) ?_)|(refine bw rfl rfl rfl rfl rfl rfl rfl rfl (bu hx) ?_ ?_;· exact⟨m0,rfl⟩)|(refine bw rfl rfl rfl rfl rfl rfl rfl rfl (bu hy) ?_ ?_;· exact⟨m0,rfl⟩)|refine aN rfl rfl rfl rfl We rfl ?_|refine aN rfl rfl rfl rfl Wg rfl ?_|refine aN rfl rfl rfl rfl Xm rfl ?_|refine gv_ gY BA ?_|(refine gi_ (λhb=>?_) (λhb=>?_)<;>(try exact(fx_ hb).elim))|fail)
   exact⟨(i+2,rr out x y),⟨by show 1<=i+2;omega,by show i+2<=_;omega,h3,by show(rr out x y).length<=i+2;omega,λz hz q hq=>by
    have hz:p[i+1]?=some z:=hz;rw[hy]at hz;injection hz with hz;subst hz
    exact h5y q hq⟩,by show p.length+1-(i+2)<p.length+1-(i+1);omega,fm_ ⟨rfl,rfl,rfl,rfl,rfl,aU (show i64.wrap (((i+1:Nat):Int)+1)=((i+2:Nat):Int)from aZ m0 m0),t7⟩ [] m5 (LA _ _ _ _ _) ⟨t7,t7,t7⟩⟩
 ·have hG:decide (((i+1:Nat):Int)<(p.length:Int))=false:=aqt m0
  rw[ajg _ a b m0]at h3;subst h3
  repeat' (first|rw[aqC]|rw[hG]|rw[SQ]|refine gv_ gY BA ?_|(refine gi_ (λhb=>?_) (λhb=>?_)<;>(try exact(fx_ hb).elim))|fail)
  refine⟨.inr rfl,?_⟩
  first|exact⟨t7,rfl⟩|exact⟨⟨t7,t7⟩,rfl⟩|(refine⟨?_,rfl⟩;repeat' (first|exact t7|rfl|apply And.intro))
noncomputable def FC (kind:Int)(a b:List ax):Option (List ax):=bif decide (a.length<=10000)&&decide (b.length<=10000)then some (ii (v8 kind) a b (kN a b) [])else none
theorem aan {kind:Int}{a b r:List ax}(H:FC kind a b=some r):PTz 102 [.one (.int .i64 kind),.one (.lst (a.map aP)),.one (.lst (b.map aP))] (.val (.one (.lst (r.map aP)))):=by
 unfold FC at H;obtain⟨g,H⟩:=fS H;obtain rfl:=aqX H;rw[aqI]at g;exact ai1 kind a b (aqT g.1) (aqT g.2)
noncomputable section
def ap8:TI :={ tab with owns:=λf=>f==57||tab.owns f }
theorem alW:TIok Tryz.prog ap8:=⟨tab_ok.size,tab_ok.agg,tab_ok.elem,tab_ok.field,tab_ok.zero,tab_ok.bytes,tab_ok.kind,tab_ok.struct,tab_ok.zok,tab_ok.eqs⟩
def aoQ:TI :={ tab with owns:=λf=>f==57||tab.owns f,soft:=true }
theorem ajU:TIok Tryz.prog aoQ:=⟨tab_ok.size,tab_ok.agg,tab_ok.elem,tab_ok.field,tab_ok.zero,tab_ok.bytes,tab_ok.kind,tab_ok.struct,tab_ok.zok,tab_ok.eqs⟩
def ae1 (OX:(List ax))(OY:(List ax)):Option ((List ax)):=(FC (3:Int) OX OY).bind λO7=>some O7
instance gSub3_ok {OX : (List ax)} {OY : (List ax)} {r : (List ax)} : OkC (ae1 OX OY = some r) (PTz 98 [.one (.lst (OX.map aP)), .one (.lst (OY.map aP))] (.val (.one (.lst (r.map aP))))) := .mk λH => by
 unfold ae1 at H;refine po_ Tryz.func98 Tryz.ntmps98 ?_;obtain⟨O7,c1,H⟩:=bd_ H;replace c1:=aan c1;exact ay H
def FA (RX:ap)(OY:bj)(OW:Ex):((List ax)×Int)->Option (Step ((List ax)×Int) ((List ax))):=λs=>match s with
 |(OV,Tn)=>bif Tn<(OY.facts.length:Int)then(aF OY.facts Tn).bind λPK=>(gp RX.row PK.row).bind λPW=>(jo OW PW).bind λP1=>bif P1=(2:Int)then bif OV.length+1<=8796093022208 then(some (.next ((OV++[PK.valid]),(i64.wrap (Tn+(1:Int))))))else none else
 some (.next (OV,(i64.wrap (Tn+(1:Int)))))else
 some (.exit (OV,Tn))
def ajt:Sum ((List ax)×Int) ((List ax))->Option (((List ax)))
 |.inl (OV,Tn)=>some OV
 |.inr q=>some q
def EZ (RX:ap)(OY:bj)(OW:Ex):Option ((List ax)):=(ao (FA RX OY OW) fuel ([],(0:Int))).bind (ajt)
instance gMet24_ok {RX : ap} {OY : bj} {OW : Ex} {r : (List ax)} : OkC (EZ RX OY OW = some r) (PTz 66 [.agg (aH RX), .agg (aW OY), .agg (tE OW)] (.val (.one (.lst (r.map aP))))) := .mk λH => by
 unfold EZ at H;rw[aC OW];refine po_ Tryz.func66 Tryz.ntmps66 ?_;refine a6 ?_;refine bS 7 2 rfl ?_;refine alM_ (λs:(List ax)×Int=>match s with|(OV,Tn)=>[(3,.one (.ptr 0 0)),(4,.one (.ptr 1 0)),(5,.one (.ptr 2 0)),(7,.one (.own (OV.map aP) 3)),(8,.one (.c (.int .i64 Tn)))]) (λs=>match s with|(OV,Tn)=>[.box [.c (.lst (RX.row.map cV)),.c (.int .i64 RX.valid.lo),.c (.int .i64 RX.valid.hi)],.box [.c (.lst (OY.kinds.map (λx=>[AC.int .i64 x]))),.c (.lst (OY.facts.map aH))],.box [.c (.int .i64 OW.op),.c (.int .i64 OW.int),.c (.int .i64 OW.v.kind),.c (.int .i64 OW.v.int),.c (.str OW.v.text),.c (.str OW.nm),.c (.lst (OW.args.map tE))],.spare OV.length 2]) H (λ_=>aqL _)
  (fm_ bE [] rfl bm cm) ?_
 rintro⟨OV,Tn⟩ QF OU Pz;exact bA OU Pz
def qU (OX:bj)(OY:bj)(OW:Ex)(i_2:Int):((List ap)×Int)->Option (Step ((List ap)×Int) ((List ap))):=λs=>match s with
 |(QE,k_5)=>bif k_5<(OY.facts.length:Int)then(aF OX.facts i_2).bind λRE=>(aF OY.facts k_5).bind λR4=>(gp RE.row R4.row).bind λQw=>(Dl RE.valid R4.valid).bind λP7=>bif P7.2 then(jo OW Qw).bind λPM=>bif PM=(2:Int)then bif QE.length+1<=3518437208883 then(some (.next ((QE++[(⟨Qw,P7.1⟩:ap)]),(i64.wrap (k_5+(1:Int))))))else none else
 some (.next (QE,(i64.wrap (k_5+(1:Int)))))else
 some (.next (QE,(i64.wrap (k_5+(1:Int)))))else
 some (.exit (QE,k_5))
def ai6 (i_2:Int):Sum ((List ap)×Int) ((List ap))->Option (Step ((List ap)×Int) ((List ap)))
 |.inl (QE,k_5)=>some (.next (QE,(i64.wrap (i_2+(1:Int)))))
 |.inr q=>some (.ret q)
def qR (OX:bj)(OY:bj)(OW:Ex):((List ap)×Int)->Option (Step ((List ap)×Int) ((List ap))):=λs=>match s with
 |(OV,i_2)=>bif i_2<(OX.facts.length:Int)then(ao (qU OX OY OW i_2) fuel (OV,(0:Int))).bind (ai6 i_2)else
 some (.exit (OV,i_2))
def Fe:Sum ((List ap)×Int) ((List ap))->Option (((List ap)))
 |.inl (OV,i_2)=>some OV
 |.inr q=>some q
def uX (OX:bj)(OY:bj)(OW:Ex):Option ((List ap)):=(ao (qR OX OY OW) fuel ([],(0:Int))).bind (Fe)
instance gJnd24_ok {OX : bj} {OY : bj} {OW : Ex} {r : (List ap)} : OkC (uX OX OY OW = some r) (PTz 57 [.agg (aW OX), .agg (aW OY), .agg (tE OW)] (.val (.one (.lst (r.map aH))))) := .mk λH => by
 unfold uX at H;rw[aC OW];refine po_ Tryz.func57 Tryz.ntmps57 ?_;refine a6 ?_;refine bS 7 3 rfl ?_;refine alM_ (λs:(List ap)×Int=>match s with|(OV,i_2)=>[(3,.one (.ptr 0 0)),(4,.one (.ptr 1 0)),(5,.one (.ptr 2 0)),(7,.one (.own (OV.map aH) 3)),(8,.one (.c (.int .i64 i_2)))]) (λs=>match s with|(OV,i_2)=>[.box [.c (.lst (OX.kinds.map (λx=>[AC.int .i64 x]))),.c (.lst (OX.facts.map aH))],.box [.c (.lst (OY.kinds.map (λx=>[AC.int .i64 x]))),.c (.lst (OY.facts.map aH))],.box [.c (.int .i64 OW.op),.c (.int .i64 OW.int),.c (.int .i64 OW.v.kind),.c (.int .i64 OW.v.int),.c (.str OW.v.text),.c (.str OW.nm),.c (.lst (OW.args.map tE))],.spare OV.length 3]) H (λ_=>aqL _)
  (fm_ bE [] rfl bm cm) ?_
 rintro⟨OV,i_2⟩ st3 Py R3;unfold qR at Py;dsimp only at Py ⊢;obtain⟨P9,Py⟩|⟨P9,Py⟩:=aj Py
 ·refine a6 ?_
  refine alM_ (λs:(List ap)×Int=>match s with|(QE,k_5)=>[(3,.one (.ptr 0 0)),(4,.one (.ptr 1 0)),(5,.one (.ptr 2 0)),(7,.one (.own (QE.map aH) 3)),(8,.one (.c (.int .i64 i_2))),(9,.one (.c (.int .i64 k_5)))]) (λs=>match s with|(QE,k_5)=>[.box [.c (.lst (OX.kinds.map (λx=>[AC.int .i64 x]))),.c (.lst (OX.facts.map aH))],.box [.c (.lst (OY.kinds.map (λx=>[AC.int .i64 x]))),.c (.lst (OY.facts.map aH))],.box [.c (.int .i64 OW.op),.c (.int .i64 OW.int),.c (.int .i64 OW.v.kind),.c (.int .i64 OW.v.int),.c (.str OW.v.text),.c (.str OW.nm),.c (.lst (OW.args.map tE))],.spare QE.length 3]) Py (λ_=>aqL _)
   (fm_ bE [] rfl bm cm) ?_
  rintro⟨QE,k_5⟩ st4 O4 hk4;unfold qU at O4;dsimp only at O4 ⊢;obtain⟨QG,O4⟩|⟨QG,O4⟩:=aj O4
  ·obtain⟨RE,Rw,i1,Ri,O4⟩:=br (f:=aH) O4
   obtain⟨R4,U0,i2,U2,O4⟩:=br (f:=aH) O4;obtain⟨Qw,c3,O4⟩:=bd_ O4;replace c3:=gConcatR_ok c3;obtain⟨P7,c4,O4⟩:=bd_ O4;replace c4:=gInter1_ok c4;obtain⟨QN,O4⟩|⟨QN,O4⟩:=aj O4
   ·obtain⟨PM,c5,O4⟩:=bd_ O4
    replace c5:=gTruthR11_ok c5
    try simp only[aqD,aqB,aqF,aqv,aC]at c5
    obtain⟨Q1,O4⟩|⟨Q1,O4⟩:=aj O4
    ·obtain⟨g6,O4⟩:=aL O4
     cases O4;refine a6 ?_;exact⟨_,rfl,fm_ sg [_] qG bm cm⟩
    cases O4;refine a6 ?_;exact⟨_,rfl,fm_ sg [_] qG bm cm⟩
   cases O4;refine a6 ?_;exact⟨_,rfl,fm_ sg [_] qG bm cm⟩
  exact bA O4 hk4
 exact bA Py R3
theorem ag7 {OX:bj}{OY:bj}{OW:Ex}{r:(List ap)}(H:uX OX OY OW=some r):RTz 57 [] [.agg [.c (.lst (OX.kinds.map (λx=>[AC.int .i64 x]))),.c (.lst (OX.facts.map aH))],.agg [.c (.lst (OY.kinds.map (λx=>[AC.int .i64 x]))),.c (.lst (OY.facts.map aH))],.agg [.c (.int .i64 OW.op),.c (.int .i64 OW.int),.c (.int .i64 OW.v.kind),.c (.int .i64 OW.v.int),.c (.str OW.v.text),.c (.str OW.nm),.c (.lst (OW.args.map tE))]] [.dead,.dead,.dead,.spare r.length 3] (.one (.own (r.map aH) 3)):=by
 unfold uX at H;refine be tab_ok Tryz.func57 rfl rfl Tryz.ntmps57 m5 ?_;simp only[eL];refine a6 ?_;refine bS 7 3 rfl ?_;refine alM_ (λs:(List ap)×Int=>match s with|(OV,i_2)=>[(3,.one (.ptr 0 0)),(4,.one (.ptr 1 0)),(5,.one (.ptr 2 0)),(7,.one (.own (OV.map aH) 3)),(8,.one (.c (.int .i64 i_2)))]) (λs=>match s with|(OV,i_2)=>[.box [.c (.lst (OX.kinds.map (λx=>[AC.int .i64 x]))),.c (.lst (OX.facts.map aH))],.box [.c (.lst (OY.kinds.map (λx=>[AC.int .i64 x]))),.c (.lst (OY.facts.map aH))],.box [.c (.int .i64 OW.op),.c (.int .i64 OW.int),.c (.int .i64 OW.v.kind),.c (.int .i64 OW.v.int),.c (.str OW.v.text),.c (.str OW.nm),.c (.lst (OW.args.map tE))],.spare OV.length 3]) H (λ_=>aqL _)
  (fm_ bE [] rfl bm cm) ?_
 rintro⟨OV,i_2⟩ st3 Py R3;unfold qR at Py;dsimp only at Py ⊢;obtain⟨P9,Py⟩|⟨P9,Py⟩:=aj Py
 ·refine a6 ?_
  refine alM_ (λs:(List ap)×Int=>match s with|(QE,k_5)=>[(3,.one (.ptr 0 0)),(4,.one (.ptr 1 0)),(5,.one (.ptr 2 0)),(7,.one (.own (QE.map aH) 3)),(8,.one (.c (.int .i64 i_2))),(9,.one (.c (.int .i64 k_5)))]) (λs=>match s with|(QE,k_5)=>[.box [.c (.lst (OX.kinds.map (λx=>[AC.int .i64 x]))),.c (.lst (OX.facts.map aH))],.box [.c (.lst (OY.kinds.map (λx=>[AC.int .i64 x]))),.c (.lst (OY.facts.map aH))],.box [.c (.int .i64 OW.op),.c (.int .i64 OW.int),.c (.int .i64 OW.v.kind),.c (.int .i64 OW.v.int),.c (.str OW.v.text),.c (.str OW.nm),.c (.lst (OW.args.map tE))],.spare QE.length 3]) Py (λ_=>aqL _)
   (fm_ bE [] rfl bm cm) ?_
  rintro⟨QE,k_5⟩ st4 O4 hk4;unfold qU at O4;dsimp only at O4 ⊢;obtain⟨QG,O4⟩|⟨QG,O4⟩:=aj O4
  ·obtain⟨RE,Rw,i1,Ri,O4⟩:=br (f:=aH) O4
   obtain⟨R4,U0,i2,U2,O4⟩:=br (f:=aH) O4;obtain⟨Qw,c3,O4⟩:=bd_ O4;replace c3:=gConcatR_ok c3;obtain⟨P7,c4,O4⟩:=bd_ O4;replace c4:=gInter1_ok c4;obtain⟨QN,O4⟩|⟨QN,O4⟩:=aj O4
   ·obtain⟨PM,c5,O4⟩:=bd_ O4
    replace c5:=gTruthR11_ok c5
    try simp only[aqD,aqB,aqF,aqv,aC]at c5
    obtain⟨Q1,O4⟩|⟨Q1,O4⟩:=aj O4
    ·obtain⟨g6,O4⟩:=aL O4
     cases O4;refine a6 ?_;exact⟨_,rfl,fm_ sg [_] qG bm cm⟩
    cases O4;refine a6 ?_;exact⟨_,rfl,fm_ sg [_] qG bm cm⟩
   cases O4;refine a6 ?_;exact⟨_,rfl,fm_ sg [_] qG bm cm⟩
  exact bA O4 hk4
 cases Py;have Sm:Fe (.inl (OV,i_2))=some _:=R3;unfold Fe at Sm;dsimp only at Sm
 cases Sm;refine aT 0 rfl rfl ?_;refine aT 1 rfl rfl ?_;refine aT 2 rfl rfl ?_;exact ana
def xO (OX:bj)(OY:bj)(OW:Ex)(PI:Int):((List ap)×Int)->Option (Step ((List ap)×Int) ((List ap))):=λs=>match s with
 |(OV,i_2)=>bif i_2<(OX.facts.length:Int)then(aF OX.facts i_2).bind λPK=>(pn PI).bind λPW=>(gp PK.row PW).bind λP1=>(EZ PK OY OW).bind λQk=>(ae1 [PK.valid] Qk).bind λQJ=>(kP P1 QJ).bind λQw=>bif OV.length+Qw.length<=3518437208883 then(some (.next ((OV++Qw),(i64.wrap (i_2+(1:Int))))))else none else
 some (.exit (OV,i_2))
def aiX:Sum ((List ap)×Int) ((List ap))->Option (((List ap)))
 |.inl (OV,i_2)=>some OV
 |.inr q=>some q
def EP (OX:bj)(OY:bj)(OW:Ex)(PI:Int):Option ((List ap)):=(ao (xO OX OY OW PI) fuel ([],(0:Int))).bind (aiX)
instance gAlo24_ok {OX : bj} {OY : bj} {OW : Ex} {PI : Int} {r : (List ap)} : OkC (EP OX OY OW PI = some r) (PTz 61 [.agg (aW OX), .agg (aW OY), .agg (tE OW), .one (.int .i64 PI)] (.val (.one (.lst (r.map aH))))) := .mk λH => by
 unfold EP at H;rw[aC OW];refine po_ Tryz.func61 Tryz.ntmps61 ?_;refine a6 ?_;refine bS 9 3 rfl ?_;refine alM_ (λs:(List ap)×Int=>match s with|(OV,i_2)=>[(3,.one (.c (.int .i64 PI))),(4,.one (.ptr 0 0)),(5,.one (.ptr 1 0)),(6,.one (.ptr 2 0)),(9,.one (.own (OV.map aH) 3)),(10,.one (.c (.int .i64 i_2)))]) (λs=>match s with|(OV,i_2)=>[.box [.c (.lst (OX.kinds.map (λx=>[AC.int .i64 x]))),.c (.lst (OX.facts.map aH))],.box [.c (.lst (OY.kinds.map (λx=>[AC.int .i64 x]))),.c (.lst (OY.facts.map aH))],.box [.c (.int .i64 OW.op),.c (.int .i64 OW.int),.c (.int .i64 OW.v.kind),.c (.int .i64 OW.v.int),.c (.str OW.v.text),.c (.str OW.nm),.c (.lst (OW.args.map tE))],.spare OV.length 3]) H (λ_=>aqL _)
  (fm_ bE [] rfl bm cm) ?_
 rintro⟨OV,i_2⟩ QF OU Pz;unfold xO at OU;dsimp only at OU ⊢;obtain⟨P9,OU⟩|⟨P9,OU⟩:=aj OU
 ·obtain⟨PK,Rw,i1,Ri,OU⟩:=br (f:=aH) OU
  obtain⟨PW,c2,OU⟩:=bd_ OU;replace c2:=gNullsR_ok c2;obtain⟨P1,c3,OU⟩:=bd_ OU;replace c3:=gConcatR_ok c3;obtain⟨Qk,c4,OU⟩:=bd_ OU;replace c4:=gMet24_ok c4
  try simp only[aqD,aqB,aqF,aqv,aC]at c4
  obtain⟨QJ,c5,OU⟩:=bd_ OU;replace c5:=gSub3_ok c5
  try simp only[aqD,aqB,aqF,aqv,aC]at c5
  obtain⟨Qw,c6,OU⟩:=bd_ OU;replace c6:=gDuring_ok c6;obtain⟨g7,OU⟩:=aL OU
  cases OU;refine a6 ?_;exact⟨_,rfl,fm_ sg [_] qG bm cm⟩
 exact bA OU Pz
def BB (OX:bj)(OY:bj)(OW:Ex):Option (bj):=(mR OX OY).bind λO7=>(uX OX OY OW).bind λQd=>(mj Qd).bind λPY=>some (⟨O7,PY⟩:bj)
instance gJoin24_ok {OX : bj} {OY : bj} {OW : Ex} {r : bj} : OkC (BB OX OY OW = some r) (PTz 19 [.agg (aW OX), .agg (aW OY), .agg (tE OW)] (.val (.agg (aW r)))) := .mk λH => by
 unfold BB at H;rw[aC OW];refine po_ Tryz.func19 Tryz.ntmps19 ?_;exact ay H
def Du (OX:bj)(OY:bj)(OW:Ex):Option (bj):=(uX OX OY OW).bind λO7=>(EP OX OY OW (OY.kinds.length:Int)).bind λQd=>bif O7.length+Qd.length<=3518437208883 then((mR OX OY).bind λPY=>(mj (O7++Qd)).bind λQm=>some (⟨PY,Qm⟩:bj))else none
theorem ag1 {OX:bj}{OY:bj}{OW:Ex}{r:bj}(H:Du OX OY OW=some r):PTz 21 [.agg (aW OX),.agg (aW OY),.agg (tE OW)] (.val (.agg (aW r))):=by
 unfold Du at H;rw[aC OW];refine po_ Tryz.func21 Tryz.ntmps21 ?_;obtain⟨O7,c1,H⟩:=bd_ H;replace c1:=ag7 c1
 try simp only[aqD,aqB,aqF,aqv,aC]at c1
 obtain⟨Qd,c2,H⟩:=bd_ H;replace c2:=gAlo24_ok c2
 try simp only[aqD,aqB,aqF,aqv,aC]at c2
 obtain⟨g3,H⟩:=aL H;obtain⟨PY,c4,H⟩:=bd_ H;replace c4:=gBoth24_ok c4;obtain⟨Qm,c5,H⟩:=bd_ H;replace c5:=gBagR_ok c5
 try simp only[aqD,aqB,aqF,aqv,aC]at c5
 cases H
 repeat' (first|rw[aqC]|(refine cJ [] rfl rfl rfl rfl c1 rfl ⟨rfl,List.nodup_nil,λi y hy=>by simp at hy,λx hx=>(by cases hx),lN rfl⟩ rfl rfl ?_)|refine aN rfl rfl rfl rfl c2 rfl ?_|refine aN rfl rfl rfl rfl c4 rfl ?_|refine aN rfl rfl rfl rfl c5 rfl ?_|refine gv_ alW ajU ?_|(refine gi_ (λhb=>?_) (λhb=>?_)<;>(try exact(fx_ hb).elim))|fail)
 exact⟨.inr rfl,bg rfl (by repeat' (first|exact t7|rfl|exact aqA rfl|omega|apply And.intro)) rfl⟩
end
theorem agE (p q:ax):Dl p q=some (bif jY p q then(o8 p q,true)else(⟨0,0⟩,false)):=by
 unfold Dl ahX jY;rw[show cG p=gPV p from rfl,show cG q=gPV q from rfl,iN,iN,aqo];have hi:(⟨EE p.lo q.lo,mnI p.hi q.hi⟩:ax)=o8 p q:=by rw[Cc,abF];rfl
 cases aw p with
 |false=>rfl
 |true =>
  rw[aqs,aqo]
  cases aw q with
  |false=>rfl
  |true =>
   rw[aqs]
   cases h1:decide (p.lo<q.hi)with
   |false=>rfl
   |true =>
    rw[aqs,aqo]
    cases h2:decide (q.lo<p.hi)with
    |false=>rfl
    |true=>rw[Bool.not_true,aqr,hi];rfl
theorem afG (e:Ex)(row:List Val):decide (tF_ (Db e row)=2)=iz e row:=rfl
section
variable {a b:bj} {e:Ex}
theorem OA (h:EC a b e){x:ap}(hx:x.row.length<=48):EZ x b e=some (ES (cT e) b.facts x):=by
 have hl:=acP (cT e) b.facts x;have TB:=h.lb;unfold EZ;rw[cn (l:=b.facts) (λy=>bif cT e x y then [y.valid]else []) 8796093022208 ?_ ?_ (by unfold fuel;omega) [] (by show([]:List ax).length+(ES (cT e) b.facts x).length<=_;simp;omega)]
 ·rfl
 ·intro s i y hy hs
  have hi:=(aqp.1 hy).1;have hyk:=h.B.row y (aqw hy);have:=h.B.kinds;unfold FA;dsimp only;rw[aO hy,aqs,gn_ hy,aqo,gR m0,aqo,mP h.he,aqo,wrapN m0,afG];unfold cT at hs ⊢
  cases hc:iz e (x.row++y.row)with
  |false=>rw[aqr,aqr,aqZ]
  |true =>
   rw[hc]at hs;rw[aqs,aqu (show s.length+1<=8796093022208 from hs)];rfl
 ·intro s
  unfold FA;dsimp only;rw[lF_];rfl
theorem N7 (h:EC a b e):uX a b e=some (uB e a.facts b.facts):=by
 have YL:=h.la;have TB:=h.lb;have WR:=po e h.la h.lb;unfold uX;rw[cn (l:=a.facts) (jnX e b.facts) 1000000 ?_ ?_ (by unfold fuel;omega) [] (by show([]:List ap).length+(uB e a.facts b.facts).length<=_;simp;omega)]
 ·rfl
 ·intro s i x hx hs
  have hi:=(aqp.1 hx).1;have YT:=h.A.row x (aqw hx);have:=h.A.kinds;unfold qR;dsimp only;rw[aO hx,aqs,cn (l:=b.facts) (jnY e x) 1000000 ?_ ?_ (by unfold fuel;omega) s hs,aqo]
  ·show some (Step.next (_,i64.wrap ((i:Int)+1)))=_
   rw[wrapN m0];rfl
  ·intro s j y hy hs
   have hj:=(aqp.1 hy).1;have hyk:=h.B.row y (aqw hy);have:=h.B.kinds;unfold qU;dsimp only;rw[aO hy,aqs,gn_ hx,aqo,gn_ hy,aqo,gR m0,aqo,agE,aqo,wrapN m0];unfold jnY cT at hs ⊢
   cases ho:jY x.valid y.valid with
   |false=>rw[aqr,aqr,Bool.false_and,aqr,aqZ]
   |true =>
    rw[ho]at hs;rw[aqs,aqs,aqY,mP h.he,aqo,afG]
    cases hc:iz e (x.row++y.row)with
    |false=>rw[aqr,aqr,aqZ]
    |true =>
     rw[hc]at hs;have hs:s.length+1<=1000000:=hs;rw[aqs,aqs,aqu (show s.length+1<=3518437208883 by omega)];rfl
  ·intro s
   unfold qU;dsimp only;rw[lF_];rfl
 ·intro s
  unfold qR;dsimp only;rw[lF_];rfl
theorem aj_ (l m:List ax)(hl:l.length<=10000)(hm:m.length<=10000):ae1 l m=some (ii (λp q=>p && !q) l m (kN l m) []):=by
 unfold ae1 FC;rw[aqu hl,aqu hm,show v8 3=λp q=>p && !q from funext λp=>funext λq=>afW p q];rfl
theorem Oc (h:EC a b e){n:Nat}(hn:n<=48):EP a b e ((n:Nat):Int)=some (lT e n a.facts b.facts):=by
 have YL:=h.la;have TB:=h.lb;have P4:=pM e n h.la h.lb h.A.per;unfold EP;rw[cn (l:=a.facts) (alX e n b.facts) 1000000 ?_ ?_ (by unfold fuel;omega) [] (by show([]:List ap).length+(lT e n a.facts b.facts).length<=_;simp;omega)]
 ·rfl
 ·intro s i x hx hs
  have hi:=(aqp.1 hx).1;have Vo:=aqw hx;have YT:=h.A.row x Vo;have:=h.A.kinds;have hml:=acP (cT e) b.facts x;have Zx:=Br (c:=cT e) (b:=b.facts) (h.A.per x Vo);unfold xO;dsimp only;rw[aO hx,aqs,gn_ hx,aqo,uc hn,aqo,gR (by rw[List.length_replicate];omega),aqo,OA h m0,aqo,aj_ _ _ m5 m0,aqo];show((kP (x.row++List.replicate n bK) (hU (cT e) b.facts x)).bind _)=_;rw[sn _ _ m0,aqo,wrapN m0];show(bif decide (s.length+(alX e n b.facts x).length<=3518437208883)then _ else none)=_;rw[aqu m0];rfl
 ·intro s
  unfold xO;dsimp only;rw[lF_];rfl
theorem Kz (h:a.kinds.length+b.kinds.length<=1000000):mR a b=some (a.kinds++b.kinds):=by
 unfold mR;rw[aqu (show a.kinds.length<=17592186044416 by omega),aqu (show a.kinds.length+b.kinds.length<=17592186044416 by omega)];rfl
theorem agy (h:EC a b e):BB a b e=some ⟨a.kinds++b.kinds,canon (uB e a.facts b.facts)⟩:=by
 unfold BB;rw[Kz (by have:=h.kab;omega),aqo,N7 h,aqo,gF (f9 h)];rfl
theorem agu (h:EC a b e):Du a b e=some ⟨a.kinds++b.kinds,canon (uB e a.facts b.facts++lT e b.kinds.length a.facts b.facts)⟩:=by
 have h1:=po e h.la h.lb;have h2:=pM e b.kinds.length h.la h.lb h.A.per;unfold Du;rw[N7 h,aqo,Oc h h.B.kinds,aqo,aqu m0,aqs,Kz (by have:=h.kab;omega),aqo,gF (lq h)];rfl
theorem akq (h:EC a b e):ue ⟨a.kinds++b.kinds,canon (uB e a.facts b.facts)⟩ ⟨a.kinds++b.kinds,canon (uB e a.facts b.facts)⟩=some true:=pG (by have:=h.kab;rw[aqy];omega) (bH (f9 h))
end
noncomputable section
def xg (OX:bj)(OY:bj)(OW:Ex):Option (Bool):=(iD OX OY OW).bind λO7=>bif (!O7)then some (true)else
 (nQ OX OY OW).bind λQm=>(BB OX OY OW).bind λPW=>(ue Qm PW).bind λP1=>bif P1 then(o7 OX OY OW).bind λQJ=>(Du OX OY OW).bind λQw=>(ue QJ Qw).bind λP7=>bif P7 then some (true)else
 some false else
 some false
instance gLawJoins_ok {OX : bj} {OY : bj} {OW : Ex} {r : Bool} : OkC (xg OX OY OW = some r) (PTz 4 [.agg (aW OX), .agg (aW OY), .agg (tE OW)] (.val (.one (.bool r)))) := .mk λH => by
 unfold xg at H;rw[aC OW];refine po_ Tryz.func4 Tryz.ntmps4 ?_;obtain⟨O7,c1,H⟩:=bd_ H;replace c1:=gJoins24_ok c1
 try simp only[aqD,aqB,aqF,aqv,aC]at c1
 obtain⟨Qr,H⟩|⟨Qr,H⟩:=aj H
 ·have UA:=Aw.awake_pure
  try simp only[aqD,aqB,aqF,aqv,aC]at UA
  exact ay H
 obtain⟨Qm,c2,H⟩:=bd_ H;replace c2:=q6 c2
 try simp only[aqD,aqB,aqF,aqv,aC]at c2
 obtain⟨PW,c3,H⟩:=bd_ H;replace c3:=gJoin24_ok c3
 try simp only[aqD,aqB,aqF,aqv,aC]at c3
 obtain⟨P1,c4,H⟩:=bd_ H;replace c4:=gAlike_ok c4;obtain⟨R_,H⟩|⟨R_,H⟩:=aj H
 ·obtain⟨QJ,c5,H⟩:=bd_ H
  replace c5:=sb c5
  try simp only[aqD,aqB,aqF,aqv,aC]at c5
  obtain⟨Qw,c6,H⟩:=bd_ H;replace c6:=ag1 c6
  try simp only[aqD,aqB,aqF,aqv,aC]at c6
  obtain⟨P7,c7,H⟩:=bd_ H;replace c7:=gAlike_ok c7;obtain⟨QN,H⟩|⟨QN,H⟩:=aj H
  ·have Wh:=Aw.awake_pure
   try simp only[aqD,aqB,aqF,aqv,aC]at Wh
   exact ay H
  exact ay H
 exact ay H
end
theorem KI (a b:bj)(e:Ex):xg a b e=some true:=by
 obtain⟨c,hc,Qy⟩:=hY a b e;unfold xg;rw[hc,aqo]
 cases c with
 |false=>rfl
 |true =>
  have h:=Qy rfl;have hk:(a.kinds++b.kinds).length<=1000000:=by have:=h.kab;rw[aqy];omega
  rw[Bool.not_true,aqr,qK h,aqo,agy h,aqo,akq h,aqo,aqs,rO h,aqo,agu h,aqo,pG hk (bH (lq h))];rfl
theorem Hq {a b:bj}{e:Ex}(q0:mg a)(q1:mg b)(q2:Az e):PTz 4 [.agg (aW a),.agg (aW b),.agg (tE e)] (.val (.one (.bool true))):=gLawJoins_ok (KI a b e)
