/- Parts. No condition. -/
import Derived.Test.YtdkmoemdipgikaaGreatDoorKBL
set_option maxHeartbeats 8000000
set_option maxRecDepth 100000
set_option linter.unusedSimpArgs false
set_option linter.unusedVariables false
namespace Go.Proofs.YtdkmoemdipgikaaGreatDoor
open _root_.ByteArray (empty)
open IntKind (i64)
open Go.RowKit Go.MapKept
def jO (a_e:Ex)(a_row:(List Val))(rec:Ex->List Val->Option Val):((List Val)×Int)->Option (Step ((List Val)×Int) (Val)):=fun s=>match s with
 |(l_4,i_5)=>bif (decide (i_5<((a_e.args.length:Nat):Int)))then(aq a_e.args i_5).bind fun x_7=>(rec x_7 a_row).bind fun r_8=>bif (decide (l_4.length+1<=4398046511104))then(some (.next ((l_4++[r_8]),(i64.wrap (i_5+(1:Int))))))else none else
 some (.exit (l_4,i_5))
def gER_K (a_e:Ex)(a_row:(List Val)):Sum ((List Val)×Int) (Val)->Option ((Val))
 |.inl (l_4,i_5)=>bif (decide (a_e.op=(1:Int)))then(wJ a_e a_row).bind fun r_10=>some r_10 else
 bif (decide (a_e.op=(2:Int)))then(wJ a_e a_row).bind fun r_12=>some r_12 else
 bif (decide (a_e.op=(4:Int)))then(aq l_4 (0:Int)).bind fun x_14=>(eK x_14).bind fun r_15=>(Bv r_15).bind fun r_16=>(xg r_16).bind fun r_17=>some r_17 else
 bif (decide (a_e.op=(5:Int)))then(qN a_e.op l_4).bind fun r_19=>some r_19 else
 bif (decide (a_e.op=(6:Int)))then(qN a_e.op l_4).bind fun r_21=>some r_21 else
 bif (decide (a_e.op=(7:Int)))then(aq l_4 (0:Int)).bind fun x_23=>(aq l_4 (1:Int)).bind fun x_24=>(eD a_e.op x_23 x_24).bind fun r_25=>(xg r_25).bind fun r_26=>some r_26 else
 bif (decide (a_e.op=(8:Int)))then(aq l_4 (0:Int)).bind fun x_28=>(aq l_4 (1:Int)).bind fun x_29=>(eD a_e.op x_28 x_29).bind fun r_30=>(xg r_30).bind fun r_31=>some r_31 else
 bif (decide (a_e.op=(9:Int)))then(aq l_4 (0:Int)).bind fun x_33=>(aq l_4 (1:Int)).bind fun x_34=>(eD a_e.op x_33 x_34).bind fun r_35=>(xg r_35).bind fun r_36=>some r_36 else
 bif (decide (a_e.op=(10:Int)))then(aq l_4 (0:Int)).bind fun x_38=>(aq l_4 (1:Int)).bind fun x_39=>(eD a_e.op x_38 x_39).bind fun r_40=>(xg r_40).bind fun r_41=>some r_41 else
 bif (decide (a_e.op=(11:Int)))then(aq l_4 (0:Int)).bind fun x_43=>(aq l_4 (1:Int)).bind fun x_44=>(eD a_e.op x_43 x_44).bind fun r_45=>(xg r_45).bind fun r_46=>some r_46 else
 bif (decide (a_e.op=(12:Int)))then(aq l_4 (0:Int)).bind fun x_48=>(aq l_4 (1:Int)).bind fun x_49=>(eD a_e.op x_48 x_49).bind fun r_50=>(xg r_50).bind fun r_51=>some r_51 else
 bif (decide (a_e.op=(18:Int)))then(Hu l_4 (1:Int)).bind fun r_53=>bif (!r_53)then(dn ).bind fun r_55=>some r_55 else
 (aq l_4 (0:Int)).bind fun x_56=>(kS (i64.wrap (0-x_56.int))).bind fun r_57=>some r_57 else
 bif (decide (a_e.op=(19:Int)))then(pL a_e.op l_4).bind fun r_59=>some r_59 else
 bif (decide (a_e.op=(20:Int)))then(pL a_e.op l_4).bind fun r_61=>some r_61 else
 bif (decide (a_e.op=(21:Int)))then(aq l_4 (0:Int)).bind fun x_63=>(oE (decide (x_63.kind=(0:Int)))).bind fun r_64=>some r_64 else
 bif (decide (a_e.op=(22:Int)))then(oU a_e.op l_4).bind fun r_66=>some r_66 else
 bif (decide (a_e.op=(23:Int)))then(oU a_e.op l_4).bind fun r_68=>some r_68 else
 bif (decide (a_e.op=(24:Int)))then(nf a_e.int l_4).bind fun r_70=>some r_70 else
 (Hu l_4 (1:Int)).bind fun r_71=>bif (!r_71)then(dn ).bind fun r_73=>some r_73 else
 (aq l_4 (0:Int)).bind fun x_74=>(aq l_4 (1:Int)).bind fun x_75=>(cD a_e.op x_74.int x_75.int).bind fun r_76=>some r_76
 |.inr q=>some q
def qZ (rec:Ex->List Val->Option Val)(a_e:Ex)(a_row:(List Val)):Option (Val):=(ew a_e).bind fun r_1=>bif (!r_1)then(dn ).bind fun r_3=>some r_3 else
 (ap (jO a_e a_row rec) fuel ([],(0:Int))).bind (gER_K a_e a_row)
theorem Nu {rec:Ex->List Val->Option Val}  (hrec:∀ {x:Ex} {y:List Val} {r:Val},rec x y=some r->PTz 69 [.agg (tE x),.one (.lst (y.map cV))] (.val (.agg (cV r)))){a_e:Ex}{a_row:(List Val)}{r:Val}(H:qZ rec a_e a_row=some r):PTz 69 [.agg (tE a_e),.one (.lst (a_row.map cV))] (.val (.agg (cV r))):=by
 unfold qZ at H;rw[aN a_e];refine po_ Tryz.func69 Tryz.ntmps69 ?_;obtain⟨r_1,c1,H⟩:=bd_ H;replace c1:=gFormedR_ok c1
 try simp only[amJ,amH,amL,amB,aN]at c1
 rcases af H with⟨q_2,H⟩|⟨q_2,H⟩
 ·exact ax H
 refine aX ?_;refine bK 5 3 rfl ?_;refine alM_ (fun s:(List Val)×Int=>match s with|(l_4,i_5)=>[(1,.one (.c (.lst (a_row.map cV)))),(2,.one (.ptr 0 0)),(4,.one (.ptr 1 0)),(5,.one (.own (l_4.map cV) 2)),(6,.one (.c (.int .i64 i_5)))]) (fun s=>match s with|(l_4,i_5)=>[.box [.c (.int .i64 a_e.op),.c (.int .i64 a_e.int),.c (.int .i64 a_e.v.kind),.c (.int .i64 a_e.v.int),.c (.str a_e.v.text),.c (.str a_e.nm),.c (.lst (a_e.args.map tE))],.box [.c (.int .i64 (0:Int)),.c (.int .i64 (0:Int)),.c (.str empty)],.spare l_4.length 3]) H (fun _=>amR _)
  (fm_ bH [] rfl a8 bZ) ?_
 rintro⟨l_4,i_5⟩ st1 hb1 hk1;unfold jO at hb1;dsimp only at hb1 ⊢;rcases af hb1 with⟨q_6,hb1⟩|⟨q_6,hb1⟩
 ·obtain⟨x_7,i3z,i3,i3x,hb1⟩:=aY (f:=tE) hb1
  simp only[amJ,amH,amL,amB,aN]at i3x;obtain⟨r_8,c4,hb1⟩:=bd_ hb1;replace c4:=hrec c4
  try simp only[amJ,amH,amL,amB,aN]at c4
  exact ag' hb1
 cases hb1;have hx1:gER_K a_e a_row (.inl (l_4,i_5))=some _:=hk1;unfold gER_K at hx1;dsimp only at hx1;refine aX ?_;rcases af hx1 with⟨q_9,hx1⟩|⟨q_9,hx1⟩
 ·exact ax hx1
 rcases af hx1 with⟨q_11,hx1⟩|⟨q_11,hx1⟩
 ·exact ax hx1
 rcases af hx1 with⟨q_13,hx1⟩|⟨q_13,hx1⟩
 ·exact ax hx1
 refine aX ?_;rcases af hx1 with⟨q_18,hx1⟩|⟨q_18,hx1⟩
 ·exact ax hx1
 rcases af hx1 with⟨q_20,hx1⟩|⟨q_20,hx1⟩
 ·exact ax hx1
 rcases af hx1 with⟨q_22,hx1⟩|⟨q_22,hx1⟩
 ·exact ax hx1
 refine aX ?_;rcases af hx1 with⟨q_27,hx1⟩|⟨q_27,hx1⟩
 ·exact ax hx1
 rcases af hx1 with⟨q_32,hx1⟩|⟨q_32,hx1⟩
 ·exact ax hx1
 rcases af hx1 with⟨q_37,hx1⟩|⟨q_37,hx1⟩
 ·exact ax hx1
 refine aX ?_;rcases af hx1 with⟨q_42,hx1⟩|⟨q_42,hx1⟩
 ·exact ax hx1
 rcases af hx1 with⟨q_47,hx1⟩|⟨q_47,hx1⟩
 ·exact ax hx1
 rcases af hx1 with⟨q_52,hx1⟩|⟨q_52,hx1⟩
 ·obtain⟨r_53,c38,hx1⟩:=bd_ hx1
  replace c38:=gAre_ok c38;refine aX ?_;exact ax hx1
 refine aX ?_;rcases af hx1 with⟨q_58,hx1⟩|⟨q_58,hx1⟩
 ·exact ax hx1
 rcases af hx1 with⟨q_60,hx1⟩|⟨q_60,hx1⟩
 ·exact ax hx1
 rcases af hx1 with⟨q_62,hx1⟩|⟨q_62,hx1⟩
 ·exact ax hx1
 refine aX ?_;rcases af hx1 with⟨q_65,hx1⟩|⟨q_65,hx1⟩
 ·exact ax hx1
 rcases af hx1 with⟨q_67,hx1⟩|⟨q_67,hx1⟩
 ·exact ax hx1
 rcases af hx1 with⟨q_69,hx1⟩|⟨q_69,hx1⟩
 ·exact ax hx1
 obtain⟨r_71,c49,hx1⟩:=bd_ hx1;replace c49:=gAre_ok c49;refine aX ?_;exact ax hx1
def gH:Nat->Ex->List Val->Option Val
 |0,_,_=>none
 |n+1,e,r=>qZ (gH n) e r
theorem Ea:∀ (n:Nat) {x:Ex} {y:List Val} {r:Val},gH n x y=some r->PTz 69 [.agg (tE x),.one (.lst (y.map cV))] (.val (.agg (cV r)))
 |0,_,_,_,h=>nomatch h
 |n+1,_,_,_,h=>Nu (Ea n) h
theorem adZ {l:List au}{x y:Int}(h:∀ p∈l,p.hi<=x)(hxy:x<y):kM l ⟨x,y⟩=eI l x y:=by
 rcases dY l with rfl|⟨m,q,rfl⟩
 ·rfl
 ·have hq:=h q m5
  rw[nl,g7];by_cases hx:q.hi=x
  ·rw[if_pos (by show x<=q.hi;omega),if_pos hx,F7,show max q.hi (⟨x,y⟩:au).hi=y by show max q.hi y=y;omega]
  ·rw[if_neg (by show ¬ x<=q.hi;omega),if_neg hx]
def px (kind:Int)(x y:Bool):Bool:=(Ak kind x y).getD false
theorem aaE (kind:Int)(x y:Bool):Ak kind x y=some (px kind x y):=by
 unfold px Ak
 cases decide (kind=1)<;>cases decide (kind=2)<;>cases decide (kind=3)<;>cases x<;>cases y<;>rfl
theorem abZ (x y:Bool):px 1 x y=(x&&y):=by cases x<;>cases y<;>rfl
theorem Nv (w:Bool->Bool->Bool)(a b:List au){p:List Int}{i:Nat}{x y:Int}(hx:p[i]?=some x)(hy:p[i+1]?=some y)(out:List au):fA w a b (p.drop i) out=fA w a b (p.drop (i+1)) (if w (cF a x) (cF b x)then eI out x y else out):=by
 obtain⟨h1,h2⟩:=amw.1 hx;obtain⟨h3,h4⟩:=amw.1 hy;rw[am2 h1,h2,am2 h3,h4,fA]
theorem aaG (w:Bool->Bool->Bool)(a b:List au){p:List Int}{i:Nat}(h:p.length<=i+1)(out:List au):fA w a b (p.drop i) out=out:=by
 have:(p.drop i).length<=1:=by rw[List.length_drop];omega
 match hq:p.drop i,this with
 |[],_=>rfl
 |[_],_=>rfl
def CT (kind:Int)(a b:List au)(p:List Int)(s:Nat×List au):Tm:=[(0,.one (.c (.int .i64 kind))),(1,.one (.c (LB a))),(2,.one (.c (LB b))),(8,.one (.c (.lst (p.map fun x=>[AC.int .i64 x])))),(9,.one (.own (s.2.map aH) 1)),(10,.one (.c (.int .i64 s.1)))]
theorem ye (kind:Int)(a b:List au)(p:List Int)(s:Nat×List au):eF 2 (CT kind a b p s):=⟨t7,t7,t7,t7,(by show 1<2;omega),t7,t7⟩
theorem ab4 (kind:Int)(a b:List au)(ha:a.length<=10000)(hb:b.length<=10000):PTz 133 [.one (.int .i64 kind),.one (LB a),.one (LB b)] (.val (.one (.lst ((fA (px kind) a b (iW a b) []).map aH)))):=by
 have hpts:=gPts3_ok (ac_ (⟨0,1099511627776⟩::(a++b)) m8);rw[show ub (⟨0,1099511627776⟩::(a++b)) []=iW a b from rfl,amH,amJ]at hpts;have hca:=fun t=>gCont3_ok (Dz a t m0)
 have hcb:=fun t=>gCont3_ok (Dz b t m0)
 have hwt:=fun x y=>gWant3_ok (aaE kind x y)
 have hpl:(iW a b).length<=100000:=by have:=Bt (⟨0,1099511627776⟩::(a++b)) [];unfold iW;simp at this ⊢;omega
 have hasc:(iW a b).Pairwise (· < ·):=zL _ List.Pairwise.nil;have hrg:∀ x∈iW a b,0<=x/\x<=1099511627776:=fun x hx=>by
  rcases(BF _ _ x).1 hx with h|⟨p,_,hp,h⟩
  ·cases h
  ·have:=iY hp;omega
 generalize iW a b=p at hpts hpl hasc hrg ⊢;have hlt2:∀ (i:Nat) x y,p[i]?=some x->p[i+1]?=some y->x<y:=fun i x y h1 h2=>by
  obtain⟨q1,q2⟩:=amw.1 h1;obtain⟨q3,q4⟩:=amw.1 h2;have:=List.pairwise_iff_getElem.1 hasc i (i+1) q1 q3 m0;omega
 generalize hR:fA (px kind) a b p []=R;refine pa_ fQ Tryz.func133 rfl rfl Tryz.ntmps133 m5 ?_;simp only[argT,PV.av,amH,amL]
 repeat' (first|refine aF rfl rfl rfl rfl hpts rfl ?_|refine gw_ fQ tV ?_|refine gi_ (fun hb=>?_) (fun hb=>?_)|fail)
 refine bK 9 2 rfl ?_;refine cK (CT kind a b p) (fun s=>[.spare (1+a.length+b.length) 2,.spare s.2.length 2]) (fun s=>1<=s.1/\s.1<=p.length+1/\fA (px kind) a b (p.drop (s.1-1)) s.2=R/\s.2.length<=s.1 /\ ∀ x,p[s.1-1]?=some x ->∀ q∈s.2,q.hi<=x) (fun s=>p.length+1-s.1) (1,[]) ⟨amM _,m5,by rw[Nat.sub_self,List.drop_zero];exact hR,m5,fun x _ q hq=>by cases hq⟩ (fun _ _=>amR _)
  (fm_ ⟨rfl,rfl,rfl,rfl,rfl,rfl,t7⟩ [] m5 (ye _ _ _ _ _) ⟨t7,t7,t7⟩) ?_
 rintro⟨i,out⟩ ⟨h1,h2,h3,h4,h5⟩;dsimp only at h1 h2 h3 h4 h5;obtain⟨i,rfl⟩:∃ j,i=j+1:=⟨i-1,m0⟩;rw[Nat.add_sub_cancel]at h3 h5;unfold CT;dsimp only;by_cases hlt:i+1<p.length
 ·obtain⟨y,hy⟩:=gol_ hlt
  obtain⟨x,hx⟩:=gol_ (l:=p) (i:=i) m0;have hxy:=hlt2 i x y hx hy;have hG:decide (((i+1:Nat):Int)<((p.length:Nat):Int))=true:=amA m0;have hw1:i64.wrap (((i+1:Nat):Int)-1)=((i:Nat):Int):=aS m0 m0;have hcax:=hca x;have hcbx:=hcb x;have hwx:=hwt (cF a x) (cF b x);have hjn:=zm out ⟨x,y⟩ m0;have hadd:=adZ (h5 x hx) hxy;have hrx:=hrg x (amC hx);have hry:=hrg y (amC hy);have h5y:∀ q∈eI out x y,q.hi<=y:=fun q hq=>by
   rw[<- hadd]at hq;rcases dY out with ho|⟨m,r,ho⟩
   ·rw[ho,BK]at hq
    rw[am'.1 hq];exact Int.le_refl _
   ·have hm:=h5 x hx
    rw[ho]at hq hm;have hr:=hm r m5;rw[nl]at hq;split at hq
    ·rcases amY.1 hq with hq|hq
     ·have:=hm q (by simp[hq]);omega
     ·rw[am'.1 hq];show Gk r.hi y<=y;rw[F7];omega
    ·rcases amY.1 hq with hq|hq
     ·have:=hm q hq;omega
     ·rw[am'.1 hq];exact Int.le_refl _
  have hlen:=Jc out ⟨x,y⟩;rw[Nv _ a b hx hy]at h3;rw[hadd]at hjn hlen
  cases hk:px kind (cF a x) (cF b x)with
  |false =>
   rw[hk]at hwx h3;rw[if_neg m5]at h3
   repeat' (first|rw[amI]|rw[hG]|rw[hw1]|(refine aZ rfl rfl rfl rfl rfl rfl rfl rfl (aU hx) ?_ ?_;· exact⟨m0,rfl⟩)|(refine aZ rfl rfl rfl rfl rfl rfl rfl rfl (aU hy) ?_ ?_;· exact⟨m0,rfl⟩)|refine aF rfl rfl rfl rfl hcax rfl ?_|refine aF rfl rfl rfl rfl hcbx rfl ?_|refine aF rfl rfl rfl rfl hwx rfl ?_|refine gw_ fQ tV ?_|refine gi_ (fun hb=>?_) (fun hb=>?_)|fail)
   exact⟨(i+2,out),⟨by show 1<=i+2;omega,by show i+2<=_;omega,h3,by show out.length<=i+2;omega,fun z hz q hq=>by
    have hz:p[i+1]?=some z:=hz;rw[hy]at hz;injection hz with hz;subst hz
    have:=h5 x hx q hq;omega⟩,by show p.length+1-(i+2)<p.length+1-(i+1);omega,fm_ ⟨rfl,rfl,rfl,rfl,rfl,aM (show i64.wrap (((i+1:Nat):Int)+1)=((i+2:Nat):Int)from aS m0 m0),t7⟩ [] rfl (ye _ _ _ _ _) ⟨t7,t7,t7⟩⟩
  |true =>
   rw[hk]at hwx h3;rw[if_pos rfl]at h3
   repeat' (first|rw[amI]|rw[hG]|rw[hw1]|(refine Fp rfl rfl rfl rfl (by rw[amI];rfl) hjn ?_)|(refine Aq 1 2 [(0,.one (.c (.int .i64 kind))),(1,.one (.c (LB a))),(2,.one (.c (LB b))),(8,.one (.c (.lst (p.map fun x=>[AC.int .i64 x])))),(9,.one (.own ((eI out x y).map aH) 1)),(10,.one (.c (.int .i64 ((i+1:Nat):Int))))] (amR _) m0 rfl (by intro z hz;simp at hz;subst hz;trivial) (by intro z hz;simp only[amN,List.not_mem_nil,or_false]at hz;rcases hz with rfl|rfl|rfl|rfl|rfl|rfl;exact .inl ⟨rfl,t7⟩;exact .inl ⟨rfl,t7⟩;exact .inl ⟨rfl,t7⟩;exact .inl ⟨rfl,t7⟩;exact .inr ⟨_,rfl,rfl⟩;exact .inl ⟨rfl,t7⟩) ?_)|(refine aZ rfl rfl rfl rfl rfl rfl rfl rfl (aU hx) ?_ ?_;· exact⟨m0,rfl⟩)|(refine aZ rfl rfl rfl rfl rfl rfl rfl rfl (aU hy) ?_ ?_;· exact⟨m0,rfl⟩)|refine aF rfl rfl rfl rfl hcax rfl ?_|refine aF rfl rfl rfl rfl hcbx rfl ?_|refine aF rfl rfl rfl rfl hwx rfl ?_|refine gw_ fQ tV ?_|refine gi_ (fun hb=>?_) (fun hb=>?_)|fail)
   exact⟨(i+2,eI out x y),⟨by show 1<=i+2;omega,by show i+2<=_;omega,h3,by show(eI out x y).length<=i+2;omega,fun z hz q hq=>by
    have hz:p[i+1]?=some z:=hz;rw[hy]at hz;injection hz with hz;subst hz
    exact h5y q hq⟩,by show p.length+1-(i+2)<p.length+1-(i+1);omega,fm_ ⟨rfl,rfl,rfl,rfl,rfl,aM (show i64.wrap (((i+1:Nat):Int)+1)=((i+2:Nat):Int)from aS m0 m0),t7⟩ [] m5 (ye _ _ _ _ _) ⟨t7,t7,t7⟩⟩
 ·have hG:decide (((i+1:Nat):Int)<((p.length:Nat):Int))=false:=amz m0
  rw[aaG _ a b m0]at h3;subst h3
  repeat' (first|rw[amI]|rw[hG]|rw[hw1]|refine gw_ fQ tV ?_|refine gi_ (fun hb=>?_) (fun hb=>?_)|fail)
  refine⟨.inr rfl,?_⟩
  first|exact⟨t7,rfl⟩|exact⟨⟨t7,t7⟩,rfl⟩|(refine⟨?_,rfl⟩;repeat' (first|exact t7|rfl|apply And.intro))
noncomputable def vA (kind:Int)(a b:List au):Option (List au):=bif decide (a.length<=10000)&&decide (b.length<=10000)then some (fA (px kind) a b (iW a b) [])else none
theorem uT {kind:Int}{a b r:List au}(H:vA kind a b=some r):PTz 133 [.one (.int .i64 kind),.one (.lst (a.map aH)),.one (.lst (b.map aH))] (.val (.one (.lst (r.map aH)))):=by
 unfold vA at H;obtain⟨g,H⟩:=iD H;obtain rfl:=am3 H;rw[amO]at g;exact ab4 kind a b (amZ g.1) (amZ g.2)
def mC (a_l:(List Int))(a_kind:Int):(Int)->Option (Step (Int) (Bool)):=fun s=>match s with
 |i_1=>bif (decide (i_1<((a_l.length:Nat):Int)))then(aq a_l i_1).bind fun x_3=>bif (decide (x_3≠a_kind))then bif (decide (x_3≠(0:Int)))then some (.ret false)else
 some (.next (i64.wrap (i_1+(1:Int))))else
 some (.next (i64.wrap (i_1+(1:Int))))else
 some (.exit i_1)
def acz:Sum (Int) (Bool)->Option ((Bool))
 |.inl i_1=>some true
 |.inr q=>some q
def fg (a_l:(List Int))(a_kind:Int):Option (Bool):=(ap (mC a_l a_kind) fuel (0:Int)).bind (acz)
instance gAll11_ok {a_l : (List Int)} {a_kind : Int} {r : Bool} : OkC (fg a_l a_kind = some r) (PTz 223 [.one (.lst (a_l.map (fun x => [AC.int .i64 x]))), .one (.int .i64 a_kind)] (.val (.one (.bool r)))) := .mk fun H => by
 unfold fg at H;refine po_ Tryz.func223 Tryz.ntmps223 ?_;refine aX ?_;refine alM_ (fun s:Int=>match s with|i_1=>[(0,.one (.c (.lst (a_l.map (fun x=>[AC.int .i64 x]))))),(1,.one (.c (.int .i64 a_kind))),(5,.one (.c (.int .i64 i_1)))]) (fun s=>match s with|i_1=>[]) H (fun _=>amR _)
  (fm_ bH [] rfl a8 trivial) ?_
 rintro i_1 st1 hb1 hk1;unfold mC at hb1;dsimp only at hb1 ⊢;rcases af hb1 with⟨q_2,hb1⟩|⟨q_2,hb1⟩
 ·obtain⟨x_3,i1z,i1,i1x,hb1⟩:=aY (f:=(fun x=>[AC.int .i64 x])) hb1
  rcases af hb1 with⟨q_4,hb1⟩|⟨q_4,hb1⟩
  ·rcases af hb1 with⟨q_5,hb1⟩|⟨q_5,hb1⟩
   ·exact cL hb1 hk1
   cases hb1;refine aX ?_;exact⟨_,rfl,fm_ bH [] rfl a8 trivial⟩
  cases hb1;refine aX ?_;exact⟨_,rfl,fm_ bH [] rfl a8 trivial⟩
 exact cL hb1 hk1
def kD (a_l:(List Int)):(Int×Int)->Option (Step (Int×Int) (Int×Bool)):=fun s=>match s with
 |(k_1,i_2)=>bif (decide (i_2<((a_l.length:Nat):Int)))then(aq a_l i_2).bind fun x_4=>bif (decide (x_4=(0:Int)))then some (.next (k_1,(i64.wrap (i_2+(1:Int)))))else
 bif (decide (k_1≠(0:Int)))then bif (decide (k_1≠x_4))then some (.ret ((0:Int),false))else
 some (.next (x_4,(i64.wrap (i_2+(1:Int)))))else
 some (.next (x_4,(i64.wrap (i_2+(1:Int)))))else
 some (.exit (k_1,i_2))
def L_:Sum (Int×Int) (Int×Bool)->Option ((Int×Bool))
 |.inl (k_1,i_2)=>some (k_1,true)
 |.inr q=>some q
def fR (a_l:(List Int)):Option (Int×Bool):=(ap (kD a_l) fuel ((0:Int),(0:Int))).bind (L_)
instance gJoin11_ok {a_l : (List Int)} {r : Int × Bool} : OkC (fR a_l = some r) (PTz 224 [.one (.lst (a_l.map (fun x => [AC.int .i64 x])))] (.tup [.one (.int .i64 r.1), .one (.bool r.2)])) := .mk fun H => by
 unfold fR at H;refine po_ Tryz.func224 Tryz.ntmps224 ?_;refine aX ?_;refine alM_ (fun s:Int×Int=>match s with|(k_1,i_2)=>[(0,.one (.c (.lst (a_l.map (fun x=>[AC.int .i64 x]))))),(4,.one (.c (.int .i64 k_1))),(5,.one (.c (.int .i64 i_2)))]) (fun s=>match s with|(k_1,i_2)=>[]) H (fun _=>amR _)
  (fm_ bH [] rfl a8 trivial) ?_
 rintro⟨k_1,i_2⟩ st1 hb1 hk1;unfold kD at hb1;dsimp only at hb1 ⊢;rcases af hb1 with⟨q_3,hb1⟩|⟨q_3,hb1⟩
 ·obtain⟨x_4,i1z,i1,i1x,hb1⟩:=aY (f:=(fun x=>[AC.int .i64 x])) hb1
  rcases af hb1 with⟨q_5,hb1⟩|⟨q_5,hb1⟩
  ·cases hb1
   refine aX ?_;exact⟨_,rfl,fm_ bH [] rfl a8 trivial⟩
  rcases af hb1 with⟨q_6,hb1⟩|⟨q_6,hb1⟩
  ·rcases af hb1 with⟨q_7,hb1⟩|⟨q_7,hb1⟩
   ·exact cL hb1 hk1
   cases hb1;refine aX ?_;exact⟨_,rfl,fm_ bH [] rfl a8 trivial⟩
  cases hb1;refine aX ?_;exact⟨_,rfl,fm_ bH [] rfl a8 trivial⟩
 exact cL hb1 hk1
def gRs11 (a_e:Ex)(a_l:(List Int))(a_kinds:(List Int)):Option (Int×Bool):=bif (decide (a_e.op=(1:Int)))then some (a_e.v.kind,true)else
 bif (decide (a_e.op=(2:Int)))then(aq a_kinds a_e.int).bind fun x_3=>some (x_3,true)else
 bif (decide (a_e.op=(4:Int)))then(fg a_l (3:Int)).bind fun r_5=>some ((3:Int),r_5)else
 bif (decide (a_e.op=(5:Int)))then(fg a_l (3:Int)).bind fun r_7=>some ((3:Int),r_7)else
 bif (decide (a_e.op=(6:Int)))then(fg a_l (3:Int)).bind fun r_9=>some ((3:Int),r_9)else
 bif (decide (a_e.op=(7:Int)))then(fR a_l).bind fun r_11=>some ((3:Int),r_11.2)else
 bif (decide (a_e.op=(8:Int)))then(fR a_l).bind fun r_13=>some ((3:Int),r_13.2)else
 bif (decide (a_e.op=(9:Int)))then(fR a_l).bind fun r_15=>some ((3:Int),r_15.2)else
 bif (decide (a_e.op=(10:Int)))then(fR a_l).bind fun r_17=>some ((3:Int),r_17.2)else
 bif (decide (a_e.op=(11:Int)))then(fR a_l).bind fun r_19=>some ((3:Int),r_19.2)else
 bif (decide (a_e.op=(12:Int)))then(fR a_l).bind fun r_21=>some ((3:Int),r_21.2)else
 bif (decide (a_e.op=(13:Int)))then(fg a_l (1:Int)).bind fun r_23=>some ((1:Int),r_23)else
 bif (decide (a_e.op=(14:Int)))then(fg a_l (1:Int)).bind fun r_25=>some ((1:Int),r_25)else
 bif (decide (a_e.op=(15:Int)))then(fg a_l (1:Int)).bind fun r_27=>some ((1:Int),r_27)else
 bif (decide (a_e.op=(16:Int)))then(fg a_l (1:Int)).bind fun r_29=>some ((1:Int),r_29)else
 bif (decide (a_e.op=(17:Int)))then(fg a_l (1:Int)).bind fun r_31=>some ((1:Int),r_31)else
 bif (decide (a_e.op=(18:Int)))then(fg a_l (1:Int)).bind fun r_33=>some ((1:Int),r_33)else
 bif (decide (a_e.op=(19:Int)))then(fg a_l (2:Int)).bind fun r_35=>some ((2:Int),r_35)else
 bif (decide (a_e.op=(20:Int)))then(fg a_l (2:Int)).bind fun r_37=>some ((1:Int),r_37)else
 bif (decide (a_e.op=(21:Int)))then some ((3:Int),true)else
 bif (decide (a_e.op=(22:Int)))then(fM a_l (1:Int) ((a_l.length:Nat):Int)).bind fun s_40=>(fR s_40).bind fun r_41=>bif r_41.2 then(fM a_l (0:Int) (1:Int)).bind fun s_43=>(fg s_43 (3:Int)).bind fun r_44=>some (r_41.1,r_44)else
 some (r_41.1,false)else
 bif (decide (a_e.op=(23:Int)))then(fR a_l).bind fun r_46=>some (r_46.1,r_46.2)else
 (fg a_l (1:Int)).bind fun r_47=>some ((3:Int),r_47)
instance gResult11_ok {a_e : Ex} {a_l : (List Int)} {a_kinds : (List Int)} {r : Int × Bool} : OkC (gRs11 a_e a_l a_kinds = some r) (PTz 197 [.agg (tE a_e), .one (.lst (a_l.map (fun x => [AC.int .i64 x]))), .one (.lst (a_kinds.map (fun x => [AC.int .i64 x])))] (.tup [.one (.int .i64 r.1), .one (.bool r.2)])) := .mk fun H => by
 unfold gRs11 at H;rw[aN a_e];refine po_ Tryz.func197 Tryz.ntmps197 ?_;rcases af H with⟨q_1,H⟩|⟨q_1,H⟩
 ·exact ax H
 rcases af H with⟨q_2,H⟩|⟨q_2,H⟩
 ·exact ax H
 refine aX ?_;rcases af H with⟨q_4,H⟩|⟨q_4,H⟩
 ·exact ax H
 rcases af H with⟨q_6,H⟩|⟨q_6,H⟩
 ·exact ax H
 rcases af H with⟨q_8,H⟩|⟨q_8,H⟩
 ·exact ax H
 refine aX ?_;rcases af H with⟨q_10,H⟩|⟨q_10,H⟩
 ·exact ax H
 rcases af H with⟨q_12,H⟩|⟨q_12,H⟩
 ·exact ax H
 rcases af H with⟨q_14,H⟩|⟨q_14,H⟩
 ·exact ax H
 refine aX ?_;rcases af H with⟨q_16,H⟩|⟨q_16,H⟩
 ·exact ax H
 rcases af H with⟨q_18,H⟩|⟨q_18,H⟩
 ·exact ax H
 rcases af H with⟨q_20,H⟩|⟨q_20,H⟩
 ·exact ax H
 refine aX ?_;rcases af H with⟨q_22,H⟩|⟨q_22,H⟩
 ·exact ax H
 rcases af H with⟨q_24,H⟩|⟨q_24,H⟩
 ·exact ax H
 rcases af H with⟨q_26,H⟩|⟨q_26,H⟩
 ·exact ax H
 refine aX ?_;rcases af H with⟨q_28,H⟩|⟨q_28,H⟩
 ·exact ax H
 rcases af H with⟨q_30,H⟩|⟨q_30,H⟩
 ·exact ax H
 rcases af H with⟨q_32,H⟩|⟨q_32,H⟩
 ·exact ax H
 refine aX ?_;rcases af H with⟨q_34,H⟩|⟨q_34,H⟩
 ·exact ax H
 rcases af H with⟨q_36,H⟩|⟨q_36,H⟩
 ·exact ax H
 rcases af H with⟨q_38,H⟩|⟨q_38,H⟩
 ·exact ax H
 refine aX ?_;rcases af H with⟨q_39,H⟩|⟨q_39,H⟩
 ·obtain⟨s_40,u19,H⟩:=bd_ H
  obtain⟨⟨u19a,u19b,u19c⟩,u19⟩:=dq u19;have u19x:=xd (f:=(fun x=>[AC.int .i64 x])) u19;obtain⟨r_41,c20,H⟩:=bd_ H;replace c20:=gJoin11_ok c20;rcases af H with⟨q_42,H⟩|⟨q_42,H⟩
  ·obtain⟨s_43,u21,H⟩:=bd_ H
   obtain⟨⟨u21a,u21b,u21c⟩,u21⟩:=dq u21;have u21x:=xd (f:=(fun x=>[AC.int .i64 x])) u21;obtain⟨r_44,c22,H⟩:=bd_ H;replace c22:=gAll11_ok c22
   cases H
   repeat' (first|refine gs_ ?_|rw[u19x]|rw[u21x]|rw[show((0:Nat):Int)=0 from rfl])
   refine aJ (aO rfl ?_ ?_)
   ·repeat' (first|exact t7|rfl|exact amG rfl|omega|apply And.intro)
   ·first|rfl|(simp only[amJ,amH,amL,amB]<;>rfl)
  cases H
  repeat' (first|refine gs_ ?_|rw[u19x]|rw[show((0:Nat):Int)=0 from rfl])
  refine aJ (aO rfl ?_ ?_)
  ·repeat' (first|exact t7|rfl|exact amG rfl|omega|apply And.intro)
  ·first|rfl|(simp only[amJ,amH,amL,amB]<;>rfl)
 exact ax H
def gP (a_e:Ex)(rec:Ex->Option Int):(Int×Int)->Option (Step (Int×Int) (Int)):=fun s=>match s with
 |(n_1,i_2)=>bif (decide (i_2<((a_e.args.length:Nat):Int)))then(aq a_e.args i_2).bind fun x_4=>(rec x_4).bind fun r_5=>some (.next ((Gk n_1 r_5),(i64.wrap (i_2+(1:Int)))))else
 some (.exit (n_1,i_2))
def G8:Sum (Int×Int) (Int)->Option ((Int))
 |.inl (n_1,i_2)=>some (i64.wrap (n_1+(1:Int)))
 |.inr q=>some q
def mh (rec:Ex->Option Int)(a_e:Ex):Option (Int):=(ap (gP a_e rec) fuel ((0:Int),(0:Int))).bind (G8)
theorem G6 {rec:Ex->Option Int}  (hrec:∀ {x:Ex} {r:Int},rec x=some r->PTz 149 [.agg (tE x)] (.val (.one (.int .i64 r)))){a_e:Ex}{r:Int}(H:mh rec a_e=some r):PTz 149 [.agg (tE a_e)] (.val (.one (.int .i64 r))):=by
 unfold mh at H;rw[aN a_e];refine po_ Tryz.func149 Tryz.ntmps149 ?_;refine aX ?_;refine alM_ (fun s:Int×Int=>match s with|(n_1,i_2)=>[(1,.one (.ptr 0 0)),(3,.one (.c (.int .i64 n_1))),(4,.one (.c (.int .i64 i_2)))]) (fun s=>match s with|(n_1,i_2)=>[.box [.c (.int .i64 a_e.op),.c (.int .i64 a_e.int),.c (.int .i64 a_e.v.kind),.c (.int .i64 a_e.v.int),.c (.str a_e.v.text),.c (.str a_e.nm),.c (.lst (a_e.args.map tE))]]) H (fun _=>amR _)
  (fm_ bH [] rfl a8 bZ) ?_
 rintro⟨n_1,i_2⟩ st1 hb1 hk1;unfold gP at hb1;dsimp only at hb1 ⊢;rcases af hb1 with⟨q_3,hb1⟩|⟨q_3,hb1⟩
 ·obtain⟨x_4,i1z,i1,i1x,hb1⟩:=aY (f:=tE) hb1
  simp only[amJ,amH,amL,amB,aN]at i1x;obtain⟨r_5,c2,hb1⟩:=bd_ hb1;replace c2:=hrec c2
  try simp only[amJ,amH,amL,amB,aN]at c2
  cases hb1;refine aX ?_;exact⟨_,rfl,fm_ bH [] rfl a8 bZ⟩
 exact cL hb1 hk1
def iM:Nat->Ex->Option Int
 |0,_=>none
 |n+1,x=>mh (iM n) x
theorem pG:∀ (n:Nat) {x:Ex} {r:Int},iM n x=some r->PTz 149 [.agg (tE x)] (.val (.one (.int .i64 r)))
 |0,_,_,h=>nomatch h
 |n+1,_,_,h=>G6 (pG n) h
def jr (a_e:Ex)(a_kinds:(List Int))(rec:Ex->List Int->Option (Int×Int)):((List Int)×Int)->Option (Step ((List Int)×Int) (Int×Int)):=fun s=>match s with
 |(l_8,i_9)=>bif (decide (i_9<((a_e.args.length:Nat):Int)))then(aq a_e.args i_9).bind fun x_11=>(rec x_11 a_kinds).bind fun r_12=>bif (decide (r_12.2≠(0:Int)))then some (.ret ((0:Int),r_12.2))else
 bif (decide (l_8.length+1<=17592186044416))then(some (.next ((l_8++[r_12.1]),(i64.wrap (i_9+(1:Int))))))else none else
 some (.exit (l_8,i_9))
def Ha (a_e:Ex)(a_kinds:(List Int)):Sum ((List Int)×Int) (Int×Int)->Option ((Int×Int))
 |.inl (l_8,i_9)=>(gRs11 a_e l_8 a_kinds).bind fun r_14=>bif (!r_14.2)then some ((0:Int),(7:Int))else
 some (r_14.1,(0:Int))
 |.inr q=>some q
def cX (a_e:Ex)(a_kinds:(List Int))(rec:Ex->List Int->Option (Int×Int)):((List Int)×Int)->Option (Step ((List Int)×Int) (Int×Int)):=fun s=>match s with
 |(l_16,i_17)=>bif (decide (i_17<((a_e.args.length:Nat):Int)))then(aq a_e.args i_17).bind fun x_19=>(rec x_19 a_kinds).bind fun r_20=>bif (decide (r_20.2≠(0:Int)))then some (.ret ((0:Int),r_20.2))else
 bif (decide (l_16.length+1<=17592186044416))then(some (.next ((l_16++[r_20.1]),(i64.wrap (i_17+(1:Int))))))else none else
 some (.exit (l_16,i_17))
def uh (a_e:Ex)(a_kinds:(List Int)):Sum ((List Int)×Int) (Int×Int)->Option ((Int×Int))
 |.inl (l_16,i_17)=>(gRs11 a_e l_16 a_kinds).bind fun r_22=>bif (!r_22.2)then some ((0:Int),(7:Int))else
 some (r_22.1,(0:Int))
 |.inr q=>some q
def ni (rec:Ex->List Int->Option (Int×Int))(a_e:Ex)(a_kinds:(List Int)):Option (Int×Int):=(lI a_e.op).bind fun r_1=>bif (decide (r_1.1<(0:Int)))then some ((0:Int),(7:Int))else
 (ew a_e).bind fun r_3=>bif (!r_3)then some ((0:Int),(8:Int))else
 bif (decide (a_e.op=(2:Int)))then bif (decide (a_e.int<(0:Int)))then some ((0:Int),(13:Int))else
 bif (decide (((a_kinds.length:Nat):Int)<=a_e.int))then some ((0:Int),(13:Int))else
 (ap (jr a_e a_kinds rec) fuel ([],(0:Int))).bind (Ha a_e a_kinds)else
 (ap (cX a_e a_kinds rec) fuel ([],(0:Int))).bind (uh a_e a_kinds)
theorem FN {rec:Ex->List Int->Option (Int×Int)}  (hrec:∀ {x:Ex} {y:List Int} {r:Int×Int},rec x y=some r->PTz 150 [.agg (tE x),.one (.lst (y.map (fun x=>[AC.int .i64 x])))] (.tup [.one (.int .i64 r.1),.one (.int .i64 r.2)])){a_e:Ex}{a_kinds:(List Int)}{r:Int×Int}(H:ni rec a_e a_kinds=some r):PTz 150 [.agg (tE a_e),.one (.lst (a_kinds.map (fun x=>[AC.int .i64 x])))] (.tup [.one (.int .i64 r.1),.one (.int .i64 r.2)]):=by
 unfold ni at H;rw[aN a_e];refine po_ Tryz.func150 Tryz.ntmps150 ?_;obtain⟨r_1,c1,H⟩:=bd_ H;replace c1:=gArity_ok c1;rcases af H with⟨q_2,H⟩|⟨q_2,H⟩
 ·exact ax H
 obtain⟨r_3,c2,H⟩:=bd_ H;replace c2:=gFormedR_ok c2
 try simp only[amJ,amH,amL,amB,aN]at c2
 rcases af H with⟨q_4,H⟩|⟨q_4,H⟩
 ·exact ax H
 rcases af H with⟨q_5,H⟩|⟨q_5,H⟩
 ·rcases af H with⟨q_6,H⟩|⟨q_6,H⟩
  ·exact ax H
  rcases af H with⟨q_7,H⟩|⟨q_7,H⟩
  ·exact ax H
  refine aX ?_;refine bK 8 1 rfl ?_;refine alM_ (fun s:(List Int)×Int=>match s with|(l_8,i_9)=>[(1,.one (.c (.lst (a_kinds.map (fun x=>[AC.int .i64 x]))))),(2,.one (.ptr 0 0)),(8,.one (.own (l_8.map (fun x=>[AC.int .i64 x])) 1)),(9,.one (.c (.int .i64 i_9)))]) (fun s=>match s with|(l_8,i_9)=>[.box [.c (.int .i64 a_e.op),.c (.int .i64 a_e.int),.c (.int .i64 a_e.v.kind),.c (.int .i64 a_e.v.int),.c (.str a_e.v.text),.c (.str a_e.nm),.c (.lst (a_e.args.map tE))],.spare l_8.length 1]) H (fun _=>amR _)
   (fm_ bH [] rfl a8 bZ) ?_
  rintro⟨l_8,i_9⟩ st1 hb1 hk1;unfold jr at hb1;dsimp only at hb1 ⊢;rcases af hb1 with⟨q_10,hb1⟩|⟨q_10,hb1⟩
  ·obtain⟨x_11,i3z,i3,i3x,hb1⟩:=aY (f:=tE) hb1
   simp only[amJ,amH,amL,amB,aN]at i3x;obtain⟨r_12,c4,hb1⟩:=bd_ hb1;replace c4:=hrec c4
   try simp only[amJ,amH,amL,amB,aN]at c4
   exact cL hb1 hk1
  exact cL hb1 hk1
 refine aX ?_;refine bK 8 1 rfl ?_;refine alM_ (fun s:(List Int)×Int=>match s with|(l_16,i_17)=>[(1,.one (.c (.lst (a_kinds.map (fun x=>[AC.int .i64 x]))))),(2,.one (.ptr 0 0)),(8,.one (.own (l_16.map (fun x=>[AC.int .i64 x])) 1)),(9,.one (.c (.int .i64 i_17)))]) (fun s=>match s with|(l_16,i_17)=>[.box [.c (.int .i64 a_e.op),.c (.int .i64 a_e.int),.c (.int .i64 a_e.v.kind),.c (.int .i64 a_e.v.int),.c (.str a_e.v.text),.c (.str a_e.nm),.c (.lst (a_e.args.map tE))],.spare l_16.length 1]) H (fun _=>amR _)
  (fm_ bH [] rfl a8 bZ) ?_
 rintro⟨l_16,i_17⟩ st2 hb2 hk2;unfold cX at hb2;dsimp only at hb2 ⊢;rcases af hb2 with⟨q_18,hb2⟩|⟨q_18,hb2⟩
 ·obtain⟨x_19,i7z,i7,i7x,hb2⟩:=aY (f:=tE) hb2
  simp only[amJ,amH,amL,amB,aN]at i7x;obtain⟨r_20,c8,hb2⟩:=bd_ hb2;replace c8:=hrec c8
  try simp only[amJ,amH,amL,amB,aN]at c8
  exact cL hb2 hk2
 exact cL hb2 hk2
def fJ:Nat->Ex->List Int->Option (Int×Int)
 |0,_,_=>none
 |n+1,x,y=>ni (fJ n) x y
theorem qa:∀ (n:Nat) {x:Ex} {y:List Int} {r:Int×Int},fJ n x y=some r->PTz 150 [.agg (tE x),.one (.lst (y.map (fun x=>[AC.int .i64 x])))] (.tup [.one (.int .i64 r.1),.one (.int .i64 r.2)])
 |0,_,_,_,h=>nomatch h
 |n+1,_,_,_,h=>FN (qa n) h
noncomputable section
def mG (a_e:Ex)(a_row:(List Val)):Option (Int):=(gH (hgt a_e) a_e a_row).bind fun r_1=>(eK r_1).bind fun r_2=>some r_2
theorem Fh {a_e:Ex}{a_row:(List Val)}{r:Int}(H:mG a_e a_row=some r):PTz 40 [.agg (tE a_e),.one (.lst (a_row.map cV))] (.val (.one (.int .i64 r))):=by
 unfold mG at H;rw[aN a_e];refine po_ Tryz.func40 Tryz.ntmps40 ?_;obtain⟨r_1,c1,H⟩:=bd_ H;replace c1:=Ea _ c1
 try simp only[amJ,amH,amL,amB,aN]at c1
 obtain⟨r_2,c2,H⟩:=bd_ H;replace c2:=gTruth7_ok c2
 cases H;exact bV
def IR (a_a:(List au))(a_b:(List au)):Option ((List au)):=(vA (1:Int) a_a a_b).bind fun r_1=>some r_1
theorem afD {a_a:(List au)}{a_b:(List au)}{r:(List au)}(H:IR a_a a_b=some r):PTz 75 [.one (.lst (a_a.map aH)),.one (.lst (a_b.map aH))] (.val (.one (.lst (r.map aH)))):=by
 unfold IR at H;refine po_ Tryz.func75 Tryz.ntmps75 ?_;obtain⟨r_1,c1,H⟩:=bd_ H;replace c1:=uT c1
 cases H;exact bV
def uO (r_1:(List bI)):((List aw)×Int)->Option (Step ((List aw)×Int) ((List aw))):=fun s=>match s with
 |(out_2,i_3)=>bif (decide (i_3<((r_1.length:Nat):Int)))then(aq r_1 i_3).bind fun x_5=>(rV x_5.steps (1:Int)).bind fun r_6=>(ry x_5.row r_6).bind fun r_7=>bif (decide (out_2.length+r_7.length<=3518437208883))then(some (.next ((out_2++r_7),(i64.wrap (i_3+(1:Int))))))else none else
 some (.exit (out_2,i_3))
def zX:Sum ((List aw)×Int) ((List aw))->Option (((List aw)))
 |.inl (out_2,i_3)=>some out_2
 |.inr q=>some q
def uf (a_l:(List aw)):Option ((List aw)):=(fu a_l).bind fun r_1=>(ap (uO r_1) fuel ([],(0:Int))).bind (zX)
theorem J8 {a_l:(List aw)}{r:(List aw)}(H:uf a_l=some r):PTz 65 [.one (.lst (a_l.map aA))] (.val (.one (.lst (r.map aA)))):=by
 unfold uf at H;refine po_ Tryz.func65 Tryz.ntmps65 ?_;obtain⟨r_1,c1,H⟩:=bd_ H;replace c1:=gGroups22_ok c1;refine aX ?_;refine bK 4 3 rfl ?_;refine alM_ (fun s:(List aw)×Int=>match s with|(out_2,i_3)=>[(3,.one (.c (.lst (r_1.map fN)))),(4,.one (.own (out_2.map aA) 0)),(5,.one (.c (.int .i64 i_3)))]) (fun s=>match s with|(out_2,i_3)=>[.spare out_2.length 3]) H (fun _=>amR _)
  (fm_ bH [] rfl a8 bZ) ?_
 rintro⟨out_2,i_3⟩ st1 hb1 hk1;unfold uO at hb1;dsimp only at hb1 ⊢;rcases af hb1 with⟨q_4,hb1⟩|⟨q_4,hb1⟩
 ·obtain⟨x_5,i2z,i2,i2x,hb1⟩:=aY (f:=fN) hb1
  obtain⟨r_6,c3,hb1⟩:=bd_ hb1;replace c3:=AH c3;obtain⟨r_7,c4,hb1⟩:=bd_ hb1;replace c4:=gDuring_ok c4;obtain⟨g5,hb1⟩:=bo hb1
  cases hb1;refine aX ?_;exact⟨_,rfl,fm_ jb [] nk a8 bZ⟩
 cases hb1;have hx1:zX (.inl (out_2,i_3))=some _:=hk1;unfold zX at hx1;dsimp only at hx1
 cases hx1;exact bV
def nr (a_l:(List aw)):(Int)->Option (Step (Int) (Bool)):=fun s=>match s with
 |i_2=>bif (decide (i_2<((a_l.length:Nat):Int)))then(aq a_l i_2).bind fun x_4=>bif (decide ((60:Int)<((x_4.row.length:Nat):Int)))then some (.ret false)else
 some (.next (i64.wrap (i_2+(1:Int))))else
 some (.exit i_2)
def my:Sum (Int) (Bool)->Option ((Bool))
 |.inl i_2=>some true
 |.inr q=>some q
def zZ (a_l:(List aw))(a_most:Int):Option (Bool):=bif (decide (a_most<((a_l.length:Nat):Int)))then some false else
 (ap (nr a_l) fuel (0:Int)).bind (my)
theorem acf {a_l:(List aw)}{a_most:Int}{r:Bool}(H:zZ a_l a_most=some r):PTz 27 [.one (.lst (a_l.map aA)),.one (.int .i64 a_most)] (.val (.one (.bool r))):=by
 unfold zZ at H;refine po_ Tryz.func27 Tryz.ntmps27 ?_;rcases af H with⟨q_1,H⟩|⟨q_1,H⟩
 ·cases H
  exact bV
 refine aX ?_;refine alM_ (fun s:Int=>match s with|i_2=>[(0,.one (.c (.lst (a_l.map aA)))),(5,.one (.c (.int .i64 i_2)))]) (fun s=>match s with|i_2=>[]) H (fun _=>amR _)
  (fm_ bH [] rfl a8 trivial) ?_
 rintro i_2 st1 hb1 hk1;unfold nr at hb1;dsimp only at hb1 ⊢;rcases af hb1 with⟨q_3,hb1⟩|⟨q_3,hb1⟩
 ·obtain⟨x_4,i1z,i1,i1x,hb1⟩:=aY (f:=aA) hb1
  rcases af hb1 with⟨q_5,hb1⟩|⟨q_5,hb1⟩
  ·cases hb1
   have hx1:my (.inr false)=some _:=hk1;unfold my at hx1;dsimp only at hx1
   cases hx1;exact bV
  cases hb1;refine aX ?_;exact⟨_,rfl,fm_ bH [] rfl a8 trivial⟩
 cases hb1;have hx1:my (.inl i_2)=some _:=hk1;unfold my at hx1;dsimp only at hx1
 cases hx1;exact bV
def ic (a_r:Rln):(Int)->Option (Step (Int) (Bool)):=fun s=>match s with
 |i_1=>bif (decide (i_1<((a_r.facts.length:Nat):Int)))then(aq a_r.facts i_1).bind fun x_3=>(dw x_3.valid).bind fun r_4=>bif (!r_4)then some (.ret false)else
 (qB x_3.row a_r.kinds).bind fun r_6=>bif (!r_6)then some (.ret false)else
 some (.next (i64.wrap (i_1+(1:Int))))else
 some (.exit i_1)
def eE (a_r:Rln):Sum (Int) (Bool)->Option ((Bool))
 |.inl i_1=>bif (decide ((0:Int)<((a_r.kinds.length:Nat):Int)))then bif (decide (((a_r.kinds.length:Nat):Int)<=(48:Int)))then(yP a_r.kinds).bind fun r_10=>some r_10 else
 some false else
 some false
 |.inr q=>some q
def FL (a_r:Rln):Option (Bool):=(ap (ic a_r) fuel (0:Int)).bind (eE a_r)
theorem aa6 {a_r:Rln}{r:Bool}(H:FL a_r=some r):PTz 29 [.agg (ajT a_r)] (.val (.one (.bool r))):=by
 unfold FL at H;refine po_ Tryz.func29 Tryz.ntmps29 ?_;refine aX ?_;refine alM_ (fun s:Int=>match s with|i_1=>[(1,.one (.ptr 0 0)),(3,.one (.c (.int .i64 i_1)))]) (fun s=>match s with|i_1=>[.box [.c (.lst (a_r.kinds.map (fun x=>[AC.int .i64 x]))),.c (.lst (a_r.facts.map aA))]]) H (fun _=>amR _)
  (fm_ bH [] rfl a8 bZ) ?_
 rintro i_1 st1 hb1 hk1;unfold ic at hb1;dsimp only at hb1 ⊢;rcases af hb1 with⟨q_2,hb1⟩|⟨q_2,hb1⟩
 ·obtain⟨x_3,i1z,i1,i1x,hb1⟩:=aY (f:=aA) hb1
  obtain⟨r_4,c2,hb1⟩:=bd_ hb1;replace c2:=gValid1_ok c2;rcases af hb1 with⟨q_5,hb1⟩|⟨q_5,hb1⟩
  ·cases hb1
   have hx1:eE a_r (.inr false)=some _:=hk1;unfold eE at hx1;dsimp only at hx1
   cases hx1;exact bV
  obtain⟨r_6,c3,hb1⟩:=bd_ hb1;replace c3:=gFits8_ok c3;rcases af hb1 with⟨q_7,hb1⟩|⟨q_7,hb1⟩
  ·cases hb1
   have hx1:eE a_r (.inr false)=some _:=hk1;unfold eE at hx1;dsimp only at hx1
   cases hx1;exact bV
  cases hb1;refine aX ?_;exact⟨_,rfl,fm_ bH [] rfl a8 bZ⟩
 cases hb1;have hx1:eE a_r (.inl i_1)=some _:=hk1;unfold eE at hx1;dsimp only at hx1;rcases af hx1 with⟨q_8,hx1⟩|⟨q_8,hx1⟩
 ·rcases af hx1 with⟨q_9,hx1⟩|⟨q_9,hx1⟩
  ·obtain⟨r_10,c4,hx1⟩:=bd_ hx1
   replace c4:=gKinds_ok c4
   cases hx1;exact bV
  cases hx1;exact bV
 cases hx1;exact bV
def rc (a_row:(List Val))(a_l:(List Int)):((List Val)×Int)->Option (Step ((List Val)×Int) ((List Val))):=fun s=>match s with
 |(out_1,i_2)=>bif (decide (i_2<((a_l.length:Nat):Int)))then(aq a_l i_2).bind fun x_4=>(Gx a_row x_4).bind fun r_5=>bif (decide (out_1.length+1<=4398046511104))then(some (.next ((out_1++[r_5]),(i64.wrap (i_2+(1:Int))))))else none else
 some (.exit (out_1,i_2))
def ws:Sum ((List Val)×Int) ((List Val))->Option (((List Val)))
 |.inl (out_1,i_2)=>some out_1
 |.inr q=>some q
def yA (a_row:(List Val))(a_l:(List Int)):Option ((List Val)):=(ap (rc a_row a_l) fuel ([],(0:Int))).bind (ws)
theorem abt {a_row:(List Val)}{a_l:(List Int)}{r:(List Val)}(H:yA a_row a_l=some r):PTz 136 [.one (.lst (a_row.map cV)),.one (.lst (a_l.map (fun x=>[AC.int .i64 x])))] (.val (.one (.lst (r.map cV)))):=by
 unfold yA at H;refine po_ Tryz.func136 Tryz.ntmps136 ?_;refine aX ?_;refine bK 5 3 rfl ?_;refine alM_ (fun s:(List Val)×Int=>match s with|(out_1,i_2)=>[(0,.one (.c (.lst (a_row.map cV)))),(1,.one (.c (.lst (a_l.map (fun x=>[AC.int .i64 x]))))),(5,.one (.own (out_1.map cV) 0)),(6,.one (.c (.int .i64 i_2)))]) (fun s=>match s with|(out_1,i_2)=>[.spare out_1.length 3]) H (fun _=>amR _)
  (fm_ bH [] rfl a8 bZ) ?_
 rintro⟨out_1,i_2⟩ st1 hb1 hk1;unfold rc at hb1;dsimp only at hb1 ⊢;rcases af hb1 with⟨q_3,hb1⟩|⟨q_3,hb1⟩
 ·obtain⟨x_4,i1z,i1,i1x,hb1⟩:=aY (f:=(fun x=>[AC.int .i64 x])) hb1
  obtain⟨r_5,c2,hb1⟩:=bd_ hb1;replace c2:=gAtR_ok c2;obtain⟨g3,hb1⟩:=bo hb1
  cases hb1;refine aX ?_;exact⟨_,rfl,fm_ jb [] nk a8 bZ⟩
 cases hb1;have hx1:ws (.inl (out_1,i_2))=some _:=hk1;unfold ws at hx1;dsimp only at hx1
 cases hx1;exact bV
end
noncomputable section
def vT (a_t:bv)(a_row:(List Val)):Option ((List Val)):=(yA a_row a_t.key).bind fun r_1=>some r_1
theorem EY {a_t:bv}{a_row:(List Val)}{r:(List Val)}(H:vT a_t a_row=some r):PTz 77 [.agg (bn a_t),.one (.lst (a_row.map cV))] (.val (.one (.lst (r.map cV)))):=by
 unfold vT at H;refine po_ Tryz.func77 Tryz.ntmps77 ?_;obtain⟨r_1,c1,H⟩:=bd_ H;replace c1:=abt c1
 cases H;exact bV
def q7 (a_t:bv)(a_l:(List aw))(a_key:(List Val)):((List au)×Int)->Option (Step ((List au)×Int) ((List au))):=fun s=>match s with
 |(out_1,i_2)=>bif (decide (i_2<((a_l.length:Nat):Int)))then(aq a_l i_2).bind fun x_4=>(vT a_t x_4.row).bind fun r_5=>(je r_5 a_key).bind fun r_6=>bif (decide (r_6=(0:Int)))then bif (decide (out_1.length+1<=8796093022208))then(some (.next ((out_1++[x_4.valid]),(i64.wrap (i_2+(1:Int))))))else none else
 some (.next (out_1,(i64.wrap (i_2+(1:Int)))))else
 some (.exit (out_1,i_2))
def uP:Sum ((List au)×Int) ((List au))->Option (((List au)))
 |.inl (out_1,i_2)=>some out_1
 |.inr q=>some q
def u9 (a_t:bv)(a_l:(List aw))(a_key:(List Val)):Option ((List au)):=(ap (q7 a_t a_l a_key) fuel ([],(0:Int))).bind (uP)
theorem Db {a_t:bv}{a_l:(List aw)}{a_key:(List Val)}{r:(List au)}(H:u9 a_t a_l a_key=some r):PTz 134 [.agg (bn a_t),.one (.lst (a_l.map aA)),.one (.lst (a_key.map cV))] (.val (.one (.lst (r.map aH)))):=by
 unfold u9 at H;refine po_ Tryz.func134 Tryz.ntmps134 ?_;refine aX ?_;refine bK 7 2 rfl ?_;refine alM_ (fun s:(List au)×Int=>match s with|(out_1,i_2)=>[(1,.one (.c (.lst (a_l.map aA)))),(2,.one (.c (.lst (a_key.map cV)))),(3,.one (.ptr 0 0)),(7,.one (.own (out_1.map aH) 1)),(8,.one (.c (.int .i64 i_2)))]) (fun s=>match s with|(out_1,i_2)=>[.box [.c (.str a_t.nm),.c (.lst (a_t.columns.map ez)),.c (.lst (a_t.key.map (fun x=>[AC.int .i64 x]))),.c (.lst (a_t.foreigns.map fY)),.c (.lst (a_t.checks.map tE))],.spare out_1.length 2]) H (fun _=>amR _)
  (fm_ bH [] rfl a8 bZ) ?_
 rintro⟨out_1,i_2⟩ st1 hb1 hk1;unfold q7 at hb1;dsimp only at hb1 ⊢;rcases af hb1 with⟨q_3,hb1⟩|⟨q_3,hb1⟩
 ·obtain⟨x_4,i1z,i1,i1x,hb1⟩:=aY (f:=aA) hb1
  obtain⟨r_5,c2,hb1⟩:=bd_ hb1;replace c2:=EY c2;obtain⟨r_6,c3,hb1⟩:=bd_ hb1;replace c3:=gCmp8_ok c3;rcases af hb1 with⟨q_7,hb1⟩|⟨q_7,hb1⟩
  ·obtain⟨g4,hb1⟩:=bo hb1
   cases hb1;refine aX ?_;exact⟨_,rfl,fm_ jb [] nk a8 bZ⟩
  cases hb1;refine aX ?_;exact⟨_,rfl,fm_ jb [] nk a8 bZ⟩
 cases hb1;have hx1:uP (.inl (out_1,i_2))=some _:=hk1;unfold uP at hx1;dsimp only at hx1
 cases hx1;exact bV
def k8 (r_1:(List au)):((List ji)×Int)->Option (Step ((List ji)×Int) ((List au))):=fun s=>match s with
 |(c_2,i_3)=>bif (decide (i_3<((r_1.length:Nat):Int)))then(aq r_1 i_3).bind fun x_5=>bif (decide (c_2.length+1<=5864062014805))then(some (.next ((c_2++[(⟨x_5,(1:Int)⟩:ji)]),(i64.wrap (i_3+(1:Int))))))else none else
 some (.exit (c_2,i_3))
def pH:Sum ((List ji)×Int) ((List au))->Option (((List au)))
 |.inl (c_2,i_3)=>(IM c_2).bind fun r_6=>(rV r_6 (2:Int)).bind fun r_7=>some r_7
 |.inr q=>some q
def pX (a_t:bv)(a_l:(List aw))(a_key:(List Val)):Option ((List au)):=(u9 a_t a_l a_key).bind fun r_1=>(ap (k8 r_1) fuel ([],(0:Int))).bind (pH)
theorem I8 {a_t:bv}{a_l:(List aw)}{a_key:(List Val)}{r:(List au)}(H:pX a_t a_l a_key=some r):PTz 76 [.agg (bn a_t),.one (.lst (a_l.map aA)),.one (.lst (a_key.map cV))] (.val (.one (.lst (r.map aH)))):=by
 unfold pX at H;refine po_ Tryz.func76 Tryz.ntmps76 ?_;obtain⟨r_1,c1,H⟩:=bd_ H;replace c1:=Db c1;refine aX ?_;refine bK 8 3 rfl ?_;refine alM_ (fun s:(List ji)×Int=>match s with|(c_2,i_3)=>[(7,.one (.c (.lst (r_1.map aH)))),(8,.one (.own (c_2.map ol) 1)),(9,.one (.c (.int .i64 i_3)))]) (fun s=>match s with|(c_2,i_3)=>[.box [.c (.str a_t.nm),.c (.lst (a_t.columns.map ez)),.c (.lst (a_t.key.map (fun x=>[AC.int .i64 x]))),.c (.lst (a_t.foreigns.map fY)),.c (.lst (a_t.checks.map tE))],.spare c_2.length 3]) H (fun _=>amR _)
  (fm_ bH [] rfl a8 bZ) ?_
 rintro⟨c_2,i_3⟩ st1 hb1 hk1;unfold k8 at hb1;dsimp only at hb1 ⊢;rcases af hb1 with⟨q_4,hb1⟩|⟨q_4,hb1⟩
 ·obtain⟨x_5,i2z,i2,i2x,hb1⟩:=aY (f:=aH) hb1
  obtain⟨g3,hb1⟩:=bo hb1
  cases hb1;refine aX ?_;exact⟨_,rfl,fm_ jb [] nk a8 bZ⟩
 cases hb1;have hx1:pH (.inl (c_2,i_3))=some _:=hk1;unfold pH at hx1;dsimp only at hx1;obtain⟨r_6,c4,hx1⟩:=bd_ hx1;replace c4:=OC c4;obtain⟨r_7,c5,hx1⟩:=bd_ hx1;replace c5:=AH c5
 cases hx1;exact bV
def qY (a_t:bv)(x_13:(List Val))(r_16:(List au)):((List bD)×Int)->Option (Step ((List bD)×Int) ((List bD))):=fun s=>match s with
 |(out_17,k_18)=>bif (decide (k_18<((r_16.length:Nat):Int)))then(aq r_16 k_18).bind fun x_20=>bif (decide (out_17.length+1<=1954687338268))then(some (.next ((out_17++[(⟨(2:Int),a_t.nm,(0:Int),x_13,x_20⟩:bD)]),(i64.wrap (k_18+(1:Int))))))else none else
 some (.exit (out_17,k_18))
def wj (i_4:Int):Sum ((List bD)×Int) ((List bD))->Option (Step ((List bD)×Int) ((List bD)))
 |.inl (out_17,k_18)=>some (.next (out_17,(i64.wrap (i_4+(1:Int)))))
 |.inr q=>some (.ret q)
def ng (r_1:(List aw))(r_2:(List (List Val)))(i_4:Int):((List au)×Int)->Option (Step ((List au)×Int) ((List bD))):=fun s=>match s with
 |(during_6,k_7)=>bif (decide (k_7<((r_1.length:Nat):Int)))then(aq r_1 k_7).bind fun x_9=>(aq r_2 i_4).bind fun x_10=>(je x_9.row x_10).bind fun r_11=>bif (decide (r_11=(0:Int)))then bif (decide (during_6.length+1<=8796093022208))then(some (.next ((during_6++[x_9.valid]),(i64.wrap (k_7+(1:Int))))))else none else
 some (.next (during_6,(i64.wrap (k_7+(1:Int)))))else
 some (.exit (during_6,k_7))
def rE (a_t:bv)(a_l:(List aw))(r_2:(List (List Val)))(out_3:(List bD))(i_4:Int):Sum ((List au)×Int) ((List bD))->Option (Step ((List bD)×Int) ((List bD)))
 |.inl (during_6,k_7)=>(aq r_2 i_4).bind fun x_13=>(vT a_t x_13).bind fun r_14=>(pX a_t a_l r_14).bind fun r_15=>(IR during_6 r_15).bind fun r_16=>(ap (qY a_t x_13 r_16) fuel (out_3,(0:Int))).bind (wj i_4)
 |.inr q=>some (.ret q)
def rr (a_t:bv)(a_l:(List aw))(r_1:(List aw))(r_2:(List (List Val))):((List bD)×Int)->Option (Step ((List bD)×Int) ((List bD))):=fun s=>match s with
 |(out_3,i_4)=>bif (decide (i_4<((r_2.length:Nat):Int)))then(ap (ng r_1 r_2 i_4) fuel ([],(0:Int))).bind (rE a_t a_l r_2 out_3 i_4)else
 some (.exit (out_3,i_4))
def vq:Sum ((List bD)×Int) ((List bD))->Option (((List bD)))
 |.inl (out_3,i_4)=>some out_3
 |.inr q=>some q
def u7 (a_t:bv)(a_l:(List aw)):Option ((List bD)):=(uf a_l).bind fun r_1=>(kW a_l).bind fun r_2=>(ap (rr a_t a_l r_1 r_2) fuel ([],(0:Int))).bind (vq)
theorem acn {a_t:bv}{a_l:(List aw)}{r:(List bD)}(H:u7 a_t a_l=some r):PTz 42 [.agg (bn a_t),.one (.lst (a_l.map aA))] (.val (.one (.lst (r.map bN)))):=by
 unfold u7 at H;refine po_ Tryz.func42 Tryz.ntmps42 ?_;obtain⟨r_1,c1,H⟩:=bd_ H;replace c1:=J8 c1;obtain⟨r_2,c2,H⟩:=bd_ H;replace c2:=gRows22_ok c2;refine aX ?_;refine bK 7 6 rfl ?_;refine alM_ (fun s:(List bD)×Int=>match s with|(out_3,i_4)=>[(1,.one (.c (.lst (a_l.map aA)))),(2,.one (.ptr 0 0)),(5,.one (.c (.lst (r_1.map aA)))),(6,.one (.c (.lst (r_2.map (fun x=>[AC.lst (x.map cV)]))))),(7,.one (.own (out_3.map bN) 1)),(8,.one (.c (.int .i64 i_4)))]) (fun s=>match s with|(out_3,i_4)=>[.box [.c (.str a_t.nm),.c (.lst (a_t.columns.map ez)),.c (.lst (a_t.key.map (fun x=>[AC.int .i64 x]))),.c (.lst (a_t.foreigns.map fY)),.c (.lst (a_t.checks.map tE))],.spare out_3.length 6]) H (fun _=>amR _)
  (fm_ bH [] rfl a8 bZ) ?_
 rintro⟨out_3,i_4⟩ st5 hb5 hk5;unfold rr at hb5;dsimp only at hb5 ⊢;rcases af hb5 with⟨q_5,hb5⟩|⟨q_5,hb5⟩
 ·refine aX ?_
  refine bK 9 2 rfl ?_;refine alM_ (fun s:(List au)×Int=>match s with|(during_6,k_7)=>[(1,.one (.c (.lst (a_l.map aA)))),(2,.one (.ptr 0 0)),(5,.one (.c (.lst (r_1.map aA)))),(6,.one (.c (.lst (r_2.map (fun x=>[AC.lst (x.map cV)]))))),(7,.one (.own (out_3.map bN) 1)),(8,.one (.c (.int .i64 i_4))),(9,.one (.own (during_6.map aH) 2)),(10,.one (.c (.int .i64 k_7)))]) (fun s=>match s with|(during_6,k_7)=>[.box [.c (.str a_t.nm),.c (.lst (a_t.columns.map ez)),.c (.lst (a_t.key.map (fun x=>[AC.int .i64 x]))),.c (.lst (a_t.foreigns.map fY)),.c (.lst (a_t.checks.map tE))],.spare out_3.length 6,.spare during_6.length 2]) hb5 (fun _=>amR _)
   (fm_ bH [] rfl a8 bZ) ?_
  rintro⟨during_6,k_7⟩ st6 hb6 hk6;unfold ng at hb6;dsimp only at hb6 ⊢;rcases af hb6 with⟨q_8,hb6⟩|⟨q_8,hb6⟩
  ·obtain⟨x_9,i3z,i3,i3x,hb6⟩:=aY (f:=aA) hb6
   obtain⟨x_10,i4z,i4,i4x,hb6⟩:=aY (f:=(fun x=>[AC.lst (x.map cV)])) hb6;obtain⟨r_11,c5,hb6⟩:=bd_ hb6;replace c5:=gCmp8_ok c5;rcases af hb6 with⟨q_12,hb6⟩|⟨q_12,hb6⟩
   ·obtain⟨g6,hb6⟩:=bo hb6
    cases hb6;refine aX ?_;exact⟨_,rfl,fm_ jb [] nk a8 bZ⟩
   cases hb6;refine aX ?_;exact⟨_,rfl,fm_ jb [] nk a8 bZ⟩
  cases hb6;have hx6:rE a_t a_l r_2 out_3 i_4 (.inl (during_6,k_7))=some _:=hk6;unfold rE at hx6;dsimp only at hx6;obtain⟨x_13,i7z,i7,i7x,hx6⟩:=aY (f:=(fun x=>[AC.lst (x.map cV)])) hx6;obtain⟨r_14,c8,hx6⟩:=bd_ hx6;replace c8:=EY c8;obtain⟨r_15,c9,hx6⟩:=bd_ hx6;replace c9:=I8 c9;obtain⟨r_16,c10,hx6⟩:=bd_ hx6;replace c10:=afD c10;refine aX ?_;refine alM_ (fun s:(List bD)×Int=>match s with|(out_17,k_18)=>[(1,.one (.c (.lst (a_l.map aA)))),(2,.one (.ptr 0 0)),(5,.one (.c (.lst (r_1.map aA)))),(6,.one (.c (.lst (r_2.map (fun x=>[AC.lst (x.map cV)]))))),(7,.one (.own (out_17.map bN) 1)),(8,.one (.c (.int .i64 i_4))),(11,.one (.c (.lst (r_16.map aH)))),(12,.one (.c (.int .i64 k_18)))]) (fun s=>match s with|(out_17,k_18)=>[.box [.c (.str a_t.nm),.c (.lst (a_t.columns.map ez)),.c (.lst (a_t.key.map (fun x=>[AC.int .i64 x]))),.c (.lst (a_t.foreigns.map fY)),.c (.lst (a_t.checks.map tE))],.spare out_17.length 6,.spare during_6.length 2]) hx6 (fun _=>amR _)
   (fm_ bH [] rfl a8 bZ) ?_
  rintro⟨out_17,k_18⟩ st7 hb7 hk7;unfold qY at hb7;dsimp only at hb7 ⊢;rcases af hb7 with⟨q_19,hb7⟩|⟨q_19,hb7⟩
  ·obtain⟨x_20,i11z,i11,i11x,hb7⟩:=aY (f:=aH) hb7
   obtain⟨g12,hb7⟩:=bo hb7
   cases hb7;refine aX ?_;exact⟨_,rfl,fm_ jb [] nk a8 bZ⟩
  cases hb7;have hx7:wj i_4 (.inl (out_17,k_18))=some _:=hk7;unfold wj at hx7;dsimp only at hx7
  cases hx7;refine aX ?_;exact⟨_,rfl,fm_ jb [_] nk a8 bZ⟩
 cases hb5;have hx5:vq (.inl (out_3,i_4))=some _:=hk5;unfold vq at hx5;dsimp only at hx5
 cases hx5;exact bV
def jv (a_a:(List bD))(a_b:(List bD)):(Int)->Option (Step (Int) (Bool)):=fun s=>match s with
 |i_2=>bif (decide (i_2<((a_a.length:Nat):Int)))then(aq a_a i_2).bind fun x_4=>(aq a_b i_2).bind fun x_5=>bif (decide (x_4.kind≠x_5.kind))then some (.ret false)else
 bif (!(x_4.table.toList==x_5.table.toList))then some (.ret false)else
 bif (decide (x_4.index≠x_5.index))then some (.ret false)else
 bif (!(bT [.c (.int .i64 x_4.valid.lo),.c (.int .i64 x_4.valid.hi)] [.c (.int .i64 x_5.valid.lo),.c (.int .i64 x_5.valid.hi)]))then some (.ret false)else
 (je x_4.row x_5.row).bind fun r_10=>bif (decide (r_10≠(0:Int)))then some (.ret false)else
 some (.next (i64.wrap (i_2+(1:Int))))else
 some (.exit i_2)
def db:Sum (Int) (Bool)->Option ((Bool))
 |.inl i_2=>some true
 |.inr q=>some q
def oJ (a_a:(List bD))(a_b:(List bD)):Option (Bool):=bif (decide (((a_a.length:Nat):Int)≠((a_b.length:Nat):Int)))then some false else
 (ap (jv a_a a_b) fuel (0:Int)).bind (db)
theorem rG {a_a:(List bD)}{a_b:(List bD)}{r:Bool}(H:oJ a_a a_b=some r):PTz 11 [.one (.lst (a_a.map bN)),.one (.lst (a_b.map bN))] (.val (.one (.bool r))):=by
 unfold oJ at H;refine po_ Tryz.func11 Tryz.ntmps11 ?_;rcases af H with⟨q_1,H⟩|⟨q_1,H⟩
 ·cases H
  exact bV
 refine aX ?_;refine alM_ (fun s:Int=>match s with|i_2=>[(0,.one (.c (.lst (a_a.map bN)))),(1,.one (.c (.lst (a_b.map bN)))),(5,.one (.c (.int .i64 i_2)))]) (fun s=>match s with|i_2=>[]) H (fun _=>amR _)
  (fm_ bH [] rfl a8 trivial) ?_
 rintro i_2 st1 hb1 hk1;unfold jv at hb1;dsimp only at hb1 ⊢;rcases af hb1 with⟨q_3,hb1⟩|⟨q_3,hb1⟩
 ·obtain⟨x_4,i1z,i1,i1x,hb1⟩:=aY (f:=bN) hb1
  obtain⟨x_5,i2z,i2,i2x,hb1⟩:=aY (f:=bN) hb1;rcases af hb1 with⟨q_6,hb1⟩|⟨q_6,hb1⟩
  ·cases hb1
   have hx1:db (.inr false)=some _:=hk1;unfold db at hx1;dsimp only at hx1
   cases hx1;exact bV
  rcases af hb1 with⟨q_7,hb1⟩|⟨q_7,hb1⟩
  ·cases hb1
   have hx1:db (.inr false)=some _:=hk1;unfold db at hx1;dsimp only at hx1
   cases hx1;exact bV
  rcases af hb1 with⟨q_8,hb1⟩|⟨q_8,hb1⟩
  ·cases hb1
   have hx1:db (.inr false)=some _:=hk1;unfold db at hx1;dsimp only at hx1
   cases hx1;exact bV
  rcases af hb1 with⟨q_9,hb1⟩|⟨q_9,hb1⟩
  ·cases hb1
   have hx1:db (.inr false)=some _:=hk1;unfold db at hx1;dsimp only at hx1
   cases hx1;exact bV
  obtain⟨r_10,c3,hb1⟩:=bd_ hb1;replace c3:=gCmp8_ok c3;rcases af hb1 with⟨q_11,hb1⟩|⟨q_11,hb1⟩
  ·cases hb1
   have hx1:db (.inr false)=some _:=hk1;unfold db at hx1;dsimp only at hx1
   cases hx1;exact bV
  cases hb1;refine aX ?_;exact⟨_,rfl,fm_ bH [] rfl a8 trivial⟩
 cases hb1;have hx1:db (.inl i_2)=some _:=hk1;unfold db at hx1;dsimp only at hx1
 cases hx1;exact bV
end
noncomputable section
def F2:Option (bv):=some (⟨(⟨#[116]⟩:ByteArray),[(⟨(⟨#[97]⟩:ByteArray),(1:Int),false⟩:Cmn),(⟨(⟨#[98]⟩:ByteArray),(1:Int),false⟩:Cmn)],[(0:Int)],[],[(Ex.mk (11:Int) (0:Int) (⟨(0:Int),(0:Int),empty⟩:Val) empty [(Ex.mk (2:Int) (1:Int) (⟨(0:Int),(0:Int),empty⟩:Val) empty []),(Ex.mk (1:Int) (0:Int) (⟨(1:Int),(0:Int),empty⟩:Val) empty [])])]⟩:bv)
theorem aa0 {r:bv}(H:F2=some r):PTz 32 [] (.val (.agg (bn r))):=by
 unfold F2 at H;refine po_ Tryz.func32 Tryz.ntmps32 ?_
 cases H;exact bV
def tj:Option (Bool):=(kX (1:Int) (-9:Int) (0:Int) (3:Int)).bind fun r_1=>(kX (2:Int) (0:Int) (1:Int) (4:Int)).bind fun r_2=>(kX (2:Int) (5:Int) (3:Int) (6:Int)).bind fun r_3=>(aq [r_1,r_2,r_3] (0:Int)).bind fun x_4=>(aq [r_1,r_2,r_3] (1:Int)).bind fun x_5=>(aq [r_1,r_2,r_3] (2:Int)).bind fun x_6=>(F2 ).bind fun r_7=>(tq r_7 [r_1,r_2,r_3]).bind fun r_8=>(oJ r_8 [(⟨(1:Int),(⟨#[116]⟩:ByteArray),(1:Int),x_4.row,x_4.valid⟩:bD),(⟨(2:Int),(⟨#[116]⟩:ByteArray),(0:Int),x_5.row,(⟨(3:Int),(4:Int)⟩:au)⟩:bD),(⟨(2:Int),(⟨#[116]⟩:ByteArray),(0:Int),x_6.row,(⟨(3:Int),(4:Int)⟩:au)⟩:bD),(⟨(4:Int),(⟨#[116]⟩:ByteArray),(0:Int),x_5.row,x_5.valid⟩:bD)]).bind fun r_9=>bif r_9 then(xx r_8).bind fun r_11=>bif (decide (r_11=(12:Int)))then(lZ [r_7] [[r_1,r_2,r_3]] (4:Int)).bind fun r_13=>bif r_13 then(lZ [r_7] [[r_1,r_2,r_3]] (3:Int)).bind fun r_15=>some (!r_15)else
 some false else
 some false else
 some false
theorem JG {r:Bool}(H:tj=some r):PTz 10 [] (.val (.one (.bool r))):=by
 unfold tj at H;refine po_ Tryz.func10 Tryz.ntmps10 ?_;obtain⟨r_1,c1,H⟩:=bd_ H;replace c1:=sM c1;obtain⟨r_2,c2,H⟩:=bd_ H;replace c2:=sM c2;obtain⟨r_3,c3,H⟩:=bd_ H;replace c3:=sM c3;obtain⟨x_4,i4z,i4,i4x,H⟩:=aY (f:=aA) H;obtain rfl:r_1=x_4:=am3 (show some r_1=some x_4 from i4);obtain⟨x_5,i5z,i5,i5x,H⟩:=aY (f:=aA) H;obtain rfl:r_2=x_5:=am3 (show some r_2=some x_5 from i5);obtain⟨x_6,i6z,i6,i6x,H⟩:=aY (f:=aA) H;obtain rfl:r_3=x_6:=am3 (show some r_3=some x_6 from i6);obtain⟨r_7,c7,H⟩:=bd_ H;replace c7:=aa0 c7;obtain⟨r_8,c8,H⟩:=bd_ H;replace c8:=Br c8
 try simp only[amJ,amH,amL,amB,aN]at c8
 obtain⟨r_9,c9,H⟩:=bd_ H;replace c9:=rG c9
 try simp only[amJ,amH,amL,amB,aN]at c9
 rcases af H with⟨q_10,H⟩|⟨q_10,H⟩
 ·obtain⟨r_11,c10,H⟩:=bd_ H
  replace c10:=Nn c10;rcases af H with⟨q_12,H⟩|⟨q_12,H⟩
  ·obtain⟨r_13,c11,H⟩:=bd_ H
   replace c11:=Ey c11
   try simp only[amJ,amH,amL,amB,aN]at c11
   rcases af H with⟨q_14,H⟩|⟨q_14,H⟩
   ·obtain⟨r_15,c12,H⟩:=bd_ H
    replace c12:=Ey c12
    try simp only[amJ,amH,amL,amB,aN]at c12
    cases H;exact bV
   cases H;exact bV
  cases H;exact bV
 cases H;exact bV
end
def l5 (row:List Val)(i:Int):Val:=if 0<=i then(row[i.toNat]?).getD gy else gy
theorem K2 (row:List Val)(i:Int):gAt row i=some (l5 row i):=by
 unfold gAt l5;by_cases h1:i<0
 ·rw[amA h1,amy,if_neg m0];rfl
 ·rw[amz h1,amx,if_pos m0]
  by_cases h2:((row.length:Nat):Int)<=i
  ·rw[amA h2,amy,anj m0];rfl
  ·rw[amz h2,amx]
   obtain⟨x,hx⟩:=gol_ (show i.toNat<row.length by omega);unfold aq;rw[if_pos m0,hx];rfl
theorem Oe (row:List Val)(i:Int):Gx row i=some (l5 row i):=(show Gx row i=gAt row i from rfl).trans (K2 row i)
theorem abV (row:List Val)(i:Int):Hw row [i]=some [l5 row i]:=by
 unfold Hw;simp only[amS,am1];rw[show decide ((0:Int)<=(((0+1:Nat)):Int))=true from rfl,show decide ((32:Int)*(((0+1:Nat)):Int)<=281474976710656)=true from rfl,show decide ((((0+1:Nat)):Int)<=9223372036854775807)=true from rfl];simp only[amy];rw[cm (l:=[i]) (mk:=fun t i=>(t,i)) (f:=push (l5 row) 4398046511104) ?_ ?_ (by unfold fuel;simp) []]
 ·rw[Dk _ _ _ _ m5];rfl
 ·intro s j x hx
  have hi:=(amw.1 hx).1;unfold un push;dsimp only;rw[aC hx,amy,gn_ hx];simp only[amv];rw[K2,amv,wrapN (by simp at hi;omega)]
  cases decide (s.length+1<=4398046511104)<;>rfl
 ·intro s
  unfold un;dsimp only;rw[lF_,amx]
theorem Ny (row:List Val)(i:Int):uo row i=some (Hh (l5 row i)):=by
 unfold uo;rw[abV,amv,show aq [l5 row i] (0:Int)=some (l5 row i)from rfl,amv,s5,amv,iP];unfold Hh
 cases vF (l5 row i)<;>rfl
theorem abv (e:Ex)(row:List Val)(h:e.op=2):wJ e row=some (Hh (l5 row e.int)):=by
 unfold wJ;rw[h,show decide ((2:Int)=2)=true from rfl,amy,Oe,amv,fe,amv,bU];unfold Hh
 cases vF (l5 row e.int)<;>rfl
theorem Ip (e:Ex)(row:List Val)(h:e.op=1)(hv:vF e.v=true):wJ e row=some e.v:=by
 unfold wJ;rw[h,show decide ((1:Int)=2)=false from rfl,amx,fe,amv,hv];rfl
def dx (l:List Val)(k:Int):Bool:=l.all fun v=>decide (v.kind=k)
theorem jn (l:List Val)(k:Int)(hl:l.length<=1099511627776):Hu l k=some (dx l k):=by
 unfold Hu;rw[cm (l:=l) (mk:=fun(_:Unit) i=>i) (f:=fun _ v=>some (if v.kind≠k then .inr false else .inl ())) ?_ ?_ (by unfold fuel;omega) ()]
 ·have:∀ l:List Val,cE (ρ:=Bool) (fun(_:Unit) (v:Val)=>some (if v.kind≠k then .inr false else .inl ())) () l=some (if dx l k=true then .inl ()else .inr false):=by
   intro l
   induction l with
   |nil=>rfl
   |cons v l ih =>
    rw[cE];by_cases h:v.kind=k
    ·simp only[ne_eq,h,not_true_eq_false,if_false]
     rw[ih];simp[dx,h]
    ·simp[dx,h]
  rw[this]
  cases dx l k<;>rfl
 ·intro s i x hx
  have hi:=(amw.1 hx).1;unfold xw;dsimp only;rw[aC hx,amy,gn_ hx,wrapN m0];simp only[amv];by_cases h:x.kind=k
  ·simp[h,nj]
  ·simp[h,nj]
 ·intro s
  unfold xw;dsimp only;rw[lF_,amx]
def uq (f:Int->Int->Int)(l:List Val)(t:Int):Int:=l.foldl (fun t v=>f t (tF_ v)) t
theorem xL {f:Int->Int->Int}(hf:∀ a b,T3 (f a b)):∀ (l:List Val) (t:Int),T3 t->T3 (uq f l t)
 |[],t,h=>h
 |v::l,t,h=>xL hf l _ (hf _ _)
theorem tB {f:Int->Int->Int}(hf:∀ a b,T3 (f a b)){g:Int->Int->Option Int}(hg:∀ a b,T3 a->T3 b->g a b=some (f a b)):∀ (l:List Val) (t:Int),T3 t->cE (ρ:=Val) (fun t v=>(g t (tF_ v)).bind fun r=>some (.inl r)) t l=some (.inl (uq f l t))
 |[],t,h=>rfl
 |v::l,t,h=>by
  rw[cE,hg _ _ h (fr v)];exact tB hf hg l _ (hf _ _)
theorem L9 (x:Val)(l:List Val)(hl:l.length<=1099511627776):jV 5 (x::l)=some (tc (uq CH l (tF_ x))):=by
 unfold jV;rw[show aq (x::l) (0:Int)=some x from rfl,amv,f_,amv,show decide ((5:Int)=4)=false from rfl,amx,show decide ((5:Int)=5)=true from rfl,amy];rw[show fM (x::l) (1:Int) (((x::l).length:Nat):Int)=some l by unfold fM;rw[if_pos (by simp only[amS];omega)];simp,amv];rw[cm (l:=l) (mk:=fun t i=>(t,i)) (f:=fun t v=>(KP t (tF_ v)).bind fun r=>some (.inl r)) ?_ ?_ (by unfold fuel;omega) (tF_ x)]
 ·rw[tB FV (fun a b ha hb=>ahg ha hb) l _ (fr x)]
  show(ud (uq CH l (tF_ x))).bind _=_;rw[gz (xL FV l _ (fr x))];rfl
 ·intro s i v hv
  have hi:=(amw.1 hv).1;unfold rp;dsimp only;rw[aC hv,amy,gn_ hv,wrapN m0];simp only[amv];rw[f_,amv]
  cases KP s (tF_ v)<;>rfl
 ·intro s
  unfold rp;dsimp only;rw[lF_,amx]
theorem ab2 (x:Val)(l:List Val)(hl:l.length<=1099511627776):jV 6 (x::l)=some (tc (uq or3 l (tF_ x))):=by
 unfold jV;rw[show aq (x::l) (0:Int)=some x from rfl,amv,f_,amv,show decide ((6:Int)=4)=false from rfl,amx,show decide ((6:Int)=5)=false from rfl,amx];rw[show fM (x::l) (1:Int) (((x::l).length:Nat):Int)=some l by unfold fM;rw[if_pos (by simp only[amS];omega)];simp,amv];rw[cm (l:=l) (mk:=fun t i=>(t,i)) (f:=fun t v=>(BB t (tF_ v)).bind fun r=>some (.inl r)) ?_ ?_ (by unfold fuel;omega) (tF_ x)]
 ·rw[tB KG (fun a b ha hb=>ajl ha hb) l _ (fr x)]
  show(ud (uq or3 l (tF_ x))).bind _=_;rw[gz (xL KG l _ (fr x))];rfl
 ·intro s i v hv
  have hi:=(amw.1 hv).1;unfold rH;dsimp only;rw[aC hv,amy,gn_ hv,wrapN m0];simp only[amv];rw[f_,amv]
  cases BB s (tF_ v)<;>rfl
 ·intro s
  unfold rH;dsimp only;rw[lF_,amx]
theorem KU (x:Val):jV 4 [x]=some (tc (zV (tF_ x))):=by
 unfold jV;rw[show aq [x] (0:Int)=some x from rfl,amv,f_,amv,show decide ((4:Int)=4)=true from rfl,amy,qR (fr x),amv,gz (n9 _)];rfl
theorem BG (op:Int)(f:Int->Int->Int)(hf:∀ a b,T3 (f a b))(hop:∀ a b,T3 a->T3 b->(bif decide (op=5)then BL a b else MX a b)=some (f a b))(x:Val)(l:List Val)(hl:l.length<=1099511627776):qN op (x::l)=some (tc (uq f l (tF_ x))):=by
 unfold qN;rw[show aq (x::l) (0:Int)=some x from rfl,amv,jK,amv];have:=FR (l:=x::l) (body:=jP op (x::l)) (ρ:=Val) (mk:=fun t i=>(t,i)) (f:=fun t v=>(bif decide (op=5)then BL t (tF_ v)else MX t (tF_ v)).bind fun r=>some (.inl r)) (by
  intro s i v hv;have hi:=(amw.1 hv).1;unfold jP;dsimp only;rw[aC hv,amy,gn_ hv,wrapN (by simp at hi;omega)];simp only[amv,jK]
  cases decide (op=5)
  ·simp only[amx];cases MX s (tF_ v)<;>rfl
  ·simp only[amy];cases BL s (tF_ v)<;>rfl) (by
  intro s;unfold jP;dsimp only;rw[lF_,amx]) fuel 1 (tF_ x) m5 (by unfold fuel;simp;omega)
 rw[show((1:Nat):Int)=1 from rfl]at this;rw[this];have h2:=tB hf hop l (tF_ x) (fr x);rw[show(x::l).drop 1=l from rfl,h2];show(xg (uq f l (tF_ x))).bind _=_;rw[lp (xL hf l _ (fr x))];rfl
