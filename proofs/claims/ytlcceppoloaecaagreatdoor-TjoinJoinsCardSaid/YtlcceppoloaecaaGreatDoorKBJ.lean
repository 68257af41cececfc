/- Parts. No condition. -/
import Derived.Test.YtlcceppoloaecaaGreatDoorKBD
set_option maxHeartbeats 8000000
set_option maxRecDepth 100000
set_option linter.unusedSimpArgs false
set_option linter.unusedVariables false
namespace Go.Proofs.YtlcceppoloaecaaGreatDoor
open IntKind (i64)
open Go.RowKit Go.MapKept
theorem li {α:Type}(l:List α):l=[] \/ ∃ m x,l=m++[x]:=by
 cases h:l.getLast? with
 |none=>exact .inl (by simpa using h)
 |some x=>exact .inr ⟨l.dropLast,x,by obtain⟨ys,rfl⟩:=List.getLast?_eq_some_iff.1 h;simp⟩
def anh:TI :={ tab with owns:=λf=>f==160||tab.owns f }
theorem gY:TIok Tryz.prog anh:=⟨tab_ok.size,tab_ok.agg,tab_ok.elem,tab_ok.field,tab_ok.zero,tab_ok.bytes,tab_ok.kind,tab_ok.struct,tab_ok.zok,tab_ok.eqs⟩
def sG (l:List ax)(p:ax):List ax:=match l.getLast? with
 |some q=>if p.lo<=q.hi then l.dropLast++[⟨q.lo,EE q.hi p.hi⟩]else l++[p]
 |none=>l++[p]
theorem Dk (p:ax):sG [] p=[p]:=rfl
theorem rl (l:List ax)(q p:ax):sG (l++[q]) p=if p.lo<=q.hi then l++[⟨q.lo,EE q.hi p.hi⟩]else(l++[q])++[p]:=by
 unfold sG;rw[List.getLast?_concat];simp only[List.dropLast_concat]
theorem JY (l:List ax)(p:ax):(sG l p).length<=l.length+1:=by
 obtain rfl|⟨m,q,rfl⟩:=li l
 ·rw[Dk];simp
 ·rw[rl];split<;>simp
theorem y_ (l:List ax)(p:ax)(hl:l.length<=1000000):Kv Tryz.prog 160 (l.map aP) 2 [.agg (aP p)] ((sG l p).map aP):=by
 refine G9 Tryz.func160 rfl rfl Tryz.ntmps160 m5 ?_;simp only[argT,PV.av,aqB,aqF];obtain rfl|⟨m,q,rfl⟩:=li l
 ·rw[Dk]
  repeat' (first|refine gw_ tab_ok tabS_ok ?_|refine gi_ (λhb=>?_) (λhb=>?_)|fail)
  exact⟨.inr rfl,rfl,rfl⟩
 ·have hlen:(m++[q]).length=m.length+1:=by simp
  have hm:m.length<=1000000:=m0
  have Tu:((m++[q]).map aP)[(m.length:Int).toNat]?=some (aP q):=by rw[Int.toNat_natCast,aqD,aqx m5];simp
  have SQ:i64.wrap (((m.length+1:Nat):Int)-1)=(m.length:Int):=aZ m0 m0;have UV:decide ((0:Int)<((m.length+1:Nat):Int))=true:=aqu m0;have htk:List.drop (((0:Nat):Int)).toNat (List.take ((m.length:Int)).toNat ((m++[q]).map aP))=m.map aP:=by rw[Int.toNat_natCast,Int.toNat_natCast,List.drop_zero,aqD,List.take_left' m5]
  have Ya:((m++[q]).map aP).length=m.length+1:=by simp
  rw[rl];by_cases W_:p.lo<=q.hi
  ·have Um:decide (p.lo<=q.hi)=true:=aqu W_
   rw[if_pos W_]
   repeat' (first|rw[Ya]|rw[SQ]|rw[UV]|rw[Um]|rw[htk]|rw[mx_norm]|(refine bw rfl rfl rfl rfl rfl rfl rfl rfl Tu ?_ ?_;· exact⟨m0,rfl⟩)|refine gw_ tab_ok tabS_ok ?_|refine gi_ (λhb=>?_) (λhb=>?_)|fail)
   exact⟨.inr rfl,(by rw[aqD];rfl),m5⟩
  ·have Um:decide (p.lo<=q.hi)=false:=aqt W_
   rw[if_neg W_]
   repeat' (first|rw[Ya]|rw[SQ]|rw[UV]|rw[Um]|(refine bw rfl rfl rfl rfl rfl rfl rfl rfl Tu ?_ ?_;· exact⟨m0,rfl⟩)|refine gw_ tab_ok tabS_ok ?_|refine gi_ (λhb=>?_) (λhb=>?_)|fail)
   exact⟨.inr rfl,(by rw[aqD (l₁:=m++[q])];rfl),m5⟩
def Ni (n:Int):List Stp->List ax->List ax
 |[],out=>out
 |[x],out=>if n<=x.n then sG out ⟨x.lo,1099511627776⟩else out
 |x::y::r,out=>Ni n (y::r) (if n<=x.n then sG out ⟨x.lo,y.lo⟩else out)
def ATs (l:List Stp)(n:Int)(s:List ax×Nat):Tm:=[(0,.one (.c (.lst (l.map gK)))),(1,.one (.c (.int .i64 n))),(5,.one (.own (s.1.map aP) 0)),(6,.one (.c (.int .i64 s.2)))]
theorem nK (l:List Stp)(n:Int)(s:List ax×Nat):gQ 1 (ATs l n s):=⟨t7,t7,(by show 0<1;omega),t7,t7⟩
theorem adx {n:Int}{l:List Stp}{i:Nat}{x:Stp}(hx:l[i]?=some x)(out:List ax):Ni n (l.drop i) out=Ni n (l.drop (i+1)) (if n<=x.n then sG out ⟨x.lo,((l[i+1]?).map (·.lo)).getD 1099511627776⟩else out):=by
 obtain⟨h1,h2⟩:=aqp.1 hx;rw[aqW h1,h2];by_cases h:i+1<l.length
 ·rw[aqW h,aqz h];rfl
 ·rw[List.drop_eq_nil_of_le m0,ard m0];rfl
theorem ad' (l:List Stp)(n:Int)(hl:l.length<=100000):PTz 152 [.one (.lst (l.map gK)),.one (.int .i64 n)] (.val (.one (.lst ((Ni n l []).map aP)))):=by
 generalize hR:Ni n l []=R;refine pa_ gY Tryz.func152 rfl rfl Tryz.ntmps152 m5 ?_;simp only[argT,PV.av,aqB,aqF]
 repeat' (first|refine gw_ gY tabS_ok ?_|refine gi_ (λhb=>?_) (λhb=>?_)|fail)
 refine bS 5 2 rfl ?_;refine cu (ATs l n) (λs=>[.spare s.1.length 2]) (λs=>s.2<=l.length/\Ni n (l.drop s.2) s.1=R/\s.1.length<=s.2) (λs=>l.length-s.2) ([],0) ⟨aqL _,hR,aqG _⟩ (λ_ _=>aqL _)
  (fm_ ⟨rfl,rfl,rfl,rfl,t7⟩ [] rfl (nK _ _ _) ⟨t7,t7⟩) ?_
 rintro⟨out,i⟩ ⟨h1,h2,h3⟩;dsimp only at h1 h2 h3;unfold ATs;dsimp only;by_cases O0:i<l.length
 ·obtain⟨x,hx⟩:=gol_ O0
  have hG:decide (((i:Nat):Int)<(l.length:Int))=true:=aqu m0;have SQ:i64.wrap (((i:Nat):Int)+1)=((i+1:Nat):Int):=aZ m0 m0;rw[adx hx]at h2;generalize hy:((l[i+1]?).map (·.lo)).getD 1099511627776=y at h2;have XI:=y_ out ⟨x.lo,y⟩ m0;have hlen:=JY out ⟨x.lo,y⟩;by_cases hk:n<=x.n
  ·have hK:decide (n<=x.n)=true:=aqu hk
   rw[if_pos hk]at h2;by_cases VL:i+1<l.length
   ·obtain⟨z,hz⟩:=gol_ VL
    have TS:decide (((i+1:Nat):Int)<(l.length:Int))=true:=aqu m0;rw[hz]at hy;obtain rfl:z.lo=y:=hy
    repeat' (first|rw[aqC]|rw[hG]|rw[SQ]|rw[TS]|rw[hK]|(refine Ib rfl rfl rfl rfl (by rw[aqC];rfl) XI ?_)|(refine AZ 0 1 [(0,.one (.c (.lst (l.map gK)))),(1,.one (.c (.int .i64 n))),(5,.one (.own ((sG out ⟨x.lo,z.lo⟩).map aP) 0)),(6,.one (.c (.int .i64 ((i:Nat):Int))))] (aqL _) m0 rfl (by intro z hz;simp at hz) (by intro z hz;simp only[aqH,List.not_mem_nil,or_false]at hz;rcases hz with rfl|rfl|rfl|rfl;exact .inl ⟨rfl,t7⟩;exact .inl ⟨rfl,t7⟩;exact .inr ⟨_,rfl,rfl⟩;exact .inl ⟨rfl,t7⟩) ?_)|(refine bw rfl rfl rfl rfl rfl rfl rfl rfl (bu hx) ?_ ?_;· exact⟨m0,rfl⟩)|(refine bw rfl rfl rfl rfl rfl rfl rfl rfl (bu hz) ?_ ?_;· exact⟨m0,rfl⟩)|refine gw_ gY tabS_ok ?_|refine gi_ (λhb=>?_) (λhb=>?_)|fail)
    exact⟨(sG out ⟨x.lo,z.lo⟩,i+1),⟨by show i+1<=_;omega,h2,by show(sG out ⟨x.lo,z.lo⟩).length<=i+1;omega⟩,by show l.length-(i+1)<l.length-i;omega,fm_ ⟨rfl,rfl,rfl,rfl,t7⟩ [] rfl (nK _ _ _) ⟨t7,t7⟩⟩
   ·have TS:decide (((i+1:Nat):Int)<(l.length:Int))=false:=aqt m0
    rw[ard m0]at hy;obtain rfl:1099511627776=y:=hy
    repeat' (first|rw[aqC]|rw[hG]|rw[SQ]|rw[TS]|rw[hK]|(refine Ib rfl rfl rfl rfl (by rw[aqC];rfl) XI ?_)|(refine AZ 0 1 [(0,.one (.c (.lst (l.map gK)))),(1,.one (.c (.int .i64 n))),(5,.one (.own ((sG out ⟨x.lo,1099511627776⟩).map aP) 0)),(6,.one (.c (.int .i64 ((i:Nat):Int))))] (aqL _) m0 rfl (by intro z hz;simp at hz) (by intro z hz;simp only[aqH,List.not_mem_nil,or_false]at hz;rcases hz with rfl|rfl|rfl|rfl;exact .inl ⟨rfl,t7⟩;exact .inl ⟨rfl,t7⟩;exact .inr ⟨_,rfl,rfl⟩;exact .inl ⟨rfl,t7⟩) ?_)|(refine bw rfl rfl rfl rfl rfl rfl rfl rfl (bu hx) ?_ ?_;· exact⟨m0,rfl⟩)|refine gw_ gY tabS_ok ?_|refine gi_ (λhb=>?_) (λhb=>?_)|fail)
    exact⟨(sG out ⟨x.lo,1099511627776⟩,i+1),⟨by show i+1<=_;omega,h2,by show(sG out ⟨x.lo,1099511627776⟩).length<=i+1;omega⟩,by show l.length-(i+1)<l.length-i;omega,fm_ ⟨rfl,rfl,rfl,rfl,t7⟩ [] rfl (nK _ _ _) ⟨t7,t7⟩⟩
  ·have hK:decide (n<=x.n)=false:=aqt hk
   rw[if_neg hk]at h2;by_cases VL:i+1<l.length
   ·obtain⟨z,hz⟩:=gol_ VL
    have TS:decide (((i+1:Nat):Int)<(l.length:Int))=true:=aqu m0
    repeat' (first|rw[aqC]|rw[hG]|rw[SQ]|rw[TS]|rw[hK]|(refine bw rfl rfl rfl rfl rfl rfl rfl rfl (bu hx) ?_ ?_;· exact⟨m0,rfl⟩)|(refine bw rfl rfl rfl rfl rfl rfl rfl rfl (bu hz) ?_ ?_;· exact⟨m0,rfl⟩)|refine gw_ gY tabS_ok ?_|refine gi_ (λhb=>?_) (λhb=>?_)|fail)
    exact⟨(out,i+1),⟨by show i+1<=_;omega,h2,by show(out).length<=i+1;omega⟩,by show l.length-(i+1)<l.length-i;omega,fm_ ⟨rfl,rfl,rfl,rfl,t7⟩ [] rfl (nK _ _ _) ⟨t7,t7⟩⟩
   ·have TS:decide (((i+1:Nat):Int)<(l.length:Int))=false:=aqt m0
    repeat' (first|rw[aqC]|rw[hG]|rw[SQ]|rw[TS]|rw[hK]|(refine bw rfl rfl rfl rfl rfl rfl rfl rfl (bu hx) ?_ ?_;· exact⟨m0,rfl⟩)|refine gw_ gY tabS_ok ?_|refine gi_ (λhb=>?_) (λhb=>?_)|fail)
    exact⟨(out,i+1),⟨by show i+1<=_;omega,h2,by show(out).length<=i+1;omega⟩,by show l.length-(i+1)<l.length-i;omega,fm_ ⟨rfl,rfl,rfl,rfl,t7⟩ [] rfl (nK _ _ _) ⟨t7,t7⟩⟩
 ·have hG:decide (((i:Nat):Int)<(l.length:Int))=false:=aqt m0
  rw[List.drop_eq_nil_of_le m0]at h2;have h2:out=R:=h2;subst h2
  repeat' (first|rw[aqC]|rw[hG]|refine gw_ gY tabS_ok ?_|refine gi_ (λhb=>?_) (λhb=>?_)|fail)
  refine⟨.inr rfl,?_⟩
  first|exact⟨t7,rfl⟩|exact⟨⟨t7,t7⟩,rfl⟩|(refine⟨?_,rfl⟩;repeat' (first|exact t7|rfl|apply And.intro))
noncomputable section
def cG (Pe:ax):Option (Bool):=bif (0:Int)<=Pe.lo then bif Pe.lo<Pe.hi then some (decide (Pe.hi<=(1099511627776:Int)))else
 some false else
 some false
instance gValid1_ok {Pe : ax} {r : Bool} : OkC (cG Pe = some r) (PTz 33 [.agg (aP Pe)] (.val (.one (.bool r)))) := .mk λH => by
 unfold cG at H;refine po_ Tryz.func33 Tryz.ntmps33 ?_;exact ay H
def dO (Pe:ax)(Qc:Int):Option (Bool):=(cG Pe).bind λO7=>bif O7 then bif Pe.lo<=Qc then some (decide (Qc<Pe.hi))else
 some false else
 some false
instance gContains1_ok {Pe : ax} {Qc : Int} {r : Bool} : OkC (dO Pe Qc = some r) (PTz 103 [.agg (aP Pe), .one (.int .i64 Qc)] (.val (.one (.bool r)))) := .mk λH => by
 unfold dO at H;refine po_ Tryz.func103 Tryz.ntmps103 ?_;exact ay H
def gW (OZ:(List Int)):((List Int)×Int)->Option (Step ((List Int)×Int) ((List Int))):=λs=>match s with
 |(Px,Vh)=>bif Vh<(OZ.length:Int)then(aF OZ Vh).bind λRq=>bif Px.length+1<=17592186044416 then(some (.next ((Px++[Rq]),(i64.wrap (Vh+(1:Int))))))else none else
 some (.exit (Px,Vh))
def afr:Sum ((List Int)×Int) ((List Int))->Option (((List Int)))
 |.inl (Px,Vh)=>some Px
 |.inr q=>some q
def Jc (OZ:(List Int)):((List Int)×Int)->Option (Step ((List Int)×Int) ((List Int))):=λs=>match s with
 |(Pq,Sr)=>bif Sr<(OZ.length:Int)then(aF OZ Sr).bind λSK=>bif Pq.length+1<=17592186044416 then(some (.next ((Pq++[SK]),(i64.wrap (Sr+(1:Int))))))else none else
 some (.exit (Pq,Sr))
def afS:Sum ((List Int)×Int) ((List Int))->Option (((List Int)))
 |.inl (Pq,Sr)=>some Pq
 |.inr q=>some q
def JP (OZ:(List Int)):((List Int)×Int)->Option (Step ((List Int)×Int) ((List Int))):=λs=>match s with
 |(Qg,Ss)=>bif Ss<(OZ.length:Int)then(aF OZ Ss).bind λx_20=>bif Qg.length+1<=17592186044416 then(some (.next ((Qg++[x_20]),(i64.wrap (Ss+(1:Int))))))else none else
 some (.exit (Qg,Ss))
def aee:Sum ((List Int)×Int) ((List Int))->Option (((List Int)))
 |.inl (Qg,Ss)=>some Qg
 |.inr q=>some q
def lM (OZ:(List Int))(PI:Int):((List Int)×Int)->Option (Step ((List Int)×Int) ((List Int))):=λs=>match s with
 |(OV,i_2)=>bif i_2<(OZ.length:Int)then(aF OZ i_2).bind λPK=>bif PK<PI then bif OV.length+1<=17592186044416 then(some (.next ((OV++[PK]),(i64.wrap (i_2+(1:Int))))))else none else
 some (.exit (OV,i_2))else
 some (.exit (OV,i_2))
def lJ (OZ:(List Int))(PI:Int):Sum ((List Int)×Int) ((List Int))->Option (((List Int)))
 |.inl (OV,i_2)=>bif i_2=(OZ.length:Int)then bif OV.length+1<=17592186044416 then((ao (gW OZ) fuel ((OV++[PI]),i_2)).bind (afr))else none else
 (aF OZ i_2).bind λRG=>bif PI<RG then bif OV.length+1<=17592186044416 then((ao (Jc OZ) fuel ((OV++[PI]),i_2)).bind (afS))else none else
 (ao (JP OZ) fuel (OV,i_2)).bind (aee)
 |.inr q=>some q
def vO (OZ:(List Int))(PI:Int):Option ((List Int)):=(ao (lM OZ PI) fuel ([],(0:Int))).bind (lJ OZ PI)
instance gIns3_ok {OZ : (List Int)} {PI : Int} {r : (List Int)} : OkC (vO OZ PI = some r) (PTz 214 [.one (.lst (OZ.map (λx => [AC.int .i64 x]))), .one (.int .i64 PI)] (.val (.one (.lst (r.map (λx => [AC.int .i64 x])))))) := .mk λH => by
 unfold vO at H;refine po_ Tryz.func214 Tryz.ntmps214 ?_;refine a6 ?_;refine bS 5 1 rfl ?_;refine alM_ (λs:(List Int)×Int=>match s with|(OV,i_2)=>[(0,.one (.c (.lst (OZ.map (λx=>[AC.int .i64 x]))))),(1,.one (.c (.int .i64 PI))),(5,.one (.own (OV.map (λx=>[AC.int .i64 x])) 0)),(6,.one (.c (.int .i64 i_2)))]) (λs=>match s with|(OV,i_2)=>[.spare OV.length 1]) H (λ_=>aqL _)
  (fm_ bE [] rfl bm cm) ?_
 rintro⟨OV,i_2⟩ QF OU Pz;unfold lM at OU;dsimp only at OU ⊢;obtain⟨P9,OU⟩|⟨P9,OU⟩:=aj OU
 ·obtain⟨PK,Rw,i1,Ri,OU⟩:=br (f:=(λx=>[AC.int .i64 x])) OU
  obtain⟨Q6,OU⟩|⟨Q6,OU⟩:=aj OU
  ·exact ajm OU
  cases OU;have O2:lJ OZ PI (.inl (OV,i_2))=some _:=Pz;unfold lJ at O2;dsimp only at O2;obtain⟨QG,O2⟩|⟨QG,O2⟩:=aj O2
  ·obtain⟨g3,O2⟩:=aL O2
   refine a6 ?_;refine alM_ (λs:(List Int)×Int=>match s with|(Px,Vh)=>[(0,.one (.c (.lst (OZ.map (λx=>[AC.int .i64 x]))))),(5,.one (.own (Px.map (λx=>[AC.int .i64 x])) 0)),(6,.one (.c (.int .i64 Vh)))]) (λs=>match s with|(Px,Vh)=>[.spare Px.length 1]) O2 (λ_=>aqL _)
    (fm_ ⟨rfl,lE (by rw[aqD];rfl),rfl,t7⟩ [] m5 bm cm) ?_
   rintro⟨Px,Vh⟩ ZH PP UD;exact bA PP UD
  obtain⟨RG,i6z,i6,ZG,O2⟩:=br (f:=(λx=>[AC.int .i64 x])) O2
  cases aqX (i1.symm.trans i6);obtain⟨Rj,O2⟩|⟨Rj,O2⟩:=aj O2
  ·obtain⟨g7,O2⟩:=aL O2
   refine a6 ?_;refine alM_ (λs:(List Int)×Int=>match s with|(Pq,Sr)=>[(0,.one (.c (.lst (OZ.map (λx=>[AC.int .i64 x]))))),(5,.one (.own (Pq.map (λx=>[AC.int .i64 x])) 0)),(6,.one (.c (.int .i64 Sr)))]) (λs=>match s with|(Pq,Sr)=>[.spare Pq.length 1]) O2 (λ_=>aqL _)
    (fm_ ⟨rfl,lE (by rw[aqD];rfl),rfl,t7⟩ [] m5 bm cm) ?_
   rintro⟨Pq,Sr⟩ st3 Py R3;exact bA Py R3
  refine a6 ?_;refine alM_ (λs:(List Int)×Int=>match s with|(Qg,Ss)=>[(0,.one (.c (.lst (OZ.map (λx=>[AC.int .i64 x]))))),(5,.one (.own (Qg.map (λx=>[AC.int .i64 x])) 0)),(6,.one (.c (.int .i64 Ss)))]) (λs=>match s with|(Qg,Ss)=>[.spare Qg.length 1]) O2 (λ_=>aqL _)
   (fm_ bE [] rfl bm cm) ?_
  rintro⟨Qg,Ss⟩ st4 O4 hk4;exact bA O4 hk4
 cases OU;have O2:lJ OZ PI (.inl (OV,i_2))=some _:=Pz;unfold lJ at O2;dsimp only at O2;obtain⟨QG,O2⟩|⟨QG,O2⟩:=aj O2
 ·obtain⟨g12,O2⟩:=aL O2
  refine a6 ?_;refine alM_ (λs:(List Int)×Int=>match s with|(Px,Vh)=>[(0,.one (.c (.lst (OZ.map (λx=>[AC.int .i64 x]))))),(5,.one (.own (Px.map (λx=>[AC.int .i64 x])) 0)),(6,.one (.c (.int .i64 Vh)))]) (λs=>match s with|(Px,Vh)=>[.spare Px.length 1]) O2 (λ_=>aqL _)
   (fm_ ⟨rfl,lE (by rw[aqD];rfl),rfl,t7⟩ [] m5 bm cm) ?_
  rintro⟨Px,Vh⟩ ZH PP UD;exact bA PP UD
 obtain⟨RG,i15z,i15,i15x,O2⟩:=br (f:=(λx=>[AC.int .i64 x])) O2;obtain⟨Rj,O2⟩|⟨Rj,O2⟩:=aj O2
 ·obtain⟨g16,O2⟩:=aL O2
  refine a6 ?_;refine alM_ (λs:(List Int)×Int=>match s with|(Pq,Sr)=>[(0,.one (.c (.lst (OZ.map (λx=>[AC.int .i64 x]))))),(5,.one (.own (Pq.map (λx=>[AC.int .i64 x])) 0)),(6,.one (.c (.int .i64 Sr)))]) (λs=>match s with|(Pq,Sr)=>[.spare Pq.length 1]) O2 (λ_=>aqL _)
   (fm_ ⟨rfl,lE (by rw[aqD];rfl),rfl,t7⟩ [] m5 bm cm) ?_
  rintro⟨Pq,Sr⟩ st3 Py R3;exact bA Py R3
 refine a6 ?_;refine alM_ (λs:(List Int)×Int=>match s with|(Qg,Ss)=>[(0,.one (.c (.lst (OZ.map (λx=>[AC.int .i64 x]))))),(5,.one (.own (Qg.map (λx=>[AC.int .i64 x])) 0)),(6,.one (.c (.int .i64 Ss)))]) (λs=>match s with|(Qg,Ss)=>[.spare Qg.length 1]) O2 (λ_=>aqL _)
  (fm_ bE [] rfl bm cm) ?_
 rintro⟨Qg,Ss⟩ st4 O4 hk4;exact bA O4 hk4
end
section
variable {P:Program} {ti:TI} {N:Nat} {ds:List (Option Tmp)} {K:Tm->List Ob->Prop} {rest:List Oper} {o:Oper} {T:Tm} {L:List Ob}
theorem tk_ (i:Nat){g:FuncId}{R7:List AV}{es fs:List (List AC)}{n m k d:Nat}(hd:o.dst=some d)(hN:Nat.blt d N=true)(hg:gg ds T o.guard=some true)(hp:cS ti (look T) o.op=some (g,.one (.own es i)::R7))(hL:L[i]?=some (.spare n k))(h:aI P ti N ds K rest ((d,.one (.own fs i))::T) (L.set i (.spare m k)))
  (hc:Run P g [.spare n k] (.one (.own es 0)::R7) [.spare m k] (.one (.own fs 0)):=by assumption) (ha:R7=R7.map (AV.ren [i]):=by rfl) (hb:DN 1 R7=true:=by rfl):aI P ti N ds K (o::rest) T L:=by
 refine cJ [i] hd hN hg hp hc (by rw[aqB,<- ha];rfl) ⟨rfl,m5,λj y hy=>?_,a8 ⟨t7,t7⟩,λx hx=>?_⟩ rfl ?_ h
 ·match j,hy with
  |0,hy=>simp only[List.getElem?_cons_zero,Option.some.injEq]at hy;subst hy;exact hL
  |j+1,hy=>simp at hy
 ·obtain rfl|hx:=aqH.1 hx
  ·show 0<1;omega
  ·exact lN hb x hx
 ·simp only[joinL,join,cZ,bY,eY,aqB,aqF]
  simp[Ob.ren]
end
def ajV:TI :={ tab with owns:=λf=>f==245||tab.owns f }
theorem CJ:TIok Tryz.prog ajV:=⟨tab_ok.size,tab_ok.agg,tab_ok.elem,tab_ok.field,tab_ok.zero,tab_ok.bytes,tab_ok.kind,tab_ok.struct,tab_ok.zok,tab_ok.eqs⟩
def akt:TI :={ ajV with soft:=true }
theorem D7:TIok Tryz.prog akt:=⟨tab_ok.size,tab_ok.agg,tab_ok.elem,tab_ok.field,tab_ok.zero,tab_ok.bytes,tab_ok.kind,tab_ok.struct,tab_ok.zok,tab_ok.eqs⟩
def abH (l:List Stp)(t n:Int):List Stp:=match l.getLast? with
 |some q=>if q.n=n then l else l++[⟨t,n⟩]
 |none=>l++[⟨t,n⟩]
theorem xc (l:List Stp)(q:Stp)(t n:Int):abH (l++[q]) t n=if q.n=n then l++[q]else(l++[q])++[⟨t,n⟩]:=by
 unfold abH;rw[List.getLast?_concat]
theorem adR (l:List Stp)(t n:Int):(abH l t n).length<=l.length+1:=by
 obtain rfl|⟨m,q,rfl⟩:=li l
 ·show([]++[_]:List Stp).length<=_;simp
 ·rw[xc];split<;>simp
def aft (l:List Stp)(t n:Int):Option (List Stp):=bif decide (l.length<=1000000)then some (abH l t n)else none
theorem afd {l:List Stp}{t n:Int}{r:List Stp}(H:aft l t n=some r):RTz 245 [.spare l.length 2] [.one (.own (l.map gK) 0),.one (.c (.int .i64 t)),.one (.c (.int .i64 n))] [.spare r.length 2] (.one (.own (r.map gK) 0)):=by
 unfold aft at H;obtain⟨g,H⟩:=fS H;obtain rfl:=aqX H;have g:=aqT g;refine be tab_ok Tryz.func245 rfl rfl Tryz.ntmps245 m5 ?_;simp only[eL];obtain rfl|⟨m,q,rfl⟩:=li l
 ·show Aw _ _ _ _ (λx T L=>(x = .normal\/x = .ret)/\afU tab _ _ _ (.one (.own ([(⟨t,n⟩:Stp)].map gK) 0)) T L) _ _
  repeat' (first|refine gw_ tab_ok tabS_ok ?_|refine gi_ (λhb=>?_) (λhb=>?_)|fail)
  exact⟨.inr rfl,⟨.inl ⟨6,rfl,rfl⟩,⟨[],rfl⟩,aqG _,a8 ⟨t7,t7⟩,by show 0<1;omega⟩⟩
 ·have hlen:(m++[q]).length=m.length+1:=by simp
  have hm:m.length<=1000000:=m0
  have Tu:((m++[q]).map gK)[(m.length:Int).toNat]?=some (gK q):=by rw[Int.toNat_natCast,aqD,aqx m5];simp
  have SQ:i64.wrap (((m.length+1:Nat):Int)-1)=(m.length:Int):=aZ m0 m0;have UV:decide ((0:Int)<((m.length+1:Nat):Int))=true:=aqu m0;have Ya:((m++[q]).map gK).length=m.length+1:=by simp
  rw[xc];by_cases W_:q.n=n
  ·have Um:decide (q.n=n)=true:=aqu W_
   rw[if_pos W_]
   repeat' (first|rw[Ya]|rw[SQ]|rw[UV]|rw[Um]|(refine bw rfl rfl rfl rfl rfl rfl rfl rfl Tu ?_ ?_;· exact⟨m0,rfl⟩)|refine gw_ tab_ok tabS_ok ?_|refine gi_ (λhb=>?_) (λhb=>?_)|fail)
   exact⟨.inr rfl,⟨.inl ⟨6,rfl,rfl⟩,⟨[],rfl⟩,aqG _,a8 ⟨t7,t7⟩,by show 0<1;omega⟩⟩
  ·have Um:decide (q.n=n)=false:=aqt W_
   rw[if_neg W_]
   repeat' (first|rw[Ya]|rw[SQ]|rw[UV]|rw[Um]|(refine bw rfl rfl rfl rfl rfl rfl rfl rfl Tu ?_ ?_;· exact⟨m0,rfl⟩)|refine gw_ tab_ok tabS_ok ?_|refine gi_ (λhb=>?_) (λhb=>?_)|fail)
   exact⟨.inr rfl,⟨.inl ⟨6,rfl,by rw[aqD (l₁:=m++[q])];rfl⟩,⟨[],m5⟩,aqG _,a8 ⟨t7,t7⟩,by show 0<1;omega⟩⟩
noncomputable section
def pU (OZ:(List tm))(Q8:Int):(Int×Int)->Option (Step (Int×Int) ((List Stp))):=λs=>match s with
 |(QB,Ql)=>bif Ql<(OZ.length:Int)then(aF OZ Ql).bind λVi=>(dO Vi.period Q8).bind λTd=>bif Td then some (.next ((i64.wrap (QB+Vi.n)),(i64.wrap (Ql+(1:Int)))))else
 some (.next (QB,(i64.wrap (Ql+(1:Int)))))else
 some (.exit (QB,Ql))
def AP (QC:(List Stp))(PZ:Int)(Q8:Int):Sum (Int×Int) ((List Stp))->Option (Step ((List Stp)×Int) ((List Stp)))
 |.inl (QB,Ql)=>(aft QC Q8 QB).bind λQ7=>some (.next (Q7,(i64.wrap (PZ+(1:Int)))))
 |.inr q=>some (.ret q)
def kW (OZ:(List tm))(UJ:(List Int)):((List Stp)×Int)->Option (Step ((List Stp)×Int) ((List Stp))):=λs=>match s with
 |(QC,PZ)=>bif PZ<(UJ.length:Int)then(aF UJ PZ).bind λQ8=>bif Q8<(1099511627776:Int)then(ao (pU OZ Q8) fuel ((0:Int),(0:Int))).bind (AP QC PZ Q8)else
 some (.exit (QC,PZ))else
 some (.exit (QC,PZ))
def wW:Sum ((List Stp)×Int) ((List Stp))->Option (((List Stp)))
 |.inl (QC,PZ)=>some QC
 |.inr q=>some q
def o_ (OZ:(List tm)):((List Int)×Int)->Option (Step ((List Int)×Int) ((List Stp))):=λs=>match s with
 |(UJ,i_2)=>bif i_2<(OZ.length:Int)then(aF OZ i_2).bind λPK=>(cG PK.period).bind λPW=>bif PW then(vO UJ PK.period.lo).bind λQk=>(vO Qk PK.period.hi).bind λQJ=>some (.next (QJ,(i64.wrap (i_2+(1:Int)))))else
 some (.next (UJ,(i64.wrap (i_2+(1:Int)))))else
 some (.exit (UJ,i_2))
def Bd (OZ:(List tm)):Sum ((List Int)×Int) ((List Stp))->Option (((List Stp)))
 |.inl (UJ,i_2)=>(ao (kW OZ UJ) fuel ([],(0:Int))).bind (wW)
 |.inr q=>some q
def alo (OZ:(List tm)):Option ((List Stp)):=(ao (o_ OZ) fuel ([(0:Int)],(0:Int))).bind (Bd OZ)
theorem tX {p q:Prop}(k:q)(h:Bx q->p:=by
 intro hq
 repeat' (first|refine tk_ 0 rfl rfl rfl rfl rfl ?_|refine p_ rfl rfl rfl rfl rfl ?_|refine st_nil ?_|refine x_ rfl rfl rfl rfl rfl rfl rfl rfl ?_|refine l_ rfl rfl rfl rfl ?_|refine s_ rfl rfl rfl ?_|refine t_ rfl rfl rfl rfl ?_|refine k_ rfl rfl rfl ?_|refine k0_ rfl rfl ?_|refine c_ rfl rfl rfl rfl ?_|refine pick_t rfl rfl rfl rfl rfl rfl rfl ?_|refine pick_f rfl rfl rfl rfl rfl rfl rfl ?_|refine aw_seq ?_|refine aw_region CJ _ rfl ?_|refine aw_drawn2 D7 _ rfl mixed (by decide +kernel) ?_|refine aw_condT rfl ?_|refine aw_condF rfl ?_|refine aw_block ?_|refine aw_exit ?_|refine aw_ret ?_|refine aw_skip ?_|rw[aqC]|rw[mn_norm]|rw[mx_norm])
 exact hq.out):p:=h ⟨k⟩
theorem agC {p:Prop}(h:p:=by
 repeat' (first|refine tk_ 0 rfl rfl rfl rfl rfl ?_|refine p_ rfl rfl rfl rfl rfl ?_|refine st_nil ?_|refine x_ rfl rfl rfl rfl rfl rfl rfl rfl ?_|refine l_ rfl rfl rfl rfl ?_|refine s_ rfl rfl rfl ?_|refine t_ rfl rfl rfl rfl ?_|refine k_ rfl rfl rfl ?_|refine k0_ rfl rfl ?_|refine c_ rfl rfl rfl rfl ?_|refine pick_t rfl rfl rfl rfl rfl rfl rfl ?_|refine pick_f rfl rfl rfl rfl rfl rfl rfl ?_|refine aw_seq ?_|refine aw_region CJ _ rfl ?_|refine aw_drawn2 D7 _ rfl mixed (by decide +kernel) ?_|refine aw_condT rfl ?_|refine aw_condF rfl ?_|refine aw_block ?_|refine aw_exit ?_|refine aw_ret ?_|refine aw_skip ?_|rw[aqC]|rw[mn_norm]|rw[mx_norm])
 refine aX (bg rfl ?_ ?_)
 ·repeat' (first|exact t7|rfl|exact aqA rfl|omega|apply And.intro)
 ·first|rfl|(simp only[aqD,aqB,aqF,aqv]<;>rfl)):p:=h
instance gOf4_ok {OZ : (List tm)} {r : (List Stp)} : OkC (alo OZ = some r) (PTz 210 [.one (.lst (OZ.map uC))] (.val (.one (.lst (r.map gK))))) := .mk λH => by
 unfold alo at H;refine pa_ CJ Tryz.func210 rfl rfl Tryz.ntmps210 m5 ?_;simp only[argT,PV.av,aqB,aqF];refine tX ?_;refine alM_ (λs:(List Int)×Int=>match s with|(UJ,i_2)=>[(0,.one (.c (.lst (OZ.map uC)))),(3,.one (.c (.lst (UJ.map (λx=>[AC.int .i64 x]))))),(4,.one (.c (.int .i64 i_2)))]) (λs=>match s with|(UJ,i_2)=>[]) H (λ_=>aqL _)
  (fm_ bE [] rfl bm trivial) ?_
 rintro⟨UJ,i_2⟩ QF OU Pz;unfold o_ at OU;dsimp only at OU ⊢;obtain⟨P9,OU⟩|⟨P9,OU⟩:=aj OU
 ·obtain⟨PK,Rw,i1,Ri,OU⟩:=br (f:=uC) OU
  obtain⟨PW,c2,OU⟩:=bd_ OU;replace c2:=gValid1_ok c2;obtain⟨QG,OU⟩|⟨QG,OU⟩:=aj OU
  ·obtain⟨Qk,c3,OU⟩:=bd_ OU
   replace c3:=gIns3_ok c3;obtain⟨QJ,c4,OU⟩:=bd_ OU;replace c4:=gIns3_ok c4
   cases OU;refine tX ?_;exact⟨_,rfl,fm_ sg [] rfl bm trivial⟩
  cases OU;refine tX ?_;exact⟨_,rfl,fm_ sg [] rfl bm trivial⟩
 cases OU;have O2:Bd OZ (.inl (UJ,i_2))=some _:=Pz;unfold Bd at O2;dsimp only at O2;refine tX ?_;refine bS 5 2 rfl ?_;refine alM_ (λs:(List Stp)×Int=>match s with|(QC,PZ)=>[(0,.one (.c (.lst (OZ.map uC)))),(3,.one (.c (.lst (UJ.map (λx=>[AC.int .i64 x]))))),(5,.one (.own (QC.map gK) 0)),(6,.one (.c (.int .i64 PZ)))]) (λs=>match s with|(QC,PZ)=>[.spare QC.length 2]) O2 (λ_=>aqL _)
  (fm_ bE [] rfl bm cm) ?_
 rintro⟨QC,PZ⟩ st4 O4 hk4;unfold kW at O4;dsimp only at O4 ⊢;obtain⟨QN,O4⟩|⟨QN,O4⟩:=aj O4
 ·obtain⟨Q8,i5z,i5,i5x,O4⟩:=br (f:=(λx=>[AC.int .i64 x])) O4
  obtain⟨Q1,O4⟩|⟨Q1,O4⟩:=aj O4
  ·refine tX ?_
   refine alM_ (λs:Int×Int=>match s with|(QB,Ql)=>[(0,.one (.c (.lst (OZ.map uC)))),(3,.one (.c (.lst (UJ.map (λx=>[AC.int .i64 x]))))),(5,.one (.own (QC.map gK) 0)),(6,.one (.c (.int .i64 PZ))),(7,.one (.c (.int .i64 QB))),(8,.one (.c (.int .i64 Ql)))]) (λs=>match s with|(QB,Ql)=>[.spare QC.length 2]) O4 (λ_=>aqL _)
    (fm_ bE [] rfl bm cm) ?_
   rintro⟨QB,Ql⟩ st5 Qp hk5;unfold pU at Qp;dsimp only at Qp ⊢;obtain⟨TO,Qp⟩|⟨TO,Qp⟩:=aj Qp
   ·obtain⟨Vi,i6z,i6,ZG,Qp⟩:=br (f:=uC) Qp
    obtain⟨Td,c7,Qp⟩:=bd_ Qp;replace c7:=gContains1_ok c7;obtain⟨TP,Qp⟩|⟨TP,Qp⟩:=aj Qp
    ·cases Qp
     refine tX ?_;exact⟨_,rfl,fm_ bE [] rfl bm cm⟩
    cases Qp;refine tX ?_;exact⟨_,rfl,fm_ bE [] rfl bm cm⟩
   cases Qp;have Pg:AP QC PZ Q8 (.inl (QB,Ql))=some _:=hk5;unfold AP at Pg;dsimp only at Pg;obtain⟨Q7,c8,Pg⟩:=bd_ Pg;replace c8:=afd c8
   cases Pg;refine tX ?_;exact⟨_,rfl,fm_ sg [] qG bm cm⟩
  cases O4;have Qo:wW (.inl (QC,PZ))=some _:=hk4;unfold wW at Qo;dsimp only at Qo
  cases Qo;exact agC
 cases O4;have Qo:wW (.inl (QC,PZ))=some _:=hk4;unfold wW at Qo;dsimp only at Qo
 cases Qo;exact agC
end
theorem aiD (n:Int):i64.wrap n=wrap64 n:=IntWalk.i64_left n
theorem ace (p:ax):cG p=some (St.aK (toP p)):=by
 unfold cG St.aK toP
 cases h1:decide (0<=p.lo)<;>cases h2:decide (p.lo<p.hi)<;>cases h3:decide (p.hi<=1099511627776)<;>simp_all
theorem adu (p:ax)(t:Int):dO p t=some (St.aS (toP p) t):=by
 unfold dO St.aS;rw[ace,aqo];show(bif St.aK (toP p)then(bif decide (p.lo<=t)then some (decide (t<p.hi))else some false)else some false)=some (St.aK (toP p)&&decide (p.lo<=t)&&decide (t<p.hi))
 cases St.aK (toP p)<;>cases decide (p.lo<=t)<;>rfl
def tlN (n:Int):List Int->List Int
 |[]=>[n]
 |x::l=>if n<x then n::x::l else x::l
theorem J_ (l:List Int)(hl:l.length<=1000000):∀ (n i:Nat) (out:List Int),i<=l.length->l.length-i<n->out.length+(l.length-i)<=4000000->ao (gW l) n (out,(i:Int))=some (.inl (out++l.drop i,(l.length:Int)))
 |0,i,out,_,h,_=>by omega
 |n+1,i,out,hi,hn,ho=>by
  rw[ao];by_cases O0:i<l.length
  ·obtain⟨x,hx⟩:=gol_ O0
   have hd:l.drop i=x::l.drop (i+1):=by rw[aqW O0,(aqp.1 hx).2]
   have hb:gW l (out,(i:Int))=some (.next (out++[x],((i+1:Nat):Int))):=by
    unfold gW;simp only;rw[aO hx,aqs,gn_ hx,aqo,aqu m0,aqs,wrapN m0]
   rw[hb];show ao (gW l) n (out++[x],_)=_;rw[J_ l hl n (i+1) (out++[x]) m0 m0 (by rw[aqy];simp;omega),hd,aqR];rfl
  ·have:i=l.length:=m0
   subst this;have hb:gW l (out,(l.length:Int))=some (.exit (out,(l.length:Int))):=by
    unfold gW;simp only;rw[lF_];rfl
   rw[hb,arn,aqZ]
theorem M4 (l:List Int)(n0:Int)(hl:l.length<=1000000):∀ (n i:Nat) (out:List Int),i<=l.length->l.length-i<n->out.length+(l.length-i)<=2000000 ->
  ∃ j V5,ao (lM l n0) n (out,(i:Int))=some (.inl (V5,((j:Nat):Int)))/\j<=l.length/\out++St.ins n0 (l.drop i)=V5++tlN n0 (l.drop j)/\V5.length+(l.length-j)<=2000000
 |0,i,out,_,h,_=>by omega
 |n+1,i,out,hi,hn,ho=>by
  rw[ao];by_cases O0:i<l.length
  ·obtain⟨x,hx⟩:=gol_ O0
   have hd:l.drop i=x::l.drop (i+1):=by rw[aqW O0,(aqp.1 hx).2]
   have hb:lM l n0 (out,(i:Int))=bif decide (x<n0)then some (.next (out++[x],((i+1:Nat):Int)))else some (.exit (out,(i:Int))):=by
    unfold lM;simp only;rw[aO hx,aqs,gn_ hx,aqo,aqu (show out.length+1<=17592186044416 by omega),aqs,wrapN m0]
   rw[hb];by_cases hlx:x<n0
   ·rw[aqu hlx,aqs]
    obtain⟨j,V5,h1,h2,h3,h4⟩:=M4 l n0 hl n (i+1) (out++[x]) m0 m0 (by rw[aqy];simp;omega);refine⟨j,V5,h1,h2,?_,h4⟩;rw[<- h3,hd,St.ins,if_pos hlx,aqR];rfl
   ·rw[aqt hlx,aqr]
    refine⟨i,out,rfl,hi,?_,ho⟩;rw[hd,St.ins,if_neg hlx,tlN]
  ·have:i=l.length:=m0
   subst this;have hb:lM l n0 (out,(l.length:Int))=some (.exit (out,(l.length:Int))):=by
    unfold lM;simp only;rw[lF_];rfl
   rw[hb];exact⟨l.length,out,rfl,aqG _,by rw[arn];rfl,ho⟩
theorem DV (l:List Int)(n:Int)(hl:l.length<=1000000):vO l n=some (St.ins n l):=by
 obtain⟨j,out,h1,h2,h3,h4⟩:=M4 l n hl fuel 0 [] (aqL _) (by unfold fuel;omega) m8;rw[List.drop_zero,aqv]at h3;have hc:∀ o:List Int,o.length+(l.length-j)<=4000000->ao (gW l) fuel (o,((j:Nat):Int))=some (.inl (o++l.drop j,(l.length:Int))):=λo ho=>J_ l hl fuel j o h2 (by unfold fuel;omega) ho
 unfold vO;rw[show((0:Int))=((0:Nat):Int)from rfl,h1,aqo];show lJ l n (.inl (out,((j:Nat):Int)))=_;unfold lJ;simp only;have hg:decide (out.length+1<=17592186044416)=true:=aqu m0;by_cases hj:j=l.length
 ·rw[aqu (show((j:Nat):Int)=(l.length:Int)by omega),aqs,hg,aqs,hc (out++[n]) (by rw[aqy];simp;omega),aqo,h3,hj,arn]
  show some _=some _;rw[aqZ];rfl
 ·have O0:j<l.length:=m0
  obtain⟨x,hx⟩:=gol_ O0;have hd:l.drop j=x::l.drop (j+1):=by rw[aqW O0,(aqp.1 hx).2]
  rw[aqt (show ¬ ((j:Nat):Int)=(l.length:Int)by omega),aqr,gn_ hx,aqo,hg];rw[show Jc l=gW l from rfl,show JP l=gW l from rfl,h3,hd,tlN];by_cases QH:n<x
  ·rw[aqu QH,aqs,aqs,if_pos QH,hc (out++[n]) (by rw[aqy];simp;omega),aqo]
   show some _=some _;rw[hd,aqR];rfl
  ·rw[aqt QH,aqr,if_neg QH,hc out m0,aqo]
   show some _=some _;rw[hd]
theorem aiV (a:List (Int×Int))(t n:Int):abH (a.map ofS) t n=(St.dy a (t,n)).map ofS:=by
 unfold St.dy;obtain rfl|⟨m,q,rfl⟩:=li a
 ·rfl
 ·rw[List.getLast?_concat,aqD,aqB,aqF,xc]
  show(if q.2=n then _ else _)=_;by_cases h:q.2=n
  ·rw[if_pos h,if_pos (by show some q.2=some n;rw[h]),aqD];rfl
  ·rw[if_neg h,if_neg (by show ¬ some q.2=some n;intro e;exact h (aqX e)),aqD,aqD];rfl
theorem agD (l:List tm)(x:Int):∀ (n i:Nat) (a:Int),i<=l.length->l.length-i<n->l.length<=1000000->ao (pU l x) n (a,(i:Int))=some (.inl ((l.drop i).foldl (λn c=>if St.aS (toC c).1 x then wrap64 (n+(toC c).2)else n) a,(l.length:Int)))
 |0,i,a,_,h,_=>by omega
 |n+1,i,a,hi,hn,hl=>by
  rw[ao];by_cases O0:i<l.length
  ·obtain⟨c,hc⟩:=gol_ O0
   have hb:pU l x (a,(i:Int))=some (.next ((if St.aS (toC c).1 x then wrap64 (a+(toC c).2)else a),((i+1:Nat):Int))):=by
    unfold pU;dsimp only;rw[aO hc,aqs,gn_ hc,aqo,adu,aqo,wrapN m0,aiD];show(bif St.aS (toC c).1 x then _ else _)=_
    cases St.aS (toC c).1 x<;>rfl
   rw[hb,aqW O0,(aqp.1 hc).2,arh];exact agD l x n (i+1) _ m0 m0 hl
  ·have:i=l.length:=m0
   subst this;have hb:pU l x (a,(l.length:Int))=some (.exit (a,(l.length:Int))):=by
    unfold pU;dsimp only;rw[lF_];rfl
   rw[hb,arn];rfl
theorem agU (l:List tm)(hl:l.length<=1000000):∀ (n i:Nat) (p:List Int),i<=l.length->l.length-i<n->p.length+2*(l.length-i)<=900000 ->∃ q,ao (o_ l) n (p,(i:Int))=some (.inl (q,(l.length:Int)))/\q=(l.drop i).foldl (λp c=>if St.aK (toC c).1 then St.ins (toC c).1.2 (St.ins (toC c).1.1 p)else p) p/\q.length<=900000
 |0,i,p,_,h,_=>by omega
 |n+1,i,p,hi,hn,hp=>by
  rw[ao];by_cases O0:i<l.length
  ·obtain⟨c,hc⟩:=gol_ O0
   have h1:=St.tq (toC c).1.1 p;have h2:=St.tq (toC c).1.2 (St.ins (toC c).1.1 p);have hb:o_ l (p,(i:Int))=some (.next ((if St.aK (toC c).1 then St.ins (toC c).1.2 (St.ins (toC c).1.1 p)else p),((i+1:Nat):Int))):=by
    unfold o_;dsimp only;rw[aO hc,aqs,gn_ hc,aqo,ace,aqo,wrapN m0,DV _ _ m0,aqo];show(bif St.aK (toC c).1 then(vO (St.ins (toC c).1.1 p) (toC c).1.2).bind _ else _)=_;rw[DV _ _ m0,aqo]
    cases St.aK (toC c).1<;>rfl
   rw[hb,aqW O0,(aqp.1 hc).2,arh];exact agU l hl n (i+1) _ m0 m0 (by split<;>omega)
  ·have:i=l.length:=m0
   subst this;have hb:o_ l (p,(l.length:Int))=some (.exit (p,(l.length:Int))):=by
    unfold o_;dsimp only;rw[lF_];rfl
   rw[hb,arn];exact⟨p,rfl,rfl,m0⟩
theorem ag2 (l:List tm)(P:List Int)(hl:l.length<=100000)(hP:P.length<=1000000):∀ (n k:Nat) (o:List Stp),k<=P.length->P.length-k<n->o.length+(P.length-k)<=900000 ->∃ j,ao (kW l P) n (o,(k:Int))=some (.inl (((P.drop k).takeWhile λp=>decide (p<1099511627776)).foldl (λo x=>abH o x (St.jZ (l.map toC) x)) o,j))
 |0,k,o,_,h,_=>by omega
 |n+1,k,o,hk,hn,ho=>by
  rw[ao];by_cases O0:k<P.length
  ·obtain⟨x,hx⟩:=gol_ O0
   rw[aqW O0,(aqp.1 hx).2,List.takeWhile_cons];by_cases hF:x<1099511627776
   ·have hs:=agD l x fuel 0 0 (aqL _) (by unfold fuel;omega) m0
    have hr:(l.drop 0).foldl (λn c=>if St.aS (toC c).1 x then wrap64 (n+(toC c).2)else n) 0=St.jZ (l.map toC) x:=by
     unfold St.jZ;rw[List.drop_zero,List.foldl_map]
    rw[hr,show((0:Nat):Int)=0 from rfl]at hs;have hb:kW l P (o,(k:Int))=some (.next (abH o x (St.jZ (l.map toC) x),((k+1:Nat):Int))):=by
     unfold kW;dsimp only;rw[aO hx,aqs,gn_ hx,aqo,aqu hF,aqs,hs,aqo];unfold AP aft;dsimp only;rw[aqu (show o.length<=1000000 by omega),aqs,aqo,wrapN m0]
    have:=adR o x (St.jZ (l.map toC) x);rw[hb,if_pos (aqu hF),arh];exact ag2 l P hl hP n (k+1) _ m0 m0 m0
   ·have hb:kW l P (o,(k:Int))=some (.exit (o,(k:Int))):=by
     unfold kW;dsimp only;rw[aO hx,aqs,gn_ hx,aqo,aqt hF,aqr]
    rw[hb,if_neg m8];exact⟨_,rfl⟩
  ·have:k=P.length:=m0
   subst this;have hb:kW l P (o,(P.length:Int))=some (.exit (o,(P.length:Int))):=by
    unfold kW;dsimp only;rw[lF_];rfl
   rw[hb,arn];exact⟨_,rfl⟩
theorem abJ (f:Int->Int):∀ (P:List Int) (a:List (Int×Int)),P.foldl (λo x=>abH o x (f x)) (a.map ofS)=(P.foldl (λa p=>St.dy a (p,f p)) a).map ofS
 |[],a=>rfl
 |x::P,a=>by rw[arh,arh,aiV,abJ f P]
theorem ahA (l:List tm)(hl:l.length<=100000):alo l=some (xW l):=by
 obtain⟨q,h1,h2,h3⟩:=agU l m0 fuel 0 [0] (aqL _) (by unfold fuel;omega) m8;obtain⟨j,h4⟩:=ag2 l q hl m0 fuel 0 [] (aqL _) (by unfold fuel;omega) m8;rw[show((0:Nat):Int)=0 from rfl]at h1 h4;unfold alo;rw[h1,aqo];unfold Bd;dsimp only;rw[h4,aqo];show some _=some _;rw[List.drop_zero];have e:(q.takeWhile λp=>decide (p<1099511627776))=St.eU (l.map toC):=by
  rw[h2];unfold St.eU St.G2;rw[List.drop_zero,List.foldl_map]
 rw[e];exact congrArg some (abJ _ _ [])
theorem ad_ (l:List tm)(hn:l.length<=100000):PTz 210 [.one (.lst (l.map uC))] (.val (.one (.lst ((xW l).map gK)))):=gOf4_ok (ahA l hn)
noncomputable section
def OI (Pe:ax)(PN:ax):Option (Int):=bif (cl [.c (.int .i64 Pe.lo),.c (.int .i64 Pe.hi)] [.c (.int .i64 PN.lo),.c (.int .i64 PN.hi)])then some (0:Int)else
 bif Pe.lo<PN.lo then some (-1:Int)else
 bif Pe.lo=PN.lo then bif Pe.hi<PN.hi then some (-1:Int)else
 some (1:Int)else
 some (1:Int)
theorem afn {Pe:ax}{PN:ax}{r:Int}(H:OI Pe PN=some r):PTz 211 [.agg (aP Pe),.agg (aP PN)] (.val (.one (.int .i64 r))):=by
 unfold OI at H;refine po_ Tryz.func211 Tryz.ntmps211 ?_;obtain⟨QM,H⟩|⟨QM,H⟩:=aj H
 ·cases H
  exact LI
 obtain⟨Qr,H⟩|⟨Qr,H⟩:=aj H
 ·cases H
  exact LI
 obtain⟨P9,H⟩|⟨P9,H⟩:=aj H
 ·obtain⟨Qf,H⟩|⟨Qf,H⟩:=aj H
  ·cases H
   exact LI
  cases H;exact LI
 cases H;exact LI
def fx (OZ:(List ax))(Pe:ax):((List ax)×Int)->Option (Step ((List ax)×Int) ((List ax))):=λs=>match s with
 |(OV,i_2)=>bif i_2<(OZ.length:Int)then(aF OZ i_2).bind λPK=>(OI PK Pe).bind λPW=>bif PW<=(0:Int)then bif OV.length+1<=8796093022208 then(some (.next ((OV++[PK]),(i64.wrap (i_2+(1:Int))))))else none else
 some (.exit (OV,i_2))else
 some (.exit (OV,i_2))
def iS (OZ:(List ax))(Pe:ax):Sum ((List ax)×Int) ((List ax))->Option (((List ax)))
 |.inl (OV,i_2)=>bif OV.length+1<=8796093022208 then((gU OZ i_2 (OZ.length:Int)).bind λU3=>bif OV.length+U3.length+1<=8796093022208 then(some (OV++[Pe]++U3))else none)else none
 |.inr q=>some q
def xt (OZ:(List ax))(Pe:ax):Option ((List ax)):=(ao (fx OZ Pe) fuel ([],(0:Int))).bind (iS OZ Pe)
theorem MN {OZ:(List ax)}{Pe:ax}{r:(List ax)}(H:xt OZ Pe=some r):PTz 153 [.one (.lst (OZ.map aP)),.agg (aP Pe)] (.val (.one (.lst (r.map aP)))):=by
 unfold xt at H;refine po_ Tryz.func153 Tryz.ntmps153 ?_;refine a6 ?_;refine bS 5 2 rfl ?_;refine alM_ (λs:(List ax)×Int=>match s with|(OV,i_2)=>[(0,.one (.c (.lst (OZ.map aP)))),(3,.one (.ptr 0 0)),(5,.one (.own (OV.map aP) 1)),(6,.one (.c (.int .i64 i_2)))]) (λs=>match s with|(OV,i_2)=>[.box [.c (.int .i64 Pe.lo),.c (.int .i64 Pe.hi)],.spare OV.length 2]) H (λ_=>aqL _)
  (fm_ bE [] rfl bm cm) ?_
 rintro⟨OV,i_2⟩ QF OU Pz;unfold fx at OU;dsimp only at OU ⊢;obtain⟨P9,OU⟩|⟨P9,OU⟩:=aj OU
 ·obtain⟨PK,Rw,i1,Ri,OU⟩:=br (f:=aP) OU
  obtain⟨PW,c2,OU⟩:=bd_ OU;replace c2:=afn c2;obtain⟨QG,OU⟩|⟨QG,OU⟩:=aj OU
  ·obtain⟨g3,OU⟩:=aL OU
   cases OU;refine a6 ?_;exact⟨_,rfl,fm_ sg [] qG bm cm⟩
  cases OU;have O2:iS OZ Pe (.inl (OV,i_2))=some _:=Pz;unfold iS at O2;dsimp only at O2;obtain⟨g4,O2⟩:=aL O2;obtain⟨U3,u5,O2⟩:=bd_ O2;obtain⟨⟨u5a,u5b,u5c⟩,u5⟩:=cQ u5;have VY:=zm (f:=aP) u5;have u5y:List.drop i_2.toNat (List.take ((((OZ.map aP).length:Nat):Int)).toNat (OZ.map aP))=U3.map aP:=by rw[aqC];exact VY
  obtain⟨g6,O2⟩:=aL O2
  cases O2
  repeat' (first|rw[u5y]|refine gs_ ?_|rw[VY]|rw[show((0:Nat):Int)=0 from rfl])
  refine aX (bg rfl ?_ ?_)
  ·repeat' (first|exact t7|rfl|exact aqA rfl|omega|apply And.intro)
  ·first|rfl|(simp only[aqD,aqB,aqF,aqv]<;>rfl)
 cases OU;have O2:iS OZ Pe (.inl (OV,i_2))=some _:=Pz;unfold iS at O2;dsimp only at O2;obtain⟨g7,O2⟩:=aL O2;obtain⟨U3,u8,O2⟩:=bd_ O2;obtain⟨⟨u8a,u8b,u8c⟩,u8⟩:=cQ u8;have u8x:=zm (f:=aP) u8;have u8y:List.drop i_2.toNat (List.take ((((OZ.map aP).length:Nat):Int)).toNat (OZ.map aP))=U3.map aP:=by rw[aqC];exact u8x
 obtain⟨g9,O2⟩:=aL O2
 cases O2
 repeat' (first|rw[u8y]|refine gs_ ?_|rw[u8x]|rw[show((0:Nat):Int)=0 from rfl])
 refine aX (bg rfl ?_ ?_)
 ·repeat' (first|exact t7|rfl|exact aqA rfl|omega|apply And.intro)
 ·first|rfl|(simp only[aqD,aqB,aqF,aqv]<;>rfl)
def abe (l:List Stp)(n:Int):Option (List ax):=bif decide (l.length<=100000)then some (Ni n l [])else none
theorem adE {l:List Stp}{n:Int}{r:List ax}(H:abe l n=some r):PTz 152 [.one (.lst (l.map gK)),.one (.int .i64 n)] (.val (.one (.lst (r.map aP)))):=by
 unfold abe at H;obtain⟨g,H⟩:=aL H
 cases H;exact ad' l n g
def lR (Qm:(List ax)):((List ax)×Int)->Option (Step ((List ax)×Int) ((List ax))):=λs=>match s with
 |(Qj,i_7)=>bif i_7<(Qm.length:Int)then(aF Qm i_7).bind λUK=>(xt Qj UK).bind λP7=>some (.next (P7,(i64.wrap (i_7+(1:Int)))))else
 some (.exit (Qj,i_7))
def uT (SY:Int):Sum ((List ax)×Int) ((List ax))->Option (Step ((List ax)×Int) ((List ax)))
 |.inl (Qj,i_7)=>some (.next (Qj,(i64.wrap (SY+(1:Int)))))
 |.inr q=>some (.ret q)
def lO (OZ:(List Stp)):((List ax)×Int)->Option (Step ((List ax)×Int) ((List ax))):=λs=>match s with
 |(OV,SY)=>bif SY<=(1048576:Int)then(abe OZ SY).bind λQm=>bif (Qm.length:Int)=(0:Int)then some (.ret OV)else
 (ao (lR Qm) fuel (OV,(0:Int))).bind (uT SY)else
 some (.exit (OV,SY))
def nP:Sum ((List ax)×Int) ((List ax))->Option (((List ax)))
 |.inl (OV,SY)=>some OV
 |.inr q=>some q
def aed (OZ:(List Stp)):Option ((List ax)):=(ao (lO OZ) fuel ([],(1:Int))).bind (nP)
theorem aev {OZ:(List Stp)}{r:(List ax)}(H:aed OZ=some r):PTz 94 [.one (.lst (OZ.map gK))] (.val (.one (.lst (r.map aP)))):=by
 unfold aed at H;refine po_ Tryz.func94 Tryz.ntmps94 ?_;refine a6 ?_;refine aby 3 rfl rfl ?_;refine alM_ (λs:(List ax)×Int=>match s with|(OV,SY)=>[(0,.one (.c (.lst (OZ.map gK)))),(3,.one (.c (.lst (OV.map aP)))),(4,.one (.c (.int .i64 SY)))]) (λs=>match s with|(OV,SY)=>[]) H (λ_=>aqL _)
  (fm_ bE [] rfl bm trivial) ?_
 rintro⟨OV,SY⟩ st3 Py R3;unfold lO at Py;dsimp only at Py ⊢;obtain⟨P9,Py⟩|⟨P9,Py⟩:=aj Py
 ·obtain⟨Qm,c1,Py⟩:=bd_ Py
  replace c1:=adE c1;obtain⟨Q6,Py⟩|⟨Q6,Py⟩:=aj Py
  ·cases Py
   have Sm:nP (.inr OV)=some _:=R3;unfold nP at Sm;dsimp only at Sm
   cases Sm;exact LI
  refine a6 ?_;refine alM_ (λs:(List ax)×Int=>match s with|(Qj,i_7)=>[(0,.one (.c (.lst (OZ.map gK)))),(3,.one (.c (.lst (Qj.map aP)))),(4,.one (.c (.int .i64 SY))),(5,.one (.c (.lst (Qm.map aP)))),(6,.one (.c (.int .i64 i_7)))]) (λs=>match s with|(Qj,i_7)=>[]) Py (λ_=>aqL _)
   (fm_ bE [] rfl bm trivial) ?_
  rintro⟨Qj,i_7⟩ st4 O4 hk4;unfold lR at O4;dsimp only at O4 ⊢;obtain⟨Si,O4⟩|⟨Si,O4⟩:=aj O4
  ·obtain⟨UK,U0,i2,U2,O4⟩:=br (f:=aP) O4
   obtain⟨P7,c3,O4⟩:=bd_ O4;replace c3:=MN c3
   cases O4;refine a6 ?_;exact⟨_,rfl,fm_ sg [] rfl bm trivial⟩
  cases O4;have Qo:uT SY (.inl (Qj,i_7))=some _:=hk4;unfold uT at Qo;dsimp only at Qo
  cases Qo;refine a6 ?_;exact⟨_,rfl,fm_ sg [] rfl bm trivial⟩
 cases Py;have Sm:nP (.inl (OV,SY))=some _:=R3;unfold nP at Sm;dsimp only at Sm
 cases Sm;exact LI
end
