/- Parts. No condition. -/
import Derived.Test.YtlcceppoloaecaaGreatDoorKBR
set_option maxHeartbeats 8000000
set_option maxRecDepth 100000
set_option linter.unusedSimpArgs false
set_option linter.unusedVariables false
namespace Go.Proofs.YtlcceppoloaecaaGreatDoor
open IntKind (i64)
open Go.RowKit Go.MapKept
structure Gm where
 a:bj
 b:bj
def zb (x:Gm):List AC:=[.lst (x.a.kinds.map (λx=>[AC.int .i64 x])),.lst (x.a.facts.map aH),.lst (x.b.kinds.map (λx=>[AC.int .i64 x])),.lst (x.b.facts.map aH)]
structure yl where
 kinds:(List Int)
 rows:(List (List Val))
def K5 (x:yl):List AC:=[.lst (x.kinds.map (λx=>[AC.int .i64 x])),.lst (x.rows.map (λx=>[AC.lst (x.map cV)]))]
def mS (OX:(List (List Val)))(OY:(List (List Val))):(Int)->Option (Step (Int) (Bool)):=λs=>match s with
 |i_2=>bif i_2<(OX.length:Int)then(aF OX i_2).bind λPK=>(aF OY i_2).bind λQa=>(iJ PK Qa).bind λP1=>bif (!P1)then some (.ret false)else
 some (.next (i64.wrap (i_2+(1:Int))))else
 some (.exit i_2)
def abK:Sum (Int) (Bool)->Option ((Bool))
 |.inl i_2=>some true
 |.inr q=>some q
def rY (OX:(List (List Val)))(OY:(List (List Val))):Option (Bool):=bif (OX.length:Int)≠(OY.length:Int)then some false else
 (ao (mS OX OY) fuel (0:Int)).bind (abK)
instance gSameRows_ok {OX : (List (List Val))} {OY : (List (List Val))} {r : Bool} : OkC (rY OX OY = some r) (PTz 68 [.one (.lst (OX.map (λx => [AC.lst (x.map cV)]))), .one (.lst (OY.map (λx => [AC.lst (x.map cV)])))] (.val (.one (.bool r)))) := .mk λH => by
 unfold rY at H;refine po_ Tryz.func68 Tryz.ntmps68 ?_;obtain⟨QM,H⟩|⟨QM,H⟩:=aj H
 ·exact ay H
 refine a6 ?_;refine alM_ (λs:Int=>match s with|i_2=>[(0,.one (.c (.lst (OX.map (λx=>[AC.lst (x.map cV)]))))),(1,.one (.c (.lst (OY.map (λx=>[AC.lst (x.map cV)]))))),(5,.one (.c (.int .i64 i_2)))]) (λs=>match s with|i_2=>[]) H (λ_=>aqL _)
  (fm_ bE [] rfl bm trivial) ?_
 rintro i_2 QF OU Pz;unfold mS at OU;dsimp only at OU ⊢;obtain⟨P9,OU⟩|⟨P9,OU⟩:=aj OU
 ·obtain⟨PK,Rw,i1,Ri,OU⟩:=br (f:=(λx=>[AC.lst (x.map cV)])) OU
  obtain⟨Qa,U0,i2,U2,OU⟩:=br (f:=(λx=>[AC.lst (x.map cV)])) OU;obtain⟨P1,c3,OU⟩:=bd_ OU;replace c3:=gEqual8_ok c3;obtain⟨R_,OU⟩|⟨R_,OU⟩:=aj OU
  ·exact bA OU Pz
  cases OU;refine a6 ?_;exact⟨_,rfl,fm_ bE [] rfl bm trivial⟩
 exact bA OU Pz
def qJ (OX:yl)(OY:yl):Option (Bool):=(iM OX.kinds OY.kinds).bind λO7=>bif O7 then(rY OX.rows OY.rows).bind λPY=>some PY else
 some false
instance gExactly_ok {OX : yl} {OY : yl} {r : Bool} : OkC (qJ OX OY = some r) (PTz 27 [.agg (K5 OX), .agg (K5 OY)] (.val (.one (.bool r)))) := .mk λH => by
 unfold qJ at H;refine po_ Tryz.func27 Tryz.ntmps27 ?_;exact ay H
noncomputable section
def JQ (OZ:(List ap))(Qc:Int):((List (List Val))×Int)->Option (Step ((List (List Val))×Int) ((List (List Val)))):=λs=>match s with
 |(OV,i_2)=>bif i_2<(OZ.length:Int)then(aF OZ i_2).bind λPK=>(dO PK.valid Qc).bind λPW=>bif PW then bif OV.length+1<=5864062014805 then(some (.next ((OV++[PK.row]),(i64.wrap (i_2+(1:Int))))))else none else
 some (.next (OV,(i64.wrap (i_2+(1:Int)))))else
 some (.exit (OV,i_2))
def adG:Sum ((List (List Val))×Int) ((List (List Val)))->Option (((List (List Val))))
 |.inl (OV,i_2)=>(uO OV).bind λQk=>some Qk
 |.inr q=>some q
def aeW (OZ:(List ap))(Qc:Int):Option ((List (List Val))):=(ao (JQ OZ Qc) fuel ([],(0:Int))).bind (adG)
instance gAt22_ok {OZ : (List ap)} {Qc : Int} {r : (List (List Val))} : OkC (aeW OZ Qc = some r) (PTz 67 [.one (.lst (OZ.map aH)), .one (.int .i64 Qc)] (.val (.one (.lst (r.map (λx => [AC.lst (x.map cV)])))))) := .mk λH => by
 unfold aeW at H;refine po_ Tryz.func67 Tryz.ntmps67 ?_;refine a6 ?_;refine bS 5 1 rfl ?_;refine alM_ (λs:(List (List Val))×Int=>match s with|(OV,i_2)=>[(0,.one (.c (.lst (OZ.map aH)))),(1,.one (.c (.int .i64 Qc))),(5,.one (.own (OV.map (λx=>[AC.lst (x.map cV)])) 0)),(6,.one (.c (.int .i64 i_2)))]) (λs=>match s with|(OV,i_2)=>[.spare OV.length 1]) H (λ_=>aqL _)
  (fm_ bE [] rfl bm cm) ?_
 rintro⟨OV,i_2⟩ QF OU Pz;exact bA OU Pz
def D8 (OZ:(List ap)):Option (Bool):=(mj OZ).bind λO7=>(gX OZ O7).bind λQd=>some Qd
instance gCanon_ok {OZ : (List ap)} {r : Bool} : OkC (D8 OZ = some r) (PTz 29 [.one (.lst (OZ.map aH))] (.val (.one (.bool r)))) := .mk λH => by
 unfold D8 at H;refine po_ Tryz.func29 Tryz.ntmps29 ?_;exact ay H
end
theorem KG (l:List (List Val))(h:l.length<=1000000)(hr:∀ r∈l,r.length<=1000000):rY l l=some true:=by
 unfold rY;simp only[ne_eq,not_true_eq_false,decide_false,aqr];rw[bX (l:=l) (mk:=λ(_:Unit) i=>i) (f:=λ(_:Unit) (x:List Val)=>((iJ x x).bind λr=>bif (!r)then some (.inr false)else some (.inl ()):Option (Sum Unit Bool))) ?_ ?_ (by unfold fuel;omega) ()]
 ·have:∀ l:List (List Val),(∀ r∈l,r.length<=1000000)->cA (λ(_:Unit) (x:List Val)=>((iJ x x).bind λr=>bif (!r)then some (.inr false)else some (.inl ()):Option (Sum Unit Bool))) () l=some (.inl ()):=by
   intro l
   induction l with
   |nil=>intro _;rfl
   |cons x l ih =>
    intro hr;have hx:=hr x (arc ..);have e:iJ x x=some true:=by
     unfold iJ;rw[jx x x m0 m0,tCr_.refl];rfl
    rw[cA,e];exact ih λr Xb=>hr r (aqO _ Xb)
  rw[this l hr];rfl
 ·intro s i x hx
  have hi:i<l.length:=(aqp.1 hx).1;unfold mS;dsimp only;rw[aO hx,aqs,gn_ hx];simp only[aqo];rw[wrapN m0]
  cases iJ x x with
  |none=>rfl
  |some r=>cases r<;>rfl
 ·intro s
  unfold mS;dsimp only;rw[lF_,aqr]
theorem yi (b:yl)(h1:b.kinds.length<=1000000)(h2:b.rows.length<=1000000)(h3:∀ r∈b.rows,r.length<=1000000):qJ b b=some true:=by
 unfold qJ;rw[l8 _ h1];simp only[aqo,aqs];rw[KG _ h2 h3];rfl
theorem apb {α:Type}:∀ {l:List α},l.length=4 ->∃ c0 c1 c2 c3,l=[c0,c1,c2,c3]
 |[c0,c1,c2,c3],_=>⟨c0,c1,c2,c3,rfl⟩
structure acs (x:Gm):Prop where
 a:mg x.a
 b:mg x.b
section
variable {H:Type} {enc:TypeId × Value->H} {W:World} {hT:ir (λb o=>W.cell? ⟨b,o,none⟩)} {base:Nat} {spare:Nat->Bool} {held:Bool}
theorem akM:∀ (fuel:Nat) {cs:List Value} {x:DataW H×List MemPlace},DataW.trod enc Tryz.prog W base spare held fuel 41 cs=some x->nr 41 x.1 ->∃ a:Gm,ji hT cs (zb a)/\acs a:=by
 intro fuel;intro cs x h hw;obtain⟨xs,n,hfu,hxe,hlen,S4,hf⟩:=DataW.trod_struct Tryz.underlying41 h;rw[show Tryz.prog.cellsOf 41=4 by kernel_rfl]at hlen;obtain⟨c0,c1,c2,c3,rfl⟩:=apb hlen;obtain⟨y0,h0,w0⟩:=uG Tryz.underlying41 hxe hw S4 hf 0 (t:=31) (o:=0) (k:=2) rfl rfl rfl k7;replace h0:DataW.trod enc Tryz.prog W base spare held n 31 [c0,c1]=some y0:=h0;obtain⟨l0,r0,q0⟩:=sI n h0 w0;obtain⟨y1,h1,w1⟩:=uG Tryz.underlying41 hxe hw S4 hf 1 (t:=31) (o:=2) (k:=2) rfl rfl rfl k7;replace h1:DataW.trod enc Tryz.prog W base spare held n 31 [c2,c3]=some y1:=h1;obtain⟨l1,r1,q1⟩:=sI n h1 w1;exact⟨⟨l0,l1⟩,(r0.app r1),⟨q0,q1⟩⟩
end
noncomputable section
def Ge (Tj:bj)(Qc:Int):Option (yl):=(aeW Tj.facts Qc).bind λO7=>some (⟨Tj.kinds,O7⟩:yl)
instance gSnap_ok {Tj : bj} {Qc : Int} {r : yl} : OkC (Ge Tj Qc = some r) (PTz 26 [.agg (aW Tj), .one (.int .i64 Qc)] (.val (.agg (K5 r)))) := .mk λH => by
 unfold Ge at H;refine po_ Tryz.func26 Tryz.ntmps26 ?_;exact ay H
end
open Go.RowKit
theorem Ju (l:List ap)(t:Int):(aD l t).length<=l.length:=by unfold aD;rw[aqC];exact List.length_filter_le _ _
theorem LC {l:List ap}{t:Int}{r:List Val}(h:r∈aD l t):∃ f∈l,f.row=r:=by
 obtain⟨f,hf,rfl⟩:=aq0.1 h;exact⟨f,(List.mem_filter.1 hf).1,rfl⟩
theorem Hy (p:ax)(t:Int):dO p t=some (aM p t):=by
 rw[qz,lB];rfl
theorem alh (l:List ap)(t:Int)(hn:l.length<=300)(hr:∀ f∈l,f.row.length<=1000000):aeW l t=some (gL (aD l t)):=by
 unfold aeW;have e:(l.flatMap λf=>if aM f.valid t=true then [f.row]else [])=aD l t:=by
  unfold aD
  induction l with
  |nil=>rfl
  |cons f l ih =>
   rw[aq3,ih (by simp at hn;omega) (λg hg=>hr g (aqO _ hg)),List.filter_cons];split<;>rfl
 have hl:(aD l t).length<=l.length:=by unfold aD;rw[aqC];exact List.length_filter_le _ _
 rw[cn (l:=l) (λf=>if aM f.valid t=true then [f.row]else []) 5864062014805 ?_ ?_ (by unfold fuel;omega) [] (by rw[e];simp only[aqV];omega)]
 ·rw[aqo,e,aqv]
  unfold adG;dsimp only;rw[xB _ m0 (λr hrr=>by
   unfold aD at hrr;obtain⟨f,hf,rfl⟩:=aq0.1 hrr;exact hr f (List.mem_filter.1 hf).1)]
  rfl
 ·intro o i x hx ho
  have hi:=(aqp.1 hx).1;unfold JQ;dsimp only;rw[aO hx,aqs,gn_ hx];simp only[aqo];rw[Hy,aqo];by_cases hv:aM x.valid t=true
  ·rw[if_pos hv]at ho ⊢
   rw[hv,aqs,show decide (o.length+1<=5864062014805)=true from aqu (by simpa using ho),aqs,wrapN m0]
  ·rw[if_neg hv]
   rw[Bool.not_eq_true]at hv;rw[hv,aqr,wrapN m0,aqZ]
 ·intro o
  unfold JQ;dsimp only;rw[lF_,aqr]
theorem MW {a b:List (List Val)}(h:a.Perm b):gL a=gL b :=
 tU tCr_ (xe a) (xe b) ((cO a).trans (h.trans (cO b).symm))
theorem Gy {l:List ap}(hn:l.length<=300):canon (canon l)=canon l:=rX (Nat.le_trans (jk hn) hn) hn (jF hn)
theorem BL {l:List ap}(h:bz l):D8 (canon l)=some true:=by
 unfold D8;rw[gF (bH h),aqo,Gy (by have:=h.1;omega),pO (bH h)];rfl
theorem fW (p:ax)(t:Int):aM p t=true↔aw p=true/\p.lo<=t/\t<p.hi:=by
 constructor
 ·intro h
  have hv:aw p=true:=by
   have h2:St.aS (toP p) t=true:=h;unfold St.aS at h2;rw[aqI,aqI]at h2;exact h2.1.1
  obtain⟨a,b,c⟩:=gP hv;exact⟨hv,(cH ⟨a,b,c⟩ t).1 h⟩
 ·rintro⟨hv,h⟩
  obtain⟨a,b,c⟩:=gP hv;exact(cH ⟨a,b,c⟩ t).2 h
theorem nJ (p:ax):aw p=true↔0<=p.lo/\p.lo<p.hi/\p.hi<=1099511627776:=by
 constructor
 ·exact gP
 ·rintro⟨a,b,c⟩
  unfold aw;rw[aqu a,aqu b,aqu c];rfl
def ovB (p q:ax):Bool:=aw p&&(aw q&&(decide (p.lo<q.hi)&&decide (q.lo<p.hi)))
theorem DW (p q:ax):ovB p q=true↔aw p=true/\aw q=true/\p.lo<q.hi/\q.lo<p.hi:=by
 unfold ovB;generalize aw p=a;generalize aw q=b;rw[aqI,aqI,aqI,decide_eq_true_iff,decide_eq_true_iff]
def alv (p q:ax):ax:=⟨max p.lo q.lo,min p.hi q.hi⟩
theorem LH {a b:Bool}(h:a=true↔b=true):a=b:=by
 cases a<;>cases b<;>simp_all
theorem adF {p q:ax}(h:ovB p q=true)(t:Int):aM (alv p q) t=(aM p t&&aM q t):=by
 obtain⟨hp,hq,h1,h2⟩:=(DW p q).1 h;have X5:=(nJ p).1 hp;have WV:=(nJ q).1 hq;refine LH ?_;rw[aqI,fW,fW,fW,nJ,hp,hq];show((0<=max p.lo q.lo/\max p.lo q.lo<min p.hi q.hi/\min p.hi q.hi<=1099511627776)/\max p.lo q.lo<=t/\t<min p.hi q.hi)↔_;simp only[true_and];omega
theorem acO {p q:ax}(h:ovB p q=false)(t:Int):(aM p t&&aM q t)=false:=by
 cases hc:(aM p t&&aM q t)with
 |false=>rfl
 |true =>
  rw[aqI,fW,fW]at hc;obtain⟨⟨hp,h1,h2⟩,hq,h3,h4⟩:=hc;have:ovB p q=true:=(DW p q).2 ⟨hp,hq,m0,m0⟩;rw[h]at this;cases this
theorem gS (f:ap)(l:List ap)(t:Int):aD (f::l) t=(if aM f.valid t=true then [f.row]else [])++aD l t:=by
 unfold aD;rw[List.filter_cons];split<;>rfl
theorem oL (r:List Val)(p:ax)(t:Int):aD [⟨r,p⟩] t=if aM p t=true then [r]else []:=by
 rw[gS];exact aqZ _
def da (e:Ex)(b:List (List Val))(x:List Val):List (List Val):=b.flatMap λy=>bif iz e (x++y)then [x++y]else []
theorem mQ (g:ap->List ap)(k:List Val->List (List Val))(t:Int):∀ l:List ap,(∀ f∈l,aD (g f) t=if aM f.valid t=true then k f.row else [])->aD (l.flatMap g) t=(aD l t).flatMap k
 |[],_=>rfl
 |f::l,h=>by
  rw[aq3,cR,h f m5,mQ g k t l λf hf=>h f (by simp[hf]),gS,List.flatMap_append];by_cases hc:aM f.valid t=true
  ·rw[if_pos hc,if_pos hc];simp
  ·rw[if_neg hc,if_neg hc];rfl
theorem aay {p q:ax}(h:jY p q=true)(t:Int):aM (o8 p q) t=(aM p t&&aM q t):=by
 obtain⟨h1,h2,h3,h4⟩:=(th p q).1 h;exact adF ((DW p q).2 ⟨h1,h2,h3,h4⟩) t
theorem aeU {p q:ax}(h:jY p q=false)(t:Int):(aM p t&&aM q t)=false:=by
 refine acO ?_ t
 cases hb:ovB p q with
 |false=>rfl
 |true=>rw[(th p q).2 ((DW p q).1 hb)]at h;cases h
theorem anB (e:Ex)(x y:ap)(t:Int):aD (jnY e x y) t=if aM x.valid t=true then(if aM y.valid t=true then(bif iz e (x.row++y.row)then [x.row++y.row]else [])else [])else []:=by
 unfold jnY cT
 cases ho:jY x.valid y.valid with
 |false =>
  have:=aeU ho t;rw[Bool.false_and,aqr]
  cases h1:aM x.valid t<;>cases h2:aM y.valid t<;>rw[h1,h2]at this<;>first|rfl|cases this
 |true =>
  have:=aay ho t;rw[aqY]
  cases hs:iz e (x.row++y.row)with
  |false=>rw[aqr,aqr];cases aM x.valid t<;>cases aM y.valid t<;>rfl
  |true =>
   rw[aqs,aqs,oL,this]
   cases aM x.valid t<;>cases aM y.valid t<;>rfl
theorem akz (e:Ex)(x:ap)(t:Int):∀ b:List ap,aD (jnX e b x) t=if aM x.valid t=true then da e (aD b t) x.row else []
 |[]=>by cases aM x.valid t<;>rfl
 |y::b=>by
  show aD (jnY e x y++jnX e b x) t=_;rw[cR,anB,akz e x t b,gS];unfold da;rw[List.flatMap_append]
  cases aM x.valid t<;>cases aM y.valid t<;>simp
theorem alg (e:Ex)(a b:List ap)(t:Int):aD (uB e a b) t=(aD a t).flatMap (da e (aD b t)) :=
 mQ _ _ t a λx _=>akz e x t b
theorem abO (r:List Val)(t:Int):∀ {l:List ax},b8 l->aD (bQ r l) t=if eI l t=true then [r]else []
 |[],_=>rfl
 |p::l,h=>by
  have hp:=h.val p m5;have hl:b8 l:=h.2.2;show aD ((⟨r,p⟩:ap)::bQ r l) t=_;rw[gS,abO r t hl,lU,hp,aqY,xr h t,lU,hp,aqY];have hc:aM p t=F7 p t:=LH (by rw[fW,fK,hp];simp);rw[show aM (⟨r,p⟩:ap).valid t=F7 p t from hc];by_cases h1:F7 p t=true
  ·have:=(fK p t).1 h1
   rw[h1,aqt (show ¬ p.hi<=t by omega)];rfl
  ·have h1f:F7 p t=false:=by cases hh:F7 p t with|false=>rfl|true=>exact absurd hh h1
   rw[h1f]
   cases decide (p.hi<=t)<;>cases eI l t<;>rfl
theorem aaU {p:ax}(hp:aw p=true)(t:Int):aM p t=F7 p t:=LH (by rw[fW,fK,hp];simp)
theorem aep (e:Ex)(r:List Val)(B:List (List Val)):(da e B r).isEmpty = !(B.any λs=>iz e (r++s)):=by
 induction B with
 |nil=>rfl
 |cons s B ih =>
  unfold da at ih ⊢;rw[aq3,List.any_cons]
  cases iz e (r++s)with
  |true=>rfl
  |false=>rw[aqr,Bool.false_or,<- ih];rfl
theorem agw (e:Ex)(x:ap)(t:Int):∀ b:List ap,eI (dm (cT e) b x) t=(aM x.valid t&&((aD b t).any λs=>iz e (x.row++s)))
 |[]=>by cases aM x.valid t<;>rfl
 |y::b=>by
  have e1:dm (cT e) (y::b) x=(bif jY x.valid y.valid&&cT e x y then [o8 x.valid y.valid]else [])++dm (cT e) b x:=rfl;rw[e1,nN,agw e x t b,gS,List.any_append];unfold cT
  cases ho:jY x.valid y.valid with
  |false =>
   have:=aeU ho t;rw[Bool.false_and,aqr,js]
   cases h1:aM x.valid t<;>cases h2:aM y.valid t<;>rw[h1,h2]at this<;>first|rfl|cases this|simp
  |true =>
   have:=aay ho t;rw[aqY]
   cases hs:iz e (x.row++y.row)with
   |false=>rw[aqr,js];cases aM x.valid t<;>cases aM y.valid t<;>simp[hs]
   |true =>
    rw[aqs,wK (H8 ho),<- aaU (H8 ho),this]
    cases aM x.valid t<;>cases aM y.valid t<;>simp[hs]
theorem anx (e:Ex)(n:Nat)(b:List ap)(x:ap)(hx:aw x.valid=true)(t:Int):aD (alX e n b x) t=if aM x.valid t=true then(if (da e (aD b t) x.row).isEmpty=true then [x.row++List.replicate n bK]else [])else []:=by
 obtain⟨h1,h2⟩:=Lm (c:=cT e) (b:=b) hx;unfold alX;rw[abO _ t h1,h2,agw,aep,<- aaU hx]
 cases aM x.valid t<;>cases ((aD b t).any λs=>iz e (x.row++s))<;>rfl
theorem abD (e:Ex)(n:Nat)(a b:List ap)(ha:∀ f∈a,aw f.valid=true)(t:Int):aD (lT e n a b) t=(aD a t).flatMap λr=>if (da e (aD b t) r).isEmpty=true then [r++List.replicate n bK]else [] :=
 mQ _ (λr=>if (da e (aD b t) r).isEmpty=true then [r++List.replicate n bK]else []) t a λx hx=>anx e n b x (ha x hx) t
theorem si {α β:Type}(g k:α->List β):∀ l:List α,(l.flatMap λx=>g x++k x).Perm (l.flatMap g++l.flatMap k)
 |[] => .refl _
 |x::l=>by
  rw[aq3,aq3,aq3];refine(List.Perm.append_left _ (si g k l)).trans ?_;rw[aqR,aqR];refine List.Perm.append_left _ ?_;rw[<- aqR,<- aqR];exact List.Perm.append_right _ List.perm_append_comm
theorem BO {r:bj}{t:Int}(h:bz r.facts):Ge r t=some ⟨r.kinds,gL (aD r.facts t)⟩:=by
 unfold Ge;rw[alh _ _ (by have:=h.1;omega) (rD h)];rfl
theorem abo {l:List ap}{t:Int}(h:bz l):(gL (aD l t)).length<=1000000 /\ ∀ x∈gL (aD l t),x.length<=1000000:=by
 refine⟨?_,λx hx=>?_⟩
 ·rw[(cO _).length_eq];have:=Ju l t;have:=h.1;omega
 ·obtain⟨f,hf,rfl⟩:=LC ((cO _).subset hx)
  exact rD h f hf
noncomputable section
def CY (OX:(List Int))(OY:(List Int)):Option ((List Int)):=bif OX.length<=17592186044416 then(bif OX.length+OY.length<=17592186044416 then(some (OX++OY))else none)else none
instance gJoined_ok {OX : (List Int)} {OY : (List Int)} {r : (List Int)} : OkC (CY OX OY = some r) (PTz 69 [.one (.lst (OX.map (λx => [AC.int .i64 x]))), .one (.lst (OY.map (λx => [AC.int .i64 x])))] (.val (.one (.lst (r.map (λx => [AC.int .i64 x])))))) := .mk λH => by
 unfold CY at H;refine po_ Tryz.func69 Tryz.ntmps69 ?_;exact ay H
def oM (OX:yl)(OY:yl)(OW:Ex)(Qh:Int):((List (List Val))×Bool×Int)->Option (Step ((List (List Val))×Bool×Int) (yl)):=λs=>match s with
 |(T9,QK,Wc)=>bif Wc<(OY.rows.length:Int)then(aF OX.rows Qh).bind λUK=>(aF OY.rows Wc).bind λRq=>(gp UK Rq).bind λQu=>(jo OW Qu).bind λPM=>bif PM=(2:Int)then bif T9.length+1<=5864062014805 then(some (.next ((T9++[Qu]),true,(i64.wrap (Wc+(1:Int))))))else none else
 some (.next (T9,QK,(i64.wrap (Wc+(1:Int)))))else
 some (.exit (T9,QK,Wc))
def so (OX:yl)(OY:yl)(QO:Bool)(Qh:Int):Sum ((List (List Val))×Bool×Int) (yl)->Option (Step ((List (List Val))×Int) (yl))
 |.inl (T9,QK,Wc)=>bif QO then bif (!QK)then(aF OX.rows Qh).bind λSK=>(pn (OY.kinds.length:Int)).bind λQ2=>(gp SK Q2).bind λTd=>bif T9.length+1<=5864062014805 then(some (.next ((T9++[Td]),(i64.wrap (Qh+(1:Int))))))else none else
 some (.next (T9,(i64.wrap (Qh+(1:Int)))))else
 some (.next (T9,(i64.wrap (Qh+(1:Int)))))
 |.inr q=>some (.ret q)
def sZ (OX:yl)(OY:yl)(OW:Ex)(QO:Bool):((List (List Val))×Int)->Option (Step ((List (List Val))×Int) (yl)):=λs=>match s with
 |(Xl,Qh)=>bif Qh<(OX.rows.length:Int)then(ao (oM OX OY OW Qh) fuel (Xl,false,(0:Int))).bind (so OX OY QO Qh)else
 some (.exit (Xl,Qh))
def K1 (O7:(List Int)):Sum ((List (List Val))×Int) (yl)->Option ((yl))
 |.inl (Xl,Qh)=>(uO Xl).bind λRF=>some (⟨O7,RF⟩:yl)
 |.inr q=>some q
def wU (OX:yl)(OY:yl)(OW:Ex)(QO:Bool):Option (yl):=(CY OX.kinds OY.kinds).bind λO7=>(ao (sZ OX OY OW QO) fuel ([],(0:Int))).bind (K1 O7)
instance gJoin21_ok {OX : yl} {OY : yl} {OW : Ex} {QO : Bool} {r : yl} : OkC (wU OX OY OW QO = some r) (PTz 28 [.agg (K5 OX), .agg (K5 OY), .agg (tE OW), .one (.bool QO)] (.val (.agg (K5 r)))) := .mk λH => by
 unfold wU at H;rw[aC OW];refine po_ Tryz.func28 Tryz.ntmps28 ?_;obtain⟨O7,c1,H⟩:=bd_ H;replace c1:=gJoined_ok c1;refine a6 ?_;refine xw 4 1 1 rfl rfl ?_;refine alM_ (λs:(List (List Val))×Int=>match s with|(Xl,Qh)=>[(3,.one (.c (.bool QO))),(4,.one (.ptr 0 0)),(5,.one (.ptr 1 0)),(6,.one (.ptr 2 0)),(8,.one (.ptr 3 0)),(9,.one (.ptr 4 0)),(10,.one (.c (.int .i64 Qh)))]) (λs=>match s with|(Xl,Qh)=>[.box [.c (.lst (OX.kinds.map (λx=>[AC.int .i64 x]))),.c (.lst (OX.rows.map (λx=>[AC.lst (x.map cV)])))],.box [.c (.lst (OY.kinds.map (λx=>[AC.int .i64 x]))),.c (.lst (OY.rows.map (λx=>[AC.lst (x.map cV)])))],.box [.c (.int .i64 OW.op),.c (.int .i64 OW.int),.c (.int .i64 OW.v.kind),.c (.int .i64 OW.v.int),.c (.str OW.v.text),.c (.str OW.nm),.c (.lst (OW.args.map tE))],.box [.emp,.emp],.box [.c (.lst (O7.map (λx=>[AC.int .i64 x]))),.own (Xl.map (λx=>[AC.lst (x.map cV)])) 5],.spare Xl.length 1]) H (λ_=>aqL _)
  (fm_ bE [] rfl bm cm) ?_
 rintro⟨Xl,Qh⟩ st3 Py R3;unfold sZ at Py;dsimp only at Py ⊢;obtain⟨Qf,Py⟩|⟨Qf,Py⟩:=aj Py
 ·refine a6 ?_
  refine alM_ (λs:(List (List Val))×Bool×Int=>match s with|(T9,QK,Wc)=>[(3,.one (.c (.bool QO))),(4,.one (.ptr 0 0)),(5,.one (.ptr 1 0)),(6,.one (.ptr 2 0)),(8,.one (.ptr 3 0)),(9,.one (.ptr 4 0)),(10,.one (.c (.int .i64 Qh))),(11,.one (.c (.bool QK))),(12,.one (.c (.int .i64 Wc)))]) (λs=>match s with|(T9,QK,Wc)=>[.box [.c (.lst (OX.kinds.map (λx=>[AC.int .i64 x]))),.c (.lst (OX.rows.map (λx=>[AC.lst (x.map cV)])))],.box [.c (.lst (OY.kinds.map (λx=>[AC.int .i64 x]))),.c (.lst (OY.rows.map (λx=>[AC.lst (x.map cV)])))],.box [.c (.int .i64 OW.op),.c (.int .i64 OW.int),.c (.int .i64 OW.v.kind),.c (.int .i64 OW.v.int),.c (.str OW.v.text),.c (.str OW.nm),.c (.lst (OW.args.map tE))],.box [.emp,.emp],.box [.c (.lst (O7.map (λx=>[AC.int .i64 x]))),.own (T9.map (λx=>[AC.lst (x.map cV)])) 5],.spare T9.length 1]) Py (λ_=>aqL _)
   (fm_ bE [] rfl bm cm) ?_
  rintro⟨T9,QK,Wc⟩ st4 O4 hk4;unfold oM at O4;dsimp only at O4 ⊢;obtain⟨Si,O4⟩|⟨Si,O4⟩:=aj O4
  ·obtain⟨UK,U0,i2,U2,O4⟩:=br (f:=(λx=>[AC.lst (x.map cV)])) O4
   obtain⟨Rq,Y2,i3,XB,O4⟩:=br (f:=(λx=>[AC.lst (x.map cV)])) O4;obtain⟨Qu,c4,O4⟩:=bd_ O4;replace c4:=gConcatR_ok c4;obtain⟨PM,c5,O4⟩:=bd_ O4;replace c5:=gTruthR11_ok c5
   try simp only[aqD,aqB,aqF,aqv,aC]at c5
   obtain⟨Q1,O4⟩|⟨Q1,O4⟩:=aj O4
   ·obtain⟨g6,O4⟩:=aL O4
    cases O4;refine a6 ?_;exact⟨_,rfl,fm_ bE [] qG bm cm⟩
   cases O4;refine a6 ?_;exact⟨_,rfl,fm_ bE [] qG bm cm⟩
  cases O4;have Qo:so OX OY QO Qh (.inl (T9,QK,Wc))=some _:=hk4;unfold so at Qo;dsimp only at Qo;obtain⟨QA,Qo⟩|⟨QA,Qo⟩:=aj Qo
  ·obtain⟨Rk,Qo⟩|⟨Rk,Qo⟩:=aj Qo
   ·obtain⟨SK,i7z,i7,i7x,Qo⟩:=br (f:=(λx=>[AC.lst (x.map cV)])) Qo
    obtain⟨Q2,c8,Qo⟩:=bd_ Qo;replace c8:=gNullsR_ok c8;obtain⟨Td,c9,Qo⟩:=bd_ Qo;replace c9:=gConcatR_ok c9;obtain⟨g10,Qo⟩:=aL Qo
    cases Qo;refine a6 ?_;exact⟨_,rfl,fm_ bE [] qG bm cm⟩
   cases Qo;refine a6 ?_;exact⟨_,rfl,fm_ bE [] qG bm cm⟩
  cases Qo;refine a6 ?_;exact⟨_,rfl,fm_ bE [] qG bm cm⟩
 exact bA Py R3
end
noncomputable section
def kT (Ru:Gm)(OW:Ex)(Qc:Int):Option (Bool):=(iD Ru.a Ru.b OW).bind λO7=>bif (!O7)then some (true)else
 (Ge Ru.a Qc).bind λQm=>(Ge Ru.b Qc).bind λPW=>(nQ Ru.a Ru.b OW).bind λP1=>(o7 Ru.a Ru.b OW).bind λQk=>(Ge P1 Qc).bind λQJ=>(wU Qm PW OW false).bind λQw=>(qJ QJ Qw).bind λP7=>bif P7 then(Ge Qk Qc).bind λPM=>(wU Qm PW OW true).bind λQv=>(qJ PM Qv).bind λRm=>bif Rm then(D8 P1.facts).bind λSv=>bif Sv then(D8 Qk.facts).bind λTd=>bif Td then some (true)else
 some false else
 some false else
 some false else
 some false
theorem alp {P:Program}{ti:TI}{N n0:Nat}(F:List Nat)(O_:TIok P ti){Q:AX->Tm->List Ob->Prop}{T:Tm}{L:List Ob}{id:Nat}{l:List Oper}(Tc:Tm)(Lc:List Ob)(p:Nat)(hp:p+1<l.length)(hg:l.all (λo=>o.guard.isNone)=true)(TM:P.follows .mixedOrders=true)(X_:fq F ti (l1E p l)=true)(T0:fq F ti (l2E p l)=true)(hF:fzB F T=true)
  (h1:aI P ti N ((l1E p l).map (·.dst)) (k8 N n0 · · Tc Lc) (l1E p l) T L) (h2:aI P ti N ((l2E p l).map (·.dst)) (k8 N n0 · · Tc Lc) (l2E p l) T L) (h:Q .normal Tc Lc):Aw P N n0 (.region id l.toArray true) Q T L:=by
 refine BZ (xH F O_ p hp hg TM X_ T0 hF (iV ?_ _ _ _ h1) (iV ?_ _ _ _ h2))
 ·intro T' L' hG
  exact⟨Tc,Lc,hG,h⟩
 ·intro T' L' hG
  exact⟨Tc,Lc,hG,h⟩
instance gLawSnapshots_ok {Ru : Gm} {OW : Ex} {Qc : Int} {r : Bool} : OkC (kT Ru OW Qc = some r) (PTz 6 [.agg (zb Ru), .agg (tE OW), .one (.int .i64 Qc)] (.val (.one (.bool r)))) := .mk λH => by
 unfold kT at H;rw[aC OW];refine po_ Tryz.func6 Tryz.ntmps6 ?_;obtain⟨O7,c1,H⟩:=bd_ H;replace c1:=gJoins24_ok c1
 try simp only[aqD,aqB,aqF,aqv,aC]at c1
 obtain⟨Qr,H⟩|⟨Qr,H⟩:=aj H
 ·have UA:=Aw.awake_pure
  try simp only[aqD,aqB,aqF,aqv,aC]at UA
  exact ay H
 obtain⟨Qm,c2,H⟩:=bd_ H;replace c2:=gSnap_ok c2;obtain⟨PW,c3,H⟩:=bd_ H;replace c3:=gSnap_ok c3;obtain⟨P1,c4,H⟩:=bd_ H;replace c4:=q6 c4
 try simp only[aqD,aqB,aqF,aqv,aC]at c4
 obtain⟨Qk,c5,H⟩:=bd_ H;replace c5:=sb c5
 try simp only[aqD,aqB,aqF,aqv,aC]at c5
 refine a6 ?_;refine aT 0 (ts:=zb Ru) rfl rfl ?_;refine aT 1 (ts:=[AC.int .i64 OW.op,.int .i64 OW.int,.int .i64 OW.v.kind,.int .i64 OW.v.int,.str OW.v.text,.str OW.nm,.lst (OW.args.map tE)]) rfl rfl ?_;refine alp [3,4] tabS_ok [(2,.one (.c (.int .i64 Qc))),(3,.one (.c (.ref (zb Ru)))),(4,.one (.c (.ref [AC.int .i64 OW.op,.int .i64 OW.int,.int .i64 OW.v.kind,.int .i64 OW.v.int,.str OW.v.text,.str OW.nm,.lst (OW.args.map tE)]))),(7,.one (.c (.ref (K5 Qm)))),(8,.one (.c (.ref (K5 PW))))] [.dead,.dead,.dead,.dead] 8 m9 m9 mixed (by decide +kernel) (by decide +kernel) rfl ?_ ?_ ?_
 ·refine a6 ?_
  refine(k8.box 2 rfl rfl).trans ((k8.box 3 rfl rfl).trans (k8.slots ?_));exact⟨rfl,rfl,rfl,rfl,rfl,t7⟩
 ·refine a6 ?_
  refine(k8.box 2 rfl rfl).trans ((k8.box 3 rfl rfl).trans (k8.slots ?_));exact⟨rfl,rfl,rfl,rfl,rfl,t7⟩
 refine a6 ?_;refine alp [3,4] tabS_ok [(2,.one (.c (.int .i64 Qc))),(3,.one (.c (.ref (zb Ru)))),(4,.one (.c (.ref [AC.int .i64 OW.op,.int .i64 OW.int,.int .i64 OW.v.kind,.int .i64 OW.v.int,.str OW.v.text,.str OW.nm,.lst (OW.args.map tE)]))),(7,.one (.c (.ref (K5 Qm)))),(8,.one (.c (.ref (K5 PW)))),(9,.one (.c (.ref (aW P1)))),(10,.one (.c (.ref (aW Qk))))] [.dead,.dead,.dead,.dead,.dead,.dead] 12 m9 m9 mixed (by decide +kernel) (by decide +kernel) rfl ?_ ?_ ?_
 ·refine a6 ?_
  refine(k8.box 4 rfl rfl).trans ((k8.box 5 rfl rfl).trans (k8.slots ?_));exact⟨rfl,rfl,rfl,rfl,rfl,rfl,rfl,t7⟩
 ·refine a6 ?_
  refine(k8.box 4 rfl rfl).trans ((k8.box 5 rfl rfl).trans (k8.slots ?_));exact⟨rfl,rfl,rfl,rfl,rfl,rfl,rfl,t7⟩
 obtain⟨QJ,c6,H⟩:=bd_ H;replace c6:=gSnap_ok c6;obtain⟨Qw,c7,H⟩:=bd_ H;replace c7:=gJoin21_ok c7
 try simp only[aqD,aqB,aqF,aqv,aC]at c7
 obtain⟨P7,c8,H⟩:=bd_ H;replace c8:=gExactly_ok c8;obtain⟨QN,H⟩|⟨QN,H⟩:=aj H
 ·obtain⟨PM,c9,H⟩:=bd_ H
  replace c9:=gSnap_ok c9;obtain⟨Qv,Wv,H⟩:=bd_ H;replace Wv:=gJoin21_ok Wv
  try simp only[aqD,aqB,aqF,aqv,aC]at Wv
  obtain⟨Rm,Vu,H⟩:=bd_ H;replace Vu:=gExactly_ok Vu;obtain⟨Rk,H⟩|⟨Rk,H⟩:=aj H
  ·obtain⟨Sv,WZ,H⟩:=bd_ H
   replace WZ:=gCanon_ok WZ;obtain⟨SS,H⟩|⟨SS,H⟩:=aj H
   ·obtain⟨Td,UE,H⟩:=bd_ H
    replace UE:=gCanon_ok UE;obtain⟨TP,H⟩|⟨TP,H⟩:=aj H
    ·have hc_20:=Aw.awake_pure
     try simp only[aqD,aqB,aqF,aqv,aC]at hc_20
     cases H;exact LI
    cases H;exact LI
   cases H;exact LI
  cases H;exact LI
 cases H;exact LI
end
theorem ajo {α β ρ:Type}{l:List α}{body:(List β×Bool×Int)->Option (Step (List β×Bool×Int) ρ)}(g:α->List β)(v:Bool)(N:Nat)(h1:∀ (s:List β) (f:Bool) (i:Nat) x,l[i]?=some x->s.length+(g x).length<=N->body (s,f,(i:Int))=some (.next (s++g x,(bif (g x).isEmpty then f else v),((i+1:Nat):Int))))(h2:∀ (s:List β) (f:Bool),body (s,f,(l.length:Int))=some (.exit (s,f,(l.length:Int))))(hl:l.length<fuel)(s:List β)(f:Bool)(hN:s.length+(l.flatMap g).length<=N) :
  ao body fuel (s,f,(0:Int))=some (.inl (s++l.flatMap g,(bif (l.flatMap g).isEmpty then f else v),(l.length:Int))):=by
 have key:∀ (n i:Nat) (s:List β) (f:Bool),i<=l.length->l.length-i<n->s.length+((l.drop i).flatMap g).length<=N->ao body n (s,f,(i:Int))=some (.inl (s++(l.drop i).flatMap g,(bif ((l.drop i).flatMap g).isEmpty then f else v),(l.length:Int))):=by
  intro n
  induction n with
  |zero=>intro i s f _ h _;omega
  |succ n ih =>
   intro i s f hi hn hs;rw[ao];by_cases O0:i<l.length
   ·obtain⟨x,hx⟩:=gol_ O0
    have e1:=(aqp.1 hx).2;rw[aqW O0,e1,aq3]at hs ⊢;rw[aqy]at hs;rw[h1 s f i x hx m0];show ao body n _=_;rw[ih (i+1) (s++g x) _ m0 m0 (by rw[aqy];omega),aqR];generalize (l.drop (i+1)).flatMap g=m
    cases g x<;>cases m<;>rfl
   ·have:i=l.length:=m0
    subst this;rw[h2,arn];simp
 have:=key fuel 0 s f (aqL _) m0 (by simpa using hN);simpa using this
def pK (e:Ex)(left:Bool)(n:Nat)(b:List (List Val))(x:List Val):List (List Val):=da e b x++bif left&&(da e b x).isEmpty then [x++List.replicate n bK]else []
def mt (e:Ex)(left:Bool)(n:Nat)(a b:List (List Val)):List (List Val):=a.flatMap (pK e left n b)
theorem ajF (e:Ex)(b:List (List Val))(x:List Val):(da e b x).length<=b.length:=by
 have:=oo (λy=>bif iz e (x++y)then [x++y]else []) 1 b λy _=>by cases iz e (x++y)<;>simp
 unfold da;omega
theorem ajs (e:Ex)(left:Bool)(n:Nat)(b:List (List Val))(x:List Val):(pK e left n b x).length<=b.length+1:=by
 have:=ajF e b x;unfold pK;rw[aqy]
 cases left&&(da e b x).isEmpty<;>simp<;>omega
theorem ajj (e:Ex)(left:Bool)(n:Nat){a b:List (List Val)}(ha:a.length<=12)(hb:b.length<=12):(mt e left n a b).length<=156:=by
 have:=oo (pK e left n b) 13 a λx _=>by have:=ajs e left n b x;omega
 unfold mt;omega
theorem ai8 (e:Ex)(left:Bool)(n:Nat){a b:List (List Val)}{k:Nat}(ha:∀ r∈a,r.length=k)(hb:∀ r∈b,r.length=n):∀ r∈mt e left n a b,r.length=k+n:=by
 intro r hr;unfold mt at hr;obtain⟨x,hx,hr⟩:=List.mem_flatMap.1 hr;have h1:=ha x hx;unfold pK at hr;obtain hr|hr:=aqS.1 hr
 ·unfold da at hr
  obtain⟨y,hy,hr⟩:=List.mem_flatMap.1 hr;have h2:=hb y hy
  cases hs:iz e (x++y)with
  |false=>rw[hs]at hr;cases hr
  |true=>rw[hs,aqs,aq6]at hr;rw[hr,aqy];omega
 ·cases hs:left&&(da e b x).isEmpty with
  |false=>rw[hs]at hr;cases hr
  |true=>rw[hs,aqs,aq6]at hr;rw[hr,aqy,List.length_replicate];omega
theorem agJ {a b:List Int}(h:a.length+b.length<=1000000):CY a b=some (a++b):=by
 unfold CY;rw[aqu (show a.length<=17592186044416 by omega),aqu (show a.length+b.length<=17592186044416 by omega)];rfl
structure amf (n:Nat)(b:yl):Prop where
 len:b.rows.length<=n
 kinds:b.kinds.length<=48
 row:∀ r∈b.rows,r.length=b.kinds.length
section
variable {a b:yl} {e:Ex}
theorem acC (he:il fuel e){x:List Val}{i:Nat}(hxi:a.rows[i]?=some x)(hx:x.length<=48)(hb:amf 12 b)(s:List (List Val))(f:Bool)(hs:s.length+(da e b.rows x).length<=5864062014805):ao (oM a b e (i:Int)) fuel (s,f,(0:Int))=some (.inl (s++da e b.rows x,(bif (da e b.rows x).isEmpty then f else true),(b.rows.length:Int))):=by
 have Vp:=hb.len;rw[ajo (l:=b.rows) (λy=>bif iz e (x++y)then [x++y]else []) true 5864062014805 ?_ ?_ (by unfold fuel;omega) s f (by unfold da at hs;exact hs)]
 ·rfl
 ·intro s f k y hy hs
  have hi:=(aqp.1 hy).1;have hyk:=hb.row y (aqw hy);have:=hb.kinds;unfold oM;dsimp only;rw[aO hy,aqs,gn_ hxi,aqo,gn_ hy,aqo,gR m0,aqo,mP he,aqo,wrapN m0];show(bif iz e (x++y)then _ else _)=_
  cases hc:iz e (x++y)with
  |false=>simp
  |true =>
   rw[hc]at hs;rw[aqs,aqu (show s.length+1<=5864062014805 from hs)];rfl
 ·intro s f
  unfold oM;dsimp only;rw[lF_,aqr]
theorem Kx {left:Bool}(ha:amf 12 a)(hb:amf 12 b)(he:il fuel e):wU a b e left=some ⟨a.kinds++b.kinds,gL (mt e left b.kinds.length a.rows b.rows)⟩:=by
 have h1:=ha.len;have h2:=hb.len;have h3:=ha.kinds;have h4:=hb.kinds;have WR:=ajj e left b.kinds.length h1 h2;unfold wU;rw[agJ m0,aqo,cn (l:=a.rows) (pK e left b.kinds.length b.rows) 5864062014805 ?_ ?_ (by unfold fuel;omega) [] (by unfold mt at WR;simp only[aqV];omega)]
 ·rw[aqo,aqv]
  unfold K1;dsimp only;rw[xB _ (by unfold mt at WR;omega) (λr hr=>?_)]
  ·rfl
  ·have:=ai8 e left b.kinds.length (k:=a.kinds.length) ha.row hb.row r hr
   omega
 ·intro s i x hx hs
  have hi:=(aqp.1 hx).1;have YT:=ha.row x (aqw hx);unfold sZ;dsimp only;rw[aO hx,aqs];have VP:s.length+(da e b.rows x).length<=5864062014805:=by unfold pK at hs;rw[aqy]at hs;omega
  rw[acC he hx m0 hb s false VP,aqo];unfold so;dsimp only;rw[gn_ hx,aqo,uc h4,aqo,gR (by rw[List.length_replicate];omega),aqo,wrapN m0];unfold pK at hs ⊢
  cases left with
  |false=>simp
  |true =>
   cases hh:(da e b.rows x).isEmpty with
   |false=>simp
   |true =>
    rw[hh]at hs;have Ye:(s++da e b.rows x).length+1<=5864062014805:=by rw[aqy]at hs ⊢;simp at hs;omega
    simp only[aqs,aqr,Bool.not_false,aqY];rw[aqu Ye,aqs,aqR]
 ·intro s
  unfold sZ;dsimp only;rw[lF_,aqr]
end
theorem N4 (e:Ex){B B2:List (List Val)}(h:B.Perm B2)(x:List Val):(da e B x).Perm (da e B2 x):=by unfold da;exact h.flatMap_right _
theorem agt {α:Type}{l m:List α}(h:l.Perm m):l.isEmpty=m.isEmpty:=by
 have:=h.length_eq
 cases l<;>cases m<;>simp_all
theorem ag' (e:Ex)(l:Bool)(n:Nat){B B2:List (List Val)}(h:B.Perm B2)(x:List Val):(pK e l n B x).Perm (pK e l n B2 x):=by
 unfold pK;rw[show(da e B x).isEmpty=(da e B2 x).isEmpty by rw[agt (N4 e h x)]];exact List.Perm.append_right _ (N4 e h x)
theorem M8 {α β:Type}{g k:α->List β}:∀ l:List α,(∀ x,(g x).Perm (k x))->(l.flatMap g).Perm (l.flatMap k)
 |[],_=>List.Perm.refl _
 |x::l,h=>by rw[aq3,aq3];exact List.Perm.append (h x) (M8 l h)
theorem Ku (e:Ex)(l:Bool)(n:Nat){A A2 B B2:List (List Val)}(ha:A.Perm A2)(hb:B.Perm B2):(mt e l n A B).Perm (mt e l n A2 B2):=by
 unfold mt;exact(ha.flatMap_right _).trans (M8 A2 λx=>ag' e l n hb x)
section
variable {a b:bj} {e:Ex}
theorem aj8 (e:Ex)(n:Nat)(a b:List ap)(t:Int):mt e false n (aD a t) (aD b t)=aD (uB e a b) t:=by
 rw[alg];unfold mt pK;congr 1;funext x;rw[Bool.false_and,aqr,aqZ]
theorem left_at (h:EC a b e)(n:Nat)(t:Int):(mt e true n (aD a.facts t) (aD b.facts t)).Perm (aD (uB e a.facts b.facts++lT e n a.facts b.facts) t):=by
 rw[cR,alg,abD e n _ _ h.A.per];unfold mt;have hx:pK e true n (aD b.facts t)=λx=>da e (aD b.facts t) x++(if (da e (aD b.facts t) x).isEmpty=true then [x++List.replicate n bK]else []):=by
  funext x;unfold pK;rw[aqY]
  cases (da e (aD b.facts t) x).isEmpty<;>rfl
 rw[hx];exact si _ _ _
theorem B9 {r:bj}(h:aa2 r)(hl:r.facts.length<=12)(t:Int):amf 12 ⟨r.kinds,gL (aD r.facts t)⟩:=by
 refine⟨?_,h.kinds,λx hx=>?_⟩
 ·show(gL (aD r.facts t)).length<=12
  rw[(cO _).length_eq];have:=Ju r.facts t;omega
 ·obtain⟨f,hf,rfl⟩:=LC ((cO _).subset hx)
  exact h.row f hf
theorem Aq (s:Gm)(e:Ex)(t:Int):kT s e t=some true:=by
 obtain⟨c,hc,Qy⟩:=hY s.a s.b e;unfold kT;rw[hc,aqo]
 cases c with
 |false=>rfl
 |true =>
  have h:=Qy rfl;have fj:=f9 h;have fl:=lq h;have hk:(s.a.kinds++s.b.kinds).length<=1000000:=by have:=h.kab;rw[aqy];omega
  have e1:gL (mt e false s.b.kinds.length (gL (aD s.a.facts t)) (gL (aD s.b.facts t)))=gL (aD (canon (uB e s.a.facts s.b.facts)) t):=by
   refine MW (((Ku e false _ (cO _) (cO _)).trans ?_).trans (jF fj.1 t).symm);rw[aj8]
  have e2:gL (mt e true s.b.kinds.length (gL (aD s.a.facts t)) (gL (aD s.b.facts t)))=gL (aD (canon (uB e s.a.facts s.b.facts++lT e s.b.kinds.length s.a.facts s.b.facts)) t) :=
   MW (((Ku e true _ (cO _) (cO _)).trans (left_at h _ t)).trans (jF fl.1 t).symm)
  have r1:=abo (t:=t) (bH fj);have r2:=abo (t:=t) (bH fl);rw[Bool.not_true,aqr,BO h.A.fcts,aqo,BO h.B.fcts,aqo,qK h,aqo,rO h,aqo,BO (bH fj),aqo,Kx (B9 h.A h.la t) (B9 h.B h.lb t) h.he,aqo];dsimp only;rw[e1,yi _ hk r1.1 r1.2,aqo,aqs,BO (bH fl),aqo,Kx (B9 h.A h.la t) (B9 h.B h.lb t) h.he,aqo];dsimp only;rw[e2,yi _ hk r2.1 r2.2,aqo,aqs,BL fj,aqo,aqs,BL fl];rfl
end
theorem xY {s:Gm}{e:Ex}{t:Int}(q0:acs s)(q1:Az e)(q2:Hr t):PTz 6 [.agg (zb s),.agg (tE e),.one (.int .i64 t)] (.val (.one (.bool true))):=gLawSnapshots_ok (Aq s e t)
