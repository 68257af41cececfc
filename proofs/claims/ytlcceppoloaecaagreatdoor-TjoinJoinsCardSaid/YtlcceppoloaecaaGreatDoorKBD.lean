/- Parts. No condition. -/
import Derived.Test.YtlcceppoloaecaaGreatDoorKBB
import Derived.Test.YtlcceppoloaecaaGreatDoorKBC
import Derived.Test.YtlcceppoloaecaaGreatDoorKAK
import Derived.Test.YtlcceppoloaecaaGreatDoorKAP
import Derived.Test.YtlcceppoloaecaaGreatDoorKAI
import Derived.Shelf.LaysM
import Derived.Shelf.Strconv.Itoa3
import Derived.Ground.NamesProg
import Derived.Lib.Walk
import Derived.Lib.ItoaMem
import Derived.BigCall
import Derived.BigGuard
import Derived.Lib.AppendIntMem
set_option linter.unusedSimpArgs false
set_option linter.unusedVariables false
namespace Go.Proofs.YtlcceppoloaecaaGreatDoor.St
open IntKind (i64)
open Go.RowKit
def cP (p:Int×Int):List AC:=[.int .i64 p.1,.int .i64 p.2]
def cC (p:(Int×Int)×Int):List AC:=[.int .i64 p.1.1,.int .i64 p.1.2,.int .i64 p.2]
section
variable {P:Program} {R:PH} {w:World}
theorem agr {α:Type}{enc:α->List Value}{ec:α->List AC}{k:Nat}(hk:∀ x,(ec x).length=k)(hkv:∀ x,(enc x).length=k)(hk0:0<k)(hrep:∀ x (j:Nat) u y v,(enc x)[j]?=some u->(ec x)[j]?=some y->bD R v y->v=u)
  (hR:∀ b o u,R b o=some u->w.cell? ⟨b,o,none⟩=some u) {v:Value} {l:List α} (h:bD R v (.lst (l.map ec))):∃ A c,v = .slice A l.length c/\Rd enc k w w.heap.size A l.length l:=by
 obtain⟨a,c,news,rfl,hc,hcells,hreg⟩:=r8 (k:=k) h (by intro e he;simp only[aq0]at he;obtain⟨x,_,rfl⟩:=he;exact hk x);refine⟨a,c,m5,rfl,λhp=>?_⟩;obtain⟨b,o,rfl,hb⟩:=hreg (by simpa using hp);have key:∀ (i:Nat) x,l[i]?=some x ->∀ (j:Nat) u,(enc x)[j]?=some u->w.cell? ⟨b,o+(i*k+j),none⟩=some u:=by
  intro i x hx j u hu;have he:(l.map ec)[i]?=some (ec x):=by rw[aqN,hx];rfl
  have hj:j<(ec x).length:=by rw[hk,<- hkv x];exact(aqp.1 hu).1
  obtain⟨u0,h0,p0⟩:=hcells.get i _ j _ he (aqz hj);rw[hrep x j u _ u0 hu (aqz hj) p0]at h0;exact hR _ _ _ (hb _ _ h0)
 refine⟨b,o,rfl,?_,λi x hx j u hu=>?_⟩
 ·obtain⟨x,hx⟩:=gol_ hp
  obtain⟨u,hu⟩:=gol_ (show 0<(enc x).length by rw[hkv];exact hk0);exact lt_of_cell (key 0 x hx 0 u hu)
 ·rw[Nat.add_assoc];exact key i x hx j u hu
def vu (R:PH)(w w':World):PHf:=λb o=>if b<w.heap.size then R b o else w'.cell? ⟨b,o,none⟩
theorem Fz (hR:∀ b o u,R b o=some u->w.cell? ⟨b,o,none⟩=some u)(w':World):∀ b o u,R b o=some u->vu R w w' b o=some u:=λb o u h=>by
 have:=lt_of_cell (hR b o u h);unfold vu;rw[if_pos this];exact h
def ahh (R:PH)(w w':World)(hR:∀ b o u,R b o=some u->w.cell? ⟨b,o,none⟩=some u):PH:=R.put (vu R w w') (Fz hR w')
theorem oz (hR:∀ b o u,R b o=some u->w.cell? ⟨b,o,none⟩=some u){w':World}(hg:Gr w w'):Ext (· <w.heap.size) R (ahh R w w' hR) w w' /\ ∀ b o u,ahh R w w' hR b o=some u->w'.cell? ⟨b,o,none⟩=some u:=by
 refine⟨⟨Kept.of hg.out,Fz hR w',λb o hb=>?_⟩,λb o u h=>?_⟩
 ·show vu R w w' b o=_
  unfold vu;rw[if_pos hb]
 ·have h:vu R w w' b o=some u:=h
  unfold vu at h;split at h
  ·rename_i hb;rw[hg.cells.1 b o hb];exact hR _ _ _ h
  ·exact h
theorem KH (hR:∀ b o u,R b o=some u->w.cell? ⟨b,o,none⟩=some u){w':World}{E:TypeId}{v:Value}{l:List (Int×Int)}(ho:Own e2 2 E w' w.heap.size v l):bD (ahh R w w' hR) v (.lst (l.map cP)):=by
 obtain⟨A,c,rfl⟩:=ho.form;have hrd:=ho.rds dU;have hlt:=World.ownsRow.lt ho;have hc:l.length<=c:=by
  obtain⟨hv,hn⟩|⟨g,cap,cur,hv,_,_,hle,_⟩:=ho.2
  ·omega
  ·injection hv with _ _ h3;omega
 by_cases hz:l.length=0
 ·have:l=[]:=aqQ hz
  subst this;exact dq _ _ _
 ·obtain⟨b,o,rfl,hb,hcell⟩:=hrd.2 m0
  have hge:w.heap.size<=b:=(hlt b rfl).1;have key:∀ (i:Nat) x,l[i]?=some x->ahh R w w' hR b (o+(i*2+0))=some (.int .i64 x.1)/\ahh R w w' hR b (o+(i*2+1))=some (.int .i64 x.2):=by
   intro i x hx;show vu R w w' b _=_/\vu R w w' b _=_;unfold vu;rw[if_neg m0,if_neg m0,<- Nat.add_assoc,<- Nat.add_assoc];exact⟨hcell i x hx 0 _ rfl,hcell i x hx 1 _ rfl⟩
  refine .lst _ _ _ _ 2 (λj=>(ahh R w w' hR b (o+j)).getD Go.undef) b o m5 hc (by intro e he;simp only[aq0]at he;obtain⟨x,_,rfl⟩:=he;rfl) (λ_=>rfl) (λj hj=>?_) (λi e j y he hy=>?_)
  ·have hi:j/2<l.length:=m0
   have hx:l[j/2]?=some l[j/2]:=aqz hi;have:=key _ _ hx;have hm:j=j/2*2+j%2:=m0
   obtain h0|h0:=Nat.mod_two_eq_zero_or_one j
   ·rw[h0]at hm;rw[hm,this.1];rfl
   ·rw[h0]at hm;rw[hm,this.2];rfl
  ·rw[aqN]at he
   cases hx:l[i]? with
   |none=>simp[hx]at he
   |some x =>
    rw[hx]at he;simp only[Option.map_some,Option.some.injEq]at he;subst he;have:=key i x hx
    match j,hy with
    |0,hy=>simp[cP]at hy;subst hy;rw[this.1];exact .int _ _
    |1,hy=>simp[cP]at hy;subst hy;rw[this.2];exact .int _ _
    |j+2,hy=>simp[cP]at hy
theorem wJ {v:Value}{k:IntKind}{n:Int}(h:bD R v (.int k n)):v = .int k n:=by cases h;rfl
theorem amN (hR:∀ b o u,R b o=some u->w.cell? ⟨b,o,none⟩=some u){v:Value}{l:List (Int×Int)}(h:bD R v (.lst (l.map cP))):∃ A c,v = .slice A l.length c/\Rd e2 2 w w.heap.size A l.length l :=
 agr (k:=2) (λ_=>rfl) dU m9 (λx j u y v hu hy hv=>by
  match j,hu,hy with
  |0,hu,hy=>simp[e2]at hu;simp[cP]at hy;subst hu hy;exact wJ hv
  |1,hu,hy=>simp[e2]at hu;simp[cP]at hy;subst hu hy;exact wJ hv
  |j+2,hu,hy=>simp[cP]at hy) hR h
theorem akP (hR:∀ b o u,R b o=some u->w.cell? ⟨b,o,none⟩=some u){v:Value}{l:List ((Int×Int)×Int)}(h:bD R v (.lst (l.map cC))):∃ A c,v = .slice A l.length c/\Rd e3 3 w w.heap.size A l.length l :=
 agr (k:=3) (λ_=>rfl) MY m9 (λx j u y v hu hy hv=>by
  match j,hu,hy with
  |0,hu,hy=>simp[e3]at hu;simp[cC]at hy;subst hu hy;exact wJ hv
  |1,hu,hy=>simp[e3]at hu;simp[cC]at hy;subst hu hy;exact wJ hv
  |2,hu,hy=>simp[e3]at hu;simp[cC]at hy;subst hu hy;exact wJ hv
  |j+3,hu,hy=>simp[cC]at hy) hR h
end
theorem acp {vs:Array Value}{p:PV}(h:vs.size=[p].length):∃ v,vs=#[v]:=by
 obtain⟨l⟩:=vs
 match l,h with
 |[a],_=>exact⟨a,rfl⟩
abbrev ofL (l:List ((Int×Int)×Int)):List (Int×Int):=dc (jZ l) (eU l)
theorem aiQ (l:List ((Int×Int)×Int))(hn:l.length<=100000):PTz 207 [.one (.lst (l.map cC))] (.val (.one (.lst ((ofL l).map cP)))):=by
 refine⟨⟨_,Tryz.func207,k7,k7⟩,λR w vs hR hs hv=>?_⟩;obtain⟨v,rfl⟩:=acp hs;obtain⟨A,c,rfl,ha⟩:=akP hR (hv 0 v _ rfl rfl);refine(ahV A _ c l w ha hn).mono ?_;rintro e w' ⟨A',m',c',rfl,ho,hg⟩;exact⟨_,_,rfl,(oz hR hg).1,(oz hR hg).2,KH hR ho⟩
theorem adr (l:List (Int×Int))(hn:l.length<=1000)(hasc:Asc l)(hF:∀ s∈l,s.1<1099511627776)(hM:∀ s∈l,s.2<=600):PTz 147 [.one (.lst (l.map cP))] (.val (.one (.lst ((tt l).map cP)))):=by
 refine⟨⟨_,Tryz.func147,k7,k7⟩,λR w vs hR hs hv=>?_⟩;obtain⟨v,rfl⟩:=acp hs;obtain⟨A,c,rfl,ha⟩:=amN hR (hv 0 v _ rfl rfl);refine(adT A _ c l w ha hn hasc hF hM).mono ?_;rintro e w' ⟨A',m',c',rfl,ho,hg⟩;exact⟨_,_,rfl,(oz hR hg).1,(oz hR hg).2,KH hR ho⟩
end Go.Proofs.YtlcceppoloaecaaGreatDoor.St
namespace Go.Proofs.YtlcceppoloaecaaGreatDoor
open IntKind (i64)
def toP (p:ax):Int×Int:=(p.lo,p.hi)
def ofP (x:Int×Int):ax:=⟨x.1,x.2⟩
def toS (s:Stp):Int×Int:=(s.lo,s.n)
def ofS (x:Int×Int):Stp:=⟨x.1,x.2⟩
def toC (c:tm):(Int×Int)×Int:=(toP c.period,c.n)
def xW (l:List tm):List Stp:=(St.ofL (l.map toC)).map ofS
def A8 (l:List Stp):List ax:=(St.tt (l.map toS)).map ofP
theorem ahM (l:List tm):(l.map toC).map St.cC=l.map uC:=by rw[List.map_map];rfl
theorem ait (l:List (Int×Int)):(l.map ofS).map gK=l.map St.cP:=by rw[List.map_map];rfl
theorem ahu (l:List Stp):(l.map toS).map St.cP=l.map gK:=by rw[List.map_map];rfl
theorem ahS (l:List (Int×Int)):(l.map ofP).map aP=l.map St.cP:=by rw[List.map_map];rfl
theorem aip (l:List tm)(hn:l.length<=100000):PTz 207 [.one (.lst (l.map uC))] (.val (.one (.lst ((xW l).map gK)))):=by
 have:=St.aiQ (l.map toC) (by simpa using hn);rw[ahM]at this;unfold xW;rw[ait];exact this
structure OB (l:List Stp):Prop where
 len:l.length<=1000
 asc:St.Asc (l.map toS)
 fin:∀ s∈l,s.lo<1099511627776
 low:∀ s∈l,s.n<=600
theorem aew (l:List Stp)(h:OB l):PTz 147 [.one (.lst (l.map gK))] (.val (.one (.lst ((A8 l).map aP)))):=by
 have:=St.adr (l.map toS) (by simpa using h.len) h.asc (by intro s hs;obtain⟨x,hx,rfl⟩:=aq0.1 hs;exact h.fin x hx) (by intro s hs;obtain⟨x,hx,rfl⟩:=aq0.1 hs;exact h.low x hx);rw[ahu]at this;unfold A8;rw[ahS];exact this
open Go.RowKit Go.MapKept
set_option maxRecDepth 100000
set_option maxHeartbeats 8000000
def ve (a b:Val):Option (ax×Bool):=some (⟨a.int,b.int⟩,decide (a.kind=1)&&decide (b.kind=1))
theorem aeh {vs:Array Value}{p q:PV}(h:vs.size=[p,q].length):∃ v u,vs=#[v,u]:=by
 obtain⟨l⟩:=vs
 match l,h with
 |[a,b],_=>exact⟨a,b,rfl⟩
theorem adi {R:PH}{v:Val}{u:Value}(h:(PV.agg (cV v)).rep R u):u = .agg #[.int .i64 v.kind,.int .i64 v.int,.string v.text]:=by
 obtain⟨vs,rfl,hs,hc⟩:=h;obtain⟨l⟩:=vs
 match l,hs with
 |[a,b,c],_ =>
  have h0:=hc 0 a _ rfl rfl;have h1:=hc 1 b _ rfl rfl;have h2:=hc 2 c _ rfl rfl
  cases h0;cases h1;cases h2;rfl
theorem vC {a b:Val}{r:ax×Bool}(H:ve a b=some r):PTz 183 [.agg (cV a),.agg (cV b)] (.tup [.agg (aP r.1),.one (.bool r.2)]):=by
 obtain rfl:=aqX H;refine⟨⟨_,Tryz.func183,k7,k7⟩,λR w vs hR hs hv=>?_⟩;obtain⟨v,u,rfl⟩:=aeh hs;have hv0:=adi (hv 0 v _ rfl rfl);have hv1:=adi (hv 1 u _ rfl rfl);subst hv0 hv1;refine(St.FY a.kind a.int b.kind b.int a.text b.text w).mono ?_;rintro e w' ⟨rfl,hg⟩;refine⟨_,_,rfl,(St.oz hR hg).1,(St.oz hR hg).2,⟨_,rfl,rfl,λj u p hu hp=>?_⟩⟩
 match j,hu,hp with
 |0,hu,hp =>
  simp at hu hp;subst hu hp;refine⟨_,rfl,rfl,λj u p hu hp=>?_⟩
  match j,hu,hp with
  |0,hu,hp=>simp[aP]at hu hp;subst hu hp;exact .int _ _
  |1,hu,hp=>simp[aP]at hu hp;subst hu hp;exact .int _ _
  |j+2,hu,hp=>simp[aP]at hp
 |1,hu,hp=>simp at hu hp;subst hu hp;exact .bool _
 |j+2,hu,hp=>simp at hp
def r9 (a_rel:Int)(a_l:(List Val)):Option (Val):=(aF a_l (0:Int)).bind λx_1=>(aF a_l (1:Int)).bind λx_2=>(ve x_1 x_2).bind λr_3=>(aF a_l (2:Int)).bind λx_4=>(aF a_l (3:Int)).bind λx_5=>(ve x_4 x_5).bind λr_6=>(ag6 r_3.1 r_6.1).bind λr_7=>bif (!r_3.2)then(j9 ).bind λr_9=>some r_9 else
 bif (!r_6.2)then(j9 ).bind λr_11=>some r_11 else
 bif (!r_7.2)then(j9 ).bind λr_13=>some r_13 else
 (sW (decide (r_7.1=a_rel))).bind λr_14=>some r_14
instance gRelated_ok {a_rel : Int} {a_l : (List Val)} {r : Val} : OkC (r9 a_rel a_l = some r) (PTz 115 [.one (.int .i64 a_rel), .one (.lst (a_l.map cV))] (.val (.agg (cV r)))) := .mk λH => by
 unfold r9 at H;refine po_ Tryz.func115 Tryz.ntmps115 ?_;obtain⟨x_1,i1z,i1,i1x,H⟩:=br (f:=cV) H;obtain⟨x_2,i2z,i2,i2x,H⟩:=br (f:=cV) H;obtain⟨r_3,c3,H⟩:=bd_ H;replace c3:=vC c3;obtain⟨x_4,i4z,i4,i4x,H⟩:=br (f:=cV) H;obtain⟨x_5,i5z,i5,i5x,H⟩:=br (f:=cV) H;obtain⟨r_6,c6,H⟩:=bd_ H;replace c6:=vC c6;exact ay H
set_option maxHeartbeats 8000000
set_option maxHeartbeats 8000000
def Ha (a_less:Bool)(a_greater:Bool):Option (Int):=bif a_less then some (-1:Int)else
 bif a_greater then some (1:Int)else
 some (0:Int)
instance gSign_ok {a_less : Bool} {a_greater : Bool} {r : Int} : OkC (Ha a_less a_greater = some r) (PTz 190 [.one (.bool a_less), .one (.bool a_greater)] (.val (.one (.int .i64 r)))) := .mk λH => by
 unfold Ha at H;refine po_ Tryz.func190 Tryz.ntmps190 ?_;exact ay H
def v_ (a_a:Val)(a_b:Val):Option (Int):=bif a_a.kind≠a_b.kind then(Ha (decide (a_a.kind<a_b.kind)) (decide (a_b.kind<a_a.kind))).bind λr_2=>some r_2 else
 bif a_a.int≠a_b.int then(Ha (decide (a_a.int<a_b.int)) (decide (a_b.int<a_a.int))).bind λr_4=>some r_4 else
 (Ha (Op.bytesLess a_a.text.toList a_b.text.toList) (!((Op.bytesLess a_a.text.toList a_b.text.toList)||(a_a.text.toList==a_b.text.toList)))).bind λr_5=>some r_5
instance gCmp7_ok {a_a : Val} {a_b : Val} {r : Int} : OkC (v_ a_a a_b = some r) (PTz 120 [.agg (cV a_a), .agg (cV a_b)] (.val (.one (.int .i64 r)))) := .mk λH => by
 unfold v_ at H;refine po_ Tryz.func120 Tryz.ntmps120 ?_;exact ay H
def fL (a_a:(List Val))(a_b:(List Val)):(Int)->Option (Step (Int) (Int)):=λs=>match s with
 |i_1=>bif i_1<(a_a.length:Int)then bif i_1<(a_b.length:Int)then(aF a_a i_1).bind λx_4=>(aF a_b i_1).bind λx_5=>(v_ x_4 x_5).bind λr_6=>bif r_6≠(0:Int)then some (.ret r_6)else
 some (.next (i64.wrap (i_1+(1:Int))))else
 some (.exit i_1)else
 some (.exit i_1)
def iI (a_a:(List Val))(a_b:(List Val)):Sum (Int) (Int)->Option ((Int))
 |.inl i_1=>bif (a_a.length:Int)<(a_b.length:Int)then some (-1:Int)else
 bif (a_b.length:Int)<(a_a.length:Int)then some (1:Int)else
 some (0:Int)
 |.inr q=>some q
def pi (a_a:(List Val))(a_b:(List Val)):Option (Int):=(ao (fL a_a a_b) fuel (0:Int)).bind (iI a_a a_b)
instance gCmp8_ok {a_a : (List Val)} {a_b : (List Val)} {r : Int} : OkC (pi a_a a_b = some r) (PTz 79 [.one (.lst (a_a.map cV)), .one (.lst (a_b.map cV))] (.val (.one (.int .i64 r)))) := .mk λH => by
 unfold pi at H;refine po_ Tryz.func79 Tryz.ntmps79 ?_;refine a6 ?_;refine alM_ (λs:Int=>match s with|i_1=>[(0,.one (.c (.lst (a_a.map cV)))),(1,.one (.c (.lst (a_b.map cV)))),(5,.one (.c (.int .i64 i_1)))]) (λs=>match s with|i_1=>[]) H (λ_=>aqL _)
  (fm_ bE [] rfl bm trivial) ?_
 rintro i_1 st1 hb1 hk1;unfold fL at hb1;dsimp only at hb1 ⊢;obtain⟨q_2,hb1⟩|⟨q_2,hb1⟩:=aj hb1
 ·obtain⟨q_3,hb1⟩|⟨q_3,hb1⟩:=aj hb1
  ·obtain⟨x_4,i1z,i1,i1x,hb1⟩:=br (f:=cV) hb1
   obtain⟨x_5,i2z,i2,i2x,hb1⟩:=br (f:=cV) hb1;obtain⟨r_6,c3,hb1⟩:=bd_ hb1;replace c3:=gCmp7_ok c3;obtain⟨q_7,hb1⟩|⟨q_7,hb1⟩:=aj hb1
   ·exact bA hb1 hk1
   cases hb1;refine a6 ?_;exact⟨_,rfl,fm_ bE [] rfl bm trivial⟩
  exact bA hb1 hk1
 exact bA hb1 hk1
set_option maxHeartbeats 8000000
def dt:Option (Val):=some (⟨(0:Int),(0:Int),ByteArray.empty⟩:Val)
instance gNullR_ok {r : Val} : OkC (dt = some r) (PTz 72 [] (.val (.agg (cV r)))) := .mk λH => by
 unfold dt at H;refine po_ Tryz.func72 Tryz.ntmps72 ?_;exact ay H
def iA (a_s:ByteArray):(Int)->Option (Step (Int) (Bool)):=λs=>match s with
 |i_1=>bif i_1<(a_s.size:Int)then(age a_s i_1).bind λb_3=>bif (b_3.toNat:Int)<(32:Int)then some (.ret false)else
 bif (126:Int)<(b_3.toNat:Int)then some (.ret false)else
 some (.next (i64.wrap (i_1+(1:Int))))else
 some (.exit i_1)
def cW:Sum (Int) (Bool)->Option ((Bool))
 |.inl i_1=>some true
 |.inr q=>some q
def kh (a_s:ByteArray):Option (Bool):=(ao (iA a_s) fuel (0:Int)).bind (cW)
instance gPrintable_ok {a_s : ByteArray} {r : Bool} : OkC (kh a_s = some r) (PTz 199 [.one (.str a_s)] (.val (.one (.bool r)))) := .mk λH => by
 unfold kh at H;refine po_ Tryz.func199 Tryz.ntmps199 ?_
 repeat' (first|refine gs5_ ?_|refine b_ rfl rfl rfl rfl rfl rfl rfl ?_)
 refine alM_ (λs:Int=>match s with|i_1=>[(0,.one (.c (.str a_s))),(3,.one (.c (.int .i64 i_1)))]) (λs=>match s with|i_1=>[]) H (λ_=>aqL _)
  (fm_ bE [] rfl bm trivial) ?_
 rintro i_1 st1 hb1 hk1;unfold iA at hb1;dsimp only at hb1 ⊢;obtain⟨q_2,hb1⟩|⟨q_2,hb1⟩:=aj hb1
 ·obtain⟨b_3,i1,hb1⟩:=bd_ hb1
  obtain⟨i1z,i1⟩:=ED i1;obtain⟨q_4,hb1⟩|⟨q_4,hb1⟩:=aj hb1
  ·cases hb1
   have hx1:cW (.inr false)=some _:=hk1;unfold cW at hx1;dsimp only at hx1
   cases hx1
   repeat' (first|refine gs5_ ?_|refine b_ rfl rfl rfl rfl rfl rfl rfl ?_)
   refine aX (bg rfl ?_ ?_)
   ·repeat' (first|exact t7|rfl|exact aqA rfl|omega|apply And.intro)
   ·first|rfl|(simp only[aqD,aqB,aqF,aqv]<;>rfl)
  obtain⟨q_5,hb1⟩|⟨q_5,hb1⟩:=aj hb1
  ·cases hb1
   have hx1:cW (.inr false)=some _:=hk1;unfold cW at hx1;dsimp only at hx1
   cases hx1
   repeat' (first|refine gs5_ ?_|refine b_ rfl rfl rfl rfl rfl rfl rfl ?_)
   refine aX (bg rfl ?_ ?_)
   ·repeat' (first|exact t7|rfl|exact aqA rfl|omega|apply And.intro)
   ·first|rfl|(simp only[aqD,aqB,aqF,aqv]<;>rfl)
  cases hb1
  repeat' (first|refine gs5_ ?_|refine b_ rfl rfl rfl rfl rfl rfl rfl ?_)
  exact⟨_,rfl,fm_ bE [] rfl bm trivial⟩
 cases hb1;have hx1:cW (.inl i_1)=some _:=hk1;unfold cW at hx1;dsimp only at hx1
 cases hx1
 repeat' (first|refine gs5_ ?_|refine b_ rfl rfl rfl rfl rfl rfl rfl ?_)
 refine aX (bg rfl ?_ ?_)
 ·repeat' (first|exact t7|rfl|exact aqA rfl|omega|apply And.intro)
 ·first|rfl|(simp only[aqD,aqB,aqF,aqv]<;>rfl)
def dh (a_v:Val):Option (Bool):=bif a_v.kind=(0:Int)then bif a_v.int=(0:Int)then some (a_v.text.toList==(⟨#[]⟩:ByteArray).toList)else
 some false else
 bif a_v.kind=(1:Int)then bif (a_v.text.toList==(⟨#[]⟩:ByteArray).toList)then bif (-1125899906842624:Int)<=a_v.int then some (decide (a_v.int<=(1125899906842624:Int)))else
 some false else
 some false else
 bif a_v.kind=(2:Int)then bif a_v.int=(0:Int)then bif (a_v.text.size:Int)<=(200:Int)then(kh a_v.text).bind λr_9=>some r_9 else
 some false else
 some false else
 bif a_v.kind=(3:Int)then bif (a_v.text.toList==(⟨#[]⟩:ByteArray).toList)then bif a_v.int=(0:Int)then some true else
 some (decide (a_v.int=(1:Int)))else
 some false else
 some false
instance gValidR_ok {a_v : Val} {r : Bool} : OkC (dh a_v = some r) (PTz 139 [.agg (cV a_v)] (.val (.one (.bool r)))) := .mk λH => by
 unfold dh at H;refine po_ Tryz.func139 Tryz.ntmps139 ?_;exact ay H
def pp (a_v:Val):Option (Val):=(dh a_v).bind λr_1=>bif r_1 then some a_v else
 (dt ).bind λr_3=>some r_3
instance gvalidR_ok {a_v : Val} {r : Val} : OkC (pp a_v = some r) (PTz 220 [.agg (cV a_v)] (.val (.agg (cV r)))) := .mk λH => by
 unfold pp at H;refine po_ Tryz.func220 Tryz.ntmps220 ?_;exact ay H
def o6 (a_n:Int):Option (Val):=(pp (⟨(1:Int),a_n,ByteArray.empty⟩:Val)).bind λr_1=>some r_1
instance gIntR_ok {a_n : Int} {r : Val} : OkC (o6 a_n = some r) (PTz 169 [.one (.int .i64 a_n)] (.val (.agg (cV r)))) := .mk λH => by
 unfold o6 at H;refine po_ Tryz.func169 Tryz.ntmps169 ?_;exact ay H
def ael (a_row:(List Val))(a_i:Int):Option (Val):=bif a_i<(0:Int)then(dt ).bind λr_2=>some r_2 else
 bif (a_row.length:Int)<=a_i then(dt ).bind λr_4=>some r_4 else
 (aF a_row a_i).bind λx_5=>some x_5
instance gAtR_ok {a_row : (List Val)} {a_i : Int} {r : Val} : OkC (ael a_row a_i = some r) (PTz 215 [.one (.lst (a_row.map cV)), .one (.int .i64 a_i)] (.val (.agg (cV r)))) := .mk λH => by
 unfold ael at H;refine po_ Tryz.func215 Tryz.ntmps215 ?_;exact ay H
def iJ (a_a:(List Val))(a_b:(List Val)):Option (Bool):=(pi a_a a_b).bind λr_1=>some (decide (r_1=(0:Int)))
instance gEqual8_ok {a_a : (List Val)} {a_b : (List Val)} {r : Bool} : OkC (iJ a_a a_b = some r) (PTz 104 [.one (.lst (a_a.map cV)), .one (.lst (a_b.map cV))] (.val (.one (.bool r)))) := .mk λH => by
 unfold iJ at H;refine po_ Tryz.func104 Tryz.ntmps104 ?_;exact ay H
def sF (a_a:(List Val))(a_b:(List Val))(a_o:(List La)):(Int)->Option (Step (Int) (Bool)):=λs=>match s with
 |i_1=>bif i_1<(a_o.length:Int)then(aF a_o i_1).bind λx_3=>(ael a_a x_3.column).bind λr_4=>(ael a_b x_3.column).bind λr_5=>(v_ r_4 r_5).bind λr_6=>bif r_6≠(0:Int)then some (.ret (!((decide (r_6<(0:Int)))==x_3.desc)))else
 some (.next (i64.wrap (i_1+(1:Int))))else
 some (.exit i_1)
def sE (a_a:(List Val))(a_b:(List Val)):Sum (Int) (Bool)->Option ((Bool))
 |.inl i_1=>(pi a_a a_b).bind λr_8=>some (decide (r_8<(0:Int)))
 |.inr q=>some q
def tT (a_a:(List Val))(a_b:(List Val))(a_o:(List La)):Option (Bool):=(ao (sF a_a a_b a_o) fuel (0:Int)).bind (sE a_a a_b)
instance gBefore_ok {a_a : (List Val)} {a_b : (List Val)} {a_o : (List La)} {r : Bool} : OkC (tT a_a a_b a_o = some r) (PTz 224 [.one (.lst (a_a.map cV)), .one (.lst (a_b.map cV)), .one (.lst (a_o.map D1))] (.val (.one (.bool r)))) := .mk λH => by
 unfold tT at H;refine po_ Tryz.func224 Tryz.ntmps224 ?_;refine a6 ?_;refine alM_ (λs:Int=>match s with|i_1=>[(0,.one (.c (.lst (a_a.map cV)))),(1,.one (.c (.lst (a_b.map cV)))),(2,.one (.c (.lst (a_o.map D1)))),(7,.one (.c (.int .i64 i_1)))]) (λs=>match s with|i_1=>[]) H (λ_=>aqL _)
  (fm_ bE [] rfl bm trivial) ?_
 rintro i_1 st1 hb1 hk1;unfold sF at hb1;dsimp only at hb1 ⊢;obtain⟨q_2,hb1⟩|⟨q_2,hb1⟩:=aj hb1
 ·obtain⟨x_3,i1z,i1,i1x,hb1⟩:=br (f:=D1) hb1
  obtain⟨r_4,c2,hb1⟩:=bd_ hb1;replace c2:=gAtR_ok c2;obtain⟨r_5,c3,hb1⟩:=bd_ hb1;replace c3:=gAtR_ok c3;obtain⟨r_6,c4,hb1⟩:=bd_ hb1;replace c4:=gCmp7_ok c4;obtain⟨q_7,hb1⟩|⟨q_7,hb1⟩:=aj hb1
  ·exact bA hb1 hk1
  cases hb1;refine a6 ?_;exact⟨_,rfl,fm_ bE [] rfl bm trivial⟩
 exact bA hb1 hk1
def dQ (a_a:(List (List Val)))(a_b:(List (List Val)))(a_o:(List La)):((List (List Val))×Int×Int)->Option (Step ((List (List Val))×Int×Int) ((List (List Val)))):=λs=>match s with
 |(out_1,i_2,k_3)=>bif i_2<(a_a.length:Int)then bif i_2=(a_a.length:Int)then(aF a_b k_3).bind λx_6=>bif out_1.length+1<=5864062014805 then(some (.next ((out_1++[x_6]),i_2,(i64.wrap (k_3+(1:Int))))))else none else
 bif k_3<(a_b.length:Int)then(aF a_b k_3).bind λx_8=>(aF a_a i_2).bind λx_9=>(tT x_8 x_9 a_o).bind λr_10=>bif r_10 then bif out_1.length+1<=5864062014805 then(some (.next ((out_1++[x_8]),i_2,(i64.wrap (k_3+(1:Int))))))else none else
 bif out_1.length+1<=5864062014805 then(some (.next ((out_1++[x_9]),(i64.wrap (i_2+(1:Int))),k_3)))else none else
 (aF a_a i_2).bind λx_12=>bif out_1.length+1<=5864062014805 then(some (.next ((out_1++[x_12]),(i64.wrap (i_2+(1:Int))),k_3)))else none else
 bif k_3<(a_b.length:Int)then bif i_2=(a_a.length:Int)then(aF a_b k_3).bind λx_15=>bif out_1.length+1<=5864062014805 then(some (.next ((out_1++[x_15]),i_2,(i64.wrap (k_3+(1:Int))))))else none else
 (aF a_b k_3).bind λx_16=>(aF a_a i_2).bind λx_17=>(tT x_16 x_17 a_o).bind λr_18=>bif r_18 then bif out_1.length+1<=5864062014805 then(some (.next ((out_1++[x_16]),i_2,(i64.wrap (k_3+(1:Int))))))else none else
 bif out_1.length+1<=5864062014805 then(some (.next ((out_1++[x_17]),(i64.wrap (i_2+(1:Int))),k_3)))else none else
 some (.exit (out_1,i_2,k_3))
def Ar:Sum ((List (List Val))×Int×Int) ((List (List Val)))->Option (((List (List Val))))
 |.inl (out_1,i_2,k_3)=>some out_1
 |.inr q=>some q
def xf (a_a:(List (List Val)))(a_b:(List (List Val)))(a_o:(List La)):Option ((List (List Val))):=(ao (dQ a_a a_b a_o) fuel ([],(0:Int),(0:Int))).bind (Ar)
instance gMerged_ok {a_a : (List (List Val))} {a_b : (List (List Val))} {a_o : (List La)} {r : (List (List Val))} : OkC (xf a_a a_b a_o = some r) (PTz 174 [.one (.lst (a_a.map (λx => [AC.lst (x.map cV)]))), .one (.lst (a_b.map (λx => [AC.lst (x.map cV)]))), .one (.lst (a_o.map D1))] (.val (.one (.lst (r.map (λx => [AC.lst (x.map cV)])))))) := .mk λH => by
 unfold xf at H;refine po_ Tryz.func174 Tryz.ntmps174 ?_;refine a6 ?_;refine bS 7 1 rfl ?_;refine alM_ (λs:(List (List Val))×Int×Int=>match s with|(out_1,i_2,k_3)=>[(0,.one (.c (.lst (a_a.map (λx=>[AC.lst (x.map cV)]))))),(1,.one (.c (.lst (a_b.map (λx=>[AC.lst (x.map cV)]))))),(2,.one (.c (.lst (a_o.map D1)))),(7,.one (.own (out_1.map (λx=>[AC.lst (x.map cV)])) 0)),(8,.one (.c (.int .i64 i_2))),(9,.one (.c (.int .i64 k_3)))]) (λs=>match s with|(out_1,i_2,k_3)=>[.spare out_1.length 1]) H (λ_=>aqL _)
  (fm_ bE [] rfl bm cm) ?_
 rintro⟨out_1,i_2,k_3⟩ st1 hb1 hk1;exact bA hb1 hk1
def fV (a_row:(List Val))(a_kinds:(List Int)):(Int)->Option (Step (Int) (Bool)):=λs=>match s with
 |i_2=>bif i_2<(a_row.length:Int)then(aF a_row i_2).bind λx_4=>(dh x_4).bind λr_5=>bif (!r_5)then some (.ret false)else
 bif x_4.kind≠(0:Int)then(aF a_kinds i_2).bind λx_8=>bif x_4.kind≠x_8 then some (.ret false)else
 some (.next (i64.wrap (i_2+(1:Int))))else
 some (.next (i64.wrap (i_2+(1:Int))))else
 some (.exit i_2)
def FB:Sum (Int) (Bool)->Option ((Bool))
 |.inl i_2=>some true
 |.inr q=>some q
def tu (a_row:(List Val))(a_kinds:(List Int)):Option (Bool):=bif (a_row.length:Int)≠(a_kinds.length:Int)then some false else
 (ao (fV a_row a_kinds) fuel (0:Int)).bind (FB)
instance gFits8_ok {a_row : (List Val)} {a_kinds : (List Int)} {r : Bool} : OkC (tu a_row a_kinds = some r) (PTz 86 [.one (.lst (a_row.map cV)), .one (.lst (a_kinds.map (λx => [AC.int .i64 x])))] (.val (.one (.bool r)))) := .mk λH => by
 unfold tu at H;refine po_ Tryz.func86 Tryz.ntmps86 ?_;obtain⟨q_1,H⟩|⟨q_1,H⟩:=aj H
 ·exact ay H
 refine a6 ?_;refine alM_ (λs:Int=>match s with|i_2=>[(0,.one (.c (.lst (a_row.map cV)))),(1,.one (.c (.lst (a_kinds.map (λx=>[AC.int .i64 x]))))),(5,.one (.c (.int .i64 i_2)))]) (λs=>match s with|i_2=>[]) H (λ_=>aqL _)
  (fm_ bE [] rfl bm trivial) ?_
 rintro i_2 st1 hb1 hk1;unfold fV at hb1;dsimp only at hb1 ⊢;obtain⟨q_3,hb1⟩|⟨q_3,hb1⟩:=aj hb1
 ·obtain⟨x_4,i1z,i1,i1x,hb1⟩:=br (f:=cV) hb1
  obtain⟨r_5,c2,hb1⟩:=bd_ hb1;replace c2:=gValidR_ok c2;obtain⟨q_6,hb1⟩|⟨q_6,hb1⟩:=aj hb1
  ·exact bA hb1 hk1
  obtain⟨q_7,hb1⟩|⟨q_7,hb1⟩:=aj hb1
  ·obtain⟨x_8,i3z,i3,i3x,hb1⟩:=br (f:=(λx=>[AC.int .i64 x])) hb1
   obtain⟨q_9,hb1⟩|⟨q_9,hb1⟩:=aj hb1
   ·exact bA hb1 hk1
   cases hb1;refine a6 ?_;exact⟨_,rfl,fm_ bE [] rfl bm trivial⟩
  cases hb1;refine a6 ?_;exact⟨_,rfl,fm_ bE [] rfl bm trivial⟩
 exact bA hb1 hk1
def BI (a_k:Int):Option (Bool):=bif a_k=(1:Int)then some true else
 bif a_k=(2:Int)then some true else
 some (decide (a_k=(3:Int)))
instance gKind_ok {a_k : Int} {r : Bool} : OkC (BI a_k = some r) (PTz 140 [.one (.int .i64 a_k)] (.val (.one (.bool r)))) := .mk λH => by
 unfold BI at H;refine po_ Tryz.func140 Tryz.ntmps140 ?_;exact ay H
def nl (a_l:(List Int)):(Int)->Option (Step (Int) (Bool)):=λs=>match s with
 |i_1=>bif i_1<(a_l.length:Int)then(aF a_l i_1).bind λx_3=>(BI x_3).bind λr_4=>bif (!r_4)then some (.ret false)else
 some (.next (i64.wrap (i_1+(1:Int))))else
 some (.exit i_1)
def aaq:Sum (Int) (Bool)->Option ((Bool))
 |.inl i_1=>some true
 |.inr q=>some q
def Eh (a_l:(List Int)):Option (Bool):=(ao (nl a_l) fuel (0:Int)).bind (aaq)
instance gKinds_ok {a_l : (List Int)} {r : Bool} : OkC (Eh a_l = some r) (PTz 87 [.one (.lst (a_l.map (λx => [AC.int .i64 x])))] (.val (.one (.bool r)))) := .mk λH => by
 unfold Eh at H;refine po_ Tryz.func87 Tryz.ntmps87 ?_;refine a6 ?_;refine alM_ (λs:Int=>match s with|i_1=>[(0,.one (.c (.lst (a_l.map (λx=>[AC.int .i64 x]))))),(3,.one (.c (.int .i64 i_1)))]) (λs=>match s with|i_1=>[]) H (λ_=>aqL _)
  (fm_ bE [] rfl bm trivial) ?_
 rintro i_1 st1 hb1 hk1;unfold nl at hb1;dsimp only at hb1 ⊢;obtain⟨q_2,hb1⟩|⟨q_2,hb1⟩:=aj hb1
 ·obtain⟨x_3,i1z,i1,i1x,hb1⟩:=br (f:=(λx=>[AC.int .i64 x])) hb1
  obtain⟨r_4,c2,hb1⟩:=bd_ hb1;replace c2:=gKind_ok c2;obtain⟨q_5,hb1⟩|⟨q_5,hb1⟩:=aj hb1
  ·exact bA hb1 hk1
  cases hb1;refine a6 ?_;exact⟨_,rfl,fm_ bE [] rfl bm trivial⟩
 exact bA hb1 hk1
def iB (a_a:(List Int))(a_b:(List Int)):(Int)->Option (Step (Int) (Bool)):=λs=>match s with
 |i_2=>bif i_2<(a_a.length:Int)then(aF a_a i_2).bind λx_4=>(aF a_b i_2).bind λx_5=>bif x_4≠x_5 then some (.ret false)else
 some (.next (i64.wrap (i_2+(1:Int))))else
 some (.exit i_2)
def yj:Sum (Int) (Bool)->Option ((Bool))
 |.inl i_2=>some true
 |.inr q=>some q
def iM (a_a:(List Int))(a_b:(List Int)):Option (Bool):=bif (a_a.length:Int)≠(a_b.length:Int)then some false else
 (ao (iB a_a a_b) fuel (0:Int)).bind (yj)
instance gSameKinds_ok {a_a : (List Int)} {a_b : (List Int)} {r : Bool} : OkC (iM a_a a_b = some r) (PTz 51 [.one (.lst (a_a.map (λx => [AC.int .i64 x]))), .one (.lst (a_b.map (λx => [AC.int .i64 x])))] (.val (.one (.bool r)))) := .mk λH => by
 unfold iM at H;refine po_ Tryz.func51 Tryz.ntmps51 ?_;obtain⟨q_1,H⟩|⟨q_1,H⟩:=aj H
 ·exact ay H
 refine a6 ?_;refine alM_ (λs:Int=>match s with|i_2=>[(0,.one (.c (.lst (a_a.map (λx=>[AC.int .i64 x]))))),(1,.one (.c (.lst (a_b.map (λx=>[AC.int .i64 x]))))),(5,.one (.c (.int .i64 i_2)))]) (λs=>match s with|i_2=>[]) H (λ_=>aqL _)
  (fm_ bE [] rfl bm trivial) ?_
 rintro i_2 st1 hb1 hk1;unfold iB at hb1;dsimp only at hb1 ⊢;obtain⟨q_3,hb1⟩|⟨q_3,hb1⟩:=aj hb1
 ·obtain⟨x_4,i1z,i1,i1x,hb1⟩:=br (f:=(λx=>[AC.int .i64 x])) hb1
  obtain⟨x_5,i2z,i2,i2x,hb1⟩:=br (f:=(λx=>[AC.int .i64 x])) hb1;obtain⟨q_6,hb1⟩|⟨q_6,hb1⟩:=aj hb1
  ·exact bA hb1 hk1
  cases hb1;refine a6 ?_;exact⟨_,rfl,fm_ bE [] rfl bm trivial⟩
 exact bA hb1 hk1
section
variable {P:Program} {ti:TI} {B:Nat->Prop} {N n0:Nat} {R:PH} {γ:List Gh} {L:List Ob} {T:Tm} {w:World} {Q:AX->Tm->List Ob->Prop}
theorem JU {c:Code}(id:Nat){ver k:Nat}{es:List (List SV)}{cs:List (List AC)}(hL:L[id]?=some (.row ver es k))(hn:d_ es=some cs)(h:Aw P N n0 c Q T (L.set id (.row ver (cs.map (List.map SV.c)) k))):Aw P N n0 c Q T L:=by
 intro hn0 B R γ w a hi hT;have hlt:id<L.length:=(aqp.1 hL).1;have hlen:=nI hn;have hM:Mv R R γ γ L (L.set id (.row ver (cs.map (List.map SV.c)) k)):=by
  refine⟨PH.sub_refl _,m5,λt n k' _ e=>?_,λt ver' es' k' _ e=>?_,λ_ _ e=>e⟩
  ·by_cases q:t=id
   ·subst q;rw[aqJ hlt]at e;cases e
   ·rw[aqK (Ne.symm q)]at e;exact⟨n,e,aqG _,λ_=>rfl⟩
  ·by_cases q:t=id
   ·subst q;rw[aqJ hlt]at e;injection e with e;injection e with e1 e2 e3;subst e1 e2 e3
    exact⟨ver,es,hL,aqG _,λ_=>⟨by simp[hlen],rfl⟩⟩
   ·rw[aqK (Ne.symm q)]at e;exact⟨ver',es',e,aqG _,λ_=>⟨rfl,rfl⟩⟩
 have hI:Inv B R γ (L.set id (.row ver (cs.map (List.map SV.c)) k)) w:=by
  refine⟨by simp[hi.len],hi.val,λt x g hx hg=>?_,hi.inj,hi.new,hi.bsz⟩;by_cases q:t=id
  ·subst q
   rw[aqJ hlt]at hx;injection hx with hx;subst hx
   have ho:=hi.obj t _ _ hL hg
   match g,ho with
   |.none,ho =>
    have ho:es=[]:=ho;subst ho;have:cs=[]:=aqQ (by rw[<- hlen];rfl);subst this;exact rfl
   |.arr b cc,⟨⟨vs,E,h1,h2,h3⟩,h4,h5,h6,h7⟩ =>
    refine⟨⟨vs,E,h1,h2,λi e j u x he hu hx=>?_⟩,by simpa[hlen]using h4,h5,λe he=>?_,h7⟩
    ·rw[aqN]at he
     cases hc:cs[i]? with
     |none=>rw[hc]at he;cases he
     |some c0 =>
      rw[hc]at he;injection he with he;subst he
      obtain⟨e0,he0,hn0'⟩:=jn hn i c0 hc;rw[aqN]at hx
      cases hj:c0[j]? with
      |none=>rw[hj]at hx;cases hx
      |some y =>
       rw[hj]at hx;injection hx with hx;subst hx
       obtain⟨x0,hx0⟩:=gol_ (show j<e0.length by rw[<- dW hn0'];exact(aqp.1 hj).1);exact SV.norm_rep (h3 i e0 j u x0 he0 hu hx0) (i_ hn0' j x0 y hx0 hj)
    ·obtain⟨c0,hc0,rfl⟩:=aq0.1 he
     obtain⟨i,hi0⟩:=List.getElem?_of_mem hc0;obtain⟨e0,he0,hn0'⟩:=jn hn i c0 hi0;rw[aqC,dW hn0'];exact h6 e0 (aqw he0)
  ·rw[aqK (Ne.symm q)]at hx
   exact(hi.obj t x g hx hg).mv hM (λ_ _=>rfl) (λ_ _ _ e=>e)
 refine wp_mono (h (by simpa using hn0) B R γ w a hI (hT.mv hM)) λ_ _ _ hh=>hh.ext (Ext.refl _ _ _) hi.len (qF.of hn0 hM)
end
theorem a8:∀ {n:Nat} {L:List Ob},n_ n L ->∀ x∈L,x.below n
 |_,_::_,h,x,hx=>by
  obtain rfl|hx:=aqH.1 hx
  ·exact h.1
  ·exact a8 h.2 x hx
def gC (x:AC):List SV:=[.c x]
def amE:TI :={ ae7 with soft:=true }
theorem aY:TIok Tryz.prog amE:=⟨am.size,am.agg,am.elem,am.field,am.zero,am.bytes,am.kind,am.struct,am.zok,am.eqs⟩
theorem abw (σ:List Nat)(v k:Nat)(l:List AC):(Ob.row v (l.map gC) k).ren σ=Ob.row v (l.map gC) k:=by
 simp only[Ob.ren,List.map_map];rfl
theorem j1 {L L':List Ob}{v k:Nat}{l:List AC}(h:L.set 0 (Ob.row v (l.map gC) k)=L'):joinL [0] L [Ob.row v (l.map gC) k]=L':=by
 subst h;simp[joinL,join,cZ,bY,eY,abw]
theorem bV {n:Nat}{l:List AV}(h:gQ n (l.map λx=>(0,x))):∀ y∈l,y.below n:=by
 induction l with
 |nil=>intro y hy;cases hy
 |cons x l ih =>
  intro y hy;obtain rfl|hy:=aqH.1 hy
  ·exact h.1
  ·exact ih h.2 y hy
def fp (p:SV)(u:Nat)(s:ByteArray)(i:Nat):Ob := .row (238+65536) [[p,.sl (i+1) u 0 s.size]] 2
def fy (u:Nat)(s:ByteArray):Ob := .row u (bq s) 1
theorem akJ : ∃ fn, Tryz.prog.funcs[293]? = some fn /\ (fn.name == "runtime.NumGoroutine") = false /\ fn.body.isNone = true /\ Extern.findNext fn = none /\ Extern.find fn = some Extern.AbiNoEscape.same := ⟨_, Tryz.func293, by kernel_rfl, by kernel_rfl, by kernel_rfl, by kernel_rfl⟩
theorem acA:∃ j,Tryz.prog.info? 238=some j/\j.size=2:=by
 have h:(Tryz.prog.info? 238).map (·.size)=some 2:=k7
 cases hi:Tryz.prog.info? 238 with
 |none=>rw[hi]at h;cases h
 |some j=>rw[hi]at h;exact⟨j,rfl,by simpa using h⟩
theorem b7 {n v k:Nat}{a b:SV}(ha:a.below n)(hb:b.below n):(Ob.row v [[a,b]] k).below n:=by
 intro e he x hx;obtain rfl|he:=aqH.1 he
 ·obtain rfl|hx:=aqH.1 hx
  ·exact ha
  ·obtain rfl|hx:=aqH.1 hx
   ·exact hb
   ·cases hx
 ·cases he
theorem a7 (n u:Nat)(s:ByteArray):(fy u s).below n:=by
 intro e he x hx;obtain⟨y,_,rfl⟩:=aq0.1 he;obtain rfl|hx:=aqH.1 hx
 ·trivial
 ·cases hx
theorem bJ (s:ByteArray):(bq s).length=s.size:=by unfold bq;rw[aqC];simp
theorem gD (s t:ByteArray):bq (s++t)=bq s++bq t:=by
 unfold bq;rw[<- aqD];congr 1
theorem G_ (σ:List Nat)(s:ByteArray):(bq s).map (List.map (SV.ren σ))=bq s:=by
 unfold bq;rw[List.map_map];rfl
theorem fP (σ:List Nat)(u:Nat)(s:ByteArray):(fy u s).ren σ=fy u s:=by simp only[fy,Ob.ren,G_]
theorem Gq {i j:Nat}{L L':List Ob}{a b a' b':Ob}(ha:a.ren [i,j]=a')(hb:b.ren [i,j]=b')(h:(L.set i a').set j b'=L'):joinL [i,j] L [a,b]=L':=by
 subst ha hb h;simp[joinL,join,cZ,bY,eY]
theorem rm {L:List Ob}{a b:Ob}{x:AV}{xs:List AV}{i j:Nat}(h0:L[i]?=some (a.ren [i,j]))(h1:L[j]?=some (b.ren [i,j]))(hne:i≠j)(ha:a.below 2)(hb:b.below 2)(hx:∀ y∈x::xs,y.below 2):ge [i,j] [a,b] (x::xs) L:=by
 refine⟨rfl,by simp[hne],λk y hy=>?_,a8 ⟨ha,hb,t7⟩,hx⟩
 match k,hy with
 |0,hy=>simp at hy;subst hy;exact h0
 |1,hy=>simp at hy;subst hy;exact h1
 |k+2,hy=>simp at hy
theorem Ly:Tryz.prog.cellsOf 238=2:=k7
theorem adL:Tryz.prog.cellsOf 5=1:=k7
theorem me (x:SV)(o:Ob)(hx:x.below 2)(ho:o.below 2):RTz 274 [.row (238+65536) [[(.c (.nul .ptr)),x]] 2,o] [.one (.ep 0 (238+65536) 0 0)] [.row (238+65536) [[(.ep 0 (238+65536) 0 0),x]] 2,o] (.tup []):=by
 obtain⟨j,hj,hj2⟩:=acA;obtain⟨fn,hf,hnm,hbd,hnx,hfd⟩:=akJ;refine be am Tryz.func274 rfl rfl Tryz.ntmps274 m5 ?_;simp only[eL]
 repeat' (first|refine gw_ am aY ?_|refine gi_ (λhb=>?_) (λhb=>?_)|(refine dR rfl rfl rfl rfl rfl (xP rfl rfl (am.kind 235 _ rfl)) ?_)|(refine dR rfl rfl rfl rfl rfl (pm rfl rfl rfl (am.kind 235 _ rfl)) ?_)|(refine dR rfl rfl rfl rfl rfl (pL rfl rfl rfl (am.kind 235 _ rfl) hj) ?_)|(refine dR rfl rfl rfl rfl rfl (jy rfl rfl (am.kind 235 _ rfl) (am.kind 271 _ rfl) hj (by rw[hj2];decide)) ?_)|(refine dR rfl rfl rfl rfl rfl (mD rfl rfl (am.kind 271 _ rfl) (am.kind 235 _ rfl) hj Ly rfl) ?_)|(refine b9 rfl rfl rfl rfl rfl (mJ rfl hf hnm hbd hnx hfd) ?_)|fail)
 all_goals exact⟨.inl rfl,⟨.inr ⟨.tup [],⟨t7,rfl⟩,rfl⟩,⟨[],rfl⟩,m5,a8 ⟨b7 (by show 0<2;omega) hx,ho,t7⟩,by simp[CV.av,AV.below]⟩⟩
theorem oR (x:SV)(o:Ob)(hx:x.below 2)(ho:o.below 2):RTz 274 [.row (238+65536) [[(.ep 0 (238+65536) 0 0),x]] 2,o] [.one (.ep 0 (238+65536) 0 0)] [.row (238+65536) [[(.ep 0 (238+65536) 0 0),x]] 2,o] (.tup []):=by
 obtain⟨j,hj,hj2⟩:=acA;obtain⟨fn,hf,hnm,hbd,hnx,hfd⟩:=akJ;refine be am Tryz.func274 rfl rfl Tryz.ntmps274 m5 ?_;simp only[eL]
 repeat' (first|refine gw_ am aY ?_|refine gi_ (λhb=>?_) (λhb=>?_)|(refine dR rfl rfl rfl rfl rfl (xP rfl rfl (am.kind 235 _ rfl)) ?_)|(refine dR rfl rfl rfl rfl rfl (pm rfl rfl rfl (am.kind 235 _ rfl)) ?_)|(refine dR rfl rfl rfl rfl rfl (pL rfl rfl rfl (am.kind 235 _ rfl) hj) ?_)|(refine dR rfl rfl rfl rfl rfl (jy rfl rfl (am.kind 235 _ rfl) (am.kind 271 _ rfl) hj (by rw[hj2];decide)) ?_)|(refine dR rfl rfl rfl rfl rfl (mD rfl rfl (am.kind 271 _ rfl) (am.kind 235 _ rfl) hj Ly rfl) ?_)|(refine b9 rfl rfl rfl rfl rfl (mJ rfl hf hnm hbd hnx hfd) ?_)|fail)
 all_goals exact⟨.inl rfl,⟨.inr ⟨.tup [],⟨t7,rfl⟩,rfl⟩,⟨[],rfl⟩,m5,a8 ⟨b7 (by show 0<2;omega) hx,ho,t7⟩,by simp[CV.av,AV.below]⟩⟩
theorem BK (u:Nat)(s:ByteArray)(t:ByteArray)(hu:u%65536=5)(hs:s.size<=100000000000000)(ht:t.size<=1000000000000):RTz 250 [fp (.c (.nul .ptr)) u s 0,fy u s] [.one (.ep 0 (238+65536) 0 0),.one (.c (.str t))] [fp (.ep 0 (238+65536) 0 0) (u+65536) (s++t) 0,fy (u+65536) (s++t)] (.tup [.one (.int .i64 t.size),.one (.nul .iface)]):=by
 refine be am Tryz.func250 rfl rfl Tryz.ntmps250 m5 ?_;simp only[eL];unfold fp
 repeat' (first|(refine b9 rfl rfl rfl rfl rfl (ee am (k:=1) (by_:=1) (xs:=bq t) rfl rfl rfl rfl ⟨rfl,rfl⟩ rfl hu rfl rfl rfl m0 (by exact bJ s) (by rw[bJ];omega) (by rw[bJ];omega)) ?_)|(refine cJ [0,1] rfl rfl rfl rfl (me (.sl 1 u 0 s.size) (fy u s) (by show 1<2;omega) (a7 _ _ _)) rfl (rm r5 (by rw[fP];rfl) m9 (b7 trivial (by show 1<2;omega)) (a7 _ _ _) (λy hy=>by rcases aqH.1 hy with rfl|hy<;>first|(show 0<2;omega)|cases hy)) rfl (Gq rfl (fP _ _ _) rfl) ?_)|refine gw_ am aY ?_|refine gi_ (λhb=>?_) (λhb=>?_)|fail)
 all_goals refine⟨.inr rfl,⟨.inr ⟨.tup [.one (.int .i64 t.size),.one (.nul .iface)],⟨⟨t7,t7,t7⟩,rfl⟩,rfl⟩,⟨[],?_⟩,m5,a8 ⟨b7 (by show 0<2;omega) (by show 1<2;omega),a7 _ _ _,t7⟩,t7⟩⟩
 all_goals (rw[aqZ];show [Ob.row _ [[_,SV.sl (0+1) (u+65536) 0 (s.size+(bq t).length)]] 2,Ob.row (u+65536) (bq s++bq t) 1]=_;rw[bJ,<- gD,<- ByteArray.size_append];rfl)
theorem ub (u:Nat)(s:ByteArray)(t:ByteArray)(hu:u%65536=5)(hs:s.size<=100000000000000)(ht:t.size<=1000000000000):RTz 250 [fp (.ep 0 (238+65536) 0 0) u s 0,fy u s] [.one (.ep 0 (238+65536) 0 0),.one (.c (.str t))] [fp (.ep 0 (238+65536) 0 0) (u+65536) (s++t) 0,fy (u+65536) (s++t)] (.tup [.one (.int .i64 t.size),.one (.nul .iface)]):=by
 refine be am Tryz.func250 rfl rfl Tryz.ntmps250 m5 ?_;simp only[eL];unfold fp
 repeat' (first|(refine b9 rfl rfl rfl rfl rfl (ee am (k:=1) (by_:=1) (xs:=bq t) rfl rfl rfl rfl ⟨rfl,rfl⟩ rfl hu rfl rfl rfl m0 (by exact bJ s) (by rw[bJ];omega) (by rw[bJ];omega)) ?_)|(refine cJ [0,1] rfl rfl rfl rfl (oR (.sl 1 u 0 s.size) (fy u s) (by show 1<2;omega) (a7 _ _ _)) rfl (rm r5 (by rw[fP];rfl) m9 (b7 (by show 0<2;omega) (by show 1<2;omega)) (a7 _ _ _) (λy hy=>by rcases aqH.1 hy with rfl|hy<;>first|(show 0<2;omega)|cases hy)) rfl (Gq rfl (fP _ _ _) rfl) ?_)|refine gw_ am aY ?_|refine gi_ (λhb=>?_) (λhb=>?_)|fail)
 all_goals refine⟨.inr rfl,⟨.inr ⟨.tup [.one (.int .i64 t.size),.one (.nul .iface)],⟨⟨t7,t7,t7⟩,rfl⟩,rfl⟩,⟨[],?_⟩,m5,a8 ⟨b7 (by show 0<2;omega) (by show 1<2;omega),a7 _ _ _,t7⟩,t7⟩⟩
 all_goals (rw[aqZ];show [Ob.row _ [[_,SV.sl (0+1) (u+65536) 0 (s.size+(bq t).length)]] 2,Ob.row (u+65536) (bq s++bq t) 1]=_;rw[bJ,<- gD,<- ByteArray.size_append];rfl)
theorem LK (u:Nat)(s:ByteArray)(t:UInt8)(hu:u%65536=5)(hs:s.size<=100000000000000)  : RTz 252 [fp (.ep 0 (238+65536) 0 0) u s 0,fy u s] [.one (.ep 0 (238+65536) 0 0),.one (.c (.int .u8 t.toNat))] [fp (.ep 0 (238+65536) 0 0) (u+65536) (s++⟨#[t]⟩) 0,fy (u+65536) (s++⟨#[t]⟩)] (.one (.c (.nul .iface))):=by
 refine be am Tryz.func252 rfl rfl Tryz.ntmps252 m5 ?_;simp only[eL];unfold fp
 repeat' (first|(refine b9 rfl rfl rfl rfl rfl (ee am (k:=1) (by_:=1) (xs:=bq ⟨#[t]⟩) rfl rfl rfl rfl ⟨rfl,_,rfl,by intro e he;simp at he;subst he;rfl⟩ rfl hu rfl rfl rfl m0 (by exact bJ s) (by rw[bJ];show(s.size+1)*1<=_;omega) (by rw[bJ];show s.size+1<=_;omega)) ?_)|(refine cJ [0,1] rfl rfl rfl rfl (oR (.sl 1 u 0 s.size) (fy u s) (by show 1<2;omega) (a7 _ _ _)) rfl (rm r5 (by rw[fP];rfl) m9 (b7 (by show 0<2;omega) (by show 1<2;omega)) (a7 _ _ _) (λy hy=>by rcases aqH.1 hy with rfl|hy<;>first|(show 0<2;omega)|cases hy)) rfl (Gq rfl (fP _ _ _) rfl) ?_)|refine gw_ am aY ?_|refine gi_ (λhb=>?_) (λhb=>?_)|fail)
 all_goals refine⟨.inr rfl,⟨.inl ⟨4,rfl,rfl⟩,⟨[],?_⟩,m5,a8 ⟨b7 (by show 0<2;omega) (by show 1<2;omega),a7 _ _ _,t7⟩,t7⟩⟩
 all_goals (rw[aqZ];show [Ob.row _ [[_,SV.sl (0+1) (u+65536) 0 (s.size+(bq ⟨#[t]⟩).length)]] 2,Ob.row (u+65536) (bq s++bq ⟨#[t]⟩) 1]=_;rw[bJ,<- gD,<- ByteArray.size_append];rfl)
theorem aia (u:Nat)(s:ByteArray)(hu:u%65536=5)(h0:0<s.size)(hs:s.size<=100000000000000):RTz 253 [fp (.ep 0 (238+65536) 0 0) u s 0,fy u s] [.one (.ep 0 (238+65536) 0 0)] [fp (.ep 0 (238+65536) 0 0) u s 0,.dead] (.one (.c (.str s))):=by
 refine be am Tryz.func253 rfl rfl Tryz.ntmps253 m5 ?_;simp only[eL];unfold fp
 repeat' (first|(refine dR rfl rfl rfl rfl rfl (qC rfl rfl h0) ?_)|(refine acr rfl rfl rfl rfl rfl (km rfl rfl rfl hu (aY.kind _ _ rfl) adL h0 m0) ?_)|refine gw_ am aY ?_|refine gi_ (λhb=>?_) (λhb=>?_)|fail)
 all_goals exact⟨.inr rfl,⟨.inl ⟨2,rfl,rfl⟩,⟨[],rfl⟩,m5,a8 ⟨b7 (by show 0<2;omega) (by show 1<2;omega),t7,t7⟩,t7⟩⟩
theorem aiW:RTz 253 [fp (.c (.nul .ptr)) 5 ⟨#[]⟩ 0,fy 5 ⟨#[]⟩] [.one (.ep 0 (238+65536) 0 0)] [fp (.c (.nul .ptr)) 5 ⟨#[]⟩ 0,fy 5 ⟨#[]⟩] (.one (.c (.str ⟨#[]⟩))):=by
 refine be am Tryz.func253 rfl rfl Tryz.ntmps253 m5 ?_;simp only[eL];unfold fp
 repeat' (first|(refine dR rfl rfl rfl rfl rfl (oF rfl rfl m9) ?_)|(refine acr rfl rfl rfl rfl rfl (jv rfl rfl) ?_)|refine gw_ am aY ?_|refine gi_ (λhb=>?_) (λhb=>?_)|fail)
 all_goals exact⟨.inr rfl,⟨.inl ⟨2,rfl,rfl⟩,⟨[],rfl⟩,m5,a8 ⟨b7 trivial (by show 1<2;omega),a7 _ _ _,t7⟩,t7⟩⟩
end Go.Proofs.YtlcceppoloaecaaGreatDoor
namespace Go.Proofs
open Go.Shelf
def Tryz.laysM171_ren:Go.Shelf.Ren:=⟨λ|171=>251|243=>275|246=>294|283=>301|284=>302|285=>303|286=>304|129=>130|317=>307|318=>308|319=>309|320=>310|337=>311|338=>312|n=>n,λ|3=>3|9=>9|2=>2|4=>4|171=>278|0=>0|53=>145|37=>236|5=>5|173=>280|212=>284|51=>143|20=>20|213=>285|46=>103|232=>286|233=>287|n=>n,λ|17=>1|18=>2|19=>3|n=>n⟩
theorem Tryz.laysM171:Go.Proofs.LaysM.n171 Tryz.prog Tryz.laysM171_ren :={
 mixed:=k7
 f129:=Tryz.func130.trans (congrArg some k7)
 f171:=Tryz.func251.trans (congrArg some k7)
 f243:=Tryz.func275.trans (congrArg some k7)
 f246:=Tryz.func294.trans (congrArg some k7)
 f283:=Tryz.func301.trans (congrArg some k7)
 f284:=Tryz.func302.trans (congrArg some k7)
 f285:=Tryz.func303.trans (congrArg some k7)
 f286:=Tryz.func304.trans (congrArg some k7)
 f317:=Tryz.func307.trans (congrArg some k7)
 f318:=Tryz.func308.trans (congrArg some k7)
 f319:=Tryz.func309.trans (congrArg some k7)
 f320:=Tryz.func310.trans (congrArg some k7)
 f337:=Tryz.func311.trans (congrArg some k7)
 f338:=Tryz.func312.trans (congrArg some k7)
 t0:=Tryz.underlying0
 a0:=Tryz.isAgg0
 z0:=Tryz.sizeOf0
 v0:=Tryz.zeroValue0
 t2:=Tryz.underlying2
 a2:=Tryz.isAgg2
 z2:=Tryz.sizeOf2
 v2:=Tryz.zeroValue2
 t3:=Tryz.underlying3
 a3:=Tryz.isAgg3
 z3:=Tryz.sizeOf3
 v3:=Tryz.zeroValue3
 t4:=Tryz.underlying4
 a4:=Tryz.isAgg4
 z4:=Tryz.sizeOf4
 v4:=Tryz.zeroValue4
 t5:=Tryz.underlying5
 a5:=Tryz.isAgg5
 z5:=Tryz.sizeOf5
 v5:=Tryz.zeroValue5
 t9:=Tryz.underlying9
 a9:=Tryz.isAgg9
 z9:=Tryz.sizeOf9
 v9:=Tryz.zeroValue9
 t20:=Tryz.underlying20
 a20:=Tryz.isAgg20
 z20:=Tryz.sizeOf20
 v20:=Tryz.zeroValue20
 t37:=Tryz.underlying236
 a37:=Tryz.isAgg236
 z37:=Tryz.sizeOf236
 v37:=Tryz.zeroValue236
 t46:=Tryz.underlying103
 a46:=Tryz.isAgg103
 z46:=Tryz.sizeOf103
 v46:=Tryz.zeroValue103
 t51:=Tryz.underlying143
 a51:=Tryz.isAgg143
 z51:=Tryz.sizeOf143
 v51:=Tryz.zeroValue143
 t53:=Tryz.underlying145
 a53:=Tryz.isAgg145
 z53:=Tryz.sizeOf145
 v53:=Tryz.zeroValue145
 t171:=Tryz.underlying278
 a171:=Tryz.isAgg278
 z171:=Tryz.sizeOf278
 v171:=Tryz.zeroValue278
 t173:=Tryz.underlying280
 a173:=Tryz.isAgg280
 z173:=Tryz.sizeOf280
 v173:=Tryz.zeroValue280
 t212:=Tryz.underlying284
 a212:=Tryz.isAgg284
 z212:=Tryz.sizeOf284
 v212:=Tryz.zeroValue284
 t213:=Tryz.underlying285
 a213:=Tryz.isAgg285
 z213:=Tryz.sizeOf285
 t232:=Tryz.underlying286
 a232:=Tryz.isAgg286
 z232:=Tryz.sizeOf286
 v232:=Tryz.zeroValue286
 t233:=Tryz.underlying287
 a233:=Tryz.isAgg287
 z233:=Tryz.sizeOf287
 v233:=Tryz.zeroValue287
 g17:=k7
 g18:=k7
 g19:=k7
 i0:=k7
 i2:=k7
 i3:=k7
 i4:=k7
 i5:=k7
 i9:=k7
 i20:=k7
 i37:=k7
 i46:=k7
 i51:=k7
 i53:=k7
 i171:=k7
 i173:=k7
 i212:=k7
 i232:=k7
 i233:=k7
 m17:=k7
 m18:=k7
 m19:=by kernel_rfl }
end Go.Proofs
namespace Go.Proofs.YtlcceppoloaecaaGreatDoor
open IntKind (i64)
open Go.Shelf Go.RowKit Go.Sort Go.Lib
set_option maxHeartbeats 6400000
set_option maxRecDepth 100000
section
variable {P:Program} {ρ:Ren}
def aca (g:Nat)(w:World):Prop :=∀ q,q<20->w.cell? ⟨g,q,none⟩=some (.int .u64 ((10 ^ q:Nat):Int))
theorem aca.alloc {g:Nat}{w:World}(h:aca g w)(o:Obj):aca g (w.alloc o):=λq hq=>by
 rw[World.cell?_alloc_old]
 ·exact h q hq
 ·exact Nat.ne_of_lt (lt_of_cell (h q hq))
abbrev Lp (b:UInt8):Value:=Value.int .u8 (b.toNat:Int)
theorem GG (L:LaysM.n284 P ρ)(u:Nat)(h1:1<=u)(h2:u<18446744073709551616)(w:World)(hT:aca (ρ.g 17) w) :
  Calls P (ρ.f 284) #[.int .u64 u] w λe w'=>e = .returned (.int .i64 (Lib.nDigits u))/\w'=w:=by
 have mixed:=L.mixed;have t53:=L.t53;have a53:=L.a53;have z53:=L.z53;have v53:=L.v53;have t3:=L.t3;have a3:=L.a3;have z3:=L.z3;have v3:=L.v3;have t212:=L.t212;have a212:=L.a212;have z212:=L.z212;have v212:=L.v212;have t0:=L.t0;have a0:=L.a0;have z0:=L.z0;have v0:=L.v0;have t4:=L.t4;have a4:=L.a4;have z4:=L.z4;have v4:=L.v4;have e129:∀ args w,(callFunc (ρ.f 129) args).run P w = .ok (.enter (ρ.f 129) args) w:=enters_of L.f129 k7 rfl;have e317:∀ args w,(callFunc (ρ.f 317) args).run P w = .ok (.enter (ρ.f 317) args) w:=enters_of L.f317 k7 rfl;have e318:∀ args w,(callFunc (ρ.f 318) args).run P w = .ok (.enter (ρ.f 318) args) w:=enters_of L.f318 k7 rfl;obtain⟨hnd,h19⟩:=Lib.numDigits_eq u h1 h2;have hL:Lib.bitLen u<=64:=Lib.bitLen_le u 64 (aqG _) h2;have hcell:=hT (Lib.l10 (Lib.bitLen u)) m0;have hto:((u:Int)).toNat=u:=m0
 generalize hq:Lib.l10 (Lib.bitLen u)=q at hnd h19 hcell;generalize hT2:10 ^ q=T at hnd hcell;have h20:q<20:=m0
 have Hnd:=Lib.hid hnd;clear hnd hT
 go_enter L.f284,Body.n284_ntmps ρ
 go_wp2_with (first
  |(go_at_fn (ρ.f 129);refine(Any.bits_Len64 { L with } _ _ m0 m0).mono ?_;rintro e w' ⟨rfl,rfl⟩)
  |(go_at_fn (ρ.f 317);refine(Any.internal_strconv_log10Pow2 { L with } _ (by first|exact hL|(rw[hto];exact hL)) _).mono ?_;rintro e w' ⟨rfl,rfl⟩)
  |(go_at_fn (ρ.f 318);refine(Any.internal_strconv_bool2_int { L with } _ _).mono ?_;rintro e w' ⟨rfl,rfl⟩))
 all_goals go_ret
 all_goals (
  refine⟨?_,rfl⟩;have hnd:=Hnd.out;congr 2;split at hnd<;>simp_all<;>omega)
theorem Gu (L:LaysM.n246 P ρ)(n:Int)(h0 : -9223372036854775808<=n)(h1:n<=9223372036854775807)(w:World)(hT:aca (ρ.g 17) w) :
  Calls P (ρ.f 246) #[.int .i64 n,.int .i64 10] w λe w'=>e = .returned (.string ⟨(Lib.itoa n).toArray⟩) /\ ∃ k os,w'=grow (w.drewN k) os:=by
 by_cases hs:0<=n/\n<100
 ·obtain⟨i,rfl⟩:∃ i:Nat,n=i:=⟨n.toNat,m0⟩
  refine(Any.internal_strconv_FormatInt_10_small { L with } i m0 w).mono ?_;rintro e w' ⟨rfl,rfl⟩;exact⟨by rw[Lib.itoa_nonneg],0,#[],by simp[World.drewN_zero]⟩
 have mixed:=L.mixed;have t2:=L.t2;have a2:=L.a2;have z2:=L.z2;have v2:=L.v2;have t3:=L.t3;have a3:=L.a3;have z3:=L.z3;have v3:=L.v3;have t9:=L.t9;have a9:=L.a9;have z9:=L.z9;have v9:=L.v9;have t4:=L.t4;have a4:=L.a4;have z4:=L.z4;have v4:=L.v4;have t171:=L.t171;have a171:=L.a171;have z171:=L.z171;have v171:=L.v171;have t0:=L.t0;have a0:=L.a0;have z0:=L.z0;have v0:=L.v0;have t53:=L.t53;have a53:=L.a53;have z53:=L.z53;have v53:=L.v53;have t37:=L.t37;have a37:=L.a37;have z37:=L.z37;have v37:=L.v37;have t5:=L.t5;have a5:=L.a5;have z5:=L.z5;have v5:=L.v5;have t173:=L.t173;have a173:=L.a173;have z173:=L.z173;have v173:=L.v173;have e284:∀ args w,(callFunc (ρ.f 284) args).run P w = .ok (.enter (ρ.f 284) args) w:=enters_of L.f284 k7 rfl;have e285:∀ args w,(callFunc (ρ.f 285) args).run P w = .ok (.enter (ρ.f 285) args) w:=enters_of L.f285 k7 rfl;obtain⟨u,hu⟩:∃ u:Nat,u=n.natAbs:=⟨_,rfl⟩;have hu1:1<=u:=m0
 have hu64:u<18446744073709551616:=m0
 have hd20:Lib.nDigits u<=20:=by have:=Lib.numDigits_eq u hu1 hu64;split at this<;>omega
 have hb3:Lib.nDigits u<=23:=m0
 have hal:P.arrayLen (ρ.t 171)=24:=by simp[Program.arrayLen,L.t171]
 have hel:P.underlying (ρ.t 171)=some (.array (P.arrayLen (ρ.t 171)) (P.elem (ρ.t 171))):=by simp[Program.arrayLen,Program.elem,L.t171]
 have hsl1:∀ W,(Instr.sliceAt (ρ.t 171) (.pointer (some ⟨w.heap.size,0,none⟩)) (some (.int .i64 1)) (some (.int .i64 (1+(Lib.nDigits u:Int)))) none).run P W = .ok (.slice (some ⟨w.heap.size,1,none⟩) (Lib.nDigits u) 23) W:=λW=>by
  rw[run_sliceAt_array_lh W (ρ.t 171) ⟨w.heap.size,0,none⟩ hel .i64 .i64 1 (1+(Lib.nDigits u:Int)) m0 m0 (by rw[hal];omega)]
  go_simp
  omega
 have hsl2:∀ W,(Instr.sliceAt (ρ.t 171) (.pointer (some ⟨w.heap.size,0,none⟩)) none (some (.int .i64 (1+(Lib.nDigits u:Int)))) none).run P W = .ok (.slice (some ⟨w.heap.size,0,none⟩) (1+Lib.nDigits u) 24) W:=λW=>by
  rw[run_sliceAt_array_h W (ρ.t 171) ⟨w.heap.size,0,none⟩ hel .i64 (1+(Lib.nDigits u:Int)) m0 (by rw[hal];omega)]
  go_simp
  omega
 have hH0:=Lib.holds_zero w (ρ.t 171) (Lib.nDigits u) m0;have hfmt:=Any.internal_strconv_formatBase10 { L with } w.heap.size 1 23 u (Array.replicate (Lib.nDigits u) 0) (w.alloc (.cells Lib.zeros24 (ρ.t 171))) hH0 (by rw[Array.size_replicate];exact Lib.lt_pow_nDigits u) hu64 (by rw[Array.size_replicate];omega);rw[Array.size_replicate]at hfmt;have HH0:=Lib.hid hH0;have hT1:=hT.alloc (.cells Lib.zeros24 (ρ.t 171));have hdig:=GG (ρ:=ρ) { L with } u hu1 hu64 _ hT1;clear hH0 hT hT1 hal hel;by_cases hn:n<0
 ·have hw:IntKind.u64.wrap (-IntKind.u64.wrap (-(u:Int)))=(u:Int):=by rw[IntKind.wrap_u64,IntKind.wrap_u64];omega
  obtain rfl:n = -(u:Int):=m0
  clear hs hu
  go_enter L.f246,Body.n246_ntmps ρ
  go_wp2_with (go_at_fn (ρ.f 284);refine hdig.mono ?_;rintro e w' ⟨rfl,rfl⟩)
  go_at_fn (ρ.f 285)
  refine hfmt.mono ?_;rintro e w' ⟨rfl,k,v',dk,rfl,hF⟩;have hc0:((putRow Lp (w.alloc (.cells Lib.zeros24 (ρ.t 171))) w.heap.size 1 dk).drewN k).cell? ⟨w.heap.size,0,none⟩=some (.int .u8 0):=by
   rw[World.cell?_drewN,cell?_putRow_other _ _ _ _ _ _ (Or.inr (Or.inl (Nat.zero_lt_one))),World.cell?_alloc_new];exact Lib.zeros24_at 0 m0
  have hf0:((putRow Lp (w.alloc (.cells Lib.zeros24 (ρ.t 171))) w.heap.size 1 dk).drewN k).frozen? ⟨w.heap.size,0,none⟩=false:=by
   rw[World.frozen?_drewN,frozen?_putRow];exact World.frozen?_alloc_new _ _ _ _
  have hcv:(convert (ρ.t 37) (ρ.t 9) (.slice (some ⟨w.heap.size,0,none⟩) (1+Lib.nDigits u) 24)).run P (((putRow Lp (w.alloc (.cells Lib.zeros24 (ρ.t 171))) w.heap.size 1 dk).drewN k).setCell ⟨w.heap.size,0,none⟩ (.int .u8 45)) = .ok (.string ⟨(45::Lib.decDigits u).toArray⟩) (((putRow Lp (w.alloc (.cells Lib.zeros24 (ρ.t 171))) w.heap.size 1 dk).drewN k).setCell ⟨w.heap.size,0,none⟩ (.int .u8 45)):=by
   have h:=run_convert_bytes_back (P:=P) (((putRow Lp (w.alloc (.cells Lib.zeros24 (ρ.t 171))) w.heap.size 1 dk).drewN k).setCell ⟨w.heap.size,0,none⟩ (.int .u8 45)) (ρ.t 37) (ρ.t 9) (ρ.t 5) ⟨w.heap.size,0,none⟩ 24 (45::Lib.decDigits u) L.t37 L.t5 L.t9 (λj hj=>by
    rw[Lib.add_plain]
    cases j with
    |zero=>exact World.cell?_setCell_same _ _ _ hc0
    |succ i =>
     have hi:i<(Lib.decDigits u).length:=by simpa using hj
     rw[World.cell?_setCell_other _ _ _ _ m5,List.getElem_cons_succ,Lib.row_is_numeral hF i hi,World.cell?_drewN,show 0+(i+1)=1+i by omega];exact cell?_putRow Lp _ w.heap.size 1 _ dk HH0.out (by rw[hF.size,Array.size_replicate]) i (by rw[hF.size];rw[Lib.decDigits_length]at hi;exact hi))
   rw[aqM,Lib.decDigits_length,Nat.add_comm]at h;exact h
  go_wp2
  go_ret
  obtain⟨os,eo⟩:=Lib.fin_neg w (.cells Lib.zeros24 (ρ.t 171)) dk k (.int .u8 45);exact⟨by rw[Lib.itoa_neg u hu1];rfl,k,os,eo⟩
 ·obtain rfl:n=(u:Int):=m0
  clear hu hsl2
  go_enter L.f246,Body.n246_ntmps ρ
  go_wp2_with (go_at_fn (ρ.f 284);refine hdig.mono ?_;rintro e w' ⟨rfl,rfl⟩)
  go_at_fn (ρ.f 285)
  refine hfmt.mono ?_;rintro e w' ⟨rfl,k,v',dk,rfl,hF⟩;have hcv:(convert (ρ.t 37) (ρ.t 9) (.slice (some ⟨w.heap.size,1,none⟩) (Lib.nDigits u) 23)).run P ((putRow Lp (w.alloc (.cells Lib.zeros24 (ρ.t 171))) w.heap.size 1 dk).drewN k) = .ok (.string ⟨(Lib.decDigits u).toArray⟩) ((putRow Lp (w.alloc (.cells Lib.zeros24 (ρ.t 171))) w.heap.size 1 dk).drewN k):=by
   have h:=run_convert_bytes_back (P:=P) ((putRow Lp (w.alloc (.cells Lib.zeros24 (ρ.t 171))) w.heap.size 1 dk).drewN k) (ρ.t 37) (ρ.t 9) (ρ.t 5) ⟨w.heap.size,1,none⟩ 23 (Lib.decDigits u) L.t37 L.t5 L.t9 (λj hj=>by
    rw[Lib.row_is_numeral hF j hj,Lib.add_plain,World.cell?_drewN];exact cell?_putRow Lp _ w.heap.size 1 _ dk HH0.out (by rw[hF.size,Array.size_replicate]) j (by rw[hF.size];rw[Lib.decDigits_length]at hj;exact hj))
   rw[Lib.decDigits_length]at h;exact h
  go_wp2
  go_ret
  obtain⟨os,eo⟩:=Lib.fin_pos w (.cells Lib.zeros24 (ρ.t 171)) dk k;exact⟨by rw[Lib.itoa_nonneg];rfl,k,os,eo⟩
theorem ahB (L:LaysM.n243 P ρ)(n:Int)(h0 : -9223372036854775808<=n)(h1:n<=9223372036854775807)(w:World)(hT:aca (ρ.g 17) w) :
  Calls P (ρ.f 243) #[.int .i64 n] w λe w'=>e = .returned (.string ⟨(Lib.itoa n).toArray⟩) /\ ∃ k os,w'=grow (w.drewN k) os:=by
 have mixed:=L.mixed;have t3:=L.t3;have a3:=L.a3;have z3:=L.z3;have v3:=L.v3;have t9:=L.t9;have a9:=L.a9;have z9:=L.z9;have v9:=L.v9;have e246:∀ args w,(callFunc (ρ.f 246) args).run P w = .ok (.enter (ρ.f 246) args) w:=enters_of L.f246 k7 rfl;have hf:=Gu (ρ:=ρ) { L with } n h0 h1 w hT
 go_enter L.f243,Body.n243_ntmps ρ
 go_wp2_with (go_at_fn (ρ.f 246);refine hf.mono ?_;rintro e w' ⟨rfl,k,os,rfl⟩)
 go_ret
 exact⟨rfl,k,os,rfl⟩
theorem ajM (L:LaysM.n171 P ρ)(n:Int)(h0 : -9223372036854775808<=n)(h1:n<=9223372036854775807)(w:World)(hT:aca (ρ.g 17) w) :
  Calls P (ρ.f 171) #[.int .i64 n] w λe w'=>e = .returned (.string ⟨(Lib.itoa n).toArray⟩) /\ ∃ k os,w'=grow (w.drewN k) os:=by
 have mixed:=L.mixed;have t3:=L.t3;have a3:=L.a3;have z3:=L.z3;have v3:=L.v3;have t9:=L.t9;have a9:=L.a9;have z9:=L.z9;have v9:=L.v9;have e243:∀ args w,(callFunc (ρ.f 243) args).run P w = .ok (.enter (ρ.f 243) args) w:=enters_of L.f243 k7 rfl;have hf:=ahB (ρ:=ρ) { L with } n h0 h1 w hT
 go_enter L.f171,Body.n171_ntmps ρ
 go_wp2_with (go_at_fn (ρ.f 243);refine hf.mono ?_;rintro e w' ⟨rfl,k,os,rfl⟩)
 go_ret
 exact⟨rfl,k,os,rfl⟩
end
def jM (n:Int):ByteArray:=⟨(Lib.itoa n).toArray⟩
theorem Jq (R:PH)(w:World)(k:Nat)(os:Array Obj):Ext (· <w.heap.size) R R w (grow (w.drewN k) os):=by
 exact⟨Kept.of (Lib.below_grow _ w (aqG _) k os),PH.sub_refl _,λ_ _ _=>rfl⟩
theorem NF (n:Int)(h0 : -9223372036854775808<=n)(h1:n<=9223372036854775807):PTz 251 [.one (.int .i64 n)] (.val (.one (.str (jM n)))):=by
 refine⟨⟨_,Tryz.func251,k7,k7⟩,λR w vs hR hs hv=>?_⟩;obtain⟨v,rfl⟩:∃ v,vs=#[v]:=by
  match vs,hs with
  |⟨[v]⟩,_=>exact⟨v,rfl⟩
 have:=hv 0 v _ rfl rfl
 cases this;have hT:aca (Tryz.laysM171_ren.g 17) w:=λq hq=>hR _ _ _ (R.tab q _ (by unfold sQ;rw[if_pos hq];norm_cast))
 refine(show Calls Tryz.prog 251 #[.int .i64 n] w _ from ajM Tryz.laysM171 n h0 h1 w hT).mono ?_;rintro e w' ⟨rfl,k,os,rfl⟩;refine⟨_,R,rfl,Jq R w k os,λb o u h=>?_,.str _⟩;have h1:=hR b o u h;rw[<- h1];unfold World.cell?;rw[show(grow (w.drewN k) os).heap[b]?=w.heap[b]? from(Jq R w k os).below.block b (lt_of_cell h1)]
open Go.RowKit Go.MapKept
def anz:TI :={ ae7 with dyn:=false }
theorem ic:TIok Tryz.prog anz:=⟨am.size,am.agg,am.elem,am.field,am.zero,am.bytes,am.kind,am.struct,am.zok,am.eqs⟩
def amD:TI :={ anz with soft:=true }
theorem fO:TIok Tryz.prog amD:=⟨am.size,am.agg,am.elem,am.field,am.zero,am.bytes,am.kind,am.struct,am.zok,am.eqs⟩
def c32:ByteArray:=⟨#[32]⟩
def xZ (v:Val):List Int:=[v.kind,v.int,v.text.size]
def j0 (a:ByteArray)(l:List Int):ByteArray:=l.foldl (λa n=>a++jM n++c32) a
def cL (l:List Val):ByteArray:=l.foldl (λa v=>j0 a (xZ v)++v.text) ⟨#[]⟩
theorem FQ (l:List Val)(v:Val):cL (l++[v])=j0 (cL l) (xZ v)++v.text:=by unfold cL;rw[List.foldl_append];rfl
theorem aah (a:ByteArray)(l:List Int)(n:Int):j0 a (l++[n])=j0 a l++jM n++c32:=by unfold j0;rw[List.foldl_append];rfl
def VOK (v:Val):Prop:=(-9223372036854775808<=v.kind/\v.kind<=9223372036854775807)/\(-9223372036854775808<=v.int/\v.int<=9223372036854775807)/\v.text.size<=10000000000
theorem tc (n:Int)(h0 : -9223372036854775808<=n)(h1:n<=9223372036854775807):(jM n).size<=30/\0<(jM n).size:=by
 unfold jM;show(Lib.itoa n).toArray.size<=30/\0<(Lib.itoa n).toArray.size;rw[List.size_toArray];have key:∀ u:Nat,u<18446744073709551616->Lib.nDigits u<=20:=by
  intro u h;obtain rfl|h1:=Nat.eq_zero_or_pos u
  ·rw[Lib.nDigits_small m0];omega
  ·have:=Lib.numDigits_eq u h1 h;split at this<;>omega
 by_cases hn:n<0
 ·obtain⟨u,rfl⟩:∃ u:Nat,n = -(u:Int):=⟨n.natAbs,m0⟩
  rw[Lib.itoa_neg u m0,aqM,Lib.decDigits_length];have:=key u m0;omega
 ·obtain⟨u,rfl⟩:∃ u:Nat,n=(u:Int):=⟨n.toNat,m0⟩
  rw[Lib.itoa_nonneg,Lib.decDigits_length];have:=key u m0;have:=Lib.nDigits_pos u;omega
theorem qO:∀ (l:List Int) (a:ByteArray),(∀ n∈l,-9223372036854775808<=n/\n<=9223372036854775807)->(j0 a l).size<=a.size+31*l.length
 |[],a,_=>by simp[j0]
 |n::l,a,h=>by
  have h1:=qO l (a++jM n++c32) λx hx=>h x (aqO _ hx)
  have h2:=(tc n (h n m5).1 (h n m5).2).1;have hc:c32.size=1:=rfl;have e:j0 a (n::l)=j0 (a++jM n++c32) l:=rfl;rw[e];simp only[ByteArray.size_append,hc]at h1;rw[aqM];omega
theorem N3 (l:List Val)(h:∀ v∈l,VOK v):(cL l).size<=l.length*10000000100:=by
 have key:∀ (l:List Val) (a:ByteArray),(∀ v∈l,VOK v)->(l.foldl (λa v=>j0 a (xZ v)++v.text) a).size<=a.size+l.length*10000000100:=by
  intro l
  induction l with
  |nil=>intro a _;simp
  |cons v l ih =>
   intro a h;obtain⟨h1,h2,h3⟩:=h v m5;rw[arh];have q1:=ih (j0 a (xZ v)++v.text) λx hx=>h x (aqO _ hx)
   have q2:=qO (xZ v) a (by
    intro n hn;simp only[xZ,aqH,List.not_mem_nil,or_false]at hn;obtain rfl|rfl|rfl:=hn
    ·exact h1
    ·exact h2
    ·omega)
   have e3:(xZ v).length=3:=rfl;simp only[ByteArray.size_append]at q1;rw[aqM];omega
 have:=key l ⟨#[]⟩ h;have e:(⟨#[]⟩:ByteArray).size=0:=rfl;rw[e,aq8]at this;exact this
def pB (fresh:Bool):SV:=if fresh then .c (.nul .ptr)else(.ep 0 (238+65536) 0 0)
theorem akR (b:Bool):(pB b).ren [0,1]=pB b:=by cases b<;>rfl
theorem Dz (b:Bool){n:Nat}(h:0<n):(pB b).below n:=by cases b<;>first|exact h|exact True.intro
theorem C5 (b:Bool)(u:Nat)(s t:ByteArray)(hu:u%65536=5)(hs:s.size<=100000000000000)(ht:t.size<=1000000000000):RTz 250 [fp (pB b) u s 0,fy u s] [.one (.ep 0 (238+65536) 0 0),.one (.c (.str t))] [fp (.ep 0 (238+65536) 0 0) (u+65536) (s++t) 0,fy (u+65536) (s++t)] (.tup [.one (.int .i64 t.size),.one (.nul .iface)]):=by
 cases b
 ·exact ub u s t hu hs ht
 ·exact BK u s t hu hs ht
theorem rf2 {L:List Ob}{p:SV}{u:Nat}{s:ByteArray}{x:AV}{xs:List AV}(hL0:L[0]?=some (fp p u s 0))(hL1:L[1]?=some (fy u s))(hp:p.ren [0,1]=p)(hpb:p.below 2)(hx:∀ y∈x::xs,y.below 2):ge [0,1] [fp p u s 0,fy u s] (x::xs) L:=by
 refine rm ?_ (by rw[fP];exact hL1) m9 (b7 hpb (by show 1<2;omega)) (a7 _ _ _) hx;rw[hL0];show some (Ob.row _ [[p,SV.sl 1 u 0 s.size]] 2)=some (Ob.row _ [[p.ren [0,1],SV.sl 1 u 0 s.size]] 2);rw[hp]
theorem j2 {L L':List Ob}{u:Nat}{s:ByteArray}(h:(L.set 0 (fp (.ep 0 (238+65536) 0 0) u s 0)).set 1 (fy u s)=L'):joinL [0,1] L [fp (.ep 0 (238+65536) 0 0) u s 0,fy u s]=L':=Gq rfl (fP _ _ _) h
def Gp (l:List Val)(i:Nat):List Ob:=[fp (pB (decide (i=0))) (5+458752*i) (cL (l.take i)) 0,fy (5+458752*i) (cL (l.take i))]
def GI (u:Nat)(a:ByteArray)(f:Bool)(ns:List Int)(bx:Ob)(j:Nat):List Ob:=[fp (pB (f&&decide (j=0))) (u+131072*j) (j0 a (ns.take j)) 0,fy (u+131072*j) (j0 a (ns.take j)),bx]
set_option maxHeartbeats 4000000 in
theorem N5 (l:List Val)(hl:l.length<=1000)(h:∀ v∈l,VOK v):PTz 237 [.one (ce l)] (.val (.one (.str (cL l)))):=by
 refine pa_ ic Tryz.func237 rfl rfl Tryz.ntmps237 m5 ?_;simp only[argT,PV.av,aqB,aqF];obtain⟨inf,hinf,hiz⟩:∃ inf,Tryz.prog.info? 238=some inf/\inf.zero=some (.agg #[.pointer none,.slice none 0 0]):=by
  have hh:(Tryz.prog.info? 238).bind (·.zero)=some (.agg #[.pointer none,.slice none 0 0]):=k7
  cases hi:Tryz.prog.info? 238 with
  |none=>rw[hi]at hh;cases hh
  |some j=>rw[hi]at hh;exact⟨j,rfl,by simpa using hh⟩
 have hc:c32.size=1:=rfl;have he0:(⟨#[]⟩:ByteArray).size=0:=rfl;obtain⟨n,hn⟩:∃ n,l.length=n:=⟨_,rfl⟩
 repeat' (first|(refine b9 rfl rfl rfl rfl rfl (kA (Eb:=5) (k:=1) hinf hiz m9 m9 m9) ?_)|refine gw_ ic fO ?_|refine gi_ (λhb=>?_) (λhb=>?_)|fail)
 refine cu (λi:Nat=>[(0,.one (.c (ce l))),(3,.one (.ep 0 (238+65536) 0 0)),(8,.one (.c (ce l))),(9,.one (.c (.int .i64 n))),(10,.one (.c (.int .i64 i)))]) (λi=>Gp l i) (λi=>i<=n) (λi=>n-i) 0 m0 (λ_ _=>aqL _)
  (fm_ ⟨rfl,rfl,rfl,aU (by simp[hn]),rfl,t7⟩ [] rfl ⟨t7,(by show 0<2;omega),t7,t7,t7,t7⟩ ⟨b7 (Dz _ (by show 0<2;omega)) (by show 1<2;omega),a7 _ _ _,t7⟩) ?_
 intro i hi;have hsz:=N3 (l.take i) λv hv=>h v (arp hv)
 rw[ari]at hsz;by_cases hlt2:i<n
 ·obtain⟨v,hv⟩:=gol_ (show i<l.length by omega)
  obtain⟨k1,k2,k3⟩:=h v (aqw hv);have hsn:=FQ (l.take i) v;rw[<- bN hv]at hsn;have hu:(5+458752*i)%65536=5:=m0
  have e0:Gp l i=[fp (pB (decide (i=0))) (5+458752*i) (cL (l.take i)) 0,fy (5+458752*i) (cL (l.take i))]:=rfl;rw[e0];generalize cL (l.take i)=a0 at hsz hsn;obtain⟨kd,nn,tx⟩:=v;simp only at k1 k2 k3
  repeat' (first|(refine bw rfl rfl rfl rfl rfl rfl rfl rfl (bu hv) ?_ ?_;· exact⟨m0,rfl⟩)|refine gw_ ic fO ?_|refine gi_ (λhb=>?_) (λhb=>?_)|fail)
  refine cu (λj:Nat=>[(0,.one (.c (ce l))),(3,.one (.ep 0 (238+65536) 0 0)),(5,.one (.ptr 2 0)),(8,.one (.c (ce l))),(9,.one (.c (.int .i64 n))),(10,.one (.c (.int .i64 i))),(21,.one (.c (.lst ([kd,nn,(tx.size:Int)].map λx=>[AC.int .i64 x])))),(22,.one (.c (.int .i64 3))),(23,.one (.c (.int .i64 j)))]) (λj=>GI (5+458752*i) a0 (decide (i=0)) [kd,nn,tx.size] (.box [.c (.int .i64 kd),.c (.int .i64 nn),.c (.str tx)]) j) (λj=>j<=3) (λj=>3-j) 0 m0 (λ_ _=>aqL _)
   (fm_ ⟨rfl,rfl,rfl,rfl,rfl,rfl,rfl,rfl,rfl,t7⟩ [] ?_ ⟨t7,(by show 0<3;omega),(by show 2<3;omega),t7,t7,t7,t7,t7,t7,t7⟩ ⟨b7 (Dz _ (by show 0<3;omega)) (by show 1<3;omega),a7 _ _ _,gG r5,t7⟩) ?_
  ·simp only[GI,Nat.mul_zero,Nat.add_zero,List.take_zero,decide_true,Bool.and_true];rfl
  intro j hj;by_cases hj3:j<3
  ·obtain⟨x,hx⟩:=gol_ (show j<[kd,nn,(tx.size:Int)].length by exact hj3)
   have hxr : -9223372036854775808<=x/\x<=9223372036854775807:=by
    have:=aqw hx;simp only[aqH,List.not_mem_nil,or_false]at this;obtain rfl|rfl|rfl:=this
    ·exact k1
    ·exact k2
    ·omega
   have hit:=NF x hxr.1 hxr.2
   repeat' (first|(refine bw rfl rfl rfl rfl rfl rfl rfl rfl (bu hx) ?_ ?_;· exact⟨m0,rfl⟩)|refine aN rfl rfl rfl rfl hit rfl ?_|refine gw_ ic fO ?_|refine gi_ (λhb=>?_) (λhb=>?_)|fail)
   have hitz:=tc x hxr.1 hxr.2;have hns:=qO ([kd,nn,(tx.size:Int)].take j) a0 (by
    intro y hy;have:=arp hy;simp only[aqH,List.not_mem_nil,or_false]at this;obtain rfl|rfl|rfl:=this
    ·exact k1
    ·exact k2
    ·omega)
   have hl3:([kd,nn,(tx.size:Int)].take j).length<=3:=by rw[ari];exact Nat.le_trans (Nat.min_le_right _ _) (aqG _)
   have hsj:=aah a0 ([kd,nn,(tx.size:Int)].take j) x;rw[<- bN hx]at hsj;have hu2:(5+458752*i+131072*j)%65536=5:=m0
   have eC:GI (5+458752*i) a0 (decide (i=0)) [kd,nn,(tx.size:Int)] (.box [.c (.int .i64 kd),.c (.int .i64 nn),.c (.str tx)]) j=[fp (pB (decide (i=0)&&decide (j=0))) (5+458752*i+131072*j) (j0 a0 ([kd,nn,(tx.size:Int)].take j)) 0,fy (5+458752*i+131072*j) (j0 a0 ([kd,nn,(tx.size:Int)].take j)),(.box [.c (.int .i64 kd),.c (.int .i64 nn),.c (.str tx)])]:=rfl;have eC2:GI (5+458752*i) a0 (decide (i=0)) [kd,nn,(tx.size:Int)] (.box [.c (.int .i64 kd),.c (.int .i64 nn),.c (.str tx)]) (j+1)=[fp (.ep 0 (238+65536) 0 0) (5+458752*i+131072*j+65536+65536) (j0 a0 ([kd,nn,(tx.size:Int)].take j)++jM x++c32) 0,fy (5+458752*i+131072*j+65536+65536) (j0 a0 ([kd,nn,(tx.size:Int)].take j)++jM x++c32),(.box [.c (.int .i64 kd),.c (.int .i64 nn),.c (.str tx)])]:=by
    unfold GI;rw[hsj,show decide (j+1=0)=false by simp,Bool.and_false,show 5+458752*i+131072*(j+1)=5+458752*i+131072*j+65536+65536 by omega];rfl
   rw[eC];generalize j0 a0 ([kd,nn,(tx.size:Int)].take j)=b0 at hns eC2;generalize 5+458752*i+131072*j=u0 at hu2 eC2;generalize hB1:jM x=b1 at hitz eC2;refine cJ [0,1] rfl rfl rfl rfl (C5 _ u0 b0 b1 hu2 m0 m0) rfl (rf2 rfl rfl (akR _) (Dz _ (by show 0<2;omega)) (λy hy=>by rcases aqH.1 hy with rfl|hy<;>first|(show 0<2;omega)|(rcases aqH.1 hy with rfl|hy<;>first|exact True.intro|cases hy)|cases hy)) rfl (j2 (L':=[fp (.ep 0 (238+65536) 0 0) (u0+65536) (b0++b1) 0,fy (u0+65536) (b0++b1),(.box [.c (.int .i64 kd),.c (.int .i64 nn),.c (.str tx)])]) rfl) ?_
   repeat' (first|refine gw_ ic fO ?_|refine gi_ (λhb=>?_) (λhb=>?_)|fail)
   refine cJ [0,1] rfl rfl rfl rfl (LK (u0+65536) (b0++b1) 32 m0 (by simp only[ByteArray.size_append];omega)) rfl (rf2 rfl rfl rfl (by show 0<2;omega) (λy hy=>by rcases aqH.1 hy with rfl|hy<;>first|(show 0<2;omega)|(rcases aqH.1 hy with rfl|hy<;>first|exact True.intro|cases hy)|cases hy)) rfl (j2 (L':=[fp (.ep 0 (238+65536) 0 0) (u0+65536+65536) (b0++b1++c32) 0,fy (u0+65536+65536) (b0++b1++c32),(.box [.c (.int .i64 kd),.c (.int .i64 nn),.c (.str tx)])]) rfl) ?_
   repeat' (first|refine gw_ ic fO ?_|refine gi_ (λhb=>?_) (λhb=>?_)|fail)
   exact⟨j+1,m0,m0,fm_ ⟨rfl,rfl,rfl,rfl,rfl,rfl,rfl,rfl,aU (aZ m0 m0),t7⟩ [] (by rw[eC2];rfl) (by rw[eC2];exact⟨t7,(by show 0<3;omega),(by show 2<3;omega),t7,t7,t7,t7,t7,t7,t7⟩) (by rw[eC2];exact⟨b7 (by show 0<3;omega) (by show 1<3;omega),a7 _ _ _,gG r5,t7⟩)⟩
  ·have hj4:j=3:=m0
   subst hj4;have hns:=qO [kd,nn,(tx.size:Int)] a0 (by
    intro y hy;simp only[aqH,List.not_mem_nil,or_false]at hy;obtain rfl|rfl|rfl:=hy
    ·exact k1
    ·exact k2
    ·omega)
   have hl3:[kd,nn,(tx.size:Int)].length=3:=rfl;have eC:GI (5+458752*i) a0 (decide (i=0)) [kd,nn,(tx.size:Int)] (.box [.c (.int .i64 kd),.c (.int .i64 nn),.c (.str tx)]) 3=[fp (.ep 0 (238+65536) 0 0) (5+458752*i+393216) (j0 a0 [kd,nn,(tx.size:Int)]) 0,fy (5+458752*i+393216) (j0 a0 [kd,nn,(tx.size:Int)]),(.box [.c (.int .i64 kd),.c (.int .i64 nn),.c (.str tx)])]:=by
    unfold GI;rw[show decide (3=0)=false by simp,Bool.and_false];rfl
   have eN:Gp l (i+1)=[fp (.ep 0 (238+65536) 0 0) (5+458752*i+393216+65536) (j0 a0 [kd,nn,(tx.size:Int)]++tx) 0,fy (5+458752*i+393216+65536) (j0 a0 [kd,nn,(tx.size:Int)]++tx)]:=by
    unfold Gp;rw[hsn,show decide (i+1=0)=false by simp,show 5+458752*(i+1)=5+458752*i+393216+65536 by omega];rfl
   rw[eC];generalize j0 a0 [kd,nn,(tx.size:Int)]=b0 at hns eN;have hu2:(5+458752*i+393216)%65536=5:=m0
   generalize 5+458752*i+393216=u0 at hu2 eN
   repeat' (first|refine gw_ ic fO ?_|refine gi_ (λhb=>?_) (λhb=>?_)|fail)
   refine cJ [0,1] rfl rfl rfl rfl (ub u0 b0 tx hu2 m0 m0) rfl (rf2 rfl rfl rfl (by show 0<2;omega) (λy hy=>by rcases aqH.1 hy with rfl|hy<;>first|(show 0<2;omega)|(rcases aqH.1 hy with rfl|hy<;>first|exact True.intro|cases hy)|cases hy)) rfl (j2 (L':=[fp (.ep 0 (238+65536) 0 0) (u0+65536) (b0++tx) 0,fy (u0+65536) (b0++tx),(.box [.c (.int .i64 kd),.c (.int .i64 nn),.c (.str tx)])]) rfl) ?_
   repeat' (first|refine gw_ ic fO ?_|refine gi_ (λhb=>?_) (λhb=>?_)|fail)
   exact⟨i+1,m0,m0,fm_ ⟨rfl,rfl,rfl,rfl,aU (aZ m0 m0),t7⟩ [(.box [.c (.int .i64 kd),.c (.int .i64 nn),.c (.str tx)])] (by rw[eN];rfl) (by rw[eN];exact⟨t7,(by show 0<2;omega),t7,t7,t7,t7⟩) (by rw[eN];exact⟨b7 (by show 0<2;omega) (by show 1<2;omega),a7 _ _ _,t7⟩)⟩
 ·have hi2:i=l.length:=m0
  have htk:l.take i=l:=by rw[hi2,List.take_length]
  by_cases hi0:i=0
  ·subst hi0
   have hnil:l=[]:=aqQ hi2.symm;subst hnil;have e0:Gp [] 0=[fp (.c (.nul .ptr)) 5 ⟨#[]⟩ 0,fy 5 ⟨#[]⟩]:=rfl;rw[e0]
   repeat' (first|refine gw_ ic fO ?_|refine gi_ (λhb=>?_) (λhb=>?_)|fail)
   refine cJ [0,1] rfl rfl rfl rfl aiW rfl (rf2 rfl rfl rfl True.intro (λy hy=>by rcases aqH.1 hy with rfl|hy<;>first|(show 0<2;omega)|(rcases aqH.1 hy with rfl|hy<;>first|exact True.intro|cases hy)|cases hy)) rfl (Gq rfl (fP _ _ _) (L':=[fp (.c (.nul .ptr)) 5 ⟨#[]⟩ 0,fy 5 ⟨#[]⟩]) rfl) ?_
   repeat' (first|refine gw_ ic fO ?_|refine gi_ (λhb=>?_) (λhb=>?_)|fail)
   exact aX (bg rfl (by trivial) rfl)
  ·have e1:Gp l i=[fp (.ep 0 (238+65536) 0 0) (5+458752*i) (cL l) 0,fy (5+458752*i) (cL l)]:=by unfold Gp;rw[htk,show decide (i=0)=false by simpa using hi0];rfl
   rw[e1];rw[htk]at hsz;have hu:(5+458752*i)%65536=5:=m0
   generalize 5+458752*i=u0 at hu;have hpos:0<(cL l).size:=by
    obtain⟨v,hv⟩:=gol_ (show i-1<l.length by omega);have hsn:=FQ (l.take (i-1)) v;rw[<- bN hv,show i-1+1=i by omega,htk]at hsn;obtain⟨q1,q2,q3⟩:=h v (aqw hv);have:=(tc v.kind q1.1 q1.2).2;rw[hsn];show 0<(j0 (cL (List.take (i-1) l)) [v.kind,v.int,(v.text.size:Int)]++v.text).size;have e3:j0 (cL (List.take (i-1) l)) [v.kind,v.int,(v.text.size:Int)]=cL (List.take (i-1) l)++jM v.kind++c32++jM v.int++c32++jM v.text.size++c32:=rfl;rw[e3];simp only[ByteArray.size_append];omega
   generalize cL l=s0 at hsz hpos
   repeat' (first|refine gw_ ic fO ?_|refine gi_ (λhb=>?_) (λhb=>?_)|fail)
   refine cJ [0,1] rfl rfl rfl rfl (aia u0 s0 hu hpos m0) rfl (rf2 rfl rfl rfl (by show 0<2;omega) (λy hy=>by rcases aqH.1 hy with rfl|hy<;>first|(show 0<2;omega)|(rcases aqH.1 hy with rfl|hy<;>first|exact True.intro|cases hy)|cases hy)) rfl (Gq rfl rfl (L':=[fp (.ep 0 (238+65536) 0 0) u0 s0 0,.dead]) rfl) ?_
   repeat' (first|refine gw_ ic fO ?_|refine gi_ (λhb=>?_) (λhb=>?_)|fail)
   exact aX (bg rfl (by trivial) rfl)
section
variable {P:Program} {ti:TI} {B:Nat->Prop} {R:PH} {γ:List Gh} {L:List Ob} {w:World} {ρ:Operand->Option AV}
theorem zV (hti:TIok P ti){t:TypeId}{E k:Nat}{y:Operand}{cs:List SV}(hy:ρ y=some (.agg cs))(hl:cs.length=k)(hk:0<k)(hk2:k<=1000)(ht:ti.elem t=some E)(hE:E<65536)(hsz:ti.size E=some k)(hzo:ti.zok E=true) :
  sf P ρ L (.buildSlice t 1 #[(0,y)]) (.one (.sl L.length (E+65536) 0 1)) (L++[.row (E+65536) [cs] k]):=by
 intro B R γ w ev o ho hi hρ hfv;obtain⟨dst,op,type,pos,after,guard⟩:=o;simp only at ho;subst ho;obtain⟨vs,hev,hvs,hrep⟩:=hρ y (by simp[Op.operands]) _ hy;obtain⟨i,z,hi1,hi2,hi3,hi4⟩:=hti.zok _ hzo _ (hti.size _ _ hsz);have hb:=run_buildSlice (P:=P) w t E 1 #[(0,ev y)] vs i z (jU hti ht) hi1 hi2 (by rw[hi3];omega) (by rw[hi3];omega) (by
  have h1:=Go.Great.fill_whole hk [ev y] ((Array.range (1*i.size)).map (z.cells[· % z.cells.size]!)) (by intro v hv;rw[aq6.1 hv,hev];show vs.size=k;omega) (by simp[hi3]);have h2:([ev y].flatMap λv=>v.cells.toList).toArray=vs:=by rw[hev];simp[Value.cells]
  rw[h2,hi3]at h1;rw[hi3];exact h1)
 have hrun:(execOp ev { dst,op := .buildSlice t 1 #[(0,y)],type,pos,after,guard }).run P w = .ok (.value (.slice (some ⟨w.heap.size,0,none⟩) 1 1)) (w.alloc (.cells vs E)):=by
  simp[execOp,hb]
 have hm:Mv R R γ (γ++[.arr w.heap.size 1]) L (L++[.row (E+65536) [cs] k]):=Mv.push _ _ hi.len;refine⟨_,R,_,.inl ⟨_,hrun,⟨rfl,rfl⟩,m5,λver2 es2 k2 e2=>?_⟩,?_,⟨Kept.alloc hi.bsz _,PH.sub_refl _,λ_ _ _=>rfl⟩,hm⟩
 ·rw[aqx m0]at e2
  simp at e2;obtain⟨q1,q2,q3⟩:=e2;subst q1 q2;exact⟨aqG _,λ_=>⟨m5,.arr w.heap.size 1,by rw[<- hi.len];simp,.inl (by rw[Nat.zero_mul])⟩⟩
 ·refine hi.push _ _ _ rfl ⟨⟨_,E,⟨dr w _,by show(E:Nat)=(E+65536)%65536;omega,m0⟩,m0,λi e j u x he hu hx=>?_⟩,m5,m0,by simp[hl],λo=>hi.none_at o⟩
  have hi0:i=0:=by have:=(aqp.1 he).1;simpa using this
  subst hi0;simp at he;subst he;exact SV.mv hm (hrep j u x (by simpa using hu) hx)
end
structure bC where
 f:ap
 ps:List ax
abbrev aw (p:ax):Bool:=decide (0<=p.lo)&&decide (p.lo<p.hi)&&decide (p.hi<=1099511627776)
theorem iN (p:ax):gPV p=some (aw p):=by
 unfold gPV aw
 cases h1:decide (0<=p.lo)<;>cases h2:decide (p.lo<p.hi)<;>cases h3:decide (p.hi<=1099511627776)<;>simp_all
def eQ (s:ByteArray):List bC->Option Nat
 |[]=>none
 |g::r=>if s=cL g.f.row then some 0 else(eQ s r).map (· +1)
def qI:Nat->List bC->List (AC×AV)
 |_,[]=>[]
 |k,g::r=>(.str (cL g.f.row),.one (.c (.int .i64 k)))::qI (k+1) r
theorem wv:∀ (G:List bC) (k:Nat),strKeys (qI k G)
 |[],_=>by intro p hp;cases hp
 |g::r,k=>by
  intro p hp;obtain rfl|hp:=aqH.1 hp
  ·exact⟨_,rfl⟩
  ·exact wv r (k+1) p hp
theorem ot (s:ByteArray):∀ (G:List bC) (k:Nat),uZ s (qI k G)=eQ s G
 |[],_=>rfl
 |g::r,k=>by
  simp only[qI,uZ,eQ];rw[ot s r (k+1)]
theorem ac':∀ (G:List bC) (k i:Nat),i<G.length ->∃ q,(qI k G)[i]?=some q/\q.2 = .one (.c (.int .i64 ((k+i:Nat):Int)))
 |[],_,_,h=>by simp at h
 |g::r,k,0,_=>⟨_,rfl,m5⟩
 |g::r,k,i+1,h=>by
  obtain⟨q,h1,h2⟩:=ac' r (k+1) i (by simpa using h);exact⟨q,by simpa[qI]using h1,by rw[h2,show k+1+i=k+(i+1)by omega]⟩
theorem BP {s:ByteArray}:∀ {G:List bC} {i:Nat},eQ s G=some i->i<G.length
 |[],_,h=>by simp[eQ]at h
 |g::r,i,h=>by
  unfold eQ at h;split at h
  ·injection h with h;subst h;simp
  ·cases hr:eQ s r with
   |none=>rw[hr]at h;cases h
   |some j=>rw[hr]at h;injection h with h;subst h;have:=BP hr;simp;omega
theorem aae {s:ByteArray}{G:List bC}{i:Nat}{z:AV}(h:eQ s G=some i):qn (qI 0 G) s z = .one (.c (.int .i64 i)):=by
 obtain⟨q,h1,h2⟩:=ac' G 0 i (BP h);unfold qn;rw[ot,h];simp only[h1,h2,aq8]
theorem aau {s:ByteArray}{G:List bC}{z:AV}(h:eQ s G=none):qn (qI 0 G) s z=z:=by
 unfold qn;rw[ot,h]
theorem MZ:∀ (G:List bC) (k:Nat) (g:bC),qI k (G++[g])=qI k G++[(.str (cL g.f.row),.one (.c (.int .i64 ((k+G.length:Nat):Int))))]
 |[],k,g=>by simp[qI]
 |x::r,k,g=>by
  have:=MZ r (k+1) g;simp only[List.cons_append,qI,this,aqM,show k+1+r.length=k+(r.length+1)by omega]
theorem aaP {s:ByteArray}{G:List bC}(h:eQ s G=none)(g:bC)(hg:cL g.f.row=s):K7 (qI 0 G) s (.one (.c (.int .i64 (G.length:Nat))))=qI 0 (G++[g]):=by
 unfold K7;rw[ot,h,MZ,hg,aq8]
theorem aiA {G:List bC}{i:Nat}{g:bC}(hg:G[i]?=some g)(ps:List ax):∀ k,qI k (G.set i ⟨g.f,ps⟩)=qI k G:=by
 induction G generalizing i with
 |nil=>intro k;rfl
 |cons x r ih =>
  intro k
  cases i with
  |zero=>simp at hg;subst hg;rfl
  |succ i=>simp only[List.set_cons_succ,qI];rw[ih (by simpa using hg)]
theorem aeC {P:Program}{ti:TI}{ρ:Operand->Option AV}{L:List Ob}{t kt et:TypeId}{x k:Operand}{s:ByteArray}{id:Nat}{G:List bC}{i:Nat}(hti:TIok P ti)(hf:eQ s G=some i)(hx:ρ x=some (.one (.mp id)))(hk:ρ k=some (.one (.c (.str s))))(hL:L[id]?=some (.map (qI 0 G)))
  (ht:ti.kind t=some (.map kt et)) (hkt:ti.kind kt=some .string) (hz:ti.zero et=some (.one (.c (.int .i64 0)))):sf P ρ L (.lookup t x k true) (.tup [.one (.int .i64 i),.one (.bool true)]) L:=by
 have:=kZ (P:=P) hx hk hL (wv G 0) (hti.kind _ _ ht) (hti.kind _ _ hkt) (hti.zero _ _ hz) (p := .one (.int .i64 i)) (by rw[aae hf];rfl);rw[ot,hf]at this;exact this
theorem Cb {P:Program}{ti:TI}{ρ:Operand->Option AV}{L:List Ob}{t kt et:TypeId}{x k:Operand}{s:ByteArray}{id:Nat}{G:List bC}(hti:TIok P ti)(hf:eQ s G=none)(hx:ρ x=some (.one (.mp id)))(hk:ρ k=some (.one (.c (.str s))))(hL:L[id]?=some (.map (qI 0 G)))
  (ht:ti.kind t=some (.map kt et)) (hkt:ti.kind kt=some .string) (hz:ti.zero et=some (.one (.c (.int .i64 0)))):sf P ρ L (.lookup t x k true) (.tup [.one (.int .i64 0),.one (.bool false)]) L:=by
 have:=kZ (P:=P) hx hk hL (wv G 0) (hti.kind _ _ ht) (hti.kind _ _ hkt) (hti.zero _ _ hz) (p := .one (.int .i64 0)) (by rw[aau hf];rfl);rw[ot,hf]at this;exact this
theorem Ci {P:Program}{ti:TI}{ρ:Operand->Option AV}{L:List Ob}{t kt et:TypeId}{x k y:Operand}{s:ByteArray}{id:Nat}{G:List bC}(g:bC)(hti:TIok P ti)(hf:eQ s G=none)(hg:cL g.f.row=s)(hx:ρ x=some (.one (.mp id)))(hk:ρ k=some (.one (.c (.str s))))(hy:ρ y=some (.one (.c (.int .i64 (G.length:Nat)))))(hL:L[id]?=some (.map (qI 0 G)))
  (ht:ti.kind t=some (.map kt et)) (hkt:ti.kind kt=some .string):sf P ρ L (.mapUpdate t x k y) .undef (L.set id (.map (qI 0 (G++[g])))):=by
 have:=ql (P:=P) hx hk hy hL (wv G 0) (hti.kind _ _ ht) (hti.kind _ _ hkt);rw[aaP hf g hg]at this;exact this
def fm (G:List bC)(f:ap):List bC:=bif aw f.valid then(match eQ (cL f.row) G with
 |some i=>match G[i]? with
  |some g=>G.set i ⟨g.f,g.ps++[f.valid]⟩
  |none=>G
 |none=>G++[⟨f,[f.valid]⟩])else G
def dn (l:List ap):List bC:=l.foldl fm []
theorem G8 (l:List ap)(f:ap):dn (l++[f])=fm (dn l) f:=by unfold dn;rw[List.foldl_append];rfl
theorem Jl (G:List bC)(f:ap):(fm G f).length<=G.length+1:=by
 unfold fm
 cases aw f.valid with
 |false=>rw[aqr];omega
 |true =>
  rw[aqs];split
  ·split
   ·rw[List.length_set];omega
   ·omega
  ·simp
theorem tj (l:List ap):(dn l).length<=l.length:=by
 have:∀ (l:List ap) (G:List bC),(l.foldl fm G).length<=G.length+l.length:=by
  intro l
  induction l with
  |nil=>intro G;simp
  |cons f l ih=>intro G;have h1:=ih (fm G f);have h2:=Jl G f;rw[arh,aqM];omega
 have:=this l [];simpa[dn]using this
theorem Ag (l:List ap):∀ g∈dn l,g.ps.length<=l.length/\g.f∈l/\(∀ p∈g.ps,aw p=true):=by
 have:∀ (l:List ap) (G:List bC) (b:Nat) (l0:List ap),(∀ g∈G,g.ps.length<=b/\g.f∈l0/\(∀ p∈g.ps,aw p=true)) ->∀ g∈l.foldl fm G,g.ps.length<=b+l.length/\g.f∈l0++l/\(∀ p∈g.ps,aw p=true):=by
  intro l
  induction l with
  |nil=>intro G b l0 h g hg;simpa using h g hg
  |cons f l ih =>
   intro G b l0 h g hg;rw[arh]at hg;have hst:∀ g∈fm G f,g.ps.length<=b+1/\g.f∈l0++[f]/\(∀ p∈g.ps,aw p=true):=by
    intro g hg;unfold fm at hg
    cases hv:aw f.valid with
    |false=>rw[hv,aqr]at hg;obtain⟨a1,a2,a3⟩:=h g hg;exact⟨m0,aqS.2 (.inl a2),a3⟩
    |true =>
     rw[hv,aqs]at hg;split at hg
     ·split at hg
      ·rename_i i _ g0 hg0
       obtain hg|rfl:=List.mem_or_eq_of_mem_set hg
       ·obtain⟨a1,a2,a3⟩:=h g hg;exact⟨m0,aqS.2 (.inl a2),a3⟩
       ·obtain⟨a1,a2,a3⟩:=h g0 (aqw hg0)
        refine⟨by simp;omega,aqS.2 (.inl a2),λp hp=>?_⟩;obtain hp|hp:=aqS.1 hp
        ·exact a3 p hp
        ·rw[aq6.1 hp];exact hv
      ·obtain⟨a1,a2,a3⟩:=h g hg;exact⟨m0,aqS.2 (.inl a2),a3⟩
     ·obtain hg|hg:=aqS.1 hg
      ·obtain⟨a1,a2,a3⟩:=h g hg;exact⟨m0,aqS.2 (.inl a2),a3⟩
      ·rw[aq6.1 hg]
       exact⟨m5,m5,λp hp=>by rw[aq6.1 hp];exact hv⟩
   obtain⟨a1,a2,a3⟩:=ih (fm G f) (b+1) (l0++[f]) hst g hg;exact⟨by rw[aqM];omega,by simpa using a2,a3⟩
 intro g hg;have:=this l [] 0 [] (λg hg=>by cases hg) g hg;simpa using this
abbrev gf:=AC×AC
def qH (x:gf):List SV:=[.c x.1,.c x.2]
theorem ct (n v k:Nat)(l:List gf):(Ob.row v (l.map qH) k).below n:=by
 intro e he x hx;obtain⟨y,_,rfl⟩:=aq0.1 he;simp only[qH,aqH,List.not_mem_nil,or_false]at hx;rcases hx with rfl|rfl<;>trivial
theorem vH (σ:List Nat)(v k:Nat)(l:List gf):(Ob.row v (l.map qH) k).ren σ=Ob.row v (l.map qH) k:=by
 simp only[Ob.ren,List.map_map];rfl
theorem NG (l:List gf):d_ (l.map qH)=some (l.map λx=>[x.1,x.2]):=by
 have:=iK (l.map λx=>[x.1,x.2]);rw[List.map_map]at this;exact this
def ani:TI :={ ae7 with dyn:=true }
theorem ci:TIok Tryz.prog ani:=⟨am.size,am.agg,am.elem,am.field,am.zero,am.bytes,am.kind,am.struct,am.zok,am.eqs⟩
def bxG (_:bC):Ob := .dead
def gbG (g:bC):Ob := .row (194+65536) [[.c (ce g.f.row),.emp]] 2
theorem MA (g:bC)(n:Nat):(gbG g).below n:=by
 intro e he x hx;rw[aq6.1 he]at hx;obtain rfl|hx:=aqH.1 hx
 ·trivial
 ·obtain rfl|hx:=aqH.1 hx
  ·trivial
  ·cases hx
def wk (ps:List ax):List (List AC):=ps.map aP
def fB:Nat->List bC->List (List SV)
 |_,[]=>[]
 |k,g::r=>[.c (ce g.f.row),.own (wk g.ps) (4+3*k)]::fB (k+1) r
def tlC:List bC->List Ob
 |[]=>[]
 |g::r=>bxG g::gbG g :: .spare g.ps.length 2::tlC r
def x5:List bC->List Ob
 |[]=>[]
 |g::r => .spare g.ps.length 2::tlC r
def Hj:List bC->Ob
 |[] => .dead
 |g::_=>gbG g
def uE (G:List bC):List Ob := .map (qI 0 G) :: .dead::Hj G :: .row (194+65536*G.length) (fB 0 G) 2::x5 G
theorem ahR {G:List bC}{i:Nat}{g:bC}(ps:List ax)(h:G[i]?=some g):Hj (G.set i ⟨g.f,ps⟩)=Hj G:=by
 cases G with
 |nil=>rfl
 |cons x r =>
  cases i with
  |zero=>simp at h;subst h;rfl
  |succ i=>rfl
theorem adz {G:List bC}(g:bC)(h:G≠[]):Hj (G++[g])=Hj G:=by cases G with
 |nil=>exact absurd rfl h
 |cons x r=>rfl
theorem NS (G:List bC)(n:Nat):(Hj G).below n:=by cases G with
 |nil=>trivial
 |cons x r=>exact MA x n
def acS:List bC->List Ob
 |[]=>[.map []]
 |g::r=>uE (g::r)
theorem qc {G:List bC}(h:G≠[]):acS G=uE G:=by cases G with
 |nil=>exact absurd rfl h
 |cons g r=>rfl
theorem oP:∀ (G:List bC) (k:Nat),(fB k G).length=G.length
 |[],_=>rfl
 |g::r,k=>by simp[fB,oP r]
theorem KU:∀ (G:List bC) (k i:Nat) (g:bC),G[i]?=some g->(fB k G)[i]?=some [.c (ce g.f.row),.own (wk g.ps) (4+3*(k+i))]
 |[],_,_,_,h=>by simp at h
 |x::r,k,0,g,h=>by simp at h;subst h;rfl
 |x::r,k,i+1,g,h=>by
  have:=KU r (k+1) i g (by simpa using h);simp only[fB,List.getElem?_cons_succ];rw[this,show k+1+i=k+(i+1)by omega]
theorem Jz:∀ (G:List bC) (k i:Nat) (g:bC) (ps:List ax),G[i]?=some g->(fB k G).set i [.c (ce g.f.row),.own (wk ps) (4+3*(k+i))]=fB k (G.set i ⟨g.f,ps⟩)
 |[],_,_,_,_,h=>by simp at h
 |x::r,k,0,g,ps,h=>by simp at h;subst h;simp[fB]
 |x::r,k,i+1,g,ps,h=>by
  have:=Jz r (k+1) i g ps (by simpa using h);rw[show k+1+i=k+(i+1)by omega]at this;simp only[fB,List.set_cons_succ,this]
theorem Fp:∀ (G:List bC) (k:Nat) (g:bC),fB k (G++[g])=fB k G++[[.c (ce g.f.row),.own (wk g.ps) (4+3*(k+G.length))]]
 |[],k,g=>rfl
 |x::r,k,g=>by
  have:=Fp r (k+1) g;simp only[List.cons_append,fB,this,aqM,show k+1+r.length=k+(r.length+1)by omega]
theorem Ac:∀ (G:List bC) (k n:Nat),4+3*(k+G.length)<=n+2 ->∀ e∈fB k G,∀ x∈e,x.below n
 |[],_,_,_=>by intro e he;cases he
 |g::r,k,n,h=>by
  intro e he x hx;simp only[aqM]at h;obtain rfl|he:=aqH.1 he
  ·obtain rfl|hx:=aqH.1 hx
   ·trivial
   ·obtain rfl|hx:=aqH.1 hx
    ·show 4+3*k<n;omega
    ·cases hx
  ·exact Ac r (k+1) n m0 e he x hx
theorem y7:∀ (G:List bC) (k:Nat),d_ (fB k G)=some (G.map λg=>[ce g.f.row,.lst (wk g.ps)])
 |[],_=>rfl
 |g::r,k=>by
  have:=y7 r (k+1);simp only[fB,d_,iv,SV.norm,this,aqB]
theorem acm:∀ r:List bC,(tlC r).length=3*r.length
 |[]=>rfl
 |g::r=>by simp[tlC,acm r];omega
theorem abz:∀ (r:List bC) (i:Nat) (g:bC),r[i]?=some g->(tlC r)[3*i+2]?=some (.spare g.ps.length 2)
 |[],_,_,h=>by simp at h
 |x::r,0,g,h=>by simp at h;subst h;rfl
 |x::r,i+1,g,h=>by
  have:=abz r i g (by simpa using h);rw[show 3*(i+1)+2=(3*i+2)+1+1+1 by omega];simpa[tlC]using this
theorem ab3:∀ (r:List bC) (i:Nat) (g:bC) (ps:List ax),r[i]?=some g->(tlC r).set (3*i+2) (.spare ps.length 2)=tlC (r.set i ⟨g.f,ps⟩)
 |[],_,_,_,h=>by simp at h
 |x::r,0,g,ps,h=>by simp at h;subst h;simp[tlC,bxG,gbG]
 |x::r,i+1,g,ps,h=>by
  have:=ab3 r i g ps (by simpa using h);rw[show 3*(i+1)+2=(3*i+2)+1+1+1 by omega];simp only[tlC,List.set_cons_succ,this]
theorem Md:∀ (r:List bC) (g:bC),tlC (r++[g])=tlC r++[bxG g,gbG g,.spare g.ps.length 2]
 |[],g=>rfl
 |x::r,g=>by simp[tlC,Md r g]
theorem acx {G:List bC}(h:G≠[]):(x5 G).length+2=3*G.length:=by
 cases G with
 |nil=>exact absurd rfl h
 |cons g r=>simp[x5,acm];omega
theorem aic {G:List bC}{i:Nat}{g:bC}(h:G[i]?=some g):(x5 G)[3*i]?=some (.spare g.ps.length 2):=by
 cases G with
 |nil=>simp at h
 |cons x r =>
  cases i with
  |zero=>simp at h;subst h;rfl
  |succ i =>
   have:=abz r i g (by simpa using h);rw[show 3*(i+1)=(3*i+2)+1 by omega];simpa[x5]using this
theorem ahP {G:List bC}{i:Nat}{g:bC}(ps:List ax)(h:G[i]?=some g):(x5 G).set (3*i) (.spare ps.length 2)=x5 (G.set i ⟨g.f,ps⟩):=by
 cases G with
 |nil=>simp at h
 |cons x r =>
  cases i with
  |zero=>simp at h;subst h;simp[x5]
  |succ i =>
   have:=ab3 r i g ps (by simpa using h);rw[show 3*(i+1)=(3*i+2)+1 by omega];simp only[x5,List.set_cons_succ,this]
theorem adZ {G:List bC}(g:bC)(h:G≠[]):x5 (G++[g])=x5 G++[bxG g,gbG g,.spare g.ps.length 2]:=by
 cases G with
 |nil=>exact absurd rfl h
 |cons x r=>simp[x5,Md]
theorem lW {G:List bC}(h:G≠[]):(uE G).length=2+3*G.length:=by
 have h1:=acx h;simp[uE];omega
theorem rS:∀ {n:Nat} {L:List Ob},(∀ x∈L,x.below n)->n_ n L
 |_,[],_=>trivial
 |n,x::L,h=>⟨h x m5,rS λy hy=>h y (aqO _ hy)⟩
theorem aaA (g:bC)(n:Nat):(gbG g).below n:=by
 intro e he x hx;rw[aq6.1 he]at hx;obtain rfl|hx:=aqH.1 hx
 ·trivial
 ·obtain rfl|hx:=aqH.1 hx
  ·trivial
  ·cases hx
theorem aam (g:bC)(n:Nat):(bxG g).below n:=trivial
theorem E9:∀ (G:List bC) (k n:Nat),(Ob.map (qI k G)).below n:=by
 intro G
 induction G with
 |nil=>intro k n p hp;cases hp
 |cons g r ih =>
  intro k n p hp;obtain rfl|hp:=aqH.1 hp
  ·trivial
  ·exact ih (k+1) n p hp
theorem ER (n:Nat):∀ (r:List bC),∀ x∈tlC r,x.below n
 |[],x,h=>by cases h
 |g::r,x,h=>by
  simp only[tlC,aqH]at h;obtain rfl|rfl|rfl|h:=h
  ·exact aam g n
  ·exact aaA g n
  ·trivial
  ·exact ER n r x h
theorem kq (G:List bC):n_ (acS G).length (acS G):=by
 cases G with
 |nil=>exact⟨E9 [] 0 _,t7⟩
 |cons g r =>
  have hl:=lW (G:=g::r) m5;refine rS λx hx=>?_
  show x.below (uE (g::r)).length;rw[hl];have hx:x∈uE (g::r):=hx;simp only[uE,x5,aqH]at hx;obtain rfl|rfl|rfl|rfl|rfl|hx:=hx
  ·exact E9 _ 0 _
  ·trivial
  ·exact NS _ _
  ·exact Ac (g::r) 0 _ (by simp only[aqM];omega)
  ·trivial
  ·exact ER _ r x hx
def aaV:List bC->AV
 |[] => .one .emp
 |g::r => .one (.sl 3 (194+65536*(g::r).length) 0 (g::r).length)
theorem rU {G:List bC}(h:G≠[]):aaV G = .one (.sl 3 (194+65536*G.length) 0 G.length):=by
 cases G with
 |nil=>exact absurd rfl h
 |cons g r=>rfl
theorem pg (G:List bC):(aaV G).below (acS G).length:=by
 cases G with
 |nil=>trivial
 |cons g r =>
  show 3<(uE (g::r)).length;rw[lW m5];simp;omega
theorem afp (id:Nat)(ts:List AC)(G:List bC):unA id ts (aaV G)=aaV G:=by cases G<;>rfl
section
variable {P:Program} {ti:TI} {N n0:Nat} {ds:List (Option Tmp)} {K:Tm->List Ob->Prop} {rest:List Oper} {o:Oper} {T T':Tm} {A:List Ob} {Q:AX->Tm->List Ob->Prop}
theorem Og {t:TypeId}{p q:Operand}{cs xs:List SV}(hd:o.dst=none)(hg:gg ds T o.guard=some true)(ho:o.op = .store t p q)(hp:look T p=some (.one (.ptr A.length 0)))(hq:(look T q).bind AV.cells=some xs)(hlen:xs.length=cs.length)(hsz:ti.size t=some xs.length)(h:aI P ti N ds K rest T (A++[.box xs])):aI P ti N ds K (o::rest) T (A++[.box cs]):=by
 refine sS_ hd hg (v := .undef) (L':=A++[.box xs]) (φ:=0+xs.length<=cs.length/\ti.size t=some xs.length) ?_ ⟨m0,hsz⟩ h;rw[ho];have e1:(A++[Ob.box cs])[A.length]?=some (.box cs):=by simp
 have e2:splice cs 0 xs=xs:=by unfold splice;simp[hlen]
 have e3:(A++[Ob.box cs]).set A.length (.box xs)=A++[.box xs]:=by rw[List.set_append_right _ _ (aqG _),Nat.sub_self];rfl
 simp only[Gz,hp,hq,e1,e2,e3]
theorem aiz {c:Code}{cs:List SV}{ts:List AC}(hn:iv cs=some ts)(hT:(T.map λp=>(p.1,unA A.length ts p.2))=T')(h:Aw P N n0 c Q T' (A++[.dead])):Aw P N n0 c Q T (A++[.box cs]):=by
 refine aT A.length m5 hn ?_;rw[hT,List.set_append_right _ _ (aqG _),Nat.sub_self];exact h
end
