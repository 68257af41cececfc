/- Parts. No condition. -/
import Derived.Test.YtlcceppoloaecaaGreatDoorKBD
import Derived.Test.YtlcceppoloaecaaGreatDoorKBE
import Derived.Test.YtlcceppoloaecaaGreatDoorKAM
import Derived.Test.YtlcceppoloaecaaGreatDoorKAR
import Derived.Test.YtlcceppoloaecaaGreatDoorKAK
import Derived.Shelf.LaysM
import Derived.Shelf.Strconv.Itoa3
import Derived.Ground.NamesProg
import Derived.Lib.Walk
import Derived.Lib.ItoaMem
import Derived.BigCall
import Derived.BigGuard
import Derived.Lib.AppendIntMem
set_option linter.unusedSimpArgs false
set_option linter.unusedVariables false
namespace Go.Proofs.YtlcceppoloaecaaGreatDoor.St
open IntKind (i64)
open Go.RowKit
def cP (p:Int×Int):List AC:=[.int .i64 p.1,.int .i64 p.2]
def cC (p:(Int×Int)×Int):List AC:=[.int .i64 p.1.1,.int .i64 p.1.2,.int .i64 p.2]
section
variable {P:Program} {R:PH} {w:World}
theorem ag0 {α:Type}{enc:α->List Value}{ec:α->List AC}{k:Nat}(hk:∀ x,(ec x).length=k)(hkv:∀ x,(enc x).length=k)(hk0:0<k)(hrep:∀ x (j:Nat) u y v,(enc x)[j]?=some u->(ec x)[j]?=some y->bD R v y->v=u)
  (hR:∀ b o u,R b o=some u->w.cell? ⟨b,o,none⟩=some u) {v:Value} {l:List α} (h:bD R v (.lst (l.map ec))):∃ A c,v = .slice A l.length c/\Rd enc k w w.heap.size A l.length l:=by
 obtain⟨a,c,news,rfl,hc,hcells,hreg⟩:=tk (k:=k) h (by intro e he;simp only[aqJ]at he;obtain⟨x,_,rfl⟩:=he;exact hk x);refine⟨a,c,m5,rfl,fun hp=>?_⟩;obtain⟨b,o,rfl,hb⟩:=hreg (by simpa using hp);have key:∀ (i:Nat) x,l[i]?=some x ->∀ (j:Nat) u,(enc x)[j]?=some u->w.cell? ⟨b,o+(i*k+j),none⟩=some u:=by
  intro i x hx j u hu;have he:(l.map ec)[i]?=some (ec x):=by rw[aqw,hx];rfl
  have hj:j<(ec x).length:=by rw[hk,<- hkv x];exact(ap_.1 hu).1
  obtain⟨u0,h0,p0⟩:=hcells.get i _ j _ he (aqh hj);rw[hrep x j u _ u0 hu (aqh hj) p0]at h0;exact hR _ _ _ (hb _ _ h0)
 refine⟨b,o,rfl,?_,fun i x hx j u hu=>?_⟩
 ·obtain⟨x,hx⟩:=gol_ hp
  obtain⟨u,hu⟩:=gol_ (show 0<(enc x).length by rw[hkv];exact hk0);exact lt_of_cell (key 0 x hx 0 u hu)
 ·rw[Nat.add_assoc];exact key i x hx j u hu
def tW (R:PH)(w w':World):PHf:=fun b o=>if b<w.heap.size then R b o else w'.cell? ⟨b,o,none⟩
theorem F5 (hR:∀ b o u,R b o=some u->w.cell? ⟨b,o,none⟩=some u)(w':World):∀ b o u,R b o=some u->tW R w w' b o=some u:=fun b o u h=>by
 have:=lt_of_cell (hR b o u h);unfold tW;rw[if_pos this];exact h
def aeB (R:PH)(w w':World)(hR:∀ b o u,R b o=some u->w.cell? ⟨b,o,none⟩=some u):PH:=R.put (tW R w w') (F5 hR w')
theorem nU (hR:∀ b o u,R b o=some u->w.cell? ⟨b,o,none⟩=some u){w':World}(hg:Gr w w'):Ext (· <w.heap.size) R (aeB R w w' hR) w w' /\ ∀ b o u,aeB R w w' hR b o=some u->w'.cell? ⟨b,o,none⟩=some u:=by
 refine⟨⟨Kept.of hg.out,F5 hR w',fun b o hb=>?_⟩,fun b o u h=>?_⟩
 ·show tW R w w' b o=_
  unfold tW;rw[if_pos hb]
 ·have h:tW R w w' b o=some u:=h
  unfold tW at h;split at h
  ·rename_i hb;rw[hg.cells.1 b o hb];exact hR _ _ _ h
  ·exact h
theorem KL (hR:∀ b o u,R b o=some u->w.cell? ⟨b,o,none⟩=some u){w':World}{E:TypeId}{v:Value}{l:List (Int×Int)}(ho:Own e2 2 E w' w.heap.size v l):bD (aeB R w w' hR) v (.lst (l.map cP)):=by
 obtain⟨A,c,rfl⟩:=ho.form;have hrd:=ho.rds dO;have hlt:=World.ownsRow.lt ho;have hc:l.length<=c:=by
  rcases ho.2 with⟨hv,hn⟩|⟨g,cap,cur,hv,_,_,hle,_⟩
  ·omega
  ·injection hv with _ _ h3;omega
 by_cases hz:l.length=0
 ·have:l=[]:=aqz hz
  subst this;exact dq _ _ _
 ·obtain⟨b,o,rfl,hb,hcell⟩:=hrd.2 m0
  have hge:w.heap.size<=b:=(hlt b rfl).1;have key:∀ (i:Nat) x,l[i]?=some x->aeB R w w' hR b (o+(i*2+0))=some (.int .i64 x.1)/\aeB R w w' hR b (o+(i*2+1))=some (.int .i64 x.2):=by
   intro i x hx;show tW R w w' b _=_/\tW R w w' b _=_;unfold tW;rw[if_neg m0,if_neg m0,<- Nat.add_assoc,<- Nat.add_assoc];exact⟨hcell i x hx 0 _ rfl,hcell i x hx 1 _ rfl⟩
  refine .lst _ _ _ _ 2 (fun j=>(aeB R w w' hR b (o+j)).getD Go.undef) b o m5 hc (by intro e he;simp only[aqJ]at he;obtain⟨x,_,rfl⟩:=he;rfl) (fun _=>rfl) (fun j hj=>?_) (fun i e j y he hy=>?_)
  ·have hi:j/2<l.length:=m0
   have hx:l[j/2]?=some l[j/2]:=aqh hi;have:=key _ _ hx;have hm:j=j/2*2+j%2:=m0
   rcases Nat.mod_two_eq_zero_or_one j with h0|h0
   ·rw[h0]at hm;rw[hm,this.1];rfl
   ·rw[h0]at hm;rw[hm,this.2];rfl
  ·rw[aqw]at he
   cases hx:l[i]? with
   |none=>simp[hx]at he
   |some x =>
    rw[hx]at he;simp only[Option.map_some,Option.some.injEq]at he;subst he;have:=key i x hx
    match j,hy with
    |0,hy=>simp[cP]at hy;subst hy;rw[this.1];exact .int _ _
    |1,hy=>simp[cP]at hy;subst hy;rw[this.2];exact .int _ _
    |j+2,hy=>simp[cP]at hy
theorem xc {v:Value}{k:IntKind}{n:Int}(h:bD R v (.int k n)):v = .int k n:=by cases h;rfl
theorem an' (hR:∀ b o u,R b o=some u->w.cell? ⟨b,o,none⟩=some u){v:Value}{l:List (Int×Int)}(h:bD R v (.lst (l.map cP))):∃ A c,v = .slice A l.length c/\Rd e2 2 w w.heap.size A l.length l :=
 ag0 (k:=2) (fun _=>rfl) dO m9 (fun x j u y v hu hy hv=>by
  match j,hu,hy with
  |0,hu,hy=>simp[e2]at hu;simp[cP]at hy;subst hu hy;exact xc hv
  |1,hu,hy=>simp[e2]at hu;simp[cP]at hy;subst hu hy;exact xc hv
  |j+2,hu,hy=>simp[cP]at hy) hR h
theorem amu (hR:∀ b o u,R b o=some u->w.cell? ⟨b,o,none⟩=some u){v:Value}{l:List ((Int×Int)×Int)}(h:bD R v (.lst (l.map cC))):∃ A c,v = .slice A l.length c/\Rd e3 3 w w.heap.size A l.length l :=
 ag0 (k:=3) (fun _=>rfl) IW m9 (fun x j u y v hu hy hv=>by
  match j,hu,hy with
  |0,hu,hy=>simp[e3]at hu;simp[cC]at hy;subst hu hy;exact xc hv
  |1,hu,hy=>simp[e3]at hu;simp[cC]at hy;subst hu hy;exact xc hv
  |2,hu,hy=>simp[e3]at hu;simp[cC]at hy;subst hu hy;exact xc hv
  |j+3,hu,hy=>simp[cC]at hy) hR h
end
theorem adC {vs:Array Value}{p:PV}(h:vs.size=[p].length):∃ v,vs=#[v]:=by
 obtain⟨l⟩:=vs
 match l,h with
 |[a],_=>exact⟨a,rfl⟩
abbrev KG (l:List ((Int×Int)×Int)):List (Int×Int):=cQ (mc l) (ft l)
theorem akD (l:List ((Int×Int)×Int))(hn:l.length<=100000):PTz 207 [.one (.lst (l.map cC))] (.val (.one (.lst ((KG l).map cP)))):=by
 refine⟨⟨_,Tryz.func207,k7,k7⟩,fun R w vs hR hs hv=>?_⟩;obtain⟨v,rfl⟩:=adC hs;obtain⟨A,c,rfl,ha⟩:=amu hR (hv 0 v _ rfl rfl);refine(ak8 A _ c l w ha hn).mono ?_;rintro e w' ⟨A',m',c',rfl,ho,hg⟩;exact⟨_,_,rfl,(nU hR hg).1,(nU hR hg).2,KL hR ho⟩
theorem aiF (l:List (Int×Int))(hn:l.length<=1000)(hasc:Asc l)(hF:∀ s∈l,s.1<1099511627776)(hM:∀ s∈l,s.2<=600):PTz 147 [.one (.lst (l.map cP))] (.val (.one (.lst ((qG l).map cP)))):=by
 refine⟨⟨_,Tryz.func147,k7,k7⟩,fun R w vs hR hs hv=>?_⟩;obtain⟨v,rfl⟩:=adC hs;obtain⟨A,c,rfl,ha⟩:=an' hR (hv 0 v _ rfl rfl);refine(ai2 A _ c l w ha hn hasc hF hM).mono ?_;rintro e w' ⟨A',m',c',rfl,ho,hg⟩;exact⟨_,_,rfl,(nU hR hg).1,(nU hR hg).2,KL hR ho⟩
end Go.Proofs.YtlcceppoloaecaaGreatDoor.St
namespace Go.Proofs.YtlcceppoloaecaaGreatDoor
open IntKind (i64)
def toP (p:ax):Int×Int:=(p.lo,p.hi)
def ofP (x:Int×Int):ax:=⟨x.1,x.2⟩
def toS (s:Stp):Int×Int:=(s.lo,s.n)
def ofS (x:Int×Int):Stp:=⟨x.1,x.2⟩
def toC (c:yD):(Int×Int)×Int:=(toP c.period,c.n)
def vm (l:List yD):List Stp:=(St.KG (l.map toC)).map ofS
def yu (l:List Stp):List ax:=(St.qG (l.map toS)).map ofP
theorem ak' (l:List yD):(l.map toC).map St.cC=l.map Fh:=by rw[List.map_map];rfl
theorem ajM (l:List (Int×Int)):(l.map ofS).map kJ=l.map St.cP:=by rw[List.map_map];rfl
theorem aj3 (l:List Stp):(l.map toS).map St.cP=l.map kJ:=by rw[List.map_map];rfl
theorem aj6 (l:List (Int×Int)):(l.map ofP).map aN=l.map St.cP:=by rw[List.map_map];rfl
theorem akI (l:List yD)(hn:l.length<=100000):PTz 207 [.one (.lst (l.map Fh))] (.val (.one (.lst ((vm l).map kJ)))):=by
 have:=St.akD (l.map toC) (by simpa using hn);rw[ak']at this;unfold vm;rw[ajM];exact this
structure N9 (l:List Stp):Prop where
 len:l.length<=1000
 asc:St.Asc (l.map toS)
 fin:∀ s∈l,s.lo<1099511627776
 low:∀ s∈l,s.n<=600
theorem agb (l:List Stp)(h:N9 l):PTz 147 [.one (.lst (l.map kJ))] (.val (.one (.lst ((yu l).map aN)))):=by
 have:=St.aiF (l.map toS) (by simpa using h.len) h.asc (by intro s hs;obtain⟨x,hx,rfl⟩:=aqJ.1 hs;exact h.fin x hx) (by intro s hs;obtain⟨x,hx,rfl⟩:=aqJ.1 hs;exact h.low x hx);rw[aj3]at this;unfold yu;rw[aj6];exact this
open Go.RowKit Go.MapKept
set_option maxRecDepth 100000
set_option maxHeartbeats 8000000
def xi (a b:Val):Option (ax×Bool):=some (⟨a.int,b.int⟩,decide (a.kind=1)&&decide (b.kind=1))
theorem ah6 {vs:Array Value}{p q:PV}(h:vs.size=[p,q].length):∃ v u,vs=#[v,u]:=by
 obtain⟨l⟩:=vs
 match l,h with
 |[a,b],_=>exact⟨a,b,rfl⟩
theorem adA {R:PH}{v:Val}{u:Value}(h:(PV.agg (cV v)).rep R u):u = .agg #[.int .i64 v.kind,.int .i64 v.int,.string v.text]:=by
 obtain⟨vs,rfl,hs,hc⟩:=h;obtain⟨l⟩:=vs
 match l,hs with
 |[a,b,c],_ =>
  have h0:=hc 0 a _ rfl rfl;have h1:=hc 1 b _ rfl rfl;have h2:=hc 2 c _ rfl rfl
  cases h0;cases h1;cases h2;rfl
theorem yS {a b:Val}{r:ax×Bool}(H:xi a b=some r):PTz 183 [.agg (cV a),.agg (cV b)] (.tup [.agg (aN r.1),.one (.bool r.2)]):=by
 obtain rfl:=aqG H;refine⟨⟨_,Tryz.func183,k7,k7⟩,fun R w vs hR hs hv=>?_⟩;obtain⟨v,u,rfl⟩:=ah6 hs;have hv0:=adA (hv 0 v _ rfl rfl);have hv1:=adA (hv 1 u _ rfl rfl);subst hv0 hv1;refine(St.Nk a.kind a.int b.kind b.int a.text b.text w).mono ?_;rintro e w' ⟨rfl,hg⟩;refine⟨_,_,rfl,(St.nU hR hg).1,(St.nU hR hg).2,⟨_,rfl,rfl,fun j u p hu hp=>?_⟩⟩
 match j,hu,hp with
 |0,hu,hp =>
  simp at hu hp;subst hu hp;refine⟨_,rfl,rfl,fun j u p hu hp=>?_⟩
  match j,hu,hp with
  |0,hu,hp=>simp[aN]at hu hp;subst hu hp;exact .int _ _
  |1,hu,hp=>simp[aN]at hu hp;subst hu hp;exact .int _ _
  |j+2,hu,hp=>simp[aN]at hp
 |1,hu,hp=>simp at hu hp;subst hu hp;exact .bool _
 |j+2,hu,hp=>simp at hp
def qQ (a_rel:Int)(a_l:(List Val)):Option (Val):=(aF a_l (0:Int)).bind fun x_1=>(aF a_l (1:Int)).bind fun x_2=>(xi x_1 x_2).bind fun r_3=>(aF a_l (2:Int)).bind fun x_4=>(aF a_l (3:Int)).bind fun x_5=>(xi x_4 x_5).bind fun r_6=>(afb r_3.1 r_6.1).bind fun r_7=>bif (!r_3.2)then(jS ).bind fun r_9=>some r_9 else
 bif (!r_6.2)then(jS ).bind fun r_11=>some r_11 else
 bif (!r_7.2)then(jS ).bind fun r_13=>some r_13 else
 (qU (decide (r_7.1=a_rel))).bind fun r_14=>some r_14
instance gRelated_ok {a_rel : Int} {a_l : (List Val)} {r : Val} : OkC (qQ a_rel a_l = some r) (PTz 115 [.one (.int .i64 a_rel), .one (.lst (a_l.map cV))] (.val (.agg (cV r)))) := .mk fun H => by
 unfold qQ at H;refine po_ Tryz.func115 Tryz.ntmps115 ?_;obtain⟨x_1,i1z,i1,i1x,H⟩:=bw (f:=cV) H;obtain⟨x_2,i2z,i2,i2x,H⟩:=bw (f:=cV) H;obtain⟨r_3,c3,H⟩:=bd_ H;replace c3:=yS c3;obtain⟨x_4,i4z,i4,i4x,H⟩:=bw (f:=cV) H;obtain⟨x_5,i5z,i5,i5x,H⟩:=bw (f:=cV) H;obtain⟨r_6,c6,H⟩:=bd_ H;replace c6:=yS c6;exact ay H
set_option maxHeartbeats 8000000
set_option maxHeartbeats 8000000
def Es (a_less:Bool)(a_greater:Bool):Option (Int):=bif a_less then some (-1:Int)else
 bif a_greater then some (1:Int)else
 some (0:Int)
instance gSign_ok {a_less : Bool} {a_greater : Bool} {r : Int} : OkC (Es a_less a_greater = some r) (PTz 190 [.one (.bool a_less), .one (.bool a_greater)] (.val (.one (.int .i64 r)))) := .mk fun H => by
 unfold Es at H;refine po_ Tryz.func190 Tryz.ntmps190 ?_;exact ay H
def tY (a_a:Val)(a_b:Val):Option (Int):=bif (decide (a_a.kind≠a_b.kind))then(Es (decide (a_a.kind<a_b.kind)) (decide (a_b.kind<a_a.kind))).bind fun r_2=>some r_2 else
 bif (decide (a_a.int≠a_b.int))then(Es (decide (a_a.int<a_b.int)) (decide (a_b.int<a_a.int))).bind fun r_4=>some r_4 else
 (Es (Op.bytesLess a_a.text.toList a_b.text.toList) (!((Op.bytesLess a_a.text.toList a_b.text.toList)||(a_a.text.toList==a_b.text.toList)))).bind fun r_5=>some r_5
instance gCmp7_ok {a_a : Val} {a_b : Val} {r : Int} : OkC (tY a_a a_b = some r) (PTz 120 [.agg (cV a_a), .agg (cV a_b)] (.val (.one (.int .i64 r)))) := .mk fun H => by
 unfold tY at H;refine po_ Tryz.func120 Tryz.ntmps120 ?_;exact ay H
def fK (a_a:(List Val))(a_b:(List Val)):(Int)->Option (Step (Int) (Int)):=fun s=>match s with
 |i_1=>bif (decide (i_1<((a_a.length:Nat):Int)))then bif (decide (i_1<((a_b.length:Nat):Int)))then(aF a_a i_1).bind fun x_4=>(aF a_b i_1).bind fun x_5=>(tY x_4 x_5).bind fun r_6=>bif (decide (r_6≠(0:Int)))then some (.ret r_6)else
 some (.next (i64.wrap (i_1+(1:Int))))else
 some (.exit i_1)else
 some (.exit i_1)
def iH (a_a:(List Val))(a_b:(List Val)):Sum (Int) (Int)->Option ((Int))
 |.inl i_1=>bif (decide (((a_a.length:Nat):Int)<((a_b.length:Nat):Int)))then some (-1:Int)else
 bif (decide (((a_b.length:Nat):Int)<((a_a.length:Nat):Int)))then some (1:Int)else
 some (0:Int)
 |.inr q=>some q
def nK (a_a:(List Val))(a_b:(List Val)):Option (Int):=(ao (fK a_a a_b) fuel (0:Int)).bind (iH a_a a_b)
instance gCmp8_ok {a_a : (List Val)} {a_b : (List Val)} {r : Int} : OkC (nK a_a a_b = some r) (PTz 79 [.one (.lst (a_a.map cV)), .one (.lst (a_b.map cV))] (.val (.one (.int .i64 r)))) := .mk fun H => by
 unfold nK at H;refine po_ Tryz.func79 Tryz.ntmps79 ?_;refine aY ?_;refine alM_ (fun s:Int=>match s with|i_1=>[(0,.one (.c (.lst (a_a.map cV)))),(1,.one (.c (.lst (a_b.map cV)))),(5,.one (.c (.int .i64 i_1)))]) (fun s=>match s with|i_1=>[]) H (fun _=>aqu _)
  (fm_ bF [] rfl bn trivial) ?_
 rintro i_1 st1 hb1 hk1;unfold fK at hb1;dsimp only at hb1 ⊢;rcases aj hb1 with⟨q_2,hb1⟩|⟨q_2,hb1⟩
 ·rcases aj hb1 with⟨q_3,hb1⟩|⟨q_3,hb1⟩
  ·obtain⟨x_4,i1z,i1,i1x,hb1⟩:=bw (f:=cV) hb1
   obtain⟨x_5,i2z,i2,i2x,hb1⟩:=bw (f:=cV) hb1;obtain⟨r_6,c3,hb1⟩:=bd_ hb1;replace c3:=gCmp7_ok c3;rcases aj hb1 with⟨q_7,hb1⟩|⟨q_7,hb1⟩
   ·exact br hb1 hk1
   cases hb1;refine aY ?_;exact⟨_,rfl,fm_ bF [] rfl bn trivial⟩
  exact br hb1 hk1
 exact br hb1 hk1
set_option maxHeartbeats 8000000
def du:Option (Val):=some (⟨(0:Int),(0:Int),ByteArray.empty⟩:Val)
instance gNullR_ok {r : Val} : OkC (du = some r) (PTz 72 [] (.val (.agg (cV r)))) := .mk fun H => by
 unfold du at H;refine po_ Tryz.func72 Tryz.ntmps72 ?_;exact ay H
def jy (a_s:ByteArray):(Int)->Option (Step (Int) (Bool)):=fun s=>match s with
 |i_1=>bif (decide (i_1<((a_s.size:Nat):Int)))then(afk a_s i_1).bind fun b_3=>bif (decide (((b_3.toNat:Nat):Int)<(32:Int)))then some (.ret false)else
 bif (decide ((126:Int)<((b_3.toNat:Nat):Int)))then some (.ret false)else
 some (.next (i64.wrap (i_1+(1:Int))))else
 some (.exit i_1)
def dl:Sum (Int) (Bool)->Option ((Bool))
 |.inl i_1=>some true
 |.inr q=>some q
def lJ (a_s:ByteArray):Option (Bool):=(ao (jy a_s) fuel (0:Int)).bind (dl)
instance gPrintable_ok {a_s : ByteArray} {r : Bool} : OkC (lJ a_s = some r) (PTz 199 [.one (.str a_s)] (.val (.one (.bool r)))) := .mk fun H => by
 unfold lJ at H;refine po_ Tryz.func199 Tryz.ntmps199 ?_
 repeat' (first|refine gs5_ ?_|refine b_ rfl rfl rfl rfl rfl rfl rfl ?_)
 refine alM_ (fun s:Int=>match s with|i_1=>[(0,.one (.c (.str a_s))),(3,.one (.c (.int .i64 i_1)))]) (fun s=>match s with|i_1=>[]) H (fun _=>aqu _)
  (fm_ bF [] rfl bn trivial) ?_
 rintro i_1 st1 hb1 hk1;unfold jy at hb1;dsimp only at hb1 ⊢;rcases aj hb1 with⟨q_2,hb1⟩|⟨q_2,hb1⟩
 ·obtain⟨b_3,i1,hb1⟩:=bd_ hb1
  obtain⟨i1z,i1⟩:=GN i1;rcases aj hb1 with⟨q_4,hb1⟩|⟨q_4,hb1⟩
  ·cases hb1
   have hx1:dl (.inr false)=some _:=hk1;unfold dl at hx1;dsimp only at hx1
   cases hx1
   repeat' (first|refine gs5_ ?_|refine b_ rfl rfl rfl rfl rfl rfl rfl ?_)
   refine aZ (bg rfl ?_ ?_)
   ·repeat' (first|exact t7|rfl|exact aqi rfl|omega|apply And.intro)
   ·first|rfl|(simp only[aql,aqj,aqn,aqd]<;>rfl)
  rcases aj hb1 with⟨q_5,hb1⟩|⟨q_5,hb1⟩
  ·cases hb1
   have hx1:dl (.inr false)=some _:=hk1;unfold dl at hx1;dsimp only at hx1
   cases hx1
   repeat' (first|refine gs5_ ?_|refine b_ rfl rfl rfl rfl rfl rfl rfl ?_)
   refine aZ (bg rfl ?_ ?_)
   ·repeat' (first|exact t7|rfl|exact aqi rfl|omega|apply And.intro)
   ·first|rfl|(simp only[aql,aqj,aqn,aqd]<;>rfl)
  cases hb1
  repeat' (first|refine gs5_ ?_|refine b_ rfl rfl rfl rfl rfl rfl rfl ?_)
  exact⟨_,rfl,fm_ bF [] rfl bn trivial⟩
 cases hb1;have hx1:dl (.inl i_1)=some _:=hk1;unfold dl at hx1;dsimp only at hx1
 cases hx1
 repeat' (first|refine gs5_ ?_|refine b_ rfl rfl rfl rfl rfl rfl rfl ?_)
 refine aZ (bg rfl ?_ ?_)
 ·repeat' (first|exact t7|rfl|exact aqi rfl|omega|apply And.intro)
 ·first|rfl|(simp only[aql,aqj,aqn,aqd]<;>rfl)
def dc (a_v:Val):Option (Bool):=bif (decide (a_v.kind=(0:Int)))then bif (decide (a_v.int=(0:Int)))then some (a_v.text.toList==(⟨#[]⟩:ByteArray).toList)else
 some false else
 bif (decide (a_v.kind=(1:Int)))then bif (a_v.text.toList==(⟨#[]⟩:ByteArray).toList)then bif (decide ((-1125899906842624:Int)<=a_v.int))then some (decide (a_v.int<=(1125899906842624:Int)))else
 some false else
 some false else
 bif (decide (a_v.kind=(2:Int)))then bif (decide (a_v.int=(0:Int)))then bif (decide (((a_v.text.size:Nat):Int)<=(200:Int)))then(lJ a_v.text).bind fun r_9=>some r_9 else
 some false else
 some false else
 bif (decide (a_v.kind=(3:Int)))then bif (a_v.text.toList==(⟨#[]⟩:ByteArray).toList)then bif (decide (a_v.int=(0:Int)))then some true else
 some (decide (a_v.int=(1:Int)))else
 some false else
 some false
instance gValidR_ok {a_v : Val} {r : Bool} : OkC (dc a_v = some r) (PTz 139 [.agg (cV a_v)] (.val (.one (.bool r)))) := .mk fun H => by
 unfold dc at H;refine po_ Tryz.func139 Tryz.ntmps139 ?_;exact ay H
def pn (a_v:Val):Option (Val):=(dc a_v).bind fun r_1=>bif r_1 then some a_v else
 (du ).bind fun r_3=>some r_3
instance gvalidR_ok {a_v : Val} {r : Val} : OkC (pn a_v = some r) (PTz 220 [.agg (cV a_v)] (.val (.agg (cV r)))) := .mk fun H => by
 unfold pn at H;refine po_ Tryz.func220 Tryz.ntmps220 ?_;exact ay H
def mi (a_n:Int):Option (Val):=(pn (⟨(1:Int),a_n,ByteArray.empty⟩:Val)).bind fun r_1=>some r_1
instance gIntR_ok {a_n : Int} {r : Val} : OkC (mi a_n = some r) (PTz 169 [.one (.int .i64 a_n)] (.val (.agg (cV r)))) := .mk fun H => by
 unfold mi at H;refine po_ Tryz.func169 Tryz.ntmps169 ?_;exact ay H
def abZ (a_row:(List Val))(a_i:Int):Option (Val):=bif (decide (a_i<(0:Int)))then(du ).bind fun r_2=>some r_2 else
 bif (decide (((a_row.length:Nat):Int)<=a_i))then(du ).bind fun r_4=>some r_4 else
 (aF a_row a_i).bind fun x_5=>some x_5
instance gAtR_ok {a_row : (List Val)} {a_i : Int} {r : Val} : OkC (abZ a_row a_i = some r) (PTz 215 [.one (.lst (a_row.map cV)), .one (.int .i64 a_i)] (.val (.agg (cV r)))) := .mk fun H => by
 unfold abZ at H;refine po_ Tryz.func215 Tryz.ntmps215 ?_;exact ay H
def iB (a_a:(List Val))(a_b:(List Val)):Option (Bool):=(nK a_a a_b).bind fun r_1=>some (decide (r_1=(0:Int)))
instance gEqual8_ok {a_a : (List Val)} {a_b : (List Val)} {r : Bool} : OkC (iB a_a a_b = some r) (PTz 104 [.one (.lst (a_a.map cV)), .one (.lst (a_b.map cV))] (.val (.one (.bool r)))) := .mk fun H => by
 unfold iB at H;refine po_ Tryz.func104 Tryz.ntmps104 ?_;exact ay H
def uH (a_a:(List Val))(a_b:(List Val))(a_o:(List Fb)):(Int)->Option (Step (Int) (Bool)):=fun s=>match s with
 |i_1=>bif (decide (i_1<((a_o.length:Nat):Int)))then(aF a_o i_1).bind fun x_3=>(abZ a_a x_3.column).bind fun r_4=>(abZ a_b x_3.column).bind fun r_5=>(tY r_4 r_5).bind fun r_6=>bif (decide (r_6≠(0:Int)))then some (.ret (!((decide (r_6<(0:Int)))==x_3.desc)))else
 some (.next (i64.wrap (i_1+(1:Int))))else
 some (.exit i_1)
def uz (a_a:(List Val))(a_b:(List Val)):Sum (Int) (Bool)->Option ((Bool))
 |.inl i_1=>(nK a_a a_b).bind fun r_8=>some (decide (r_8<(0:Int)))
 |.inr q=>some q
def so (a_a:(List Val))(a_b:(List Val))(a_o:(List Fb)):Option (Bool):=(ao (uH a_a a_b a_o) fuel (0:Int)).bind (uz a_a a_b)
instance gBefore_ok {a_a : (List Val)} {a_b : (List Val)} {a_o : (List Fb)} {r : Bool} : OkC (so a_a a_b a_o = some r) (PTz 224 [.one (.lst (a_a.map cV)), .one (.lst (a_b.map cV)), .one (.lst (a_o.map zY))] (.val (.one (.bool r)))) := .mk fun H => by
 unfold so at H;refine po_ Tryz.func224 Tryz.ntmps224 ?_;refine aY ?_;refine alM_ (fun s:Int=>match s with|i_1=>[(0,.one (.c (.lst (a_a.map cV)))),(1,.one (.c (.lst (a_b.map cV)))),(2,.one (.c (.lst (a_o.map zY)))),(7,.one (.c (.int .i64 i_1)))]) (fun s=>match s with|i_1=>[]) H (fun _=>aqu _)
  (fm_ bF [] rfl bn trivial) ?_
 rintro i_1 st1 hb1 hk1;unfold uH at hb1;dsimp only at hb1 ⊢;rcases aj hb1 with⟨q_2,hb1⟩|⟨q_2,hb1⟩
 ·obtain⟨x_3,i1z,i1,i1x,hb1⟩:=bw (f:=zY) hb1
  obtain⟨r_4,c2,hb1⟩:=bd_ hb1;replace c2:=gAtR_ok c2;obtain⟨r_5,c3,hb1⟩:=bd_ hb1;replace c3:=gAtR_ok c3;obtain⟨r_6,c4,hb1⟩:=bd_ hb1;replace c4:=gCmp7_ok c4;rcases aj hb1 with⟨q_7,hb1⟩|⟨q_7,hb1⟩
  ·exact br hb1 hk1
  cases hb1;refine aY ?_;exact⟨_,rfl,fm_ bF [] rfl bn trivial⟩
 exact br hb1 hk1
def dU (a_a:(List (List Val)))(a_b:(List (List Val)))(a_o:(List Fb)):((List (List Val))×Int×Int)->Option (Step ((List (List Val))×Int×Int) ((List (List Val)))):=fun s=>match s with
 |(out_1,i_2,k_3)=>bif (decide (i_2<((a_a.length:Nat):Int)))then bif (decide (i_2=((a_a.length:Nat):Int)))then(aF a_b k_3).bind fun x_6=>bif (decide (out_1.length+1<=5864062014805))then(some (.next ((out_1++[x_6]),i_2,(i64.wrap (k_3+(1:Int))))))else none else
 bif (decide (k_3<((a_b.length:Nat):Int)))then(aF a_b k_3).bind fun x_8=>(aF a_a i_2).bind fun x_9=>(so x_8 x_9 a_o).bind fun r_10=>bif r_10 then bif (decide (out_1.length+1<=5864062014805))then(some (.next ((out_1++[x_8]),i_2,(i64.wrap (k_3+(1:Int))))))else none else
 bif (decide (out_1.length+1<=5864062014805))then(some (.next ((out_1++[x_9]),(i64.wrap (i_2+(1:Int))),k_3)))else none else
 (aF a_a i_2).bind fun x_12=>bif (decide (out_1.length+1<=5864062014805))then(some (.next ((out_1++[x_12]),(i64.wrap (i_2+(1:Int))),k_3)))else none else
 bif (decide (k_3<((a_b.length:Nat):Int)))then bif (decide (i_2=((a_a.length:Nat):Int)))then(aF a_b k_3).bind fun x_15=>bif (decide (out_1.length+1<=5864062014805))then(some (.next ((out_1++[x_15]),i_2,(i64.wrap (k_3+(1:Int))))))else none else
 (aF a_b k_3).bind fun x_16=>(aF a_a i_2).bind fun x_17=>(so x_16 x_17 a_o).bind fun r_18=>bif r_18 then bif (decide (out_1.length+1<=5864062014805))then(some (.next ((out_1++[x_16]),i_2,(i64.wrap (k_3+(1:Int))))))else none else
 bif (decide (out_1.length+1<=5864062014805))then(some (.next ((out_1++[x_17]),(i64.wrap (i_2+(1:Int))),k_3)))else none else
 some (.exit (out_1,i_2,k_3))
def D9:Sum ((List (List Val))×Int×Int) ((List (List Val)))->Option (((List (List Val))))
 |.inl (out_1,i_2,k_3)=>some out_1
 |.inr q=>some q
def wj (a_a:(List (List Val)))(a_b:(List (List Val)))(a_o:(List Fb)):Option ((List (List Val))):=(ao (dU a_a a_b a_o) fuel ([],(0:Int),(0:Int))).bind (D9)
instance gMerged_ok {a_a : (List (List Val))} {a_b : (List (List Val))} {a_o : (List Fb)} {r : (List (List Val))} : OkC (wj a_a a_b a_o = some r) (PTz 174 [.one (.lst (a_a.map (fun x => [AC.lst (x.map cV)]))), .one (.lst (a_b.map (fun x => [AC.lst (x.map cV)]))), .one (.lst (a_o.map zY))] (.val (.one (.lst (r.map (fun x => [AC.lst (x.map cV)])))))) := .mk fun H => by
 unfold wj at H;refine po_ Tryz.func174 Tryz.ntmps174 ?_;refine aY ?_;refine bU 7 1 rfl ?_;refine alM_ (fun s:(List (List Val))×Int×Int=>match s with|(out_1,i_2,k_3)=>[(0,.one (.c (.lst (a_a.map (fun x=>[AC.lst (x.map cV)]))))),(1,.one (.c (.lst (a_b.map (fun x=>[AC.lst (x.map cV)]))))),(2,.one (.c (.lst (a_o.map zY)))),(7,.one (.own (out_1.map (fun x=>[AC.lst (x.map cV)])) 0)),(8,.one (.c (.int .i64 i_2))),(9,.one (.c (.int .i64 k_3)))]) (fun s=>match s with|(out_1,i_2,k_3)=>[.spare out_1.length 1]) H (fun _=>aqu _)
  (fm_ bF [] rfl bn cm) ?_
 rintro⟨out_1,i_2,k_3⟩ st1 hb1 hk1;exact br hb1 hk1
def fW (a_row:(List Val))(a_kinds:(List Int)):(Int)->Option (Step (Int) (Bool)):=fun s=>match s with
 |i_2=>bif (decide (i_2<((a_row.length:Nat):Int)))then(aF a_row i_2).bind fun x_4=>(dc x_4).bind fun r_5=>bif (!r_5)then some (.ret false)else
 bif (decide (x_4.kind≠(0:Int)))then(aF a_kinds i_2).bind fun x_8=>bif (decide (x_4.kind≠x_8))then some (.ret false)else
 some (.next (i64.wrap (i_2+(1:Int))))else
 some (.next (i64.wrap (i_2+(1:Int))))else
 some (.exit i_2)
def Gu:Sum (Int) (Bool)->Option ((Bool))
 |.inl i_2=>some true
 |.inr q=>some q
def qS (a_row:(List Val))(a_kinds:(List Int)):Option (Bool):=bif (decide (((a_row.length:Nat):Int)≠((a_kinds.length:Nat):Int)))then some false else
 (ao (fW a_row a_kinds) fuel (0:Int)).bind (Gu)
instance gFits8_ok {a_row : (List Val)} {a_kinds : (List Int)} {r : Bool} : OkC (qS a_row a_kinds = some r) (PTz 86 [.one (.lst (a_row.map cV)), .one (.lst (a_kinds.map (fun x => [AC.int .i64 x])))] (.val (.one (.bool r)))) := .mk fun H => by
 unfold qS at H;refine po_ Tryz.func86 Tryz.ntmps86 ?_;rcases aj H with⟨q_1,H⟩|⟨q_1,H⟩
 ·exact ay H
 refine aY ?_;refine alM_ (fun s:Int=>match s with|i_2=>[(0,.one (.c (.lst (a_row.map cV)))),(1,.one (.c (.lst (a_kinds.map (fun x=>[AC.int .i64 x]))))),(5,.one (.c (.int .i64 i_2)))]) (fun s=>match s with|i_2=>[]) H (fun _=>aqu _)
  (fm_ bF [] rfl bn trivial) ?_
 rintro i_2 st1 hb1 hk1;unfold fW at hb1;dsimp only at hb1 ⊢;rcases aj hb1 with⟨q_3,hb1⟩|⟨q_3,hb1⟩
 ·obtain⟨x_4,i1z,i1,i1x,hb1⟩:=bw (f:=cV) hb1
  obtain⟨r_5,c2,hb1⟩:=bd_ hb1;replace c2:=gValidR_ok c2;rcases aj hb1 with⟨q_6,hb1⟩|⟨q_6,hb1⟩
  ·exact br hb1 hk1
  rcases aj hb1 with⟨q_7,hb1⟩|⟨q_7,hb1⟩
  ·obtain⟨x_8,i3z,i3,i3x,hb1⟩:=bw (f:=(fun x=>[AC.int .i64 x])) hb1
   rcases aj hb1 with⟨q_9,hb1⟩|⟨q_9,hb1⟩
   ·exact br hb1 hk1
   cases hb1;refine aY ?_;exact⟨_,rfl,fm_ bF [] rfl bn trivial⟩
  cases hb1;refine aY ?_;exact⟨_,rfl,fm_ bF [] rfl bn trivial⟩
 exact br hb1 hk1
def zp (a_k:Int):Option (Bool):=bif (decide (a_k=(1:Int)))then some true else
 bif (decide (a_k=(2:Int)))then some true else
 some (decide (a_k=(3:Int)))
instance gKind_ok {a_k : Int} {r : Bool} : OkC (zp a_k = some r) (PTz 140 [.one (.int .i64 a_k)] (.val (.one (.bool r)))) := .mk fun H => by
 unfold zp at H;refine po_ Tryz.func140 Tryz.ntmps140 ?_;exact ay H
def nt (a_l:(List Int)):(Int)->Option (Step (Int) (Bool)):=fun s=>match s with
 |i_1=>bif (decide (i_1<((a_l.length:Nat):Int)))then(aF a_l i_1).bind fun x_3=>(zp x_3).bind fun r_4=>bif (!r_4)then some (.ret false)else
 some (.next (i64.wrap (i_1+(1:Int))))else
 some (.exit i_1)
def afY:Sum (Int) (Bool)->Option ((Bool))
 |.inl i_1=>some true
 |.inr q=>some q
def Dj (a_l:(List Int)):Option (Bool):=(ao (nt a_l) fuel (0:Int)).bind (afY)
instance gKinds_ok {a_l : (List Int)} {r : Bool} : OkC (Dj a_l = some r) (PTz 87 [.one (.lst (a_l.map (fun x => [AC.int .i64 x])))] (.val (.one (.bool r)))) := .mk fun H => by
 unfold Dj at H;refine po_ Tryz.func87 Tryz.ntmps87 ?_;refine aY ?_;refine alM_ (fun s:Int=>match s with|i_1=>[(0,.one (.c (.lst (a_l.map (fun x=>[AC.int .i64 x]))))),(3,.one (.c (.int .i64 i_1)))]) (fun s=>match s with|i_1=>[]) H (fun _=>aqu _)
  (fm_ bF [] rfl bn trivial) ?_
 rintro i_1 st1 hb1 hk1;unfold nt at hb1;dsimp only at hb1 ⊢;rcases aj hb1 with⟨q_2,hb1⟩|⟨q_2,hb1⟩
 ·obtain⟨x_3,i1z,i1,i1x,hb1⟩:=bw (f:=(fun x=>[AC.int .i64 x])) hb1
  obtain⟨r_4,c2,hb1⟩:=bd_ hb1;replace c2:=gKind_ok c2;rcases aj hb1 with⟨q_5,hb1⟩|⟨q_5,hb1⟩
  ·exact br hb1 hk1
  cases hb1;refine aY ?_;exact⟨_,rfl,fm_ bF [] rfl bn trivial⟩
 exact br hb1 hk1
section
variable {P:Program} {ti:TI} {B:Nat->Prop} {N n0:Nat} {R:PH} {γ:List Gh} {L:List Ob} {T:Tm} {w:World} {Q:AX->Tm->List Ob->Prop}
theorem aa3 {c:Code}(id:Nat){ver k:Nat}{es:List (List SV)}{cs:List (List AC)}(hL:L[id]?=some (.row ver es k))(hn:dV es=some cs)(h:Aw P N n0 c Q T (L.set id (.row ver (cs.map (List.map SV.c)) k))):Aw P N n0 c Q T L:=by
 intro hn0 B R γ w a hi hT;have hlt:id<L.length:=(ap_.1 hL).1;have hlen:=oy hn;have hM:Mv R R γ γ L (L.set id (.row ver (cs.map (List.map SV.c)) k)):=by
  refine⟨PH.sub_refl _,m5,fun t n k' _ e=>?_,fun t ver' es' k' _ e=>?_,fun _ _ e=>e⟩
  ·by_cases q:t=id
   ·subst q;rw[aqs hlt]at e;cases e
   ·rw[aqt (Ne.symm q)]at e;exact⟨n,e,aqo _,fun _=>rfl⟩
  ·by_cases q:t=id
   ·subst q;rw[aqs hlt]at e;injection e with e;injection e with e1 e2 e3;subst e1 e2 e3
    exact⟨ver,es,hL,aqo _,fun _=>⟨by simp[hlen],rfl⟩⟩
   ·rw[aqt (Ne.symm q)]at e;exact⟨ver',es',e,aqo _,fun _=>⟨rfl,rfl⟩⟩
 have hI:Inv B R γ (L.set id (.row ver (cs.map (List.map SV.c)) k)) w:=by
  refine⟨by simp[hi.len],hi.val,fun t x g hx hg=>?_,hi.inj,hi.new,hi.bsz⟩;by_cases q:t=id
  ·subst q
   rw[aqs hlt]at hx;injection hx with hx;subst hx
   have ho:=hi.obj t _ _ hL hg
   match g,ho with
   |.none,ho =>
    have ho:es=[]:=ho;subst ho;have:cs=[]:=aqz (by rw[<- hlen];rfl);subst this;exact rfl
   |.arr b cc,⟨⟨vs,E,h1,h2,h3⟩,h4,h5,h6,h7⟩ =>
    refine⟨⟨vs,E,h1,h2,fun i e j u x he hu hx=>?_⟩,by simpa[hlen]using h4,h5,fun e he=>?_,h7⟩
    ·rw[aqw]at he
     cases hc:cs[i]? with
     |none=>rw[hc]at he;cases he
     |some c0 =>
      rw[hc]at he;injection he with he;subst he
      obtain⟨e0,he0,hn0'⟩:=jh hn i c0 hc;rw[aqw]at hx
      cases hj:c0[j]? with
      |none=>rw[hj]at hx;cases hx
      |some y =>
       rw[hj]at hx;injection hx with hx;subst hx
       obtain⟨x0,hx0⟩:=gol_ (show j<e0.length by rw[<- en hn0'];exact(ap_.1 hj).1);exact SV.norm_rep (h3 i e0 j u x0 he0 hu hx0) (ji hn0' j x0 y hx0 hj)
    ·obtain⟨c0,hc0,rfl⟩:=aqJ.1 he
     obtain⟨i,hi0⟩:=List.getElem?_of_mem hc0;obtain⟨e0,he0,hn0'⟩:=jh hn i c0 hi0;rw[aqk,en hn0'];exact h6 e0 (aqe he0)
  ·rw[aqt (Ne.symm q)]at hx
   exact(hi.obj t x g hx hg).mv hM (fun _ _=>rfl) (fun _ _ _ e=>e)
 refine wp_mono (h (by simpa using hn0) B R γ w a hI (hT.mv hM)) fun _ _ _ hh=>hh.ext (Ext.refl _ _ _) hi.len (nl.of hn0 hM)
end
theorem bv:∀ {n:Nat} {L:List Ob},mT n L ->∀ x∈L,x.below n
 |_,_::_,h,x,hx=>by
  rcases aqp.1 hx with rfl|hx
  ·exact h.1
  ·exact bv h.2 x hx
def gC (x:AC):List SV:=[.c x]
def anV:TI :={ aa2 with soft:=true }
theorem aX:TIok Tryz.prog anV:=⟨am.size,am.agg,am.elem,am.field,am.zero,am.bytes,am.kind,am.struct,am.zok,am.eqs⟩
theorem ady (σ:List Nat)(v k:Nat)(l:List AC):(Ob.row v (l.map gC) k).ren σ=Ob.row v (l.map gC) k:=by
 simp only[Ob.ren,List.map_map];rfl
theorem j1 {L L':List Ob}{v k:Nat}{l:List AC}(h:L.set 0 (Ob.row v (l.map gC) k)=L'):joinL [0] L [Ob.row v (l.map gC) k]=L':=by
 subst h;simp[joinL,join,db,b6,fo,ady]
theorem bW {n:Nat}{l:List AV}(h:gk n (l.map fun x=>(0,x))):∀ y∈l,y.below n:=by
 induction l with
 |nil=>intro y hy;cases hy
 |cons x l ih =>
  intro y hy;rcases aqp.1 hy with rfl|hy
  ·exact h.1
  ·exact ih h.2 y hy
def e_ (p:SV)(u:Nat)(s:ByteArray)(i:Nat):Ob := .row (238+65536) [[p,.sl (i+1) u 0 s.size]] 2
def eU (u:Nat)(s:ByteArray):Ob := .row u (bp s) 1
theorem aln : ∃ fn, Tryz.prog.funcs[293]? = some fn /\ (fn.name == "runtime.NumGoroutine") = false /\ fn.body.isNone = true /\ Extern.findNext fn = none /\ Extern.find fn = some Extern.AbiNoEscape.same := ⟨_, Tryz.func293, by kernel_rfl, by kernel_rfl, by kernel_rfl, by kernel_rfl⟩
theorem acr:∃ j,Tryz.prog.info? 238=some j/\j.size=2:=by
 have h:(Tryz.prog.info? 238).map (·.size)=some 2:=k7
 cases hi:Tryz.prog.info? 238 with
 |none=>rw[hi]at h;cases h
 |some j=>rw[hi]at h;exact⟨j,rfl,by simpa using h⟩
theorem ce {n v k:Nat}{a b:SV}(ha:a.below n)(hb:b.below n):(Ob.row v [[a,b]] k).below n:=by
 intro e he x hx;rcases aqp.1 he with rfl|he
 ·rcases aqp.1 hx with rfl|hx
  ·exact ha
  ·rcases aqp.1 hx with rfl|hx
   ·exact hb
   ·cases hx
 ·cases he
theorem bf (n u:Nat)(s:ByteArray):(eU u s).below n:=by
 intro e he x hx;obtain⟨y,_,rfl⟩:=aqJ.1 he;rcases aqp.1 hx with rfl|hx
 ·trivial
 ·cases hx
theorem bM (s:ByteArray):(bp s).length=s.size:=by unfold bp;rw[aqk];simp
theorem iI (s t:ByteArray):bp (s++t)=bp s++bp t:=by
 unfold bp;rw[<- aql];congr 1
theorem MV (σ:List Nat)(s:ByteArray):(bp s).map (List.map (SV.ren σ))=bp s:=by
 unfold bp;rw[List.map_map];rfl
theorem fB (σ:List Nat)(u:Nat)(s:ByteArray):(eU u s).ren σ=eU u s:=by simp only[eU,Ob.ren,MV]
theorem Dv {i j:Nat}{L L':List Ob}{a b a' b':Ob}(ha:a.ren [i,j]=a')(hb:b.ren [i,j]=b')(h:(L.set i a').set j b'=L'):joinL [i,j] L [a,b]=L':=by
 subst ha hb h;simp[joinL,join,db,b6,fo]
theorem r9 {L:List Ob}{a b:Ob}{x:AV}{xs:List AV}{i j:Nat}(h0:L[i]?=some (a.ren [i,j]))(h1:L[j]?=some (b.ren [i,j]))(hne:i≠j)(ha:a.below 2)(hb:b.below 2)(hx:∀ y∈x::xs,y.below 2):fS [i,j] [a,b] (x::xs) L:=by
 refine⟨rfl,by simp[hne],fun k y hy=>?_,bv ⟨ha,hb,t7⟩,hx⟩
 match k,hy with
 |0,hy=>simp at hy;subst hy;exact h0
 |1,hy=>simp at hy;subst hy;exact h1
 |k+2,hy=>simp at hy
theorem KW:Tryz.prog.cellsOf 238=2:=k7
theorem ahA:Tryz.prog.cellsOf 5=1:=k7
theorem qu (x:SV)(o:Ob)(hx:x.below 2)(ho:o.below 2):RTz 274 [.row (238+65536) [[(.c (.nul .ptr)),x]] 2,o] [.one (.ep 0 (238+65536) 0 0)] [.row (238+65536) [[(.ep 0 (238+65536) 0 0),x]] 2,o] (.tup []):=by
 obtain⟨j,hj,hj2⟩:=acr;obtain⟨fn,hf,hnm,hbd,hnx,hfd⟩:=aln;refine bo am Tryz.func274 rfl rfl Tryz.ntmps274 m5 ?_;simp only[ed]
 repeat' (first|refine gw_ am aX ?_|refine gi_ (fun hb=>?_) (fun hb=>?_)|(refine dI rfl rfl rfl rfl rfl (yc rfl rfl (am.kind 235 _ rfl)) ?_)|(refine dI rfl rfl rfl rfl rfl (rl rfl rfl rfl (am.kind 235 _ rfl)) ?_)|(refine dI rfl rfl rfl rfl rfl (rO rfl rfl rfl (am.kind 235 _ rfl) hj) ?_)|(refine dI rfl rfl rfl rfl rfl (kY rfl rfl (am.kind 235 _ rfl) (am.kind 271 _ rfl) hj (by rw[hj2];decide)) ?_)|(refine dI rfl rfl rfl rfl rfl (qk rfl rfl (am.kind 271 _ rfl) (am.kind 235 _ rfl) hj KW rfl) ?_)|(refine b7 rfl rfl rfl rfl rfl (oW rfl hf hnm hbd hnx hfd) ?_)|fail)
 all_goals exact⟨.inl rfl,⟨.inr ⟨.tup [],⟨t7,rfl⟩,rfl⟩,⟨[],rfl⟩,m5,bv ⟨ce (by show 0<2;omega) hx,ho,t7⟩,by simp[CV.av,AV.below]⟩⟩
theorem rC (x:SV)(o:Ob)(hx:x.below 2)(ho:o.below 2):RTz 274 [.row (238+65536) [[(.ep 0 (238+65536) 0 0),x]] 2,o] [.one (.ep 0 (238+65536) 0 0)] [.row (238+65536) [[(.ep 0 (238+65536) 0 0),x]] 2,o] (.tup []):=by
 obtain⟨j,hj,hj2⟩:=acr;obtain⟨fn,hf,hnm,hbd,hnx,hfd⟩:=aln;refine bo am Tryz.func274 rfl rfl Tryz.ntmps274 m5 ?_;simp only[ed]
 repeat' (first|refine gw_ am aX ?_|refine gi_ (fun hb=>?_) (fun hb=>?_)|(refine dI rfl rfl rfl rfl rfl (yc rfl rfl (am.kind 235 _ rfl)) ?_)|(refine dI rfl rfl rfl rfl rfl (rl rfl rfl rfl (am.kind 235 _ rfl)) ?_)|(refine dI rfl rfl rfl rfl rfl (rO rfl rfl rfl (am.kind 235 _ rfl) hj) ?_)|(refine dI rfl rfl rfl rfl rfl (kY rfl rfl (am.kind 235 _ rfl) (am.kind 271 _ rfl) hj (by rw[hj2];decide)) ?_)|(refine dI rfl rfl rfl rfl rfl (qk rfl rfl (am.kind 271 _ rfl) (am.kind 235 _ rfl) hj KW rfl) ?_)|(refine b7 rfl rfl rfl rfl rfl (oW rfl hf hnm hbd hnx hfd) ?_)|fail)
 all_goals exact⟨.inl rfl,⟨.inr ⟨.tup [],⟨t7,rfl⟩,rfl⟩,⟨[],rfl⟩,m5,bv ⟨ce (by show 0<2;omega) hx,ho,t7⟩,by simp[CV.av,AV.below]⟩⟩
theorem Jx (u:Nat)(s:ByteArray)(t:ByteArray)(hu:u%65536=5)(hs:s.size<=100000000000000)(ht:t.size<=1000000000000):RTz 250 [e_ (.c (.nul .ptr)) u s 0,eU u s] [.one (.ep 0 (238+65536) 0 0),.one (.c (.str t))] [e_ (.ep 0 (238+65536) 0 0) (u+65536) (s++t) 0,eU (u+65536) (s++t)] (.tup [.one (.int .i64 t.size),.one (.nul .iface)]):=by
 refine bo am Tryz.func250 rfl rfl Tryz.ntmps250 m5 ?_;simp only[ed];unfold e_
 repeat' (first|(refine b7 rfl rfl rfl rfl rfl (dX am (k:=1) (by_:=1) (xs:=bp t) rfl rfl rfl rfl ⟨rfl,rfl⟩ rfl hu rfl rfl rfl m0 (by exact bM s) (by rw[bM];omega) (by rw[bM];omega)) ?_)|(refine cI [0,1] rfl rfl rfl rfl (qu (.sl 1 u 0 s.size) (eU u s) (by show 1<2;omega) (bf _ _ _)) rfl (r9 r5 (by rw[fB];rfl) m9 (ce trivial (by show 1<2;omega)) (bf _ _ _) (fun y hy=>by rcases aqp.1 hy with rfl|hy<;>first|(show 0<2;omega)|cases hy)) rfl (Dv rfl (fB _ _ _) rfl) ?_)|refine gw_ am aX ?_|refine gi_ (fun hb=>?_) (fun hb=>?_)|fail)
 all_goals refine⟨.inr rfl,⟨.inr ⟨.tup [.one (.int .i64 t.size),.one (.nul .iface)],⟨⟨t7,t7,t7⟩,rfl⟩,rfl⟩,⟨[],?_⟩,m5,bv ⟨ce (by show 0<2;omega) (by show 1<2;omega),bf _ _ _,t7⟩,t7⟩⟩
 all_goals (rw[aqI];show [Ob.row _ [[_,SV.sl (0+1) (u+65536) 0 (s.size+(bp t).length)]] 2,Ob.row (u+65536) (bp s++bp t) 1]=_;rw[bM,<- iI,<- ByteArray.size_append];rfl)
theorem xk (u:Nat)(s:ByteArray)(t:ByteArray)(hu:u%65536=5)(hs:s.size<=100000000000000)(ht:t.size<=1000000000000):RTz 250 [e_ (.ep 0 (238+65536) 0 0) u s 0,eU u s] [.one (.ep 0 (238+65536) 0 0),.one (.c (.str t))] [e_ (.ep 0 (238+65536) 0 0) (u+65536) (s++t) 0,eU (u+65536) (s++t)] (.tup [.one (.int .i64 t.size),.one (.nul .iface)]):=by
 refine bo am Tryz.func250 rfl rfl Tryz.ntmps250 m5 ?_;simp only[ed];unfold e_
 repeat' (first|(refine b7 rfl rfl rfl rfl rfl (dX am (k:=1) (by_:=1) (xs:=bp t) rfl rfl rfl rfl ⟨rfl,rfl⟩ rfl hu rfl rfl rfl m0 (by exact bM s) (by rw[bM];omega) (by rw[bM];omega)) ?_)|(refine cI [0,1] rfl rfl rfl rfl (rC (.sl 1 u 0 s.size) (eU u s) (by show 1<2;omega) (bf _ _ _)) rfl (r9 r5 (by rw[fB];rfl) m9 (ce (by show 0<2;omega) (by show 1<2;omega)) (bf _ _ _) (fun y hy=>by rcases aqp.1 hy with rfl|hy<;>first|(show 0<2;omega)|cases hy)) rfl (Dv rfl (fB _ _ _) rfl) ?_)|refine gw_ am aX ?_|refine gi_ (fun hb=>?_) (fun hb=>?_)|fail)
 all_goals refine⟨.inr rfl,⟨.inr ⟨.tup [.one (.int .i64 t.size),.one (.nul .iface)],⟨⟨t7,t7,t7⟩,rfl⟩,rfl⟩,⟨[],?_⟩,m5,bv ⟨ce (by show 0<2;omega) (by show 1<2;omega),bf _ _ _,t7⟩,t7⟩⟩
 all_goals (rw[aqI];show [Ob.row _ [[_,SV.sl (0+1) (u+65536) 0 (s.size+(bp t).length)]] 2,Ob.row (u+65536) (bp s++bp t) 1]=_;rw[bM,<- iI,<- ByteArray.size_append];rfl)
theorem aaz (u:Nat)(s:ByteArray)(t:UInt8)(hu:u%65536=5)(hs:s.size<=100000000000000)  : RTz 252 [e_ (.ep 0 (238+65536) 0 0) u s 0,eU u s] [.one (.ep 0 (238+65536) 0 0),.one (.c (.int .u8 t.toNat))] [e_ (.ep 0 (238+65536) 0 0) (u+65536) (s++⟨#[t]⟩) 0,eU (u+65536) (s++⟨#[t]⟩)] (.one (.c (.nul .iface))):=by
 refine bo am Tryz.func252 rfl rfl Tryz.ntmps252 m5 ?_;simp only[ed];unfold e_
 repeat' (first|(refine b7 rfl rfl rfl rfl rfl (dX am (k:=1) (by_:=1) (xs:=bp ⟨#[t]⟩) rfl rfl rfl rfl ⟨rfl,_,rfl,by intro e he;simp at he;subst he;rfl⟩ rfl hu rfl rfl rfl m0 (by exact bM s) (by rw[bM];show(s.size+1)*1<=_;omega) (by rw[bM];show s.size+1<=_;omega)) ?_)|(refine cI [0,1] rfl rfl rfl rfl (rC (.sl 1 u 0 s.size) (eU u s) (by show 1<2;omega) (bf _ _ _)) rfl (r9 r5 (by rw[fB];rfl) m9 (ce (by show 0<2;omega) (by show 1<2;omega)) (bf _ _ _) (fun y hy=>by rcases aqp.1 hy with rfl|hy<;>first|(show 0<2;omega)|cases hy)) rfl (Dv rfl (fB _ _ _) rfl) ?_)|refine gw_ am aX ?_|refine gi_ (fun hb=>?_) (fun hb=>?_)|fail)
 all_goals refine⟨.inr rfl,⟨.inl ⟨4,rfl,rfl⟩,⟨[],?_⟩,m5,bv ⟨ce (by show 0<2;omega) (by show 1<2;omega),bf _ _ _,t7⟩,t7⟩⟩
 all_goals (rw[aqI];show [Ob.row _ [[_,SV.sl (0+1) (u+65536) 0 (s.size+(bp ⟨#[t]⟩).length)]] 2,Ob.row (u+65536) (bp s++bp ⟨#[t]⟩) 1]=_;rw[bM,<- iI,<- ByteArray.size_append];rfl)
theorem ajO (u:Nat)(s:ByteArray)(hu:u%65536=5)(h0:0<s.size)(hs:s.size<=100000000000000):RTz 253 [e_ (.ep 0 (238+65536) 0 0) u s 0,eU u s] [.one (.ep 0 (238+65536) 0 0)] [e_ (.ep 0 (238+65536) 0 0) u s 0,.dead] (.one (.c (.str s))):=by
 refine bo am Tryz.func253 rfl rfl Tryz.ntmps253 m5 ?_;simp only[ed];unfold e_
 repeat' (first|(refine dI rfl rfl rfl rfl rfl (uc rfl rfl h0) ?_)|(refine acl rfl rfl rfl rfl rfl (n_ rfl rfl rfl hu (aX.kind _ _ rfl) ahA h0 m0) ?_)|refine gw_ am aX ?_|refine gi_ (fun hb=>?_) (fun hb=>?_)|fail)
 all_goals exact⟨.inr rfl,⟨.inl ⟨2,rfl,rfl⟩,⟨[],rfl⟩,m5,bv ⟨ce (by show 0<2;omega) (by show 1<2;omega),t7,t7⟩,t7⟩⟩
theorem alf:RTz 253 [e_ (.c (.nul .ptr)) 5 ⟨#[]⟩ 0,eU 5 ⟨#[]⟩] [.one (.ep 0 (238+65536) 0 0)] [e_ (.c (.nul .ptr)) 5 ⟨#[]⟩ 0,eU 5 ⟨#[]⟩] (.one (.c (.str ⟨#[]⟩))):=by
 refine bo am Tryz.func253 rfl rfl Tryz.ntmps253 m5 ?_;simp only[ed];unfold e_
 repeat' (first|(refine dI rfl rfl rfl rfl rfl (rq rfl rfl m9) ?_)|(refine acl rfl rfl rfl rfl rfl (mN rfl rfl) ?_)|refine gw_ am aX ?_|refine gi_ (fun hb=>?_) (fun hb=>?_)|fail)
 all_goals exact⟨.inr rfl,⟨.inl ⟨2,rfl,rfl⟩,⟨[],rfl⟩,m5,bv ⟨ce trivial (by show 1<2;omega),bf _ _ _,t7⟩,t7⟩⟩
end Go.Proofs.YtlcceppoloaecaaGreatDoor
namespace Go.Proofs
open Go.Shelf
def Tryz.laysM171_ren:Go.Shelf.Ren:=⟨fun|171=>251|243=>275|246=>294|283=>301|284=>302|285=>303|286=>304|129=>130|317=>307|318=>308|319=>309|320=>310|337=>311|338=>312|n=>n,fun|3=>3|9=>9|2=>2|4=>4|171=>278|0=>0|53=>145|37=>236|5=>5|173=>280|212=>284|51=>143|20=>20|213=>285|46=>103|232=>286|233=>287|n=>n,fun|17=>1|18=>2|19=>3|n=>n⟩
theorem Tryz.laysM171:Go.Proofs.LaysM.n171 Tryz.prog Tryz.laysM171_ren :={
 mixed:=k7
 f129:=Tryz.func130.trans (congrArg some k7)
 f171:=Tryz.func251.trans (congrArg some k7)
 f243:=Tryz.func275.trans (congrArg some k7)
 f246:=Tryz.func294.trans (congrArg some k7)
 f283:=Tryz.func301.trans (congrArg some k7)
 f284:=Tryz.func302.trans (congrArg some k7)
 f285:=Tryz.func303.trans (congrArg some k7)
 f286:=Tryz.func304.trans (congrArg some k7)
 f317:=Tryz.func307.trans (congrArg some k7)
 f318:=Tryz.func308.trans (congrArg some k7)
 f319:=Tryz.func309.trans (congrArg some k7)
 f320:=Tryz.func310.trans (congrArg some k7)
 f337:=Tryz.func311.trans (congrArg some k7)
 f338:=Tryz.func312.trans (congrArg some k7)
 t0:=Tryz.underlying0
 a0:=Tryz.isAgg0
 z0:=Tryz.sizeOf0
 v0:=Tryz.zeroValue0
 t2:=Tryz.underlying2
 a2:=Tryz.isAgg2
 z2:=Tryz.sizeOf2
 v2:=Tryz.zeroValue2
 t3:=Tryz.underlying3
 a3:=Tryz.isAgg3
 z3:=Tryz.sizeOf3
 v3:=Tryz.zeroValue3
 t4:=Tryz.underlying4
 a4:=Tryz.isAgg4
 z4:=Tryz.sizeOf4
 v4:=Tryz.zeroValue4
 t5:=Tryz.underlying5
 a5:=Tryz.isAgg5
 z5:=Tryz.sizeOf5
 v5:=Tryz.zeroValue5
 t9:=Tryz.underlying9
 a9:=Tryz.isAgg9
 z9:=Tryz.sizeOf9
 v9:=Tryz.zeroValue9
 t20:=Tryz.underlying20
 a20:=Tryz.isAgg20
 z20:=Tryz.sizeOf20
 v20:=Tryz.zeroValue20
 t37:=Tryz.underlying236
 a37:=Tryz.isAgg236
 z37:=Tryz.sizeOf236
 v37:=Tryz.zeroValue236
 t46:=Tryz.underlying103
 a46:=Tryz.isAgg103
 z46:=Tryz.sizeOf103
 v46:=Tryz.zeroValue103
 t51:=Tryz.underlying143
 a51:=Tryz.isAgg143
 z51:=Tryz.sizeOf143
 v51:=Tryz.zeroValue143
 t53:=Tryz.underlying145
 a53:=Tryz.isAgg145
 z53:=Tryz.sizeOf145
 v53:=Tryz.zeroValue145
 t171:=Tryz.underlying278
 a171:=Tryz.isAgg278
 z171:=Tryz.sizeOf278
 v171:=Tryz.zeroValue278
 t173:=Tryz.underlying280
 a173:=Tryz.isAgg280
 z173:=Tryz.sizeOf280
 v173:=Tryz.zeroValue280
 t212:=Tryz.underlying284
 a212:=Tryz.isAgg284
 z212:=Tryz.sizeOf284
 v212:=Tryz.zeroValue284
 t213:=Tryz.underlying285
 a213:=Tryz.isAgg285
 z213:=Tryz.sizeOf285
 t232:=Tryz.underlying286
 a232:=Tryz.isAgg286
 z232:=Tryz.sizeOf286
 v232:=Tryz.zeroValue286
 t233:=Tryz.underlying287
 a233:=Tryz.isAgg287
 z233:=Tryz.sizeOf287
 v233:=Tryz.zeroValue287
 g17:=k7
 g18:=k7
 g19:=k7
 i0:=k7
 i2:=k7
 i3:=k7
 i4:=k7
 i5:=k7
 i9:=k7
 i20:=k7
 i37:=k7
 i46:=k7
 i51:=k7
 i53:=k7
 i171:=k7
 i173:=k7
 i212:=k7
 i232:=k7
 i233:=k7
 m17:=k7
 m18:=k7
 m19:=by kernel_rfl }
end Go.Proofs
namespace Go.Proofs.YtlcceppoloaecaaGreatDoor
open IntKind (i64)
open Go.Shelf Go.RowKit Go.Sort Go.Lib
set_option maxHeartbeats 6400000
set_option maxRecDepth 100000
section
variable {P:Program} {ρ:Ren}
def Nc (g:Nat)(w:World):Prop :=∀ q,q<20->w.cell? ⟨g,q,none⟩=some (.int .u64 ((10 ^ q:Nat):Int))
theorem Nc.alloc {g:Nat}{w:World}(h:Nc g w)(o:Obj):Nc g (w.alloc o):=fun q hq=>by
 rw[World.cell?_alloc_old]
 ·exact h q hq
 ·exact Nat.ne_of_lt (lt_of_cell (h q hq))
abbrev Ff (b:UInt8):Value:=Value.int .u8 (b.toNat:Int)
theorem NI (L:LaysM.n284 P ρ)(u:Nat)(h1:1<=u)(h2:u<18446744073709551616)(w:World)(hT:Nc (ρ.g 17) w) :
  Calls P (ρ.f 284) #[.int .u64 u] w fun e w'=>e = .returned (.int .i64 (Lib.nDigits u))/\w'=w:=by
 have mixed:=L.mixed;have t53:=L.t53;have a53:=L.a53;have z53:=L.z53;have v53:=L.v53;have t3:=L.t3;have a3:=L.a3;have z3:=L.z3;have v3:=L.v3;have t212:=L.t212;have a212:=L.a212;have z212:=L.z212;have v212:=L.v212;have t0:=L.t0;have a0:=L.a0;have z0:=L.z0;have v0:=L.v0;have t4:=L.t4;have a4:=L.a4;have z4:=L.z4;have v4:=L.v4;have e129:∀ args w,(callFunc (ρ.f 129) args).run P w = .ok (.enter (ρ.f 129) args) w:=enters_of L.f129 k7 rfl;have e317:∀ args w,(callFunc (ρ.f 317) args).run P w = .ok (.enter (ρ.f 317) args) w:=enters_of L.f317 k7 rfl;have e318:∀ args w,(callFunc (ρ.f 318) args).run P w = .ok (.enter (ρ.f 318) args) w:=enters_of L.f318 k7 rfl;obtain⟨hnd,h19⟩:=Lib.numDigits_eq u h1 h2;have hL:Lib.bitLen u<=64:=Lib.bitLen_le u 64 (aqo _) h2;have hcell:=hT (Lib.l10 (Lib.bitLen u)) m0;have hto:((u:Int)).toNat=u:=m0
 generalize hq:Lib.l10 (Lib.bitLen u)=q at hnd h19 hcell;generalize hT2:10 ^ q=T at hnd hcell;have h20:q<20:=m0
 have Hnd:=Lib.hid hnd;clear hnd hT
 go_enter L.f284,Body.n284_ntmps ρ
 go_wp2_with (first
  |(go_at_fn (ρ.f 129);refine(Any.bits_Len64 { L with } _ _ m0 m0).mono ?_;rintro e w' ⟨rfl,rfl⟩)
  |(go_at_fn (ρ.f 317);refine(Any.internal_strconv_log10Pow2 { L with } _ (by first|exact hL|(rw[hto];exact hL)) _).mono ?_;rintro e w' ⟨rfl,rfl⟩)
  |(go_at_fn (ρ.f 318);refine(Any.internal_strconv_bool2_int { L with } _ _).mono ?_;rintro e w' ⟨rfl,rfl⟩))
 all_goals go_ret
 all_goals (
  refine⟨?_,rfl⟩;have hnd:=Hnd.out;congr 2;split at hnd<;>simp_all<;>omega)
theorem NH (L:LaysM.n246 P ρ)(n:Int)(h0 : -9223372036854775808<=n)(h1:n<=9223372036854775807)(w:World)(hT:Nc (ρ.g 17) w) :
  Calls P (ρ.f 246) #[.int .i64 n,.int .i64 10] w fun e w'=>e = .returned (.string ⟨(Lib.itoa n).toArray⟩) /\ ∃ k os,w'=grow (w.drewN k) os:=by
 by_cases hs:0<=n/\n<100
 ·obtain⟨i,rfl⟩:∃ i:Nat,n=i:=⟨n.toNat,m0⟩
  refine(Any.internal_strconv_FormatInt_10_small { L with } i m0 w).mono ?_;rintro e w' ⟨rfl,rfl⟩;exact⟨by rw[Lib.itoa_nonneg],0,#[],by simp[World.drewN_zero]⟩
 have mixed:=L.mixed;have t2:=L.t2;have a2:=L.a2;have z2:=L.z2;have v2:=L.v2;have t3:=L.t3;have a3:=L.a3;have z3:=L.z3;have v3:=L.v3;have t9:=L.t9;have a9:=L.a9;have z9:=L.z9;have v9:=L.v9;have t4:=L.t4;have a4:=L.a4;have z4:=L.z4;have v4:=L.v4;have t171:=L.t171;have a171:=L.a171;have z171:=L.z171;have v171:=L.v171;have t0:=L.t0;have a0:=L.a0;have z0:=L.z0;have v0:=L.v0;have t53:=L.t53;have a53:=L.a53;have z53:=L.z53;have v53:=L.v53;have t37:=L.t37;have a37:=L.a37;have z37:=L.z37;have v37:=L.v37;have t5:=L.t5;have a5:=L.a5;have z5:=L.z5;have v5:=L.v5;have t173:=L.t173;have a173:=L.a173;have z173:=L.z173;have v173:=L.v173;have e284:∀ args w,(callFunc (ρ.f 284) args).run P w = .ok (.enter (ρ.f 284) args) w:=enters_of L.f284 k7 rfl;have e285:∀ args w,(callFunc (ρ.f 285) args).run P w = .ok (.enter (ρ.f 285) args) w:=enters_of L.f285 k7 rfl;obtain⟨u,hu⟩:∃ u:Nat,u=n.natAbs:=⟨_,rfl⟩;have hu1:1<=u:=m0
 have hu64:u<18446744073709551616:=m0
 have hd20:Lib.nDigits u<=20:=by have:=Lib.numDigits_eq u hu1 hu64;split at this<;>omega
 have hb3:Lib.nDigits u<=23:=m0
 have hal:P.arrayLen (ρ.t 171)=24:=by simp[Program.arrayLen,L.t171]
 have hel:P.underlying (ρ.t 171)=some (.array (P.arrayLen (ρ.t 171)) (P.elem (ρ.t 171))):=by simp[Program.arrayLen,Program.elem,L.t171]
 have hsl1:∀ W,(Instr.sliceAt (ρ.t 171) (.pointer (some ⟨w.heap.size,0,none⟩)) (some (.int .i64 1)) (some (.int .i64 (1+(Lib.nDigits u:Int)))) none).run P W = .ok (.slice (some ⟨w.heap.size,1,none⟩) (Lib.nDigits u) 23) W:=fun W=>by
  rw[run_sliceAt_array_lh W (ρ.t 171) ⟨w.heap.size,0,none⟩ hel .i64 .i64 1 (1+(Lib.nDigits u:Int)) m0 m0 (by rw[hal];omega)]
  go_simp
  omega
 have hsl2:∀ W,(Instr.sliceAt (ρ.t 171) (.pointer (some ⟨w.heap.size,0,none⟩)) none (some (.int .i64 (1+(Lib.nDigits u:Int)))) none).run P W = .ok (.slice (some ⟨w.heap.size,0,none⟩) (1+Lib.nDigits u) 24) W:=fun W=>by
  rw[run_sliceAt_array_h W (ρ.t 171) ⟨w.heap.size,0,none⟩ hel .i64 (1+(Lib.nDigits u:Int)) m0 (by rw[hal];omega)]
  go_simp
  omega
 have hH0:=Lib.holds_zero w (ρ.t 171) (Lib.nDigits u) m0;have hfmt:=Any.internal_strconv_formatBase10 { L with } w.heap.size 1 23 u (Array.replicate (Lib.nDigits u) 0) (w.alloc (.cells Lib.zeros24 (ρ.t 171))) hH0 (by rw[Array.size_replicate];exact Lib.lt_pow_nDigits u) hu64 (by rw[Array.size_replicate];omega);rw[Array.size_replicate]at hfmt;have HH0:=Lib.hid hH0;have hT1:=hT.alloc (.cells Lib.zeros24 (ρ.t 171));have hdig:=NI (ρ:=ρ) { L with } u hu1 hu64 _ hT1;clear hH0 hT hT1 hal hel;by_cases hn:n<0
 ·have hw:IntKind.u64.wrap (-IntKind.u64.wrap (-(u:Int)))=(u:Int):=by rw[IntKind.wrap_u64,IntKind.wrap_u64];omega
  obtain rfl:n = -(u:Int):=m0
  clear hs hu
  go_enter L.f246,Body.n246_ntmps ρ
  go_wp2_with (go_at_fn (ρ.f 284);refine hdig.mono ?_;rintro e w' ⟨rfl,rfl⟩)
  go_at_fn (ρ.f 285)
  refine hfmt.mono ?_;rintro e w' ⟨rfl,k,v',dk,rfl,hF⟩;have hc0:((putRow Ff (w.alloc (.cells Lib.zeros24 (ρ.t 171))) w.heap.size 1 dk).drewN k).cell? ⟨w.heap.size,0,none⟩=some (.int .u8 0):=by
   rw[World.cell?_drewN,cell?_putRow_other _ _ _ _ _ _ (Or.inr (Or.inl (Nat.zero_lt_one))),World.cell?_alloc_new];exact Lib.zeros24_at 0 m0
  have hf0:((putRow Ff (w.alloc (.cells Lib.zeros24 (ρ.t 171))) w.heap.size 1 dk).drewN k).frozen? ⟨w.heap.size,0,none⟩=false:=by
   rw[World.frozen?_drewN,frozen?_putRow];exact World.frozen?_alloc_new _ _ _ _
  have hcv:(convert (ρ.t 37) (ρ.t 9) (.slice (some ⟨w.heap.size,0,none⟩) (1+Lib.nDigits u) 24)).run P (((putRow Ff (w.alloc (.cells Lib.zeros24 (ρ.t 171))) w.heap.size 1 dk).drewN k).setCell ⟨w.heap.size,0,none⟩ (.int .u8 45)) = .ok (.string ⟨(45::Lib.decDigits u).toArray⟩) (((putRow Ff (w.alloc (.cells Lib.zeros24 (ρ.t 171))) w.heap.size 1 dk).drewN k).setCell ⟨w.heap.size,0,none⟩ (.int .u8 45)):=by
   have h:=run_convert_bytes_back (P:=P) (((putRow Ff (w.alloc (.cells Lib.zeros24 (ρ.t 171))) w.heap.size 1 dk).drewN k).setCell ⟨w.heap.size,0,none⟩ (.int .u8 45)) (ρ.t 37) (ρ.t 9) (ρ.t 5) ⟨w.heap.size,0,none⟩ 24 (45::Lib.decDigits u) L.t37 L.t5 L.t9 (fun j hj=>by
    rw[Lib.add_plain]
    cases j with
    |zero=>exact World.cell?_setCell_same _ _ _ hc0
    |succ i =>
     have hi:i<(Lib.decDigits u).length:=by simpa using hj
     rw[World.cell?_setCell_other _ _ _ _ m5,List.getElem_cons_succ,Lib.row_is_numeral hF i hi,World.cell?_drewN,show 0+(i+1)=1+i by omega];exact cell?_putRow Ff _ w.heap.size 1 _ dk HH0.out (by rw[hF.size,Array.size_replicate]) i (by rw[hF.size];rw[Lib.decDigits_length]at hi;exact hi))
   rw[aqv,Lib.decDigits_length,Nat.add_comm]at h;exact h
  go_wp2
  go_ret
  obtain⟨os,eo⟩:=Lib.fin_neg w (.cells Lib.zeros24 (ρ.t 171)) dk k (.int .u8 45);exact⟨by rw[Lib.itoa_neg u hu1];rfl,k,os,eo⟩
 ·obtain rfl:n=(u:Int):=m0
  clear hu hsl2
  go_enter L.f246,Body.n246_ntmps ρ
  go_wp2_with (go_at_fn (ρ.f 284);refine hdig.mono ?_;rintro e w' ⟨rfl,rfl⟩)
  go_at_fn (ρ.f 285)
  refine hfmt.mono ?_;rintro e w' ⟨rfl,k,v',dk,rfl,hF⟩;have hcv:(convert (ρ.t 37) (ρ.t 9) (.slice (some ⟨w.heap.size,1,none⟩) (Lib.nDigits u) 23)).run P ((putRow Ff (w.alloc (.cells Lib.zeros24 (ρ.t 171))) w.heap.size 1 dk).drewN k) = .ok (.string ⟨(Lib.decDigits u).toArray⟩) ((putRow Ff (w.alloc (.cells Lib.zeros24 (ρ.t 171))) w.heap.size 1 dk).drewN k):=by
   have h:=run_convert_bytes_back (P:=P) ((putRow Ff (w.alloc (.cells Lib.zeros24 (ρ.t 171))) w.heap.size 1 dk).drewN k) (ρ.t 37) (ρ.t 9) (ρ.t 5) ⟨w.heap.size,1,none⟩ 23 (Lib.decDigits u) L.t37 L.t5 L.t9 (fun j hj=>by
    rw[Lib.row_is_numeral hF j hj,Lib.add_plain,World.cell?_drewN];exact cell?_putRow Ff _ w.heap.size 1 _ dk HH0.out (by rw[hF.size,Array.size_replicate]) j (by rw[hF.size];rw[Lib.decDigits_length]at hj;exact hj))
   rw[Lib.decDigits_length]at h;exact h
  go_wp2
  go_ret
  obtain⟨os,eo⟩:=Lib.fin_pos w (.cells Lib.zeros24 (ρ.t 171)) dk k;exact⟨by rw[Lib.itoa_nonneg];rfl,k,os,eo⟩
theorem ajE (L:LaysM.n243 P ρ)(n:Int)(h0 : -9223372036854775808<=n)(h1:n<=9223372036854775807)(w:World)(hT:Nc (ρ.g 17) w) :
  Calls P (ρ.f 243) #[.int .i64 n] w fun e w'=>e = .returned (.string ⟨(Lib.itoa n).toArray⟩) /\ ∃ k os,w'=grow (w.drewN k) os:=by
 have mixed:=L.mixed;have t3:=L.t3;have a3:=L.a3;have z3:=L.z3;have v3:=L.v3;have t9:=L.t9;have a9:=L.a9;have z9:=L.z9;have v9:=L.v9;have e246:∀ args w,(callFunc (ρ.f 246) args).run P w = .ok (.enter (ρ.f 246) args) w:=enters_of L.f246 k7 rfl;have hf:=NH (ρ:=ρ) { L with } n h0 h1 w hT
 go_enter L.f243,Body.n243_ntmps ρ
 go_wp2_with (go_at_fn (ρ.f 246);refine hf.mono ?_;rintro e w' ⟨rfl,k,os,rfl⟩)
 go_ret
 exact⟨rfl,k,os,rfl⟩
theorem amG (L:LaysM.n171 P ρ)(n:Int)(h0 : -9223372036854775808<=n)(h1:n<=9223372036854775807)(w:World)(hT:Nc (ρ.g 17) w) :
  Calls P (ρ.f 171) #[.int .i64 n] w fun e w'=>e = .returned (.string ⟨(Lib.itoa n).toArray⟩) /\ ∃ k os,w'=grow (w.drewN k) os:=by
 have mixed:=L.mixed;have t3:=L.t3;have a3:=L.a3;have z3:=L.z3;have v3:=L.v3;have t9:=L.t9;have a9:=L.a9;have z9:=L.z9;have v9:=L.v9;have e243:∀ args w,(callFunc (ρ.f 243) args).run P w = .ok (.enter (ρ.f 243) args) w:=enters_of L.f243 k7 rfl;have hf:=ajE (ρ:=ρ) { L with } n h0 h1 w hT
 go_enter L.f171,Body.n171_ntmps ρ
 go_wp2_with (go_at_fn (ρ.f 243);refine hf.mono ?_;rintro e w' ⟨rfl,k,os,rfl⟩)
 go_ret
 exact⟨rfl,k,os,rfl⟩
end
def iT (n:Int):ByteArray:=⟨(Lib.itoa n).toArray⟩
theorem Ou (R:PH)(w:World)(k:Nat)(os:Array Obj):Ext (· <w.heap.size) R R w (grow (w.drewN k) os):=by
 exact⟨Kept.of (Lib.below_grow _ w (aqo _) k os),PH.sub_refl _,fun _ _ _=>rfl⟩
theorem afy (n:Int)(h0 : -9223372036854775808<=n)(h1:n<=9223372036854775807):PTz 251 [.one (.int .i64 n)] (.val (.one (.str (iT n)))):=by
 refine⟨⟨_,Tryz.func251,k7,k7⟩,fun R w vs hR hs hv=>?_⟩;obtain⟨v,rfl⟩:∃ v,vs=#[v]:=by
  match vs,hs with
  |⟨[v]⟩,_=>exact⟨v,rfl⟩
 have:=hv 0 v _ rfl rfl
 cases this;have hT:Nc (Tryz.laysM171_ren.g 17) w:=fun q hq=>hR _ _ _ (R.tab q _ (by unfold sI;rw[if_pos hq];norm_cast))
 refine(show Calls Tryz.prog 251 #[.int .i64 n] w _ from amG Tryz.laysM171 n h0 h1 w hT).mono ?_;rintro e w' ⟨rfl,k,os,rfl⟩;refine⟨_,R,rfl,Ou R w k os,fun b o u h=>?_,.str _⟩;have h1:=hR b o u h;rw[<- h1];unfold World.cell?;rw[show(grow (w.drewN k) os).heap[b]?=w.heap[b]? from(Ou R w k os).below.block b (lt_of_cell h1)]
open Go.RowKit Go.MapKept
def anY:TI :={ aa2 with dyn:=false }
theorem gR:TIok Tryz.prog anY:=⟨am.size,am.agg,am.elem,am.field,am.zero,am.bytes,am.kind,am.struct,am.zok,am.eqs⟩
def anH:TI :={ anY with soft:=true }
theorem fH:TIok Tryz.prog anH:=⟨am.size,am.agg,am.elem,am.field,am.zero,am.bytes,am.kind,am.struct,am.zok,am.eqs⟩
def c32:ByteArray:=⟨#[32]⟩
def vZ (v:Val):List Int:=[v.kind,v.int,v.text.size]
def jm (a:ByteArray)(l:List Int):ByteArray:=l.foldl (fun a n=>a++iT n++c32) a
def cH (l:List Val):ByteArray:=l.foldl (fun a v=>jm a (vZ v)++v.text) ⟨#[]⟩
theorem HB (l:List Val)(v:Val):cH (l++[v])=jm (cH l) (vZ v)++v.text:=by unfold cH;rw[List.foldl_append];rfl
theorem aeY (a:ByteArray)(l:List Int)(n:Int):jm a (l++[n])=jm a l++iT n++c32:=by unfold jm;rw[List.foldl_append];rfl
def VOK (v:Val):Prop:=(-9223372036854775808<=v.kind/\v.kind<=9223372036854775807)/\(-9223372036854775808<=v.int/\v.int<=9223372036854775807)/\v.text.size<=10000000000
theorem uu (n:Int)(h0 : -9223372036854775808<=n)(h1:n<=9223372036854775807):(iT n).size<=30/\0<(iT n).size:=by
 unfold iT;show(Lib.itoa n).toArray.size<=30/\0<(Lib.itoa n).toArray.size;rw[List.size_toArray];have key:∀ u:Nat,u<18446744073709551616->Lib.nDigits u<=20:=by
  intro u h;rcases Nat.eq_zero_or_pos u with rfl|h1
  ·rw[Lib.nDigits_small m0];omega
  ·have:=Lib.numDigits_eq u h1 h;split at this<;>omega
 by_cases hn:n<0
 ·obtain⟨u,rfl⟩:∃ u:Nat,n = -(u:Int):=⟨n.natAbs,m0⟩
  rw[Lib.itoa_neg u m0,aqv,Lib.decDigits_length];have:=key u m0;omega
 ·obtain⟨u,rfl⟩:∃ u:Nat,n=(u:Int):=⟨n.toNat,m0⟩
  rw[Lib.itoa_nonneg,Lib.decDigits_length];have:=key u m0;have:=Lib.nDigits_pos u;omega
theorem tB:∀ (l:List Int) (a:ByteArray),(∀ n∈l,-9223372036854775808<=n/\n<=9223372036854775807)->(jm a l).size<=a.size+31*l.length
 |[],a,_=>by simp[jm]
 |n::l,a,h=>by
  have h1:=tB l (a++iT n++c32) fun x hx=>h x (aqx _ hx)
  have h2:=(uu n (h n m5).1 (h n m5).2).1;have hc:c32.size=1:=rfl;have e:jm a (n::l)=jm (a++iT n++c32) l:=rfl;rw[e];simp only[ByteArray.size_append,hc]at h1;rw[aqv];omega
theorem aeu (l:List Val)(h:∀ v∈l,VOK v):(cH l).size<=l.length*10000000100:=by
 have key:∀ (l:List Val) (a:ByteArray),(∀ v∈l,VOK v)->(l.foldl (fun a v=>jm a (vZ v)++v.text) a).size<=a.size+l.length*10000000100:=by
  intro l
  induction l with
  |nil=>intro a _;simp
  |cons v l ih =>
   intro a h;obtain⟨h1,h2,h3⟩:=h v m5;rw[aqZ];have q1:=ih (jm a (vZ v)++v.text) fun x hx=>h x (aqx _ hx)
   have q2:=tB (vZ v) a (by
    intro n hn;simp only[vZ,aqp,List.not_mem_nil,or_false]at hn;rcases hn with rfl|rfl|rfl
    ·exact h1
    ·exact h2
    ·omega)
   have e3:(vZ v).length=3:=rfl;simp only[ByteArray.size_append]at q1;rw[aqv];omega
 have:=key l ⟨#[]⟩ h;have e:(⟨#[]⟩:ByteArray).size=0:=rfl;rw[e,aqR]at this;exact this
def pB (fresh:Bool):SV:=if fresh then .c (.nul .ptr)else(.ep 0 (238+65536) 0 0)
theorem amF (b:Bool):(pB b).ren [0,1]=pB b:=by cases b<;>rfl
theorem EY (b:Bool){n:Nat}(h:0<n):(pB b).below n:=by cases b<;>first|exact h|exact True.intro
theorem J4 (b:Bool)(u:Nat)(s t:ByteArray)(hu:u%65536=5)(hs:s.size<=100000000000000)(ht:t.size<=1000000000000):RTz 250 [e_ (pB b) u s 0,eU u s] [.one (.ep 0 (238+65536) 0 0),.one (.c (.str t))] [e_ (.ep 0 (238+65536) 0 0) (u+65536) (s++t) 0,eU (u+65536) (s++t)] (.tup [.one (.int .i64 t.size),.one (.nul .iface)]):=by
 cases b
 ·exact xk u s t hu hs ht
 ·exact Jx u s t hu hs ht
theorem rf2 {L:List Ob}{p:SV}{u:Nat}{s:ByteArray}{x:AV}{xs:List AV}(hL0:L[0]?=some (e_ p u s 0))(hL1:L[1]?=some (eU u s))(hp:p.ren [0,1]=p)(hpb:p.below 2)(hx:∀ y∈x::xs,y.below 2):fS [0,1] [e_ p u s 0,eU u s] (x::xs) L:=by
 refine r9 ?_ (by rw[fB];exact hL1) m9 (ce hpb (by show 1<2;omega)) (bf _ _ _) hx;rw[hL0];show some (Ob.row _ [[p,SV.sl 1 u 0 s.size]] 2)=some (Ob.row _ [[p.ren [0,1],SV.sl 1 u 0 s.size]] 2);rw[hp]
theorem j2 {L L':List Ob}{u:Nat}{s:ByteArray}(h:(L.set 0 (e_ (.ep 0 (238+65536) 0 0) u s 0)).set 1 (eU u s)=L'):joinL [0,1] L [e_ (.ep 0 (238+65536) 0 0) u s 0,eU u s]=L':=Dv rfl (fB _ _ _) h
def BC (l:List Val)(i:Nat):List Ob:=[e_ (pB (decide (i=0))) (5+458752*i) (cH (l.take i)) 0,eU (5+458752*i) (cH (l.take i))]
def DG (u:Nat)(a:ByteArray)(f:Bool)(ns:List Int)(bx:Ob)(j:Nat):List Ob:=[e_ (pB (f&&decide (j=0))) (u+131072*j) (jm a (ns.take j)) 0,eU (u+131072*j) (jm a (ns.take j)),bx]
set_option maxHeartbeats 4000000 in
theorem afi (l:List Val)(hl:l.length<=1000)(h:∀ v∈l,VOK v):PTz 237 [.one (b8 l)] (.val (.one (.str (cH l)))):=by
 refine pa_ gR Tryz.func237 rfl rfl Tryz.ntmps237 m5 ?_;simp only[argT,PV.av,aqj,aqn];obtain⟨inf,hinf,hiz⟩:∃ inf,Tryz.prog.info? 238=some inf/\inf.zero=some (.agg #[.pointer none,.slice none 0 0]):=by
  have hh:(Tryz.prog.info? 238).bind (·.zero)=some (.agg #[.pointer none,.slice none 0 0]):=k7
  cases hi:Tryz.prog.info? 238 with
  |none=>rw[hi]at hh;cases hh
  |some j=>rw[hi]at hh;exact⟨j,rfl,by simpa using hh⟩
 have hc:c32.size=1:=rfl;have he0:(⟨#[]⟩:ByteArray).size=0:=rfl;obtain⟨n,hn⟩:∃ n,l.length=n:=⟨_,rfl⟩
 repeat' (first|(refine b7 rfl rfl rfl rfl rfl (oo (Eb:=5) (k:=1) hinf hiz m9 m9 m9) ?_)|refine gw_ gR fH ?_|refine gi_ (fun hb=>?_) (fun hb=>?_)|fail)
 refine cA (fun i:Nat=>[(0,.one (.c (b8 l))),(3,.one (.ep 0 (238+65536) 0 0)),(8,.one (.c (b8 l))),(9,.one (.c (.int .i64 n))),(10,.one (.c (.int .i64 i)))]) (fun i=>BC l i) (fun i=>i<=n) (fun i=>n-i) 0 m0 (fun _ _=>aqu _)
  (fm_ ⟨rfl,rfl,rfl,aT (by simp[hn]),rfl,t7⟩ [] rfl ⟨t7,(by show 0<2;omega),t7,t7,t7,t7⟩ ⟨ce (EY _ (by show 0<2;omega)) (by show 1<2;omega),bf _ _ _,t7⟩) ?_
 intro i hi;have hsz:=aeu (l.take i) fun v hv=>h v (aq6 hv)
 rw[aq0]at hsz;by_cases hlt2:i<n
 ·obtain⟨v,hv⟩:=gol_ (show i<l.length by omega)
  obtain⟨k1,k2,k3⟩:=h v (aqe hv);have hsn:=HB (l.take i) v;rw[<- bO hv]at hsn;have hu:(5+458752*i)%65536=5:=m0
  have e0:BC l i=[e_ (pB (decide (i=0))) (5+458752*i) (cH (l.take i)) 0,eU (5+458752*i) (cH (l.take i))]:=rfl;rw[e0];generalize cH (l.take i)=a0 at hsz hsn;obtain⟨kd,nn,tx⟩:=v;simp only at k1 k2 k3
  repeat' (first|(refine bB rfl rfl rfl rfl rfl rfl rfl rfl (bq hv) ?_ ?_;· exact⟨m0,rfl⟩)|refine gw_ gR fH ?_|refine gi_ (fun hb=>?_) (fun hb=>?_)|fail)
  refine cA (fun j:Nat=>[(0,.one (.c (b8 l))),(3,.one (.ep 0 (238+65536) 0 0)),(5,.one (.ptr 2 0)),(8,.one (.c (b8 l))),(9,.one (.c (.int .i64 n))),(10,.one (.c (.int .i64 i))),(21,.one (.c (.lst ([kd,nn,(tx.size:Int)].map fun x=>[AC.int .i64 x])))),(22,.one (.c (.int .i64 3))),(23,.one (.c (.int .i64 j)))]) (fun j=>DG (5+458752*i) a0 (decide (i=0)) [kd,nn,tx.size] (.box [.c (.int .i64 kd),.c (.int .i64 nn),.c (.str tx)]) j) (fun j=>j<=3) (fun j=>3-j) 0 m0 (fun _ _=>aqu _)
   (fm_ ⟨rfl,rfl,rfl,rfl,rfl,rfl,rfl,rfl,rfl,t7⟩ [] ?_ ⟨t7,(by show 0<3;omega),(by show 2<3;omega),t7,t7,t7,t7,t7,t7,t7⟩ ⟨ce (EY _ (by show 0<3;omega)) (by show 1<3;omega),bf _ _ _,gH r5,t7⟩) ?_
  ·simp only[DG,Nat.mul_zero,Nat.add_zero,List.take_zero,decide_true,Bool.and_true];rfl
  intro j hj;by_cases hj3:j<3
  ·obtain⟨x,hx⟩:=gol_ (show j<[kd,nn,(tx.size:Int)].length by exact hj3)
   have hxr : -9223372036854775808<=x/\x<=9223372036854775807:=by
    have:=aqe hx;simp only[aqp,List.not_mem_nil,or_false]at this;rcases this with rfl|rfl|rfl
    ·exact k1
    ·exact k2
    ·omega
   have hit:=afy x hxr.1 hxr.2
   repeat' (first|(refine bB rfl rfl rfl rfl rfl rfl rfl rfl (bq hx) ?_ ?_;· exact⟨m0,rfl⟩)|refine aM rfl rfl rfl rfl hit rfl ?_|refine gw_ gR fH ?_|refine gi_ (fun hb=>?_) (fun hb=>?_)|fail)
   have hitz:=uu x hxr.1 hxr.2;have hns:=tB ([kd,nn,(tx.size:Int)].take j) a0 (by
    intro y hy;have:=aq6 hy;simp only[aqp,List.not_mem_nil,or_false]at this;rcases this with rfl|rfl|rfl
    ·exact k1
    ·exact k2
    ·omega)
   have hl3:([kd,nn,(tx.size:Int)].take j).length<=3:=by rw[aq0];exact Nat.le_trans (Nat.min_le_right _ _) (aqo _)
   have hsj:=aeY a0 ([kd,nn,(tx.size:Int)].take j) x;rw[<- bO hx]at hsj;have hu2:(5+458752*i+131072*j)%65536=5:=m0
   have eC:DG (5+458752*i) a0 (decide (i=0)) [kd,nn,(tx.size:Int)] (.box [.c (.int .i64 kd),.c (.int .i64 nn),.c (.str tx)]) j=[e_ (pB (decide (i=0)&&decide (j=0))) (5+458752*i+131072*j) (jm a0 ([kd,nn,(tx.size:Int)].take j)) 0,eU (5+458752*i+131072*j) (jm a0 ([kd,nn,(tx.size:Int)].take j)),(.box [.c (.int .i64 kd),.c (.int .i64 nn),.c (.str tx)])]:=rfl;have eC2:DG (5+458752*i) a0 (decide (i=0)) [kd,nn,(tx.size:Int)] (.box [.c (.int .i64 kd),.c (.int .i64 nn),.c (.str tx)]) (j+1)=[e_ (.ep 0 (238+65536) 0 0) (5+458752*i+131072*j+65536+65536) (jm a0 ([kd,nn,(tx.size:Int)].take j)++iT x++c32) 0,eU (5+458752*i+131072*j+65536+65536) (jm a0 ([kd,nn,(tx.size:Int)].take j)++iT x++c32),(.box [.c (.int .i64 kd),.c (.int .i64 nn),.c (.str tx)])]:=by
    unfold DG;rw[hsj,show decide (j+1=0)=false by simp,Bool.and_false,show 5+458752*i+131072*(j+1)=5+458752*i+131072*j+65536+65536 by omega];rfl
   rw[eC];generalize jm a0 ([kd,nn,(tx.size:Int)].take j)=b0 at hns eC2;generalize 5+458752*i+131072*j=u0 at hu2 eC2;generalize hB1:iT x=b1 at hitz eC2;refine cI [0,1] rfl rfl rfl rfl (J4 _ u0 b0 b1 hu2 m0 m0) rfl (rf2 rfl rfl (amF _) (EY _ (by show 0<2;omega)) (fun y hy=>by rcases aqp.1 hy with rfl|hy<;>first|(show 0<2;omega)|(rcases aqp.1 hy with rfl|hy<;>first|exact True.intro|cases hy)|cases hy)) rfl (j2 (L':=[e_ (.ep 0 (238+65536) 0 0) (u0+65536) (b0++b1) 0,eU (u0+65536) (b0++b1),(.box [.c (.int .i64 kd),.c (.int .i64 nn),.c (.str tx)])]) rfl) ?_
   repeat' (first|refine gw_ gR fH ?_|refine gi_ (fun hb=>?_) (fun hb=>?_)|fail)
   refine cI [0,1] rfl rfl rfl rfl (aaz (u0+65536) (b0++b1) 32 m0 (by simp only[ByteArray.size_append];omega)) rfl (rf2 rfl rfl rfl (by show 0<2;omega) (fun y hy=>by rcases aqp.1 hy with rfl|hy<;>first|(show 0<2;omega)|(rcases aqp.1 hy with rfl|hy<;>first|exact True.intro|cases hy)|cases hy)) rfl (j2 (L':=[e_ (.ep 0 (238+65536) 0 0) (u0+65536+65536) (b0++b1++c32) 0,eU (u0+65536+65536) (b0++b1++c32),(.box [.c (.int .i64 kd),.c (.int .i64 nn),.c (.str tx)])]) rfl) ?_
   repeat' (first|refine gw_ gR fH ?_|refine gi_ (fun hb=>?_) (fun hb=>?_)|fail)
   exact⟨j+1,m0,m0,fm_ ⟨rfl,rfl,rfl,rfl,rfl,rfl,rfl,rfl,aT (a7 m0 m0),t7⟩ [] (by rw[eC2];rfl) (by rw[eC2];exact⟨t7,(by show 0<3;omega),(by show 2<3;omega),t7,t7,t7,t7,t7,t7,t7⟩) (by rw[eC2];exact⟨ce (by show 0<3;omega) (by show 1<3;omega),bf _ _ _,gH r5,t7⟩)⟩
  ·have hj4:j=3:=m0
   subst hj4;have hns:=tB [kd,nn,(tx.size:Int)] a0 (by
    intro y hy;simp only[aqp,List.not_mem_nil,or_false]at hy;rcases hy with rfl|rfl|rfl
    ·exact k1
    ·exact k2
    ·omega)
   have hl3:[kd,nn,(tx.size:Int)].length=3:=rfl;have eC:DG (5+458752*i) a0 (decide (i=0)) [kd,nn,(tx.size:Int)] (.box [.c (.int .i64 kd),.c (.int .i64 nn),.c (.str tx)]) 3=[e_ (.ep 0 (238+65536) 0 0) (5+458752*i+393216) (jm a0 [kd,nn,(tx.size:Int)]) 0,eU (5+458752*i+393216) (jm a0 [kd,nn,(tx.size:Int)]),(.box [.c (.int .i64 kd),.c (.int .i64 nn),.c (.str tx)])]:=by
    unfold DG;rw[show decide (3=0)=false by simp,Bool.and_false];rfl
   have eN:BC l (i+1)=[e_ (.ep 0 (238+65536) 0 0) (5+458752*i+393216+65536) (jm a0 [kd,nn,(tx.size:Int)]++tx) 0,eU (5+458752*i+393216+65536) (jm a0 [kd,nn,(tx.size:Int)]++tx)]:=by
    unfold BC;rw[hsn,show decide (i+1=0)=false by simp,show 5+458752*(i+1)=5+458752*i+393216+65536 by omega];rfl
   rw[eC];generalize jm a0 [kd,nn,(tx.size:Int)]=b0 at hns eN;have hu2:(5+458752*i+393216)%65536=5:=m0
   generalize 5+458752*i+393216=u0 at hu2 eN
   repeat' (first|refine gw_ gR fH ?_|refine gi_ (fun hb=>?_) (fun hb=>?_)|fail)
   refine cI [0,1] rfl rfl rfl rfl (xk u0 b0 tx hu2 m0 m0) rfl (rf2 rfl rfl rfl (by show 0<2;omega) (fun y hy=>by rcases aqp.1 hy with rfl|hy<;>first|(show 0<2;omega)|(rcases aqp.1 hy with rfl|hy<;>first|exact True.intro|cases hy)|cases hy)) rfl (j2 (L':=[e_ (.ep 0 (238+65536) 0 0) (u0+65536) (b0++tx) 0,eU (u0+65536) (b0++tx),(.box [.c (.int .i64 kd),.c (.int .i64 nn),.c (.str tx)])]) rfl) ?_
   repeat' (first|refine gw_ gR fH ?_|refine gi_ (fun hb=>?_) (fun hb=>?_)|fail)
   exact⟨i+1,m0,m0,fm_ ⟨rfl,rfl,rfl,rfl,aT (a7 m0 m0),t7⟩ [(.box [.c (.int .i64 kd),.c (.int .i64 nn),.c (.str tx)])] (by rw[eN];rfl) (by rw[eN];exact⟨t7,(by show 0<2;omega),t7,t7,t7,t7⟩) (by rw[eN];exact⟨ce (by show 0<2;omega) (by show 1<2;omega),bf _ _ _,t7⟩)⟩
 ·have hi2:i=l.length:=m0
  have htk:l.take i=l:=by rw[hi2,List.take_length]
  by_cases hi0:i=0
  ·subst hi0
   have hnil:l=[]:=aqz hi2.symm;subst hnil;have e0:BC [] 0=[e_ (.c (.nul .ptr)) 5 ⟨#[]⟩ 0,eU 5 ⟨#[]⟩]:=rfl;rw[e0]
   repeat' (first|refine gw_ gR fH ?_|refine gi_ (fun hb=>?_) (fun hb=>?_)|fail)
   refine cI [0,1] rfl rfl rfl rfl alf rfl (rf2 rfl rfl rfl True.intro (fun y hy=>by rcases aqp.1 hy with rfl|hy<;>first|(show 0<2;omega)|(rcases aqp.1 hy with rfl|hy<;>first|exact True.intro|cases hy)|cases hy)) rfl (Dv rfl (fB _ _ _) (L':=[e_ (.c (.nul .ptr)) 5 ⟨#[]⟩ 0,eU 5 ⟨#[]⟩]) rfl) ?_
   repeat' (first|refine gw_ gR fH ?_|refine gi_ (fun hb=>?_) (fun hb=>?_)|fail)
   exact aZ (bg rfl (by trivial) rfl)
  ·have e1:BC l i=[e_ (.ep 0 (238+65536) 0 0) (5+458752*i) (cH l) 0,eU (5+458752*i) (cH l)]:=by unfold BC;rw[htk,show decide (i=0)=false by simpa using hi0];rfl
   rw[e1];rw[htk]at hsz;have hu:(5+458752*i)%65536=5:=m0
   generalize 5+458752*i=u0 at hu;have hpos:0<(cH l).size:=by
    obtain⟨v,hv⟩:=gol_ (show i-1<l.length by omega);have hsn:=HB (l.take (i-1)) v;rw[<- bO hv,show i-1+1=i by omega,htk]at hsn;obtain⟨q1,q2,q3⟩:=h v (aqe hv);have:=(uu v.kind q1.1 q1.2).2;rw[hsn];show 0<(jm (cH (List.take (i-1) l)) [v.kind,v.int,(v.text.size:Int)]++v.text).size;have e3:jm (cH (List.take (i-1) l)) [v.kind,v.int,(v.text.size:Int)]=cH (List.take (i-1) l)++iT v.kind++c32++iT v.int++c32++iT v.text.size++c32:=rfl;rw[e3];simp only[ByteArray.size_append];omega
   generalize cH l=s0 at hsz hpos
   repeat' (first|refine gw_ gR fH ?_|refine gi_ (fun hb=>?_) (fun hb=>?_)|fail)
   refine cI [0,1] rfl rfl rfl rfl (ajO u0 s0 hu hpos m0) rfl (rf2 rfl rfl rfl (by show 0<2;omega) (fun y hy=>by rcases aqp.1 hy with rfl|hy<;>first|(show 0<2;omega)|(rcases aqp.1 hy with rfl|hy<;>first|exact True.intro|cases hy)|cases hy)) rfl (Dv rfl rfl (L':=[e_ (.ep 0 (238+65536) 0 0) u0 s0 0,.dead]) rfl) ?_
   repeat' (first|refine gw_ gR fH ?_|refine gi_ (fun hb=>?_) (fun hb=>?_)|fail)
   exact aZ (bg rfl (by trivial) rfl)
