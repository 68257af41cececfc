/- Parts. No condition. -/
import Derived.Test.YtlcceppoloaecaaGreatDoorXAZ
import Derived.Test.YtlcceppoloaecaaGreatDoorXBA
import Derived.Test.YtlcceppoloaecaaGreatDoorXAI
import Derived.Test.YtlcceppoloaecaaGreatDoorXAN
import Derived.Shelf.LaysM
import Derived.Shelf.Strconv.Itoa3
import Derived.Ground.NamesProg
import Derived.Lib.Walk
import Derived.Lib.ItoaMem
import Derived.BigCall
import Derived.BigGuard
import Derived.Lib.AppendIntMem
set_option linter.unusedSimpArgs false
set_option linter.unusedVariables false
namespace Go.Proofs.YtlcceppoloaecaaGreatDoor.St
open IntKind (i64)
open Go.RowKit
def cP (p:Int×Int):List AC:=[.int .i64 p.1,.int .i64 p.2]
def cC (p:(Int×Int)×Int):List AC:=[.int .i64 p.1.1,.int .i64 p.1.2,.int .i64 p.2]
section
variable {P:Program} {R:PH} {w:World}
theorem ahf {α:Type}{enc:α->List Value}{ec:α->List AC}{k:Nat}(hk:∀ x,(ec x).length=k)(hkv:∀ x,(enc x).length=k)(hk0:0<k)(hrep:∀ x (j:Nat) u y v,(enc x)[j]?=some u->(ec x)[j]?=some y->bF R v y->v=u)
  (hR:∀ b o u,R b o=some u->w.cell? ⟨b,o,none⟩=some u) {v:Value} {l:List α} (h:bF R v (.lst (l.map ec))):∃ A c,v = .slice A l.length c/\Rd enc k w w.heap.size A l.length l:=by
 obtain⟨a,c,news,rfl,hc,hcells,hreg⟩:=uh (k:=k) h (by intro e he;simp only[arK]at he;obtain⟨x,_,rfl⟩:=he;exact hk x);refine⟨a,c,m5,rfl,fun hp=>?_⟩;obtain⟨b,o,rfl,hb⟩:=hreg (by simpa using hp);have key:∀ (i:Nat) x,l[i]?=some x ->∀ (j:Nat) u,(enc x)[j]?=some u->w.cell? ⟨b,o+(i*k+j),none⟩=some u:=by
  intro i x hx j u hu;have he:(l.map ec)[i]?=some (ec x):=by rw[arw,hx];rfl
  have hj:j<(ec x).length:=by rw[hk,<- hkv x];exact(aq6.1 hu).1
  obtain⟨u0,h0,p0⟩:=hcells.get i _ j _ he (arf hj);rw[hrep x j u _ u0 hu (arf hj) p0]at h0;exact hR _ _ _ (hb _ _ h0)
 refine⟨b,o,rfl,?_,fun i x hx j u hu=>?_⟩
 ·obtain⟨x,hx⟩:=gol_ hp
  obtain⟨u,hu⟩:=gol_ (show 0<(enc x).length by rw[hkv];exact hk0);exact lt_of_cell (key 0 x hx 0 u hu)
 ·rw[Nat.add_assoc];exact key i x hx j u hu
def uO (R:PH)(w w':World):PHf:=fun b o=>if b<w.heap.size then R b o else w'.cell? ⟨b,o,none⟩
theorem Hf (hR:∀ b o u,R b o=some u->w.cell? ⟨b,o,none⟩=some u)(w':World):∀ b o u,R b o=some u->uO R w w' b o=some u:=fun b o u h=>by
 have:=lt_of_cell (hR b o u h);unfold uO;rw[if_pos this];exact h
def afl (R:PH)(w w':World)(hR:∀ b o u,R b o=some u->w.cell? ⟨b,o,none⟩=some u):PH:=R.put (uO R w w') (Hf hR w')
theorem oF (hR:∀ b o u,R b o=some u->w.cell? ⟨b,o,none⟩=some u){w':World}(hg:Gr w w'):Ext (· <w.heap.size) R (afl R w w' hR) w w' /\ ∀ b o u,afl R w w' hR b o=some u->w'.cell? ⟨b,o,none⟩=some u:=by
 refine⟨⟨Kept.of hg.out,Hf hR w',fun b o hb=>?_⟩,fun b o u h=>?_⟩
 ·show uO R w w' b o=_
  unfold uO;rw[if_pos hb]
 ·have h:uO R w w' b o=some u:=h
  unfold uO at h;split at h
  ·rename_i hb;rw[hg.cells.1 b o hb];exact hR _ _ _ h
  ·exact h
theorem LM (hR:∀ b o u,R b o=some u->w.cell? ⟨b,o,none⟩=some u){w':World}{E:TypeId}{v:Value}{l:List (Int×Int)}(ho:Own e2 2 E w' w.heap.size v l):bF (afl R w w' hR) v (.lst (l.map cP)):=by
 obtain⟨A,c,rfl⟩:=ho.form;have hrd:=ho.rds dU;have hlt:=World.ownsRow.lt ho;have hc:l.length<=c:=by
  rcases ho.2 with⟨hv,hn⟩|⟨g,cap,cur,hv,_,_,hle,_⟩
  ·omega
  ·injection hv with _ _ h3;omega
 by_cases hz:l.length=0
 ·have:l=[]:=arz hz
  subst this;exact dE _ _ _
 ·obtain⟨b,o,rfl,hb,hcell⟩:=hrd.2 m0
  have hge:w.heap.size<=b:=(hlt b rfl).1;have key:∀ (i:Nat) x,l[i]?=some x->afl R w w' hR b (o+(i*2+0))=some (.int .i64 x.1)/\afl R w w' hR b (o+(i*2+1))=some (.int .i64 x.2):=by
   intro i x hx;show uO R w w' b _=_/\uO R w w' b _=_;unfold uO;rw[if_neg m0,if_neg m0,<- Nat.add_assoc,<- Nat.add_assoc];exact⟨hcell i x hx 0 _ rfl,hcell i x hx 1 _ rfl⟩
  refine .lst _ _ _ _ 2 (fun j=>(afl R w w' hR b (o+j)).getD Go.undef) b o m5 hc (by intro e he;simp only[arK]at he;obtain⟨x,_,rfl⟩:=he;rfl) (fun _=>rfl) (fun j hj=>?_) (fun i e j y he hy=>?_)
  ·have hi:j/2<l.length:=m0
   have hx:l[j/2]?=some l[j/2]:=arf hi;have:=key _ _ hx;have hm:j=j/2*2+j%2:=m0
   rcases Nat.mod_two_eq_zero_or_one j with h0|h0
   ·rw[h0]at hm;rw[hm,this.1];rfl
   ·rw[h0]at hm;rw[hm,this.2];rfl
  ·rw[arw]at he
   cases hx:l[i]? with
   |none=>simp[hx]at he
   |some x =>
    rw[hx]at he;simp only[Option.map_some,Option.some.injEq]at he;subst he;have:=key i x hx
    match j,hy with
    |0,hy=>simp[cP]at hy;subst hy;rw[this.1];exact .int _ _
    |1,hy=>simp[cP]at hy;subst hy;rw[this.2];exact .int _ _
    |j+2,hy=>simp[cP]at hy
theorem wy {v:Value}{k:IntKind}{n:Int}(h:bF R v (.int k n)):v = .int k n:=by cases h;rfl
theorem aoY (hR:∀ b o u,R b o=some u->w.cell? ⟨b,o,none⟩=some u){v:Value}{l:List (Int×Int)}(h:bF R v (.lst (l.map cP))):∃ A c,v = .slice A l.length c/\Rd e2 2 w w.heap.size A l.length l :=
 ahf (k:=2) (fun _=>rfl) dU m9 (fun x j u y v hu hy hv=>by
  match j,hu,hy with
  |0,hu,hy=>simp[e2]at hu;simp[cP]at hy;subst hu hy;exact wy hv
  |1,hu,hy=>simp[e2]at hu;simp[cP]at hy;subst hu hy;exact wy hv
  |j+2,hu,hy=>simp[cP]at hy) hR h
theorem anm (hR:∀ b o u,R b o=some u->w.cell? ⟨b,o,none⟩=some u){v:Value}{l:List ((Int×Int)×Int)}(h:bF R v (.lst (l.map cC))):∃ A c,v = .slice A l.length c/\Rd e3 3 w w.heap.size A l.length l :=
 ahf (k:=3) (fun _=>rfl) Jw m9 (fun x j u y v hu hy hv=>by
  match j,hu,hy with
  |0,hu,hy=>simp[e3]at hu;simp[cC]at hy;subst hu hy;exact wy hv
  |1,hu,hy=>simp[e3]at hu;simp[cC]at hy;subst hu hy;exact wy hv
  |2,hu,hy=>simp[e3]at hu;simp[cC]at hy;subst hu hy;exact wy hv
  |j+3,hu,hy=>simp[cC]at hy) hR h
end
theorem adr {vs:Array Value}{p:PV}(h:vs.size=[p].length):∃ v,vs=#[v]:=by
 obtain⟨l⟩:=vs
 match l,h with
 |[a],_=>exact⟨a,rfl⟩
abbrev Ov (l:List ((Int×Int)×Int)):List (Int×Int):=cZ (mN l) (fA l)
theorem alB (l:List ((Int×Int)×Int))(hn:l.length<=100000):PTz 207 [.one (.lst (l.map cC))] (.val (.one (.lst ((Ov l).map cP)))):=by
 refine⟨⟨_,Tryz.func207,k7,k7⟩,fun R w vs hR hs hv=>?_⟩;obtain⟨v,rfl⟩:=adr hs;obtain⟨A,c,rfl,ha⟩:=anm hR (hv 0 v _ rfl rfl);refine(akN A _ c l w ha hn).mono ?_;rintro e w' ⟨A',m',c',rfl,ho,hg⟩;exact⟨_,_,rfl,(oF hR hg).1,(oF hR hg).2,LM hR ho⟩
theorem ai1 (l:List (Int×Int))(hn:l.length<=1000)(hasc:Asc l)(hF:∀ s∈l,s.1<1099511627776)(hM:∀ s∈l,s.2<=600):PTz 147 [.one (.lst (l.map cP))] (.val (.one (.lst ((rA l).map cP)))):=by
 refine⟨⟨_,Tryz.func147,k7,k7⟩,fun R w vs hR hs hv=>?_⟩;obtain⟨v,rfl⟩:=adr hs;obtain⟨A,c,rfl,ha⟩:=aoY hR (hv 0 v _ rfl rfl);refine(ahc A _ c l w ha hn hasc hF hM).mono ?_;rintro e w' ⟨A',m',c',rfl,ho,hg⟩;exact⟨_,_,rfl,(oF hR hg).1,(oF hR hg).2,LM hR ho⟩
end Go.Proofs.YtlcceppoloaecaaGreatDoor.St
namespace Go.Proofs.YtlcceppoloaecaaGreatDoor
open IntKind (i64)
def toP (p:ax):Int×Int:=(p.lo,p.hi)
def ofP (x:Int×Int):ax:=⟨x.1,x.2⟩
def toS (s:Stp):Int×Int:=(s.lo,s.n)
def ofS (x:Int×Int):Stp:=⟨x.1,x.2⟩
def toC (c:yV):(Int×Int)×Int:=(toP c.period,c.n)
def wj (l:List yV):List Stp:=(St.Ov (l.map toC)).map ofS
def yg (l:List Stp):List ax:=(St.rA (l.map toS)).map ofP
theorem alQ (l:List yV):(l.map toC).map St.cC=l.map F_:=by rw[List.map_map];rfl
theorem akx (l:List (Int×Int)):(l.map ofS).map li=l.map St.cP:=by rw[List.map_map];rfl
theorem alx (l:List Stp):(l.map toS).map St.cP=l.map li:=by rw[List.map_map];rfl
theorem akm (l:List (Int×Int)):(l.map ofP).map aO=l.map St.cP:=by rw[List.map_map];rfl
theorem alI (l:List yV)(hn:l.length<=100000):PTz 207 [.one (.lst (l.map F_))] (.val (.one (.lst ((wj l).map li)))):=by
 have:=St.alB (l.map toC) (by simpa using hn);rw[alQ]at this;unfold wj;rw[akx];exact this
structure MC (l:List Stp):Prop where
 len:l.length<=1000
 asc:St.Asc (l.map toS)
 fin:∀ s∈l,s.lo<1099511627776
 low:∀ s∈l,s.n<=600
theorem aif (l:List Stp)(h:MC l):PTz 147 [.one (.lst (l.map li))] (.val (.one (.lst ((yg l).map aO)))):=by
 have:=St.ai1 (l.map toS) (by simpa using h.len) h.asc (by intro s hs;obtain⟨x,hx,rfl⟩:=arK.1 hs;exact h.fin x hx) (by intro s hs;obtain⟨x,hx,rfl⟩:=arK.1 hs;exact h.low x hx);rw[alx]at this;unfold yg;rw[akm];exact this
open Go.RowKit Go.MapKept
set_option maxRecDepth 100000
set_option maxHeartbeats 8000000
def xU (a b:Val):Option (ax×Bool):=some (⟨a.int,b.int⟩,decide (a.kind=1)&&decide (b.kind=1))
theorem agZ {vs:Array Value}{p q:PV}(h:vs.size=[p,q].length):∃ v u,vs=#[v,u]:=by
 obtain⟨l⟩:=vs
 match l,h with
 |[a,b],_=>exact⟨a,b,rfl⟩
theorem adZ {R:PH}{v:Val}{u:Value}(h:(PV.agg (cV v)).rep R u):u = .agg #[.int .i64 v.kind,.int .i64 v.int,.string v.text]:=by
 obtain⟨vs,rfl,hs,hc⟩:=h;obtain⟨l⟩:=vs
 match l,hs with
 |[a,b,c],_ =>
  have h0:=hc 0 a _ rfl rfl;have h1:=hc 1 b _ rfl rfl;have h2:=hc 2 c _ rfl rfl
  cases h0;cases h1;cases h2;rfl
theorem zJ {a b:Val}{r:ax×Bool}(H:xU a b=some r):PTz 183 [.agg (cV a),.agg (cV b)] (.tup [.agg (aO r.1),.one (.bool r.2)]):=by
 obtain rfl:=arH H;refine⟨⟨_,Tryz.func183,k7,k7⟩,fun R w vs hR hs hv=>?_⟩;obtain⟨v,u,rfl⟩:=agZ hs;have hv0:=adZ (hv 0 v _ rfl rfl);have hv1:=adZ (hv 1 u _ rfl rfl);subst hv0 hv1;refine(St.N3 a.kind a.int b.kind b.int a.text b.text w).mono ?_;rintro e w' ⟨rfl,hg⟩;refine⟨_,_,rfl,(St.oF hR hg).1,(St.oF hR hg).2,⟨_,rfl,rfl,fun j u p hu hp=>?_⟩⟩
 match j,hu,hp with
 |0,hu,hp =>
  simp at hu hp;subst hu hp;refine⟨_,rfl,rfl,fun j u p hu hp=>?_⟩
  match j,hu,hp with
  |0,hu,hp=>simp[aO]at hu hp;subst hu hp;exact .int _ _
  |1,hu,hp=>simp[aO]at hu hp;subst hu hp;exact .int _ _
  |j+2,hu,hp=>simp[aO]at hp
 |1,hu,hp=>simp at hu hp;subst hu hp;exact .bool _
 |j+2,hu,hp=>simp at hp
def rZ (a_rel:Int)(a_l:(List Val)):Option (Val):=(aF a_l (0:Int)).bind fun x_1=>(aF a_l (1:Int)).bind fun x_2=>(xU x_1 x_2).bind fun r_3=>(aF a_l (2:Int)).bind fun x_4=>(aF a_l (3:Int)).bind fun x_5=>(xU x_4 x_5).bind fun r_6=>(agj r_3.1 r_6.1).bind fun r_7=>bif (!r_3.2)then(ko ).bind fun r_9=>some r_9 else
 bif (!r_6.2)then(ko ).bind fun r_11=>some r_11 else
 bif (!r_7.2)then(ko ).bind fun r_13=>some r_13 else
 (rG (decide (r_7.1=a_rel))).bind fun r_14=>some r_14
instance gRelated_ok {a_rel : Int} {a_l : (List Val)} {r : Val} : OkC (rZ a_rel a_l = some r) (PTz 115 [.one (.int .i64 a_rel), .one (.lst (a_l.map cV))] (.val (.agg (cV r)))) := .mk fun H => by
 unfold rZ at H;refine po_ Tryz.func115 Tryz.ntmps115 ?_;obtain⟨x_1,i1z,i1,i1x,H⟩:=bu (f:=cV) H;obtain⟨x_2,i2z,i2,i2x,H⟩:=bu (f:=cV) H;obtain⟨r_3,c3,H⟩:=bd_ H;replace c3:=zJ c3;obtain⟨x_4,i4z,i4,i4x,H⟩:=bu (f:=cV) H;obtain⟨x_5,i5z,i5,i5x,H⟩:=bu (f:=cV) H;obtain⟨r_6,c6,H⟩:=bd_ H;replace c6:=zJ c6;exact az H
set_option maxHeartbeats 8000000
set_option maxHeartbeats 8000000
def FY (a_less:Bool)(a_greater:Bool):Option (Int):=bif a_less then some (-1:Int)else
 bif a_greater then some (1:Int)else
 some (0:Int)
instance gSign_ok {a_less : Bool} {a_greater : Bool} {r : Int} : OkC (FY a_less a_greater = some r) (PTz 190 [.one (.bool a_less), .one (.bool a_greater)] (.val (.one (.int .i64 r)))) := .mk fun H => by
 unfold FY at H;refine po_ Tryz.func190 Tryz.ntmps190 ?_;exact az H
def uM (a_a:Val)(a_b:Val):Option (Int):=bif (decide (a_a.kind≠a_b.kind))then(FY (decide (a_a.kind<a_b.kind)) (decide (a_b.kind<a_a.kind))).bind fun r_2=>some r_2 else
 bif (decide (a_a.int≠a_b.int))then(FY (decide (a_a.int<a_b.int)) (decide (a_b.int<a_a.int))).bind fun r_4=>some r_4 else
 (FY (Op.bytesLess a_a.text.toList a_b.text.toList) (!((Op.bytesLess a_a.text.toList a_b.text.toList)||(a_a.text.toList==a_b.text.toList)))).bind fun r_5=>some r_5
instance gCmp7_ok {a_a : Val} {a_b : Val} {r : Int} : OkC (uM a_a a_b = some r) (PTz 120 [.agg (cV a_a), .agg (cV a_b)] (.val (.one (.int .i64 r)))) := .mk fun H => by
 unfold uM at H;refine po_ Tryz.func120 Tryz.ntmps120 ?_;exact az H
def fS (a_a:(List Val))(a_b:(List Val)):(Int)->Option (Step (Int) (Int)):=fun s=>match s with
 |i_1=>bif (decide (i_1<((a_a.length:Nat):Int)))then bif (decide (i_1<((a_b.length:Nat):Int)))then(aF a_a i_1).bind fun x_4=>(aF a_b i_1).bind fun x_5=>(uM x_4 x_5).bind fun r_6=>bif (decide (r_6≠(0:Int)))then some (.ret r_6)else
 some (.next (i64.wrap (i_1+(1:Int))))else
 some (.exit i_1)else
 some (.exit i_1)
def iY (a_a:(List Val))(a_b:(List Val)):Sum (Int) (Int)->Option ((Int))
 |.inl i_1=>bif (decide (((a_a.length:Nat):Int)<((a_b.length:Nat):Int)))then some (-1:Int)else
 bif (decide (((a_b.length:Nat):Int)<((a_a.length:Nat):Int)))then some (1:Int)else
 some (0:Int)
 |.inr q=>some q
def oK (a_a:(List Val))(a_b:(List Val)):Option (Int):=(ao (fS a_a a_b) fuel (0:Int)).bind (iY a_a a_b)
instance gCmp8_ok {a_a : (List Val)} {a_b : (List Val)} {r : Int} : OkC (oK a_a a_b = some r) (PTz 79 [.one (.lst (a_a.map cV)), .one (.lst (a_b.map cV))] (.val (.one (.int .i64 r)))) := .mk fun H => by
 unfold oK at H;refine po_ Tryz.func79 Tryz.ntmps79 ?_;refine aY ?_;refine alM_ (fun s:Int=>match s with|i_1=>[(0,.one (.c (.lst (a_a.map cV)))),(1,.one (.c (.lst (a_b.map cV)))),(5,.one (.c (.int .i64 i_1)))]) (fun s=>match s with|i_1=>[]) H (fun _=>aru _)
  (fm_ bG [] rfl a8 trivial) ?_
 rintro i_1 st1 hb1 hk1;unfold fS at hb1;dsimp only at hb1 ⊢;rcases aj hb1 with⟨q_2,hb1⟩|⟨q_2,hb1⟩
 ·rcases aj hb1 with⟨q_3,hb1⟩|⟨q_3,hb1⟩
  ·obtain⟨x_4,i1z,i1,i1x,hb1⟩:=bu (f:=cV) hb1
   obtain⟨x_5,i2z,i2,i2x,hb1⟩:=bu (f:=cV) hb1;obtain⟨r_6,c3,hb1⟩:=bd_ hb1;replace c3:=gCmp7_ok c3;rcases aj hb1 with⟨q_7,hb1⟩|⟨q_7,hb1⟩
   ·exact bA hb1 hk1
   cases hb1;refine aY ?_;exact⟨_,rfl,fm_ bG [] rfl a8 trivial⟩
  exact bA hb1 hk1
 exact bA hb1 hk1
set_option maxHeartbeats 8000000
def dB:Option (Val):=some (⟨(0:Int),(0:Int),ByteArray.empty⟩:Val)
instance gNullR_ok {r : Val} : OkC (dB = some r) (PTz 72 [] (.val (.agg (cV r)))) := .mk fun H => by
 unfold dB at H;refine po_ Tryz.func72 Tryz.ntmps72 ?_;exact az H
def jT (a_s:ByteArray):(Int)->Option (Step (Int) (Bool)):=fun s=>match s with
 |i_1=>bif (decide (i_1<((a_s.size:Nat):Int)))then(afP a_s i_1).bind fun b_3=>bif (decide (((b_3.toNat:Nat):Int)<(32:Int)))then some (.ret false)else
 bif (decide ((126:Int)<((b_3.toNat:Nat):Int)))then some (.ret false)else
 some (.next (i64.wrap (i_1+(1:Int))))else
 some (.exit i_1)
def dt:Sum (Int) (Bool)->Option ((Bool))
 |.inl i_1=>some true
 |.inr q=>some q
def lW (a_s:ByteArray):Option (Bool):=(ao (jT a_s) fuel (0:Int)).bind (dt)
instance gPrintable_ok {a_s : ByteArray} {r : Bool} : OkC (lW a_s = some r) (PTz 199 [.one (.str a_s)] (.val (.one (.bool r)))) := .mk fun H => by
 unfold lW at H;refine po_ Tryz.func199 Tryz.ntmps199 ?_
 repeat' (first|refine gs5_ ?_|refine b_ rfl rfl rfl rfl rfl rfl rfl ?_)
 refine alM_ (fun s:Int=>match s with|i_1=>[(0,.one (.c (.str a_s))),(3,.one (.c (.int .i64 i_1)))]) (fun s=>match s with|i_1=>[]) H (fun _=>aru _)
  (fm_ bG [] rfl a8 trivial) ?_
 rintro i_1 st1 hb1 hk1;unfold jT at hb1;dsimp only at hb1 ⊢;rcases aj hb1 with⟨q_2,hb1⟩|⟨q_2,hb1⟩
 ·obtain⟨b_3,i1,hb1⟩:=bd_ hb1
  obtain⟨i1z,i1⟩:=Ie i1;rcases aj hb1 with⟨q_4,hb1⟩|⟨q_4,hb1⟩
  ·cases hb1
   have hx1:dt (.inr false)=some _:=hk1;unfold dt at hx1;dsimp only at hx1
   cases hx1
   repeat' (first|refine gs5_ ?_|refine b_ rfl rfl rfl rfl rfl rfl rfl ?_)
   refine a6 (bj rfl ?_ ?_)
   ·repeat' (first|exact t7|rfl|exact arh rfl|omega|apply And.intro)
   ·first|rfl|(simp only[ark,ari,arn,ara]<;>rfl)
  rcases aj hb1 with⟨q_5,hb1⟩|⟨q_5,hb1⟩
  ·cases hb1
   have hx1:dt (.inr false)=some _:=hk1;unfold dt at hx1;dsimp only at hx1
   cases hx1
   repeat' (first|refine gs5_ ?_|refine b_ rfl rfl rfl rfl rfl rfl rfl ?_)
   refine a6 (bj rfl ?_ ?_)
   ·repeat' (first|exact t7|rfl|exact arh rfl|omega|apply And.intro)
   ·first|rfl|(simp only[ark,ari,arn,ara]<;>rfl)
  cases hb1
  repeat' (first|refine gs5_ ?_|refine b_ rfl rfl rfl rfl rfl rfl rfl ?_)
  exact⟨_,rfl,fm_ bG [] rfl a8 trivial⟩
 cases hb1;have hx1:dt (.inl i_1)=some _:=hk1;unfold dt at hx1;dsimp only at hx1
 cases hx1
 repeat' (first|refine gs5_ ?_|refine b_ rfl rfl rfl rfl rfl rfl rfl ?_)
 refine a6 (bj rfl ?_ ?_)
 ·repeat' (first|exact t7|rfl|exact arh rfl|omega|apply And.intro)
 ·first|rfl|(simp only[ark,ari,arn,ara]<;>rfl)
def dq (a_v:Val):Option (Bool):=bif (decide (a_v.kind=(0:Int)))then bif (decide (a_v.int=(0:Int)))then some (a_v.text.toList==(⟨#[]⟩:ByteArray).toList)else
 some false else
 bif (decide (a_v.kind=(1:Int)))then bif (a_v.text.toList==(⟨#[]⟩:ByteArray).toList)then bif (decide ((-1125899906842624:Int)<=a_v.int))then some (decide (a_v.int<=(1125899906842624:Int)))else
 some false else
 some false else
 bif (decide (a_v.kind=(2:Int)))then bif (decide (a_v.int=(0:Int)))then bif (decide (((a_v.text.size:Nat):Int)<=(200:Int)))then(lW a_v.text).bind fun r_9=>some r_9 else
 some false else
 some false else
 bif (decide (a_v.kind=(3:Int)))then bif (a_v.text.toList==(⟨#[]⟩:ByteArray).toList)then bif (decide (a_v.int=(0:Int)))then some true else
 some (decide (a_v.int=(1:Int)))else
 some false else
 some false
instance gValidR_ok {a_v : Val} {r : Bool} : OkC (dq a_v = some r) (PTz 139 [.agg (cV a_v)] (.val (.one (.bool r)))) := .mk fun H => by
 unfold dq at H;refine po_ Tryz.func139 Tryz.ntmps139 ?_;exact az H
def qz (a_v:Val):Option (Val):=(dq a_v).bind fun r_1=>bif r_1 then some a_v else
 (dB ).bind fun r_3=>some r_3
instance gvalidR_ok {a_v : Val} {r : Val} : OkC (qz a_v = some r) (PTz 220 [.agg (cV a_v)] (.val (.agg (cV r)))) := .mk fun H => by
 unfold qz at H;refine po_ Tryz.func220 Tryz.ntmps220 ?_;exact az H
def nq (a_n:Int):Option (Val):=(qz (⟨(1:Int),a_n,ByteArray.empty⟩:Val)).bind fun r_1=>some r_1
instance gIntR_ok {a_n : Int} {r : Val} : OkC (nq a_n = some r) (PTz 169 [.one (.int .i64 a_n)] (.val (.agg (cV r)))) := .mk fun H => by
 unfold nq at H;refine po_ Tryz.func169 Tryz.ntmps169 ?_;exact az H
def abv (a_row:(List Val))(a_i:Int):Option (Val):=bif (decide (a_i<(0:Int)))then(dB ).bind fun r_2=>some r_2 else
 bif (decide (((a_row.length:Nat):Int)<=a_i))then(dB ).bind fun r_4=>some r_4 else
 (aF a_row a_i).bind fun x_5=>some x_5
instance gAtR_ok {a_row : (List Val)} {a_i : Int} {r : Val} : OkC (abv a_row a_i = some r) (PTz 215 [.one (.lst (a_row.map cV)), .one (.int .i64 a_i)] (.val (.agg (cV r)))) := .mk fun H => by
 unfold abv at H;refine po_ Tryz.func215 Tryz.ntmps215 ?_;exact az H
def gl (a_row:(List Val))(a_kinds:(List Int)):(Int)->Option (Step (Int) (Bool)):=fun s=>match s with
 |i_2=>bif (decide (i_2<((a_row.length:Nat):Int)))then(aF a_row i_2).bind fun x_4=>(dq x_4).bind fun r_5=>bif (!r_5)then some (.ret false)else
 bif (decide (x_4.kind≠(0:Int)))then(aF a_kinds i_2).bind fun x_8=>bif (decide (x_4.kind≠x_8))then some (.ret false)else
 some (.next (i64.wrap (i_2+(1:Int))))else
 some (.next (i64.wrap (i_2+(1:Int))))else
 some (.exit i_2)
def I7:Sum (Int) (Bool)->Option ((Bool))
 |.inl i_2=>some true
 |.inr q=>some q
def rX (a_row:(List Val))(a_kinds:(List Int)):Option (Bool):=bif (decide (((a_row.length:Nat):Int)≠((a_kinds.length:Nat):Int)))then some false else
 (ao (gl a_row a_kinds) fuel (0:Int)).bind (I7)
instance gFits8_ok {a_row : (List Val)} {a_kinds : (List Int)} {r : Bool} : OkC (rX a_row a_kinds = some r) (PTz 86 [.one (.lst (a_row.map cV)), .one (.lst (a_kinds.map (fun x => [AC.int .i64 x])))] (.val (.one (.bool r)))) := .mk fun H => by
 unfold rX at H;refine po_ Tryz.func86 Tryz.ntmps86 ?_;rcases aj H with⟨q_1,H⟩|⟨q_1,H⟩
 ·exact az H
 refine aY ?_;refine alM_ (fun s:Int=>match s with|i_2=>[(0,.one (.c (.lst (a_row.map cV)))),(1,.one (.c (.lst (a_kinds.map (fun x=>[AC.int .i64 x]))))),(5,.one (.c (.int .i64 i_2)))]) (fun s=>match s with|i_2=>[]) H (fun _=>aru _)
  (fm_ bG [] rfl a8 trivial) ?_
 rintro i_2 st1 hb1 hk1;unfold gl at hb1;dsimp only at hb1 ⊢;rcases aj hb1 with⟨q_3,hb1⟩|⟨q_3,hb1⟩
 ·obtain⟨x_4,i1z,i1,i1x,hb1⟩:=bu (f:=cV) hb1
  obtain⟨r_5,c2,hb1⟩:=bd_ hb1;replace c2:=gValidR_ok c2;rcases aj hb1 with⟨q_6,hb1⟩|⟨q_6,hb1⟩
  ·exact bA hb1 hk1
  rcases aj hb1 with⟨q_7,hb1⟩|⟨q_7,hb1⟩
  ·obtain⟨x_8,i3z,i3,i3x,hb1⟩:=bu (f:=(fun x=>[AC.int .i64 x])) hb1
   rcases aj hb1 with⟨q_9,hb1⟩|⟨q_9,hb1⟩
   ·exact bA hb1 hk1
   cases hb1;refine aY ?_;exact⟨_,rfl,fm_ bG [] rfl a8 trivial⟩
  cases hb1;refine aY ?_;exact⟨_,rfl,fm_ bG [] rfl a8 trivial⟩
 exact bA hb1 hk1
def zZ (a_k:Int):Option (Bool):=bif (decide (a_k=(1:Int)))then some true else
 bif (decide (a_k=(2:Int)))then some true else
 some (decide (a_k=(3:Int)))
instance gKind_ok {a_k : Int} {r : Bool} : OkC (zZ a_k = some r) (PTz 140 [.one (.int .i64 a_k)] (.val (.one (.bool r)))) := .mk fun H => by
 unfold zZ at H;refine po_ Tryz.func140 Tryz.ntmps140 ?_;exact az H
def pw (a_l:(List Int)):(Int)->Option (Step (Int) (Bool)):=fun s=>match s with
 |i_1=>bif (decide (i_1<((a_l.length:Nat):Int)))then(aF a_l i_1).bind fun x_3=>(zZ x_3).bind fun r_4=>bif (!r_4)then some (.ret false)else
 some (.next (i64.wrap (i_1+(1:Int))))else
 some (.exit i_1)
def aeB:Sum (Int) (Bool)->Option ((Bool))
 |.inl i_1=>some true
 |.inr q=>some q
def DV (a_l:(List Int)):Option (Bool):=(ao (pw a_l) fuel (0:Int)).bind (aeB)
instance gKinds_ok {a_l : (List Int)} {r : Bool} : OkC (DV a_l = some r) (PTz 87 [.one (.lst (a_l.map (fun x => [AC.int .i64 x])))] (.val (.one (.bool r)))) := .mk fun H => by
 unfold DV at H;refine po_ Tryz.func87 Tryz.ntmps87 ?_;refine aY ?_;refine alM_ (fun s:Int=>match s with|i_1=>[(0,.one (.c (.lst (a_l.map (fun x=>[AC.int .i64 x]))))),(3,.one (.c (.int .i64 i_1)))]) (fun s=>match s with|i_1=>[]) H (fun _=>aru _)
  (fm_ bG [] rfl a8 trivial) ?_
 rintro i_1 st1 hb1 hk1;unfold pw at hb1;dsimp only at hb1 ⊢;rcases aj hb1 with⟨q_2,hb1⟩|⟨q_2,hb1⟩
 ·obtain⟨x_3,i1z,i1,i1x,hb1⟩:=bu (f:=(fun x=>[AC.int .i64 x])) hb1
  obtain⟨r_4,c2,hb1⟩:=bd_ hb1;replace c2:=gKind_ok c2;rcases aj hb1 with⟨q_5,hb1⟩|⟨q_5,hb1⟩
  ·exact bA hb1 hk1
  cases hb1;refine aY ?_;exact⟨_,rfl,fm_ bG [] rfl a8 trivial⟩
 exact bA hb1 hk1
def jV (a_a:(List Int))(a_b:(List Int)):(Int)->Option (Step (Int) (Bool)):=fun s=>match s with
 |i_2=>bif (decide (i_2<((a_a.length:Nat):Int)))then(aF a_a i_2).bind fun x_4=>(aF a_b i_2).bind fun x_5=>bif (decide (x_4≠x_5))then some (.ret false)else
 some (.next (i64.wrap (i_2+(1:Int))))else
 some (.exit i_2)
def Gn:Sum (Int) (Bool)->Option ((Bool))
 |.inl i_2=>some true
 |.inr q=>some q
def jx (a_a:(List Int))(a_b:(List Int)):Option (Bool):=bif (decide (((a_a.length:Nat):Int)≠((a_b.length:Nat):Int)))then some false else
 (ao (jV a_a a_b) fuel (0:Int)).bind (Gn)
instance gSameKinds_ok {a_a : (List Int)} {a_b : (List Int)} {r : Bool} : OkC (jx a_a a_b = some r) (PTz 51 [.one (.lst (a_a.map (fun x => [AC.int .i64 x]))), .one (.lst (a_b.map (fun x => [AC.int .i64 x])))] (.val (.one (.bool r)))) := .mk fun H => by
 unfold jx at H;refine po_ Tryz.func51 Tryz.ntmps51 ?_;rcases aj H with⟨q_1,H⟩|⟨q_1,H⟩
 ·exact az H
 refine aY ?_;refine alM_ (fun s:Int=>match s with|i_2=>[(0,.one (.c (.lst (a_a.map (fun x=>[AC.int .i64 x]))))),(1,.one (.c (.lst (a_b.map (fun x=>[AC.int .i64 x]))))),(5,.one (.c (.int .i64 i_2)))]) (fun s=>match s with|i_2=>[]) H (fun _=>aru _)
  (fm_ bG [] rfl a8 trivial) ?_
 rintro i_2 st1 hb1 hk1;unfold jV at hb1;dsimp only at hb1 ⊢;rcases aj hb1 with⟨q_3,hb1⟩|⟨q_3,hb1⟩
 ·obtain⟨x_4,i1z,i1,i1x,hb1⟩:=bu (f:=(fun x=>[AC.int .i64 x])) hb1
  obtain⟨x_5,i2z,i2,i2x,hb1⟩:=bu (f:=(fun x=>[AC.int .i64 x])) hb1;rcases aj hb1 with⟨q_6,hb1⟩|⟨q_6,hb1⟩
  ·exact bA hb1 hk1
  cases hb1;refine aY ?_;exact⟨_,rfl,fm_ bG [] rfl a8 trivial⟩
 exact bA hb1 hk1
section
variable {P:Program} {ti:TI} {B:Nat->Prop} {N n0:Nat} {R:PH} {γ:List Gh} {L:List Ob} {T:Tm} {w:World} {Q:AX->Tm->List Ob->Prop}
theorem aa4 {c:Code}(id:Nat){ver k:Nat}{es:List (List SV)}{cs:List (List AC)}(hL:L[id]?=some (.row ver es k))(hn:ee es=some cs)(h:Aw P N n0 c Q T (L.set id (.row ver (cs.map (List.map SV.c)) k))):Aw P N n0 c Q T L:=by
 intro hn0 B R γ w a hi hT;have hlt:id<L.length:=(aq6.1 hL).1;have hlen:=pG hn;have hM:Mv R R γ γ L (L.set id (.row ver (cs.map (List.map SV.c)) k)):=by
  refine⟨PH.sub_refl _,m5,fun t n k' _ e=>?_,fun t ver' es' k' _ e=>?_,fun _ _ e=>e⟩
  ·by_cases q:t=id
   ·subst q;rw[ars hlt]at e;cases e
   ·rw[art (Ne.symm q)]at e;exact⟨n,e,aro _,fun _=>rfl⟩
  ·by_cases q:t=id
   ·subst q;rw[ars hlt]at e;injection e with e;injection e with e1 e2 e3;subst e1 e2 e3
    exact⟨ver,es,hL,aro _,fun _=>⟨by simp[hlen],rfl⟩⟩
   ·rw[art (Ne.symm q)]at e;exact⟨ver',es',e,aro _,fun _=>⟨rfl,rfl⟩⟩
 have hI:Inv B R γ (L.set id (.row ver (cs.map (List.map SV.c)) k)) w:=by
  refine⟨by simp[hi.len],hi.val,fun t x g hx hg=>?_,hi.inj,hi.new,hi.bsz⟩;by_cases q:t=id
  ·subst q
   rw[ars hlt]at hx;injection hx with hx;subst hx
   have ho:=hi.obj t _ _ hL hg
   match g,ho with
   |.none,ho =>
    have ho:es=[]:=ho;subst ho;have:cs=[]:=arz (by rw[<- hlen];rfl);subst this;exact rfl
   |.arr b cc,⟨⟨vs,E,h1,h2,h3⟩,h4,h5,h6,h7⟩ =>
    refine⟨⟨vs,E,h1,h2,fun i e j u x he hu hx=>?_⟩,by simpa[hlen]using h4,h5,fun e he=>?_,h7⟩
    ·rw[arw]at he
     cases hc:cs[i]? with
     |none=>rw[hc]at he;cases he
     |some c0 =>
      rw[hc]at he;injection he with he;subst he
      obtain⟨e0,he0,hn0'⟩:=jJ hn i c0 hc;rw[arw]at hx
      cases hj:c0[j]? with
      |none=>rw[hj]at hx;cases hx
      |some y =>
       rw[hj]at hx;injection hx with hx;subst hx
       obtain⟨x0,hx0⟩:=gol_ (show j<e0.length by rw[<- eF hn0'];exact(aq6.1 hj).1);exact SV.norm_rep (h3 i e0 j u x0 he0 hu hx0) (jp hn0' j x0 y hx0 hj)
    ·obtain⟨c0,hc0,rfl⟩:=arK.1 he
     obtain⟨i,hi0⟩:=List.getElem?_of_mem hc0;obtain⟨e0,he0,hn0'⟩:=jJ hn i c0 hi0;rw[arj,eF hn0'];exact h6 e0 (arb he0)
  ·rw[art (Ne.symm q)]at hx
   exact(hi.obj t x g hx hg).mv hM (fun _ _=>rfl) (fun _ _ _ e=>e)
 refine wp_mono (h (by simpa using hn0) B R γ w a hI (hT.mv hM)) fun _ _ _ hh=>hh.ext (Ext.refl _ _ _) hi.len (nZ.of hn0 hM)
end
theorem bw:∀ {n:Nat} {L:List Ob},nP n L ->∀ x∈L,x.below n
 |_,_::_,h,x,hx=>by
  rcases arp.1 hx with rfl|hx
  ·exact h.1
  ·exact bw h.2 x hx
def gC (x:AC):List SV:=[.c x]
def aoT:TI :={ acO with soft:=true }
theorem aZ:TIok Tryz.prog aoT:=⟨am.size,am.agg,am.elem,am.field,am.zero,am.bytes,am.kind,am.struct,am.zok,am.eqs⟩
theorem adD (σ:List Nat)(v k:Nat)(l:List AC):(Ob.row v (l.map gC) k).ren σ=Ob.row v (l.map gC) k:=by
 simp only[Ob.ren,List.map_map];rfl
theorem j1 {L L':List Ob}{v k:Nat}{l:List AC}(h:L.set 0 (Ob.row v (l.map gC) k)=L'):joinL [0] L [Ob.row v (l.map gC) k]=L':=by
 subst h;simp[joinL,join,dr,ce,ft,adD]
theorem bY {n:Nat}{l:List AV}(h:gK n (l.map fun x=>(0,x))):∀ y∈l,y.below n:=by
 induction l with
 |nil=>intro y hy;cases hy
 |cons x l ih =>
  intro y hy;rcases arp.1 hy with rfl|hy
  ·exact h.1
  ·exact ih h.2 y hy
def fe (p:SV)(u:Nat)(s:ByteArray)(i:Nat):Ob := .row (238+65536) [[p,.sl (i+1) u 0 s.size]] 2
def eZ (u:Nat)(s:ByteArray):Ob := .row u (bq s) 1
theorem amj : ∃ fn, Tryz.prog.funcs[293]? = some fn /\ (fn.name == "runtime.NumGoroutine") = false /\ fn.body.isNone = true /\ Extern.findNext fn = none /\ Extern.find fn = some Extern.AbiNoEscape.same := ⟨_, Tryz.func293, by kernel_rfl, by kernel_rfl, by kernel_rfl, by kernel_rfl⟩
theorem ada:∃ j,Tryz.prog.info? 238=some j/\j.size=2:=by
 have h:(Tryz.prog.info? 238).map (·.size)=some 2:=k7
 cases hi:Tryz.prog.info? 238 with
 |none=>rw[hi]at h;cases h
 |some j=>rw[hi]at h;exact⟨j,rfl,by simpa using h⟩
theorem cn {n v k:Nat}{a b:SV}(ha:a.below n)(hb:b.below n):(Ob.row v [[a,b]] k).below n:=by
 intro e he x hx;rcases arp.1 he with rfl|he
 ·rcases arp.1 hx with rfl|hx
  ·exact ha
  ·rcases arp.1 hx with rfl|hx
   ·exact hb
   ·cases hx
 ·cases he
theorem bg (n u:Nat)(s:ByteArray):(eZ u s).below n:=by
 intro e he x hx;obtain⟨y,_,rfl⟩:=arK.1 he;rcases arp.1 hx with rfl|hx
 ·trivial
 ·cases hx
theorem bO (s:ByteArray):(bq s).length=s.size:=by unfold bq;rw[arj];simp
theorem iV (s t:ByteArray):bq (s++t)=bq s++bq t:=by
 unfold bq;rw[<- ark];congr 1
theorem L9 (σ:List Nat)(s:ByteArray):(bq s).map (List.map (SV.ren σ))=bq s:=by
 unfold bq;rw[List.map_map];rfl
theorem fX (σ:List Nat)(u:Nat)(s:ByteArray):(eZ u s).ren σ=eZ u s:=by simp only[eZ,Ob.ren,L9]
theorem Ee {i j:Nat}{L L':List Ob}{a b a' b':Ob}(ha:a.ren [i,j]=a')(hb:b.ren [i,j]=b')(h:(L.set i a').set j b'=L'):joinL [i,j] L [a,b]=L':=by
 subst ha hb h;simp[joinL,join,dr,ce,ft]
theorem sj {L:List Ob}{a b:Ob}{x:AV}{xs:List AV}{i j:Nat}(h0:L[i]?=some (a.ren [i,j]))(h1:L[j]?=some (b.ren [i,j]))(hne:i≠j)(ha:a.below 2)(hb:b.below 2)(hx:∀ y∈x::xs,y.below 2):gg [i,j] [a,b] (x::xs) L:=by
 refine⟨rfl,by simp[hne],fun k y hy=>?_,bw ⟨ha,hb,t7⟩,hx⟩
 match k,hy with
 |0,hy=>simp at hy;subst hy;exact h0
 |1,hy=>simp at hy;subst hy;exact h1
 |k+2,hy=>simp at hy
theorem N_:Tryz.prog.cellsOf 238=2:=k7
theorem ahg:Tryz.prog.cellsOf 5=1:=k7
theorem rl (x:SV)(o:Ob)(hx:x.below 2)(ho:o.below 2):RTz 274 [.row (238+65536) [[(.c (.nul .ptr)),x]] 2,o] [.one (.ep 0 (238+65536) 0 0)] [.row (238+65536) [[(.ep 0 (238+65536) 0 0),x]] 2,o] (.tup []):=by
 obtain⟨j,hj,hj2⟩:=ada;obtain⟨fn,hf,hnm,hbd,hnx,hfd⟩:=amj;refine bo am Tryz.func274 rfl rfl Tryz.ntmps274 m5 ?_;simp only[eI]
 repeat' (first|refine gw_ am aZ ?_|refine gi_ (fun hb=>?_) (fun hb=>?_)|(refine dM rfl rfl rfl rfl rfl (yR rfl rfl (am.kind 235 _ rfl)) ?_)|(refine dM rfl rfl rfl rfl rfl (sN rfl rfl rfl (am.kind 235 _ rfl)) ?_)|(refine dM rfl rfl rfl rfl rfl (rN rfl rfl rfl (am.kind 235 _ rfl) hj) ?_)|(refine dM rfl rfl rfl rfl rfl (lP rfl rfl (am.kind 235 _ rfl) (am.kind 271 _ rfl) hj (by rw[hj2];decide)) ?_)|(refine dM rfl rfl rfl rfl rfl (pM rfl rfl (am.kind 271 _ rfl) (am.kind 235 _ rfl) hj N_ rfl) ?_)|(refine ci rfl rfl rfl rfl rfl (qU rfl hf hnm hbd hnx hfd) ?_)|fail)
 all_goals exact⟨.inl rfl,⟨.inr ⟨.tup [],⟨t7,rfl⟩,rfl⟩,⟨[],rfl⟩,m5,bw ⟨cn (by show 0<2;omega) hx,ho,t7⟩,by simp[CV.av,AV.below]⟩⟩
theorem sG (x:SV)(o:Ob)(hx:x.below 2)(ho:o.below 2):RTz 274 [.row (238+65536) [[(.ep 0 (238+65536) 0 0),x]] 2,o] [.one (.ep 0 (238+65536) 0 0)] [.row (238+65536) [[(.ep 0 (238+65536) 0 0),x]] 2,o] (.tup []):=by
 obtain⟨j,hj,hj2⟩:=ada;obtain⟨fn,hf,hnm,hbd,hnx,hfd⟩:=amj;refine bo am Tryz.func274 rfl rfl Tryz.ntmps274 m5 ?_;simp only[eI]
 repeat' (first|refine gw_ am aZ ?_|refine gi_ (fun hb=>?_) (fun hb=>?_)|(refine dM rfl rfl rfl rfl rfl (yR rfl rfl (am.kind 235 _ rfl)) ?_)|(refine dM rfl rfl rfl rfl rfl (sN rfl rfl rfl (am.kind 235 _ rfl)) ?_)|(refine dM rfl rfl rfl rfl rfl (rN rfl rfl rfl (am.kind 235 _ rfl) hj) ?_)|(refine dM rfl rfl rfl rfl rfl (lP rfl rfl (am.kind 235 _ rfl) (am.kind 271 _ rfl) hj (by rw[hj2];decide)) ?_)|(refine dM rfl rfl rfl rfl rfl (pM rfl rfl (am.kind 271 _ rfl) (am.kind 235 _ rfl) hj N_ rfl) ?_)|(refine ci rfl rfl rfl rfl rfl (qU rfl hf hnm hbd hnx hfd) ?_)|fail)
 all_goals exact⟨.inl rfl,⟨.inr ⟨.tup [],⟨t7,rfl⟩,rfl⟩,⟨[],rfl⟩,m5,bw ⟨cn (by show 0<2;omega) hx,ho,t7⟩,by simp[CV.av,AV.below]⟩⟩
theorem J3 (u:Nat)(s:ByteArray)(t:ByteArray)(hu:u%65536=5)(hs:s.size<=100000000000000)(ht:t.size<=1000000000000):RTz 250 [fe (.c (.nul .ptr)) u s 0,eZ u s] [.one (.ep 0 (238+65536) 0 0),.one (.c (.str t))] [fe (.ep 0 (238+65536) 0 0) (u+65536) (s++t) 0,eZ (u+65536) (s++t)] (.tup [.one (.int .i64 t.size),.one (.nul .iface)]):=by
 refine bo am Tryz.func250 rfl rfl Tryz.ntmps250 m5 ?_;simp only[eI];unfold fe
 repeat' (first|(refine ci rfl rfl rfl rfl rfl (eh am (k:=1) (by_:=1) (xs:=bq t) rfl rfl rfl rfl ⟨rfl,rfl⟩ rfl hu rfl rfl rfl m0 (by exact bO s) (by rw[bO];omega) (by rw[bO];omega)) ?_)|(refine cK [0,1] rfl rfl rfl rfl (rl (.sl 1 u 0 s.size) (eZ u s) (by show 1<2;omega) (bg _ _ _)) rfl (sj r5 (by rw[fX];rfl) m9 (cn trivial (by show 1<2;omega)) (bg _ _ _) (fun y hy=>by rcases arp.1 hy with rfl|hy<;>first|(show 0<2;omega)|cases hy)) rfl (Ee rfl (fX _ _ _) rfl) ?_)|refine gw_ am aZ ?_|refine gi_ (fun hb=>?_) (fun hb=>?_)|fail)
 all_goals refine⟨.inr rfl,⟨.inr ⟨.tup [.one (.int .i64 t.size),.one (.nul .iface)],⟨⟨t7,t7,t7⟩,rfl⟩,rfl⟩,⟨[],?_⟩,m5,bw ⟨cn (by show 0<2;omega) (by show 1<2;omega),bg _ _ _,t7⟩,t7⟩⟩
 all_goals (rw[arJ];show [Ob.row _ [[_,SV.sl (0+1) (u+65536) 0 (s.size+(bq t).length)]] 2,Ob.row (u+65536) (bq s++bq t) 1]=_;rw[bO,<- iV,<- ByteArray.size_append];rfl)
theorem xC (u:Nat)(s:ByteArray)(t:ByteArray)(hu:u%65536=5)(hs:s.size<=100000000000000)(ht:t.size<=1000000000000):RTz 250 [fe (.ep 0 (238+65536) 0 0) u s 0,eZ u s] [.one (.ep 0 (238+65536) 0 0),.one (.c (.str t))] [fe (.ep 0 (238+65536) 0 0) (u+65536) (s++t) 0,eZ (u+65536) (s++t)] (.tup [.one (.int .i64 t.size),.one (.nul .iface)]):=by
 refine bo am Tryz.func250 rfl rfl Tryz.ntmps250 m5 ?_;simp only[eI];unfold fe
 repeat' (first|(refine ci rfl rfl rfl rfl rfl (eh am (k:=1) (by_:=1) (xs:=bq t) rfl rfl rfl rfl ⟨rfl,rfl⟩ rfl hu rfl rfl rfl m0 (by exact bO s) (by rw[bO];omega) (by rw[bO];omega)) ?_)|(refine cK [0,1] rfl rfl rfl rfl (sG (.sl 1 u 0 s.size) (eZ u s) (by show 1<2;omega) (bg _ _ _)) rfl (sj r5 (by rw[fX];rfl) m9 (cn (by show 0<2;omega) (by show 1<2;omega)) (bg _ _ _) (fun y hy=>by rcases arp.1 hy with rfl|hy<;>first|(show 0<2;omega)|cases hy)) rfl (Ee rfl (fX _ _ _) rfl) ?_)|refine gw_ am aZ ?_|refine gi_ (fun hb=>?_) (fun hb=>?_)|fail)
 all_goals refine⟨.inr rfl,⟨.inr ⟨.tup [.one (.int .i64 t.size),.one (.nul .iface)],⟨⟨t7,t7,t7⟩,rfl⟩,rfl⟩,⟨[],?_⟩,m5,bw ⟨cn (by show 0<2;omega) (by show 1<2;omega),bg _ _ _,t7⟩,t7⟩⟩
 all_goals (rw[arJ];show [Ob.row _ [[_,SV.sl (0+1) (u+65536) 0 (s.size+(bq t).length)]] 2,Ob.row (u+65536) (bq s++bq t) 1]=_;rw[bO,<- iV,<- ByteArray.size_append];rfl)
theorem aaG (u:Nat)(s:ByteArray)(t:UInt8)(hu:u%65536=5)(hs:s.size<=100000000000000)  : RTz 252 [fe (.ep 0 (238+65536) 0 0) u s 0,eZ u s] [.one (.ep 0 (238+65536) 0 0),.one (.c (.int .u8 t.toNat))] [fe (.ep 0 (238+65536) 0 0) (u+65536) (s++⟨#[t]⟩) 0,eZ (u+65536) (s++⟨#[t]⟩)] (.one (.c (.nul .iface))):=by
 refine bo am Tryz.func252 rfl rfl Tryz.ntmps252 m5 ?_;simp only[eI];unfold fe
 repeat' (first|(refine ci rfl rfl rfl rfl rfl (eh am (k:=1) (by_:=1) (xs:=bq ⟨#[t]⟩) rfl rfl rfl rfl ⟨rfl,_,rfl,by intro e he;simp at he;subst he;rfl⟩ rfl hu rfl rfl rfl m0 (by exact bO s) (by rw[bO];show(s.size+1)*1<=_;omega) (by rw[bO];show s.size+1<=_;omega)) ?_)|(refine cK [0,1] rfl rfl rfl rfl (sG (.sl 1 u 0 s.size) (eZ u s) (by show 1<2;omega) (bg _ _ _)) rfl (sj r5 (by rw[fX];rfl) m9 (cn (by show 0<2;omega) (by show 1<2;omega)) (bg _ _ _) (fun y hy=>by rcases arp.1 hy with rfl|hy<;>first|(show 0<2;omega)|cases hy)) rfl (Ee rfl (fX _ _ _) rfl) ?_)|refine gw_ am aZ ?_|refine gi_ (fun hb=>?_) (fun hb=>?_)|fail)
 all_goals refine⟨.inr rfl,⟨.inl ⟨4,rfl,rfl⟩,⟨[],?_⟩,m5,bw ⟨cn (by show 0<2;omega) (by show 1<2;omega),bg _ _ _,t7⟩,t7⟩⟩
 all_goals (rw[arJ];show [Ob.row _ [[_,SV.sl (0+1) (u+65536) 0 (s.size+(bq ⟨#[t]⟩).length)]] 2,Ob.row (u+65536) (bq s++bq ⟨#[t]⟩) 1]=_;rw[bO,<- iV,<- ByteArray.size_append];rfl)
theorem alA (u:Nat)(s:ByteArray)(hu:u%65536=5)(h0:0<s.size)(hs:s.size<=100000000000000):RTz 253 [fe (.ep 0 (238+65536) 0 0) u s 0,eZ u s] [.one (.ep 0 (238+65536) 0 0)] [fe (.ep 0 (238+65536) 0 0) u s 0,.dead] (.one (.c (.str s))):=by
 refine bo am Tryz.func253 rfl rfl Tryz.ntmps253 m5 ?_;simp only[eI];unfold fe
 repeat' (first|(refine dM rfl rfl rfl rfl rfl (uz rfl rfl h0) ?_)|(refine aen rfl rfl rfl rfl rfl (oY rfl rfl rfl hu (aZ.kind _ _ rfl) ahg h0 m0) ?_)|refine gw_ am aZ ?_|refine gi_ (fun hb=>?_) (fun hb=>?_)|fail)
 all_goals exact⟨.inr rfl,⟨.inl ⟨2,rfl,rfl⟩,⟨[],rfl⟩,m5,bw ⟨cn (by show 0<2;omega) (by show 1<2;omega),t7,t7⟩,t7⟩⟩
theorem aly:RTz 253 [fe (.c (.nul .ptr)) 5 ⟨#[]⟩ 0,eZ 5 ⟨#[]⟩] [.one (.ep 0 (238+65536) 0 0)] [fe (.c (.nul .ptr)) 5 ⟨#[]⟩ 0,eZ 5 ⟨#[]⟩] (.one (.c (.str ⟨#[]⟩))):=by
 refine bo am Tryz.func253 rfl rfl Tryz.ntmps253 m5 ?_;simp only[eI];unfold fe
 repeat' (first|(refine dM rfl rfl rfl rfl rfl (sF rfl rfl m9) ?_)|(refine aen rfl rfl rfl rfl rfl (mZ rfl rfl) ?_)|refine gw_ am aZ ?_|refine gi_ (fun hb=>?_) (fun hb=>?_)|fail)
 all_goals exact⟨.inr rfl,⟨.inl ⟨2,rfl,rfl⟩,⟨[],rfl⟩,m5,bw ⟨cn trivial (by show 1<2;omega),bg _ _ _,t7⟩,t7⟩⟩
end Go.Proofs.YtlcceppoloaecaaGreatDoor
namespace Go.Proofs
open Go.Shelf
def Tryz.laysM171_ren:Go.Shelf.Ren:=⟨fun|171=>251|243=>275|246=>294|283=>301|284=>302|285=>303|286=>304|129=>130|317=>307|318=>308|319=>309|320=>310|337=>311|338=>312|n=>n,fun|3=>3|9=>9|2=>2|4=>4|171=>278|0=>0|53=>145|37=>236|5=>5|173=>280|212=>284|51=>143|20=>20|213=>285|46=>103|232=>286|233=>287|n=>n,fun|17=>1|18=>2|19=>3|n=>n⟩
theorem Tryz.laysM171:Go.Proofs.LaysM.n171 Tryz.prog Tryz.laysM171_ren :={
 mixed:=k7
 f129:=Tryz.func130.trans (congrArg some k7)
 f171:=Tryz.func251.trans (congrArg some k7)
 f243:=Tryz.func275.trans (congrArg some k7)
 f246:=Tryz.func294.trans (congrArg some k7)
 f283:=Tryz.func301.trans (congrArg some k7)
 f284:=Tryz.func302.trans (congrArg some k7)
 f285:=Tryz.func303.trans (congrArg some k7)
 f286:=Tryz.func304.trans (congrArg some k7)
 f317:=Tryz.func307.trans (congrArg some k7)
 f318:=Tryz.func308.trans (congrArg some k7)
 f319:=Tryz.func309.trans (congrArg some k7)
 f320:=Tryz.func310.trans (congrArg some k7)
 f337:=Tryz.func311.trans (congrArg some k7)
 f338:=Tryz.func312.trans (congrArg some k7)
 t0:=Tryz.underlying0
 a0:=Tryz.isAgg0
 z0:=Tryz.sizeOf0
 v0:=Tryz.zeroValue0
 t2:=Tryz.underlying2
 a2:=Tryz.isAgg2
 z2:=Tryz.sizeOf2
 v2:=Tryz.zeroValue2
 t3:=Tryz.underlying3
 a3:=Tryz.isAgg3
 z3:=Tryz.sizeOf3
 v3:=Tryz.zeroValue3
 t4:=Tryz.underlying4
 a4:=Tryz.isAgg4
 z4:=Tryz.sizeOf4
 v4:=Tryz.zeroValue4
 t5:=Tryz.underlying5
 a5:=Tryz.isAgg5
 z5:=Tryz.sizeOf5
 v5:=Tryz.zeroValue5
 t9:=Tryz.underlying9
 a9:=Tryz.isAgg9
 z9:=Tryz.sizeOf9
 v9:=Tryz.zeroValue9
 t20:=Tryz.underlying20
 a20:=Tryz.isAgg20
 z20:=Tryz.sizeOf20
 v20:=Tryz.zeroValue20
 t37:=Tryz.underlying236
 a37:=Tryz.isAgg236
 z37:=Tryz.sizeOf236
 v37:=Tryz.zeroValue236
 t46:=Tryz.underlying103
 a46:=Tryz.isAgg103
 z46:=Tryz.sizeOf103
 v46:=Tryz.zeroValue103
 t51:=Tryz.underlying143
 a51:=Tryz.isAgg143
 z51:=Tryz.sizeOf143
 v51:=Tryz.zeroValue143
 t53:=Tryz.underlying145
 a53:=Tryz.isAgg145
 z53:=Tryz.sizeOf145
 v53:=Tryz.zeroValue145
 t171:=Tryz.underlying278
 a171:=Tryz.isAgg278
 z171:=Tryz.sizeOf278
 v171:=Tryz.zeroValue278
 t173:=Tryz.underlying280
 a173:=Tryz.isAgg280
 z173:=Tryz.sizeOf280
 v173:=Tryz.zeroValue280
 t212:=Tryz.underlying284
 a212:=Tryz.isAgg284
 z212:=Tryz.sizeOf284
 v212:=Tryz.zeroValue284
 t213:=Tryz.underlying285
 a213:=Tryz.isAgg285
 z213:=Tryz.sizeOf285
 t232:=Tryz.underlying286
 a232:=Tryz.isAgg286
 z232:=Tryz.sizeOf286
 v232:=Tryz.zeroValue286
 t233:=Tryz.underlying287
 a233:=Tryz.isAgg287
 z233:=Tryz.sizeOf287
 v233:=Tryz.zeroValue287
 g17:=k7
 g18:=k7
 g19:=k7
 i0:=k7
 i2:=k7
 i3:=k7
 i4:=k7
 i5:=k7
 i9:=k7
 i20:=k7
 i37:=k7
 i46:=k7
 i51:=k7
 i53:=k7
 i171:=k7
 i173:=k7
 i212:=k7
 i232:=k7
 i233:=k7
 m17:=k7
 m18:=k7
 m19:=by kernel_rfl }
end Go.Proofs
namespace Go.Proofs.YtlcceppoloaecaaGreatDoor
open IntKind (i64)
open Go.Shelf Go.RowKit Go.Sort Go.Lib
set_option maxHeartbeats 6400000
set_option maxRecDepth 100000
section
variable {P:Program} {ρ:Ren}
def MW (g:Nat)(w:World):Prop :=∀ q,q<20->w.cell? ⟨g,q,none⟩=some (.int .u64 ((10 ^ q:Nat):Int))
theorem MW.alloc {g:Nat}{w:World}(h:MW g w)(o:Obj):MW g (w.alloc o):=fun q hq=>by
 rw[World.cell?_alloc_old]
 ·exact h q hq
 ·exact Nat.ne_of_lt (lt_of_cell (h q hq))
abbrev Gs (b:UInt8):Value:=Value.int .u8 (b.toNat:Int)
theorem LY (L:LaysM.n284 P ρ)(u:Nat)(h1:1<=u)(h2:u<18446744073709551616)(w:World)(hT:MW (ρ.g 17) w) :
  Calls P (ρ.f 284) #[.int .u64 u] w fun e w'=>e = .returned (.int .i64 (Lib.nDigits u))/\w'=w:=by
 have mixed:=L.mixed;have t53:=L.t53;have a53:=L.a53;have z53:=L.z53;have v53:=L.v53;have t3:=L.t3;have a3:=L.a3;have z3:=L.z3;have v3:=L.v3;have t212:=L.t212;have a212:=L.a212;have z212:=L.z212;have v212:=L.v212;have t0:=L.t0;have a0:=L.a0;have z0:=L.z0;have v0:=L.v0;have t4:=L.t4;have a4:=L.a4;have z4:=L.z4;have v4:=L.v4;have e129:∀ args w,(callFunc (ρ.f 129) args).run P w = .ok (.enter (ρ.f 129) args) w:=enters_of L.f129 k7 rfl;have e317:∀ args w,(callFunc (ρ.f 317) args).run P w = .ok (.enter (ρ.f 317) args) w:=enters_of L.f317 k7 rfl;have e318:∀ args w,(callFunc (ρ.f 318) args).run P w = .ok (.enter (ρ.f 318) args) w:=enters_of L.f318 k7 rfl;obtain⟨hnd,h19⟩:=Lib.numDigits_eq u h1 h2;have hL:Lib.bitLen u<=64:=Lib.bitLen_le u 64 (aro _) h2;have hcell:=hT (Lib.l10 (Lib.bitLen u)) m0;have hto:((u:Int)).toNat=u:=m0
 generalize hq:Lib.l10 (Lib.bitLen u)=q at hnd h19 hcell;generalize hT2:10 ^ q=T at hnd hcell;have h20:q<20:=m0
 have Hnd:=Lib.hid hnd;clear hnd hT
 go_enter L.f284,Body.n284_ntmps ρ
 go_wp2_with (first
  |(go_at_fn (ρ.f 129);refine(Any.bits_Len64 { L with } _ _ m0 m0).mono ?_;rintro e w' ⟨rfl,rfl⟩)
  |(go_at_fn (ρ.f 317);refine(Any.internal_strconv_log10Pow2 { L with } _ (by first|exact hL|(rw[hto];exact hL)) _).mono ?_;rintro e w' ⟨rfl,rfl⟩)
  |(go_at_fn (ρ.f 318);refine(Any.internal_strconv_bool2_int { L with } _ _).mono ?_;rintro e w' ⟨rfl,rfl⟩))
 all_goals go_ret
 all_goals (
  refine⟨?_,rfl⟩;have hnd:=Hnd.out;congr 2;split at hnd<;>simp_all<;>omega)
theorem Ol (L:LaysM.n246 P ρ)(n:Int)(h0 : -9223372036854775808<=n)(h1:n<=9223372036854775807)(w:World)(hT:MW (ρ.g 17) w) :
  Calls P (ρ.f 246) #[.int .i64 n,.int .i64 10] w fun e w'=>e = .returned (.string ⟨(Lib.itoa n).toArray⟩) /\ ∃ k os,w'=grow (w.drewN k) os:=by
 by_cases hs:0<=n/\n<100
 ·obtain⟨i,rfl⟩:∃ i:Nat,n=i:=⟨n.toNat,m0⟩
  refine(Any.internal_strconv_FormatInt_10_small { L with } i m0 w).mono ?_;rintro e w' ⟨rfl,rfl⟩;exact⟨by rw[Lib.itoa_nonneg],0,#[],by simp[World.drewN_zero]⟩
 have mixed:=L.mixed;have t2:=L.t2;have a2:=L.a2;have z2:=L.z2;have v2:=L.v2;have t3:=L.t3;have a3:=L.a3;have z3:=L.z3;have v3:=L.v3;have t9:=L.t9;have a9:=L.a9;have z9:=L.z9;have v9:=L.v9;have t4:=L.t4;have a4:=L.a4;have z4:=L.z4;have v4:=L.v4;have t171:=L.t171;have a171:=L.a171;have z171:=L.z171;have v171:=L.v171;have t0:=L.t0;have a0:=L.a0;have z0:=L.z0;have v0:=L.v0;have t53:=L.t53;have a53:=L.a53;have z53:=L.z53;have v53:=L.v53;have t37:=L.t37;have a37:=L.a37;have z37:=L.z37;have v37:=L.v37;have t5:=L.t5;have a5:=L.a5;have z5:=L.z5;have v5:=L.v5;have t173:=L.t173;have a173:=L.a173;have z173:=L.z173;have v173:=L.v173;have e284:∀ args w,(callFunc (ρ.f 284) args).run P w = .ok (.enter (ρ.f 284) args) w:=enters_of L.f284 k7 rfl;have e285:∀ args w,(callFunc (ρ.f 285) args).run P w = .ok (.enter (ρ.f 285) args) w:=enters_of L.f285 k7 rfl;obtain⟨u,hu⟩:∃ u:Nat,u=n.natAbs:=⟨_,rfl⟩;have hu1:1<=u:=m0
 have hu64:u<18446744073709551616:=m0
 have hd20:Lib.nDigits u<=20:=by have:=Lib.numDigits_eq u hu1 hu64;split at this<;>omega
 have hb3:Lib.nDigits u<=23:=m0
 have hal:P.arrayLen (ρ.t 171)=24:=by simp[Program.arrayLen,L.t171]
 have hel:P.underlying (ρ.t 171)=some (.array (P.arrayLen (ρ.t 171)) (P.elem (ρ.t 171))):=by simp[Program.arrayLen,Program.elem,L.t171]
 have hsl1:∀ W,(Instr.sliceAt (ρ.t 171) (.pointer (some ⟨w.heap.size,0,none⟩)) (some (.int .i64 1)) (some (.int .i64 (1+(Lib.nDigits u:Int)))) none).run P W = .ok (.slice (some ⟨w.heap.size,1,none⟩) (Lib.nDigits u) 23) W:=fun W=>by
  rw[run_sliceAt_array_lh W (ρ.t 171) ⟨w.heap.size,0,none⟩ hel .i64 .i64 1 (1+(Lib.nDigits u:Int)) m0 m0 (by rw[hal];omega)]
  go_simp
  omega
 have hsl2:∀ W,(Instr.sliceAt (ρ.t 171) (.pointer (some ⟨w.heap.size,0,none⟩)) none (some (.int .i64 (1+(Lib.nDigits u:Int)))) none).run P W = .ok (.slice (some ⟨w.heap.size,0,none⟩) (1+Lib.nDigits u) 24) W:=fun W=>by
  rw[run_sliceAt_array_h W (ρ.t 171) ⟨w.heap.size,0,none⟩ hel .i64 (1+(Lib.nDigits u:Int)) m0 (by rw[hal];omega)]
  go_simp
  omega
 have hH0:=Lib.holds_zero w (ρ.t 171) (Lib.nDigits u) m0;have hfmt:=Any.internal_strconv_formatBase10 { L with } w.heap.size 1 23 u (Array.replicate (Lib.nDigits u) 0) (w.alloc (.cells Lib.zeros24 (ρ.t 171))) hH0 (by rw[Array.size_replicate];exact Lib.lt_pow_nDigits u) hu64 (by rw[Array.size_replicate];omega);rw[Array.size_replicate]at hfmt;have HH0:=Lib.hid hH0;have hT1:=hT.alloc (.cells Lib.zeros24 (ρ.t 171));have hdig:=LY (ρ:=ρ) { L with } u hu1 hu64 _ hT1;clear hH0 hT hT1 hal hel;by_cases hn:n<0
 ·have hw:IntKind.u64.wrap (-IntKind.u64.wrap (-(u:Int)))=(u:Int):=by rw[IntKind.wrap_u64,IntKind.wrap_u64];omega
  obtain rfl:n = -(u:Int):=m0
  clear hs hu
  go_enter L.f246,Body.n246_ntmps ρ
  go_wp2_with (go_at_fn (ρ.f 284);refine hdig.mono ?_;rintro e w' ⟨rfl,rfl⟩)
  go_at_fn (ρ.f 285)
  refine hfmt.mono ?_;rintro e w' ⟨rfl,k,v',dk,rfl,hF⟩;have hc0:((putRow Gs (w.alloc (.cells Lib.zeros24 (ρ.t 171))) w.heap.size 1 dk).drewN k).cell? ⟨w.heap.size,0,none⟩=some (.int .u8 0):=by
   rw[World.cell?_drewN,cell?_putRow_other _ _ _ _ _ _ (Or.inr (Or.inl (Nat.zero_lt_one))),World.cell?_alloc_new];exact Lib.zeros24_at 0 m0
  have hf0:((putRow Gs (w.alloc (.cells Lib.zeros24 (ρ.t 171))) w.heap.size 1 dk).drewN k).frozen? ⟨w.heap.size,0,none⟩=false:=by
   rw[World.frozen?_drewN,frozen?_putRow];exact World.frozen?_alloc_new _ _ _ _
  have hcv:(convert (ρ.t 37) (ρ.t 9) (.slice (some ⟨w.heap.size,0,none⟩) (1+Lib.nDigits u) 24)).run P (((putRow Gs (w.alloc (.cells Lib.zeros24 (ρ.t 171))) w.heap.size 1 dk).drewN k).setCell ⟨w.heap.size,0,none⟩ (.int .u8 45)) = .ok (.string ⟨(45::Lib.decDigits u).toArray⟩) (((putRow Gs (w.alloc (.cells Lib.zeros24 (ρ.t 171))) w.heap.size 1 dk).drewN k).setCell ⟨w.heap.size,0,none⟩ (.int .u8 45)):=by
   have h:=run_convert_bytes_back (P:=P) (((putRow Gs (w.alloc (.cells Lib.zeros24 (ρ.t 171))) w.heap.size 1 dk).drewN k).setCell ⟨w.heap.size,0,none⟩ (.int .u8 45)) (ρ.t 37) (ρ.t 9) (ρ.t 5) ⟨w.heap.size,0,none⟩ 24 (45::Lib.decDigits u) L.t37 L.t5 L.t9 (fun j hj=>by
    rw[Lib.add_plain]
    cases j with
    |zero=>exact World.cell?_setCell_same _ _ _ hc0
    |succ i =>
     have hi:i<(Lib.decDigits u).length:=by simpa using hj
     rw[World.cell?_setCell_other _ _ _ _ m5,List.getElem_cons_succ,Lib.row_is_numeral hF i hi,World.cell?_drewN,show 0+(i+1)=1+i by omega];exact cell?_putRow Gs _ w.heap.size 1 _ dk HH0.out (by rw[hF.size,Array.size_replicate]) i (by rw[hF.size];rw[Lib.decDigits_length]at hi;exact hi))
   rw[arv,Lib.decDigits_length,Nat.add_comm]at h;exact h
  go_wp2
  go_ret
  obtain⟨os,eo⟩:=Lib.fin_neg w (.cells Lib.zeros24 (ρ.t 171)) dk k (.int .u8 45);exact⟨by rw[Lib.itoa_neg u hu1];rfl,k,os,eo⟩
 ·obtain rfl:n=(u:Int):=m0
  clear hu hsl2
  go_enter L.f246,Body.n246_ntmps ρ
  go_wp2_with (go_at_fn (ρ.f 284);refine hdig.mono ?_;rintro e w' ⟨rfl,rfl⟩)
  go_at_fn (ρ.f 285)
  refine hfmt.mono ?_;rintro e w' ⟨rfl,k,v',dk,rfl,hF⟩;have hcv:(convert (ρ.t 37) (ρ.t 9) (.slice (some ⟨w.heap.size,1,none⟩) (Lib.nDigits u) 23)).run P ((putRow Gs (w.alloc (.cells Lib.zeros24 (ρ.t 171))) w.heap.size 1 dk).drewN k) = .ok (.string ⟨(Lib.decDigits u).toArray⟩) ((putRow Gs (w.alloc (.cells Lib.zeros24 (ρ.t 171))) w.heap.size 1 dk).drewN k):=by
   have h:=run_convert_bytes_back (P:=P) ((putRow Gs (w.alloc (.cells Lib.zeros24 (ρ.t 171))) w.heap.size 1 dk).drewN k) (ρ.t 37) (ρ.t 9) (ρ.t 5) ⟨w.heap.size,1,none⟩ 23 (Lib.decDigits u) L.t37 L.t5 L.t9 (fun j hj=>by
    rw[Lib.row_is_numeral hF j hj,Lib.add_plain,World.cell?_drewN];exact cell?_putRow Gs _ w.heap.size 1 _ dk HH0.out (by rw[hF.size,Array.size_replicate]) j (by rw[hF.size];rw[Lib.decDigits_length]at hj;exact hj))
   rw[Lib.decDigits_length]at h;exact h
  go_wp2
  go_ret
  obtain⟨os,eo⟩:=Lib.fin_pos w (.cells Lib.zeros24 (ρ.t 171)) dk k;exact⟨by rw[Lib.itoa_nonneg];rfl,k,os,eo⟩
theorem akk (L:LaysM.n243 P ρ)(n:Int)(h0 : -9223372036854775808<=n)(h1:n<=9223372036854775807)(w:World)(hT:MW (ρ.g 17) w) :
  Calls P (ρ.f 243) #[.int .i64 n] w fun e w'=>e = .returned (.string ⟨(Lib.itoa n).toArray⟩) /\ ∃ k os,w'=grow (w.drewN k) os:=by
 have mixed:=L.mixed;have t3:=L.t3;have a3:=L.a3;have z3:=L.z3;have v3:=L.v3;have t9:=L.t9;have a9:=L.a9;have z9:=L.z9;have v9:=L.v9;have e246:∀ args w,(callFunc (ρ.f 246) args).run P w = .ok (.enter (ρ.f 246) args) w:=enters_of L.f246 k7 rfl;have hf:=Ol (ρ:=ρ) { L with } n h0 h1 w hT
 go_enter L.f243,Body.n243_ntmps ρ
 go_wp2_with (go_at_fn (ρ.f 246);refine hf.mono ?_;rintro e w' ⟨rfl,k,os,rfl⟩)
 go_ret
 exact⟨rfl,k,os,rfl⟩
theorem anS (L:LaysM.n171 P ρ)(n:Int)(h0 : -9223372036854775808<=n)(h1:n<=9223372036854775807)(w:World)(hT:MW (ρ.g 17) w) :
  Calls P (ρ.f 171) #[.int .i64 n] w fun e w'=>e = .returned (.string ⟨(Lib.itoa n).toArray⟩) /\ ∃ k os,w'=grow (w.drewN k) os:=by
 have mixed:=L.mixed;have t3:=L.t3;have a3:=L.a3;have z3:=L.z3;have v3:=L.v3;have t9:=L.t9;have a9:=L.a9;have z9:=L.z9;have v9:=L.v9;have e243:∀ args w,(callFunc (ρ.f 243) args).run P w = .ok (.enter (ρ.f 243) args) w:=enters_of L.f243 k7 rfl;have hf:=akk (ρ:=ρ) { L with } n h0 h1 w hT
 go_enter L.f171,Body.n171_ntmps ρ
 go_wp2_with (go_at_fn (ρ.f 243);refine hf.mono ?_;rintro e w' ⟨rfl,k,os,rfl⟩)
 go_ret
 exact⟨rfl,k,os,rfl⟩
end
def jn (n:Int):ByteArray:=⟨(Lib.itoa n).toArray⟩
theorem MA (R:PH)(w:World)(k:Nat)(os:Array Obj):Ext (· <w.heap.size) R R w (grow (w.drewN k) os):=by
 exact⟨Kept.of (Lib.below_grow _ w (aro _) k os),PH.sub_refl _,fun _ _ _=>rfl⟩
theorem agH (n:Int)(h0 : -9223372036854775808<=n)(h1:n<=9223372036854775807):PTz 251 [.one (.int .i64 n)] (.val (.one (.str (jn n)))):=by
 refine⟨⟨_,Tryz.func251,k7,k7⟩,fun R w vs hR hs hv=>?_⟩;obtain⟨v,rfl⟩:∃ v,vs=#[v]:=by
  match vs,hs with
  |⟨[v]⟩,_=>exact⟨v,rfl⟩
 have:=hv 0 v _ rfl rfl
 cases this;have hT:MW (Tryz.laysM171_ren.g 17) w:=fun q hq=>hR _ _ _ (R.tab q _ (by unfold pN;rw[if_pos hq];norm_cast))
 refine(show Calls Tryz.prog 251 #[.int .i64 n] w _ from anS Tryz.laysM171 n h0 h1 w hT).mono ?_;rintro e w' ⟨rfl,k,os,rfl⟩;refine⟨_,R,rfl,MA R w k os,fun b o u h=>?_,.str _⟩;have h1:=hR b o u h;rw[<- h1];unfold World.cell?;rw[show(grow (w.drewN k) os).heap[b]?=w.heap[b]? from(MA R w k os).below.block b (lt_of_cell h1)]
open Go.RowKit Go.MapKept
def aoR:TI :={ acO with dyn:=false }
theorem g9:TIok Tryz.prog aoR:=⟨am.size,am.agg,am.elem,am.field,am.zero,am.bytes,am.kind,am.struct,am.zok,am.eqs⟩
def apm:TI :={ aoR with soft:=true }
theorem f8:TIok Tryz.prog apm:=⟨am.size,am.agg,am.elem,am.field,am.zero,am.bytes,am.kind,am.struct,am.zok,am.eqs⟩
def c32:ByteArray:=⟨#[32]⟩
def w9 (v:Val):List Int:=[v.kind,v.int,v.text.size]
def jD (a:ByteArray)(l:List Int):ByteArray:=l.foldl (fun a n=>a++jn n++c32) a
def cL (l:List Val):ByteArray:=l.foldl (fun a v=>jD a (w9 v)++v.text) ⟨#[]⟩
theorem GU (l:List Val)(v:Val):cL (l++[v])=jD (cL l) (w9 v)++v.text:=by unfold cL;rw[List.foldl_append];rfl
theorem agN (a:ByteArray)(l:List Int)(n:Int):jD a (l++[n])=jD a l++jn n++c32:=by unfold jD;rw[List.foldl_append];rfl
def VOK (v:Val):Prop:=(-9223372036854775808<=v.kind/\v.kind<=9223372036854775807)/\(-9223372036854775808<=v.int/\v.int<=9223372036854775807)/\v.text.size<=10000000000
theorem wd (n:Int)(h0 : -9223372036854775808<=n)(h1:n<=9223372036854775807):(jn n).size<=30/\0<(jn n).size:=by
 unfold jn;show(Lib.itoa n).toArray.size<=30/\0<(Lib.itoa n).toArray.size;rw[List.size_toArray];have key:∀ u:Nat,u<18446744073709551616->Lib.nDigits u<=20:=by
  intro u h;rcases Nat.eq_zero_or_pos u with rfl|h1
  ·rw[Lib.nDigits_small m0];omega
  ·have:=Lib.numDigits_eq u h1 h;split at this<;>omega
 by_cases hn:n<0
 ·obtain⟨u,rfl⟩:∃ u:Nat,n = -(u:Int):=⟨n.natAbs,m0⟩
  rw[Lib.itoa_neg u m0,arv,Lib.decDigits_length];have:=key u m0;omega
 ·obtain⟨u,rfl⟩:∃ u:Nat,n=(u:Int):=⟨n.toNat,m0⟩
  rw[Lib.itoa_nonneg,Lib.decDigits_length];have:=key u m0;have:=Lib.nDigits_pos u;omega
theorem ua:∀ (l:List Int) (a:ByteArray),(∀ n∈l,-9223372036854775808<=n/\n<=9223372036854775807)->(jD a l).size<=a.size+31*l.length
 |[],a,_=>by simp[jD]
 |n::l,a,h=>by
  have h1:=ua l (a++jn n++c32) fun x hx=>h x (arx _ hx)
  have h2:=(wd n (h n m5).1 (h n m5).2).1;have hc:c32.size=1:=rfl;have e:jD a (n::l)=jD (a++jn n++c32) l:=rfl;rw[e];simp only[ByteArray.size_append,hc]at h1;rw[arv];omega
theorem afi (l:List Val)(h:∀ v∈l,VOK v):(cL l).size<=l.length*10000000100:=by
 have key:∀ (l:List Val) (a:ByteArray),(∀ v∈l,VOK v)->(l.foldl (fun a v=>jD a (w9 v)++v.text) a).size<=a.size+l.length*10000000100:=by
  intro l
  induction l with
  |nil=>intro a _;simp
  |cons v l ih =>
   intro a h;obtain⟨h1,h2,h3⟩:=h v m5;rw[ar0];have q1:=ih (jD a (w9 v)++v.text) fun x hx=>h x (arx _ hx)
   have q2:=ua (w9 v) a (by
    intro n hn;simp only[w9,arp,List.not_mem_nil,or_false]at hn;rcases hn with rfl|rfl|rfl
    ·exact h1
    ·exact h2
    ·omega)
   have e3:(w9 v).length=3:=rfl;simp only[ByteArray.size_append]at q1;rw[arv];omega
 have:=key l ⟨#[]⟩ h;have e:(⟨#[]⟩:ByteArray).size=0:=rfl;rw[e,arS]at this;exact this
def pB (fresh:Bool):SV:=if fresh then .c (.nul .ptr)else(.ep 0 (238+65536) 0 0)
theorem anh (b:Bool):(pB b).ren [0,1]=pB b:=by cases b<;>rfl
theorem EH (b:Bool){n:Nat}(h:0<n):(pB b).below n:=by cases b<;>first|exact h|exact True.intro
theorem JD (b:Bool)(u:Nat)(s t:ByteArray)(hu:u%65536=5)(hs:s.size<=100000000000000)(ht:t.size<=1000000000000):RTz 250 [fe (pB b) u s 0,eZ u s] [.one (.ep 0 (238+65536) 0 0),.one (.c (.str t))] [fe (.ep 0 (238+65536) 0 0) (u+65536) (s++t) 0,eZ (u+65536) (s++t)] (.tup [.one (.int .i64 t.size),.one (.nul .iface)]):=by
 cases b
 ·exact xC u s t hu hs ht
 ·exact J3 u s t hu hs ht
theorem rf2 {L:List Ob}{p:SV}{u:Nat}{s:ByteArray}{x:AV}{xs:List AV}(hL0:L[0]?=some (fe p u s 0))(hL1:L[1]?=some (eZ u s))(hp:p.ren [0,1]=p)(hpb:p.below 2)(hx:∀ y∈x::xs,y.below 2):gg [0,1] [fe p u s 0,eZ u s] (x::xs) L:=by
 refine sj ?_ (by rw[fX];exact hL1) m9 (cn hpb (by show 1<2;omega)) (bg _ _ _) hx;rw[hL0];show some (Ob.row _ [[p,SV.sl 1 u 0 s.size]] 2)=some (Ob.row _ [[p.ren [0,1],SV.sl 1 u 0 s.size]] 2);rw[hp]
theorem j2 {L L':List Ob}{u:Nat}{s:ByteArray}(h:(L.set 0 (fe (.ep 0 (238+65536) 0 0) u s 0)).set 1 (eZ u s)=L'):joinL [0,1] L [fe (.ep 0 (238+65536) 0 0) u s 0,eZ u s]=L':=Ee rfl (fX _ _ _) h
def E8 (l:List Val)(i:Nat):List Ob:=[fe (pB (decide (i=0))) (5+458752*i) (cL (l.take i)) 0,eZ (5+458752*i) (cL (l.take i))]
def Cf (u:Nat)(a:ByteArray)(f:Bool)(ns:List Int)(bx:Ob)(j:Nat):List Ob:=[fe (pB (f&&decide (j=0))) (u+131072*j) (jD a (ns.take j)) 0,eZ (u+131072*j) (jD a (ns.take j)),bx]
set_option maxHeartbeats 4000000 in
theorem agy (l:List Val)(hl:l.length<=1000)(h:∀ v∈l,VOK v):PTz 237 [.one (cl l)] (.val (.one (.str (cL l)))):=by
 refine pa_ g9 Tryz.func237 rfl rfl Tryz.ntmps237 m5 ?_;simp only[argT,PV.av,ari,arn];obtain⟨inf,hinf,hiz⟩:∃ inf,Tryz.prog.info? 238=some inf/\inf.zero=some (.agg #[.pointer none,.slice none 0 0]):=by
  have hh:(Tryz.prog.info? 238).bind (·.zero)=some (.agg #[.pointer none,.slice none 0 0]):=k7
  cases hi:Tryz.prog.info? 238 with
  |none=>rw[hi]at hh;cases hh
  |some j=>rw[hi]at hh;exact⟨j,rfl,by simpa using hh⟩
 have hc:c32.size=1:=rfl;have he0:(⟨#[]⟩:ByteArray).size=0:=rfl;obtain⟨n,hn⟩:∃ n,l.length=n:=⟨_,rfl⟩
 repeat' (first|(refine ci rfl rfl rfl rfl rfl (o8 (Eb:=5) (k:=1) hinf hiz m9 m9 m9) ?_)|refine gw_ g9 f8 ?_|refine gi_ (fun hb=>?_) (fun hb=>?_)|fail)
 refine cz (fun i:Nat=>[(0,.one (.c (cl l))),(3,.one (.ep 0 (238+65536) 0 0)),(8,.one (.c (cl l))),(9,.one (.c (.int .i64 n))),(10,.one (.c (.int .i64 i)))]) (fun i=>E8 l i) (fun i=>i<=n) (fun i=>n-i) 0 m0 (fun _ _=>aru _)
  (fm_ ⟨rfl,rfl,rfl,aU (by simp[hn]),rfl,t7⟩ [] rfl ⟨t7,(by show 0<2;omega),t7,t7,t7,t7⟩ ⟨cn (EH _ (by show 0<2;omega)) (by show 1<2;omega),bg _ _ _,t7⟩) ?_
 intro i hi;have hsz:=afi (l.take i) fun v hv=>h v (asf hv)
 rw[ar3]at hsz;by_cases hlt2:i<n
 ·obtain⟨v,hv⟩:=gol_ (show i<l.length by omega)
  obtain⟨k1,k2,k3⟩:=h v (arb hv);have hsn:=GU (l.take i) v;rw[<- bR hv]at hsn;have hu:(5+458752*i)%65536=5:=m0
  have e0:E8 l i=[fe (pB (decide (i=0))) (5+458752*i) (cL (l.take i)) 0,eZ (5+458752*i) (cL (l.take i))]:=rfl;rw[e0];generalize cL (l.take i)=a0 at hsz hsn;obtain⟨kd,nn,tx⟩:=v;simp only at k1 k2 k3
  repeat' (first|(refine bB rfl rfl rfl rfl rfl rfl rfl rfl (bv hv) ?_ ?_;· exact⟨m0,rfl⟩)|refine gw_ g9 f8 ?_|refine gi_ (fun hb=>?_) (fun hb=>?_)|fail)
  refine cz (fun j:Nat=>[(0,.one (.c (cl l))),(3,.one (.ep 0 (238+65536) 0 0)),(5,.one (.ptr 2 0)),(8,.one (.c (cl l))),(9,.one (.c (.int .i64 n))),(10,.one (.c (.int .i64 i))),(21,.one (.c (.lst ([kd,nn,(tx.size:Int)].map fun x=>[AC.int .i64 x])))),(22,.one (.c (.int .i64 3))),(23,.one (.c (.int .i64 j)))]) (fun j=>Cf (5+458752*i) a0 (decide (i=0)) [kd,nn,tx.size] (.box [.c (.int .i64 kd),.c (.int .i64 nn),.c (.str tx)]) j) (fun j=>j<=3) (fun j=>3-j) 0 m0 (fun _ _=>aru _)
   (fm_ ⟨rfl,rfl,rfl,rfl,rfl,rfl,rfl,rfl,rfl,t7⟩ [] ?_ ⟨t7,(by show 0<3;omega),(by show 2<3;omega),t7,t7,t7,t7,t7,t7,t7⟩ ⟨cn (EH _ (by show 0<3;omega)) (by show 1<3;omega),bg _ _ _,gX r5,t7⟩) ?_
  ·simp only[Cf,Nat.mul_zero,Nat.add_zero,List.take_zero,decide_true,Bool.and_true];rfl
  intro j hj;by_cases hj3:j<3
  ·obtain⟨x,hx⟩:=gol_ (show j<[kd,nn,(tx.size:Int)].length by exact hj3)
   have hxr : -9223372036854775808<=x/\x<=9223372036854775807:=by
    have:=arb hx;simp only[arp,List.not_mem_nil,or_false]at this;rcases this with rfl|rfl|rfl
    ·exact k1
    ·exact k2
    ·omega
   have hit:=agH x hxr.1 hxr.2
   repeat' (first|(refine bB rfl rfl rfl rfl rfl rfl rfl rfl (bv hx) ?_ ?_;· exact⟨m0,rfl⟩)|refine aN rfl rfl rfl rfl hit rfl ?_|refine gw_ g9 f8 ?_|refine gi_ (fun hb=>?_) (fun hb=>?_)|fail)
   have hitz:=wd x hxr.1 hxr.2;have hns:=ua ([kd,nn,(tx.size:Int)].take j) a0 (by
    intro y hy;have:=asf hy;simp only[arp,List.not_mem_nil,or_false]at this;rcases this with rfl|rfl|rfl
    ·exact k1
    ·exact k2
    ·omega)
   have hl3:([kd,nn,(tx.size:Int)].take j).length<=3:=by rw[ar3];exact Nat.le_trans (Nat.min_le_right _ _) (aro _)
   have hsj:=agN a0 ([kd,nn,(tx.size:Int)].take j) x;rw[<- bR hx]at hsj;have hu2:(5+458752*i+131072*j)%65536=5:=m0
   have eC:Cf (5+458752*i) a0 (decide (i=0)) [kd,nn,(tx.size:Int)] (.box [.c (.int .i64 kd),.c (.int .i64 nn),.c (.str tx)]) j=[fe (pB (decide (i=0)&&decide (j=0))) (5+458752*i+131072*j) (jD a0 ([kd,nn,(tx.size:Int)].take j)) 0,eZ (5+458752*i+131072*j) (jD a0 ([kd,nn,(tx.size:Int)].take j)),(.box [.c (.int .i64 kd),.c (.int .i64 nn),.c (.str tx)])]:=rfl;have eC2:Cf (5+458752*i) a0 (decide (i=0)) [kd,nn,(tx.size:Int)] (.box [.c (.int .i64 kd),.c (.int .i64 nn),.c (.str tx)]) (j+1)=[fe (.ep 0 (238+65536) 0 0) (5+458752*i+131072*j+65536+65536) (jD a0 ([kd,nn,(tx.size:Int)].take j)++jn x++c32) 0,eZ (5+458752*i+131072*j+65536+65536) (jD a0 ([kd,nn,(tx.size:Int)].take j)++jn x++c32),(.box [.c (.int .i64 kd),.c (.int .i64 nn),.c (.str tx)])]:=by
    unfold Cf;rw[hsj,show decide (j+1=0)=false by simp,Bool.and_false,show 5+458752*i+131072*(j+1)=5+458752*i+131072*j+65536+65536 by omega];rfl
   rw[eC];generalize jD a0 ([kd,nn,(tx.size:Int)].take j)=b0 at hns eC2;generalize 5+458752*i+131072*j=u0 at hu2 eC2;generalize hB1:jn x=b1 at hitz eC2;refine cK [0,1] rfl rfl rfl rfl (JD _ u0 b0 b1 hu2 m0 m0) rfl (rf2 rfl rfl (anh _) (EH _ (by show 0<2;omega)) (fun y hy=>by rcases arp.1 hy with rfl|hy<;>first|(show 0<2;omega)|(rcases arp.1 hy with rfl|hy<;>first|exact True.intro|cases hy)|cases hy)) rfl (j2 (L':=[fe (.ep 0 (238+65536) 0 0) (u0+65536) (b0++b1) 0,eZ (u0+65536) (b0++b1),(.box [.c (.int .i64 kd),.c (.int .i64 nn),.c (.str tx)])]) rfl) ?_
   repeat' (first|refine gw_ g9 f8 ?_|refine gi_ (fun hb=>?_) (fun hb=>?_)|fail)
   refine cK [0,1] rfl rfl rfl rfl (aaG (u0+65536) (b0++b1) 32 m0 (by simp only[ByteArray.size_append];omega)) rfl (rf2 rfl rfl rfl (by show 0<2;omega) (fun y hy=>by rcases arp.1 hy with rfl|hy<;>first|(show 0<2;omega)|(rcases arp.1 hy with rfl|hy<;>first|exact True.intro|cases hy)|cases hy)) rfl (j2 (L':=[fe (.ep 0 (238+65536) 0 0) (u0+65536+65536) (b0++b1++c32) 0,eZ (u0+65536+65536) (b0++b1++c32),(.box [.c (.int .i64 kd),.c (.int .i64 nn),.c (.str tx)])]) rfl) ?_
   repeat' (first|refine gw_ g9 f8 ?_|refine gi_ (fun hb=>?_) (fun hb=>?_)|fail)
   exact⟨j+1,m0,m0,fm_ ⟨rfl,rfl,rfl,rfl,rfl,rfl,rfl,rfl,aU (a7 m0 m0),t7⟩ [] (by rw[eC2];rfl) (by rw[eC2];exact⟨t7,(by show 0<3;omega),(by show 2<3;omega),t7,t7,t7,t7,t7,t7,t7⟩) (by rw[eC2];exact⟨cn (by show 0<3;omega) (by show 1<3;omega),bg _ _ _,gX r5,t7⟩)⟩
  ·have hj4:j=3:=m0
   subst hj4;have hns:=ua [kd,nn,(tx.size:Int)] a0 (by
    intro y hy;simp only[arp,List.not_mem_nil,or_false]at hy;rcases hy with rfl|rfl|rfl
    ·exact k1
    ·exact k2
    ·omega)
   have hl3:[kd,nn,(tx.size:Int)].length=3:=rfl;have eC:Cf (5+458752*i) a0 (decide (i=0)) [kd,nn,(tx.size:Int)] (.box [.c (.int .i64 kd),.c (.int .i64 nn),.c (.str tx)]) 3=[fe (.ep 0 (238+65536) 0 0) (5+458752*i+393216) (jD a0 [kd,nn,(tx.size:Int)]) 0,eZ (5+458752*i+393216) (jD a0 [kd,nn,(tx.size:Int)]),(.box [.c (.int .i64 kd),.c (.int .i64 nn),.c (.str tx)])]:=by
    unfold Cf;rw[show decide (3=0)=false by simp,Bool.and_false];rfl
   have eN:E8 l (i+1)=[fe (.ep 0 (238+65536) 0 0) (5+458752*i+393216+65536) (jD a0 [kd,nn,(tx.size:Int)]++tx) 0,eZ (5+458752*i+393216+65536) (jD a0 [kd,nn,(tx.size:Int)]++tx)]:=by
    unfold E8;rw[hsn,show decide (i+1=0)=false by simp,show 5+458752*(i+1)=5+458752*i+393216+65536 by omega];rfl
   rw[eC];generalize jD a0 [kd,nn,(tx.size:Int)]=b0 at hns eN;have hu2:(5+458752*i+393216)%65536=5:=m0
   generalize 5+458752*i+393216=u0 at hu2 eN
   repeat' (first|refine gw_ g9 f8 ?_|refine gi_ (fun hb=>?_) (fun hb=>?_)|fail)
   refine cK [0,1] rfl rfl rfl rfl (xC u0 b0 tx hu2 m0 m0) rfl (rf2 rfl rfl rfl (by show 0<2;omega) (fun y hy=>by rcases arp.1 hy with rfl|hy<;>first|(show 0<2;omega)|(rcases arp.1 hy with rfl|hy<;>first|exact True.intro|cases hy)|cases hy)) rfl (j2 (L':=[fe (.ep 0 (238+65536) 0 0) (u0+65536) (b0++tx) 0,eZ (u0+65536) (b0++tx),(.box [.c (.int .i64 kd),.c (.int .i64 nn),.c (.str tx)])]) rfl) ?_
   repeat' (first|refine gw_ g9 f8 ?_|refine gi_ (fun hb=>?_) (fun hb=>?_)|fail)
   exact⟨i+1,m0,m0,fm_ ⟨rfl,rfl,rfl,rfl,aU (a7 m0 m0),t7⟩ [(.box [.c (.int .i64 kd),.c (.int .i64 nn),.c (.str tx)])] (by rw[eN];rfl) (by rw[eN];exact⟨t7,(by show 0<2;omega),t7,t7,t7,t7⟩) (by rw[eN];exact⟨cn (by show 0<2;omega) (by show 1<2;omega),bg _ _ _,t7⟩)⟩
 ·have hi2:i=l.length:=m0
  have htk:l.take i=l:=by rw[hi2,List.take_length]
  by_cases hi0:i=0
  ·subst hi0
   have hnil:l=[]:=arz hi2.symm;subst hnil;have e0:E8 [] 0=[fe (.c (.nul .ptr)) 5 ⟨#[]⟩ 0,eZ 5 ⟨#[]⟩]:=rfl;rw[e0]
   repeat' (first|refine gw_ g9 f8 ?_|refine gi_ (fun hb=>?_) (fun hb=>?_)|fail)
   refine cK [0,1] rfl rfl rfl rfl aly rfl (rf2 rfl rfl rfl True.intro (fun y hy=>by rcases arp.1 hy with rfl|hy<;>first|(show 0<2;omega)|(rcases arp.1 hy with rfl|hy<;>first|exact True.intro|cases hy)|cases hy)) rfl (Ee rfl (fX _ _ _) (L':=[fe (.c (.nul .ptr)) 5 ⟨#[]⟩ 0,eZ 5 ⟨#[]⟩]) rfl) ?_
   repeat' (first|refine gw_ g9 f8 ?_|refine gi_ (fun hb=>?_) (fun hb=>?_)|fail)
   exact a6 (bj rfl (by trivial) rfl)
  ·have e1:E8 l i=[fe (.ep 0 (238+65536) 0 0) (5+458752*i) (cL l) 0,eZ (5+458752*i) (cL l)]:=by unfold E8;rw[htk,show decide (i=0)=false by simpa using hi0];rfl
   rw[e1];rw[htk]at hsz;have hu:(5+458752*i)%65536=5:=m0
   generalize 5+458752*i=u0 at hu;have hpos:0<(cL l).size:=by
    obtain⟨v,hv⟩:=gol_ (show i-1<l.length by omega);have hsn:=GU (l.take (i-1)) v;rw[<- bR hv,show i-1+1=i by omega,htk]at hsn;obtain⟨q1,q2,q3⟩:=h v (arb hv);have:=(wd v.kind q1.1 q1.2).2;rw[hsn];show 0<(jD (cL (List.take (i-1) l)) [v.kind,v.int,(v.text.size:Int)]++v.text).size;have e3:jD (cL (List.take (i-1) l)) [v.kind,v.int,(v.text.size:Int)]=cL (List.take (i-1) l)++jn v.kind++c32++jn v.int++c32++jn v.text.size++c32:=rfl;rw[e3];simp only[ByteArray.size_append];omega
   generalize cL l=s0 at hsz hpos
   repeat' (first|refine gw_ g9 f8 ?_|refine gi_ (fun hb=>?_) (fun hb=>?_)|fail)
   refine cK [0,1] rfl rfl rfl rfl (alA u0 s0 hu hpos m0) rfl (rf2 rfl rfl rfl (by show 0<2;omega) (fun y hy=>by rcases arp.1 hy with rfl|hy<;>first|(show 0<2;omega)|(rcases arp.1 hy with rfl|hy<;>first|exact True.intro|cases hy)|cases hy)) rfl (Ee rfl rfl (L':=[fe (.ep 0 (238+65536) 0 0) u0 s0 0,.dead]) rfl) ?_
   repeat' (first|refine gw_ g9 f8 ?_|refine gi_ (fun hb=>?_) (fun hb=>?_)|fail)
   exact a6 (bj rfl (by trivial) rfl)
