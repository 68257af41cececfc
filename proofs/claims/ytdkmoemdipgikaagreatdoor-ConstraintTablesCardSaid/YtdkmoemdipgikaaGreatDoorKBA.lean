/- Parts. No condition. -/
import Derived.Test.YtdkmoemdipgikaaGreatDoorKAY
import Derived.Test.YtdkmoemdipgikaaGreatDoorKAZ
import Derived.Test.YtdkmoemdipgikaaGreatDoorKAH
import Derived.Test.YtdkmoemdipgikaaGreatDoorKAM
import Derived.Shelf.LaysM
import Derived.Shelf.Strconv.Itoa3
import Derived.Ground.NamesProg
import Derived.Lib.Walk
import Derived.Lib.ItoaMem
import Derived.BigCall
import Derived.BigGuard
import Derived.Lib.AppendIntMem
set_option linter.unusedSimpArgs false
set_option linter.unusedVariables false
namespace Go.Proofs.YtdkmoemdipgikaaGreatDoor.St
open Go.RowKit
def cP (p:Int×Int):List AC:=[.int .i64 p.1,.int .i64 p.2]
def cC (p:(Int×Int)×Int):List AC:=[.int .i64 p.1.1,.int .i64 p.1.2,.int .i64 p.2]
section
variable {P:Program} {R:PH} {w:World}
theorem afR {α:Type}{enc:α->List Value}{ec:α->List AC}{k:Nat}(hk:∀ x,(ec x).length=k)(hkv:∀ x,(enc x).length=k)(hk0:0<k)(hrep:∀ x (j:Nat) u y v,(enc x)[j]?=some u->(ec x)[j]?=some y->bg R v y->v=u)
  (hR:∀ b o u,R b o=some u->w.cell? ⟨b,o,none⟩=some u) {v:Value} {l:List α} (h:bg R v (.lst (l.map ec))):∃ A c,v = .slice A l.length c/\Rd enc k w w.heap.size A l.length l:=by
 obtain⟨a,c,news,rfl,hc,hcells,hreg⟩:=qK (k:=k) h (by intro e he;simp only[am6]at he;obtain⟨x,_,rfl⟩:=he;exact hk x);refine⟨a,c,m5,rfl,fun hp=>?_⟩;obtain⟨b,o,rfl,hb⟩:=hreg (by simpa using hp);have key:∀ (i:Nat) x,l[i]?=some x ->∀ (j:Nat) u,(enc x)[j]?=some u->w.cell? ⟨b,o+(i*k+j),none⟩=some u:=by
  intro i x hx j u hu;have he:(l.map ec)[i]?=some (ec x):=by rw[amT,hx];rfl
  have hj:j<(ec x).length:=by rw[hk,<- hkv x];exact(amw.1 hu).1
  obtain⟨u0,h0,p0⟩:=hcells.get i _ j _ he (amF hj);rw[hrep x j u _ u0 hu (amF hj) p0]at h0;exact hR _ _ _ (hb _ _ h0)
 refine⟨b,o,rfl,?_,fun i x hx j u hu=>?_⟩
 ·obtain⟨x,hx⟩:=gol_ hp
  obtain⟨u,hu⟩:=gol_ (show 0<(enc x).length by rw[hkv];exact hk0);exact lt_of_cell (key 0 x hx 0 u hu)
 ·rw[Nat.add_assoc];exact key i x hx j u hu
def rO (R:PH)(w w':World):PHf:=fun b o=>if b<w.heap.size then R b o else w'.cell? ⟨b,o,none⟩
theorem Dx (hR:∀ b o u,R b o=some u->w.cell? ⟨b,o,none⟩=some u)(w':World):∀ b o u,R b o=some u->rO R w w' b o=some u:=fun b o u h=>by
 have:=lt_of_cell (hR b o u h);unfold rO;rw[if_pos this];exact h
def acS (R:PH)(w w':World)(hR:∀ b o u,R b o=some u->w.cell? ⟨b,o,none⟩=some u):PH:=R.put (rO R w w') (Dx hR w')
theorem mQ (hR:∀ b o u,R b o=some u->w.cell? ⟨b,o,none⟩=some u){w':World}(hg:Gr w w'):Ext (· <w.heap.size) R (acS R w w' hR) w w' /\ ∀ b o u,acS R w w' hR b o=some u->w'.cell? ⟨b,o,none⟩=some u:=by
 refine⟨⟨Kept.of hg.out,Dx hR w',fun b o hb=>?_⟩,fun b o u h=>?_⟩
 ·show rO R w w' b o=_
  unfold rO;rw[if_pos hb]
 ·have h:rO R w w' b o=some u:=h
  unfold rO at h;split at h
  ·rename_i hb;rw[hg.cells.1 b o hb];exact hR _ _ _ h
  ·exact h
theorem Jz (hR:∀ b o u,R b o=some u->w.cell? ⟨b,o,none⟩=some u){w':World}{E:TypeId}{v:Value}{l:List (Int×Int)}(ho:Own e2 2 E w' w.heap.size v l):bg (acS R w w' hR) v (.lst (l.map cP)):=by
 obtain⟨A,c,rfl⟩:=ho.form;have hrd:=ho.rds dy;have hlt:=World.ownsRow.lt ho;have hc:l.length<=c:=by
  rcases ho.2 with⟨hv,hn⟩|⟨g,cap,cur,hv,_,_,hle,_⟩
  ·omega
  ·injection hv with _ _ h3;omega
 by_cases hz:l.length=0
 ·have:l=[]:=amW hz
  subst this;exact cO _ _ _
 ·obtain⟨b,o,rfl,hb,hcell⟩:=hrd.2 m0
  have hge:w.heap.size<=b:=(hlt b rfl).1;have key:∀ (i:Nat) x,l[i]?=some x->acS R w w' hR b (o+(i*2+0))=some (.int .i64 x.1)/\acS R w w' hR b (o+(i*2+1))=some (.int .i64 x.2):=by
   intro i x hx;show rO R w w' b _=_/\rO R w w' b _=_;unfold rO;rw[if_neg m0,if_neg m0,<- Nat.add_assoc,<- Nat.add_assoc];exact⟨hcell i x hx 0 _ rfl,hcell i x hx 1 _ rfl⟩
  refine .lst _ _ _ _ 2 (fun j=>(acS R w w' hR b (o+j)).getD Go.undef) b o m5 hc (by intro e he;simp only[am6]at he;obtain⟨x,_,rfl⟩:=he;rfl) (fun _=>rfl) (fun j hj=>?_) (fun i e j y he hy=>?_)
  ·have hi:j/2<l.length:=m0
   have hx:l[j/2]?=some l[j/2]:=amF hi;have:=key _ _ hx;have hm:j=j/2*2+j%2:=m0
   rcases Nat.mod_two_eq_zero_or_one j with h0|h0
   ·rw[h0]at hm;rw[hm,this.1];rfl
   ·rw[h0]at hm;rw[hm,this.2];rfl
  ·rw[amT]at he
   cases hx:l[i]? with
   |none=>simp[hx]at he
   |some x =>
    rw[hx]at he;simp only[Option.map_some,Option.some.injEq]at he;subst he;have:=key i x hx
    match j,hy with
    |0,hy=>simp[cP]at hy;subst hy;rw[this.1];exact .int _ _
    |1,hy=>simp[cP]at hy;subst hy;rw[this.2];exact .int _ _
    |j+2,hy=>simp[cP]at hy
theorem tL {v:Value}{k:IntKind}{n:Int}(h:bg R v (.int k n)):v = .int k n:=by cases h;rfl
theorem ajc (hR:∀ b o u,R b o=some u->w.cell? ⟨b,o,none⟩=some u){v:Value}{l:List ((Int×Int)×Int)}(h:bg R v (.lst (l.map cC))):∃ A c,v = .slice A l.length c/\Rd e3 3 w w.heap.size A l.length l :=
 afR (k:=3) (fun _=>rfl) GM m9 (fun x j u y v hu hy hv=>by
  match j,hu,hy with
  |0,hu,hy=>simp[e3]at hu;simp[cC]at hy;subst hu hy;exact tL hv
  |1,hu,hy=>simp[e3]at hu;simp[cC]at hy;subst hu hy;exact tL hv
  |2,hu,hy=>simp[e3]at hu;simp[cC]at hy;subst hu hy;exact tL hv
  |j+3,hu,hy=>simp[cC]at hy) hR h
end
theorem OI {vs:Array Value}{p:PV}(h:vs.size=[p].length):∃ v,vs=#[v]:=by
 obtain⟨l⟩:=vs
 match l,h with
 |[a],_=>exact⟨a,rfl⟩
abbrev Hf (l:List ((Int×Int)×Int)):List (Int×Int):=dI (ga l) (ed l)
theorem agH (l:List ((Int×Int)×Int))(hn:l.length<=100000):PTz 124 [.one (.lst (l.map cC))] (.val (.one (.lst ((Hf l).map cP)))):=by
 refine⟨⟨_,Tryz.func124,k7,k7⟩,fun R w vs hR hs hv=>?_⟩;obtain⟨v,rfl⟩:=OI hs;obtain⟨A,c,rfl,ha⟩:=ajc hR (hv 0 v _ rfl rfl);refine(ag4 A _ c l w ha hn).mono ?_;rintro e w' ⟨A',m',c',rfl,ho,hg⟩;exact⟨_,_,rfl,(mQ hR hg).1,(mQ hR hg).2,Jz hR ho⟩
end Go.Proofs.YtdkmoemdipgikaaGreatDoor.St
namespace Go.Proofs.YtdkmoemdipgikaaGreatDoor
def toP (p:au):Int×Int:=(p.lo,p.hi)
def toS (s:Stp):Int×Int:=(s.lo,s.n)
def ofS (x:Int×Int):Stp:=⟨x.1,x.2⟩
def toC (c:ji):(Int×Int)×Int:=(toP c.period,c.n)
def ip (l:List ji):List Stp:=(St.Hf (l.map toC)).map ofS
theorem ag7 (l:List ji):(l.map toC).map St.cC=l.map ol:=by rw[List.map_map];rfl
theorem agj (l:List (Int×Int)):(l.map ofS).map dM=l.map St.cP:=by rw[List.map_map];rfl
theorem agM (l:List ji)(hn:l.length<=100000):PTz 124 [.one (.lst (l.map ol))] (.val (.one (.lst ((ip l).map dM)))):=by
 have:=St.agH (l.map toC) (by simpa using hn);rw[ag7]at this;unfold ip;rw[agj];exact this
open Go.RowKit Go.MapKept
set_option maxRecDepth 100000
set_option maxHeartbeats 8000000
def uz (a b:Val):Option (au×Bool):=some (⟨a.int,b.int⟩,decide (a.kind=1)&&decide (b.kind=1))
theorem afF {vs:Array Value}{p q:PV}(h:vs.size=[p,q].length):∃ v u,vs=#[v,u]:=by
 obtain⟨l⟩:=vs
 match l,h with
 |[a,b],_=>exact⟨a,b,rfl⟩
theorem ND {R:PH}{v:Val}{u:Value}(h:(PV.agg (cV v)).rep R u):u = .agg #[.int .i64 v.kind,.int .i64 v.int,.string v.text]:=by
 obtain⟨vs,rfl,hs,hc⟩:=h;obtain⟨l⟩:=vs
 match l,hs with
 |[a,b,c],_ =>
  have h0:=hc 0 a _ rfl rfl;have h1:=hc 1 b _ rfl rfl;have h2:=hc 2 c _ rfl rfl
  cases h0;cases h1;cases h2;rfl
theorem wE {a b:Val}{r:au×Bool}(H:uz a b=some r):PTz 159 [.agg (cV a),.agg (cV b)] (.tup [.agg (aH r.1),.one (.bool r.2)]):=by
 obtain rfl:=am3 H;refine⟨⟨_,Tryz.func159,k7,k7⟩,fun R w vs hR hs hv=>?_⟩;obtain⟨v,u,rfl⟩:=afF hs;have hv0:=ND (hv 0 v _ rfl rfl);have hv1:=ND (hv 1 u _ rfl rfl);subst hv0 hv1;refine(St.H6 a.kind a.int b.kind b.int a.text b.text w).mono ?_;rintro e w' ⟨rfl,hg⟩;refine⟨_,_,rfl,(St.mQ hR hg).1,(St.mQ hR hg).2,⟨_,rfl,rfl,fun j u p hu hp=>?_⟩⟩
 match j,hu,hp with
 |0,hu,hp =>
  simp at hu hp;subst hu hp;refine⟨_,rfl,rfl,fun j u p hu hp=>?_⟩
  match j,hu,hp with
  |0,hu,hp=>simp[aH]at hu hp;subst hu hp;exact .int _ _
  |1,hu,hp=>simp[aH]at hu hp;subst hu hp;exact .int _ _
  |j+2,hu,hp=>simp[aH]at hp
 |1,hu,hp=>simp at hu hp;subst hu hp;exact .bool _
 |j+2,hu,hp=>simp at hp
def pU (a_rel:Int)(a_l:(List Val)):Option (Val):=(aq a_l (0:Int)).bind fun x_1=>(aq a_l (1:Int)).bind fun x_2=>(uz x_1 x_2).bind fun r_3=>(aq a_l (2:Int)).bind fun x_4=>(aq a_l (3:Int)).bind fun x_5=>(uz x_4 x_5).bind fun r_6=>(adC r_3.1 r_6.1).bind fun r_7=>bif (!r_3.2)then(gD ).bind fun r_9=>some r_9 else
 bif (!r_6.2)then(gD ).bind fun r_11=>some r_11 else
 bif (!r_7.2)then(gD ).bind fun r_13=>some r_13 else
 (pz (decide (r_7.1=a_rel))).bind fun r_14=>some r_14
instance gRelated_ok {a_rel : Int} {a_l : (List Val)} {r : Val} : OkC (pU a_rel a_l = some r) (PTz 103 [.one (.int .i64 a_rel), .one (.lst (a_l.map cV))] (.val (.agg (cV r)))) := .mk fun H => by
 unfold pU at H;refine po_ Tryz.func103 Tryz.ntmps103 ?_;obtain⟨x_1,i1z,i1,i1x,H⟩:=aY (f:=cV) H;obtain⟨x_2,i2z,i2,i2x,H⟩:=aY (f:=cV) H;obtain⟨r_3,c3,H⟩:=bd_ H;replace c3:=wE c3;obtain⟨x_4,i4z,i4,i4x,H⟩:=aY (f:=cV) H;obtain⟨x_5,i5z,i5,i5x,H⟩:=aY (f:=cV) H;obtain⟨r_6,c6,H⟩:=bd_ H;replace c6:=wE c6;exact ax H
set_option maxHeartbeats 8000000
set_option maxHeartbeats 8000000
def xP (rec:Ex->List Val->Option Val)(a_e:Ex)(a_row:(List Val)):Option (Int):=(rec a_e a_row).bind fun r_1=>(iw r_1).bind fun r_2=>some r_2
theorem K4 {rec:Ex->List Val->Option Val}  (hrec:∀ {x:Ex} {y:List Val} {r:Val},rec x y=some r->PTz 67 [.agg (tE x),.one (.lst (y.map cV))] (.val (.agg (cV r)))){a_e:Ex}{a_row:(List Val)}{r:Int}(H:xP rec a_e a_row=some r):PTz 39 [.agg (tE a_e),.one (.lst (a_row.map cV))] (.val (.one (.int .i64 r))):=by
 unfold xP at H;rw[aN a_e];refine po_ Tryz.func39 Tryz.ntmps39 ?_;obtain⟨r_1,c1,H⟩:=bd_ H;replace c1:=hrec c1
 try simp only[amJ,amH,amL,amB,aN]at c1
 exact ax H
def mF (c_15:(List Val)):(Int)->Option (Step (Int) (Val)):=fun s=>match s with
 |v_30=>bif (decide (v_30<((c_15.length:Nat):Int)))then(aq c_15 v_30).bind fun x_32=>bif (decide (x_32.kind≠(0:Int)))then some (.ret x_32)else
 some (.next (IntKind.i64.wrap (v_30+(1:Int))))else
 some (.exit v_30)
def js:Sum (Int) (Val)->Option ((Val))
 |.inl v_30=>(gD ).bind fun r_34=>some r_34
 |.inr q=>some q
def l6 (a_e:Ex)(a_row:(List Val))(rec:Ex->List Val->Option Val):((List Val)×Int)->Option (Step ((List Val)×Int) (Val)):=fun s=>match s with
 |(c_15,v_16)=>bif (decide (v_16<((a_e.args.length:Nat):Int)))then(aq a_e.args v_16).bind fun x_18=>(rec x_18 a_row).bind fun r_19=>bif (decide (0<=v_16))then(bif (decide (v_16<((a_e.args.length:Nat):Int)))then(bif (decide ((0+v_16.toNat)<c_15.length))then(some (.next ((c_15.set (0+v_16.toNat) r_19),(IntKind.i64.wrap (v_16+(1:Int))))))else none)else none)else none else
 some (.exit (c_15,v_16))
def br (a_e:Ex):Sum ((List Val)×Int) (Val)->Option ((Val))
 |.inl (c_15,v_16)=>bif (decide (c_15.length=a_e.args.length))then(bif (decide (a_e.op=(4:Int)))then(jV a_e.op c_15).bind fun r_21=>some r_21 else
 bif (decide (a_e.op=(5:Int)))then(jV a_e.op c_15).bind fun r_23=>some r_23 else
 bif (decide (a_e.op=(6:Int)))then(jV a_e.op c_15).bind fun r_25=>some r_25 else
 bif (decide (a_e.op=(21:Int)))then(aq c_15 (0:Int)).bind fun x_27=>(pz (decide (x_27.kind=(0:Int)))).bind fun r_28=>some r_28 else
 bif (decide (a_e.op=(23:Int)))then(ap (mF c_15) fuel (0:Int)).bind (js)else
 bif (decide (a_e.op=(24:Int)))then(pU a_e.int c_15).bind fun r_36=>some r_36 else
 bif (decide (a_e.op=(19:Int)))then(pp a_e.op c_15).bind fun r_38=>some r_38 else
 bif (decide (a_e.op=(20:Int)))then(pp a_e.op c_15).bind fun r_40=>some r_40 else
 bif (decide (a_e.op=(13:Int)))then(iS a_e.op c_15).bind fun r_42=>some r_42 else
 bif (decide (a_e.op=(14:Int)))then(iS a_e.op c_15).bind fun r_44=>some r_44 else
 bif (decide (a_e.op=(15:Int)))then(iS a_e.op c_15).bind fun r_46=>some r_46 else
 bif (decide (a_e.op=(16:Int)))then(iS a_e.op c_15).bind fun r_48=>some r_48 else
 bif (decide (a_e.op=(17:Int)))then(iS a_e.op c_15).bind fun r_50=>some r_50 else
 bif (decide (a_e.op=(18:Int)))then(iS a_e.op c_15).bind fun r_52=>some r_52 else
 (aq c_15 (0:Int)).bind fun x_53=>(aq c_15 (1:Int)).bind fun x_54=>(iK a_e.op x_53 x_54).bind fun r_55=>(ud r_55).bind fun r_56=>some r_56)else none
 |.inr q=>some q
def uW (rec:Ex->List Val->Option Val)(a_e:Ex)(a_row:(List Val)):Option (Val):=(om a_e).bind fun r_1=>bif (!r_1)then(gD ).bind fun r_3=>some r_3 else
 bif (decide (a_e.op=(1:Int)))then some a_e.v else
 bif (decide (a_e.op=(2:Int)))then(uo a_row a_e.int).bind fun r_6=>some r_6 else
 bif (decide (a_e.op=(22:Int)))then(aq a_e.args (0:Int)).bind fun x_8=>(xP rec x_8 a_row).bind fun r_9=>bif (decide (r_9=(2:Int)))then(aq a_e.args (1:Int)).bind fun x_11=>(rec x_11 a_row).bind fun r_12=>some r_12 else
 (aq a_e.args (2:Int)).bind fun x_13=>(rec x_13 a_row).bind fun r_14=>some r_14 else
 bif (decide (0<=((a_e.args.length:Nat):Int)))then(bif (decide ((32:Int)*((a_e.args.length:Nat):Int)<=281474976710656))then(bif (decide (((a_e.args.length:Nat):Int)<=9223372036854775807))then((ap (l6 a_e a_row rec) fuel ((List.replicate a_e.args.length ((⟨(0:Int),(0:Int),ByteArray.empty⟩:Val))),(0:Int))).bind (br a_e))else none)else none)else none
theorem eX {p q:Prop}(k:q)(h:Bx q->p:=by
 intro hq
 repeat' (first|refine bL rfl rfl rfl rfl rfl (vz tab_ok (k:=3) (by_:=32) rfl rfl rfl m9 rfl rfl rfl rfl rfl m9 m0 m0 m0) ?_|refine aai (enc:=cV) rfl rfl rfl rfl rfl m0 rfl (fun _=>rfl) rfl ?_|refine gs_ ?_|fail)
 exact hq.out):p:=h ⟨k⟩
theorem bW {p:Prop}(h:p:=by
 repeat' (first|refine bL rfl rfl rfl rfl rfl (vz tab_ok (k:=3) (by_:=32) rfl rfl rfl m9 rfl rfl rfl rfl rfl m9 m0 m0 m0) ?_|refine aai (enc:=cV) rfl rfl rfl rfl rfl m0 rfl (fun _=>rfl) rfl ?_|refine gs_ ?_|fail)
 refine aJ (aO rfl ?_ ?_)
 ·repeat' (first|exact t7|rfl|exact amG rfl|omega|apply And.intro)
 ·first|rfl|(simp only[amJ,amH,amL,amB]<;>rfl)):p:=h
theorem aaX {rec:Ex->List Val->Option Val}  (hrec:∀ {x:Ex} {y:List Val} {r:Val},rec x y=some r->PTz 67 [.agg (tE x),.one (.lst (y.map cV))] (.val (.agg (cV r)))){a_e:Ex}{a_row:(List Val)}{r:Val}(H:uW rec a_e a_row=some r):PTz 67 [.agg (tE a_e),.one (.lst (a_row.map cV))] (.val (.agg (cV r))):=by
 unfold uW at H;rw[aN a_e];refine po_ Tryz.func67 Tryz.ntmps67 ?_;obtain⟨r_1,c1,H⟩:=bd_ H;replace c1:=gFormed_ok c1
 try simp only[amJ,amH,amL,amB,aN]at c1
 rcases af H with⟨q_2,H⟩|⟨q_2,H⟩
 ·obtain⟨r_3,c2,H⟩:=bd_ H
  replace c2:=gNull_ok c2
  cases H;exact bW
 rcases af H with⟨q_4,H⟩|⟨q_4,H⟩
 ·cases H
  exact bW
 refine eX ?_;rcases af H with⟨q_5,H⟩|⟨q_5,H⟩
 ·obtain⟨r_6,c3,H⟩:=bd_ H
  replace c3:=gColumn_ok c3
  cases H;exact bW
 rcases af H with⟨q_7,H⟩|⟨q_7,H⟩
 ·obtain⟨x_8,i4z,i4,i4x,H⟩:=aY (f:=tE) H
  simp only[amJ,amH,amL,amB,aN]at i4x;obtain⟨r_9,c5,H⟩:=bd_ H;replace c5:=K4 hrec c5
  try simp only[amJ,amH,amL,amB,aN]at c5
  rcases af H with⟨q_10,H⟩|⟨q_10,H⟩
  ·obtain⟨x_11,i6z,i6,i6x,H⟩:=aY (f:=tE) H
   simp only[amJ,amH,amL,amB,aN]at i6x;obtain⟨r_12,c7,H⟩:=bd_ H;replace c7:=hrec c7
   try simp only[amJ,amH,amL,amB,aN]at c7
   cases H;exact bW
  obtain⟨x_13,i8z,i8,i8x,H⟩:=aY (f:=tE) H;simp only[amJ,amH,amL,amB,aN]at i8x;obtain⟨r_14,c9,H⟩:=bd_ H;replace c9:=hrec c9
  try simp only[amJ,amH,amL,amB,aN]at c9
  cases H;exact bW
 obtain⟨g10,H⟩:=bo H;obtain⟨g11,H⟩:=bo H;obtain⟨g12,H⟩:=bo H;refine eX ?_;refine alM_ (fun s:(List Val)×Int=>match s with|(c_15,v_16)=>[(1,.one (.c (.lst (a_row.map cV)))),(2,.one (.ptr 0 0)),(4,.one (.ptr 1 0)),(5,.one (.sl 2 (64+65536) 0 a_e.args.length)),(52,.one (.c (.lst (a_e.args.map tE)))),(53,.one (.c (.int .i64 ((a_e.args.length:Nat):Int)))),(54,.one (.c (.int .i64 v_16)))]) (fun s=>match s with|(c_15,v_16)=>[.box [.c (.int .i64 a_e.op),.c (.int .i64 a_e.int),.c (.int .i64 a_e.v.kind),.c (.int .i64 a_e.v.int),.c (.str a_e.v.text),.c (.str a_e.nm),.c (.lst (a_e.args.map tE))],.box [.c (.int .i64 (0:Int)),.c (.int .i64 (0:Int)),.c (.str ByteArray.empty)],.row (64+65536) ((c_15.map cV).map (List.map SV.c)) 3]) H (fun _=>amR _)
  (fm_ bH [] (by simp only[List.map_replicate]<;>rfl) a8 ⟨d_ r5,d_ r5,yM _ _ _ _ _,t7⟩) ?_
 rintro⟨c_15,v_16⟩ st1 hb1 hk1;unfold l6 at hb1;dsimp only at hb1 ⊢;rcases af hb1 with⟨q_17,hb1⟩|⟨q_17,hb1⟩
 ·obtain⟨x_18,i13z,i13,i13x,hb1⟩:=aY (f:=tE) hb1
  simp only[amJ,amH,amL,amB,aN]at i13x;obtain⟨r_19,c14,hb1⟩:=bd_ hb1;replace c14:=hrec c14
  try simp only[amJ,amH,amL,amB,aN]at c14
  obtain⟨g15,hb1⟩:=bo hb1;obtain⟨g16,hb1⟩:=bo hb1;obtain⟨g17,hb1⟩:=bo hb1
  cases hb1;refine eX ?_;exact⟨_,rfl,fm_ bH [_] rfl a8 ⟨d_ r5,d_ r5,yM _ _ _ _ _,t7⟩⟩
 cases hb1;have hx1:br a_e (.inl (c_15,v_16))=some _:=hk1;unfold br at hx1;dsimp only at hx1;obtain⟨g18,hx1⟩:=bo hx1;have z19:((c_15.map cV).drop 0).take a_e.args.length=c_15.map cV:=by rw[List.drop_zero,am_];rw[amI];omega
 refine nP 2 (cs:=c_15.map cV) rfl (qF _) ?_;simp only[amH,amL,thA,thS,and_self,if_true,eq_self,List.set,z19];refine eX ?_;rcases af hx1 with⟨q_20,hx1⟩|⟨q_20,hx1⟩
 ·obtain⟨r_21,c20,hx1⟩:=bd_ hx1
  replace c20:=gLogic_ok c20
  cases hx1;exact bW
 rcases af hx1 with⟨q_22,hx1⟩|⟨q_22,hx1⟩
 ·obtain⟨r_23,c21,hx1⟩:=bd_ hx1
  replace c21:=gLogic_ok c21
  cases hx1;exact bW
 rcases af hx1 with⟨q_24,hx1⟩|⟨q_24,hx1⟩
 ·obtain⟨r_25,c22,hx1⟩:=bd_ hx1
  replace c22:=gLogic_ok c22
  cases hx1;exact bW
 refine eX ?_;rcases af hx1 with⟨q_26,hx1⟩|⟨q_26,hx1⟩
 ·obtain⟨x_27,i23z,i23,i23x,hx1⟩:=aY (f:=cV) hx1
  obtain⟨r_28,c24,hx1⟩:=bd_ hx1;replace c24:=gBoolP_ok c24
  cases hx1;exact bW
 rcases af hx1 with⟨q_29,hx1⟩|⟨q_29,hx1⟩
 ·refine eX ?_
  refine alM_ (fun s:Int=>match s with|v_30=>[(4,.one (.ptr 1 0)),(86,.one (.c (.lst (c_15.map cV)))),(87,.one (.c (.int .i64 ((c_15.length:Nat):Int)))),(88,.one (.c (.int .i64 v_30)))]) (fun s=>match s with|v_30=>[.box [.c (.int .i64 a_e.op),.c (.int .i64 a_e.int),.c (.int .i64 a_e.v.kind),.c (.int .i64 a_e.v.int),.c (.str a_e.v.text),.c (.str a_e.nm),.c (.lst (a_e.args.map tE))],.box [.c (.int .i64 (0:Int)),.c (.int .i64 (0:Int)),.c (.str ByteArray.empty)],.dead]) hx1 (fun _=>amR _)
   (fm_ bH [] rfl a8 bZ) ?_
  rintro v_30 st2 hb2 hk2;unfold mF at hb2;dsimp only at hb2 ⊢;rcases af hb2 with⟨q_31,hb2⟩|⟨q_31,hb2⟩
  ·obtain⟨x_32,i25z,i25,i25x,hb2⟩:=aY (f:=cV) hb2
   refine eX ?_;rcases af hb2 with⟨q_33,hb2⟩|⟨q_33,hb2⟩
   ·cases hb2
    have hx2:js (.inr x_32)=some _:=hk2;unfold js at hx2;dsimp only at hx2
    cases hx2;exact bW
   cases hb2;refine eX ?_;exact⟨_,rfl,fm_ bH [_] rfl a8 bZ⟩
  cases hb2;have hx2:js (.inl v_30)=some _:=hk2;unfold js at hx2;dsimp only at hx2;obtain⟨r_34,c26,hx2⟩:=bd_ hx2;replace c26:=gNull_ok c26
  cases hx2;exact bW
 rcases af hx1 with⟨q_35,hx1⟩|⟨q_35,hx1⟩
 ·obtain⟨r_36,c27,hx1⟩:=bd_ hx1
  replace c27:=gRelated_ok c27
  cases hx1;exact bW
 refine eX ?_;rcases af hx1 with⟨q_37,hx1⟩|⟨q_37,hx1⟩
 ·obtain⟨r_38,c28,hx1⟩:=bd_ hx1
  replace c28:=gTextE_ok c28
  cases hx1;exact bW
 rcases af hx1 with⟨q_39,hx1⟩|⟨q_39,hx1⟩
 ·obtain⟨r_40,c29,hx1⟩:=bd_ hx1
  replace c29:=gTextE_ok c29
  cases hx1;exact bW
 rcases af hx1 with⟨q_41,hx1⟩|⟨q_41,hx1⟩
 ·obtain⟨r_42,c30,hx1⟩:=bd_ hx1
  replace c30:=gArith_ok c30
  cases hx1;exact bW
 refine eX ?_;rcases af hx1 with⟨q_43,hx1⟩|⟨q_43,hx1⟩
 ·obtain⟨r_44,c31,hx1⟩:=bd_ hx1
  replace c31:=gArith_ok c31
  cases hx1;exact bW
 rcases af hx1 with⟨q_45,hx1⟩|⟨q_45,hx1⟩
 ·obtain⟨r_46,c32,hx1⟩:=bd_ hx1
  replace c32:=gArith_ok c32
  cases hx1;exact bW
 rcases af hx1 with⟨q_47,hx1⟩|⟨q_47,hx1⟩
 ·obtain⟨r_48,c33,hx1⟩:=bd_ hx1
  replace c33:=gArith_ok c33
  cases hx1;exact bW
 refine eX ?_;rcases af hx1 with⟨q_49,hx1⟩|⟨q_49,hx1⟩
 ·obtain⟨r_50,c34,hx1⟩:=bd_ hx1
  replace c34:=gArith_ok c34
  cases hx1;exact bW
 rcases af hx1 with⟨q_51,hx1⟩|⟨q_51,hx1⟩
 ·obtain⟨r_52,c35,hx1⟩:=bd_ hx1
  replace c35:=gArith_ok c35
  cases hx1;exact bW
 obtain⟨x_53,i36z,i36,i36x,hx1⟩:=aY (f:=cV) hx1;obtain⟨x_54,i37z,i37,i37x,hx1⟩:=aY (f:=cV) hx1;obtain⟨r_55,c38,hx1⟩:=bd_ hx1;replace c38:=gComparison_ok c38;obtain⟨r_56,c39,hx1⟩:=bd_ hx1;replace c39:=gOfV2_ok c39
 cases hx1;exact bW
def th:Nat->Ex->List Val->Option Val
 |0,_,_=>none
 |n+1,e,r=>uW (th n) e r
theorem HB:∀ (n:Nat) {x:Ex} {y:List Val} {r:Val},th n x y=some r->PTz 67 [.agg (tE x),.one (.lst (y.map cV))] (.val (.agg (cV r)))
 |0,_,_,_,h=>nomatch h
 |n+1,_,_,_,h=>aaX (HB n) h
section
variable {P:Program} {ti:TI} {B:Nat->Prop} {N n0:Nat} {R:PH} {γ:List Gh} {L:List Ob} {T:Tm} {w:World} {Q:AX->Tm->List Ob->Prop}
theorem LY {c:Code}(id:Nat){ver k:Nat}{es:List (List SV)}{cs:List (List AC)}(hL:L[id]?=some (.row ver es k))(hn:eA es=some cs)(h:Aw P N n0 c Q T (L.set id (.row ver (cs.map (List.map SV.c)) k))):Aw P N n0 c Q T L:=by
 intro hn0 B R γ w a hi hT;have hlt:id<L.length:=(amw.1 hL).1;have hlen:=qG hn;have hM:Mv R R γ γ L (L.set id (.row ver (cs.map (List.map SV.c)) k)):=by
  refine⟨PH.sub_refl _,m5,fun t n k' _ e=>?_,fun t ver' es' k' _ e=>?_,fun _ _ e=>e⟩
  ·by_cases q:t=id
   ·subst q;rw[amP hlt]at e;cases e
   ·rw[amQ (Ne.symm q)]at e;exact⟨n,e,amM _,fun _=>rfl⟩
  ·by_cases q:t=id
   ·subst q;rw[amP hlt]at e;injection e with e;injection e with e1 e2 e3;subst e1 e2 e3
    exact⟨ver,es,hL,amM _,fun _=>⟨by simp[hlen],rfl⟩⟩
   ·rw[amQ (Ne.symm q)]at e;exact⟨ver',es',e,amM _,fun _=>⟨rfl,rfl⟩⟩
 have hI:Inv B R γ (L.set id (.row ver (cs.map (List.map SV.c)) k)) w:=by
  refine⟨by simp[hi.len],hi.val,fun t x g hx hg=>?_,hi.inj,hi.new,hi.bsz⟩;by_cases q:t=id
  ·subst q
   rw[amP hlt]at hx;injection hx with hx;subst hx
   have ho:=hi.obj t _ _ hL hg
   match g,ho with
   |.none,ho =>
    have ho:es=[]:=ho;subst ho;have:cs=[]:=amW (by rw[<- hlen];rfl);subst this;exact rfl
   |.arr b cc,⟨⟨vs,E,h1,h2,h3⟩,h4,h5,h6,h7⟩ =>
    refine⟨⟨vs,E,h1,h2,fun i e j u x he hu hx=>?_⟩,by simpa[hlen]using h4,h5,fun e he=>?_,h7⟩
    ·rw[amT]at he
     cases hc:cs[i]? with
     |none=>rw[hc]at he;cases he
     |some c0 =>
      rw[hc]at he;injection he with he;subst he
      obtain⟨e0,he0,hn0'⟩:=np hn i c0 hc;rw[amT]at hx
      cases hj:c0[j]? with
      |none=>rw[hj]at hx;cases hx
      |some y =>
       rw[hj]at hx;injection hx with hx;subst hx
       obtain⟨x0,hx0⟩:=gol_ (show j<e0.length by rw[<- dF hn0'];exact(amw.1 hj).1);exact SV.norm_rep (h3 i e0 j u x0 he0 hu hx0) (hY hn0' j x0 y hx0 hj)
    ·obtain⟨c0,hc0,rfl⟩:=am6.1 he
     obtain⟨i,hi0⟩:=List.getElem?_of_mem hc0;obtain⟨e0,he0,hn0'⟩:=np hn i c0 hi0;rw[amI,dF hn0'];exact h6 e0 (amC he0)
  ·rw[amQ (Ne.symm q)]at hx
   exact(hi.obj t x g hx hg).mv hM (fun _ _=>rfl) (fun _ _ _ e=>e)
 refine wp_mono (h (by simpa using hn0) B R γ w a hI (hT.mv hM)) fun _ _ _ hh=>hh.ext (Ext.refl _ _ _) hi.len (fP.of hn0 hM)
end
theorem bq:∀ {n:Nat} {L:List Ob},od n L ->∀ x∈L,x.below n
 |_,_::_,h,x,hx=>by
  rcases amN.1 hx with rfl|hx
  ·exact h.1
  ·exact bq h.2 x hx
def gC (x:AC):List SV:=[.c x]
def akq:TI :={ xm with soft:=true }
theorem a_:TIok Tryz.prog akq:=⟨ae.size,ae.agg,ae.elem,ae.field,ae.zero,ae.bytes,ae.kind,ae.struct,ae.zok,ae.eqs⟩
theorem Of (σ:List Nat)(v k:Nat)(l:List AC):(Ob.row v (l.map gC) k).ren σ=Ob.row v (l.map gC) k:=by
 simp only[Ob.ren,List.map_map];rfl
theorem j1 {L L':List Ob}{v k:Nat}{l:List AC}(h:L.set 0 (Ob.row v (l.map gC) k)=L'):joinL [0] L [Ob.row v (l.map gC) k]=L':=by
 subst h;simp[joinL,join,dp,ct,jN,Of]
theorem bS {n:Nat}{l:List AV}(h:eF n (l.map fun x=>(0,x))):∀ y∈l,y.below n:=by
 induction l with
 |nil=>intro y hy;cases hy
 |cons x l ih =>
  intro y hy;rcases amN.1 hy with rfl|hy
  ·exact h.1
  ·exact ih h.2 y hy
def vOf:List AC->Val
 |[.int _ k,.int _ n,.str t]=>⟨k,n,t⟩
 |_=>⟨0,0,⟨#[]⟩⟩
def akc:AC->AC->Int
 |.lst a,.lst b=>bQ (a.map vOf) (b.map vOf)
 |_,_=>0
theorem afv (l:List Val):(l.map cV).map vOf=l:=by
 rw[List.map_map];have:vOf∘cV=id:=rfl;rw[this,List.map_id]
def cN (p:SV)(u:Nat)(s:ByteArray)(i:Nat):Ob := .row (147+65536) [[p,.sl (i+1) u 0 s.size]] 2
def cU (u:Nat)(s:ByteArray):Ob := .row u (bf s) 1
theorem ahV : ∃ fn, Tryz.prog.funcs[213]? = some fn /\ (fn.name == "runtime.NumGoroutine") = false /\ fn.body.isNone = true /\ Extern.findNext fn = none /\ Extern.find fn = some Extern.AbiNoEscape.same := ⟨_, Tryz.func213, by kernel_rfl, by kernel_rfl, by kernel_rfl, by kernel_rfl⟩
theorem Oc:∃ j,Tryz.prog.info? 147=some j/\j.size=2:=by
 have h:(Tryz.prog.info? 147).map (·.size)=some 2:=k7
 cases hi:Tryz.prog.info? 147 with
 |none=>rw[hi]at h;cases h
 |some j=>rw[hi]at h;exact⟨j,rfl,by simpa using h⟩
theorem bF {n v k:Nat}{a b:SV}(ha:a.below n)(hb:b.below n):(Ob.row v [[a,b]] k).below n:=by
 intro e he x hx;rcases amN.1 he with rfl|he
 ·rcases amN.1 hx with rfl|hx
  ·exact ha
  ·rcases amN.1 hx with rfl|hx
   ·exact hb
   ·cases hx
 ·cases he
theorem aK (n u:Nat)(s:ByteArray):(cU u s).below n:=by
 intro e he x hx;obtain⟨y,_,rfl⟩:=am6.1 he;rcases amN.1 hx with rfl|hx
 ·trivial
 ·cases hx
theorem bG (s:ByteArray):(bf s).length=s.size:=by unfold bf;rw[amI];simp
theorem gI (s t:ByteArray):bf (s++t)=bf s++bf t:=by
 unfold bf;rw[<- amJ];congr 1
theorem H7 (σ:List Nat)(s:ByteArray):(bf s).map (List.map (SV.ren σ))=bf s:=by
 unfold bf;rw[List.map_map];rfl
theorem ee (σ:List Nat)(u:Nat)(s:ByteArray):(cU u s).ren σ=cU u s:=by simp only[cU,Ob.ren,H7]
theorem tf {i j:Nat}{L L':List Ob}{a b a' b':Ob}(ha:a.ren [i,j]=a')(hb:b.ren [i,j]=b')(h:(L.set i a').set j b'=L'):joinL [i,j] L [a,b]=L':=by
 subst ha hb h;simp[joinL,join,dp,ct,jN]
theorem qd {L:List Ob}{a b:Ob}{x:AV}{xs:List AV}{i j:Nat}(h0:L[i]?=some (a.ren [i,j]))(h1:L[j]?=some (b.ren [i,j]))(hne:i≠j)(ha:a.below 2)(hb:b.below 2)(hx:∀ y∈x::xs,y.below 2):eQ [i,j] [a,b] (x::xs) L:=by
 refine⟨rfl,by simp[hne],fun k y hy=>?_,bq ⟨ha,hb,t7⟩,hx⟩
 match k,hy with
 |0,hy=>simp at hy;subst hy;exact h0
 |1,hy=>simp at hy;subst hy;exact h1
 |k+2,hy=>simp at hy
theorem J_:Tryz.prog.cellsOf 147=2:=k7
theorem adn:Tryz.prog.cellsOf 5=1:=k7
theorem o9 (x:SV)(o:Ob)(hx:x.below 2)(ho:o.below 2):RTz 181 [.row (147+65536) [[(.c (.nul .ptr)),x]] 2,o] [.one (.ep 0 (147+65536) 0 0)] [.row (147+65536) [[(.ep 0 (147+65536) 0 0),x]] 2,o] (.tup []):=by
 obtain⟨j,hj,hj2⟩:=Oc;obtain⟨fn,hf,hnm,hbd,hnx,hfd⟩:=ahV;refine cw ae Tryz.func181 rfl rfl Tryz.ntmps181 m5 ?_;simp only[dN]
 repeat' (first|refine gw_ ae a_ ?_|refine gi_ (fun hb=>?_) (fun hb=>?_)|(refine cR rfl rfl rfl rfl rfl (vG rfl rfl (ae.kind 144 _ rfl)) ?_)|(refine cR rfl rfl rfl rfl rfl (pO rfl rfl rfl (ae.kind 144 _ rfl)) ?_)|(refine cR rfl rfl rfl rfl rfl (qi rfl rfl rfl (ae.kind 144 _ rfl) hj) ?_)|(refine cR rfl rfl rfl rfl rfl (ke rfl rfl (ae.kind 144 _ rfl) (ae.kind 210 _ rfl) hj (by rw[hj2];decide)) ?_)|(refine cR rfl rfl rfl rfl rfl (nS rfl rfl (ae.kind 210 _ rfl) (ae.kind 144 _ rfl) hj J_ rfl) ?_)|(refine bL rfl rfl rfl rfl rfl (oP rfl hf hnm hbd hnx hfd) ?_)|fail)
 all_goals exact⟨.inl rfl,⟨.inr ⟨.tup [],⟨t7,rfl⟩,rfl⟩,⟨[],rfl⟩,m5,bq ⟨bF (by show 0<2;omega) hx,ho,t7⟩,by simp[CV.av,AV.below]⟩⟩
theorem pE (x:SV)(o:Ob)(hx:x.below 2)(ho:o.below 2):RTz 181 [.row (147+65536) [[(.ep 0 (147+65536) 0 0),x]] 2,o] [.one (.ep 0 (147+65536) 0 0)] [.row (147+65536) [[(.ep 0 (147+65536) 0 0),x]] 2,o] (.tup []):=by
 obtain⟨j,hj,hj2⟩:=Oc;obtain⟨fn,hf,hnm,hbd,hnx,hfd⟩:=ahV;refine cw ae Tryz.func181 rfl rfl Tryz.ntmps181 m5 ?_;simp only[dN]
 repeat' (first|refine gw_ ae a_ ?_|refine gi_ (fun hb=>?_) (fun hb=>?_)|(refine cR rfl rfl rfl rfl rfl (vG rfl rfl (ae.kind 144 _ rfl)) ?_)|(refine cR rfl rfl rfl rfl rfl (pO rfl rfl rfl (ae.kind 144 _ rfl)) ?_)|(refine cR rfl rfl rfl rfl rfl (qi rfl rfl rfl (ae.kind 144 _ rfl) hj) ?_)|(refine cR rfl rfl rfl rfl rfl (ke rfl rfl (ae.kind 144 _ rfl) (ae.kind 210 _ rfl) hj (by rw[hj2];decide)) ?_)|(refine cR rfl rfl rfl rfl rfl (nS rfl rfl (ae.kind 210 _ rfl) (ae.kind 144 _ rfl) hj J_ rfl) ?_)|(refine bL rfl rfl rfl rfl rfl (oP rfl hf hnm hbd hnx hfd) ?_)|fail)
 all_goals exact⟨.inl rfl,⟨.inr ⟨.tup [],⟨t7,rfl⟩,rfl⟩,⟨[],rfl⟩,m5,bq ⟨bF (by show 0<2;omega) hx,ho,t7⟩,by simp[CV.av,AV.below]⟩⟩
theorem Ge (u:Nat)(s:ByteArray)(t:ByteArray)(hu:u%65536=5)(hs:s.size<=100000000000000)(ht:t.size<=1000000000000):RTz 127 [cN (.c (.nul .ptr)) u s 0,cU u s] [.one (.ep 0 (147+65536) 0 0),.one (.c (.str t))] [cN (.ep 0 (147+65536) 0 0) (u+65536) (s++t) 0,cU (u+65536) (s++t)] (.tup [.one (.int .i64 t.size),.one (.nul .iface)]):=by
 refine cw ae Tryz.func127 rfl rfl Tryz.ntmps127 m5 ?_;simp only[dN];unfold cN
 repeat' (first|(refine bL rfl rfl rfl rfl rfl (dD ae (k:=1) (by_:=1) (xs:=bf t) rfl rfl rfl rfl ⟨rfl,rfl⟩ rfl hu rfl rfl rfl m0 (by exact bG s) (by rw[bG];omega) (by rw[bG];omega)) ?_)|(refine cB [0,1] rfl rfl rfl rfl (o9 (.sl 1 u 0 s.size) (cU u s) (by show 1<2;omega) (aK _ _ _)) rfl (qd r5 (by rw[ee];rfl) m9 (bF trivial (by show 1<2;omega)) (aK _ _ _) (fun y hy=>by rcases amN.1 hy with rfl|hy<;>first|(show 0<2;omega)|cases hy)) rfl (tf rfl (ee _ _ _) rfl) ?_)|refine gw_ ae a_ ?_|refine gi_ (fun hb=>?_) (fun hb=>?_)|fail)
 all_goals refine⟨.inr rfl,⟨.inr ⟨.tup [.one (.int .i64 t.size),.one (.nul .iface)],⟨⟨t7,t7,t7⟩,rfl⟩,rfl⟩,⟨[],?_⟩,m5,bq ⟨bF (by show 0<2;omega) (by show 1<2;omega),aK _ _ _,t7⟩,t7⟩⟩
 all_goals (rw[am5];show [Ob.row _ [[_,SV.sl (0+1) (u+65536) 0 (s.size+(bf t).length)]] 2,Ob.row (u+65536) (bf s++bf t) 1]=_;rw[bG,<- gI,<- ByteArray.size_append];rfl)
theorem nY (u:Nat)(s:ByteArray)(t:ByteArray)(hu:u%65536=5)(hs:s.size<=100000000000000)(ht:t.size<=1000000000000):RTz 127 [cN (.ep 0 (147+65536) 0 0) u s 0,cU u s] [.one (.ep 0 (147+65536) 0 0),.one (.c (.str t))] [cN (.ep 0 (147+65536) 0 0) (u+65536) (s++t) 0,cU (u+65536) (s++t)] (.tup [.one (.int .i64 t.size),.one (.nul .iface)]):=by
 refine cw ae Tryz.func127 rfl rfl Tryz.ntmps127 m5 ?_;simp only[dN];unfold cN
 repeat' (first|(refine bL rfl rfl rfl rfl rfl (dD ae (k:=1) (by_:=1) (xs:=bf t) rfl rfl rfl rfl ⟨rfl,rfl⟩ rfl hu rfl rfl rfl m0 (by exact bG s) (by rw[bG];omega) (by rw[bG];omega)) ?_)|(refine cB [0,1] rfl rfl rfl rfl (pE (.sl 1 u 0 s.size) (cU u s) (by show 1<2;omega) (aK _ _ _)) rfl (qd r5 (by rw[ee];rfl) m9 (bF (by show 0<2;omega) (by show 1<2;omega)) (aK _ _ _) (fun y hy=>by rcases amN.1 hy with rfl|hy<;>first|(show 0<2;omega)|cases hy)) rfl (tf rfl (ee _ _ _) rfl) ?_)|refine gw_ ae a_ ?_|refine gi_ (fun hb=>?_) (fun hb=>?_)|fail)
 all_goals refine⟨.inr rfl,⟨.inr ⟨.tup [.one (.int .i64 t.size),.one (.nul .iface)],⟨⟨t7,t7,t7⟩,rfl⟩,rfl⟩,⟨[],?_⟩,m5,bq ⟨bF (by show 0<2;omega) (by show 1<2;omega),aK _ _ _,t7⟩,t7⟩⟩
 all_goals (rw[am5];show [Ob.row _ [[_,SV.sl (0+1) (u+65536) 0 (s.size+(bf t).length)]] 2,Ob.row (u+65536) (bf s++bf t) 1]=_;rw[bG,<- gI,<- ByteArray.size_append];rfl)
theorem y5 (u:Nat)(s:ByteArray)(t:UInt8)(hu:u%65536=5)(hs:s.size<=100000000000000)  : RTz 129 [cN (.ep 0 (147+65536) 0 0) u s 0,cU u s] [.one (.ep 0 (147+65536) 0 0),.one (.c (.int .u8 t.toNat))] [cN (.ep 0 (147+65536) 0 0) (u+65536) (s++⟨#[t]⟩) 0,cU (u+65536) (s++⟨#[t]⟩)] (.one (.c (.nul .iface))):=by
 refine cw ae Tryz.func129 rfl rfl Tryz.ntmps129 m5 ?_;simp only[dN];unfold cN
 repeat' (first|(refine bL rfl rfl rfl rfl rfl (dD ae (k:=1) (by_:=1) (xs:=bf ⟨#[t]⟩) rfl rfl rfl rfl ⟨rfl,_,rfl,by intro e he;simp at he;subst he;rfl⟩ rfl hu rfl rfl rfl m0 (by exact bG s) (by rw[bG];show(s.size+1)*1<=_;omega) (by rw[bG];show s.size+1<=_;omega)) ?_)|(refine cB [0,1] rfl rfl rfl rfl (pE (.sl 1 u 0 s.size) (cU u s) (by show 1<2;omega) (aK _ _ _)) rfl (qd r5 (by rw[ee];rfl) m9 (bF (by show 0<2;omega) (by show 1<2;omega)) (aK _ _ _) (fun y hy=>by rcases amN.1 hy with rfl|hy<;>first|(show 0<2;omega)|cases hy)) rfl (tf rfl (ee _ _ _) rfl) ?_)|refine gw_ ae a_ ?_|refine gi_ (fun hb=>?_) (fun hb=>?_)|fail)
 all_goals refine⟨.inr rfl,⟨.inl ⟨4,rfl,rfl⟩,⟨[],?_⟩,m5,bq ⟨bF (by show 0<2;omega) (by show 1<2;omega),aK _ _ _,t7⟩,t7⟩⟩
 all_goals (rw[am5];show [Ob.row _ [[_,SV.sl (0+1) (u+65536) 0 (s.size+(bf ⟨#[t]⟩).length)]] 2,Ob.row (u+65536) (bf s++bf ⟨#[t]⟩) 1]=_;rw[bG,<- gI,<- ByteArray.size_append];rfl)
theorem aav (u:Nat)(s:ByteArray)(hu:u%65536=5)(h0:0<s.size)(hs:s.size<=100000000000000):RTz 130 [cN (.ep 0 (147+65536) 0 0) u s 0,cU u s] [.one (.ep 0 (147+65536) 0 0)] [cN (.ep 0 (147+65536) 0 0) u s 0,.dead] (.one (.c (.str s))):=by
 refine cw ae Tryz.func130 rfl rfl Tryz.ntmps130 m5 ?_;simp only[dN];unfold cN
 repeat' (first|(refine cR rfl rfl rfl rfl rfl (rT rfl rfl h0) ?_)|(refine aar rfl rfl rfl rfl rfl (mN rfl rfl rfl hu (a_.kind _ _ rfl) adn h0 m0) ?_)|refine gw_ ae a_ ?_|refine gi_ (fun hb=>?_) (fun hb=>?_)|fail)
 all_goals exact⟨.inr rfl,⟨.inl ⟨2,rfl,rfl⟩,⟨[],rfl⟩,m5,bq ⟨bF (by show 0<2;omega) (by show 1<2;omega),t7,t7⟩,t7⟩⟩
theorem NF:RTz 130 [cN (.c (.nul .ptr)) 5 ⟨#[]⟩ 0,cU 5 ⟨#[]⟩] [.one (.ep 0 (147+65536) 0 0)] [cN (.c (.nul .ptr)) 5 ⟨#[]⟩ 0,cU 5 ⟨#[]⟩] (.one (.c (.str ⟨#[]⟩))):=by
 refine cw ae Tryz.func130 rfl rfl Tryz.ntmps130 m5 ?_;simp only[dN];unfold cN
 repeat' (first|(refine cR rfl rfl rfl rfl rfl (qt rfl rfl m9) ?_)|(refine aar rfl rfl rfl rfl rfl (lc rfl rfl) ?_)|refine gw_ ae a_ ?_|refine gi_ (fun hb=>?_) (fun hb=>?_)|fail)
 all_goals exact⟨.inr rfl,⟨.inl ⟨2,rfl,rfl⟩,⟨[],rfl⟩,m5,bq ⟨bF trivial (by show 1<2;omega),aK _ _ _,t7⟩,t7⟩⟩
end Go.Proofs.YtdkmoemdipgikaaGreatDoor
namespace Go.Proofs
open Go.Shelf
def Tryz.laysM171_ren:Go.Shelf.Ren:=⟨fun|171=>128|243=>182|246=>214|283=>240|284=>241|285=>242|286=>243|129=>238|317=>263|318=>264|319=>265|320=>266|337=>281|338=>282|n=>n,fun|3=>3|9=>9|2=>2|4=>4|171=>238|0=>0|53=>236|37=>145|5=>5|173=>240|212=>260|51=>234|20=>20|213=>261|46=>207|232=>274|233=>275|n=>n,fun|17=>0|18=>2|19=>3|n=>n⟩
theorem Tryz.laysM171:Go.Proofs.LaysM.n171 Tryz.prog Tryz.laysM171_ren :={
 mixed:=k7
 f129:=Tryz.func238.trans (congrArg some k7)
 f171:=Tryz.func128.trans (congrArg some k7)
 f243:=Tryz.func182.trans (congrArg some k7)
 f246:=Tryz.func214.trans (congrArg some k7)
 f283:=Tryz.func240.trans (congrArg some k7)
 f284:=Tryz.func241.trans (congrArg some k7)
 f285:=Tryz.func242.trans (congrArg some k7)
 f286:=Tryz.func243.trans (congrArg some k7)
 f317:=Tryz.func263.trans (congrArg some k7)
 f318:=Tryz.func264.trans (congrArg some k7)
 f319:=Tryz.func265.trans (congrArg some k7)
 f320:=Tryz.func266.trans (congrArg some k7)
 f337:=Tryz.func281.trans (congrArg some k7)
 f338:=Tryz.func282.trans (congrArg some k7)
 t0:=Tryz.underlying0
 a0:=Tryz.isAgg0
 z0:=Tryz.sizeOf0
 v0:=Tryz.zeroValue0
 t2:=Tryz.underlying2
 a2:=Tryz.isAgg2
 z2:=Tryz.sizeOf2
 v2:=Tryz.zeroValue2
 t3:=Tryz.underlying3
 a3:=Tryz.isAgg3
 z3:=Tryz.sizeOf3
 v3:=Tryz.zeroValue3
 t4:=Tryz.underlying4
 a4:=Tryz.isAgg4
 z4:=Tryz.sizeOf4
 v4:=Tryz.zeroValue4
 t5:=Tryz.underlying5
 a5:=Tryz.isAgg5
 z5:=Tryz.sizeOf5
 v5:=Tryz.zeroValue5
 t9:=Tryz.underlying9
 a9:=Tryz.isAgg9
 z9:=Tryz.sizeOf9
 v9:=Tryz.zeroValue9
 t20:=Tryz.underlying20
 a20:=Tryz.isAgg20
 z20:=Tryz.sizeOf20
 v20:=Tryz.zeroValue20
 t37:=Tryz.underlying145
 a37:=Tryz.isAgg145
 z37:=Tryz.sizeOf145
 v37:=Tryz.zeroValue145
 t46:=Tryz.underlying207
 a46:=Tryz.isAgg207
 z46:=Tryz.sizeOf207
 v46:=Tryz.zeroValue207
 t51:=Tryz.underlying234
 a51:=Tryz.isAgg234
 z51:=Tryz.sizeOf234
 v51:=Tryz.zeroValue234
 t53:=Tryz.underlying236
 a53:=Tryz.isAgg236
 z53:=Tryz.sizeOf236
 v53:=Tryz.zeroValue236
 t171:=Tryz.underlying238
 a171:=Tryz.isAgg238
 z171:=Tryz.sizeOf238
 v171:=Tryz.zeroValue238
 t173:=Tryz.underlying240
 a173:=Tryz.isAgg240
 z173:=Tryz.sizeOf240
 v173:=Tryz.zeroValue240
 t212:=Tryz.underlying260
 a212:=Tryz.isAgg260
 z212:=Tryz.sizeOf260
 v212:=Tryz.zeroValue260
 t213:=Tryz.underlying261
 a213:=Tryz.isAgg261
 z213:=Tryz.sizeOf261
 t232:=Tryz.underlying274
 a232:=Tryz.isAgg274
 z232:=Tryz.sizeOf274
 v232:=Tryz.zeroValue274
 t233:=Tryz.underlying275
 a233:=Tryz.isAgg275
 z233:=Tryz.sizeOf275
 v233:=Tryz.zeroValue275
 g17:=k7
 g18:=k7
 g19:=k7
 i0:=k7
 i2:=k7
 i3:=k7
 i4:=k7
 i5:=k7
 i9:=k7
 i20:=k7
 i37:=k7
 i46:=k7
 i51:=k7
 i53:=k7
 i171:=k7
 i173:=k7
 i212:=k7
 i232:=k7
 i233:=k7
 m17:=k7
 m18:=k7
 m19:=by kernel_rfl }
end Go.Proofs
namespace Go.Proofs.YtdkmoemdipgikaaGreatDoor
open Go.Shelf Go.RowKit Go.Sort Go.Lib
set_option maxHeartbeats 6400000
set_option maxRecDepth 100000
section
variable {P:Program} {ρ:Ren}
def JQ (g:Nat)(w:World):Prop :=∀ q,q<20->w.cell? ⟨g,q,none⟩=some (.int .u64 ((10 ^ q:Nat):Int))
theorem JQ.alloc {g:Nat}{w:World}(h:JQ g w)(o:Obj):JQ g (w.alloc o):=fun q hq=>by
 rw[World.cell?_alloc_old]
 ·exact h q hq
 ·exact Nat.ne_of_lt (lt_of_cell (h q hq))
abbrev BV (b:UInt8):Value:=Value.int .u8 (b.toNat:Int)
theorem JH (L:LaysM.n284 P ρ)(u:Nat)(h1:1<=u)(h2:u<18446744073709551616)(w:World)(hT:JQ (ρ.g 17) w) :
  Calls P (ρ.f 284) #[.int .u64 u] w fun e w'=>e = .returned (.int .i64 (Lib.nDigits u))/\w'=w:=by
 have mixed:=L.mixed;have t53:=L.t53;have a53:=L.a53;have z53:=L.z53;have v53:=L.v53;have t3:=L.t3;have a3:=L.a3;have z3:=L.z3;have v3:=L.v3;have t212:=L.t212;have a212:=L.a212;have z212:=L.z212;have v212:=L.v212;have t0:=L.t0;have a0:=L.a0;have z0:=L.z0;have v0:=L.v0;have t4:=L.t4;have a4:=L.a4;have z4:=L.z4;have v4:=L.v4;have e129:∀ args w,(callFunc (ρ.f 129) args).run P w = .ok (.enter (ρ.f 129) args) w:=enters_of L.f129 k7 rfl;have e317:∀ args w,(callFunc (ρ.f 317) args).run P w = .ok (.enter (ρ.f 317) args) w:=enters_of L.f317 k7 rfl;have e318:∀ args w,(callFunc (ρ.f 318) args).run P w = .ok (.enter (ρ.f 318) args) w:=enters_of L.f318 k7 rfl;obtain⟨hnd,h19⟩:=Lib.numDigits_eq u h1 h2;have hL:Lib.bitLen u<=64:=Lib.bitLen_le u 64 (amM _) h2;have hcell:=hT (Lib.l10 (Lib.bitLen u)) m0;have hto:((u:Int)).toNat=u:=m0
 generalize hq:Lib.l10 (Lib.bitLen u)=q at hnd h19 hcell;generalize hT2:10 ^ q=T at hnd hcell;have h20:q<20:=m0
 have Hnd:=Lib.hid hnd;clear hnd hT
 go_enter L.f284,Body.n284_ntmps ρ
 go_wp2_with (first
  |(go_at_fn (ρ.f 129);refine(Any.bits_Len64 { L with } _ _ m0 m0).mono ?_;rintro e w' ⟨rfl,rfl⟩)
  |(go_at_fn (ρ.f 317);refine(Any.internal_strconv_log10Pow2 { L with } _ (by first|exact hL|(rw[hto];exact hL)) _).mono ?_;rintro e w' ⟨rfl,rfl⟩)
  |(go_at_fn (ρ.f 318);refine(Any.internal_strconv_bool2_int { L with } _ _).mono ?_;rintro e w' ⟨rfl,rfl⟩))
 all_goals go_ret
 all_goals (
  refine⟨?_,rfl⟩;have hnd:=Hnd.out;congr 2;split at hnd<;>simp_all<;>omega)
theorem Jd (L:LaysM.n246 P ρ)(n:Int)(h0 : -9223372036854775808<=n)(h1:n<=9223372036854775807)(w:World)(hT:JQ (ρ.g 17) w) :
  Calls P (ρ.f 246) #[.int .i64 n,.int .i64 10] w fun e w'=>e = .returned (.string ⟨(Lib.itoa n).toArray⟩) /\ ∃ k os,w'=grow (w.drewN k) os:=by
 by_cases hs:0<=n/\n<100
 ·obtain⟨i,rfl⟩:∃ i:Nat,n=i:=⟨n.toNat,m0⟩
  refine(Any.internal_strconv_FormatInt_10_small { L with } i m0 w).mono ?_;rintro e w' ⟨rfl,rfl⟩;exact⟨by rw[Lib.itoa_nonneg],0,#[],by simp[World.drewN_zero]⟩
 have mixed:=L.mixed;have t2:=L.t2;have a2:=L.a2;have z2:=L.z2;have v2:=L.v2;have t3:=L.t3;have a3:=L.a3;have z3:=L.z3;have v3:=L.v3;have t9:=L.t9;have a9:=L.a9;have z9:=L.z9;have v9:=L.v9;have t4:=L.t4;have a4:=L.a4;have z4:=L.z4;have v4:=L.v4;have t171:=L.t171;have a171:=L.a171;have z171:=L.z171;have v171:=L.v171;have t0:=L.t0;have a0:=L.a0;have z0:=L.z0;have v0:=L.v0;have t53:=L.t53;have a53:=L.a53;have z53:=L.z53;have v53:=L.v53;have t37:=L.t37;have a37:=L.a37;have z37:=L.z37;have v37:=L.v37;have t5:=L.t5;have a5:=L.a5;have z5:=L.z5;have v5:=L.v5;have t173:=L.t173;have a173:=L.a173;have z173:=L.z173;have v173:=L.v173;have e284:∀ args w,(callFunc (ρ.f 284) args).run P w = .ok (.enter (ρ.f 284) args) w:=enters_of L.f284 k7 rfl;have e285:∀ args w,(callFunc (ρ.f 285) args).run P w = .ok (.enter (ρ.f 285) args) w:=enters_of L.f285 k7 rfl;obtain⟨u,hu⟩:∃ u:Nat,u=n.natAbs:=⟨_,rfl⟩;have hu1:1<=u:=m0
 have hu64:u<18446744073709551616:=m0
 have hd20:Lib.nDigits u<=20:=by have:=Lib.numDigits_eq u hu1 hu64;split at this<;>omega
 have hb3:Lib.nDigits u<=23:=m0
 have hal:P.arrayLen (ρ.t 171)=24:=by simp[Program.arrayLen,L.t171]
 have hel:P.underlying (ρ.t 171)=some (.array (P.arrayLen (ρ.t 171)) (P.elem (ρ.t 171))):=by simp[Program.arrayLen,Program.elem,L.t171]
 have hsl1:∀ W,(Instr.sliceAt (ρ.t 171) (.pointer (some ⟨w.heap.size,0,none⟩)) (some (.int .i64 1)) (some (.int .i64 (1+(Lib.nDigits u:Int)))) none).run P W = .ok (.slice (some ⟨w.heap.size,1,none⟩) (Lib.nDigits u) 23) W:=fun W=>by
  rw[run_sliceAt_array_lh W (ρ.t 171) ⟨w.heap.size,0,none⟩ hel .i64 .i64 1 (1+(Lib.nDigits u:Int)) m0 m0 (by rw[hal];omega)]
  go_simp
  omega
 have hsl2:∀ W,(Instr.sliceAt (ρ.t 171) (.pointer (some ⟨w.heap.size,0,none⟩)) none (some (.int .i64 (1+(Lib.nDigits u:Int)))) none).run P W = .ok (.slice (some ⟨w.heap.size,0,none⟩) (1+Lib.nDigits u) 24) W:=fun W=>by
  rw[run_sliceAt_array_h W (ρ.t 171) ⟨w.heap.size,0,none⟩ hel .i64 (1+(Lib.nDigits u:Int)) m0 (by rw[hal];omega)]
  go_simp
  omega
 have hH0:=Lib.holds_zero w (ρ.t 171) (Lib.nDigits u) m0;have hfmt:=Any.internal_strconv_formatBase10 { L with } w.heap.size 1 23 u (Array.replicate (Lib.nDigits u) 0) (w.alloc (.cells Lib.zeros24 (ρ.t 171))) hH0 (by rw[Array.size_replicate];exact Lib.lt_pow_nDigits u) hu64 (by rw[Array.size_replicate];omega);rw[Array.size_replicate]at hfmt;have HH0:=Lib.hid hH0;have hT1:=hT.alloc (.cells Lib.zeros24 (ρ.t 171));have hdig:=JH (ρ:=ρ) { L with } u hu1 hu64 _ hT1;clear hH0 hT hT1 hal hel;by_cases hn:n<0
 ·have hw:IntKind.u64.wrap (-IntKind.u64.wrap (-(u:Int)))=(u:Int):=by rw[IntKind.wrap_u64,IntKind.wrap_u64];omega
  obtain rfl:n = -(u:Int):=m0
  clear hs hu
  go_enter L.f246,Body.n246_ntmps ρ
  go_wp2_with (go_at_fn (ρ.f 284);refine hdig.mono ?_;rintro e w' ⟨rfl,rfl⟩)
  go_at_fn (ρ.f 285)
  refine hfmt.mono ?_;rintro e w' ⟨rfl,k,v',dk,rfl,hF⟩;have hc0:((putRow BV (w.alloc (.cells Lib.zeros24 (ρ.t 171))) w.heap.size 1 dk).drewN k).cell? ⟨w.heap.size,0,none⟩=some (.int .u8 0):=by
   rw[World.cell?_drewN,cell?_putRow_other _ _ _ _ _ _ (Or.inr (Or.inl (Nat.zero_lt_one))),World.cell?_alloc_new];exact Lib.zeros24_at 0 m0
  have hf0:((putRow BV (w.alloc (.cells Lib.zeros24 (ρ.t 171))) w.heap.size 1 dk).drewN k).frozen? ⟨w.heap.size,0,none⟩=false:=by
   rw[World.frozen?_drewN,frozen?_putRow];exact World.frozen?_alloc_new _ _ _ _
  have hcv:(convert (ρ.t 37) (ρ.t 9) (.slice (some ⟨w.heap.size,0,none⟩) (1+Lib.nDigits u) 24)).run P (((putRow BV (w.alloc (.cells Lib.zeros24 (ρ.t 171))) w.heap.size 1 dk).drewN k).setCell ⟨w.heap.size,0,none⟩ (.int .u8 45)) = .ok (.string ⟨(45::Lib.decDigits u).toArray⟩) (((putRow BV (w.alloc (.cells Lib.zeros24 (ρ.t 171))) w.heap.size 1 dk).drewN k).setCell ⟨w.heap.size,0,none⟩ (.int .u8 45)):=by
   have h:=run_convert_bytes_back (P:=P) (((putRow BV (w.alloc (.cells Lib.zeros24 (ρ.t 171))) w.heap.size 1 dk).drewN k).setCell ⟨w.heap.size,0,none⟩ (.int .u8 45)) (ρ.t 37) (ρ.t 9) (ρ.t 5) ⟨w.heap.size,0,none⟩ 24 (45::Lib.decDigits u) L.t37 L.t5 L.t9 (fun j hj=>by
    rw[Lib.add_plain]
    cases j with
    |zero=>exact World.cell?_setCell_same _ _ _ hc0
    |succ i =>
     have hi:i<(Lib.decDigits u).length:=by simpa using hj
     rw[World.cell?_setCell_other _ _ _ _ m5,List.getElem_cons_succ,Lib.row_is_numeral hF i hi,World.cell?_drewN,show 0+(i+1)=1+i by omega];exact cell?_putRow BV _ w.heap.size 1 _ dk HH0.out (by rw[hF.size,Array.size_replicate]) i (by rw[hF.size];rw[Lib.decDigits_length]at hi;exact hi))
   rw[amS,Lib.decDigits_length,Nat.add_comm]at h;exact h
  go_wp2
  go_ret
  obtain⟨os,eo⟩:=Lib.fin_neg w (.cells Lib.zeros24 (ρ.t 171)) dk k (.int .u8 45);exact⟨by rw[Lib.itoa_neg u hu1];rfl,k,os,eo⟩
 ·obtain rfl:n=(u:Int):=m0
  clear hu hsl2
  go_enter L.f246,Body.n246_ntmps ρ
  go_wp2_with (go_at_fn (ρ.f 284);refine hdig.mono ?_;rintro e w' ⟨rfl,rfl⟩)
  go_at_fn (ρ.f 285)
  refine hfmt.mono ?_;rintro e w' ⟨rfl,k,v',dk,rfl,hF⟩;have hcv:(convert (ρ.t 37) (ρ.t 9) (.slice (some ⟨w.heap.size,1,none⟩) (Lib.nDigits u) 23)).run P ((putRow BV (w.alloc (.cells Lib.zeros24 (ρ.t 171))) w.heap.size 1 dk).drewN k) = .ok (.string ⟨(Lib.decDigits u).toArray⟩) ((putRow BV (w.alloc (.cells Lib.zeros24 (ρ.t 171))) w.heap.size 1 dk).drewN k):=by
   have h:=run_convert_bytes_back (P:=P) ((putRow BV (w.alloc (.cells Lib.zeros24 (ρ.t 171))) w.heap.size 1 dk).drewN k) (ρ.t 37) (ρ.t 9) (ρ.t 5) ⟨w.heap.size,1,none⟩ 23 (Lib.decDigits u) L.t37 L.t5 L.t9 (fun j hj=>by
    rw[Lib.row_is_numeral hF j hj,Lib.add_plain,World.cell?_drewN];exact cell?_putRow BV _ w.heap.size 1 _ dk HH0.out (by rw[hF.size,Array.size_replicate]) j (by rw[hF.size];rw[Lib.decDigits_length]at hj;exact hj))
   rw[Lib.decDigits_length]at h;exact h
  go_wp2
  go_ret
  obtain⟨os,eo⟩:=Lib.fin_pos w (.cells Lib.zeros24 (ρ.t 171)) dk k;exact⟨by rw[Lib.itoa_nonneg];rfl,k,os,eo⟩
theorem af7 (L:LaysM.n243 P ρ)(n:Int)(h0 : -9223372036854775808<=n)(h1:n<=9223372036854775807)(w:World)(hT:JQ (ρ.g 17) w) :
  Calls P (ρ.f 243) #[.int .i64 n] w fun e w'=>e = .returned (.string ⟨(Lib.itoa n).toArray⟩) /\ ∃ k os,w'=grow (w.drewN k) os:=by
 have mixed:=L.mixed;have t3:=L.t3;have a3:=L.a3;have z3:=L.z3;have v3:=L.v3;have t9:=L.t9;have a9:=L.a9;have z9:=L.z9;have v9:=L.v9;have e246:∀ args w,(callFunc (ρ.f 246) args).run P w = .ok (.enter (ρ.f 246) args) w:=enters_of L.f246 k7 rfl;have hf:=Jd (ρ:=ρ) { L with } n h0 h1 w hT
 go_enter L.f243,Body.n243_ntmps ρ
 go_wp2_with (go_at_fn (ρ.f 246);refine hf.mono ?_;rintro e w' ⟨rfl,k,os,rfl⟩)
 go_ret
 exact⟨rfl,k,os,rfl⟩
theorem aiJ (L:LaysM.n171 P ρ)(n:Int)(h0 : -9223372036854775808<=n)(h1:n<=9223372036854775807)(w:World)(hT:JQ (ρ.g 17) w) :
  Calls P (ρ.f 171) #[.int .i64 n] w fun e w'=>e = .returned (.string ⟨(Lib.itoa n).toArray⟩) /\ ∃ k os,w'=grow (w.drewN k) os:=by
 have mixed:=L.mixed;have t3:=L.t3;have a3:=L.a3;have z3:=L.z3;have v3:=L.v3;have t9:=L.t9;have a9:=L.a9;have z9:=L.z9;have v9:=L.v9;have e243:∀ args w,(callFunc (ρ.f 243) args).run P w = .ok (.enter (ρ.f 243) args) w:=enters_of L.f243 k7 rfl;have hf:=af7 (ρ:=ρ) { L with } n h0 h1 w hT
 go_enter L.f171,Body.n171_ntmps ρ
 go_wp2_with (go_at_fn (ρ.f 243);refine hf.mono ?_;rintro e w' ⟨rfl,k,os,rfl⟩)
 go_ret
 exact⟨rfl,k,os,rfl⟩
end
def eP (n:Int):ByteArray:=⟨(Lib.itoa n).toArray⟩
theorem Hj (R:PH)(w:World)(k:Nat)(os:Array Obj):Ext (· <w.heap.size) R R w (grow (w.drewN k) os):=by
 exact⟨Kept.of (Lib.below_grow _ w (amM _) k os),PH.sub_refl _,fun _ _ _=>rfl⟩
theorem CU (n:Int)(h0 : -9223372036854775808<=n)(h1:n<=9223372036854775807):PTz 128 [.one (.int .i64 n)] (.val (.one (.str (eP n)))):=by
 refine⟨⟨_,Tryz.func128,k7,k7⟩,fun R w vs hR hs hv=>?_⟩;obtain⟨v,rfl⟩:∃ v,vs=#[v]:=by
  match vs,hs with
  |⟨[v]⟩,_=>exact⟨v,rfl⟩
 have:=hv 0 v _ rfl rfl
 cases this;have hT:JQ (Tryz.laysM171_ren.g 17) w:=fun q hq=>hR _ _ _ (R.tab q _ (by unfold Gt;rw[if_pos hq];norm_cast))
 refine(show Calls Tryz.prog 128 #[.int .i64 n] w _ from aiJ Tryz.laysM171 n h0 h1 w hT).mono ?_;rintro e w' ⟨rfl,k,os,rfl⟩;refine⟨_,R,rfl,Hj R w k os,fun b o u h=>?_,.str _⟩;have h1:=hR b o u h;rw[<- h1];unfold World.cell?;rw[show(grow (w.drewN k) os).heap[b]?=w.heap[b]? from(Hj R w k os).below.block b (lt_of_cell h1)]
open Go.RowKit Go.MapKept
def akW:TI :={ xm with dyn:=false }
theorem ce:TIok Tryz.prog akW:=⟨ae.size,ae.agg,ae.elem,ae.field,ae.zero,ae.bytes,ae.kind,ae.struct,ae.zok,ae.eqs⟩
def aj_:TI :={ akW with soft:=true }
theorem bR:TIok Tryz.prog aj_:=⟨ae.size,ae.agg,ae.elem,ae.field,ae.zero,ae.bytes,ae.kind,ae.struct,ae.zok,ae.eqs⟩
def c32:ByteArray:=⟨#[32]⟩
def tT (v:Val):List Int:=[v.kind,v.int,v.text.size]
def dV (a:ByteArray)(l:List Int):ByteArray:=l.foldl (fun a n=>a++eP n++c32) a
def dm (l:List Val):ByteArray:=l.foldl (fun a v=>dV a (tT v)++v.text) ⟨#[]⟩
theorem ro (l:List Val)(v:Val):dm (l++[v])=dV (dm l) (tT v)++v.text:=by unfold dm;rw[List.foldl_append];rfl
theorem EW (a:ByteArray)(l:List Int)(n:Int):dV a (l++[n])=dV a l++eP n++c32:=by unfold dV;rw[List.foldl_append];rfl
def KD (v:Val):Prop:=(-9223372036854775808<=v.kind/\v.kind<=9223372036854775807)/\(-9223372036854775808<=v.int/\v.int<=9223372036854775807)/\v.text.size<=10000000000
theorem jU (n:Int)(h0 : -9223372036854775808<=n)(h1:n<=9223372036854775807):(eP n).size<=30/\0<(eP n).size:=by
 unfold eP;show(Lib.itoa n).toArray.size<=30/\0<(Lib.itoa n).toArray.size;rw[List.size_toArray];have key:∀ u:Nat,u<18446744073709551616->Lib.nDigits u<=20:=by
  intro u h;rcases Nat.eq_zero_or_pos u with rfl|h1
  ·rw[Lib.nDigits_small m0];omega
  ·have:=Lib.numDigits_eq u h1 h;split at this<;>omega
 by_cases hn:n<0
 ·obtain⟨u,rfl⟩:∃ u:Nat,n = -(u:Int):=⟨n.natAbs,m0⟩
  rw[Lib.itoa_neg u m0,amS,Lib.decDigits_length];have:=key u m0;omega
 ·obtain⟨u,rfl⟩:∃ u:Nat,n=(u:Int):=⟨n.toNat,m0⟩
  rw[Lib.itoa_nonneg,Lib.decDigits_length];have:=key u m0;have:=Lib.nDigits_pos u;omega
theorem jt:∀ (l:List Int) (a:ByteArray),(∀ n∈l,-9223372036854775808<=n/\n<=9223372036854775807)->(dV a l).size<=a.size+31*l.length
 |[],a,_=>by simp[dV]
 |n::l,a,h=>by
  have h1:=jt l (a++eP n++c32) fun x hx=>h x (amU _ hx)
  have h2:=(jU n (h n m5).1 (h n m5).2).1;have hc:c32.size=1:=rfl;have e:dV a (n::l)=dV (a++eP n++c32) l:=rfl;rw[e];simp only[ByteArray.size_append,hc]at h1;rw[amS];omega
theorem Df (l:List Val)(h:∀ v∈l,KD v):(dm l).size<=l.length*10000000100:=by
 have key:∀ (l:List Val) (a:ByteArray),(∀ v∈l,KD v)->(l.foldl (fun a v=>dV a (tT v)++v.text) a).size<=a.size+l.length*10000000100:=by
  intro l
  induction l with
  |nil=>intro a _;simp
  |cons v l ih =>
   intro a h;obtain⟨h1,h2,h3⟩:=h v m5;rw[anl];have q1:=ih (dV a (tT v)++v.text) fun x hx=>h x (amU _ hx)
   have q2:=jt (tT v) a (by
    intro n hn;simp only[tT,amN,List.not_mem_nil,or_false]at hn;rcases hn with rfl|rfl|rfl
    ·exact h1
    ·exact h2
    ·omega)
   have e3:(tT v).length=3:=rfl;simp only[ByteArray.size_append]at q1;rw[amS];omega
 have:=key l ⟨#[]⟩ h;have e:(⟨#[]⟩:ByteArray).size=0:=rfl;rw[e,anb]at this;exact this
def pB (fresh:Bool):SV:=if fresh then .c (.nul .ptr)else(.ep 0 (147+65536) 0 0)
theorem aej (b:Bool):(pB b).ren [0,1]=pB b:=by cases b<;>rfl
theorem mH (b:Bool){n:Nat}(h:0<n):(pB b).below n:=by cases b<;>first|exact h|exact True.intro
theorem uv (b:Bool)(u:Nat)(s t:ByteArray)(hu:u%65536=5)(hs:s.size<=100000000000000)(ht:t.size<=1000000000000):RTz 127 [cN (pB b) u s 0,cU u s] [.one (.ep 0 (147+65536) 0 0),.one (.c (.str t))] [cN (.ep 0 (147+65536) 0 0) (u+65536) (s++t) 0,cU (u+65536) (s++t)] (.tup [.one (.int .i64 t.size),.one (.nul .iface)]):=by
 cases b
 ·exact nY u s t hu hs ht
 ·exact Ge u s t hu hs ht
theorem rf2 {L:List Ob}{p:SV}{u:Nat}{s:ByteArray}{x:AV}{xs:List AV}(hL0:L[0]?=some (cN p u s 0))(hL1:L[1]?=some (cU u s))(hp:p.ren [0,1]=p)(hpb:p.below 2)(hx:∀ y∈x::xs,y.below 2):eQ [0,1] [cN p u s 0,cU u s] (x::xs) L:=by
 refine qd ?_ (by rw[ee];exact hL1) m9 (bF hpb (by show 1<2;omega)) (aK _ _ _) hx;rw[hL0];show some (Ob.row _ [[p,SV.sl 1 u 0 s.size]] 2)=some (Ob.row _ [[p.ren [0,1],SV.sl 1 u 0 s.size]] 2);rw[hp]
theorem j2 {L L':List Ob}{u:Nat}{s:ByteArray}(h:(L.set 0 (cN (.ep 0 (147+65536) 0 0) u s 0)).set 1 (cU u s)=L'):joinL [0,1] L [cN (.ep 0 (147+65536) 0 0) u s 0,cU u s]=L':=tf rfl (ee _ _ _) h
def lz (l:List Val)(i:Nat):List Ob:=[cN (pB (decide (i=0))) (5+458752*i) (dm (l.take i)) 0,cU (5+458752*i) (dm (l.take i))]
def lr (u:Nat)(a:ByteArray)(f:Bool)(ns:List Int)(bx:Ob)(j:Nat):List Ob:=[cN (pB (f&&decide (j=0))) (u+131072*j) (dV a (ns.take j)) 0,cU (u+131072*j) (dV a (ns.take j)),bx]
set_option maxHeartbeats 4000000 in
theorem abU (l:List Val)(hl:l.length<=1000)(h:∀ v∈l,KD v):PTz 198 [.one (cl l)] (.val (.one (.str (dm l)))):=by
 refine pa_ ce Tryz.func198 rfl rfl Tryz.ntmps198 m5 ?_;simp only[argT,PV.av,amH,amL];obtain⟨inf,hinf,hiz⟩:∃ inf,Tryz.prog.info? 147=some inf/\inf.zero=some (.agg #[.pointer none,.slice none 0 0]):=by
  have hh:(Tryz.prog.info? 147).bind (·.zero)=some (.agg #[.pointer none,.slice none 0 0]):=k7
  cases hi:Tryz.prog.info? 147 with
  |none=>rw[hi]at hh;cases hh
  |some j=>rw[hi]at hh;exact⟨j,rfl,by simpa using hh⟩
 have hc:c32.size=1:=rfl;have he0:(⟨#[]⟩:ByteArray).size=0:=rfl;obtain⟨n,hn⟩:∃ n,l.length=n:=⟨_,rfl⟩
 repeat' (first|(refine bL rfl rfl rfl rfl rfl (hZ (Eb:=5) (k:=1) hinf hiz m9 m9 m9) ?_)|refine gw_ ce bR ?_|refine gi_ (fun hb=>?_) (fun hb=>?_)|fail)
 refine cK (fun i:Nat=>[(0,.one (.c (cl l))),(3,.one (.ep 0 (147+65536) 0 0)),(8,.one (.c (cl l))),(9,.one (.c (.int .i64 n))),(10,.one (.c (.int .i64 i)))]) (fun i=>lz l i) (fun i=>i<=n) (fun i=>n-i) 0 m0 (fun _ _=>amR _)
  (fm_ ⟨rfl,rfl,rfl,aM (by simp[hn]),rfl,t7⟩ [] rfl ⟨t7,(by show 0<2;omega),t7,t7,t7,t7⟩ ⟨bF (mH _ (by show 0<2;omega)) (by show 1<2;omega),aK _ _ _,t7⟩) ?_
 intro i hi;have hsz:=Df (l.take i) fun v hv=>h v (ant hv)
 rw[anm]at hsz;by_cases hlt2:i<n
 ·obtain⟨v,hv⟩:=gol_ (show i<l.length by omega)
  obtain⟨k1,k2,k3⟩:=h v (amC hv);have hsn:=ro (l.take i) v;rw[<- bu hv]at hsn;have hu:(5+458752*i)%65536=5:=m0
  have e0:lz l i=[cN (pB (decide (i=0))) (5+458752*i) (dm (l.take i)) 0,cU (5+458752*i) (dm (l.take i))]:=rfl;rw[e0];generalize dm (l.take i)=a0 at hsz hsn;obtain⟨kd,nn,tx⟩:=v;simp only at k1 k2 k3
  repeat' (first|(refine aZ rfl rfl rfl rfl rfl rfl rfl rfl (aU hv) ?_ ?_;· exact⟨m0,rfl⟩)|refine gw_ ce bR ?_|refine gi_ (fun hb=>?_) (fun hb=>?_)|fail)
  refine cK (fun j:Nat=>[(0,.one (.c (cl l))),(3,.one (.ep 0 (147+65536) 0 0)),(5,.one (.ptr 2 0)),(8,.one (.c (cl l))),(9,.one (.c (.int .i64 n))),(10,.one (.c (.int .i64 i))),(21,.one (.c (.lst ([kd,nn,(tx.size:Int)].map fun x=>[AC.int .i64 x])))),(22,.one (.c (.int .i64 3))),(23,.one (.c (.int .i64 j)))]) (fun j=>lr (5+458752*i) a0 (decide (i=0)) [kd,nn,tx.size] (.box [.c (.int .i64 kd),.c (.int .i64 nn),.c (.str tx)]) j) (fun j=>j<=3) (fun j=>3-j) 0 m0 (fun _ _=>amR _)
   (fm_ ⟨rfl,rfl,rfl,rfl,rfl,rfl,rfl,rfl,rfl,t7⟩ [] ?_ ⟨t7,(by show 0<3;omega),(by show 2<3;omega),t7,t7,t7,t7,t7,t7,t7⟩ ⟨bF (mH _ (by show 0<3;omega)) (by show 1<3;omega),aK _ _ _,d_ r5,t7⟩) ?_
  ·simp only[lr,Nat.mul_zero,Nat.add_zero,List.take_zero,decide_true,Bool.and_true];rfl
  intro j hj;by_cases hj3:j<3
  ·obtain⟨x,hx⟩:=gol_ (show j<[kd,nn,(tx.size:Int)].length by exact hj3)
   have hxr : -9223372036854775808<=x/\x<=9223372036854775807:=by
    have:=amC hx;simp only[amN,List.not_mem_nil,or_false]at this;rcases this with rfl|rfl|rfl
    ·exact k1
    ·exact k2
    ·omega
   have hit:=CU x hxr.1 hxr.2
   repeat' (first|(refine aZ rfl rfl rfl rfl rfl rfl rfl rfl (aU hx) ?_ ?_;· exact⟨m0,rfl⟩)|refine aF rfl rfl rfl rfl hit rfl ?_|refine gw_ ce bR ?_|refine gi_ (fun hb=>?_) (fun hb=>?_)|fail)
   have hitz:=jU x hxr.1 hxr.2;have hns:=jt ([kd,nn,(tx.size:Int)].take j) a0 (by
    intro y hy;have:=ant hy;simp only[amN,List.not_mem_nil,or_false]at this;rcases this with rfl|rfl|rfl
    ·exact k1
    ·exact k2
    ·omega)
   have hl3:([kd,nn,(tx.size:Int)].take j).length<=3:=by rw[anm];exact Nat.le_trans (Nat.min_le_right _ _) (amM _)
   have hsj:=EW a0 ([kd,nn,(tx.size:Int)].take j) x;rw[<- bu hx]at hsj;have hu2:(5+458752*i+131072*j)%65536=5:=m0
   have eC:lr (5+458752*i) a0 (decide (i=0)) [kd,nn,(tx.size:Int)] (.box [.c (.int .i64 kd),.c (.int .i64 nn),.c (.str tx)]) j=[cN (pB (decide (i=0)&&decide (j=0))) (5+458752*i+131072*j) (dV a0 ([kd,nn,(tx.size:Int)].take j)) 0,cU (5+458752*i+131072*j) (dV a0 ([kd,nn,(tx.size:Int)].take j)),(.box [.c (.int .i64 kd),.c (.int .i64 nn),.c (.str tx)])]:=rfl;have eC2:lr (5+458752*i) a0 (decide (i=0)) [kd,nn,(tx.size:Int)] (.box [.c (.int .i64 kd),.c (.int .i64 nn),.c (.str tx)]) (j+1)=[cN (.ep 0 (147+65536) 0 0) (5+458752*i+131072*j+65536+65536) (dV a0 ([kd,nn,(tx.size:Int)].take j)++eP x++c32) 0,cU (5+458752*i+131072*j+65536+65536) (dV a0 ([kd,nn,(tx.size:Int)].take j)++eP x++c32),(.box [.c (.int .i64 kd),.c (.int .i64 nn),.c (.str tx)])]:=by
    unfold lr;rw[hsj,show decide (j+1=0)=false by simp,Bool.and_false,show 5+458752*i+131072*(j+1)=5+458752*i+131072*j+65536+65536 by omega];rfl
   rw[eC];generalize dV a0 ([kd,nn,(tx.size:Int)].take j)=b0 at hns eC2;generalize 5+458752*i+131072*j=u0 at hu2 eC2;generalize hB1:eP x=b1 at hitz eC2;refine cB [0,1] rfl rfl rfl rfl (uv _ u0 b0 b1 hu2 m0 m0) rfl (rf2 rfl rfl (aej _) (mH _ (by show 0<2;omega)) (fun y hy=>by rcases amN.1 hy with rfl|hy<;>first|(show 0<2;omega)|(rcases amN.1 hy with rfl|hy<;>first|exact True.intro|cases hy)|cases hy)) rfl (j2 (L':=[cN (.ep 0 (147+65536) 0 0) (u0+65536) (b0++b1) 0,cU (u0+65536) (b0++b1),(.box [.c (.int .i64 kd),.c (.int .i64 nn),.c (.str tx)])]) rfl) ?_
   repeat' (first|refine gw_ ce bR ?_|refine gi_ (fun hb=>?_) (fun hb=>?_)|fail)
   refine cB [0,1] rfl rfl rfl rfl (y5 (u0+65536) (b0++b1) 32 m0 (by simp only[ByteArray.size_append];omega)) rfl (rf2 rfl rfl rfl (by show 0<2;omega) (fun y hy=>by rcases amN.1 hy with rfl|hy<;>first|(show 0<2;omega)|(rcases amN.1 hy with rfl|hy<;>first|exact True.intro|cases hy)|cases hy)) rfl (j2 (L':=[cN (.ep 0 (147+65536) 0 0) (u0+65536+65536) (b0++b1++c32) 0,cU (u0+65536+65536) (b0++b1++c32),(.box [.c (.int .i64 kd),.c (.int .i64 nn),.c (.str tx)])]) rfl) ?_
   repeat' (first|refine gw_ ce bR ?_|refine gi_ (fun hb=>?_) (fun hb=>?_)|fail)
   exact⟨j+1,m0,m0,fm_ ⟨rfl,rfl,rfl,rfl,rfl,rfl,rfl,rfl,aM (aS m0 m0),t7⟩ [] (by rw[eC2];rfl) (by rw[eC2];exact⟨t7,(by show 0<3;omega),(by show 2<3;omega),t7,t7,t7,t7,t7,t7,t7⟩) (by rw[eC2];exact⟨bF (by show 0<3;omega) (by show 1<3;omega),aK _ _ _,d_ r5,t7⟩)⟩
  ·have hj4:j=3:=m0
   subst hj4;have hns:=jt [kd,nn,(tx.size:Int)] a0 (by
    intro y hy;simp only[amN,List.not_mem_nil,or_false]at hy;rcases hy with rfl|rfl|rfl
    ·exact k1
    ·exact k2
    ·omega)
   have hl3:[kd,nn,(tx.size:Int)].length=3:=rfl;have eC:lr (5+458752*i) a0 (decide (i=0)) [kd,nn,(tx.size:Int)] (.box [.c (.int .i64 kd),.c (.int .i64 nn),.c (.str tx)]) 3=[cN (.ep 0 (147+65536) 0 0) (5+458752*i+393216) (dV a0 [kd,nn,(tx.size:Int)]) 0,cU (5+458752*i+393216) (dV a0 [kd,nn,(tx.size:Int)]),(.box [.c (.int .i64 kd),.c (.int .i64 nn),.c (.str tx)])]:=by
    unfold lr;rw[show decide (3=0)=false by simp,Bool.and_false];rfl
   have eN:lz l (i+1)=[cN (.ep 0 (147+65536) 0 0) (5+458752*i+393216+65536) (dV a0 [kd,nn,(tx.size:Int)]++tx) 0,cU (5+458752*i+393216+65536) (dV a0 [kd,nn,(tx.size:Int)]++tx)]:=by
    unfold lz;rw[hsn,show decide (i+1=0)=false by simp,show 5+458752*(i+1)=5+458752*i+393216+65536 by omega];rfl
   rw[eC];generalize dV a0 [kd,nn,(tx.size:Int)]=b0 at hns eN;have hu2:(5+458752*i+393216)%65536=5:=m0
   generalize 5+458752*i+393216=u0 at hu2 eN
   repeat' (first|refine gw_ ce bR ?_|refine gi_ (fun hb=>?_) (fun hb=>?_)|fail)
   refine cB [0,1] rfl rfl rfl rfl (nY u0 b0 tx hu2 m0 m0) rfl (rf2 rfl rfl rfl (by show 0<2;omega) (fun y hy=>by rcases amN.1 hy with rfl|hy<;>first|(show 0<2;omega)|(rcases amN.1 hy with rfl|hy<;>first|exact True.intro|cases hy)|cases hy)) rfl (j2 (L':=[cN (.ep 0 (147+65536) 0 0) (u0+65536) (b0++tx) 0,cU (u0+65536) (b0++tx),(.box [.c (.int .i64 kd),.c (.int .i64 nn),.c (.str tx)])]) rfl) ?_
   repeat' (first|refine gw_ ce bR ?_|refine gi_ (fun hb=>?_) (fun hb=>?_)|fail)
   exact⟨i+1,m0,m0,fm_ ⟨rfl,rfl,rfl,rfl,aM (aS m0 m0),t7⟩ [(.box [.c (.int .i64 kd),.c (.int .i64 nn),.c (.str tx)])] (by rw[eN];rfl) (by rw[eN];exact⟨t7,(by show 0<2;omega),t7,t7,t7,t7⟩) (by rw[eN];exact⟨bF (by show 0<2;omega) (by show 1<2;omega),aK _ _ _,t7⟩)⟩
 ·have hi2:i=l.length:=m0
  have htk:l.take i=l:=by rw[hi2,List.take_length]
  by_cases hi0:i=0
  ·subst hi0
   have hnil:l=[]:=amW hi2.symm;subst hnil;have e0:lz [] 0=[cN (.c (.nul .ptr)) 5 ⟨#[]⟩ 0,cU 5 ⟨#[]⟩]:=rfl;rw[e0]
   repeat' (first|refine gw_ ce bR ?_|refine gi_ (fun hb=>?_) (fun hb=>?_)|fail)
   refine cB [0,1] rfl rfl rfl rfl NF rfl (rf2 rfl rfl rfl True.intro (fun y hy=>by rcases amN.1 hy with rfl|hy<;>first|(show 0<2;omega)|(rcases amN.1 hy with rfl|hy<;>first|exact True.intro|cases hy)|cases hy)) rfl (tf rfl (ee _ _ _) (L':=[cN (.c (.nul .ptr)) 5 ⟨#[]⟩ 0,cU 5 ⟨#[]⟩]) rfl) ?_
   repeat' (first|refine gw_ ce bR ?_|refine gi_ (fun hb=>?_) (fun hb=>?_)|fail)
   exact aJ (aO rfl (by trivial) rfl)
  ·have e1:lz l i=[cN (.ep 0 (147+65536) 0 0) (5+458752*i) (dm l) 0,cU (5+458752*i) (dm l)]:=by unfold lz;rw[htk,show decide (i=0)=false by simpa using hi0];rfl
   rw[e1];rw[htk]at hsz;have hu:(5+458752*i)%65536=5:=m0
   generalize 5+458752*i=u0 at hu;have hpos:0<(dm l).size:=by
    obtain⟨v,hv⟩:=gol_ (show i-1<l.length by omega);have hsn:=ro (l.take (i-1)) v;rw[<- bu hv,show i-1+1=i by omega,htk]at hsn;obtain⟨q1,q2,q3⟩:=h v (amC hv);have:=(jU v.kind q1.1 q1.2).2;rw[hsn];show 0<(dV (dm (List.take (i-1) l)) [v.kind,v.int,(v.text.size:Int)]++v.text).size;have e3:dV (dm (List.take (i-1) l)) [v.kind,v.int,(v.text.size:Int)]=dm (List.take (i-1) l)++eP v.kind++c32++eP v.int++c32++eP v.text.size++c32:=rfl;rw[e3];simp only[ByteArray.size_append];omega
   generalize dm l=s0 at hsz hpos
   repeat' (first|refine gw_ ce bR ?_|refine gi_ (fun hb=>?_) (fun hb=>?_)|fail)
   refine cB [0,1] rfl rfl rfl rfl (aav u0 s0 hu hpos m0) rfl (rf2 rfl rfl rfl (by show 0<2;omega) (fun y hy=>by rcases amN.1 hy with rfl|hy<;>first|(show 0<2;omega)|(rcases amN.1 hy with rfl|hy<;>first|exact True.intro|cases hy)|cases hy)) rfl (tf rfl rfl (L':=[cN (.ep 0 (147+65536) 0 0) u0 s0 0,.dead]) rfl) ?_
   repeat' (first|refine gw_ ce bR ?_|refine gi_ (fun hb=>?_) (fun hb=>?_)|fail)
   exact aJ (aO rfl (by trivial) rfl)
