/- Parts of the proof, joined. No condition. -/
import Derived.Test.YtfccopdbgfdcdaaGreatDoorKAA
import Derived.Test.YtfccopdbgfdcdaaGreatDoorKBF
import Derived.Test.YtfccopdbgfdcdaaGreatDoorKBH
import Derived.Test.YtfccopdbgfdcdaaGreatDoorKAI
import Derived.Test.YtfccopdbgfdcdaaGreatDoorKAL
import Derived.Test.YtfccopdbgfdcdaaGreatDoorKAM
import Derived.Test.YtfccopdbgfdcdaaGreatDoorKAN
import Derived.Test.YtfccopdbgfdcdaaGreatDoorKAS
set_option linter.unusedSimpArgs false
set_option linter.unusedVariables false
namespace Go.Proofs.YtfccopdbgfdcdaaGreatDoor.St
open Go.RowKit
def cP (p:Int × Int):List AC:=[.int .i64 p.1, .int .i64 p.2]
def cC (p:(Int × Int) × Int):List AC:=[.int .i64 p.1.1, .int .i64 p.1.2, .int .i64 p.2]
section
variable {P:Program} {R:PH} {w:World}
theorem WY {α:Type} {enc:α->List Value} {ec:α->List AC} {k:Nat} (hk : ∀ x,(ec x).length=k) (hkv : ∀ x,(enc x).length=k) (hk0:0<k) (hrep : ∀ x (j:Nat) u y v,(enc x)[j]?=some u->(ec x)[j]?=some y->bH R v y->v=u)
  (hR : ∀ b o u,R b o=some u->w.cell? ⟨b,o,none⟩=some u) {v:Value} {l:List α} (h:bH R v (.lst (l.map ec))) : ∃ A c,v = .slice A l.length c/\Rd enc k w w.heap.size A l.length l:=by
 obtain ⟨a,c,news,rfl,hc,hcells,hreg⟩:=yz (k:=k) h (by intro e he;simp only [aeh] at he;obtain ⟨x,_,rfl⟩:=he;exact hk x)
 refine ⟨a,c,by simp,rfl,fun hp=>?_⟩
 obtain ⟨b,o,rfl,hb⟩:=hreg (by simpa using hp)
 have key : ∀ (i:Nat) x,l[i]?=some x -> ∀ (j:Nat) u,(enc x)[j]?=some u->w.cell? ⟨b,o+(i*k+j),none⟩=some u:=by
  intro i x hx j u hu
  have he:(l.map ec)[i]?=some (ec x):=by rw [ad6,hx];rfl
  have hj:j<(ec x).length:=by rw [hk, <- hkv x];exact (adI.1 hu).1
  obtain ⟨u0,h0,p0⟩:=hcells.get i _ j _ he (adR hj)
  rw [hrep x j u _ u0 hu (adR hj) p0] at h0
  exact hR _ _ _ (hb _ _ h0)
 refine ⟨b,o,rfl,?_,fun i x hx j u hu=>?_⟩
 ·obtain ⟨x,hx⟩:=gol_ hp
  obtain ⟨u,hu⟩:=gol_ (show 0<(enc x).length by rw [hkv];exact hk0)
  exact lt_of_cell (key 0 x hx 0 u hu)
 ·rw [Nat.add_assoc];exact key i x hx j u hu
def zA (R:PH) (w w':World):PHf:=fun b o=>if b<w.heap.size then R b o else w'.cell? ⟨b,o,none⟩
theorem KO (hR : ∀ b o u,R b o=some u->w.cell? ⟨b,o,none⟩=some u) (w':World) : ∀ b o u,R b o=some u->zA R w w' b o=some u:=fun b o u h=>by
 have:=lt_of_cell (hR b o u h)
 unfold zA;rw [if_pos this];exact h
def Uu (R:PH) (w w':World) (hR : ∀ b o u,R b o=some u->w.cell? ⟨b,o,none⟩=some u):PH:=R.put (zA R w w') (KO hR w')
theorem jw (hR : ∀ b o u,R b o=some u->w.cell? ⟨b,o,none⟩=some u) {w':World} (hg:Gr w w'):Ext (· < w.heap.size) R (Uu R w w' hR) w w' /\ ∀ b o u,Uu R w w' hR b o=some u->w'.cell? ⟨b,o,none⟩=some u:=by
 refine ⟨⟨Kept.of hg.out,KO hR w',fun b o hb=>?_⟩,fun b o u h=>?_⟩
 ·show zA R w w' b o=_
  unfold zA;rw [if_pos hb]
 ·have h:zA R w w' b o=some u:=h
  unfold zA at h
  split at h
  ·rename_i hb;rw [hg.cells.1 b o hb];exact hR _ _ _ h
  ·exact h
theorem Bu (hR : ∀ b o u,R b o=some u->w.cell? ⟨b,o,none⟩=some u) {w':World} {E:TypeId} {v:Value} {l:List (Int × Int)} (ho:Own e2 2 E w' w.heap.size v l):bH (Uu R w w' hR) v (.lst (l.map cP)):=by
 obtain ⟨A,c,rfl⟩:=ho.form
 have hrd:=ho.rds eF
 have hlt:=World.ownsRow.lt ho
 have hc:l.length<=c:=by
  rcases ho.2 with ⟨hv,hn⟩|⟨g,cap,cur,hv,_,_,hle,_⟩
  ·omega
  ·injection hv with _ _ h3;omega
 by_cases hz:l.length=0
 ·have:l=[]:=ad9 hz
  subst this
  exact fH _ _ _
 ·obtain ⟨b,o,rfl,hb,hcell⟩:=hrd.2 (by omega)
  have hge:w.heap.size<=b:=(hlt b rfl).1
  have key : ∀ (i:Nat) x,l[i]?=some x->Uu R w w' hR b (o+(i*2+0))=some (.int .i64 x.1)/\Uu R w w' hR b (o+(i*2+1))=some (.int .i64 x.2):=by
   intro i x hx
   show zA R w w' b _=_/\zA R w w' b _=_
   unfold zA
   rw [if_neg (by omega),if_neg (by omega), <- Nat.add_assoc, <- Nat.add_assoc]
   exact ⟨hcell i x hx 0 _ rfl,hcell i x hx 1 _ rfl⟩
  refine .lst _ _ _ _ 2 (fun j=>(Uu R w w' hR b (o+j)).getD Go.undef) b o (by simp) hc (by intro e he;simp only [aeh] at he;obtain ⟨x,_,rfl⟩:=he;rfl) (fun _=>rfl) (fun j hj=>?_) (fun i e j y he hy=>?_)
  ·have hi:j/2<l.length:=by omega
   have hx:l[j/2]?=some l[j/2]:=adR hi
   have:=key _ _ hx
   have hm:j=j/2*2+j%2:=by omega
   rcases Nat.mod_two_eq_zero_or_one j with h0|h0
   ·rw [h0] at hm;rw [hm,this.1];rfl
   ·rw [h0] at hm;rw [hm,this.2];rfl
  ·rw [ad6] at he
   cases hx:l[i]? with
   | none=>simp [hx] at he
   | some x =>
    rw [hx] at he;simp only [Option.map_some,Option.some.injEq] at he;subst he
    have:=key i x hx
    match j,hy with
    | 0,hy=>simp [cP] at hy;subst hy;rw [this.1];exact .int _ _
    | 1,hy=>simp [cP] at hy;subst hy;rw [this.2];exact .int _ _
    | j+2,hy=>simp [cP] at hy
theorem BP {v:Value} {k:IntKind} {n:Int} (h:bH R v (.int k n)):v = .int k n:=by cases h;rfl
theorem aal (hR : ∀ b o u,R b o=some u->w.cell? ⟨b,o,none⟩=some u) {v:Value} {l:List (Int × Int)} (h:bH R v (.lst (l.map cP))) : ∃ A c,v = .slice A l.length c/\Rd e2 2 w w.heap.size A l.length l :=
 WY (k:=2) (fun _=>rfl) eF (by decide) (fun x j u y v hu hy hv=>by
  match j,hu,hy with
  | 0,hu,hy=>simp [e2] at hu;simp [cP] at hy;subst hu hy;exact BP hv
  | 1,hu,hy=>simp [e2] at hu;simp [cP] at hy;subst hu hy;exact BP hv
  | j+2,hu,hy=>simp [cP] at hy) hR h
theorem Wp (hR : ∀ b o u,R b o=some u->w.cell? ⟨b,o,none⟩=some u) {v:Value} {l:List ((Int × Int) × Int)} (h:bH R v (.lst (l.map cC))) : ∃ A c,v = .slice A l.length c/\Rd e3 3 w w.heap.size A l.length l :=
 WY (k:=3) (fun _=>rfl) Mg (by decide) (fun x j u y v hu hy hv=>by
  match j,hu,hy with
  | 0,hu,hy=>simp [e3] at hu;simp [cC] at hy;subst hu hy;exact BP hv
  | 1,hu,hy=>simp [e3] at hu;simp [cC] at hy;subst hu hy;exact BP hv
  | 2,hu,hy=>simp [e3] at hu;simp [cC] at hy;subst hu hy;exact BP hv
  | j+3,hu,hy=>simp [cC] at hy) hR h
end
theorem FD {vs:Array Value} {p:PV} (h:vs.size=[p].length) : ∃ v,vs = #[v]:=by
 obtain ⟨l⟩:=vs
 match l,h with
 | [a],_=>exact ⟨a,rfl⟩
abbrev NJ (l:List ((Int × Int) × Int)):List (Int × Int):=di (nk l) (gm l)
theorem ZU (l:List ((Int × Int) × Int)) (hn:l.length<=100000):Pure Tryz.prog 142 [.one (.lst (l.map cC))] (.val (.one (.lst ((NJ l).map cP)))):=by
 refine ⟨⟨_,Tryz.func142,by kernel_rfl,by kernel_rfl⟩,fun R w vs hR hs hv=>?_⟩
 obtain ⟨v,rfl⟩:=FD hs
 obtain ⟨A,c,rfl,ha⟩:=Wp hR (hv 0 v _ rfl rfl)
 refine (aaa A _ c l w ha hn).mono ?_
 rintro e w' ⟨A',m',c',rfl,ho,hg⟩
 exact ⟨_,_,rfl,(jw hR hg).1,(jw hR hg).2,Bu hR ho⟩
theorem XI (l:List ((Int × Int) × Int)) (hn:l.length<=100000):Pure Tryz.prog 146 [.one (.lst (l.map cC))] (.val (.one (.lst ((NJ l).map cP)))):=by
 refine ⟨⟨_,Tryz.func146,by kernel_rfl,by kernel_rfl⟩,fun R w vs hR hs hv=>?_⟩
 obtain ⟨v,rfl⟩:=FD hs
 obtain ⟨A,c,rfl,ha⟩:=Wp hR (hv 0 v _ rfl rfl)
 refine (aaP A _ c l w ha hn).mono ?_
 rintro e w' ⟨A',m',c',rfl,ho,hg⟩
 exact ⟨_,_,rfl,(jw hR hg).1,(jw hR hg).2,Bu hR ho⟩
theorem WX (l:List (Int × Int)) (hn:l.length<=1000) (hasc:Asc l) (hF : ∀ s∈l,s.1<1099511627776) (hM : ∀ s∈l,s.2<=600):Pure Tryz.prog 90 [.one (.lst (l.map cP))] (.val (.one (.lst ((tC l).map cP)))):=by
 refine ⟨⟨_,Tryz.func90,by kernel_rfl,by kernel_rfl⟩,fun R w vs hR hs hv=>?_⟩
 obtain ⟨v,rfl⟩:=FD hs
 obtain ⟨A,c,rfl,ha⟩:=aal hR (hv 0 v _ rfl rfl)
 refine (WT A _ c l w ha hn hasc hF hM).mono ?_
 rintro e w' ⟨A',m',c',rfl,ho,hg⟩
 exact ⟨_,_,rfl,(jw hR hg).1,(jw hR hg).2,Bu hR ho⟩
theorem Ut (l:List (Int × Int)) (hn:l.length<=1000) (hM : ∀ s∈l,s.2<=600):Pure Tryz.prog 64 [.one (.lst (l.map cP))] (.val (.one (.lst ((tC l).map cP)))):=by
 refine ⟨⟨_,Tryz.func64,by kernel_rfl,by kernel_rfl⟩,fun R w vs hR hs hv=>?_⟩
 obtain ⟨v,rfl⟩:=FD hs
 obtain ⟨A,c,rfl,ha⟩:=aal hR (hv 0 v _ rfl rfl)
 refine (Zt A _ c l w ha hn hM).mono ?_
 rintro e w' ⟨A',m',c',rfl,ho,hg⟩
 exact ⟨_,_,rfl,(jw hR hg).1,(jw hR hg).2,Bu hR ho⟩
end Go.Proofs.YtfccopdbgfdcdaaGreatDoor.St
namespace Go.Proofs.YtfccopdbgfdcdaaGreatDoor
def toP (p:aW):Int × Int:=(p.lo,p.hi)
def ofP (x:Int × Int):aW:=⟨x.1,x.2⟩
def toS (s:Stp):Int × Int:=(s.lo,s.n)
def ofS (x:Int × Int):Stp:=⟨x.1,x.2⟩
def toC (c:DI):(Int × Int) × Int:=(toP c.period,c.n)
def zL (l:List DI):List Stp:=(St.NJ (l.map toC)).map ofS
def DY (l:List Stp):List aW:=(St.tC (l.map toS)).map ofP
theorem Tw (l:List DI):(l.map toC).map St.cC=l.map JE:=by rw [List.map_map];rfl
theorem Tv (l:List (Int × Int)):(l.map ofS).map xN=l.map St.cP:=by rw [List.map_map];rfl
theorem TD (l:List Stp):(l.map toS).map St.cP=l.map xN:=by rw [List.map_map];rfl
theorem TR (l:List (Int × Int)):(l.map ofP).map dP=l.map St.cP:=by rw [List.map_map];rfl
theorem aak (l:List DI) (hn:l.length<=100000):Pure Tryz.prog 142 [.one (.lst (l.map JE))] (.val (.one (.lst ((zL l).map xN)))):=by
 have:=St.ZU (l.map toC) (by simpa using hn)
 rw [Tw] at this
 unfold zL;rw [Tv];exact this
theorem VZ (l:List DI) (hn:l.length<=100000):Pure Tryz.prog 146 [.one (.lst (l.map JE))] (.val (.one (.lst ((zL l).map xN)))):=by
 have:=St.XI (l.map toC) (by simpa using hn)
 rw [Tw] at this
 unfold zL;rw [Tv];exact this
structure KT (l:List Stp):Prop where
 len:l.length<=1000
 asc:St.Asc (l.map toS)
 fin : ∀ s∈l,s.lo<1099511627776
 low : ∀ s∈l,s.n<=600
theorem Pz (l:List Stp) (h:KT l):Pure Tryz.prog 90 [.one (.lst (l.map xN))] (.val (.one (.lst ((DY l).map dP)))):=by
 have:=St.WX (l.map toS) (by simpa using h.len) h.asc (by intro s hs;obtain ⟨x,hx,rfl⟩:=aeh.1 hs;exact h.fin x hx) (by intro s hs;obtain ⟨x,hx,rfl⟩:=aeh.1 hs;exact h.low x hx)
 rw [TD] at this
 unfold DY;rw [TR];exact this
theorem Vi (l:List Stp) (h:KT l):Pure Tryz.prog 64 [.one (.lst (l.map xN))] (.val (.one (.lst ((DY l).map dP)))):=by
 have:=St.Ut (l.map toS) (by simpa using h.len) (by intro s hs;obtain ⟨x,hx,rfl⟩:=aeh.1 hs;exact h.low x hx)
 rw [TD] at this
 unfold DY;rw [TR];exact this
open Go.RowKit Go.MapKept
set_option maxRecDepth 100000
set_option maxHeartbeats 8000000
def BO (a b:Val):Option (aW × Bool):=some (⟨a.int,b.int⟩,decide (a.kind=1)&&decide (b.kind=1))
theorem XA {vs:Array Value} {p q:PV} (h:vs.size=[p,q].length) : ∃ v u,vs = #[v,u]:=by
 obtain ⟨l⟩:=vs
 match l,h with
 | [a,b],_=>exact ⟨a,b,rfl⟩
theorem Sk {R:PH} {v:Val} {u:Value} (h:(PV.agg (cV v)).rep R u):u = .agg #[.int .i64 v.kind, .int .i64 v.int, .string v.text]:=by
 obtain ⟨vs,rfl,hs,hc⟩:=h
 obtain ⟨l⟩:=vs
 match l,hs with
 | [a,b,c],_ =>
  have h0:=hc 0 a _ rfl rfl
  have h1:=hc 1 b _ rfl rfl
  have h2:=hc 2 c _ rfl rfl
  cases h0;cases h1;cases h2
  rfl
theorem Eu {a b:Val} {r:aW × Bool} (H:BO a b=some r):Pure Tryz.prog 129 [.agg (cV a), .agg (cV b)] (.tup [.agg (dP r.1), .one (.bool r.2)]):=by
 obtain rfl:=aee H
 refine ⟨⟨_,Tryz.func129,by kernel_rfl,by kernel_rfl⟩,fun R w vs hR hs hv=>?_⟩
 obtain ⟨v,u,rfl⟩:=XA hs
 have hv0:=Sk (hv 0 v _ rfl rfl)
 have hv1:=Sk (hv 1 u _ rfl rfl)
 subst hv0 hv1
 refine (St.NY a.kind a.int b.kind b.int a.text b.text w).mono ?_
 rintro e w' ⟨rfl,hg⟩
 refine ⟨_,_,rfl,(St.jw hR hg).1,(St.jw hR hg).2,⟨_,rfl,rfl,fun j u p hu hp=>?_⟩⟩
 match j,hu,hp with
 | 0,hu,hp =>
  simp at hu hp
  subst hu hp
  refine ⟨_,rfl,rfl,fun j u p hu hp=>?_⟩
  match j,hu,hp with
  | 0,hu,hp=>simp [dP] at hu hp;subst hu hp;exact .int _ _
  | 1,hu,hp=>simp [dP] at hu hp;subst hu hp;exact .int _ _
  | j+2,hu,hp=>simp [dP] at hp
 | 1,hu,hp=>simp at hu hp;subst hu hp;exact .bool _
 | j+2,hu,hp=>simp at hp
def xK (a_rel:Int) (a_l:(List Val)):Option (Val):=(aA a_l (0:Int)).bind fun x_1=>(aA a_l (1:Int)).bind fun x_2=>(BO x_1 x_2).bind fun r_3=>(aA a_l (2:Int)).bind fun x_4=>(aA a_l (3:Int)).bind fun x_5=>(BO x_4 x_5).bind fun r_6=>(Ug r_3.1 r_6.1).bind fun r_7=>bif (!r_3.2) then (ma ).bind fun r_9=>some r_9 else
 bif (!r_6.2) then (ma ).bind fun r_11=>some r_11 else
 bif (!r_7.2) then (ma ).bind fun r_13=>some r_13 else
 (wY (decide (r_7.1=a_rel))).bind fun r_14=>some r_14
theorem Oh {a_rel:Int} {a_l:(List Val)} {r:Val} (H:xK a_rel a_l=some r):Pure Tryz.prog 83 [.one (.int .i64 a_rel), .one (.lst (a_l.map cV))] (.val (.agg (cV r))):=by
 unfold xK at H
 refine po_ Tryz.func83 Tryz.ntmps83 ?_
 obtain ⟨x_1,i1z,i1,i1x,H⟩:=aR (f:=cV) H
 obtain ⟨x_2,i2z,i2,i2x,H⟩:=aR (f:=cV) H
 obtain ⟨r_3,c3,H⟩:=bd_ H
 replace c3:=Eu c3
 obtain ⟨x_4,i4z,i4,i4x,H⟩:=aR (f:=cV) H
 obtain ⟨x_5,i5z,i5,i5x,H⟩:=aR (f:=cV) H
 obtain ⟨r_6,c6,H⟩:=bd_ H
 replace c6:=Eu c6
 obtain ⟨r_7,c7,H⟩:=bd_ H
 replace c7:=Tt c7
 rcases aa H with ⟨q_8,H⟩|⟨q_8,H⟩
 ·obtain ⟨r_9,c8,H⟩:=bd_ H
  replace c8:=fG c8
  cases H
  exact af
 rcases aa H with ⟨q_10,H⟩|⟨q_10,H⟩
 ·obtain ⟨r_11,c9,H⟩:=bd_ H
  replace c9:=fG c9
  cases H
  exact af
 rcases aa H with ⟨q_12,H⟩|⟨q_12,H⟩
 ·obtain ⟨r_13,c10,H⟩:=bd_ H
  replace c10:=fG c10
  cases H
  exact af
 obtain ⟨r_14,c11,H⟩:=bd_ H
 replace c11:=si c11
 cases H
 exact af
set_option maxHeartbeats 8000000
set_option maxHeartbeats 8000000
def Gx (a_less:Bool) (a_greater:Bool):Option (Int):=bif a_less then some (-1:Int) else
 bif a_greater then some (1:Int) else
 some (0:Int)
theorem IL {a_less:Bool} {a_greater:Bool} {r:Int} (H:Gx a_less a_greater=some r):Pure Tryz.prog 149 [.one (.bool a_less), .one (.bool a_greater)] (.val (.one (.int .i64 r))):=by
 unfold Gx at H
 refine po_ Tryz.func149 Tryz.ntmps149 ?_
 rcases aa H with ⟨q_1,H⟩|⟨q_1,H⟩
 ·cases H
  exact af
 rcases aa H with ⟨q_2,H⟩|⟨q_2,H⟩
 ·cases H
  exact af
 cases H
 exact af
def zn (a_a:Val) (a_b:Val):Option (Int):=bif (decide (a_a.kind≠a_b.kind)) then (Gx (decide (a_a.kind<a_b.kind)) (decide (a_b.kind<a_a.kind))).bind fun r_2=>some r_2 else
 bif (decide (a_a.int≠a_b.int)) then (Gx (decide (a_a.int<a_b.int)) (decide (a_b.int<a_a.int))).bind fun r_4=>some r_4 else
 (Gx (Op.bytesLess a_a.text.toList a_b.text.toList) (!((Op.bytesLess a_a.text.toList a_b.text.toList)||(a_a.text.toList==a_b.text.toList)))).bind fun r_5=>some r_5
theorem BX {a_a:Val} {a_b:Val} {r:Int} (H:zn a_a a_b=some r):Pure Tryz.prog 102 [.agg (cV a_a), .agg (cV a_b)] (.val (.one (.int .i64 r))):=by
 unfold zn at H
 refine po_ Tryz.func102 Tryz.ntmps102 ?_
 rcases aa H with ⟨q_1,H⟩|⟨q_1,H⟩
 ·obtain ⟨r_2,c1,H⟩:=bd_ H
  replace c1:=IL c1
  cases H
  exact af
 rcases aa H with ⟨q_3,H⟩|⟨q_3,H⟩
 ·obtain ⟨r_4,c2,H⟩:=bd_ H
  replace c2:=IL c2
  cases H
  exact af
 obtain ⟨r_5,c3,H⟩:=bd_ H
 replace c3:=IL c3
 cases H
 exact af
def iq (a_a:(List Val)) (a_b:(List Val)):(Int)->Option (Step (Int) (Int)):=fun s=>match s with
 | i_1=>bif (decide (i_1<((a_a.length:Nat):Int))) then bif (decide (i_1<((a_b.length:Nat):Int))) then (aA a_a i_1).bind fun x_4=>(aA a_b i_1).bind fun x_5=>(zn x_4 x_5).bind fun r_6=>bif (decide (r_6≠(0:Int))) then some (.ret r_6) else
 some (.next (IntKind.i64.wrap (i_1+(1:Int)))) else
 some (.exit i_1) else
 some (.exit i_1)
def eH (a_a:(List Val)) (a_b:(List Val)):Sum (Int) (Int)->Option ((Int))
 | .inl i_1=>bif (decide (((a_a.length:Nat):Int)<((a_b.length:Nat):Int))) then some (-1:Int) else
 bif (decide (((a_b.length:Nat):Int)<((a_a.length:Nat):Int))) then some (1:Int) else
 some (0:Int)
 | .inr q=>some q
def sU (a_a:(List Val)) (a_b:(List Val)):Option (Int):=(az (iq a_a a_b) fuel (0:Int)).bind (eH a_a a_b)
theorem pq {a_a:(List Val)} {a_b:(List Val)} {r:Int} (H:sU a_a a_b=some r):Pure Tryz.prog 65 [.one (.lst (a_a.map cV)), .one (.lst (a_b.map cV))] (.val (.one (.int .i64 r))):=by
 unfold sU at H
 refine po_ Tryz.func65 Tryz.ntmps65 ?_
 refine bv ?_
 refine alM_ (fun s:Int=>match s with|i_1=>[(0, .one (.c (.lst (a_a.map cV)))),(1, .one (.c (.lst (a_b.map cV)))),(5, .one (.c (.int .i64 i_1)))]) (fun s=>match s with|i_1=>[]) H (fun _=>ad4 _)
  (fm_ dL [] rfl bL trivial) ?_
 rintro i_1 st1 hb1 hk1
 unfold iq at hb1
 dsimp only at hb1 ⊢
 rcases aa hb1 with ⟨q_2,hb1⟩|⟨q_2,hb1⟩
 ·rcases aa hb1 with ⟨q_3,hb1⟩|⟨q_3,hb1⟩
  ·obtain ⟨x_4,i1z,i1,i1x,hb1⟩:=aR (f:=cV) hb1
   obtain ⟨x_5,i2z,i2,i2x,hb1⟩:=aR (f:=cV) hb1
   obtain ⟨r_6,c3,hb1⟩:=bd_ hb1
   replace c3:=BX c3
   rcases aa hb1 with ⟨q_7,hb1⟩|⟨q_7,hb1⟩
   ·cases hb1
    have hx1:eH a_a a_b (.inr r_6)=some _:=hk1
    unfold eH at hx1
    dsimp only at hx1
    cases hx1
    exact af
   cases hb1
   refine bv ?_
   exact ⟨_,rfl,fm_ dL [] rfl bL trivial⟩
  cases hb1
  have hx1:eH a_a a_b (.inl i_1)=some _:=hk1
  unfold eH at hx1
  dsimp only at hx1
  rcases aa hx1 with ⟨q_8,hx1⟩|⟨q_8,hx1⟩
  ·cases hx1
   exact af
  rcases aa hx1 with ⟨q_9,hx1⟩|⟨q_9,hx1⟩
  ·cases hx1
   exact af
  cases hx1
  exact af
 cases hb1
 have hx1:eH a_a a_b (.inl i_1)=some _:=hk1
 unfold eH at hx1
 dsimp only at hx1
 rcases aa hx1 with ⟨q_8,hx1⟩|⟨q_8,hx1⟩
 ·cases hx1
  exact af
 rcases aa hx1 with ⟨q_9,hx1⟩|⟨q_9,hx1⟩
 ·cases hx1
  exact af
 cases hx1
 exact af
set_option maxHeartbeats 8000000
def eX:Option (Val):=some (⟨(0:Int),(0:Int),ByteArray.empty⟩:Val)
theorem bX {r:Val} (H:eX=some r):Pure Tryz.prog 109 [] (.val (.agg (cV r))):=by
 unfold eX at H
 refine po_ Tryz.func109 Tryz.ntmps109 ?_
 cases H
 exact af
def lU (a_s:ByteArray):(Int)->Option (Step (Int) (Bool)):=fun s=>match s with
 | i_1=>bif (decide (i_1<((a_s.size:Nat):Int))) then (Va a_s i_1).bind fun b_3=>bif (decide (((b_3.toNat:Nat):Int)<(32:Int))) then some (.ret false) else
 bif (decide ((126:Int)<((b_3.toNat:Nat):Int))) then some (.ret false) else
 some (.next (IntKind.i64.wrap (i_1+(1:Int)))) else
 some (.exit i_1)
def dU:Sum (Int) (Bool)->Option ((Bool))
 | .inl i_1=>some true
 | .inr q=>some q
def oV (a_s:ByteArray):Option (Bool):=(az (lU a_s) fuel (0:Int)).bind (dU)
theorem JX {a_s:ByteArray} {r:Bool} (H:oV a_s=some r):Pure Tryz.prog 152 [.one (.str a_s)] (.val (.one (.bool r))):=by
 unfold oV at H
 refine po_ Tryz.func152 Tryz.ntmps152 ?_
 repeat' (first|refine gs5_ ?_|refine b_ rfl rfl rfl rfl rfl rfl rfl ?_)
 refine alM_ (fun s:Int=>match s with|i_1=>[(0, .one (.c (.str a_s))),(3, .one (.c (.int .i64 i_1)))]) (fun s=>match s with|i_1=>[]) H (fun _=>ad4 _)
  (fm_ dL [] rfl bL trivial) ?_
 rintro i_1 st1 hb1 hk1
 unfold lU at hb1
 dsimp only at hb1 ⊢
 rcases aa hb1 with ⟨q_2,hb1⟩|⟨q_2,hb1⟩
 ·obtain ⟨b_3,i1,hb1⟩:=bd_ hb1
  obtain ⟨i1z,i1⟩:=Kg i1
  rcases aa hb1 with ⟨q_4,hb1⟩|⟨q_4,hb1⟩
  ·cases hb1
   have hx1:dU (.inr false)=some _:=hk1
   unfold dU at hx1
   dsimp only at hx1
   cases hx1
   repeat' (first|refine gs5_ ?_|refine b_ rfl rfl rfl rfl rfl rfl rfl ?_)
   refine bE (bR rfl ?_ ?_)
   ·repeat' (first|exact trivial|rfl|exact adS rfl|omega|apply And.intro)
   ·first|rfl|(simp only [adV,adT,adX,adN]<;>rfl)
  rcases aa hb1 with ⟨q_5,hb1⟩|⟨q_5,hb1⟩
  ·cases hb1
   have hx1:dU (.inr false)=some _:=hk1
   unfold dU at hx1
   dsimp only at hx1
   cases hx1
   repeat' (first|refine gs5_ ?_|refine b_ rfl rfl rfl rfl rfl rfl rfl ?_)
   refine bE (bR rfl ?_ ?_)
   ·repeat' (first|exact trivial|rfl|exact adS rfl|omega|apply And.intro)
   ·first|rfl|(simp only [adV,adT,adX,adN]<;>rfl)
  cases hb1
  repeat' (first|refine gs5_ ?_|refine b_ rfl rfl rfl rfl rfl rfl rfl ?_)
  exact ⟨_,rfl,fm_ dL [] rfl bL trivial⟩
 cases hb1
 have hx1:dU (.inl i_1)=some _:=hk1
 unfold dU at hx1
 dsimp only at hx1
 cases hx1
 repeat' (first|refine gs5_ ?_|refine b_ rfl rfl rfl rfl rfl rfl rfl ?_)
 refine bE (bR rfl ?_ ?_)
 ·repeat' (first|exact trivial|rfl|exact adS rfl|omega|apply And.intro)
 ·first|rfl|(simp only [adV,adT,adX,adN]<;>rfl)
def dQ (a_v:Val):Option (Bool):=bif (decide (a_v.kind=(0:Int))) then bif (decide (a_v.int=(0:Int))) then some (a_v.text.toList==(⟨#[]⟩:ByteArray).toList) else
 some false else
 bif (decide (a_v.kind=(1:Int))) then bif (a_v.text.toList==(⟨#[]⟩:ByteArray).toList) then bif (decide ((-1125899906842624:Int)<=a_v.int)) then some (decide (a_v.int<=(1125899906842624:Int))) else
 some false else
 some false else
 bif (decide (a_v.kind=(2:Int))) then bif (decide (a_v.int=(0:Int))) then bif (decide (((a_v.text.size:Nat):Int)<=(200:Int))) then (oV a_v.text).bind fun r_9=>some r_9 else
 some false else
 some false else
 bif (decide (a_v.kind=(3:Int))) then bif (a_v.text.toList==(⟨#[]⟩:ByteArray).toList) then bif (decide (a_v.int=(0:Int))) then some true else
 some (decide (a_v.int=(1:Int))) else
 some false else
 some false
theorem pg {a_v:Val} {r:Bool} (H:dQ a_v=some r):Pure Tryz.prog 105 [.agg (cV a_v)] (.val (.one (.bool r))):=by
 unfold dQ at H
 refine po_ Tryz.func105 Tryz.ntmps105 ?_
 rcases aa H with ⟨q_1,H⟩|⟨q_1,H⟩
 ·rcases aa H with ⟨q_2,H⟩|⟨q_2,H⟩
  ·cases H
   exact af
  cases H
  exact af
 rcases aa H with ⟨q_3,H⟩|⟨q_3,H⟩
 ·rcases aa H with ⟨q_4,H⟩|⟨q_4,H⟩
  ·rcases aa H with ⟨q_5,H⟩|⟨q_5,H⟩
   ·cases H
    exact af
   cases H
   exact af
  cases H
  exact af
 rcases aa H with ⟨q_6,H⟩|⟨q_6,H⟩
 ·rcases aa H with ⟨q_7,H⟩|⟨q_7,H⟩
  ·rcases aa H with ⟨q_8,H⟩|⟨q_8,H⟩
   ·obtain ⟨r_9,c1,H⟩:=bd_ H
    replace c1:=JX c1
    cases H
    exact af
   cases H
   exact af
  cases H
  exact af
 rcases aa H with ⟨q_10,H⟩|⟨q_10,H⟩
 ·rcases aa H with ⟨q_11,H⟩|⟨q_11,H⟩
  ·rcases aa H with ⟨q_12,H⟩|⟨q_12,H⟩
   ·cases H
    exact af
   cases H
   exact af
  cases H
  exact af
 cases H
 exact af
def ui (a_v:Val):Option (Val):=(dQ a_v).bind fun r_1=>bif r_1 then some a_v else
 (eX ).bind fun r_3=>some r_3
theorem IV {a_v:Val} {r:Val} (H:ui a_v=some r):Pure Tryz.prog 158 [.agg (cV a_v)] (.val (.agg (cV r))):=by
 unfold ui at H
 refine po_ Tryz.func158 Tryz.ntmps158 ?_
 obtain ⟨r_1,c1,H⟩:=bd_ H
 replace c1:=pg c1
 rcases aa H with ⟨q_2,H⟩|⟨q_2,H⟩
 ·cases H
  exact af
 obtain ⟨r_3,c2,H⟩:=bd_ H
 replace c2:=bX c2
 cases H
 exact af
def qo (a_n:Int):Option (Val):=(ui (⟨(1:Int),a_n,ByteArray.empty⟩:Val)).bind fun r_1=>some r_1
theorem mF {a_n:Int} {r:Val} (H:qo a_n=some r):Pure Tryz.prog 116 [.one (.int .i64 a_n)] (.val (.agg (cV r))):=by
 unfold qo at H
 refine po_ Tryz.func116 Tryz.ntmps116 ?_
 obtain ⟨r_1,c1,H⟩:=bd_ H
 replace c1:=IV c1
 cases H
 exact af
def Rs (a_row:(List Val)) (a_i:Int):Option (Val):=bif (decide (a_i<(0:Int))) then (eX ).bind fun r_2=>some r_2 else
 bif (decide (((a_row.length:Nat):Int)<=a_i)) then (eX ).bind fun r_4=>some r_4 else
 (aA a_row a_i).bind fun x_5=>some x_5
theorem Na {a_row:(List Val)} {a_i:Int} {r:Val} (H:Rs a_row a_i=some r):Pure Tryz.prog 153 [.one (.lst (a_row.map cV)), .one (.int .i64 a_i)] (.val (.agg (cV r))):=by
 unfold Rs at H
 refine po_ Tryz.func153 Tryz.ntmps153 ?_
 rcases aa H with ⟨q_1,H⟩|⟨q_1,H⟩
 ·obtain ⟨r_2,c1,H⟩:=bd_ H
  replace c1:=bX c1
  cases H
  exact af
 rcases aa H with ⟨q_3,H⟩|⟨q_3,H⟩
 ·obtain ⟨r_4,c2,H⟩:=bd_ H
  replace c2:=bX c2
  cases H
  exact af
 obtain ⟨x_5,i3z,i3,i3x,H⟩:=aR (f:=cV) H
 cases H
 exact af
def kI (a_a:(List Val)) (a_b:(List Val)):Option (Bool):=(sU a_a a_b).bind fun r_1=>some (decide (r_1=(0:Int)))
theorem FJ {a_a:(List Val)} {a_b:(List Val)} {r:Bool} (H:kI a_a a_b=some r):Pure Tryz.prog 94 [.one (.lst (a_a.map cV)), .one (.lst (a_b.map cV))] (.val (.one (.bool r))):=by
 unfold kI at H
 refine po_ Tryz.func94 Tryz.ntmps94 ?_
 obtain ⟨r_1,c1,H⟩:=bd_ H
 replace c1:=pq c1
 cases H
 exact af
def AO (a_a:(List Val)) (a_b:(List Val)) (a_o:(List JV)):(Int)->Option (Step (Int) (Bool)):=fun s=>match s with
 | i_1=>bif (decide (i_1<((a_o.length:Nat):Int))) then (aA a_o i_1).bind fun x_3=>(Rs a_a x_3.column).bind fun r_4=>(Rs a_b x_3.column).bind fun r_5=>(zn r_4 r_5).bind fun r_6=>bif (decide (r_6≠(0:Int))) then some (.ret (!((decide (r_6<(0:Int)))==x_3.desc))) else
 some (.next (IntKind.i64.wrap (i_1+(1:Int)))) else
 some (.exit i_1)
def jM (a_a:(List Val)) (a_b:(List Val)):Sum (Int) (Bool)->Option ((Bool))
 | .inl i_1=>(sU a_a a_b).bind fun r_8=>some (decide (r_8<(0:Int)))
 | .inr q=>some q
def zb (a_a:(List Val)) (a_b:(List Val)) (a_o:(List JV)):Option (Bool):=(az (AO a_a a_b a_o) fuel (0:Int)).bind (jM a_a a_b)
theorem GL {a_a:(List Val)} {a_b:(List Val)} {a_o:(List JV)} {r:Bool} (H:zb a_a a_b a_o=some r):Pure Tryz.prog 180 [.one (.lst (a_a.map cV)), .one (.lst (a_b.map cV)), .one (.lst (a_o.map FK))] (.val (.one (.bool r))):=by
 unfold zb at H
 refine po_ Tryz.func180 Tryz.ntmps180 ?_
 refine bv ?_
 refine alM_ (fun s:Int=>match s with|i_1=>[(0, .one (.c (.lst (a_a.map cV)))),(1, .one (.c (.lst (a_b.map cV)))),(2, .one (.c (.lst (a_o.map FK)))),(7, .one (.c (.int .i64 i_1)))]) (fun s=>match s with|i_1=>[]) H (fun _=>ad4 _)
  (fm_ dL [] rfl bL trivial) ?_
 rintro i_1 st1 hb1 hk1
 unfold AO at hb1
 dsimp only at hb1 ⊢
 rcases aa hb1 with ⟨q_2,hb1⟩|⟨q_2,hb1⟩
 ·obtain ⟨x_3,i1z,i1,i1x,hb1⟩:=aR (f:=FK) hb1
  obtain ⟨r_4,c2,hb1⟩:=bd_ hb1
  replace c2:=Na c2
  obtain ⟨r_5,c3,hb1⟩:=bd_ hb1
  replace c3:=Na c3
  obtain ⟨r_6,c4,hb1⟩:=bd_ hb1
  replace c4:=BX c4
  rcases aa hb1 with ⟨q_7,hb1⟩|⟨q_7,hb1⟩
  ·cases hb1
   have hx1:jM a_a a_b (.inr (!((decide (r_6<(0:Int)))==x_3.desc)))=some _:=hk1
   unfold jM at hx1
   dsimp only at hx1
   cases hx1
   exact af
  cases hb1
  refine bv ?_
  exact ⟨_,rfl,fm_ dL [] rfl bL trivial⟩
 cases hb1
 have hx1:jM a_a a_b (.inl i_1)=some _:=hk1
 unfold jM at hx1
 dsimp only at hx1
 obtain ⟨r_8,c5,hx1⟩:=bd_ hx1
 replace c5:=pq c5
 cases hx1
 exact af
def eD (a_a:(List (List Val))) (a_b:(List (List Val))) (a_o:(List JV)):((List (List Val)) × Int × Int)->Option (Step ((List (List Val)) × Int × Int) ((List (List Val)))):=fun s=>match s with
 | (out_1,i_2,k_3)=>bif (decide (i_2<((a_a.length:Nat):Int))) then bif (decide (i_2=((a_a.length:Nat):Int))) then (aA a_b k_3).bind fun x_6=>bif (decide (out_1.length+1<=5864062014805)) then (some (.next ((out_1++[x_6]),i_2,(IntKind.i64.wrap (k_3+(1:Int)))))) else none else
 bif (decide (k_3<((a_b.length:Nat):Int))) then (aA a_b k_3).bind fun x_8=>(aA a_a i_2).bind fun x_9=>(zb x_8 x_9 a_o).bind fun r_10=>bif r_10 then bif (decide (out_1.length+1<=5864062014805)) then (some (.next ((out_1++[x_8]),i_2,(IntKind.i64.wrap (k_3+(1:Int)))))) else none else
 bif (decide (out_1.length+1<=5864062014805)) then (some (.next ((out_1++[x_9]),(IntKind.i64.wrap (i_2+(1:Int))),k_3))) else none else
 (aA a_a i_2).bind fun x_12=>bif (decide (out_1.length+1<=5864062014805)) then (some (.next ((out_1++[x_12]),(IntKind.i64.wrap (i_2+(1:Int))),k_3))) else none else
 bif (decide (k_3<((a_b.length:Nat):Int))) then bif (decide (i_2=((a_a.length:Nat):Int))) then (aA a_b k_3).bind fun x_15=>bif (decide (out_1.length+1<=5864062014805)) then (some (.next ((out_1++[x_15]),i_2,(IntKind.i64.wrap (k_3+(1:Int)))))) else none else
 (aA a_b k_3).bind fun x_16=>(aA a_a i_2).bind fun x_17=>(zb x_16 x_17 a_o).bind fun r_18=>bif r_18 then bif (decide (out_1.length+1<=5864062014805)) then (some (.next ((out_1++[x_16]),i_2,(IntKind.i64.wrap (k_3+(1:Int)))))) else none else
 bif (decide (out_1.length+1<=5864062014805)) then (some (.next ((out_1++[x_17]),(IntKind.i64.wrap (i_2+(1:Int))),k_3))) else none else
 some (.exit (out_1,i_2,k_3))
def uu:Sum ((List (List Val)) × Int × Int) ((List (List Val)))->Option (((List (List Val))))
 | .inl (out_1,i_2,k_3)=>some out_1
 | .inr q=>some q
def CW (a_a:(List (List Val))) (a_b:(List (List Val))) (a_o:(List JV)):Option ((List (List Val))):=(az (eD a_a a_b a_o) fuel ([],(0:Int),(0:Int))).bind (uu)
theorem R6 {a_a:(List (List Val))} {a_b:(List (List Val))} {a_o:(List JV)} {r:(List (List Val))} (H:CW a_a a_b a_o=some r):Pure Tryz.prog 143 [.one (.lst (a_a.map (fun x=>[AC.lst (x.map cV)]))), .one (.lst (a_b.map (fun x=>[AC.lst (x.map cV)]))), .one (.lst (a_o.map FK))] (.val (.one (.lst (r.map (fun x=>[AC.lst (x.map cV)]))))):=by
 unfold CW at H
 refine po_ Tryz.func143 Tryz.ntmps143 ?_
 refine bv ?_
 refine dz 7 1 rfl ?_
 refine alM_ (fun s:(List (List Val)) × Int × Int=>match s with|(out_1,i_2,k_3)=>[(0, .one (.c (.lst (a_a.map (fun x=>[AC.lst (x.map cV)]))))),(1, .one (.c (.lst (a_b.map (fun x=>[AC.lst (x.map cV)]))))),(2, .one (.c (.lst (a_o.map FK)))),(7, .one (.own (out_1.map (fun x=>[AC.lst (x.map cV)])) 0)),(8, .one (.c (.int .i64 i_2))),(9, .one (.c (.int .i64 k_3)))]) (fun s=>match s with|(out_1,i_2,k_3)=>[.spare out_1.length 1]) H (fun _=>ad4 _)
  (fm_ dL [] rfl bL cZ) ?_
 rintro ⟨out_1,i_2,k_3⟩ st1 hb1 hk1
 unfold eD at hb1
 dsimp only at hb1 ⊢
 rcases aa hb1 with ⟨q_4,hb1⟩|⟨q_4,hb1⟩
 ·rcases aa hb1 with ⟨q_5,hb1⟩|⟨q_5,hb1⟩
  ·obtain ⟨x_6,i1z,i1,i1x,hb1⟩:=aR (f:=(fun x=>[AC.lst (x.map cV)])) hb1
   obtain ⟨g2,hb1⟩:=bu hb1
   cases hb1
   refine bv ?_
   exact ⟨_,rfl,fm_ kM [] jY bL cZ⟩
  rcases aa hb1 with ⟨q_7,hb1⟩|⟨q_7,hb1⟩
  ·obtain ⟨x_8,i3z,i3,i3x,hb1⟩:=aR (f:=(fun x=>[AC.lst (x.map cV)])) hb1
   obtain ⟨x_9,i4z,i4,i4x,hb1⟩:=aR (f:=(fun x=>[AC.lst (x.map cV)])) hb1
   obtain ⟨r_10,c5,hb1⟩:=bd_ hb1
   replace c5:=GL c5
   rcases aa hb1 with ⟨q_11,hb1⟩|⟨q_11,hb1⟩
   ·obtain ⟨g6,hb1⟩:=bu hb1
    cases hb1
    refine bv ?_
    exact ⟨_,rfl,fm_ kM [] jY bL cZ⟩
   obtain ⟨g7,hb1⟩:=bu hb1
   cases hb1
   refine bv ?_
   exact ⟨_,rfl,fm_ kM [] jY bL cZ⟩
  obtain ⟨x_12,i8z,i8,i8x,hb1⟩:=aR (f:=(fun x=>[AC.lst (x.map cV)])) hb1
  obtain ⟨g9,hb1⟩:=bu hb1
  cases hb1
  refine bv ?_
  exact ⟨_,rfl,fm_ kM [] jY bL cZ⟩
 rcases aa hb1 with ⟨q_13,hb1⟩|⟨q_13,hb1⟩
 ·rcases aa hb1 with ⟨q_14,hb1⟩|⟨q_14,hb1⟩
  ·obtain ⟨x_15,i10z,i10,i10x,hb1⟩:=aR (f:=(fun x=>[AC.lst (x.map cV)])) hb1
   obtain ⟨g11,hb1⟩:=bu hb1
   cases hb1
   refine bv ?_
   exact ⟨_,rfl,fm_ kM [] jY bL cZ⟩
  obtain ⟨x_16,i12z,i12,i12x,hb1⟩:=aR (f:=(fun x=>[AC.lst (x.map cV)])) hb1
  obtain ⟨x_17,i13z,i13,i13x,hb1⟩:=aR (f:=(fun x=>[AC.lst (x.map cV)])) hb1
  obtain ⟨r_18,c14,hb1⟩:=bd_ hb1
  replace c14:=GL c14
  rcases aa hb1 with ⟨q_19,hb1⟩|⟨q_19,hb1⟩
  ·obtain ⟨g15,hb1⟩:=bu hb1
   cases hb1
   refine bv ?_
   exact ⟨_,rfl,fm_ kM [] jY bL cZ⟩
  obtain ⟨g16,hb1⟩:=bu hb1
  cases hb1
  refine bv ?_
  exact ⟨_,rfl,fm_ kM [] jY bL cZ⟩
 cases hb1
 have hx1:uu (.inl (out_1,i_2,k_3))=some _:=hk1
 unfold uu at hx1
 dsimp only at hx1
 cases hx1
 exact af
def iP (a_row:(List Val)) (a_kinds:(List Int)):(Int)->Option (Step (Int) (Bool)):=fun s=>match s with
 | i_2=>bif (decide (i_2<((a_row.length:Nat):Int))) then (aA a_row i_2).bind fun x_4=>(dQ x_4).bind fun r_5=>bif (!r_5) then some (.ret false) else
 bif (decide (x_4.kind≠(0:Int))) then (aA a_kinds i_2).bind fun x_8=>bif (decide (x_4.kind≠x_8)) then some (.ret false) else
 some (.next (IntKind.i64.wrap (i_2+(1:Int)))) else
 some (.next (IntKind.i64.wrap (i_2+(1:Int)))) else
 some (.exit i_2)
def jR:Sum (Int) (Bool)->Option ((Bool))
 | .inl i_2=>some true
 | .inr q=>some q
def wK (a_row:(List Val)) (a_kinds:(List Int)):Option (Bool):=bif (decide (((a_row.length:Nat):Int)≠((a_kinds.length:Nat):Int))) then some false else
 (az (iP a_row a_kinds) fuel (0:Int)).bind (jR)
theorem Vf {a_row:(List Val)} {a_kinds:(List Int)} {r:Bool} (H:wK a_row a_kinds=some r):Pure Tryz.prog 70 [.one (.lst (a_row.map cV)), .one (.lst (a_kinds.map (fun x=>[AC.int .i64 x])))] (.val (.one (.bool r))):=by
 unfold wK at H
 refine po_ Tryz.func70 Tryz.ntmps70 ?_
 rcases aa H with ⟨q_1,H⟩|⟨q_1,H⟩
 ·cases H
  exact af
 refine bv ?_
 refine alM_ (fun s:Int=>match s with|i_2=>[(0, .one (.c (.lst (a_row.map cV)))),(1, .one (.c (.lst (a_kinds.map (fun x=>[AC.int .i64 x]))))),(5, .one (.c (.int .i64 i_2)))]) (fun s=>match s with|i_2=>[]) H (fun _=>ad4 _)
  (fm_ dL [] rfl bL trivial) ?_
 rintro i_2 st1 hb1 hk1
 unfold iP at hb1
 dsimp only at hb1 ⊢
 rcases aa hb1 with ⟨q_3,hb1⟩|⟨q_3,hb1⟩
 ·obtain ⟨x_4,i1z,i1,i1x,hb1⟩:=aR (f:=cV) hb1
  obtain ⟨r_5,c2,hb1⟩:=bd_ hb1
  replace c2:=pg c2
  rcases aa hb1 with ⟨q_6,hb1⟩|⟨q_6,hb1⟩
  ·cases hb1
   have hx1:jR (.inr false)=some _:=hk1
   unfold jR at hx1
   dsimp only at hx1
   cases hx1
   exact af
  rcases aa hb1 with ⟨q_7,hb1⟩|⟨q_7,hb1⟩
  ·obtain ⟨x_8,i3z,i3,i3x,hb1⟩:=aR (f:=(fun x=>[AC.int .i64 x])) hb1
   rcases aa hb1 with ⟨q_9,hb1⟩|⟨q_9,hb1⟩
   ·cases hb1
    have hx1:jR (.inr false)=some _:=hk1
    unfold jR at hx1
    dsimp only at hx1
    cases hx1
    exact af
   cases hb1
   refine bv ?_
   exact ⟨_,rfl,fm_ dL [] rfl bL trivial⟩
  cases hb1
  refine bv ?_
  exact ⟨_,rfl,fm_ dL [] rfl bL trivial⟩
 cases hb1
 have hx1:jR (.inl i_2)=some _:=hk1
 unfold jR at hx1
 dsimp only at hx1
 cases hx1
 exact af
def EI (a_k:Int):Option (Bool):=bif (decide (a_k=(1:Int))) then some true else
 bif (decide (a_k=(2:Int))) then some true else
 some (decide (a_k=(3:Int)))
theorem V_ {a_k:Int} {r:Bool} (H:EI a_k=some r):Pure Tryz.prog 106 [.one (.int .i64 a_k)] (.val (.one (.bool r))):=by
 unfold EI at H
 refine po_ Tryz.func106 Tryz.ntmps106 ?_
 rcases aa H with ⟨q_1,H⟩|⟨q_1,H⟩
 ·cases H
  exact af
 rcases aa H with ⟨q_2,H⟩|⟨q_2,H⟩
 ·cases H
  exact af
 cases H
 exact af
def rW (a_l:(List Int)):(Int)->Option (Step (Int) (Bool)):=fun s=>match s with
 | i_1=>bif (decide (i_1<((a_l.length:Nat):Int))) then (aA a_l i_1).bind fun x_3=>(EI x_3).bind fun r_4=>bif (!r_4) then some (.ret false) else
 some (.next (IntKind.i64.wrap (i_1+(1:Int)))) else
 some (.exit i_1)
def sI:Sum (Int) (Bool)->Option ((Bool))
 | .inl i_1=>some true
 | .inr q=>some q
def Ho (a_l:(List Int)):Option (Bool):=(az (rW a_l) fuel (0:Int)).bind (sI)
theorem UC {a_l:(List Int)} {r:Bool} (H:Ho a_l=some r):Pure Tryz.prog 71 [.one (.lst (a_l.map (fun x=>[AC.int .i64 x])))] (.val (.one (.bool r))):=by
 unfold Ho at H
 refine po_ Tryz.func71 Tryz.ntmps71 ?_
 refine bv ?_
 refine alM_ (fun s:Int=>match s with|i_1=>[(0, .one (.c (.lst (a_l.map (fun x=>[AC.int .i64 x]))))),(3, .one (.c (.int .i64 i_1)))]) (fun s=>match s with|i_1=>[]) H (fun _=>ad4 _)
  (fm_ dL [] rfl bL trivial) ?_
 rintro i_1 st1 hb1 hk1
 unfold rW at hb1
 dsimp only at hb1 ⊢
 rcases aa hb1 with ⟨q_2,hb1⟩|⟨q_2,hb1⟩
 ·obtain ⟨x_3,i1z,i1,i1x,hb1⟩:=aR (f:=(fun x=>[AC.int .i64 x])) hb1
  obtain ⟨r_4,c2,hb1⟩:=bd_ hb1
  replace c2:=V_ c2
  rcases aa hb1 with ⟨q_5,hb1⟩|⟨q_5,hb1⟩
  ·cases hb1
   have hx1:sI (.inr false)=some _:=hk1
   unfold sI at hx1
   dsimp only at hx1
   cases hx1
   exact af
  cases hb1
  refine bv ?_
  exact ⟨_,rfl,fm_ dL [] rfl bL trivial⟩
 cases hb1
 have hx1:sI (.inl i_1)=some _:=hk1
 unfold sI at hx1
 dsimp only at hx1
 cases hx1
 exact af
def lQ (a_a:(List Int)) (a_b:(List Int)):(Int)->Option (Step (Int) (Bool)):=fun s=>match s with
 | i_2=>bif (decide (i_2<((a_a.length:Nat):Int))) then (aA a_a i_2).bind fun x_4=>(aA a_b i_2).bind fun x_5=>bif (decide (x_4≠x_5)) then some (.ret false) else
 some (.next (IntKind.i64.wrap (i_2+(1:Int)))) else
 some (.exit i_2)
def ji:Sum (Int) (Bool)->Option ((Bool))
 | .inl i_2=>some true
 | .inr q=>some q
def lh (a_a:(List Int)) (a_b:(List Int)):Option (Bool):=bif (decide (((a_a.length:Nat):Int)≠((a_b.length:Nat):Int))) then some false else
 (az (lQ a_a a_b) fuel (0:Int)).bind (ji)
theorem zx {a_a:(List Int)} {a_b:(List Int)} {r:Bool} (H:lh a_a a_b=some r):Pure Tryz.prog 43 [.one (.lst (a_a.map (fun x=>[AC.int .i64 x]))), .one (.lst (a_b.map (fun x=>[AC.int .i64 x])))] (.val (.one (.bool r))):=by
 unfold lh at H
 refine po_ Tryz.func43 Tryz.ntmps43 ?_
 rcases aa H with ⟨q_1,H⟩|⟨q_1,H⟩
 ·cases H
  exact af
 refine bv ?_
 refine alM_ (fun s:Int=>match s with|i_2=>[(0, .one (.c (.lst (a_a.map (fun x=>[AC.int .i64 x]))))),(1, .one (.c (.lst (a_b.map (fun x=>[AC.int .i64 x]))))),(5, .one (.c (.int .i64 i_2)))]) (fun s=>match s with|i_2=>[]) H (fun _=>ad4 _)
  (fm_ dL [] rfl bL trivial) ?_
 rintro i_2 st1 hb1 hk1
 unfold lQ at hb1
 dsimp only at hb1 ⊢
 rcases aa hb1 with ⟨q_3,hb1⟩|⟨q_3,hb1⟩
 ·obtain ⟨x_4,i1z,i1,i1x,hb1⟩:=aR (f:=(fun x=>[AC.int .i64 x])) hb1
  obtain ⟨x_5,i2z,i2,i2x,hb1⟩:=aR (f:=(fun x=>[AC.int .i64 x])) hb1
  rcases aa hb1 with ⟨q_6,hb1⟩|⟨q_6,hb1⟩
  ·cases hb1
   have hx1:ji (.inr false)=some _:=hk1
   unfold ji at hx1
   dsimp only at hx1
   cases hx1
   exact af
  cases hb1
  refine bv ?_
  exact ⟨_,rfl,fm_ dL [] rfl bL trivial⟩
 cases hb1
 have hx1:ji (.inl i_2)=some _:=hk1
 unfold ji at hx1
 dsimp only at hx1
 cases hx1
 exact af
def nC (a_a:(List (List Val))) (a_b:(List (List Val))):(Int)->Option (Step (Int) (Bool)):=fun s=>match s with
 | i_2=>bif (decide (i_2<((a_a.length:Nat):Int))) then (aA a_a i_2).bind fun x_4=>(aA a_b i_2).bind fun x_5=>(kI x_4 x_5).bind fun r_6=>bif (!r_6) then some (.ret false) else
 some (.next (IntKind.i64.wrap (i_2+(1:Int)))) else
 some (.exit i_2)
def kF:Sum (Int) (Bool)->Option ((Bool))
 | .inl i_2=>some true
 | .inr q=>some q
def r_ (a_a:(List (List Val))) (a_b:(List (List Val))):Option (Bool):=bif (decide (((a_a.length:Nat):Int)≠((a_b.length:Nat):Int))) then some false else
 (az (nC a_a a_b) fuel (0:Int)).bind (kF)
theorem NH {a_a:(List (List Val))} {a_b:(List (List Val))} {r:Bool} (H:r_ a_a a_b=some r):Pure Tryz.prog 59 [.one (.lst (a_a.map (fun x=>[AC.lst (x.map cV)]))), .one (.lst (a_b.map (fun x=>[AC.lst (x.map cV)])))] (.val (.one (.bool r))):=by
 unfold r_ at H
 refine po_ Tryz.func59 Tryz.ntmps59 ?_
 rcases aa H with ⟨q_1,H⟩|⟨q_1,H⟩
 ·cases H
  exact af
 refine bv ?_
 refine alM_ (fun s:Int=>match s with|i_2=>[(0, .one (.c (.lst (a_a.map (fun x=>[AC.lst (x.map cV)]))))),(1, .one (.c (.lst (a_b.map (fun x=>[AC.lst (x.map cV)]))))),(5, .one (.c (.int .i64 i_2)))]) (fun s=>match s with|i_2=>[]) H (fun _=>ad4 _)
  (fm_ dL [] rfl bL trivial) ?_
 rintro i_2 st1 hb1 hk1
 unfold nC at hb1
 dsimp only at hb1 ⊢
 rcases aa hb1 with ⟨q_3,hb1⟩|⟨q_3,hb1⟩
 ·obtain ⟨x_4,i1z,i1,i1x,hb1⟩:=aR (f:=(fun x=>[AC.lst (x.map cV)])) hb1
  obtain ⟨x_5,i2z,i2,i2x,hb1⟩:=aR (f:=(fun x=>[AC.lst (x.map cV)])) hb1
  obtain ⟨r_6,c3,hb1⟩:=bd_ hb1
  replace c3:=FJ c3
  rcases aa hb1 with ⟨q_7,hb1⟩|⟨q_7,hb1⟩
  ·cases hb1
   have hx1:kF (.inr false)=some _:=hk1
   unfold kF at hx1
   dsimp only at hx1
   cases hx1
   exact af
  cases hb1
  refine bv ?_
  exact ⟨_,rfl,fm_ dL [] rfl bL trivial⟩
 cases hb1
 have hx1:kF (.inl i_2)=some _:=hk1
 unfold kF at hx1
 dsimp only at hx1
 cases hx1
 exact af
def qb (a_a:zw) (a_b:zw):Option (Bool):=(lh a_a.kinds a_b.kinds).bind fun r_1=>bif r_1 then (r_ a_a.rows a_b.rows).bind fun r_3=>some r_3 else
 some false
theorem xB {a_a:zw} {a_b:zw} {r:Bool} (H:qb a_a a_b=some r):Pure Tryz.prog 28 [.agg (NT a_a), .agg (NT a_b)] (.val (.one (.bool r))):=by
 unfold qb at H
 refine po_ Tryz.func28 Tryz.ntmps28 ?_
 obtain ⟨r_1,c1,H⟩:=bd_ H
 replace c1:=zx c1
 rcases aa H with ⟨q_2,H⟩|⟨q_2,H⟩
 ·obtain ⟨r_3,c2,H⟩:=bd_ H
  replace c2:=NH c2
  cases H
  exact af
 cases H
 exact af
section
variable {P:Program} {ti:TI} {B:Nat->Prop} {N n0:Nat} {R:PH} {γ:List Gh} {L:List Ob} {T:Tm} {w:World} {Q:AX->Tm->List Ob->Prop}
theorem RG {c:Code} (id:Nat) {ver k:Nat} {es:List (List SV)} {cs:List (List AC)} (hL:L[id]?=some (.row ver es k)) (hn:mE es=some cs) (h:Aw P N n0 c Q T (L.set id (.row ver (cs.map (List.map SV.c)) k))):Aw P N n0 c Q T L:=by
 intro hn0 B R γ w a hi hT
 have hlt:id<L.length:=(adI.1 hL).1
 have hlen:=yN hn
 have hM:Mv R R γ γ L (L.set id (.row ver (cs.map (List.map SV.c)) k)):=by
  refine ⟨PH.sub_refl _,by simp,fun t n k' _ e=>?_,fun t ver' es' k' _ e=>?_,fun _ _ e=>e⟩
  ·by_cases q:t=id
   ·subst q;rw [ad2 hlt] at e;cases e
   ·rw [ad3 (Ne.symm q)] at e;exact ⟨n,e,adY _,fun _=>rfl⟩
  ·by_cases q:t=id
   ·subst q;rw [ad2 hlt] at e;injection e with e;injection e with e1 e2 e3;subst e1 e2 e3
    exact ⟨ver,es,hL,adY _,fun _=>⟨by simp [hlen],rfl⟩⟩
   ·rw [ad3 (Ne.symm q)] at e;exact ⟨ver',es',e,adY _,fun _=>⟨rfl,rfl⟩⟩
 have hI:Inv B R γ (L.set id (.row ver (cs.map (List.map SV.c)) k)) w:=by
  refine ⟨by simp [hi.len],hi.val,fun t x g hx hg=>?_,hi.inj,hi.new,hi.bsz⟩
  by_cases q:t=id
  ·subst q
   rw [ad2 hlt] at hx;injection hx with hx;subst hx
   have ho:=hi.obj t _ _ hL hg
   match g,ho with
   | .none,ho =>
    have ho:es=[]:=ho
    subst ho
    have:cs=[]:=ad9 (by rw [<- hlen];rfl)
    subst this
    exact rfl
   | .arr b cc,⟨⟨vs,E,h1,h2,h3⟩,h4,h5,h6,h7⟩ =>
    refine ⟨⟨vs,E,h1,h2,fun i e j u x he hu hx=>?_⟩,by simpa [hlen] using h4,h5,fun e he=>?_,h7⟩
    ·rw [ad6] at he
     cases hc:cs[i]? with
     | none=>rw [hc] at he;cases he
     | some c0 =>
      rw [hc] at he;injection he with he;subst he
      obtain ⟨e0,he0,hn0'⟩:=sH hn i c0 hc
      rw [ad6] at hx
      cases hj:c0[j]? with
      | none=>rw [hj] at hx;cases hx
      | some y =>
       rw [hj] at hx;injection hx with hx;subst hx
       obtain ⟨x0,hx0⟩:=gol_ (show j<e0.length by rw [<- jb hn0'];exact (adI.1 hj).1)
       exact SV.norm_rep (h3 i e0 j u x0 he0 hu hx0) (oF hn0' j x0 y hx0 hj)
    ·obtain ⟨c0,hc0,rfl⟩:=aeh.1 he
     obtain ⟨i,hi0⟩:=List.getElem?_of_mem hc0
     obtain ⟨e0,he0,hn0'⟩:=sH hn i c0 hi0
     rw [adU,jb hn0']
     exact h6 e0 (adO he0)
  ·rw [ad3 (Ne.symm q)] at hx
   exact (hi.obj t x g hx hg).mv hM (fun _ _=>rfl) (fun _ _ _ e=>e)
 refine wp_mono (h (by simpa using hn0) B R γ w a hI (hT.mv hM)) fun _ _ _ hh=>hh.ext (Ext.refl _ _ _) hi.len (Bw.of hn0 hM)
end
theorem cz : ∀ {n:Nat} {L:List Ob}, I_ n L -> ∀ x∈L,x.below n
 | _,_::_,h,x,hx=>by
  rcases adZ.1 hx with rfl|hx
  ·exact h.1
  ·exact cz h.2 x hx
def gC (x:AC):List SV:=[.c x]
def acs:TI := { VE with soft:=true }
theorem bq:TIok Tryz.prog acs:=⟨ah.size,ah.agg,ah.elem,ah.field,ah.zero,ah.bytes,ah.kind,ah.struct,ah.zok,ah.eqs⟩
theorem SE (σ:List Nat) (v k:Nat) (l:List AC):(Ob.row v (l.map gC) k).ren σ=Ob.row v (l.map gC) k:=by
 simp only [Ob.ren,List.map_map];rfl
theorem j1 {L L':List Ob} {v k:Nat} {l:List AC} (h:L.set 0 (Ob.row v (l.map gC) k)=L'):joinL [0] L [Ob.row v (l.map gC) k]=L':=by
 subst h
 simp [joinL,join,lL,fV,Ac,SE]
theorem uh {n:Nat} {l:List AV} (h:R7 n (l.map fun x=>(0,x))) : ∀ y∈l,y.below n:=by
 induction l with
 | nil=>intro y hy;cases hy
 | cons x l ih =>
  intro y hy
  rcases adZ.1 hy with rfl|hy
  ·exact h.1
  ·exact ih h.2 y hy
def vOf:List AC->Val
 | [.int _ k, .int _ n, .str t]=>⟨k,n,t⟩
 | _=>⟨0,0,⟨#[]⟩⟩
def ab6:AC->AC->Int
 | .lst a, .lst b=>cu (a.map vOf) (b.map vOf)
 | _,_=>0
theorem Xv (l:List Val):(l.map cV).map vOf=l:=by
 rw [List.map_map]
 have:vOf∘cV=id:=rfl
 rw [this,List.map_id]
end Go.Proofs.YtfccopdbgfdcdaaGreatDoor
