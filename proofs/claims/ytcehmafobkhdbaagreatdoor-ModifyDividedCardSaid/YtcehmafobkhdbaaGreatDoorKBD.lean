/- Parts of the proof, joined. No condition. -/
import Derived.Test.YtcehmafobkhdbaaGreatDoorKBA
import Derived.Test.YtcehmafobkhdbaaGreatDoorKBC
import Derived.Test.YtcehmafobkhdbaaGreatDoorKAI
import Derived.Test.YtcehmafobkhdbaaGreatDoorKAN
import Derived.Shelf.LaysM
import Derived.Shelf.Strconv.Itoa3
import Derived.Ground.NamesProg
import Derived.Lib.Walk
import Derived.Lib.ItoaMem
import Derived.BigCall
import Derived.BigGuard
import Derived.Lib.AppendIntMem
set_option linter.unusedSimpArgs false
set_option linter.unusedVariables false
namespace Go.Proofs.YtcehmafobkhdbaaGreatDoor.St
open Go.RowKit
def cP (p:Int × Int):List AC:=[.int .i64 p.1, .int .i64 p.2]
def cC (p:(Int × Int) × Int):List AC:=[.int .i64 p.1.1, .int .i64 p.1.2, .int .i64 p.2]
section
variable {P:Program} {R:PH} {w:World}
theorem Zf {α:Type} {enc:α->List Value} {ec:α->List AC} {k:Nat} (hk : ∀ x,(ec x).length=k) (hkv : ∀ x,(enc x).length=k) (hk0:0<k) (hrep : ∀ x (j:Nat) u y v,(enc x)[j]?=some u->(ec x)[j]?=some y->bP R v y->v=u)
  (hR : ∀ b o u,R b o=some u->w.cell? ⟨b,o,none⟩=some u) {v:Value} {l:List α} (h:bP R v (.lst (l.map ec))) : ∃ A c,v = .slice A l.length c/\Rd enc k w w.heap.size A l.length l:=by
 obtain ⟨a,c,news,rfl,hc,hcells,hreg⟩:=Ae (k:=k) h (by intro e he;simp only [aht] at he;obtain ⟨x,_,rfl⟩:=he;exact hk x)
 refine ⟨a,c,by simp,rfl,fun hp=>?_⟩
 obtain ⟨b,o,rfl,hb⟩:=hreg (by simpa using hp)
 have key : ∀ (i:Nat) x,l[i]?=some x -> ∀ (j:Nat) u,(enc x)[j]?=some u->w.cell? ⟨b,o+(i*k+j),none⟩=some u:=by
  intro i x hx j u hu
  have he:(l.map ec)[i]?=some (ec x):=by rw [ahg,hx];rfl
  have hj:j<(ec x).length:=by rw [hk, <- hkv x];exact (agV.1 hu).1
  obtain ⟨u0,h0,p0⟩:=hcells.get i _ j _ he (ag4 hj)
  rw [hrep x j u _ u0 hu (ag4 hj) p0] at h0
  exact hR _ _ _ (hb _ _ h0)
 refine ⟨b,o,rfl,?_,fun i x hx j u hu=>?_⟩
 ·obtain ⟨x,hx⟩:=gol_ hp
  obtain ⟨u,hu⟩:=gol_ (show 0<(enc x).length by rw [hkv];exact hk0)
  exact lt_of_cell (key 0 x hx 0 u hu)
 ·rw [Nat.add_assoc];exact key i x hx j u hu
def Bb (R:PH) (w w':World):PHf:=fun b o=>if b<w.heap.size then R b o else w'.cell? ⟨b,o,none⟩
theorem NC (hR : ∀ b o u,R b o=some u->w.cell? ⟨b,o,none⟩=some u) (w':World) : ∀ b o u,R b o=some u->Bb R w w' b o=some u:=fun b o u h=>by
 have:=lt_of_cell (hR b o u h)
 unfold Bb;rw [if_pos this];exact h
def XE (R:PH) (w w':World) (hR : ∀ b o u,R b o=some u->w.cell? ⟨b,o,none⟩=some u):PH:=R.put (Bb R w w') (NC hR w')
theorem kZ (hR : ∀ b o u,R b o=some u->w.cell? ⟨b,o,none⟩=some u) {w':World} (hg:Gr w w'):Ext (· < w.heap.size) R (XE R w w' hR) w w' /\ ∀ b o u,XE R w w' hR b o=some u->w'.cell? ⟨b,o,none⟩=some u:=by
 refine ⟨⟨Kept.of hg.out,NC hR w',fun b o hb=>?_⟩,fun b o u h=>?_⟩
 ·show Bb R w w' b o=_
  unfold Bb;rw [if_pos hb]
 ·have h:Bb R w w' b o=some u:=h
  unfold Bb at h
  split at h
  ·rename_i hb;rw [hg.cells.1 b o hb];exact hR _ _ _ h
  ·exact h
theorem De (hR : ∀ b o u,R b o=some u->w.cell? ⟨b,o,none⟩=some u) {w':World} {E:TypeId} {v:Value} {l:List (Int × Int)} (ho:Own e2 2 E w' w.heap.size v l):bP (XE R w w' hR) v (.lst (l.map cP)):=by
 obtain ⟨A,c,rfl⟩:=ho.form
 have hrd:=ho.rds fB
 have hlt:=World.ownsRow.lt ho
 have hc:l.length<=c:=by
  rcases ho.2 with ⟨hv,hn⟩|⟨g,cap,cur,hv,_,_,hle,_⟩
  ·omega
  ·injection hv with _ _ h3;omega
 by_cases hz:l.length=0
 ·have:l=[]:=ahj hz
  subst this
  exact gp _ _ _
 ·obtain ⟨b,o,rfl,hb,hcell⟩:=hrd.2 (by omega)
  have hge:w.heap.size<=b:=(hlt b rfl).1
  have key : ∀ (i:Nat) x,l[i]?=some x->XE R w w' hR b (o+(i*2+0))=some (.int .i64 x.1)/\XE R w w' hR b (o+(i*2+1))=some (.int .i64 x.2):=by
   intro i x hx
   show Bb R w w' b _=_/\Bb R w w' b _=_
   unfold Bb
   rw [if_neg (by omega),if_neg (by omega), <- Nat.add_assoc, <- Nat.add_assoc]
   exact ⟨hcell i x hx 0 _ rfl,hcell i x hx 1 _ rfl⟩
  refine .lst _ _ _ _ 2 (fun j=>(XE R w w' hR b (o+j)).getD Go.undef) b o (by simp) hc (by intro e he;simp only [aht] at he;obtain ⟨x,_,rfl⟩:=he;rfl) (fun _=>rfl) (fun j hj=>?_) (fun i e j y he hy=>?_)
  ·have hi:j/2<l.length:=by omega
   have hx:l[j/2]?=some l[j/2]:=ag4 hi
   have:=key _ _ hx
   have hm:j=j/2*2+j%2:=by omega
   rcases Nat.mod_two_eq_zero_or_one j with h0|h0
   ·rw [h0] at hm;rw [hm,this.1];rfl
   ·rw [h0] at hm;rw [hm,this.2];rfl
  ·rw [ahg] at he
   cases hx:l[i]? with
   | none=>simp [hx] at he
   | some x =>
    rw [hx] at he;simp only [Option.map_some,Option.some.injEq] at he;subst he
    have:=key i x hx
    match j,hy with
    | 0,hy=>simp [cP] at hy;subst hy;rw [this.1];exact .int _ _
    | 1,hy=>simp [cP] at hy;subst hy;rw [this.2];exact .int _ _
    | j+2,hy=>simp [cP] at hy
theorem Eo {v:Value} {k:IntKind} {n:Int} (h:bP R v (.int k n)):v = .int k n:=by cases h;rfl
theorem ac0 (hR : ∀ b o u,R b o=some u->w.cell? ⟨b,o,none⟩=some u) {v:Value} {l:List (Int × Int)} (h:bP R v (.lst (l.map cP))) : ∃ A c,v = .slice A l.length c/\Rd e2 2 w w.heap.size A l.length l :=
 Zf (k:=2) (fun _=>rfl) fB (by decide) (fun x j u y v hu hy hv=>by
  match j,hu,hy with
  | 0,hu,hy=>simp [e2] at hu;simp [cP] at hy;subst hu hy;exact Eo hv
  | 1,hu,hy=>simp [e2] at hu;simp [cP] at hy;subst hu hy;exact Eo hv
  | j+2,hu,hy=>simp [cP] at hy) hR h
theorem aax (hR : ∀ b o u,R b o=some u->w.cell? ⟨b,o,none⟩=some u) {v:Value} {l:List ((Int × Int) × Int)} (h:bP R v (.lst (l.map cC))) : ∃ A c,v = .slice A l.length c/\Rd e3 3 w w.heap.size A l.length l :=
 Zf (k:=3) (fun _=>rfl) PN (by decide) (fun x j u y v hu hy hv=>by
  match j,hu,hy with
  | 0,hu,hy=>simp [e3] at hu;simp [cC] at hy;subst hu hy;exact Eo hv
  | 1,hu,hy=>simp [e3] at hu;simp [cC] at hy;subst hu hy;exact Eo hv
  | 2,hu,hy=>simp [e3] at hu;simp [cC] at hy;subst hu hy;exact Eo hv
  | j+3,hu,hy=>simp [cC] at hy) hR h
end
theorem G_ {vs:Array Value} {p:PV} (h:vs.size=[p].length) : ∃ v,vs = #[v]:=by
 obtain ⟨l⟩:=vs
 match l,h with
 | [a],_=>exact ⟨a,rfl⟩
abbrev P5 (l:List ((Int × Int) × Int)):List (Int × Int):=dJ (pF l) (iq l)
theorem acG (l:List ((Int × Int) × Int)) (hn:l.length<=100000):Pure Tryz.prog 119 [.one (.lst (l.map cC))] (.val (.one (.lst ((P5 l).map cP)))):=by
 refine ⟨⟨_,Tryz.func119,by kernel_rfl,by kernel_rfl⟩,fun R w vs hR hs hv=>?_⟩
 obtain ⟨v,rfl⟩:=G_ hs
 obtain ⟨A,c,rfl,ha⟩:=aax hR (hv 0 v _ rfl rfl)
 refine (abo A _ c l w ha hn).mono ?_
 rintro e w' ⟨A',m',c',rfl,ho,hg⟩
 exact ⟨_,_,rfl,(kZ hR hg).1,(kZ hR hg).2,De hR ho⟩
theorem ZY (l:List ((Int × Int) × Int)) (hn:l.length<=100000):Pure Tryz.prog 148 [.one (.lst (l.map cC))] (.val (.one (.lst ((P5 l).map cP)))):=by
 refine ⟨⟨_,Tryz.func148,by kernel_rfl,by kernel_rfl⟩,fun R w vs hR hs hv=>?_⟩
 obtain ⟨v,rfl⟩:=G_ hs
 obtain ⟨A,c,rfl,ha⟩:=aax hR (hv 0 v _ rfl rfl)
 refine (adS A _ c l w ha hn).mono ?_
 rintro e w' ⟨A',m',c',rfl,ho,hg⟩
 exact ⟨_,_,rfl,(kZ hR hg).1,(kZ hR hg).2,De hR ho⟩
theorem Zp (l:List (Int × Int)) (hn:l.length<=1000) (hasc:Asc l) (hF : ∀ s∈l,s.1<1099511627776) (hM : ∀ s∈l,s.2<=600):Pure Tryz.prog 70 [.one (.lst (l.map cP))] (.val (.one (.lst ((uD l).map cP)))):=by
 refine ⟨⟨_,Tryz.func70,by kernel_rfl,by kernel_rfl⟩,fun R w vs hR hs hv=>?_⟩
 obtain ⟨v,rfl⟩:=G_ hs
 obtain ⟨A,c,rfl,ha⟩:=ac0 hR (hv 0 v _ rfl rfl)
 refine (YU A _ c l w ha hn hasc hF hM).mono ?_
 rintro e w' ⟨A',m',c',rfl,ho,hg⟩
 exact ⟨_,_,rfl,(kZ hR hg).1,(kZ hR hg).2,De hR ho⟩
theorem Xg (l:List (Int × Int)) (hn:l.length<=1000) (hM : ∀ s∈l,s.2<=600):Pure Tryz.prog 60 [.one (.lst (l.map cP))] (.val (.one (.lst ((uD l).map cP)))):=by
 refine ⟨⟨_,Tryz.func60,by kernel_rfl,by kernel_rfl⟩,fun R w vs hR hs hv=>?_⟩
 obtain ⟨v,rfl⟩:=G_ hs
 obtain ⟨A,c,rfl,ha⟩:=ac0 hR (hv 0 v _ rfl rfl)
 refine (abj A _ c l w ha hn hM).mono ?_
 rintro e w' ⟨A',m',c',rfl,ho,hg⟩
 exact ⟨_,_,rfl,(kZ hR hg).1,(kZ hR hg).2,De hR ho⟩
end Go.Proofs.YtcehmafobkhdbaaGreatDoor.St
namespace Go.Proofs.YtcehmafobkhdbaaGreatDoor
def toP (p:aI):Int × Int:=(p.lo,p.hi)
def ofP (x:Int × Int):aI:=⟨x.1,x.2⟩
def toS (s:Stp):Int × Int:=(s.lo,s.n)
def ofS (x:Int × Int):Stp:=⟨x.1,x.2⟩
def toC (c:FE):(Int × Int) × Int:=(toP c.period,c.n)
def AU (l:List FE):List Stp:=(St.P5 (l.map toC)).map ofS
def EC (l:List Stp):List aI:=(St.uD (l.map toS)).map ofP
theorem VA (l:List FE):(l.map toC).map St.cC=l.map LV:=by rw [List.map_map];rfl
theorem Wj (l:List (Int × Int)):(l.map ofS).map y8=l.map St.cP:=by rw [List.map_map];rfl
theorem Vl (l:List Stp):(l.map toS).map St.cP=l.map y8:=by rw [List.map_map];rfl
theorem U_ (l:List (Int × Int)):(l.map ofP).map bE=l.map St.cP:=by rw [List.map_map];rfl
theorem abq (l:List FE) (hn:l.length<=100000):Pure Tryz.prog 119 [.one (.lst (l.map LV))] (.val (.one (.lst ((AU l).map y8)))):=by
 have:=St.acG (l.map toC) (by simpa using hn)
 rw [VA] at this
 unfold AU;rw [Wj];exact this
theorem Y2 (l:List FE) (hn:l.length<=100000):Pure Tryz.prog 148 [.one (.lst (l.map LV))] (.val (.one (.lst ((AU l).map y8)))):=by
 have:=St.ZY (l.map toC) (by simpa using hn)
 rw [VA] at this
 unfold AU;rw [Wj];exact this
structure Ng (l:List Stp):Prop where
 len:l.length<=1000
 asc:St.Asc (l.map toS)
 fin : ∀ s∈l,s.lo<1099511627776
 low : ∀ s∈l,s.n<=600
theorem R4 (l:List Stp) (h:Ng l):Pure Tryz.prog 70 [.one (.lst (l.map y8))] (.val (.one (.lst ((EC l).map bE)))):=by
 have:=St.Zp (l.map toS) (by simpa using h.len) h.asc (by intro s hs;obtain ⟨x,hx,rfl⟩:=aht.1 hs;exact h.fin x hx) (by intro s hs;obtain ⟨x,hx,rfl⟩:=aht.1 hs;exact h.low x hx)
 rw [Vl] at this
 unfold EC;rw [U_];exact this
theorem WT (l:List Stp) (h:Ng l):Pure Tryz.prog 60 [.one (.lst (l.map y8))] (.val (.one (.lst ((EC l).map bE)))):=by
 have:=St.Xg (l.map toS) (by simpa using h.len) (by intro s hs;obtain ⟨x,hx,rfl⟩:=aht.1 hs;exact h.low x hx)
 rw [Vl] at this
 unfold EC;rw [U_];exact this
open Go.RowKit Go.MapKept
set_option maxRecDepth 100000
set_option maxHeartbeats 8000000
def DT (a b:Val):Option (aI × Bool):=some (⟨a.int,b.int⟩,decide (a.kind=1)&&decide (b.kind=1))
theorem YS {vs:Array Value} {p q:PV} (h:vs.size=[p,q].length) : ∃ v u,vs = #[v,u]:=by
 obtain ⟨l⟩:=vs
 match l,h with
 | [a,b],_=>exact ⟨a,b,rfl⟩
theorem VN {R:PH} {v:Val} {u:Value} (h:(PV.agg (cV v)).rep R u):u = .agg #[.int .i64 v.kind, .int .i64 v.int, .string v.text]:=by
 obtain ⟨vs,rfl,hs,hc⟩:=h
 obtain ⟨l⟩:=vs
 match l,hs with
 | [a,b,c],_ =>
  have h0:=hc 0 a _ rfl rfl
  have h1:=hc 1 b _ rfl rfl
  have h2:=hc 2 c _ rfl rfl
  cases h0;cases h1;cases h2
  rfl
theorem Ga {a b:Val} {r:aI × Bool} (H:DT a b=some r):Pure Tryz.prog 128 [.agg (cV a), .agg (cV b)] (.tup [.agg (bE r.1), .one (.bool r.2)]):=by
 obtain rfl:=ahq H
 refine ⟨⟨_,Tryz.func128,by kernel_rfl,by kernel_rfl⟩,fun R w vs hR hs hv=>?_⟩
 obtain ⟨v,u,rfl⟩:=YS hs
 have hv0:=VN (hv 0 v _ rfl rfl)
 have hv1:=VN (hv 1 u _ rfl rfl)
 subst hv0 hv1
 refine (St.QD a.kind a.int b.kind b.int a.text b.text w).mono ?_
 rintro e w' ⟨rfl,hg⟩
 refine ⟨_,_,rfl,(St.kZ hR hg).1,(St.kZ hR hg).2,⟨_,rfl,rfl,fun j u p hu hp=>?_⟩⟩
 match j,hu,hp with
 | 0,hu,hp =>
  simp at hu hp
  subst hu hp
  refine ⟨_,rfl,rfl,fun j u p hu hp=>?_⟩
  match j,hu,hp with
  | 0,hu,hp=>simp [bE] at hu hp;subst hu hp;exact .int _ _
  | 1,hu,hp=>simp [bE] at hu hp;subst hu hp;exact .int _ _
  | j+2,hu,hp=>simp [bE] at hp
 | 1,hu,hp=>simp at hu hp;subst hu hp;exact .bool _
 | j+2,hu,hp=>simp at hp
def y_ (a_rel:Int) (a_l:(List Val)):Option (Val):=(aH a_l (0:Int)).bind fun x_1=>(aH a_l (1:Int)).bind fun x_2=>(DT x_1 x_2).bind fun r_3=>(aH a_l (2:Int)).bind fun x_4=>(aH a_l (3:Int)).bind fun x_5=>(DT x_4 x_5).bind fun r_6=>(W9 r_3.1 r_6.1).bind fun r_7=>bif (!r_3.2) then (oM ).bind fun r_9=>some r_9 else
 bif (!r_6.2) then (oM ).bind fun r_11=>some r_11 else
 bif (!r_7.2) then (oM ).bind fun r_13=>some r_13 else
 (yg (decide (r_7.1=a_rel))).bind fun r_14=>some r_14
theorem RX {a_rel:Int} {a_l:(List Val)} {r:Val} (H:y_ a_rel a_l=some r):Pure Tryz.prog 82 [.one (.int .i64 a_rel), .one (.lst (a_l.map cV))] (.val (.agg (cV r))):=by
 unfold y_ at H
 refine po_ Tryz.func82 Tryz.ntmps82 ?_
 obtain ⟨x_1,i1z,i1,i1x,H⟩:=aY (f:=cV) H
 obtain ⟨x_2,i2z,i2,i2x,H⟩:=aY (f:=cV) H
 obtain ⟨r_3,c3,H⟩:=bd_ H
 replace c3:=Ga c3
 obtain ⟨x_4,i4z,i4,i4x,H⟩:=aY (f:=cV) H
 obtain ⟨x_5,i5z,i5,i5x,H⟩:=aY (f:=cV) H
 obtain ⟨r_6,c6,H⟩:=bd_ H
 replace c6:=Ga c6
 obtain ⟨r_7,c7,H⟩:=bd_ H
 replace c7:=acB c7
 rcases af H with ⟨q_8,H⟩|⟨q_8,H⟩
 ·obtain ⟨r_9,c8,H⟩:=bd_ H
  replace c8:=gu c8
  cases H
  exact aD
 rcases af H with ⟨q_10,H⟩|⟨q_10,H⟩
 ·obtain ⟨r_11,c9,H⟩:=bd_ H
  replace c9:=gu c9
  cases H
  exact aD
 rcases af H with ⟨q_12,H⟩|⟨q_12,H⟩
 ·obtain ⟨r_13,c10,H⟩:=bd_ H
  replace c10:=gu c10
  cases H
  exact aD
 obtain ⟨r_14,c11,H⟩:=bd_ H
 replace c11:=uM c11
 cases H
 exact aD
set_option maxHeartbeats 8000000
set_option maxHeartbeats 8000000
def Jc (a_less:Bool) (a_greater:Bool):Option (Int):=bif a_less then some (-1:Int) else
 bif a_greater then some (1:Int) else
 some (0:Int)
theorem Km {a_less:Bool} {a_greater:Bool} {r:Int} (H:Jc a_less a_greater=some r):Pure Tryz.prog 112 [.one (.bool a_less), .one (.bool a_greater)] (.val (.one (.int .i64 r))):=by
 unfold Jc at H
 refine po_ Tryz.func112 Tryz.ntmps112 ?_
 rcases af H with ⟨q_1,H⟩|⟨q_1,H⟩
 ·cases H
  exact aD
 rcases af H with ⟨q_2,H⟩|⟨q_2,H⟩
 ·cases H
  exact aD
 cases H
 exact aD
def AL (a_a:Val) (a_b:Val):Option (Int):=bif (decide (a_a.kind≠a_b.kind)) then (Jc (decide (a_a.kind<a_b.kind)) (decide (a_b.kind<a_a.kind))).bind fun r_2=>some r_2 else
 bif (decide (a_a.int≠a_b.int)) then (Jc (decide (a_a.int<a_b.int)) (decide (a_b.int<a_a.int))).bind fun r_4=>some r_4 else
 (Jc (Op.bytesLess a_a.text.toList a_b.text.toList) (!((Op.bytesLess a_a.text.toList a_b.text.toList)||(a_a.text.toList==a_b.text.toList)))).bind fun r_5=>some r_5
theorem Dm {a_a:Val} {a_b:Val} {r:Int} (H:AL a_a a_b=some r):Pure Tryz.prog 67 [.agg (cV a_a), .agg (cV a_b)] (.val (.one (.int .i64 r))):=by
 unfold AL at H
 refine po_ Tryz.func67 Tryz.ntmps67 ?_
 rcases af H with ⟨q_1,H⟩|⟨q_1,H⟩
 ·obtain ⟨r_2,c1,H⟩:=bd_ H
  replace c1:=Km c1
  cases H
  exact aD
 rcases af H with ⟨q_3,H⟩|⟨q_3,H⟩
 ·obtain ⟨r_4,c2,H⟩:=bd_ H
  replace c2:=Km c2
  cases H
  exact aD
 obtain ⟨r_5,c3,H⟩:=bd_ H
 replace c3:=Km c3
 cases H
 exact aD
def jK (a_a:(List Val)) (a_b:(List Val)):(Int)->Option (Step (Int) (Int)):=fun s=>match s with
 | i_1=>bif (decide (i_1<((a_a.length:Nat):Int))) then bif (decide (i_1<((a_b.length:Nat):Int))) then (aH a_a i_1).bind fun x_4=>(aH a_b i_1).bind fun x_5=>(AL x_4 x_5).bind fun r_6=>bif (decide (r_6≠(0:Int))) then some (.ret r_6) else
 some (.next (IntKind.i64.wrap (i_1+(1:Int)))) else
 some (.exit i_1) else
 some (.exit i_1)
def fG (a_a:(List Val)) (a_b:(List Val)):Sum (Int) (Int)->Option ((Int))
 | .inl i_1=>bif (decide (((a_a.length:Nat):Int)<((a_b.length:Nat):Int))) then some (-1:Int) else
 bif (decide (((a_b.length:Nat):Int)<((a_a.length:Nat):Int))) then some (1:Int) else
 some (0:Int)
 | .inr q=>some q
def vo (a_a:(List Val)) (a_b:(List Val)):Option (Int):=(ax (jK a_a a_b) fuel (0:Int)).bind (fG a_a a_b)
theorem qG {a_a:(List Val)} {a_b:(List Val)} {r:Int} (H:vo a_a a_b=some r):Pure Tryz.prog 37 [.one (.lst (a_a.map cV)), .one (.lst (a_b.map cV))] (.val (.one (.int .i64 r))):=by
 unfold vo at H
 refine po_ Tryz.func37 Tryz.ntmps37 ?_
 refine bF ?_
 refine alM_ (fun s:Int=>match s with|i_1=>[(0, .one (.c (.lst (a_a.map cV)))),(1, .one (.c (.lst (a_b.map cV)))),(5, .one (.c (.int .i64 i_1)))]) (fun s=>match s with|i_1=>[]) H (fun _=>ahe _)
  (fm_ dh [] rfl bH trivial) ?_
 rintro i_1 st1 hb1 hk1
 unfold jK at hb1
 dsimp only at hb1 ⊢
 rcases af hb1 with ⟨q_2,hb1⟩|⟨q_2,hb1⟩
 ·rcases af hb1 with ⟨q_3,hb1⟩|⟨q_3,hb1⟩
  ·obtain ⟨x_4,i1z,i1,i1x,hb1⟩:=aY (f:=cV) hb1
   obtain ⟨x_5,i2z,i2,i2x,hb1⟩:=aY (f:=cV) hb1
   obtain ⟨r_6,c3,hb1⟩:=bd_ hb1
   replace c3:=Dm c3
   rcases af hb1 with ⟨q_7,hb1⟩|⟨q_7,hb1⟩
   ·cases hb1
    have hx1:fG a_a a_b (.inr r_6)=some _:=hk1
    unfold fG at hx1
    dsimp only at hx1
    cases hx1
    exact aD
   cases hb1
   refine bF ?_
   exact ⟨_,rfl,fm_ dh [] rfl bH trivial⟩
  cases hb1
  have hx1:fG a_a a_b (.inl i_1)=some _:=hk1
  unfold fG at hx1
  dsimp only at hx1
  rcases af hx1 with ⟨q_8,hx1⟩|⟨q_8,hx1⟩
  ·cases hx1
   exact aD
  rcases af hx1 with ⟨q_9,hx1⟩|⟨q_9,hx1⟩
  ·cases hx1
   exact aD
  cases hx1
  exact aD
 cases hb1
 have hx1:fG a_a a_b (.inl i_1)=some _:=hk1
 unfold fG at hx1
 dsimp only at hx1
 rcases af hx1 with ⟨q_8,hx1⟩|⟨q_8,hx1⟩
 ·cases hx1
  exact aD
 rcases af hx1 with ⟨q_9,hx1⟩|⟨q_9,hx1⟩
 ·cases hx1
  exact aD
 cases hx1
 exact aD
set_option maxHeartbeats 8000000
def fQ:Option (Val):=some (⟨(0:Int),(0:Int),ByteArray.empty⟩:Val)
theorem dm {r:Val} (H:fQ=some r):Pure Tryz.prog 90 [] (.val (.agg (cV r))):=by
 unfold fQ at H
 refine po_ Tryz.func90 Tryz.ntmps90 ?_
 cases H
 exact aD
def n_ (a_s:ByteArray):(Int)->Option (Step (Int) (Bool)):=fun s=>match s with
 | i_1=>bif (decide (i_1<((a_s.size:Nat):Int))) then (W_ a_s i_1).bind fun b_3=>bif (decide (((b_3.toNat:Nat):Int)<(32:Int))) then some (.ret false) else
 bif (decide ((126:Int)<((b_3.toNat:Nat):Int))) then some (.ret false) else
 some (.next (IntKind.i64.wrap (i_1+(1:Int)))) else
 some (.exit i_1)
def eY:Sum (Int) (Bool)->Option ((Bool))
 | .inl i_1=>some true
 | .inr q=>some q
def rO (a_s:ByteArray):Option (Bool):=(ax (n_ a_s) fuel (0:Int)).bind (eY)
theorem L9 {a_s:ByteArray} {r:Bool} (H:rO a_s=some r):Pure Tryz.prog 109 [.one (.str a_s)] (.val (.one (.bool r))):=by
 unfold rO at H
 refine po_ Tryz.func109 Tryz.ntmps109 ?_
 repeat' (first|refine gs5_ ?_|refine b_ rfl rfl rfl rfl rfl rfl rfl ?_)
 refine alM_ (fun s:Int=>match s with|i_1=>[(0, .one (.c (.str a_s))),(3, .one (.c (.int .i64 i_1)))]) (fun s=>match s with|i_1=>[]) H (fun _=>ahe _)
  (fm_ dh [] rfl bH trivial) ?_
 rintro i_1 st1 hb1 hk1
 unfold n_ at hb1
 dsimp only at hb1 ⊢
 rcases af hb1 with ⟨q_2,hb1⟩|⟨q_2,hb1⟩
 ·obtain ⟨b_3,i1,hb1⟩:=bd_ hb1
  obtain ⟨i1z,i1⟩:=Nc i1
  rcases af hb1 with ⟨q_4,hb1⟩|⟨q_4,hb1⟩
  ·cases hb1
   have hx1:eY (.inr false)=some _:=hk1
   unfold eY at hx1
   dsimp only at hx1
   cases hx1
   repeat' (first|refine gs5_ ?_|refine b_ rfl rfl rfl rfl rfl rfl rfl ?_)
   refine bO (bZ rfl ?_ ?_)
   ·repeat' (first|exact trivial|rfl|exact ag5 rfl|omega|apply And.intro)
   ·first|rfl|(simp only [ag8,ag6,ag_,ag0]<;>rfl)
  rcases af hb1 with ⟨q_5,hb1⟩|⟨q_5,hb1⟩
  ·cases hb1
   have hx1:eY (.inr false)=some _:=hk1
   unfold eY at hx1
   dsimp only at hx1
   cases hx1
   repeat' (first|refine gs5_ ?_|refine b_ rfl rfl rfl rfl rfl rfl rfl ?_)
   refine bO (bZ rfl ?_ ?_)
   ·repeat' (first|exact trivial|rfl|exact ag5 rfl|omega|apply And.intro)
   ·first|rfl|(simp only [ag8,ag6,ag_,ag0]<;>rfl)
  cases hb1
  repeat' (first|refine gs5_ ?_|refine b_ rfl rfl rfl rfl rfl rfl rfl ?_)
  exact ⟨_,rfl,fm_ dh [] rfl bH trivial⟩
 cases hb1
 have hx1:eY (.inl i_1)=some _:=hk1
 unfold eY at hx1
 dsimp only at hx1
 cases hx1
 repeat' (first|refine gs5_ ?_|refine b_ rfl rfl rfl rfl rfl rfl rfl ?_)
 refine bO (bZ rfl ?_ ?_)
 ·repeat' (first|exact trivial|rfl|exact ag5 rfl|omega|apply And.intro)
 ·first|rfl|(simp only [ag8,ag6,ag_,ag0]<;>rfl)
def eP (a_v:Val):Option (Bool):=bif (decide (a_v.kind=(0:Int))) then bif (decide (a_v.int=(0:Int))) then some (a_v.text.toList==(⟨#[]⟩:ByteArray).toList) else
 some false else
 bif (decide (a_v.kind=(1:Int))) then bif (a_v.text.toList==(⟨#[]⟩:ByteArray).toList) then bif (decide ((-1125899906842624:Int)<=a_v.int)) then some (decide (a_v.int<=(1125899906842624:Int))) else
 some false else
 some false else
 bif (decide (a_v.kind=(2:Int))) then bif (decide (a_v.int=(0:Int))) then bif (decide (((a_v.text.size:Nat):Int)<=(200:Int))) then (rO a_v.text).bind fun r_9=>some r_9 else
 some false else
 some false else
 bif (decide (a_v.kind=(3:Int))) then bif (a_v.text.toList==(⟨#[]⟩:ByteArray).toList) then bif (decide (a_v.int=(0:Int))) then some true else
 some (decide (a_v.int=(1:Int))) else
 some false else
 some false
theorem qF {a_v:Val} {r:Bool} (H:eP a_v=some r):Pure Tryz.prog 64 [.agg (cV a_v)] (.val (.one (.bool r))):=by
 unfold eP at H
 refine po_ Tryz.func64 Tryz.ntmps64 ?_
 rcases af H with ⟨q_1,H⟩|⟨q_1,H⟩
 ·rcases af H with ⟨q_2,H⟩|⟨q_2,H⟩
  ·cases H
   exact aD
  cases H
  exact aD
 rcases af H with ⟨q_3,H⟩|⟨q_3,H⟩
 ·rcases af H with ⟨q_4,H⟩|⟨q_4,H⟩
  ·rcases af H with ⟨q_5,H⟩|⟨q_5,H⟩
   ·cases H
    exact aD
   cases H
   exact aD
  cases H
  exact aD
 rcases af H with ⟨q_6,H⟩|⟨q_6,H⟩
 ·rcases af H with ⟨q_7,H⟩|⟨q_7,H⟩
  ·rcases af H with ⟨q_8,H⟩|⟨q_8,H⟩
   ·obtain ⟨r_9,c1,H⟩:=bd_ H
    replace c1:=L9 c1
    cases H
    exact aD
   cases H
   exact aD
  cases H
  exact aD
 rcases af H with ⟨q_10,H⟩|⟨q_10,H⟩
 ·rcases af H with ⟨q_11,H⟩|⟨q_11,H⟩
  ·rcases af H with ⟨q_12,H⟩|⟨q_12,H⟩
   ·cases H
    exact aD
   cases H
   exact aD
  cases H
  exact aD
 cases H
 exact aD
def wy (a_v:Val):Option (Val):=(eP a_v).bind fun r_1=>bif r_1 then some a_v else
 (fQ ).bind fun r_3=>some r_3
theorem Jy {a_v:Val} {r:Val} (H:wy a_v=some r):Pure Tryz.prog 142 [.agg (cV a_v)] (.val (.agg (cV r))):=by
 unfold wy at H
 refine po_ Tryz.func142 Tryz.ntmps142 ?_
 obtain ⟨r_1,c1,H⟩:=bd_ H
 replace c1:=qF c1
 rcases af H with ⟨q_2,H⟩|⟨q_2,H⟩
 ·cases H
  exact aD
 obtain ⟨r_3,c2,H⟩:=bd_ H
 replace c2:=dm c2
 cases H
 exact aD
def sF (a_n:Int):Option (Val):=(wy (⟨(1:Int),a_n,ByteArray.empty⟩:Val)).bind fun r_1=>some r_1
theorem oq {a_n:Int} {r:Val} (H:sF a_n=some r):Pure Tryz.prog 97 [.one (.int .i64 a_n)] (.val (.agg (cV r))):=by
 unfold sF at H
 refine po_ Tryz.func97 Tryz.ntmps97 ?_
 obtain ⟨r_1,c1,H⟩:=bd_ H
 replace c1:=Jy c1
 cases H
 exact aD
def Ti (a_row:(List Val)) (a_i:Int):Option (Val):=bif (decide (a_i<(0:Int))) then (fQ ).bind fun r_2=>some r_2 else
 bif (decide (((a_row.length:Nat):Int)<=a_i)) then (fQ ).bind fun r_4=>some r_4 else
 (aH a_row a_i).bind fun x_5=>some x_5
theorem Oh {a_row:(List Val)} {a_i:Int} {r:Val} (H:Ti a_row a_i=some r):Pure Tryz.prog 137 [.one (.lst (a_row.map cV)), .one (.int .i64 a_i)] (.val (.agg (cV r))):=by
 unfold Ti at H
 refine po_ Tryz.func137 Tryz.ntmps137 ?_
 rcases af H with ⟨q_1,H⟩|⟨q_1,H⟩
 ·obtain ⟨r_2,c1,H⟩:=bd_ H
  replace c1:=dm c1
  cases H
  exact aD
 rcases af H with ⟨q_3,H⟩|⟨q_3,H⟩
 ·obtain ⟨r_4,c2,H⟩:=bd_ H
  replace c2:=dm c2
  cases H
  exact aD
 obtain ⟨x_5,i3z,i3,i3x,H⟩:=aY (f:=cV) H
 cases H
 exact aD
def mQ (a_a:(List Val)) (a_b:(List Val)):Option (Bool):=(vo a_a a_b).bind fun r_1=>some (decide (r_1=(0:Int)))
theorem K7 {a_a:(List Val)} {a_b:(List Val)} {r:Bool} (H:mQ a_a a_b=some r):Pure Tryz.prog 102 [.one (.lst (a_a.map cV)), .one (.lst (a_b.map cV))] (.val (.one (.bool r))):=by
 unfold mQ at H
 refine po_ Tryz.func102 Tryz.ntmps102 ?_
 obtain ⟨r_1,c1,H⟩:=bd_ H
 replace c1:=qG c1
 cases H
 exact aD
def BQ (a_a:(List Val)) (a_b:(List Val)) (a_o:(List LJ)):(Int)->Option (Step (Int) (Bool)):=fun s=>match s with
 | i_1=>bif (decide (i_1<((a_o.length:Nat):Int))) then (aH a_o i_1).bind fun x_3=>(Ti a_a x_3.column).bind fun r_4=>(Ti a_b x_3.column).bind fun r_5=>(AL r_4 r_5).bind fun r_6=>bif (decide (r_6≠(0:Int))) then some (.ret (!((decide (r_6<(0:Int)))==x_3.desc))) else
 some (.next (IntKind.i64.wrap (i_1+(1:Int)))) else
 some (.exit i_1)
def lU (a_a:(List Val)) (a_b:(List Val)):Sum (Int) (Bool)->Option ((Bool))
 | .inl i_1=>(vo a_a a_b).bind fun r_8=>some (decide (r_8<(0:Int)))
 | .inr q=>some q
def zD (a_a:(List Val)) (a_b:(List Val)) (a_o:(List LJ)):Option (Bool):=(ax (BQ a_a a_b a_o) fuel (0:Int)).bind (lU a_a a_b)
theorem J6 {a_a:(List Val)} {a_b:(List Val)} {a_o:(List LJ)} {r:Bool} (H:zD a_a a_b a_o=some r):Pure Tryz.prog 169 [.one (.lst (a_a.map cV)), .one (.lst (a_b.map cV)), .one (.lst (a_o.map IJ))] (.val (.one (.bool r))):=by
 unfold zD at H
 refine po_ Tryz.func169 Tryz.ntmps169 ?_
 refine bF ?_
 refine alM_ (fun s:Int=>match s with|i_1=>[(0, .one (.c (.lst (a_a.map cV)))),(1, .one (.c (.lst (a_b.map cV)))),(2, .one (.c (.lst (a_o.map IJ)))),(7, .one (.c (.int .i64 i_1)))]) (fun s=>match s with|i_1=>[]) H (fun _=>ahe _)
  (fm_ dh [] rfl bH trivial) ?_
 rintro i_1 st1 hb1 hk1
 unfold BQ at hb1
 dsimp only at hb1 ⊢
 rcases af hb1 with ⟨q_2,hb1⟩|⟨q_2,hb1⟩
 ·obtain ⟨x_3,i1z,i1,i1x,hb1⟩:=aY (f:=IJ) hb1
  obtain ⟨r_4,c2,hb1⟩:=bd_ hb1
  replace c2:=Oh c2
  obtain ⟨r_5,c3,hb1⟩:=bd_ hb1
  replace c3:=Oh c3
  obtain ⟨r_6,c4,hb1⟩:=bd_ hb1
  replace c4:=Dm c4
  rcases af hb1 with ⟨q_7,hb1⟩|⟨q_7,hb1⟩
  ·cases hb1
   have hx1:lU a_a a_b (.inr (!((decide (r_6<(0:Int)))==x_3.desc)))=some _:=hk1
   unfold lU at hx1
   dsimp only at hx1
   cases hx1
   exact aD
  cases hb1
  refine bF ?_
  exact ⟨_,rfl,fm_ dh [] rfl bH trivial⟩
 cases hb1
 have hx1:lU a_a a_b (.inl i_1)=some _:=hk1
 unfold lU at hx1
 dsimp only at hx1
 obtain ⟨r_8,c5,hx1⟩:=bd_ hx1
 replace c5:=qG c5
 cases hx1
 exact aD
def fF (a_a:(List (List Val))) (a_b:(List (List Val))) (a_o:(List LJ)):((List (List Val)) × Int × Int)->Option (Step ((List (List Val)) × Int × Int) ((List (List Val)))):=fun s=>match s with
 | (out_1,i_2,k_3)=>bif (decide (i_2<((a_a.length:Nat):Int))) then bif (decide (i_2=((a_a.length:Nat):Int))) then (aH a_b k_3).bind fun x_6=>bif (decide (out_1.length+1<=5864062014805)) then (some (.next ((out_1++[x_6]),i_2,(IntKind.i64.wrap (k_3+(1:Int)))))) else none else
 bif (decide (k_3<((a_b.length:Nat):Int))) then (aH a_b k_3).bind fun x_8=>(aH a_a i_2).bind fun x_9=>(zD x_8 x_9 a_o).bind fun r_10=>bif r_10 then bif (decide (out_1.length+1<=5864062014805)) then (some (.next ((out_1++[x_8]),i_2,(IntKind.i64.wrap (k_3+(1:Int)))))) else none else
 bif (decide (out_1.length+1<=5864062014805)) then (some (.next ((out_1++[x_9]),(IntKind.i64.wrap (i_2+(1:Int))),k_3))) else none else
 (aH a_a i_2).bind fun x_12=>bif (decide (out_1.length+1<=5864062014805)) then (some (.next ((out_1++[x_12]),(IntKind.i64.wrap (i_2+(1:Int))),k_3))) else none else
 bif (decide (k_3<((a_b.length:Nat):Int))) then bif (decide (i_2=((a_a.length:Nat):Int))) then (aH a_b k_3).bind fun x_15=>bif (decide (out_1.length+1<=5864062014805)) then (some (.next ((out_1++[x_15]),i_2,(IntKind.i64.wrap (k_3+(1:Int)))))) else none else
 (aH a_b k_3).bind fun x_16=>(aH a_a i_2).bind fun x_17=>(zD x_16 x_17 a_o).bind fun r_18=>bif r_18 then bif (decide (out_1.length+1<=5864062014805)) then (some (.next ((out_1++[x_16]),i_2,(IntKind.i64.wrap (k_3+(1:Int)))))) else none else
 bif (decide (out_1.length+1<=5864062014805)) then (some (.next ((out_1++[x_17]),(IntKind.i64.wrap (i_2+(1:Int))),k_3))) else none else
 some (.exit (out_1,i_2,k_3))
def vX:Sum ((List (List Val)) × Int × Int) ((List (List Val)))->Option (((List (List Val))))
 | .inl (out_1,i_2,k_3)=>some out_1
 | .inr q=>some q
def Dn (a_a:(List (List Val))) (a_b:(List (List Val))) (a_o:(List LJ)):Option ((List (List Val))):=(ax (fF a_a a_b a_o) fuel ([],(0:Int),(0:Int))).bind (vX)
theorem Ta {a_a:(List (List Val))} {a_b:(List (List Val))} {a_o:(List LJ)} {r:(List (List Val))} (H:Dn a_a a_b a_o=some r):Pure Tryz.prog 136 [.one (.lst (a_a.map (fun x=>[AC.lst (x.map cV)]))), .one (.lst (a_b.map (fun x=>[AC.lst (x.map cV)]))), .one (.lst (a_o.map IJ))] (.val (.one (.lst (r.map (fun x=>[AC.lst (x.map cV)]))))):=by
 unfold Dn at H
 refine po_ Tryz.func136 Tryz.ntmps136 ?_
 refine bF ?_
 refine bX 7 1 rfl ?_
 refine alM_ (fun s:(List (List Val)) × Int × Int=>match s with|(out_1,i_2,k_3)=>[(0, .one (.c (.lst (a_a.map (fun x=>[AC.lst (x.map cV)]))))),(1, .one (.c (.lst (a_b.map (fun x=>[AC.lst (x.map cV)]))))),(2, .one (.c (.lst (a_o.map IJ)))),(7, .one (.own (out_1.map (fun x=>[AC.lst (x.map cV)])) 0)),(8, .one (.c (.int .i64 i_2))),(9, .one (.c (.int .i64 k_3)))]) (fun s=>match s with|(out_1,i_2,k_3)=>[.spare out_1.length 1]) H (fun _=>ahe _)
  (fm_ dh [] rfl bH dw) ?_
 rintro ⟨out_1,i_2,k_3⟩ st1 hb1 hk1
 unfold fF at hb1
 dsimp only at hb1 ⊢
 rcases af hb1 with ⟨q_4,hb1⟩|⟨q_4,hb1⟩
 ·rcases af hb1 with ⟨q_5,hb1⟩|⟨q_5,hb1⟩
  ·obtain ⟨x_6,i1z,i1,i1x,hb1⟩:=aY (f:=(fun x=>[AC.lst (x.map cV)])) hb1
   obtain ⟨g2,hb1⟩:=aG hb1
   cases hb1
   refine bF ?_
   exact ⟨_,rfl,fm_ lC [] lD bH dw⟩
  rcases af hb1 with ⟨q_7,hb1⟩|⟨q_7,hb1⟩
  ·obtain ⟨x_8,i3z,i3,i3x,hb1⟩:=aY (f:=(fun x=>[AC.lst (x.map cV)])) hb1
   obtain ⟨x_9,i4z,i4,i4x,hb1⟩:=aY (f:=(fun x=>[AC.lst (x.map cV)])) hb1
   obtain ⟨r_10,c5,hb1⟩:=bd_ hb1
   replace c5:=J6 c5
   rcases af hb1 with ⟨q_11,hb1⟩|⟨q_11,hb1⟩
   ·obtain ⟨g6,hb1⟩:=aG hb1
    cases hb1
    refine bF ?_
    exact ⟨_,rfl,fm_ lC [] lD bH dw⟩
   obtain ⟨g7,hb1⟩:=aG hb1
   cases hb1
   refine bF ?_
   exact ⟨_,rfl,fm_ lC [] lD bH dw⟩
  obtain ⟨x_12,i8z,i8,i8x,hb1⟩:=aY (f:=(fun x=>[AC.lst (x.map cV)])) hb1
  obtain ⟨g9,hb1⟩:=aG hb1
  cases hb1
  refine bF ?_
  exact ⟨_,rfl,fm_ lC [] lD bH dw⟩
 rcases af hb1 with ⟨q_13,hb1⟩|⟨q_13,hb1⟩
 ·rcases af hb1 with ⟨q_14,hb1⟩|⟨q_14,hb1⟩
  ·obtain ⟨x_15,i10z,i10,i10x,hb1⟩:=aY (f:=(fun x=>[AC.lst (x.map cV)])) hb1
   obtain ⟨g11,hb1⟩:=aG hb1
   cases hb1
   refine bF ?_
   exact ⟨_,rfl,fm_ lC [] lD bH dw⟩
  obtain ⟨x_16,i12z,i12,i12x,hb1⟩:=aY (f:=(fun x=>[AC.lst (x.map cV)])) hb1
  obtain ⟨x_17,i13z,i13,i13x,hb1⟩:=aY (f:=(fun x=>[AC.lst (x.map cV)])) hb1
  obtain ⟨r_18,c14,hb1⟩:=bd_ hb1
  replace c14:=J6 c14
  rcases af hb1 with ⟨q_19,hb1⟩|⟨q_19,hb1⟩
  ·obtain ⟨g15,hb1⟩:=aG hb1
   cases hb1
   refine bF ?_
   exact ⟨_,rfl,fm_ lC [] lD bH dw⟩
  obtain ⟨g16,hb1⟩:=aG hb1
  cases hb1
  refine bF ?_
  exact ⟨_,rfl,fm_ lC [] lD bH dw⟩
 cases hb1
 have hx1:vX (.inl (out_1,i_2,k_3))=some _:=hk1
 unfold vX at hx1
 dsimp only at hx1
 cases hx1
 exact aD
def j_ (a_row:(List Val)) (a_kinds:(List Int)):(Int)->Option (Step (Int) (Bool)):=fun s=>match s with
 | i_2=>bif (decide (i_2<((a_row.length:Nat):Int))) then (aH a_row i_2).bind fun x_4=>(eP x_4).bind fun r_5=>bif (!r_5) then some (.ret false) else
 bif (decide (x_4.kind≠(0:Int))) then (aH a_kinds i_2).bind fun x_8=>bif (decide (x_4.kind≠x_8)) then some (.ret false) else
 some (.next (IntKind.i64.wrap (i_2+(1:Int)))) else
 some (.next (IntKind.i64.wrap (i_2+(1:Int)))) else
 some (.exit i_2)
def l9:Sum (Int) (Bool)->Option ((Bool))
 | .inl i_2=>some true
 | .inr q=>some q
def wS (a_row:(List Val)) (a_kinds:(List Int)):Option (Bool):=bif (decide (((a_row.length:Nat):Int)≠((a_kinds.length:Nat):Int))) then some false else
 (ax (j_ a_row a_kinds) fuel (0:Int)).bind (l9)
theorem MG {a_row:(List Val)} {a_kinds:(List Int)} {r:Bool} (H:wS a_row a_kinds=some r):Pure Tryz.prog 32 [.one (.lst (a_row.map cV)), .one (.lst (a_kinds.map (fun x=>[AC.int .i64 x])))] (.val (.one (.bool r))):=by
 unfold wS at H
 refine po_ Tryz.func32 Tryz.ntmps32 ?_
 rcases af H with ⟨q_1,H⟩|⟨q_1,H⟩
 ·cases H
  exact aD
 refine bF ?_
 refine alM_ (fun s:Int=>match s with|i_2=>[(0, .one (.c (.lst (a_row.map cV)))),(1, .one (.c (.lst (a_kinds.map (fun x=>[AC.int .i64 x]))))),(5, .one (.c (.int .i64 i_2)))]) (fun s=>match s with|i_2=>[]) H (fun _=>ahe _)
  (fm_ dh [] rfl bH trivial) ?_
 rintro i_2 st1 hb1 hk1
 unfold j_ at hb1
 dsimp only at hb1 ⊢
 rcases af hb1 with ⟨q_3,hb1⟩|⟨q_3,hb1⟩
 ·obtain ⟨x_4,i1z,i1,i1x,hb1⟩:=aY (f:=cV) hb1
  obtain ⟨r_5,c2,hb1⟩:=bd_ hb1
  replace c2:=qF c2
  rcases af hb1 with ⟨q_6,hb1⟩|⟨q_6,hb1⟩
  ·cases hb1
   have hx1:l9 (.inr false)=some _:=hk1
   unfold l9 at hx1
   dsimp only at hx1
   cases hx1
   exact aD
  rcases af hb1 with ⟨q_7,hb1⟩|⟨q_7,hb1⟩
  ·obtain ⟨x_8,i3z,i3,i3x,hb1⟩:=aY (f:=(fun x=>[AC.int .i64 x])) hb1
   rcases af hb1 with ⟨q_9,hb1⟩|⟨q_9,hb1⟩
   ·cases hb1
    have hx1:l9 (.inr false)=some _:=hk1
    unfold l9 at hx1
    dsimp only at hx1
    cases hx1
    exact aD
   cases hb1
   refine bF ?_
   exact ⟨_,rfl,fm_ dh [] rfl bH trivial⟩
  cases hb1
  refine bF ?_
  exact ⟨_,rfl,fm_ dh [] rfl bH trivial⟩
 cases hb1
 have hx1:l9 (.inl i_2)=some _:=hk1
 unfold l9 at hx1
 dsimp only at hx1
 cases hx1
 exact aD
def Gf (a_k:Int):Option (Bool):=bif (decide (a_k=(1:Int))) then some true else
 bif (decide (a_k=(2:Int))) then some true else
 some (decide (a_k=(3:Int)))
theorem Z5 {a_k:Int} {r:Bool} (H:Gf a_k=some r):Pure Tryz.prog 108 [.one (.int .i64 a_k)] (.val (.one (.bool r))):=by
 unfold Gf at H
 refine po_ Tryz.func108 Tryz.ntmps108 ?_
 rcases af H with ⟨q_1,H⟩|⟨q_1,H⟩
 ·cases H
  exact aD
 rcases af H with ⟨q_2,H⟩|⟨q_2,H⟩
 ·cases H
  exact aD
 cases H
 exact aD
def uJ (a_l:(List Int)):(Int)->Option (Step (Int) (Bool)):=fun s=>match s with
 | i_1=>bif (decide (i_1<((a_l.length:Nat):Int))) then (aH a_l i_1).bind fun x_3=>(Gf x_3).bind fun r_4=>bif (!r_4) then some (.ret false) else
 some (.next (IntKind.i64.wrap (i_1+(1:Int)))) else
 some (.exit i_1)
def uF:Sum (Int) (Bool)->Option ((Bool))
 | .inl i_1=>some true
 | .inr q=>some q
def Jv (a_l:(List Int)):Option (Bool):=(ax (uJ a_l) fuel (0:Int)).bind (uF)
theorem YH {a_l:(List Int)} {r:Bool} (H:Jv a_l=some r):Pure Tryz.prog 62 [.one (.lst (a_l.map (fun x=>[AC.int .i64 x])))] (.val (.one (.bool r))):=by
 unfold Jv at H
 refine po_ Tryz.func62 Tryz.ntmps62 ?_
 refine bF ?_
 refine alM_ (fun s:Int=>match s with|i_1=>[(0, .one (.c (.lst (a_l.map (fun x=>[AC.int .i64 x]))))),(3, .one (.c (.int .i64 i_1)))]) (fun s=>match s with|i_1=>[]) H (fun _=>ahe _)
  (fm_ dh [] rfl bH trivial) ?_
 rintro i_1 st1 hb1 hk1
 unfold uJ at hb1
 dsimp only at hb1 ⊢
 rcases af hb1 with ⟨q_2,hb1⟩|⟨q_2,hb1⟩
 ·obtain ⟨x_3,i1z,i1,i1x,hb1⟩:=aY (f:=(fun x=>[AC.int .i64 x])) hb1
  obtain ⟨r_4,c2,hb1⟩:=bd_ hb1
  replace c2:=Z5 c2
  rcases af hb1 with ⟨q_5,hb1⟩|⟨q_5,hb1⟩
  ·cases hb1
   have hx1:uF (.inr false)=some _:=hk1
   unfold uF at hx1
   dsimp only at hx1
   cases hx1
   exact aD
  cases hb1
  refine bF ?_
  exact ⟨_,rfl,fm_ dh [] rfl bH trivial⟩
 cases hb1
 have hx1:uF (.inl i_1)=some _:=hk1
 unfold uF at hx1
 dsimp only at hx1
 cases hx1
 exact aD
section
variable {P:Program} {ti:TI} {B:Nat->Prop} {N n0:Nat} {R:PH} {γ:List Gh} {L:List Ob} {T:Tm} {w:World} {Q:AX->Tm->List Ob->Prop}
theorem Tp {c:Code} (id:Nat) {ver k:Nat} {es:List (List SV)} {cs:List (List AC)} (hL:L[id]?=some (.row ver es k)) (hn:oO es=some cs) (h:Aw P N n0 c Q T (L.set id (.row ver (cs.map (List.map SV.c)) k))):Aw P N n0 c Q T L:=by
 intro hn0 B R γ w a hi hT
 have hlt:id<L.length:=(agV.1 hL).1
 have hlen:=zI hn
 have hM:Mv R R γ γ L (L.set id (.row ver (cs.map (List.map SV.c)) k)):=by
  refine ⟨PH.sub_refl _,by simp,fun t n k' _ e=>?_,fun t ver' es' k' _ e=>?_,fun _ _ e=>e⟩
  ·by_cases q:t=id
   ·subst q;rw [ahc hlt] at e;cases e
   ·rw [ahd (Ne.symm q)] at e;exact ⟨n,e,ag' _,fun _=>rfl⟩
  ·by_cases q:t=id
   ·subst q;rw [ahc hlt] at e;injection e with e;injection e with e1 e2 e3;subst e1 e2 e3
    exact ⟨ver,es,hL,ag' _,fun _=>⟨by simp [hlen],rfl⟩⟩
   ·rw [ahd (Ne.symm q)] at e;exact ⟨ver',es',e,ag' _,fun _=>⟨rfl,rfl⟩⟩
 have hI:Inv B R γ (L.set id (.row ver (cs.map (List.map SV.c)) k)) w:=by
  refine ⟨by simp [hi.len],hi.val,fun t x g hx hg=>?_,hi.inj,hi.new,hi.bsz⟩
  by_cases q:t=id
  ·subst q
   rw [ahc hlt] at hx;injection hx with hx;subst hx
   have ho:=hi.obj t _ _ hL hg
   match g,ho with
   | .none,ho =>
    have ho:es=[]:=ho
    subst ho
    have:cs=[]:=ahj (by rw [<- hlen];rfl)
    subst this
    exact rfl
   | .arr b cc,⟨⟨vs,E,h1,h2,h3⟩,h4,h5,h6,h7⟩ =>
    refine ⟨⟨vs,E,h1,h2,fun i e j u x he hu hx=>?_⟩,by simpa [hlen] using h4,h5,fun e he=>?_,h7⟩
    ·rw [ahg] at he
     cases hc:cs[i]? with
     | none=>rw [hc] at he;cases he
     | some c0 =>
      rw [hc] at he;injection he with he;subst he
      obtain ⟨e0,he0,hn0'⟩:=ut hn i c0 hc
      rw [ahg] at hx
      cases hj:c0[j]? with
      | none=>rw [hj] at hx;cases hx
      | some y =>
       rw [hj] at hx;injection hx with hx;subst hx
       obtain ⟨x0,hx0⟩:=gol_ (show j<e0.length by rw [<- kF hn0'];exact (agV.1 hj).1)
       exact SV.norm_rep (h3 i e0 j u x0 he0 hu hx0) (qm hn0' j x0 y hx0 hj)
    ·obtain ⟨c0,hc0,rfl⟩:=aht.1 he
     obtain ⟨i,hi0⟩:=List.getElem?_of_mem hc0
     obtain ⟨e0,he0,hn0'⟩:=ut hn i c0 hi0
     rw [ag7,kF hn0']
     exact h6 e0 (ag1 he0)
  ·rw [ahd (Ne.symm q)] at hx
   exact (hi.obj t x g hx hg).mv hM (fun _ _=>rfl) (fun _ _ _ e=>e)
 refine wp_mono (h (by simpa using hn0) B R γ w a hI (hT.mv hM)) fun _ _ _ hh=>hh.ext (Ext.refl _ _ _) hi.len (Er.of hn0 hM)
end
theorem cZ : ∀ {n:Nat} {L:List Ob}, Kz n L -> ∀ x∈L,x.below n
 | _,_::_,h,x,hx=>by
  rcases aha.1 hx with rfl|hx
  ·exact h.1
  ·exact cZ h.2 x hx
def gC (x:AC):List SV:=[.c x]
def afA:TI := { WK with soft:=true }
theorem bf:TIok Tryz.prog afA:=⟨ay.size,ay.agg,ay.elem,ay.field,ay.zero,ay.bytes,ay.kind,ay.struct,ay.zok,ay.eqs⟩
theorem V9 (σ:List Nat) (v k:Nat) (l:List AC):(Ob.row v (l.map gC) k).ren σ=Ob.row v (l.map gC) k:=by
 simp only [Ob.ren,List.map_map];rfl
theorem j1 {L L':List Ob} {v k:Nat} {l:List AC} (h:L.set 0 (Ob.row v (l.map gC) k)=L'):joinL [0] L [Ob.row v (l.map gC) k]=L':=by
 subst h
 simp [joinL,join,jV,dR,mE,V9]
theorem wX {n:Nat} {l:List AV} (h:TZ n (l.map fun x=>(0,x))) : ∀ y∈l,y.below n:=by
 induction l with
 | nil=>intro y hy;cases hy
 | cons x l ih =>
  intro y hy
  rcases aha.1 hy with rfl|hy
  ·exact h.1
  ·exact ih h.2 y hy
def iY (p:SV) (u:Nat) (s:ByteArray) (i:Nat):Ob := .row (173+65536) [[p, .sl (i+1) u 0 s.size]] 2
def iW (u:Nat) (s:ByteArray):Ob := .row u (bJ s) 1
theorem ac5 : ∃ fn, Tryz.prog.funcs[211]? = some fn /\ (fn.name == "runtime.NumGoroutine") = false /\ fn.body.isNone = true /\ Extern.findNext fn = none /\ Extern.find fn = some Extern.AbiNoEscape.same := ⟨_, Tryz.func211, by kernel_rfl, by kernel_rfl, by kernel_rfl, by kernel_rfl⟩
theorem U0 : ∃ j,Tryz.prog.info? 173=some j/\j.size=2:=by
 have h:(Tryz.prog.info? 173).map (·.size)=some 2:=by kernel_rfl
 cases hi:Tryz.prog.info? 173 with
 | none=>rw [hi] at h;cases h
 | some j=>rw [hi] at h;exact ⟨j,rfl,by simpa using h⟩
theorem dz {n v k:Nat} {a b:SV} (ha:a.below n) (hb:b.below n):(Ob.row v [[a,b]] k).below n:=by
 intro e he x hx
 rcases aha.1 he with rfl|he
 ·rcases aha.1 hx with rfl|hx
  ·exact ha
  ·rcases aha.1 hx with rfl|hx
   ·exact hb
   ·cases hx
 ·cases he
theorem bC (n u:Nat) (s:ByteArray):(iW u s).below n:=by
 intro e he x hx
 obtain ⟨y,_,rfl⟩:=aht.1 he
 rcases aha.1 hx with rfl|hx
 ·trivial
 ·cases hx
theorem bV (s:ByteArray):(bJ s).length=s.size:=by unfold bJ;rw [ag7];simp
theorem mY (s t:ByteArray):bJ (s++t)=bJ s++bJ t:=by
 unfold bJ
 rw [<- ag8];congr 1
theorem Qy (σ:List Nat) (s:ByteArray):(bJ s).map (List.map (SV.ren σ))=bJ s:=by
 unfold bJ
 rw [List.map_map];rfl
theorem jL (σ:List Nat) (u:Nat) (s:ByteArray):(iW u s).ren σ=iW u s:=by simp only [iW,Ob.ren,Qy]
theorem IE {i j:Nat} {L L':List Ob} {a b a' b':Ob} (ha:a.ren [i,j]=a') (hb:b.ren [i,j]=b') (h:(L.set i a').set j b'=L'):joinL [i,j] L [a,b]=L':=by
 subst ha hb h
 simp [joinL,join,jV,dR,mE]
theorem yJ {L:List Ob} {a b:Ob} {x:AV} {xs:List AV} {i j:Nat} (h0:L[i]?=some (a.ren [i,j])) (h1:L[j]?=some (b.ren [i,j])) (hne:i≠j) (ha:a.below 2) (hb:b.below 2) (hx : ∀ y∈x::xs,y.below 2):nX [i,j] [a,b] (x::xs) L:=by
 refine ⟨rfl,by simp [hne],fun k y hy=>?_,cZ ⟨ha,hb,trivial⟩,hx⟩
 match k,hy with
 | 0,hy=>simp at hy;subst hy;exact h0
 | 1,hy=>simp at hy;subst hy;exact h1
 | k+2,hy=>simp at hy
theorem Rp:Tryz.prog.cellsOf 173=2:=by kernel_rfl
theorem YZ:Tryz.prog.cellsOf 5=1:=by kernel_rfl
theorem xJ (x:SV) (o:Ob) (hx:x.below 2) (ho:o.below 2):Run Tryz.prog 193 [.row (173+65536) [[(.c (.nul .ptr)),x]] 2,o] [.one (.ep 0 (173+65536) 0 0)] [.row (173+65536) [[(.ep 0 (173+65536) 0 0),x]] 2,o] (.tup []):=by
 obtain ⟨j,hj,hj2⟩:=U0
 obtain ⟨fn,hf,hnm,hbd,hnx,hfd⟩:=ac5
 refine bN ay Tryz.func193 rfl rfl Tryz.ntmps193 (by simp) ?_
 simp only [kP]
 repeat' (first
  | refine st_nil ?_
  | refine aZ rfl rfl rfl rfl ph_ ?_
  | refine bq rfl rfl rfl rfl ph_ ?_
  | refine sS_ rfl rfl rfl ph_ ?_
  | refine bn rfl rfl rfl rfl ph_ ?_
  | refine aW rfl rfl rfl ?_
  | refine sk0_ rfl rfl ?_
  | (refine bQ rfl (fun hb=>?_) (fun hb=>?_)<;>(first|exact (fx_ hb).elim|rw [hb]))
  | refine aw_seq ?_
  | refine aw_region ay _ rfl ?_
  | refine aw_drawn2 bf _ rfl mixed (by decide +kernel) ?_
  | (refine aU rfl (fun hb=>?_) (fun hb=>?_)<;>(try exact (fx_ hb).elim))
  | refine aw_block ?_
  | refine aw_exit ?_
  | refine aw_ret ?_
  | refine aw_skip ?_
  | (refine gW rfl rfl rfl rfl rfl (E_ rfl rfl (ay.kind 170 _ rfl)) ?_)
  | (refine gW rfl rfl rfl rfl rfl (yx rfl rfl rfl (ay.kind 170 _ rfl)) ?_)
  | (refine gW rfl rfl rfl rfl rfl (x9 rfl rfl rfl (ay.kind 170 _ rfl) hj) ?_)
  | (refine gW rfl rfl rfl rfl rfl (rG rfl rfl (ay.kind 170 _ rfl) (ay.kind 212 _ rfl) hj (by rw [hj2];decide)) ?_)
  | (refine gW rfl rfl rfl rfl rfl (wh rfl rfl (ay.kind 212 _ rfl) (ay.kind 170 _ rfl) hj Rp rfl) ?_)
  | (refine jQ rfl rfl rfl rfl rfl (wo rfl hf hnm hbd hnx hfd) ?_))
 all_goals exact ⟨.inl rfl,⟨.inr ⟨.tup [],⟨trivial,rfl⟩,rfl⟩,⟨[],rfl⟩,by simp,cZ ⟨dz (by show 0<2;omega) hx,ho,trivial⟩,by simp [CV.av,AV.below]⟩⟩
theorem zh (x:SV) (o:Ob) (hx:x.below 2) (ho:o.below 2):Run Tryz.prog 193 [.row (173+65536) [[(.ep 0 (173+65536) 0 0),x]] 2,o] [.one (.ep 0 (173+65536) 0 0)] [.row (173+65536) [[(.ep 0 (173+65536) 0 0),x]] 2,o] (.tup []):=by
 obtain ⟨j,hj,hj2⟩:=U0
 obtain ⟨fn,hf,hnm,hbd,hnx,hfd⟩:=ac5
 refine bN ay Tryz.func193 rfl rfl Tryz.ntmps193 (by simp) ?_
 simp only [kP]
 repeat' (first
  | refine st_nil ?_
  | refine aZ rfl rfl rfl rfl ph_ ?_
  | refine bq rfl rfl rfl rfl ph_ ?_
  | refine sS_ rfl rfl rfl ph_ ?_
  | refine bn rfl rfl rfl rfl ph_ ?_
  | refine aW rfl rfl rfl ?_
  | refine sk0_ rfl rfl ?_
  | (refine bQ rfl (fun hb=>?_) (fun hb=>?_)<;>(first|exact (fx_ hb).elim|rw [hb]))
  | refine aw_seq ?_
  | refine aw_region ay _ rfl ?_
  | refine aw_drawn2 bf _ rfl mixed (by decide +kernel) ?_
  | (refine aU rfl (fun hb=>?_) (fun hb=>?_)<;>(try exact (fx_ hb).elim))
  | refine aw_block ?_
  | refine aw_exit ?_
  | refine aw_ret ?_
  | refine aw_skip ?_
  | (refine gW rfl rfl rfl rfl rfl (E_ rfl rfl (ay.kind 170 _ rfl)) ?_)
  | (refine gW rfl rfl rfl rfl rfl (yx rfl rfl rfl (ay.kind 170 _ rfl)) ?_)
  | (refine gW rfl rfl rfl rfl rfl (x9 rfl rfl rfl (ay.kind 170 _ rfl) hj) ?_)
  | (refine gW rfl rfl rfl rfl rfl (rG rfl rfl (ay.kind 170 _ rfl) (ay.kind 212 _ rfl) hj (by rw [hj2];decide)) ?_)
  | (refine gW rfl rfl rfl rfl rfl (wh rfl rfl (ay.kind 212 _ rfl) (ay.kind 170 _ rfl) hj Rp rfl) ?_)
  | (refine jQ rfl rfl rfl rfl rfl (wo rfl hf hnm hbd hnx hfd) ?_))
 all_goals exact ⟨.inl rfl,⟨.inr ⟨.tup [],⟨trivial,rfl⟩,rfl⟩,⟨[],rfl⟩,by simp,cZ ⟨dz (by show 0<2;omega) hx,ho,trivial⟩,by simp [CV.av,AV.below]⟩⟩
theorem Pn (u:Nat) (s:ByteArray) (t:ByteArray) (hu:u%65536=5) (hs:s.size<=100000000000000) (ht:t.size<=1000000000000):Run Tryz.prog 174 [iY (.c (.nul .ptr)) u s 0,iW u s] [.one (.ep 0 (173+65536) 0 0), .one (.c (.str t))] [iY (.ep 0 (173+65536) 0 0) (u+65536) (s++t) 0,iW (u+65536) (s++t)] (.tup [.one (.int .i64 t.size), .one (.nul .iface)]):=by
 refine bN ay Tryz.func174 rfl rfl Tryz.ntmps174 (by simp) ?_
 simp only [kP]
 unfold iY
 repeat' (first
  | refine st_nil ?_
  | (refine jQ rfl rfl rfl rfl rfl (zJ ay (k:=1) (by_:=1) (xs:=bJ t) rfl rfl rfl rfl ⟨rfl,rfl⟩ rfl hu rfl rfl rfl (by omega) (by exact bV s) (by rw [bV];omega) (by rw [bV];omega)) ?_)
  | (refine aZ rfl rfl rfl rfl ?_ ?_; · (repeat' (first|exact trivial|rfl|exact ag5 rfl|omega|(intro e he;simp at he;subst he;rfl)|apply And.intro)))
  | (refine bq rfl rfl rfl rfl ?_ ?_; · (repeat' (first|exact trivial|rfl|exact ag5 rfl|omega|(intro e he;simp at he;subst he;rfl)|apply And.intro)))
  | (refine sS_ rfl rfl rfl ?_ ?_; · (repeat' (first|exact trivial|rfl|exact ag5 rfl|omega|(intro e he;simp at he;subst he;rfl)|apply And.intro)))
  | (refine bn rfl rfl rfl rfl ?_ ?_; · (repeat' (first|exact trivial|rfl|exact ag5 rfl|omega|(intro e he;simp at he;subst he;rfl)|apply And.intro)))
  | refine aW rfl rfl rfl ?_
  | refine sk0_ rfl rfl ?_
  | (refine kN [0,1] rfl rfl rfl rfl (xJ (.sl 1 u 0 s.size) (iW u s) (by show 1<2;omega) (bC _ _ _)) rfl (yJ (by rfl) (by rw [jL];rfl) (by decide) (dz trivial (by show 1<2;omega)) (bC _ _ _) (fun y hy=>by rcases aha.1 hy with rfl|hy<;>first|(show 0<2;omega)|cases hy)) rfl (IE rfl (jL _ _ _) rfl) ?_)
  | (refine bQ rfl (fun hb=>?_) (fun hb=>?_)<;>(first|exact (fx_ hb).elim|rw [hb]))
  | refine aw_seq ?_
  | refine aw_region ay _ rfl ?_
  | refine aw_drawn2 bf _ rfl mixed (by decide +kernel) ?_
  | (refine aU rfl (fun hb=>?_) (fun hb=>?_)<;>(try exact (fx_ hb).elim))
  | refine aw_block ?_
  | refine aw_exit ?_
  | refine aw_ret ?_
  | refine aw_skip ?_)
 all_goals refine ⟨.inr rfl,⟨.inr ⟨.tup [.one (.int .i64 t.size), .one (.nul .iface)],⟨⟨trivial,trivial,trivial⟩,rfl⟩,rfl⟩,⟨[],?_⟩,by simp,cZ ⟨dz (by show 0<2;omega) (by show 1<2;omega),bC _ _ _,trivial⟩,trivial⟩⟩
 all_goals (rw [ahs];show [Ob.row _ [[_,SV.sl (0+1) (u+65536) 0 (s.size+(bJ t).length)]] 2,Ob.row (u+65536) (bJ s++bJ t) 1]=_;rw [bV, <- mY, <- ByteArray.size_append];rfl)
theorem Db (u:Nat) (s:ByteArray) (t:ByteArray) (hu:u%65536=5) (hs:s.size<=100000000000000) (ht:t.size<=1000000000000):Run Tryz.prog 174 [iY (.ep 0 (173+65536) 0 0) u s 0,iW u s] [.one (.ep 0 (173+65536) 0 0), .one (.c (.str t))] [iY (.ep 0 (173+65536) 0 0) (u+65536) (s++t) 0,iW (u+65536) (s++t)] (.tup [.one (.int .i64 t.size), .one (.nul .iface)]):=by
 refine bN ay Tryz.func174 rfl rfl Tryz.ntmps174 (by simp) ?_
 simp only [kP]
 unfold iY
 repeat' (first
  | refine st_nil ?_
  | (refine jQ rfl rfl rfl rfl rfl (zJ ay (k:=1) (by_:=1) (xs:=bJ t) rfl rfl rfl rfl ⟨rfl,rfl⟩ rfl hu rfl rfl rfl (by omega) (by exact bV s) (by rw [bV];omega) (by rw [bV];omega)) ?_)
  | (refine aZ rfl rfl rfl rfl ?_ ?_; · (repeat' (first|exact trivial|rfl|exact ag5 rfl|omega|(intro e he;simp at he;subst he;rfl)|apply And.intro)))
  | (refine bq rfl rfl rfl rfl ?_ ?_; · (repeat' (first|exact trivial|rfl|exact ag5 rfl|omega|(intro e he;simp at he;subst he;rfl)|apply And.intro)))
  | (refine sS_ rfl rfl rfl ?_ ?_; · (repeat' (first|exact trivial|rfl|exact ag5 rfl|omega|(intro e he;simp at he;subst he;rfl)|apply And.intro)))
  | (refine bn rfl rfl rfl rfl ?_ ?_; · (repeat' (first|exact trivial|rfl|exact ag5 rfl|omega|(intro e he;simp at he;subst he;rfl)|apply And.intro)))
  | refine aW rfl rfl rfl ?_
  | refine sk0_ rfl rfl ?_
  | (refine kN [0,1] rfl rfl rfl rfl (zh (.sl 1 u 0 s.size) (iW u s) (by show 1<2;omega) (bC _ _ _)) rfl (yJ (by rfl) (by rw [jL];rfl) (by decide) (dz (by show 0<2;omega) (by show 1<2;omega)) (bC _ _ _) (fun y hy=>by rcases aha.1 hy with rfl|hy<;>first|(show 0<2;omega)|cases hy)) rfl (IE rfl (jL _ _ _) rfl) ?_)
  | (refine bQ rfl (fun hb=>?_) (fun hb=>?_)<;>(first|exact (fx_ hb).elim|rw [hb]))
  | refine aw_seq ?_
  | refine aw_region ay _ rfl ?_
  | refine aw_drawn2 bf _ rfl mixed (by decide +kernel) ?_
  | (refine aU rfl (fun hb=>?_) (fun hb=>?_)<;>(try exact (fx_ hb).elim))
  | refine aw_block ?_
  | refine aw_exit ?_
  | refine aw_ret ?_
  | refine aw_skip ?_)
 all_goals refine ⟨.inr rfl,⟨.inr ⟨.tup [.one (.int .i64 t.size), .one (.nul .iface)],⟨⟨trivial,trivial,trivial⟩,rfl⟩,rfl⟩,⟨[],?_⟩,by simp,cZ ⟨dz (by show 0<2;omega) (by show 1<2;omega),bC _ _ _,trivial⟩,trivial⟩⟩
 all_goals (rw [ahs];show [Ob.row _ [[_,SV.sl (0+1) (u+65536) 0 (s.size+(bJ t).length)]] 2,Ob.row (u+65536) (bJ s++bJ t) 1]=_;rw [bV, <- mY, <- ByteArray.size_append];rfl)
theorem UR (u:Nat) (s:ByteArray) (t:UInt8) (hu:u%65536=5) (hs:s.size<=100000000000000)  : Run Tryz.prog 176 [iY (.ep 0 (173+65536) 0 0) u s 0,iW u s] [.one (.ep 0 (173+65536) 0 0), .one (.c (.int .u8 t.toNat))] [iY (.ep 0 (173+65536) 0 0) (u+65536) (s++⟨#[t]⟩) 0,iW (u+65536) (s++⟨#[t]⟩)] (.one (.c (.nul .iface))):=by
 refine bN ay Tryz.func176 rfl rfl Tryz.ntmps176 (by simp) ?_
 simp only [kP]
 unfold iY
 repeat' (first
  | refine st_nil ?_
  | (refine jQ rfl rfl rfl rfl rfl (zJ ay (k:=1) (by_:=1) (xs:=bJ ⟨#[t]⟩) rfl rfl rfl rfl ⟨rfl,_,rfl,by intro e he;simp at he;subst he;rfl⟩ rfl hu rfl rfl rfl (by omega) (by exact bV s) (by rw [bV];show (s.size+1)*1<=_;omega) (by rw [bV];show s.size+1<=_;omega)) ?_)
  | (refine aZ rfl rfl rfl rfl ?_ ?_; · (repeat' (first|exact trivial|rfl|exact ag5 rfl|omega|(intro e he;simp at he;subst he;rfl)|apply And.intro)))
  | (refine bq rfl rfl rfl rfl ?_ ?_; · (repeat' (first|exact trivial|rfl|exact ag5 rfl|omega|(intro e he;simp at he;subst he;rfl)|apply And.intro)))
  | (refine sS_ rfl rfl rfl ?_ ?_; · (repeat' (first|exact trivial|rfl|exact ag5 rfl|omega|(intro e he;simp at he;subst he;rfl)|apply And.intro)))
  | (refine bn rfl rfl rfl rfl ?_ ?_; · (repeat' (first|exact trivial|rfl|exact ag5 rfl|omega|(intro e he;simp at he;subst he;rfl)|apply And.intro)))
  | refine aW rfl rfl rfl ?_
  | refine sk0_ rfl rfl ?_
  | (refine kN [0,1] rfl rfl rfl rfl (zh (.sl 1 u 0 s.size) (iW u s) (by show 1<2;omega) (bC _ _ _)) rfl (yJ (by rfl) (by rw [jL];rfl) (by decide) (dz (by show 0<2;omega) (by show 1<2;omega)) (bC _ _ _) (fun y hy=>by rcases aha.1 hy with rfl|hy<;>first|(show 0<2;omega)|cases hy)) rfl (IE rfl (jL _ _ _) rfl) ?_)
  | (refine bQ rfl (fun hb=>?_) (fun hb=>?_)<;>(first|exact (fx_ hb).elim|rw [hb]))
  | refine aw_seq ?_
  | refine aw_region ay _ rfl ?_
  | refine aw_drawn2 bf _ rfl mixed (by decide +kernel) ?_
  | (refine aU rfl (fun hb=>?_) (fun hb=>?_)<;>(try exact (fx_ hb).elim))
  | refine aw_block ?_
  | refine aw_exit ?_
  | refine aw_ret ?_
  | refine aw_skip ?_)
 all_goals refine ⟨.inr rfl,⟨.inl ⟨4,rfl,rfl⟩,⟨[],?_⟩,by simp,cZ ⟨dz (by show 0<2;omega) (by show 1<2;omega),bC _ _ _,trivial⟩,trivial⟩⟩
 all_goals (rw [ahs];show [Ob.row _ [[_,SV.sl (0+1) (u+65536) 0 (s.size+(bJ ⟨#[t]⟩).length)]] 2,Ob.row (u+65536) (bJ s++bJ ⟨#[t]⟩) 1]=_;rw [bV, <- mY, <- ByteArray.size_append];rfl)
theorem acJ (u:Nat) (s:ByteArray) (hu:u%65536=5) (h0:0<s.size) (hs:s.size<=100000000000000):Run Tryz.prog 177 [iY (.ep 0 (173+65536) 0 0) u s 0,iW u s] [.one (.ep 0 (173+65536) 0 0)] [iY (.ep 0 (173+65536) 0 0) u s 0, .dead] (.one (.c (.str s))):=by
 refine bN ay Tryz.func177 rfl rfl Tryz.ntmps177 (by simp) ?_
 simp only [kP]
 unfold iY
 repeat' (first
  | refine st_nil ?_
  | (refine gW rfl rfl rfl rfl rfl (AR rfl rfl h0) ?_)
  | (refine VS rfl rfl rfl rfl rfl (uV rfl rfl rfl hu (bf.kind _ _ rfl) YZ h0 (by omega)) ?_)
  | refine aZ rfl rfl rfl rfl ph_ ?_
  | refine bq rfl rfl rfl rfl ph_ ?_
  | refine sS_ rfl rfl rfl ph_ ?_
  | refine bn rfl rfl rfl rfl ph_ ?_
  | refine aW rfl rfl rfl ?_
  | refine sk0_ rfl rfl ?_
  | (refine bQ rfl (fun hb=>?_) (fun hb=>?_)<;>(first|exact (fx_ hb).elim|rw [hb]))
  | refine aw_seq ?_
  | refine aw_region ay _ rfl ?_
  | refine aw_drawn2 bf _ rfl mixed (by decide +kernel) ?_
  | (refine aU rfl (fun hb=>?_) (fun hb=>?_)<;>(try exact (fx_ hb).elim))
  | refine aw_block ?_
  | refine aw_exit ?_
  | refine aw_ret ?_
  | refine aw_skip ?_)
 all_goals exact ⟨.inr rfl,⟨.inl ⟨2,rfl,rfl⟩,⟨[],rfl⟩,by simp,cZ ⟨dz (by show 0<2;omega) (by show 1<2;omega),trivial,trivial⟩,trivial⟩⟩
theorem abZ:Run Tryz.prog 177 [iY (.c (.nul .ptr)) 5 ⟨#[]⟩ 0,iW 5 ⟨#[]⟩] [.one (.ep 0 (173+65536) 0 0)] [iY (.c (.nul .ptr)) 5 ⟨#[]⟩ 0,iW 5 ⟨#[]⟩] (.one (.c (.str ⟨#[]⟩))):=by
 refine bN ay Tryz.func177 rfl rfl Tryz.ntmps177 (by simp) ?_
 simp only [kP]
 unfold iY
 repeat' (first
  | refine st_nil ?_
  | (refine gW rfl rfl rfl rfl rfl (yX rfl rfl (by decide)) ?_)
  | (refine VS rfl rfl rfl rfl rfl (su rfl rfl) ?_)
  | refine aZ rfl rfl rfl rfl ph_ ?_
  | refine bq rfl rfl rfl rfl ph_ ?_
  | refine sS_ rfl rfl rfl ph_ ?_
  | refine bn rfl rfl rfl rfl ph_ ?_
  | refine aW rfl rfl rfl ?_
  | refine sk0_ rfl rfl ?_
  | (refine bQ rfl (fun hb=>?_) (fun hb=>?_)<;>(first|exact (fx_ hb).elim|rw [hb]))
  | refine aw_seq ?_
  | refine aw_region ay _ rfl ?_
  | refine aw_drawn2 bf _ rfl mixed (by decide +kernel) ?_
  | (refine aU rfl (fun hb=>?_) (fun hb=>?_)<;>(try exact (fx_ hb).elim))
  | refine aw_block ?_
  | refine aw_exit ?_
  | refine aw_ret ?_
  | refine aw_skip ?_)
 all_goals exact ⟨.inr rfl,⟨.inl ⟨2,rfl,rfl⟩,⟨[],rfl⟩,by simp,cZ ⟨dz trivial (by show 1<2;omega),bC _ _ _,trivial⟩,trivial⟩⟩
end Go.Proofs.YtcehmafobkhdbaaGreatDoor
namespace Go.Proofs
open Go.Shelf
def Tryz.laysM171_ren:Go.Shelf.Ren:=⟨fun|171=>175|243=>194|246=>212|283=>219|284=>220|285=>221|286=>222|129=>189|317=>225|318=>226|319=>227|320=>228|337=>229|338=>230|n=>n,fun|3=>3|9=>9|2=>2|4=>4|171=>219|0=>0|53=>193|37=>171|5=>5|173=>221|212=>225|51=>191|20=>20|213=>226|46=>162|232=>227|233=>228|n=>n,fun|17=>1|18=>2|19=>3|n=>n⟩
theorem Tryz.laysM171:Go.Proofs.LaysM.n171 Tryz.prog Tryz.laysM171_ren := {
 mixed:=by kernel_rfl
 f129:=Tryz.func189.trans (congrArg some (by kernel_rfl))
 f171:=Tryz.func175.trans (congrArg some (by kernel_rfl))
 f243:=Tryz.func194.trans (congrArg some (by kernel_rfl))
 f246:=Tryz.func212.trans (congrArg some (by kernel_rfl))
 f283:=Tryz.func219.trans (congrArg some (by kernel_rfl))
 f284:=Tryz.func220.trans (congrArg some (by kernel_rfl))
 f285:=Tryz.func221.trans (congrArg some (by kernel_rfl))
 f286:=Tryz.func222.trans (congrArg some (by kernel_rfl))
 f317:=Tryz.func225.trans (congrArg some (by kernel_rfl))
 f318:=Tryz.func226.trans (congrArg some (by kernel_rfl))
 f319:=Tryz.func227.trans (congrArg some (by kernel_rfl))
 f320:=Tryz.func228.trans (congrArg some (by kernel_rfl))
 f337:=Tryz.func229.trans (congrArg some (by kernel_rfl))
 f338:=Tryz.func230.trans (congrArg some (by kernel_rfl))
 t0:=Tryz.underlying0
 a0:=Tryz.isAgg0
 z0:=Tryz.sizeOf0
 v0:=Tryz.zeroValue0
 t2:=Tryz.underlying2
 a2:=Tryz.isAgg2
 z2:=Tryz.sizeOf2
 v2:=Tryz.zeroValue2
 t3:=Tryz.underlying3
 a3:=Tryz.isAgg3
 z3:=Tryz.sizeOf3
 v3:=Tryz.zeroValue3
 t4:=Tryz.underlying4
 a4:=Tryz.isAgg4
 z4:=Tryz.sizeOf4
 v4:=Tryz.zeroValue4
 t5:=Tryz.underlying5
 a5:=Tryz.isAgg5
 z5:=Tryz.sizeOf5
 v5:=Tryz.zeroValue5
 t9:=Tryz.underlying9
 a9:=Tryz.isAgg9
 z9:=Tryz.sizeOf9
 v9:=Tryz.zeroValue9
 t20:=Tryz.underlying20
 a20:=Tryz.isAgg20
 z20:=Tryz.sizeOf20
 v20:=Tryz.zeroValue20
 t37:=Tryz.underlying171
 a37:=Tryz.isAgg171
 z37:=Tryz.sizeOf171
 v37:=Tryz.zeroValue171
 t46:=Tryz.underlying162
 a46:=Tryz.isAgg162
 z46:=Tryz.sizeOf162
 v46:=Tryz.zeroValue162
 t51:=Tryz.underlying191
 a51:=Tryz.isAgg191
 z51:=Tryz.sizeOf191
 v51:=Tryz.zeroValue191
 t53:=Tryz.underlying193
 a53:=Tryz.isAgg193
 z53:=Tryz.sizeOf193
 v53:=Tryz.zeroValue193
 t171:=Tryz.underlying219
 a171:=Tryz.isAgg219
 z171:=Tryz.sizeOf219
 v171:=Tryz.zeroValue219
 t173:=Tryz.underlying221
 a173:=Tryz.isAgg221
 z173:=Tryz.sizeOf221
 v173:=Tryz.zeroValue221
 t212:=Tryz.underlying225
 a212:=Tryz.isAgg225
 z212:=Tryz.sizeOf225
 v212:=Tryz.zeroValue225
 t213:=Tryz.underlying226
 a213:=Tryz.isAgg226
 z213:=Tryz.sizeOf226
 t232:=Tryz.underlying227
 a232:=Tryz.isAgg227
 z232:=Tryz.sizeOf227
 v232:=Tryz.zeroValue227
 t233:=Tryz.underlying228
 a233:=Tryz.isAgg228
 z233:=Tryz.sizeOf228
 v233:=Tryz.zeroValue228
 g17:=by kernel_rfl
 g18:=by kernel_rfl
 g19:=by kernel_rfl
 i0:=by kernel_rfl
 i2:=by kernel_rfl
 i3:=by kernel_rfl
 i4:=by kernel_rfl
 i5:=by kernel_rfl
 i9:=by kernel_rfl
 i20:=by kernel_rfl
 i37:=by kernel_rfl
 i46:=by kernel_rfl
 i51:=by kernel_rfl
 i53:=by kernel_rfl
 i171:=by kernel_rfl
 i173:=by kernel_rfl
 i212:=by kernel_rfl
 i232:=by kernel_rfl
 i233:=by kernel_rfl
 m17:=by kernel_rfl
 m18:=by kernel_rfl
 m19:=by kernel_rfl }
end Go.Proofs
namespace Go.Proofs.YtcehmafobkhdbaaGreatDoor
open Go.Shelf Go.RowKit Go.Sort Go.Lib
set_option maxHeartbeats 6400000
set_option maxRecDepth 100000
section
variable {P:Program} {ρ:Ren}
def QV (g:Nat) (w:World):Prop := ∀ q,q<20->w.cell? ⟨g,q,none⟩=some (.int .u64 ((10 ^ q:Nat):Int))
theorem QV.alloc {g:Nat} {w:World} (h:QV g w) (o:Obj):QV g (w.alloc o):=fun q hq=>by
 rw [World.cell?_alloc_old]
 ·exact h q hq
 ·exact Nat.ne_of_lt (lt_of_cell (h q hq))
abbrev LF (b:UInt8):Value:=Value.int .u8 (b.toNat:Int)
theorem Sr (L:LaysM.n284 P ρ) (u:Nat) (h1:1<=u) (h2:u<18446744073709551616) (w:World) (hT:QV (ρ.g 17) w) :
  Calls P (ρ.f 284) #[.int .u64 u] w fun e w'=>e = .returned (.int .i64 (Lib.nDigits u))/\w'=w:=by
 have mixed:=L.mixed
 have t53:=L.t53;have a53:=L.a53;have z53:=L.z53;have v53:=L.v53
 have t3:=L.t3;have a3:=L.a3;have z3:=L.z3;have v3:=L.v3
 have t212:=L.t212;have a212:=L.a212;have z212:=L.z212;have v212:=L.v212
 have t0:=L.t0;have a0:=L.a0;have z0:=L.z0;have v0:=L.v0
 have t4:=L.t4;have a4:=L.a4;have z4:=L.z4;have v4:=L.v4
 have e129 : ∀ args w,(callFunc (ρ.f 129) args).run P w = .ok (.enter (ρ.f 129) args) w:=enters_of L.f129 (by kernel_rfl) rfl
 have e317 : ∀ args w,(callFunc (ρ.f 317) args).run P w = .ok (.enter (ρ.f 317) args) w:=enters_of L.f317 (by kernel_rfl) rfl
 have e318 : ∀ args w,(callFunc (ρ.f 318) args).run P w = .ok (.enter (ρ.f 318) args) w:=enters_of L.f318 (by kernel_rfl) rfl
 obtain ⟨hnd,h19⟩:=Lib.numDigits_eq u h1 h2
 have hL:Lib.bitLen u<=64:=Lib.bitLen_le u 64 (ag' _) h2
 have hcell:=hT (Lib.l10 (Lib.bitLen u)) (by omega)
 have hto:((u:Int)).toNat=u:=by omega
 generalize hq:Lib.l10 (Lib.bitLen u)=q at hnd h19 hcell
 generalize hT2:10 ^ q=T at hnd hcell
 have h20:q<20:=by omega
 have Hnd:=Lib.hid hnd
 clear hnd hT
 go_enter L.f284,Body.n284_ntmps ρ
 go_wp2_with (first
  | (go_at_fn (ρ.f 129);refine (Any.bits_Len64 { L with } _ _ (by omega) (by omega)).mono ?_;rintro e w' ⟨rfl,rfl⟩)
  | (go_at_fn (ρ.f 317);refine (Any.internal_strconv_log10Pow2 { L with } _ (by first|exact hL|(rw [hto];exact hL)) _).mono ?_;rintro e w' ⟨rfl,rfl⟩)
  | (go_at_fn (ρ.f 318);refine (Any.internal_strconv_bool2_int { L with } _ _).mono ?_;rintro e w' ⟨rfl,rfl⟩))
 all_goals go_ret
 all_goals (
  refine ⟨?_,rfl⟩
  have hnd:=Hnd.out
  congr 2
  split at hnd<;>simp_all<;>omega)
theorem Qw (L:LaysM.n246 P ρ) (n:Int) (h0 : -9223372036854775808<=n) (h1:n<=9223372036854775807) (w:World) (hT:QV (ρ.g 17) w) :
  Calls P (ρ.f 246) #[.int .i64 n, .int .i64 10] w fun e w'=>e = .returned (.string ⟨(Lib.itoa n).toArray⟩) /\ ∃ k os,w'=grow (w.drewN k) os:=by
 by_cases hs:0<=n/\n<100
 ·obtain ⟨i,rfl⟩ : ∃ i:Nat,n=i:=⟨n.toNat,by omega⟩
  refine (Any.internal_strconv_FormatInt_10_small { L with } i (by omega) w).mono ?_
  rintro e w' ⟨rfl,rfl⟩
  exact ⟨by rw [Lib.itoa_nonneg],0, #[],by simp [World.drewN_zero]⟩
 have mixed:=L.mixed
 have t2:=L.t2;have a2:=L.a2;have z2:=L.z2;have v2:=L.v2
 have t3:=L.t3;have a3:=L.a3;have z3:=L.z3;have v3:=L.v3
 have t9:=L.t9;have a9:=L.a9;have z9:=L.z9;have v9:=L.v9
 have t4:=L.t4;have a4:=L.a4;have z4:=L.z4;have v4:=L.v4
 have t171:=L.t171;have a171:=L.a171;have z171:=L.z171;have v171:=L.v171
 have t0:=L.t0;have a0:=L.a0;have z0:=L.z0;have v0:=L.v0
 have t53:=L.t53;have a53:=L.a53;have z53:=L.z53;have v53:=L.v53
 have t37:=L.t37;have a37:=L.a37;have z37:=L.z37;have v37:=L.v37
 have t5:=L.t5;have a5:=L.a5;have z5:=L.z5;have v5:=L.v5
 have t173:=L.t173;have a173:=L.a173;have z173:=L.z173;have v173:=L.v173
 have e284 : ∀ args w,(callFunc (ρ.f 284) args).run P w = .ok (.enter (ρ.f 284) args) w:=enters_of L.f284 (by kernel_rfl) rfl
 have e285 : ∀ args w,(callFunc (ρ.f 285) args).run P w = .ok (.enter (ρ.f 285) args) w:=enters_of L.f285 (by kernel_rfl) rfl
 obtain ⟨u,hu⟩ : ∃ u:Nat,u=n.natAbs:=⟨_,rfl⟩
 have hu1:1<=u:=by omega
 have hu64:u<18446744073709551616:=by omega
 have hd20:Lib.nDigits u<=20:=by have:=Lib.numDigits_eq u hu1 hu64;split at this<;>omega
 have hb3:Lib.nDigits u<=23:=by omega
 have hal:P.arrayLen (ρ.t 171)=24:=by simp [Program.arrayLen,L.t171]
 have hel:P.underlying (ρ.t 171)=some (.array (P.arrayLen (ρ.t 171)) (P.elem (ρ.t 171))):=by simp [Program.arrayLen,Program.elem,L.t171]
 have hsl1 : ∀ W,(Instr.sliceAt (ρ.t 171) (.pointer (some ⟨w.heap.size,0,none⟩)) (some (.int .i64 1)) (some (.int .i64 (1+(Lib.nDigits u:Int)))) none).run P W = .ok (.slice (some ⟨w.heap.size,1,none⟩) (Lib.nDigits u) 23) W:=fun W=>by
  rw [run_sliceAt_array_lh W (ρ.t 171) ⟨w.heap.size,0,none⟩ hel .i64 .i64 1 (1+(Lib.nDigits u:Int)) (by omega) (by omega) (by rw [hal];omega)]
  go_simp
  omega
 have hsl2 : ∀ W,(Instr.sliceAt (ρ.t 171) (.pointer (some ⟨w.heap.size,0,none⟩)) none (some (.int .i64 (1+(Lib.nDigits u:Int)))) none).run P W = .ok (.slice (some ⟨w.heap.size,0,none⟩) (1+Lib.nDigits u) 24) W:=fun W=>by
  rw [run_sliceAt_array_h W (ρ.t 171) ⟨w.heap.size,0,none⟩ hel .i64 (1+(Lib.nDigits u:Int)) (by omega) (by rw [hal];omega)]
  go_simp
  omega
 have hH0:=Lib.holds_zero w (ρ.t 171) (Lib.nDigits u) (by omega)
 have hfmt:=Any.internal_strconv_formatBase10 { L with } w.heap.size 1 23 u (Array.replicate (Lib.nDigits u) 0) (w.alloc (.cells Lib.zeros24 (ρ.t 171))) hH0 (by rw [Array.size_replicate];exact Lib.lt_pow_nDigits u) hu64 (by rw [Array.size_replicate];omega)
 rw [Array.size_replicate] at hfmt
 have HH0:=Lib.hid hH0
 have hT1:=hT.alloc (.cells Lib.zeros24 (ρ.t 171))
 have hdig:=Sr (ρ:=ρ) { L with } u hu1 hu64 _ hT1
 clear hH0 hT hT1 hal hel
 by_cases hn:n<0
 ·have hw:IntKind.u64.wrap (-IntKind.u64.wrap (-(u:Int)))=(u:Int):=by rw [IntKind.wrap_u64,IntKind.wrap_u64];omega
  obtain rfl:n = -(u:Int):=by omega
  clear hs hu
  go_enter L.f246,Body.n246_ntmps ρ
  go_wp2_with (go_at_fn (ρ.f 284);refine hdig.mono ?_;rintro e w' ⟨rfl,rfl⟩)
  go_at_fn (ρ.f 285)
  refine hfmt.mono ?_
  rintro e w' ⟨rfl,k,v',dk,rfl,hF⟩
  have hc0:((putRow LF (w.alloc (.cells Lib.zeros24 (ρ.t 171))) w.heap.size 1 dk).drewN k).cell? ⟨w.heap.size,0,none⟩=some (.int .u8 0):=by
   rw [World.cell?_drewN,cell?_putRow_other _ _ _ _ _ _ (Or.inr (Or.inl (Nat.zero_lt_one))),World.cell?_alloc_new]
   exact Lib.zeros24_at 0 (by omega)
  have hf0:((putRow LF (w.alloc (.cells Lib.zeros24 (ρ.t 171))) w.heap.size 1 dk).drewN k).frozen? ⟨w.heap.size,0,none⟩=false:=by
   rw [World.frozen?_drewN,frozen?_putRow]
   exact World.frozen?_alloc_new _ _ _ _
  have hcv:(convert (ρ.t 37) (ρ.t 9) (.slice (some ⟨w.heap.size,0,none⟩) (1+Lib.nDigits u) 24)).run P (((putRow LF (w.alloc (.cells Lib.zeros24 (ρ.t 171))) w.heap.size 1 dk).drewN k).setCell ⟨w.heap.size,0,none⟩ (.int .u8 45)) = .ok (.string ⟨(45::Lib.decDigits u).toArray⟩) (((putRow LF (w.alloc (.cells Lib.zeros24 (ρ.t 171))) w.heap.size 1 dk).drewN k).setCell ⟨w.heap.size,0,none⟩ (.int .u8 45)):=by
   have h:=run_convert_bytes_back (P:=P) (((putRow LF (w.alloc (.cells Lib.zeros24 (ρ.t 171))) w.heap.size 1 dk).drewN k).setCell ⟨w.heap.size,0,none⟩ (.int .u8 45)) (ρ.t 37) (ρ.t 9) (ρ.t 5) ⟨w.heap.size,0,none⟩ 24 (45::Lib.decDigits u) L.t37 L.t5 L.t9 (fun j hj=>by
    rw [Lib.add_plain]
    cases j with
    | zero=>exact World.cell?_setCell_same _ _ _ hc0
    | succ i =>
     have hi:i<(Lib.decDigits u).length:=by simpa using hj
     rw [World.cell?_setCell_other _ _ _ _ (by simp),List.getElem_cons_succ,Lib.row_is_numeral hF i hi,World.cell?_drewN,show 0+(i+1)=1+i by omega]
     exact cell?_putRow LF _ w.heap.size 1 _ dk HH0.out (by rw [hF.size,Array.size_replicate]) i (by rw [hF.size];rw [Lib.decDigits_length] at hi;exact hi))
   rw [ahf,Lib.decDigits_length,Nat.add_comm] at h
   exact h
  go_wp2
  go_ret
  obtain ⟨os,eo⟩:=Lib.fin_neg w (.cells Lib.zeros24 (ρ.t 171)) dk k (.int .u8 45)
  exact ⟨by rw [Lib.itoa_neg u hu1];rfl,k,os,eo⟩
 ·obtain rfl:n=(u:Int):=by omega
  clear hu hsl2
  go_enter L.f246,Body.n246_ntmps ρ
  go_wp2_with (go_at_fn (ρ.f 284);refine hdig.mono ?_;rintro e w' ⟨rfl,rfl⟩)
  go_at_fn (ρ.f 285)
  refine hfmt.mono ?_
  rintro e w' ⟨rfl,k,v',dk,rfl,hF⟩
  have hcv:(convert (ρ.t 37) (ρ.t 9) (.slice (some ⟨w.heap.size,1,none⟩) (Lib.nDigits u) 23)).run P ((putRow LF (w.alloc (.cells Lib.zeros24 (ρ.t 171))) w.heap.size 1 dk).drewN k) = .ok (.string ⟨(Lib.decDigits u).toArray⟩) ((putRow LF (w.alloc (.cells Lib.zeros24 (ρ.t 171))) w.heap.size 1 dk).drewN k):=by
   have h:=run_convert_bytes_back (P:=P) ((putRow LF (w.alloc (.cells Lib.zeros24 (ρ.t 171))) w.heap.size 1 dk).drewN k) (ρ.t 37) (ρ.t 9) (ρ.t 5) ⟨w.heap.size,1,none⟩ 23 (Lib.decDigits u) L.t37 L.t5 L.t9 (fun j hj=>by
    rw [Lib.row_is_numeral hF j hj,Lib.add_plain,World.cell?_drewN]
    exact cell?_putRow LF _ w.heap.size 1 _ dk HH0.out (by rw [hF.size,Array.size_replicate]) j (by rw [hF.size];rw [Lib.decDigits_length] at hj;exact hj))
   rw [Lib.decDigits_length] at h
   exact h
  go_wp2
  go_ret
  obtain ⟨os,eo⟩:=Lib.fin_pos w (.cells Lib.zeros24 (ρ.t 171)) dk k
  exact ⟨by rw [Lib.itoa_nonneg];rfl,k,os,eo⟩
theorem abH (L:LaysM.n243 P ρ) (n:Int) (h0 : -9223372036854775808<=n) (h1:n<=9223372036854775807) (w:World) (hT:QV (ρ.g 17) w) :
  Calls P (ρ.f 243) #[.int .i64 n] w fun e w'=>e = .returned (.string ⟨(Lib.itoa n).toArray⟩) /\ ∃ k os,w'=grow (w.drewN k) os:=by
 have mixed:=L.mixed
 have t3:=L.t3;have a3:=L.a3;have z3:=L.z3;have v3:=L.v3
 have t9:=L.t9;have a9:=L.a9;have z9:=L.z9;have v9:=L.v9
 have e246 : ∀ args w,(callFunc (ρ.f 246) args).run P w = .ok (.enter (ρ.f 246) args) w:=enters_of L.f246 (by kernel_rfl) rfl
 have hf:=Qw (ρ:=ρ) { L with } n h0 h1 w hT
 go_enter L.f243,Body.n243_ntmps ρ
 go_wp2_with (go_at_fn (ρ.f 246);refine hf.mono ?_;rintro e w' ⟨rfl,k,os,rfl⟩)
 go_ret
 exact ⟨rfl,k,os,rfl⟩
theorem aep (L:LaysM.n171 P ρ) (n:Int) (h0 : -9223372036854775808<=n) (h1:n<=9223372036854775807) (w:World) (hT:QV (ρ.g 17) w) :
  Calls P (ρ.f 171) #[.int .i64 n] w fun e w'=>e = .returned (.string ⟨(Lib.itoa n).toArray⟩) /\ ∃ k os,w'=grow (w.drewN k) os:=by
 have mixed:=L.mixed
 have t3:=L.t3;have a3:=L.a3;have z3:=L.z3;have v3:=L.v3
 have t9:=L.t9;have a9:=L.a9;have z9:=L.z9;have v9:=L.v9
 have e243 : ∀ args w,(callFunc (ρ.f 243) args).run P w = .ok (.enter (ρ.f 243) args) w:=enters_of L.f243 (by kernel_rfl) rfl
 have hf:=abH (ρ:=ρ) { L with } n h0 h1 w hT
 go_enter L.f171,Body.n171_ntmps ρ
 go_wp2_with (go_at_fn (ρ.f 243);refine hf.mono ?_;rintro e w' ⟨rfl,k,os,rfl⟩)
 go_ret
 exact ⟨rfl,k,os,rfl⟩
end
def nu (n:Int):ByteArray:=⟨(Lib.itoa n).toArray⟩
theorem Ri (R:PH) (w:World) (k:Nat) (os:Array Obj):Ext (· < w.heap.size) R R w (grow (w.drewN k) os):=by
 exact ⟨Kept.of (Lib.below_grow _ w (ag' _) k os),PH.sub_refl _,fun _ _ _=>rfl⟩
theorem XB (n:Int) (h0 : -9223372036854775808<=n) (h1:n<=9223372036854775807):Pure Tryz.prog 175 [.one (.int .i64 n)] (.val (.one (.str (nu n)))):=by
 refine ⟨⟨_,Tryz.func175,by kernel_rfl,by kernel_rfl⟩,fun R w vs hR hs hv=>?_⟩
 obtain ⟨v,rfl⟩ : ∃ v,vs = #[v]:=by
  match vs,hs with
  | ⟨[v]⟩,_=>exact ⟨v,rfl⟩
 have:=hv 0 v _ rfl rfl
 cases this
 have hT:QV (Tryz.laysM171_ren.g 17) w:=fun q hq=>hR _ _ _ (R.tab q _ (by unfold rX;rw [if_pos hq];norm_cast))
 refine (show Calls Tryz.prog 175 #[.int .i64 n] w _ from aep Tryz.laysM171 n h0 h1 w hT).mono ?_
 rintro e w' ⟨rfl,k,os,rfl⟩
 refine ⟨_,R,rfl,Ri R w k os,fun b o u h=>?_, .str _⟩
 have h1:=hR b o u h
 rw [<- h1];unfold World.cell?
 rw [show (grow (w.drewN k) os).heap[b]?=w.heap[b]? from (Ri R w k os).below.block b (lt_of_cell h1)]
end Go.Proofs.YtcehmafobkhdbaaGreatDoor
